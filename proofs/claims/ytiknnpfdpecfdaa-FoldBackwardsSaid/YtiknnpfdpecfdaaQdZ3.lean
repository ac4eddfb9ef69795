/- The declarations of Z3 that the claim Qd needs. -/
import Derived.Test.YtiknnpfdpecfdaaQdFm
namespace Go.Proofs.Ytiknnpfdpecfdaa.Own
open Go Go.RowKit Go.Proofs Go.Proofs.YtiknnpfdpecfdaaW.PrintWords Go.Proofs.YtiknnpfdpecfdaaW.PrintLast Go.Proofs.YtiknnpfdpecfdaaW.PrintMore
set_option linter.unusedVariables false
set_option linter.unusedSimpArgs false
theorem zeroCells_size (v : Value) (n : Nat) : (Builtin.zeroCells #[v] n).size = n := by simp [Builtin.zeroCells]
set_option maxRecDepth 100000 in
set_option maxHeartbeats 4000000 in
theorem grow91 (n : Nat) (h1 : 1 ≤ n) (hn : n < 1024) (w : World) :
  Calls Try.prog 91 #[.slice none 0 0, .int .i64 (n : Int)] w fun e w' => ∃ g C, e = .returned (.slice (some ⟨g, 0, none⟩) 0 C) ∧ Kd.R (Kd.int .i64) 3 w' w.heap.size (fun _ => True) (.slice (some ⟨g, 0, none⟩) ([] : List Int).length C) [] ∧ Below w.heap.size w w' := by
 go_enter Try.func91, Try.ntmps91
 have h2 : (n : Int) < 1024 := by omega
 have h3 : 1 ≤ (n : Int) := by omega
 have hby : Try.t3.bytes = 8 := by kernel_rfl
 have hns : Builtin.nextslicecap n 0 = n := by unfold Builtin.nextslicecap; rw [if_pos (by omega)]
 have HBY := Aside0.mk hby
 have HNS := Aside0.mk hns
 have H3 := Aside0.mk (And.intro h1 hn)
 clear hby hns
 go_wp2
 all_goals first
  | (exfalso; have h4 := HBY.out; have h5 := HNS.out; have h6 := H3.out; simp only [h4, h5] at *; omega)
  | skip
 all_goals
  go_ret
  obtain ⟨C, hC⟩ : ∃ C, (Question.appendCap n 0 3).cut (w.tape w.drawn (Question.appendCap n 0 3)) = C := ⟨_, rfl⟩
  have hC1 : n ≤ C ∧ C ≤ maxLen := by
   rw [← hC]
   generalize w.tape w.drawn (Question.appendCap n 0 3) = z
   show n ≤ n + z % (2 ^ 63 - n) ∧ n + z % (2 ^ 63 - n) ≤ 2 ^ 63 - 1
   have h5 := H3.out
   have h6 : z % (2 ^ 63 - n) < 2 ^ 63 - n := Nat.mod_lt _ (by omega)
   omega
  rw [hC]
  refine ⟨w.heap.size, C, rfl, Kd.R_of_own (enc := Value.int .i64) ⟨rfl, .inr ⟨w.heap.size, C, _, rfl, Nat.le_refl _, Go.Deep.blk_alloc_new _ _, Nat.zero_le _, hC1.2, ?_, by rfl⟩⟩ (fun _ _ => trivial), ?_⟩
  ·rw [Array.size_append, zeroCells_size, zeroCells_size]; omega
  ·exact below_drew1 (below_alloc (Below.refl _ _) _)
end Go.Proofs.Ytiknnpfdpecfdaa.Own
namespace Go.Proofs.Ytiknnpfdpecfdaa.Own
open Go Go.RowKit Go.Proofs Go.Proofs.YtiknnpfdpecfdaaW.PrintWords Go.Proofs.YtiknnpfdpecfdaaW.PrintLast Go.Proofs.YtiknnpfdpecfdaaW.PrintMore
set_option linter.unusedVariables false
set_option linter.unusedSimpArgs false
def fold_Concat.f (l : List (List Int)) : Option (List Int) := if 1 ≤ l.flatten.length ∧ l.flatten.length < 1024 ∧ l.length < 1024 then some l.flatten else none
theorem flat_take (l : List (List Int)) (i : Nat) (h : i < l.length) : (l.take (i + 1)).flatten = (l.take i).flatten ++ l[i] := by
  rw [List.take_succ_eq_append_getElem h, List.flatten_append]
  simp
theorem flat_take_le (l : List (List Int)) (i : Nat) : (l.take i).flatten.length ≤ l.flatten.length := by
 have h := congrArg (fun z => (List.flatten z).length) (List.take_append_drop i l)
 simp only [List.flatten_append, List.length_append] at h
 omega
set_option maxRecDepth 100000 in
set_option maxHeartbeats 4000000 in
theorem fold_Concat.calls (A0 : Option Addr) (c0 : Nat) (l0 : List (List Int)) (r : List Int) (w : World) (hr0 : Kd.C (Kd.slice 3 (Kd.int .i64)) w A0 l0.length l0) (hc0 : l0.length ≤ c0) (h : fold_Concat.f l0 = some r) :
    Calls Try.prog 76 #[.slice A0 l0.length c0] w fun e w' => ∃ v0_ : Value, e = .returned v0_ ∧ Kd.R (Kd.int .i64) 3 w' w.heap.size (fun _ => True) v0_ r ∧ Below w.heap.size w w' := by
  unfold fold_Concat.f at h
  split at h
  · rename_i hb
    obtain rfl := Option.some.inj h
    obtain ⟨n, hn⟩ : ∃ n, l0.flatten.length = n := ⟨_, rfl⟩
    have H0 := Aside0.mk hr0
    have HB := Aside0.mk (show 1 ≤ n ∧ n < 1024 ∧ l0.length < 1024 by rw [← hn]; exact hb)
    have HN := Aside0.mk hn
    have HG := Aside0.mk (fun V => grow91 n (by omega) (by omega) V)
    clear hr0 hc0 h hb hn
    go_enter Try.func76, Try.ntmps76
    go_wp2
    go_loopw [3, 5, 11] (fun v3 v5 v11 wr => ∃ i s : Nat, v11 = .int .i64 (i : Int) ∧ v3 = .int .i64 (s : Int) ∧ i ≤ l0.length ∧ Aside0 (s = (l0.take i).flatten.length) ∧ Aside0 (w = wr)) (fun v3 v5 v11 _ => l0.length - (intOf v11).toNat)
    case atStart => exact ⟨0, 0, by first | rfl | simp, by first | rfl | simp, Nat.zero_le _, ⟨by simp⟩, ⟨rfl⟩⟩
    case round =>
      obtain ⟨i, s, rfl, rfl, hi, HS, HW⟩ := hrel
      obtain rfl := HW.out
      have h1024 : (l0.length : Int) < 1024 := by have := HB.out.2.2; omega
      by_cases hin : i < l0.length
      · obtain ⟨ad, A1, c1, rfl, hx, hl, hC⟩ := at_L1 H0.out (i : Int) (by omega) (by omega)
        have hrd : rd_L1 l0 (i : Int) = l0[i] := by simp [rd_L1, hin]
        rw [hrd, Int.toNat_natCast] at hx
        have hft := flat_take l0 i hin
        have hle := flat_take_le l0 (i + 1)
        obtain ⟨k, hk⟩ : ∃ k, l0[i].length = k := ⟨_, rfl⟩
        rw [hk] at hx
        rw [hft, List.length_append, hk, ← HS.out, HN.out] at hle
        have hsk : ((s : Int) + k) < 1024 := by have := HB.out; omega
        have hsk2 : ¬ ((s : Int) + k < 0) := by omega
        have HSK := Aside0.mk (show s + k = (l0.take (i + 1)).flatten.length by rw [hft, List.length_append, hk, HS.out])
        clear hft hle hk hrd hl hC
        go_wp2
        refine ⟨⟨i + 1, s + k, by simp, by simp, by omega, HSK, by first | exact ⟨rfl⟩ | exact ⟨trivial⟩⟩, ?_⟩
        show l0.length - ((i : Int) + 1).toNat < l0.length - (i : Int).toNat
        omega
      · obtain rfl : i = l0.length := by omega
        have hsn : s = n := by rw [HS.out, List.take_length, HN.out]
        subst hsn
        clear HS
        go_wp2_with (go_at_call 91; refine (HG.out _).mono ?_; rintro e w2 ⟨g, C, rfl, hr2, hb2⟩)
        have HR2 := Aside0.mk hr2
        have HB2 := Aside0.mk hb2
        clear hr2 hb2
        go_loopw [6, 8, 27] (fun v6 v8 v27 wr => ∃ i : Nat, v27 = .int .i64 (i : Int) ∧ i ≤ l0.length ∧ Aside0 (Kd.R (Kd.int .i64) 3 wr w.heap.size (fun _ => True) v6 (l0.take i).flatten) ∧ Aside0 (Below w.heap.size w wr)) (fun v6 v8 v27 _ => l0.length - (intOf v27).toNat)
        case atStart => exact ⟨0, by first | rfl | simp, Nat.zero_le _, ⟨by simpa using HR2.out⟩, HB2⟩
        case round =>
          obtain ⟨i, rfl, hi, HR, HBr⟩ := hrel
          by_cases hin : i < l0.length
          · obtain ⟨ad, A1, c1, rfl, hx, hl, hC⟩ := at_L1 H0.out (i : Int) (by omega) (by omega)
            have hrd : rd_L1 l0 (i : Int) = l0[i] := by simp [rd_L1, hin]
            rw [hrd, Int.toNat_natCast] at hx
            rw [hrd] at hC
            have hft := flat_take l0 i hin
            have hle := flat_take_le l0 (i + 1)
            rw [hft, List.length_append, HN.out] at hle
            obtain ⟨xs, hxs⟩ : ∃ xs, (l0.take i).flatten = xs := ⟨_, rfl⟩
            obtain ⟨ys, hys⟩ : ∃ ys, l0[i] = ys := ⟨_, rfl⟩
            rw [hys] at hx hC
            rw [hxs, hys] at hle hft
            rw [hxs] at HR
            have hx2 := mv HBr.out hx
            have HC := Aside0.mk (Kd.C_below hC HBr.out)
            have HL := Aside0.mk hle
            have HFT := Aside0.mk hft
            clear hrd hl hC hle hx hft hxs hys
            obtain ⟨A6, c6, hv6⟩ := Kd.R_slice HR.out
            subst hv6
            go_wp2_with (first
              | ((with_reducible refine gate_builtin (b := .append) (xs := #[.tmp 31, .tmp 32]) rfl ?_); at_builtin; refine Kd.R_append_rows (Kd.int .i64) (w0 := w) w.heap.size rfl (.tmp 31) (.tmp 32) 22 3 (.int .i64 0) 8 rfl Try.underlying22 info3 rfl (by decide) (by omega) (.slice A6 xs.length c6) xs ys _ _ _ (fun _ => True) (fun _ => False) rfl rfl ?aO ?aR (fun _ _ h => h) (fun _ h => h.elim) ?aF ?aB ?aS ?aL ?_;
                 (case aO => exact HR.out); (case aR => exact HC.out); (case aF => exact (fun _ _ => trivial)); (case aB => exact HBr.out); (case aS => exact HBr.out.size); (case aL => have := HL.out; have := HB.out; omega); intro v1 w5 ho5 hb5 hg5 hat5; have HO5 := Aside0.mk ho5; have HB5 := Aside0.mk hb5; clear ho5 hb5 hg5 hat5))
            exact ⟨⟨i + 1, by first | exact up2 (by have := HB.out; omega) hin | simp, by omega, ⟨by rw [HFT.out]; exact HO5.out⟩, HB5⟩, by first | exact up2m (by have := HB.out; omega) hin | (show l0.length - ((i : Int) + 1).toNat < l0.length - (i : Int).toNat; omega)⟩
          · obtain rfl : i = l0.length := by omega
            rw [List.take_length] at HR
            go_wp2
            go_ret
            exact ⟨_, rfl, HR.out, HBr.out⟩
  · cases h
end Go.Proofs.Ytiknnpfdpecfdaa.Own
