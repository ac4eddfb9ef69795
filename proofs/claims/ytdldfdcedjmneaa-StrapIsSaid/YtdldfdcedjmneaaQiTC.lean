/- The declarations of TC that the claim Qi needs. -/
import Derived.Test.YtdldfdcedjmneaaQiB7
namespace Go.Proofs.Ytdldfdcedjmneaa.Own
open Go.RowKit Go.Proofs.YtdldfdcedjmneaaW.PrintWords Go.Proofs.YtdldfdcedjmneaaW.PrintLast Go.Proofs.YtdldfdcedjmneaaW.PrintMore Go.Proofs.Ytdldfdcedjmneaa.Pb Go.Proofs.Ytdldfdcedjmneaa.Br
set_option linter.unusedVariables false
set_option linter.unusedSimpArgs false
/-- What Clone hands back. -/
def Cloned (w : World) (xs : List Int) (e : Ending) (w' : World) : Prop := ∃ v : Value, e = .returned v ∧ Kd.R (Kd.int .i64) 3 w' w.heap.size (fun _ => True) v xs ∧ Below w.heap.size w w'
set_option maxHeartbeats 2000000 in
theorem f89_any (A : Option Addr) (c : Nat) (xs : List Int) (w : World) (hr : Kd.C (Kd.int .i64) w A xs.length xs) (hc : xs.length ≤ c) (hl : xs.length * 8 ≤ 140737488355328) :
  Calls Try.prog 89 #[.slice A xs.length c] w (Cloned w xs) := by
 have HR := Aside0.mk hr
 have HC := Aside0.mk hc
 have HLn := Aside0.mk hl
 clear hr hc hl
 cases A with
 | none =>
  have h0 : xs = [] := by
   have := HR.out.2.2
   cases xs with
   | nil => rfl
   | cons x xs => obtain ⟨ad, h, _⟩ := this (by simp); cases h
  subst h0
  have he := fun W : World => Lib.run_eql_slice_nil (P := Try.prog) W 22 3 none 0 c 0 0 Try.underlying22
  go_enter Try.func89, Try.ntmps89
  go_wp2
  go_ret
  exact ⟨_, rfl, Kd.R_nil _ _ _ _ _, Below.refl _ _⟩
 | some ad =>
  have he := fun W : World => Lib.run_eql_slice_nil (P := Try.prog) W 22 3 (some ad) xs.length c 0 0 Try.underlying22
  obtain ⟨y0, hy0⟩ : ∃ y_ : List Int, y_ = ([] : List Int) := ⟨_, rfl⟩
  have Ny0 := Aside0.mk hy0
  clear hy0
  have HB := Aside0.mk (Below.refl w.heap.size w)
  go_enter Try.func89, Try.ntmps89
  go_wp2_with (first | ((with_reducible refine gate_dst (N := 5) rfl ?_); refine Kd.R_lit (Kd.int .i64) _ 3 ?hg (N := 5) ?hd (xs := ([] : List Int)) (inner := []) (ok := fun _ => True) (okp := fun _ => True) ?hr ?hp (fun _ hk => hk) trivial (Below.refl _ _) (Nat.le_refl _) (by simp) ?_; (case hd => rfl); (case hg => rfl); (case hr => first | (go_simp; done) | (go_simp; rfl)); (case hp => exact (Reps.none _ _)); intro v102 w7 ho8 hb hg_ hnew_; clear hg_ hnew_; (first | rw [← Ny0.out] at ho8 | (simp only [Int.reduceToNat] at ho8; rw [← Ny0.out] at ho8)); have HO103 := Aside0.mk ho8; have n1_ := Aside0.mk (below_step HB.out hb); clear HB; have HB := n1_; clear n1_ hb ho8) | ((with_reducible refine gate_builtin (b := .append) (xs := #[.tmp 5, .tmp 6]) rfl ?_); at_builtin; refine Kd.R_append_rows (Kd.int .i64) (w0 := w) w.heap.size rfl (.tmp 5) (.tmp 6) 22 3 (.int .i64 0) 8 rfl Try.underlying22 info3 rfl (by decide) (by omega) v102 y0 xs _ _ _ (fun _ => True) (fun _ => False) rfl rfl ?aO ?aR (fun _ _ h => h) (fun _ h => h.elim) ?aF ?aB ?aS ?aL ?_; (case aR => exact (Kd.C_below HR.out HB.out)); (case aB => exact HB.out); (case aF => exact (fun _ _ => trivial)); (case aO => exact HO103.out); (case aS => exact below_size HB.out); (case aL => have h1 := HLn.out; have h2 := Ny0.out; subst h2; simp only [List.length_nil]; omega); intro v106 w10 ho hb hg hat; have HO107 := Aside0.mk ho; have n0_ := Aside0.mk hb; clear HB; have HB := n0_; clear n0_ ho hb hg hat))
  go_ret
  refine ⟨_, rfl, ?_, HB.out⟩
  have h := HO107.out
  rw [Ny0.out, List.nil_append] at h
  exact h
/-- The first place that holds no 0; -1: there is none. -/
def firstNz : List Int → Int
  | [] => -1
  | x :: xs => if x ≠ 0 then 0 else if firstNz xs < 0 then -1 else firstNz xs + 1
theorem f88_any (x : Int) (w : World) : Calls Try.prog 88 #[.int .i64 x] w fun e w' => e = .returned (.bool (x != 0)) ∧ w' = w := by
 go_enter Try.func88, Try.ntmps88
 go_wp2
 go_ret
 exact ⟨rfl, rfl⟩
theorem firstNz_zero {xs : List Int} (h : ∀ x ∈ xs, x = 0) : firstNz xs = -1 := by
 induction xs with
 | nil => rfl
 | cons x xs ih =>
  unfold firstNz
  rw [if_neg (by simp [h x (List.mem_cons_self)]), ih (fun y hy => h y (List.mem_cons_of_mem _ hy)), if_pos (by decide)]
theorem firstNz_at {xs : List Int} {i : Nat} (hi : i < xs.length) (h : ∀ j, j < i → xs.getD j 0 = 0) (hx : xs.getD i 0 ≠ 0) : firstNz xs = (i : Int) := by
 induction xs generalizing i with
 | nil => cases hi
 | cons x xs ih =>
  unfold firstNz
  cases i with
  | zero => rw [if_pos (by simpa using hx)]; rfl
  | succ i =>
   have h0 : x = 0 := by simpa using h 0 (by omega)
   have h1 := ih (i := i) (by simpa using hi) (fun j hj => by simpa using h (j + 1) (by omega)) (by simpa using hx)
   rw [if_neg (by simp [h0]), h1, if_neg (by omega)]
   rfl
set_option maxHeartbeats 2000000 in
theorem f87_any (A : Option Addr) (c : Nat) (xs : List Int) (w : World) (hr : Kd.C (Kd.int .i64) w A xs.length xs) (hl : xs.length ≤ 1000000) :
    Calls Try.prog 87 #[.slice A xs.length c, .func (.func 88) #[] #[]] w fun e w' => e = .returned (.int .i64 (firstNz xs)) ∧ w' = w := by
  have HR := Aside0.mk hr
  clear hr
  go_enter Try.func87, Try.ntmps87
  go_wp2
  go_loopg [8] xs.length (fun kq s8 wr => ∃ i : Nat, s8 = .int .i64 i ∧ i ≤ xs.length ∧ xs.length - i ≤ kq ∧ Aside0 (wr = w) ∧ Aside0 (∀ j, j < i → xs.getD j 0 = 0))
  case atStart => exact ⟨0, rfl, Nat.zero_le _, by omega, ⟨rfl⟩, ⟨fun j hj => by omega⟩⟩
  case round =>
    obtain ⟨i, rfl, hi, hgg, HW, HZ⟩ := hrel
    obtain rfl := HW.out
    clear HW
    by_cases hlt : i < xs.length
    · obtain ⟨ad, rfl, hcw⟩ := Kd.at_int HR.out (i : Int) (by omega) (by omega)
      rw [Int.toNat_natCast, rd_nat] at hcw
      obtain ⟨x, hx⟩ : ∃ x, xs.getD i 0 = x := ⟨_, rfl⟩
      rw [hx] at hcw
      have HX := Aside0.mk hx
      have hix : (i : Int) < (xs.length : Int) := by omega
      have hi0 : (0 : Int) ≤ (i : Int) := by omega
      clear hx
      have h88 := f88_any x wr
      by_cases h0 : x = 0
      · have hb : (x != 0) = false := by rw [h0]; rfl
        rw [hb] at h88
        have H0 := Aside0.mk h0
        clear h0 hb
        go_wp2_with (go_at_call 88; (with_reducible refine h88.mono ?_); rintro e w' ⟨rfl, rfl⟩)
        go_roundg (xs.length - (i + 1))
        case measure => omega
        case rel =>
          refine ⟨i + 1, by go_num, by omega, Nat.le_refl _, ⟨rfl⟩, ⟨fun j hj => ?_⟩⟩
          by_cases e : j = i
          · rw [e, HX.out, H0.out]
          · exact HZ.out j (by omega)
      · have hb : (x != 0) = true := by simpa using h0
        rw [hb] at h88
        have H0 := Aside0.mk h0
        clear h0 hb
        go_wp2_with (go_at_call 88; (with_reducible refine h88.mono ?_); rintro e w' ⟨rfl, rfl⟩)
        go_ret
        exact ⟨ret_int (firstNz_at hlt HZ.out (by rw [HX.out]; exact H0.out)).symm, rfl⟩
    · have HN : Aside0 (firstNz xs = -1) := ⟨firstNz_zero fun x hx => by
        obtain ⟨j, hj, rfl⟩ := List.getElem_of_mem hx
        have := HZ.out j (by omega)
        rw [List.getD_eq_getElem?_getD, List.getElem?_eq_getElem hj] at this
        exact this⟩
      go_wp2
      go_ret
      exact ⟨ret_int HN.out.symm, rfl⟩
end Go.Proofs.Ytdldfdcedjmneaa.Own
namespace Go.Proofs.Ytdldfdcedjmneaa.Own
open Go.RowKit Go.Proofs.YtdldfdcedjmneaaW.PrintWords Go.Proofs.YtdldfdcedjmneaaW.PrintLast Go.Proofs.YtdldfdcedjmneaaW.PrintMore Go.Proofs.Ytdldfdcedjmneaa.Pb Go.Proofs.Ytdldfdcedjmneaa.Br
set_option linter.unusedVariables false
set_option linter.unusedSimpArgs false
/-- How many numbers there are up to the last one that is no 0. -/
def lastNz : List Int → Nat
  | [] => 0
  | x :: xs => if lastNz xs = 0 then (if x = 0 then 0 else 1) else lastNz xs + 1
theorem lastNz_zero {xs : List Int} (h : ∀ j, xs.getD j 0 = 0) : lastNz xs = 0 := by
 induction xs with
 | nil => rfl
 | cons x xs ih =>
  unfold lastNz
  have h0 : x = 0 := by simpa using h 0
  rw [if_pos (ih fun j => by simpa using h (j + 1)), if_pos h0]
theorem lastNz_at {xs : List Int} {l : Nat} (h1 : xs.getD l 0 ≠ 0) (h2 : ∀ j, l < j → xs.getD j 0 = 0) : lastNz xs = l + 1 := by
 induction xs generalizing l with
 | nil => exact absurd (by simp) h1
 | cons x xs ih =>
  unfold lastNz
  cases l with
  | zero =>
   have h0 : ¬ x = 0 := by simpa using h1
   rw [if_pos (lastNz_zero fun j => by simpa using h2 (j + 1) (by omega)), if_neg h0]
  | succ l =>
   have h3 := ih (l := l) (by simpa using h1) (fun j hj => by simpa using h2 (j + 1) (by omega))
   rw [if_neg (by omega), h3]
theorem firstNz_pos {xs : List Int} (h : ¬ firstNz xs < 0) : ∃ i : Nat, firstNz xs = (i : Int) ∧ i < xs.length ∧ xs.getD i 0 ≠ 0 ∧ ∀ j, j < i → xs.getD j 0 = 0 := by
 induction xs with
 | nil => exact absurd (by decide) h
 | cons x xs ih =>
  unfold firstNz at h ⊢
  by_cases hx : x ≠ 0
  ·rw [if_pos hx]
   exact ⟨0, rfl, by simp, by simpa using hx, fun j hj => by omega⟩
  ·rw [if_neg hx] at h ⊢
   by_cases h2 : firstNz xs < 0
   ·rw [if_pos h2] at h; omega
   ·obtain ⟨i, h3, h4, h5, h6⟩ := ih h2
    rw [if_neg h2]
    refine ⟨i + 1, by rw [h3]; rfl, by simpa using h4, by simpa using h5, fun j hj => ?_⟩
    cases j with
    | zero => simpa using hx
    | succ j => simpa using h6 j (by omega)
/-- A polynomial as it is told. -/
def laurentF (p : Po) : Po := if firstNz p.2 < 0 then (0, []) else (p.1 + firstNz p.2, (p.2.take (lastNz p.2)).drop (firstNz p.2).toNat)
theorem info22x : ∃ i, Try.prog.info? 3 = some i ∧ i.size = 1 := by
 have h := info3
 obtain ⟨i, hi, hz⟩ := Option.map_eq_some_iff.1 h
 simp only [Prod.mk.injEq] at hz
 exact ⟨i, hi, hz.2.1⟩
set_option maxRecDepth 100000 in
set_option maxHeartbeats 4000000 in
theorem f66_any {B : Nat} {R : Int} {p : Po} {u : Value} (w : World) (hu : Rw w B u p.2) (hp : Rg R p) (hR : R ≤ 100000) :
  Calls Try.prog 66 #[.agg #[.int .i64 p.1, u]] w fun e w' => ∃ z, e = .returned (.agg #[.int .i64 (laurentF p).1, z]) ∧ Kd.R (Kd.int .i64) 3 w' w.heap.size (fun _ => True) z (laurentF p).2 ∧ Below w.heap.size w w' := by
 obtain ⟨lo, xs⟩ := p
 have a1 := hp.lo
 have a2 := hp.hi
 dsimp only at hu a1 a2 ⊢
 obtain ⟨A, c, rfl, hlc, hC⟩ := Kd.R_reads hu
 have HC := Aside0.mk hC
 have hl : xs.length ≤ 200001 := by omega
 have b1 : -100000 ≤ lo := by omega
 have b2 : lo ≤ 100001 := by omega
 clear a1 a2 hp hR hu hC
 obtain ⟨f, hf⟩ : ∃ f, firstNz xs = f := ⟨_, rfl⟩
 have HF := Aside0.mk hf
 have h87 := fun W (h : Kd.C (Kd.int .i64) W A xs.length xs) => f87_any A c xs W h (by omega)
 rw [hf] at h87
 have H87 := Aside0.mk h87
 clear h87
 by_cases h0 : f < 0
 ·have HK : Aside0 (laurentF (lo, xs) = (0, [])) := ⟨by unfold laurentF; dsimp only; rw [hf, if_pos h0]⟩
  rw [HK.out]
  clear hf
  go_enter Try.func66, Try.ntmps66
  go_wp2_with (go_at_call 87; (with_reducible refine (H87.out _ (Kd.C_below HC.out (by repeat (first | exact Below.refl _ _ | apply below_alloc | apply pw_below_drewN)))).mono ?_); rintro e w' ⟨rfl, rfl⟩)
  refine bodyPost_ret (v := .agg #[.int .i64 0, .slice none 0 0]) (by simp [results, Try.results66, go_sem]) rfl ⟨_, rfl, Kd.R_nil _ _ _ _ _, by repeat (first | exact Below.refl _ _ | apply below_alloc | apply pw_below_drewN | (refine below_set ?_ (by simp)))⟩
 ·obtain ⟨i, hi1, hi2, hi3, hi4⟩ := firstNz_pos (by rw [hf]; exact h0)
  rw [hf] at hi1
  subst hi1
  have HK : Aside0 (laurentF (lo, xs) = (lo + (i : Int), (xs.take (lastNz xs)).drop i)) := ⟨by unfold laurentF; dsimp only; rw [HF.out, if_neg (by omega), Int.toNat_natCast]⟩
  have HI3 := Aside0.mk hi3
  have HI4 := Aside0.mk hi4
  rw [HK.out]
  clear hf hi3 hi4 h0
  obtain ⟨W1, hW1⟩ : ∃ W, (w.alloc (.cells #[.int .i64 lo, .slice A xs.length c] 100)).alloc (.cells #[.int .i64 0, .slice none 0 0] 61) = W := ⟨_, rfl⟩
  have x1 : W1.heap[w.heap.size]? = some (.cells #[.int .i64 lo, .slice A xs.length c] 100 (0, 0)) := by rw [← hW1]; exact blk_alloc (heap_alloc_new _ _) _
  have x2 : W1.heap[w.heap.size + 1]? = some (.cells #[.int .i64 0, .slice none 0 0] 61 (0, 0)) := by rw [← hW1, ← size_alloc w (.cells #[.int .i64 lo, .slice A xs.length c] 100)]; exact heap_alloc_new _ _
  have hB1 : Below w.heap.size w W1 := by rw [← hW1]; repeat (first | exact Below.refl _ _ | apply below_alloc)
  have HB1 := Aside0.mk hB1
  have X1 := Aside0.mk x1
  have X2 := Aside0.mk x2
  have HC1 := Aside0.mk (Kd.C_below HC.out hB1)
  have HW1 := Aside0.mk hW1
  clear x1 x2 hB1 hW1
  go_enter Try.func66, Try.ntmps66
  go_upto_region 4 with (go_at_call 87; (with_reducible refine (H87.out _ (Kd.C_below HC.out (by repeat (first | exact Below.refl _ _ | apply below_alloc | apply pw_below_drewN)))).mono ?_); rintro e w' ⟨rfl, rfl⟩)
  rw [HW1.out]
  clear HW1
  obtain ⟨y1, y2⟩ : W1.cell? ⟨w.heap.size, 0, none⟩ = some (.int .i64 lo) ∧ W1.cell? ⟨w.heap.size, 1, none⟩ = some (.slice A xs.length c) := ⟨(blk_cell X1.out 0).trans rfl, (blk_cell X1.out 1).trans rfl⟩
  go_wp2
  clear y1 y2
  go_loopg [4] xs.length (fun kq s4 wr => ∃ m : Nat, s4 = .int .i64 ((m : Int) + 1) ∧ i ≤ m ∧ m < xs.length ∧ m ≤ kq ∧ Aside0 (wr = W1) ∧ Aside0 (∀ j, m < j → xs.getD j 0 = 0))
  case atStart => exact ⟨xs.length - 1, by congr 1; omega, by omega, by omega, by omega, ⟨rfl⟩, ⟨fun j hj => by rw [List.getD_eq_getElem?_getD, List.getElem?_eq_none (by omega)]; rfl⟩⟩
  case round =>
   obtain ⟨m, rfl, hm1, hm2, hgg, HW, HZ⟩ := hrel
   obtain rfl := HW.out
   clear HW
   obtain ⟨y1, y2⟩ : wr.cell? ⟨w.heap.size, 0, none⟩ = some (.int .i64 lo) ∧ wr.cell? ⟨w.heap.size, 1, none⟩ = some (.slice A xs.length c) := ⟨(blk_cell X1.out 0).trans rfl, (blk_cell X1.out 1).trans rfl⟩
   obtain ⟨ad, hA, hcw⟩ := Kd.at_int HC1.out (m : Int) (by omega) (by omega)
   rw [Int.toNat_natCast, rd_nat] at hcw
   obtain ⟨x, hx⟩ : ∃ x, xs.getD m 0 = x := ⟨_, rfl⟩
   rw [hx] at hcw
   have HX := Aside0.mk hx
   have hmx : (m : Int) < (xs.length : Int) := by omega
   have hm0 : (0 : Int) ≤ (m : Int) := by omega
   clear hx
   subst hA
   by_cases h0 : x = 0
   ·have hb : (x == 0) = true := by rw [h0]; rfl
    have H0 := Aside0.mk h0
    clear h0
    go_wp2
    go_roundg (m - 1)
    case measure =>
     have : m ≠ i := fun e => HI3.out (by rw [← e, HX.out, H0.out])
     omega
    case rel =>
     have hne : m ≠ i := fun e => HI3.out (by rw [← e, HX.out, H0.out])
     refine ⟨m - 1, by congr 1; omega, by omega, by omega, by omega, ⟨rfl⟩, ⟨fun j hj => ?_⟩⟩
     by_cases e : j = m
     ·rw [e, HX.out, H0.out]
     ·exact HZ.out j (by omega)
   ·have hb : (x == 0) = false := beq_eq_false_iff_ne.2 h0
    have HLZ : Aside0 (lastNz xs = m + 1) := ⟨lastNz_at (by rw [HX.out]; exact h0) HZ.out⟩
    clear h0
    obtain ⟨A', hrun, hrd, hlm⟩ := print_mid_int (P := Try.prog) 22 3 Try.underlying22 info22x.choose_spec.1 info22x.choose_spec.2 (k := .i64) (some ad) c xs (i : Int) ((m : Int) + 1) (by omega) (by omega) (by omega) hlc
    obtain ⟨zs, hzs⟩ : ∃ z, (xs.take ((m : Int) + 1).toNat).drop (i : Int).toNat = z := ⟨_, rfl⟩
    rw [hzs] at hrun hrd hlm
    obtain ⟨c2, hc2⟩ : ∃ z, c - (i : Int).toNat = z := ⟨_, rfl⟩
    rw [hc2] at hrun hlm
    have HZS : Aside0 ((xs.take (lastNz xs)).drop i = zs) := ⟨by rw [HLZ.out, ← hzs, Int.toNat_natCast]; rfl⟩
    have HZL : Aside0 (zs.length ≤ 200001) := ⟨by rw [← hzs, List.length_drop, List.length_take]; omega⟩
    have HRD := Aside0.mk hrd
    clear hzs hc2 hrd
    go_upto_region 7 with (fail)
    have s1 : IntKind.i64.wrap (lo + (i : Int)) = lo + (i : Int) := IntWalk.i64_in _ (by omega)
    have hS : wr.drew.cell? ⟨w.heap.size, 0, none⟩ = some (.int .i64 lo) ∧ wr.drew.cell? ⟨w.heap.size, 1, none⟩ = some (.slice (some ad) xs.length c) := ⟨y1, y2⟩
    have h89 := f89_any A' c2 zs wr.drew (Kd.C_drewN (Kd.C_of_reads (HRD.out wr (Kd.reads_of_C HC1.out))) 1) hlm (by have := HZL.out; omega)
    clear hcw
    refine wp_region_T 11 (fun w' => w'.cell? ⟨w.heap.size, 0, none⟩ = some (.int .i64 lo) ∧ w'.cell? ⟨w.heap.size, 1, none⟩ = some (.slice (some ad) xs.length c)) (by kernel_rfl) ?_
    refine tk 0 ?_
    refine tk 1 ?_
    refine tk 2 ?_
    refine tk 3 ?_
    refine tk 4 ?_
    refine tk 5 ?_
    refine tk 6 ?_
    refine tk 7 ?_
    refine tk 8 ?_
    refine wpAnyT_one (i := 9) (by kernel_rfl) rfl (fun K hK => ?_)
    go_wp2_with (go_at_call 89; (with_reducible refine h89.mono ?_); rintro e w5 ⟨z5, rfl, hz5, hb5⟩; have HZ5 := Aside0.mk hz5; have HB5 := Aside0.mk hb5; clear hz5 hb5)
    refine hK _ _ (fun _ => ?_) ?_
    ·exact ⟨(blk_cell (blk_below (blk_drewN X1.out 1) HB5.out) 0).trans rfl, (blk_cell (blk_below (blk_drewN X1.out 1) HB5.out) 1).trans rfl⟩
    clear hK K
    (try simp only [Act.put, List.setIfInBounds_toArray, List.set_cons_zero, List.set_cons_succ])
    have hS5 : w5.cell? ⟨w.heap.size, 0, none⟩ = some (.int .i64 lo) ∧ w5.cell? ⟨w.heap.size, 1, none⟩ = some (.slice (some ad) xs.length c) := ⟨(blk_cell (blk_below (blk_drewN X1.out 1) HB5.out) 0).trans rfl, (blk_cell (blk_below (blk_drewN X1.out 1) HB5.out) 1).trans rfl⟩
    clear h89 hS
    obtain ⟨A5, c5, rfl⟩ := Kd.R_slice HZ5.out
    refine tk 10 ?_
    have x2 := blk_below (blk_drewN X2.out 1) HB5.out
    obtain ⟨y3, y4⟩ : w5.cell? ⟨w.heap.size + 1, 0, none⟩ = some (.int .i64 0) ∧ w5.cell? ⟨w.heap.size + 1, 1, none⟩ = some (.slice none 0 0) := ⟨(blk_cell x2 0).trans rfl, (blk_cell x2 1).trans rfl⟩
    have y5 := blk_frozen x2 0
    have y6 := blk_frozen x2 1
    have HX2 := Aside0.mk x2
    clear x2
    refine wpAnyT_one (i := 11) (by kernel_rfl) rfl (fun K hK => ?_)
    go_wp2
    refine hK _ _ (fun h => absurd rfl h) ?_
    clear hK K
    (try simp only [Act.put, List.setIfInBounds_toArray, List.set_cons_zero, List.set_cons_succ])
    refine wpAnyT_done (by kernel_rfl) ?_ _
    go_wp2
    have k0 := blk_set HX2.out 0 (.int .i64 (lo + (i : Int)))
    have k1 := blk_set k0 1 (.slice A5 zs.length c5)
    have z1 := (blk_cell k1 0).trans rfl
    have z2 := (blk_cell k1 1).trans rfl
    have hbF : Below w.heap.size w ((w5.setCell ⟨w.heap.size + 1, 0, none⟩ (.int .i64 (lo + (i : Int)))).setCell ⟨w.heap.size + 1, 1, none⟩ (.slice A5 zs.length c5)) := below_set (below_set (below_step HB1.out (below_step (below_drew1 (Below.refl _ _)) HB5.out)) (by show w.heap.size ≤ w.heap.size + 1; omega)) (by show w.heap.size ≤ w.heap.size + 1; omega)
    have hRF : Kd.R (Kd.int .i64) 3 ((w5.setCell ⟨w.heap.size + 1, 0, none⟩ (.int .i64 (lo + (i : Int)))).setCell ⟨w.heap.size + 1, 1, none⟩ (.slice A5 zs.length c5)) w.heap.size (fun _ => True) (.slice A5 zs.length c5) zs := Kd.R_set (Kd.R_set (Kd.R_lower HZ5.out HB1.out.size) HX2.out (by decide) 0 _) k0 (by decide) 1 _
    generalize (w5.setCell ⟨w.heap.size + 1, 0, none⟩ (.int .i64 (lo + (i : Int)))).setCell ⟨w.heap.size + 1, 1, none⟩ (.slice A5 zs.length c5) = F at *
    clear k0 k1
    refine bodyPost_ret (v := .agg #[.int .i64 (lo + (i : Int)), .slice A5 zs.length c5]) (by simp [results, Try.results66, go_sem, z1, z2]) rfl ⟨_, rfl, ?_, hbF⟩
    rw [HZS.out]
    exact hRF
end Go.Proofs.Ytdldfdcedjmneaa.Own
