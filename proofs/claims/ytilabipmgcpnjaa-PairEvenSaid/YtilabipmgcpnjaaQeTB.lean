/- The declarations of TB that the claim Qe needs. -/
import Derived.Test.YtilabipmgcpnjaaQeTA
import Derived.IntWalk
import Derived.Lib.SliceRun
import Derived.Defers
import Derived.Recover
namespace Go.Proofs.Ytilabipmgcpnjaa.Own
open Go.RowKit Go.Proofs.YtilabipmgcpnjaaW.PrintWords Go.Proofs.YtilabipmgcpnjaaW.PrintLast Go.Proofs.YtilabipmgcpnjaaW.PrintMore
set_option linter.unusedVariables false
set_option linter.unusedSimpArgs false
theorem Row.splice {w : World} {b c : Nat} : ∀ (vs xs : List Int) (w : World) (i : Nat), Row w b c xs → i + vs.length ≤ xs.length → Row (w.setCells b i (nums .i64 vs)) b c (xs.take i ++ vs ++ xs.drop (i + vs.length))
  | [], xs, w, i, h, _ => by simpa [World.setCells, nums] using h
  | v :: vs, xs, w, i, h, hl => by
    have hl2 : i < xs.length := by simp at hl; omega
    have h2 := Row.splice (w := w) vs (xs.set i v) (w.setCell ⟨b, i, none⟩ (.int .i64 v)) (i + 1) (h.set i v) (by simp at hl ⊢; omega)
    have e : (xs.set i v).take (i + 1) ++ vs ++ (xs.set i v).drop (i + 1 + vs.length) = xs.take i ++ v :: vs ++ xs.drop (i + (v :: vs).length) := by
      rw [List.take_succ_eq_append_getElem (by simpa using hl2), List.getElem_set_self, List.take_set, List.set_eq_of_length_le (by simp; omega), List.drop_set, if_pos (by omega)]
      simp only [List.length_cons, List.append_assoc, List.singleton_append, List.cons_append, List.nil_append]
      rw [show i + 1 + vs.length = i + (vs.length + 1) by omega]
    rw [e] at h2
    exact h2
theorem take_rep {zs : List Int} {x : Int} {m k : Nat} (h : zs.take m = List.replicate m x) (hl : m + k ≤ zs.length) :
    (zs.take m ++ List.replicate k x ++ zs.drop (m + k)).take (m + k) = List.replicate (m + k) x ∧ (zs.take m ++ List.replicate k x ++ zs.drop (m + k)).length = zs.length := by
  rw [h, List.replicate_append_replicate]
  constructor
  · rw [List.take_append_of_le_length (by simp), List.take_of_length_le (by simp)]
  · simp; omega
set_option maxHeartbeats 2000000 in
theorem f48_any (x : Int) (n xb xc : Nat) (w : World) (hx : w.cell? ⟨xb, 0, none⟩ = some (.int .i64 x)) (hn1 : 1 ≤ n) (hn : n ≤ 24) :
    Calls Try.prog 48 #[.slice (some ⟨xb, 0, none⟩) 1 xc, .int .i64 n] w fun e w' => ∃ b, e = .returned (.slice (some ⟨b, 0, none⟩) n n) ∧ w.heap.size ≤ b ∧ Row w' b n (List.replicate n x) ∧ Below w.heap.size w w' := by
  obtain ⟨i0, hi0, hz0, hsz0, hb0⟩ := info_parts info3
  have hmk : ∀ W : World, (Instr.makeSlice 24 (.int .i64 (n : Int)) (.int .i64 (n : Int))).run Try.prog W = .ok (.slice (some ⟨W.heap.size, 0, none⟩) n n) (W.alloc (.cells (madeCells #[.int .i64 0] n) 3)) := fun W => by
    have := run_make (P := Try.prog) W 24 3 i0 (.int .i64 0) Try.underlying24 hi0 hz0 .i64 .i64 n n (by omega) (Int.le_refl _) (by rw [hb0]; omega) (by omega)
    rw [hsz0] at this
    simp only [Int.toNat_natCast, Nat.mul_one] at this
    exact this
  have H1 := Aside0.mk hi0
  have H2 := Aside0.mk hsz0
  clear hi0 hz0 hsz0 hb0
  have hM := f55_small n hn w
  have HX := Aside0.mk hx
  have h55 : decide ((n : Int) > 9223372036854775807) = false := by simp; omega
  go_enter Try.func48, Try.ntmps48
  go_upto_region 7 with (go_at_call 55; (with_reducible refine hM.mono ?_); rintro e w' ⟨rfl, ⟨nd, rfl⟩⟩)
  have hB0 : Below w.heap.size w ((w.drewN nd).alloc (.cells (madeCells #[.int .i64 0] n) 3)) := (by repeat (first | exact Below.refl _ _ | apply below_alloc | apply pw_below_drewN | apply below_drew1))
  have hR0 : Row ((w.drewN nd).alloc (.cells (madeCells #[.int .i64 0] n) 3)) w.heap.size n (List.replicate n 0) := by
    refine ⟨madeCells #[.int .i64 0] n, ?_, by simp, by omega, size_madeCells _ _, ?_⟩
    · simp [World.alloc]
    · rw [List.length_replicate, List.take_of_length_le (by simp [madeCells])]
      apply List.ext_getElem
      · simp [madeCells, nums]
      · intro j h1 h2
        simp [madeCells, nums, Nat.mod_one]
  have hx2 := pw_cell_below hB0 hx
  have hne : xb ≠ w.heap.size := by have := World.block_lt_of_cell? w _ hx; simp at this; omega
  have hlen : (List.replicate n (0 : Int)).length = n := List.length_replicate
  obtain ⟨zs, hzs⟩ : ∃ zs, List.replicate n (0 : Int) = zs := ⟨_, rfl⟩
  rw [hzs] at hR0 hlen
  have HB := Aside0.mk hB0
  have HR := Aside0.mk hR0
  have HL := Aside0.mk hlen
  clear hB0 hR0 hzs hlen hx hM hmk H1 H2 HX
  generalize (w.drewN nd).alloc (.cells (madeCells #[.int .i64 0] n) 3) = W0 at HB HR hx2 ⊢
  obtain ⟨nb, hnb⟩ : ∃ nb, w.heap.size = nb := ⟨_, rfl⟩
  have HNB := Aside0.mk (Nat.le_of_eq hnb)
  rw [hnb] at HR hne ⊢
  clear hnb
  have hc0 := HR.out.cell 0 (by rw [HL.out]; omega)
  have hcp : ∀ ty, (Builtin.copy_ #[24, 24] ty #[.slice (some ⟨nb, 0, none⟩) n n, .slice (some ⟨xb, 0, none⟩) 1 xc]).run Try.prog W0 = .ok (goInt 1) (W0.setCells nb 0 [.int .i64 x]) := fun ty => by
    have := run_copy_cells (P := Try.prog) W0 24 24 ty 3 nb 0 n n ⟨xb, 0, none⟩ 1 xc [.int .i64 x] Try.underlying24 (by rw [show (1 : Nat) = 1 from rfl]; kernel_rfl) (by show 1 = min 1 n; omega) (fun j v hj => by
      cases j with
      | zero => simp at hj; subst hj; exact hx2
      | succ j => simp at hj) (fun j hj => by
        have h1 : j = 0 := by simpa using hj
        subst h1; rw [hc0]; rfl) (fun j hj => HR.out.frozen _) (fun v hv => by simp at hv; subst hv; rfl)
    simpa using this
  clear hc0
  have hR1 := Row.splice (w := W0) [x] zs W0 0 HR.out (by rw [HL.out]; simpa using hn1)
  have hx1 : zs.take 0 = List.replicate 0 x := by simp
  obtain ⟨ht1, hl1⟩ := take_rep (k := 1) hx1 (by rw [HL.out]; omega)
  have HR1 := Aside0.mk hR1
  have HT1 := Aside0.mk ht1
  have HL1 := Aside0.mk hl1
  clear hR1 ht1 hl1 hx1
  go_wp2
  go_loopg [8] n (fun kq s8 wr => ∃ (m : Nat) (ys : List Int), s8 = .int .i64 m ∧ 1 ≤ m ∧ m ≤ n ∧ n - m ≤ kq ∧ Aside0 (Row wr nb n ys) ∧ Aside0 (ys.length = n) ∧ Aside0 (ys.take m = List.replicate m x) ∧ Aside0 (Below w.heap.size w wr))
  case atStart =>
    refine ⟨1, _, rfl, by omega, hn1, by omega, HR1, ⟨HL1.out.trans HL.out⟩, ?_, ?_⟩
    · have := HT1; rw [Nat.zero_add] at this; exact this
    · exact ⟨(Keep.of_below (S := fun k => k = nb) HB.out).trans (by have := grown_setCells (grown_refl W0 (some nb)) 0 [.int .i64 x]; exact Keep.of_grown this rfl) |>.below (Nat.le_refl _) (fun k hk => by rw [hk]; exact HNB.out)⟩
  case round =>
    clear HR1 HT1 HL1 HB HR HL hcp hx2
    obtain ⟨m, ys, rfl, hm1, hmn, hgg, HR, HL, HT, HB⟩ := hrel
    by_cases hlt : m < n
    · obtain ⟨k, hk⟩ : ∃ k, min m (n - m) = k := ⟨_, rfl⟩
      have hk1 : 1 ≤ k := by omega
      have hkm : m + k ≤ n := by omega
      have hcp : ∀ ty, (Builtin.copy_ #[24, 24] ty #[.slice (some ⟨nb, m, none⟩) (n - m) (n - m), .slice (some ⟨nb, 0, none⟩) m n]).run Try.prog wr.drew = .ok (goInt k) (wr.drew.setCells nb m (nums .i64 (List.replicate k x))) := fun ty => by
        have hcell : ∀ j, j < n → wr.drew.cell? ⟨nb, j, none⟩ = some (.int .i64 (ys.getD j 0)) := fun j hj => HR.out.cell j (by rw [HL.out]; exact hj)
        have := run_copy_cells (P := Try.prog) wr.drew 24 24 ty 3 nb m (n - m) (n - m) ⟨nb, 0, none⟩ m n (nums .i64 (List.replicate k x)) Try.underlying24 (by kernel_rfl) (by rw [show (nums .i64 (List.replicate k x)).length = k by simp [nums]]; show k = min m (n - m); omega) (fun j v hj => by
          have hjk : j < k := by have := (List.getElem?_eq_some_iff.1 hj).1; simpa [nums] using this
          have hv : v = .int .i64 x := by simp [nums, hjk] at hj; exact hj.symm
          have h1 := hcell j (by omega)
          have h2 : ys.getD j 0 = x := by
            have h3 := congrArg (fun l => l[j]?) HT.out
            simp only [List.getElem?_take_of_lt (show j < m by omega)] at h3
            rw [List.getD_eq_getElem?_getD, h3]
            simp [show j < m by omega]
          rw [h2] at h1
          rw [hv]
          have h4 : Addr.add ⟨nb, 0, none⟩ j = ⟨nb, j, none⟩ := by simp [Addr.add]; omega
          rw [h4]; exact h1) (fun j hj => by
            have hjk : j < k := by simpa [nums] using hj
            rw [hcell (m + j) (by omega)]; rfl) (fun j hj => HR.out.frozen _) (fun v hv => by simp [nums] at hv; rw [hv.2]; rfl)
        simpa [nums] using this
      have hr2 := Row.splice (w := wr) (List.replicate k x) ys wr.drew m (HR.out.move rfl) (by rw [HL.out, List.length_replicate]; exact hkm)
      rw [List.length_replicate] at hr2
      have HR2 := Aside0.mk hr2
      clear hr2
      obtain ⟨ht2, hl2⟩ := take_rep (k := k) HT.out (by rw [HL.out]; exact hkm)
      have HT2 := Aside0.mk ht2
      have HL2 := Aside0.mk (hl2.trans HL.out)
      have hne2 : ¬ (n = m) := by omega
      have hwk : IntKind.i64.wrap ((m : Int) + (k : Int)) = (m : Int) + (k : Int) := IntWalk.i64_in _ (by omega)
      have hS : True := trivial
      clear ht2 hl2 hk
      go_wp2
      refine wp_region_T 9 (fun _ => True) (by kernel_rfl) ?_
      refine wpAnyT_take (i := 0) (v := ?_) rfl (by kernel_rfl) (by kernel_rfl) (by kernel_rfl) (by kernel_rfl) (fun _ _ _ h => h) (Or.inl ⟨by rfl, ?_⟩) (by assumption) ?_
      rotate_left
      · intro wS hSw; (try dsimp only at hSw); go_simp; try with_reducible rfl
      (try simp only [Act.put, List.setIfInBounds_toArray, List.set_cons_zero, List.set_cons_succ])
      refine wpAnyT_take (i := 1) (v := ?_) rfl (by kernel_rfl) (by kernel_rfl) (by kernel_rfl) (by kernel_rfl) (fun _ _ _ h => h) (Or.inl ⟨by rfl, ?_⟩) (by assumption) ?_
      rotate_left
      · intro wS hSw; (try dsimp only at hSw); go_simp; try with_reducible rfl
      (try simp only [Act.put, List.setIfInBounds_toArray, List.set_cons_zero, List.set_cons_succ])
      refine wpAnyT_take (i := 2) (v := ?_) rfl (by kernel_rfl) (by kernel_rfl) (by kernel_rfl) (by kernel_rfl) (fun _ _ _ h => h) (Or.inl ⟨by rfl, ?_⟩) (by assumption) ?_
      rotate_left
      · intro wS hSw; (try dsimp only at hSw); go_simp; try with_reducible rfl
      (try simp only [Act.put, List.setIfInBounds_toArray, List.set_cons_zero, List.set_cons_succ])
      refine wpAnyT_take (i := 3) (v := ?_) rfl (by kernel_rfl) (by kernel_rfl) (by kernel_rfl) (by kernel_rfl) (fun _ _ _ h => h) (Or.inl ⟨by rfl, ?_⟩) (by assumption) ?_
      rotate_left
      · intro wS hSw; (try dsimp only at hSw); go_simp; try with_reducible rfl
      (try simp only [Act.put, List.setIfInBounds_toArray, List.set_cons_zero, List.set_cons_succ])
      refine wpAnyT_take (i := 4) (v := ?_) rfl (by kernel_rfl) (by kernel_rfl) (by kernel_rfl) (by kernel_rfl) (fun _ _ _ h => h) (Or.inl ⟨by rfl, ?_⟩) (by assumption) ?_
      rotate_left
      · intro wS hSw; (try dsimp only at hSw); go_simp; try with_reducible rfl
      (try simp only [Act.put, List.setIfInBounds_toArray, List.set_cons_zero, List.set_cons_succ])
      refine wpAnyT_take (i := 5) (v := ?_) rfl (by kernel_rfl) (by kernel_rfl) (by kernel_rfl) (by kernel_rfl) (fun _ _ _ h => h) (Or.inl ⟨by rfl, ?_⟩) (by assumption) ?_
      rotate_left
      · intro wS hSw; (try dsimp only at hSw); go_simp; try with_reducible rfl
      (try simp only [Act.put, List.setIfInBounds_toArray, List.set_cons_zero, List.set_cons_succ])
      refine wpAnyT_take (i := 6) (v := ?_) rfl (by kernel_rfl) (by kernel_rfl) (by kernel_rfl) (by kernel_rfl) (fun _ _ _ h => h) (Or.inl ⟨by rfl, ?_⟩) (by assumption) ?_
      rotate_left
      · intro wS hSw; (try dsimp only at hSw); go_simp; try with_reducible rfl
      (try simp only [Act.put, List.setIfInBounds_toArray, List.set_cons_zero, List.set_cons_succ])
      refine wpAnyT_one (i := 7) (by kernel_rfl) rfl (fun K hK => ?_)
      go_wp2
      refine hK _ _ (fun _ => ?_) ?_
      · trivial
      clear hK K
      (try simp only [Act.put, List.setIfInBounds_toArray, List.set_cons_zero, List.set_cons_succ])
      refine wpAnyT_take (i := 8) (v := ?_) rfl (by kernel_rfl) (by kernel_rfl) (by kernel_rfl) (by kernel_rfl) (fun _ _ _ h => h) (Or.inl ⟨by rfl, ?_⟩) (by assumption) ?_
      rotate_left
      · intro wS hSw; (try dsimp only at hSw); go_simp; try with_reducible rfl
      (try simp only [Act.put, List.setIfInBounds_toArray, List.set_cons_zero, List.set_cons_succ])
      refine wpAnyT_one (i := 9) (by kernel_rfl) rfl (fun K hK => ?_)
      go_wp2
      refine hK _ _ (fun h => absurd rfl h) ?_
      clear hK K
      (try simp only [Act.put, List.setIfInBounds_toArray, List.set_cons_zero, List.set_cons_succ])
      refine wpAnyT_done (by kernel_rfl) ?_ _
      go_wp2
      go_roundg (n - (m + k))
      case measure => omega
      case rel =>
        refine ⟨m + k, _, by go_num, by omega, hkm, Nat.le_refl _, HR2, HL2, HT2, ⟨?_⟩⟩
        have h1 : Below w.heap.size w wr.drew := below_drew HB.out
        exact ((Keep.of_below (S := fun k => k = nb) h1).trans (Keep.of_grown (grown_setCells (grown_refl wr.drew (some nb)) m _) rfl)).below (Nat.le_refl _) (fun k hk => by rw [hk]; exact HNB.out)
    · have hmn2 : m = n := by omega
      subst hmn2
      go_wp2
      go_ret
      refine ⟨nb, rfl, HNB.out, ?_, HB.out⟩
      have h := HT.out
      rw [List.take_of_length_le (by rw [HL.out]; exact Nat.le_refl _)] at h
      rw [← h]; exact HR.out
end Go.Proofs.Ytilabipmgcpnjaa.Own
namespace Go.Proofs.Ytilabipmgcpnjaa.Own
open Go.RowKit Go.Proofs.YtilabipmgcpnjaaW.PrintWords Go.Proofs.YtilabipmgcpnjaaW.PrintLast Go.Proofs.YtilabipmgcpnjaaW.PrintMore
set_option linter.unusedVariables false
set_option linter.unusedSimpArgs false
/-- The people of a party: next is the first one of the list. -/
def assignF (L : List (List Int)) : List Int → List Int → Option (List Int)
  | [], N => some N
  | i :: is, N =>
    if 0 ≤ i ∧ i < (L.length : Int) then
      match L.getD i.toNat [] with
      | j :: _ => assignF L is (N.set i.toNat j)
      | [] => none
    else none
/-- Who is in no party: the one left, or oneself. -/
def finishF (L : List (List Int)) (N : List Int) : List Nat → List Int
  | [] => N
  | i :: is => finishF L (if N.getD i 0 ≥ 0 then N else match L.getD i [] with | [] => N.set i (i : Int) | j :: _ => N.set i j) is
def solveLoop (K : Nat) : Nat → List (List Int) → List Int → Option (List Int)
  | 0, _, _ => none
  | k + 1, L, N =>
    (rotationF K L N).bind fun r =>
      if r = [] then some (finishF L N (List.range L.length))
      else if (∀ x ∈ r, 0 ≤ x ∧ x < (L.length : Int)) ∧ r.length ≤ 1000000 then
        if partyF L r r = true then (assignF L r N).bind fun N' => solveLoop K k L N'
        else (turnF L r).bind fun L' => (proposeF K L').bind fun L'' => solveLoop K k L'' N
      else none
def solveF (K : Nat) (L : List (List Int)) : Option (List Int) := (proposeF K L).bind fun L' => solveLoop K K L' (List.replicate L.length (-1))
theorem f49_idle (p q : Addr) (w : World) :
    CallsD Try.prog 49 #[.pointer (some p), .pointer (some q)] .returning w fun e u' w' => e = .returned (.tuple #[]) ∧ u' = .returning ∧ w' = w := by
  refine callsD_of_wpS Try.func49 rfl fun c₀ cs hu => ?_
  apply wpS_seq
  apply wpS_region
  simp [wpOpsS, go_sem, recoverD, hu, Try.ntmps49, Exit.thenS]
  apply wpS_seq
  apply wpS_region
  simp [wpOpsS, go_sem, hu, Exit.thenS, Act.eval, Array.replicate]
  refine wpS_cond (t := false) (by simp [Act.eval, Array.replicate]) ?_
  simp only [Bool.false_eq_true, if_false]
  refine wpS_of_wp (wp_skip ?_)
  cases c₀
  simp_all [bodyPostS, results, Try.results49]
end Go.Proofs.Ytilabipmgcpnjaa.Own
namespace Go.Proofs.Ytilabipmgcpnjaa.Own
open Go.RowKit Go.Proofs.YtilabipmgcpnjaaW.PrintWords Go.Proofs.YtilabipmgcpnjaaW.PrintLast Go.Proofs.YtilabipmgcpnjaaW.PrintMore
set_option linter.unusedVariables false
set_option linter.unusedSimpArgs false
theorem made_row2 {w' : World} {base : Nat} {ok : Nat → Prop} {v : Value} {xs : List Int} (h : Kd.R (Kd.int .i64) 3 w' base ok v xs) :
    ∃ A c, v = .slice A xs.length c ∧ xs.length ≤ c ∧ c ≤ 9223372036854775807 ∧ (∀ a, A = some a → ∃ b cur, a = ⟨b, 0, none⟩ ∧ base ≤ b ∧ w'.heap[b]? = some (.cells cur 3 (0, 0))) ∧ (xs ≠ [] → ∃ b, A = some ⟨b, 0, none⟩ ∧ Row w' b c xs) := by
  have h2 := h
  obtain ⟨_, inner, ⟨hl, ho⟩, hr⟩ := h
  rcases ho with ⟨hv, h0⟩ | ⟨g, cap, cur, hv, hb, hh, hn, hm, hs, ht⟩
  · have : xs = [] := List.length_eq_zero_iff.1 h0
    subst this
    refine ⟨none, 0, hv, Nat.le_refl _, by omega, ?_, fun h => absurd rfl h⟩
    intro a ha; cases ha
  · refine ⟨some ⟨g, 0, none⟩, cap, hv, hn, by simpa [maxLen] using hm, fun a ha => ⟨g, cur, by injection ha with ha; exact ha.symm, hb, hh⟩, fun hne => ?_⟩
    rcases own_row h2 with ⟨h0, -⟩ | ⟨b, c, hv2, -, -, hr2⟩
    · exact absurd h0 hne
    · rw [hv] at hv2
      injection hv2 with e1 e2 e3
      injection e1 with e1
      injection e1 with e1
      subst e1
      subst e3
      exact ⟨g, rfl, hr2⟩
/-- The table while it is built: i lists are there, their headers are hs. -/
structure Build (B : Nat) (wr : World) (i : Nat) (Ls : List (List Int)) (v : Value) (hs : List (Option Addr × Nat)) : Prop where
  len : hs.length = i
  row : Kd.R (Kd.raw 1) 24 wr B (fun _ => True) v ((List.range i).map fun k => [Value.slice (hs.getD k (none, 0)).1 (Ls.getD k []).length (hs.getD k (none, 0)).2])
  cap : ∀ k, k < i → (Ls.getD k []).length ≤ (hs.getD k (none, 0)).2 ∧ (hs.getD k (none, 0)).2 ≤ 9223372036854775807
  blk : ∀ k, k < i → ∀ a, (hs.getD k (none, 0)).1 = some a → ∃ b cur, a = ⟨b, 0, none⟩ ∧ B ≤ b ∧ wr.heap[b]? = some (.cells cur 3 (0, 0))
  one : ∀ k, k < i → Ls.getD k [] ≠ [] → ∃ b, (hs.getD k (none, 0)).1 = some ⟨b, 0, none⟩ ∧ Row wr b (hs.getD k (none, 0)).2 (Ls.getD k [])
  apart : ∀ k1 k2, k1 < i → k2 < i → k1 ≠ k2 → ∀ b, (hs.getD k1 (none, 0)).1 = some ⟨b, 0, none⟩ → (hs.getD k2 (none, 0)).1 ≠ some ⟨b, 0, none⟩
theorem Build.start (B : Nat) (wr : World) (Ls : List (List Int)) : Build B wr 0 Ls (.slice none 0 0) [] := by
  refine ⟨rfl, Kd.R_nil _ _ _ _ _, ?_, ?_, ?_, ?_⟩
  all_goals (intros; omega)
theorem Build.below {B : Nat} {wr w1 : World} {i : Nat} {Ls : List (List Int)} {v : Value} {hs : List (Option Addr × Nat)} (h : Build B wr i Ls v hs) (hb : Below wr.heap.size wr w1) : Build B w1 i Ls v hs := by
  have hlt : ∀ (b : Nat) (cur : Array Value), wr.heap[b]? = some (.cells cur 3 (0, 0)) → w1.heap[b]? = some (.cells cur 3 (0, 0)) := fun b cur hh => (hb.block b (Array.getElem?_eq_some_iff.1 hh).1).trans hh
  refine ⟨h.len, Kd.R_below h.row hb, h.cap, fun k hk a ha => ?_, fun k hk hne => ?_, h.apart⟩
  · obtain ⟨b, cur, h1, h2, h3⟩ := h.blk k hk a ha
    exact ⟨b, cur, h1, h2, hlt b cur h3⟩
  · obtain ⟨b, h1, h2⟩ := h.one k hk hne
    exact ⟨b, h1, h2.move (hb.block b h2.lt)⟩
theorem Build.keep {S : Nat → Prop} {B : Nat} {wr w1 : World} {i : Nat} {Ls : List (List Int)} {v : Value} {hs : List (Option Addr × Nat)} (h : Build B wr i Ls v hs) (hk : Keep S wr w1) (hSB : ∀ k, S k → k < B) : Build B w1 i Ls v hs := by
  have hlt : ∀ (b : Nat) (cur : Array Value), B ≤ b → wr.heap[b]? = some (.cells cur 3 (0, 0)) → w1.heap[b]? = some (.cells cur 3 (0, 0)) := fun b cur hb hh => (hk.block b (Array.getElem?_eq_some_iff.1 hh).1 (fun hS => by have := hSB b hS; omega)).trans hh
  refine ⟨h.len, ?_, h.cap, fun k hk2 a ha => ?_, fun k hk2 hne => ?_, h.apart⟩
  · exact Kd.R_mono (Kd.R_move (Kd.R_bound h.row) (fun k hk2 => hk.block k hk2.2.2.1 (fun hS => by have := hSB k hS; have := hk2.2.1; omega))) (fun _ hk => hk.1)
  · obtain ⟨b, cur, h1, h2, h3⟩ := h.blk k hk2 a ha
    exact ⟨b, cur, h1, h2, hlt b cur h2 h3⟩
  · obtain ⟨b, h1, h2⟩ := h.one k hk2 hne
    obtain ⟨b', cur, h3, h4, -⟩ := h.blk k hk2 _ h1
    injection h3 with h3
    exact ⟨b, h1, h2.move (hk.block b h2.lt (fun hS => by have := hSB b hS; omega))⟩
/-- One list more: its row (A, c) was made behind W0 (world W), then it was appended (world w1). -/
theorem Build.snoc {B : Nat} {W0 W w1 : World} {i : Nat} {Ls : List (List Int)} {v v1 : Value} {hs : List (Option Addr × Nat)} {A : Option Addr} {c : Nat} (h : Build B W i Ls v hs)
    (hold : ∀ k, k < i → ∀ b, (hs.getD k (none, 0)).1 = some ⟨b, 0, none⟩ → b < W0.heap.size) (hB : B ≤ W0.heap.size)
    (hc : (Ls.getD i []).length ≤ c) (hm : c ≤ 9223372036854775807) (hblk : ∀ a, A = some a → ∃ b cur, a = ⟨b, 0, none⟩ ∧ W0.heap.size ≤ b ∧ W.heap[b]? = some (.cells cur 3 (0, 0)))
    (hone : Ls.getD i [] ≠ [] → ∃ b, A = some ⟨b, 0, none⟩ ∧ Row W b c (Ls.getD i []))
    (hg : ∀ k, k < W.heap.size → some k ≠ v.ownBlock → w1.heap[k]? = W.heap[k]?)
    (hr : Kd.R (Kd.raw 1) 24 w1 B (fun _ => True) v1 (((List.range i).map fun k => [Value.slice (hs.getD k (none, 0)).1 (Ls.getD k []).length (hs.getD k (none, 0)).2]) ++ [[Value.slice A (Ls.getD i []).length c]])) :
    Build B w1 (i + 1) Ls v1 (hs ++ [(A, c)]) := by
  have hl := h.len
  have g1 : ∀ k, k < i → (hs ++ [(A, c)]).getD k (none, 0) = hs.getD k (none, 0) := fun k hk => by
    rw [List.getD_eq_getElem?_getD, List.getD_eq_getElem?_getD, List.getElem?_append_left (by omega)]
  have g2 : (hs ++ [(A, c)]).getD i (none, 0) = (A, c) := by
    rw [List.getD_eq_getElem?_getD, List.getElem?_append_right (by omega), hl, Nat.sub_self]; rfl
  have ht : ∀ k, v.ownBlock = some k → ∃ cells, W.heap[k]? = some (.cells cells 24 (0, 0)) := Kd.R_typed h.row
  have hmove : ∀ (b : Nat) (cur : Array Value), W.heap[b]? = some (.cells cur 3 (0, 0)) → w1.heap[b]? = some (.cells cur 3 (0, 0)) := fun b cur hh => by
    refine (hg b (Array.getElem?_eq_some_iff.1 hh).1 ?_).trans hh
    intro e
    obtain ⟨cells, h2⟩ := ht b e.symm
    rw [hh] at h2
    simp at h2
  have hrow : ∀ b c xs, Row W b c xs → Row w1 b c xs := fun b c xs hh => by
    obtain ⟨cur, h1, h2⟩ := hh
    exact ⟨cur, hmove b cur h1, h2⟩
  refine ⟨by simp [hl], ?_, fun k hk => ?_, fun k hk a ha => ?_, fun k hk hne => ?_, fun k1 k2 h1 h2 hne b hb1 => ?_⟩
  · rw [List.range_succ, List.map_append]
    have e : (List.range i).map (fun k => [Value.slice ((hs ++ [(A, c)]).getD k (none, 0)).1 (Ls.getD k []).length ((hs ++ [(A, c)]).getD k (none, 0)).2]) = (List.range i).map (fun k => [Value.slice (hs.getD k (none, 0)).1 (Ls.getD k []).length (hs.getD k (none, 0)).2]) := by
      apply List.map_congr_left
      intro k hk
      rw [g1 k (by simpa using hk)]
    rw [e]
    simp only [List.map_cons, List.map_nil, g2]
    exact hr
  · by_cases e : k = i
    · subst e; rw [g2]; exact ⟨hc, hm⟩
    · rw [g1 k (by omega)]; exact h.cap k (by omega)
  · by_cases e : k = i
    · subst e; rw [g2] at ha
      obtain ⟨b, cur, h1, h2, h3⟩ := hblk a ha
      exact ⟨b, cur, h1, by omega, hmove b cur h3⟩
    · rw [g1 k (by omega)] at ha
      obtain ⟨b, cur, h1, h2, h3⟩ := h.blk k (by omega) a ha
      exact ⟨b, cur, h1, h2, hmove b cur h3⟩
  · by_cases e : k = i
    · subst e; rw [g2]
      obtain ⟨b, h1, h2⟩ := hone hne
      exact ⟨b, h1, hrow _ _ _ h2⟩
    · rw [g1 k (by omega)]
      obtain ⟨b, h1, h2⟩ := h.one k (by omega) hne
      exact ⟨b, h1, hrow _ _ _ h2⟩
  · by_cases e1 : k1 = i
    · subst e1
      rw [g2] at hb1
      rw [g1 k2 (by omega)]
      intro hb2
      obtain ⟨b', cur, h3, h4, -⟩ := hblk _ hb1
      injection h3 with h3
      have := hold k2 (by omega) b hb2
      omega
    · rw [g1 k1 (by omega)] at hb1
      by_cases e2 : k2 = i
      · subst e2
        rw [g2]
        intro hb2
        obtain ⟨b', cur, h3, h4, -⟩ := hblk _ hb2
        injection h3 with h3
        have := hold k1 (by omega) b hb1
        omega
      · rw [g1 k2 (by omega)]
        exact h.apart k1 k2 (by omega) (by omega) hne b hb1
/-- Built: the lists lie in memory. -/
theorem Build.lists {B : Nat} {wr : World} {n : Nat} {Ls : List (List Int)} {v : Value} {hs : List (Option Addr × Nat)} (h : Build B wr n Ls v hs) (hn : Ls.length = n) (h0 : 0 < n) :
    ∃ bl cl, v = .slice (some ⟨bl, 0, none⟩) n cl ∧ B ≤ bl ∧ Lists wr bl cl (fun k => (hs.getD k (none, 0)).1) (fun k => (hs.getD k (none, 0)).2) Ls ∧ (∀ k, LB bl (fun k => (hs.getD k (none, 0)).1) n k → B ≤ k) := by
  obtain ⟨_, inner, ⟨hl, ho⟩, hr⟩ := h.row
  rw [List.length_map, List.length_range] at ho hl
  rcases ho with ⟨hv, h1⟩ | ⟨g, cap, cur, hv, hb, hh, hnc, hm, hs2, ht⟩
  · omega
  · have hcell : ∀ k (hk : k < Ls.length), cur[k]? = some (.slice (hs.getD k (none, 0)).1 Ls[k].length (hs.getD k (none, 0)).2) := fun k hk => by
      have h2 := hr.2 k _ (by rw [List.getElem?_map, List.getElem?_range (by omega)]; rfl)
      have h3 : (inner.drop (k * 1)).take 1 = [Value.slice (hs.getD k (none, 0)).1 (Ls.getD k []).length (hs.getD k (none, 0)).2] := h2.1
      rw [Nat.mul_one] at h3
      have h4 := congrArg (fun l => l[0]?) h3
      simp only [List.getElem?_take, List.getElem?_drop] at h4
      simp at h4
      rw [← ht] at h4
      have h5 : k < n * (Kd.raw 1).sz := by simp [Kd.raw]; omega
      rw [List.getElem?_take_of_lt h5, Array.getElem?_toList] at h4
      rw [h4]
      simp [List.getElem?_eq_getElem hk]
    refine ⟨g, cap, hv, hb, ⟨⟨cur, hh, by simpa [Kd.raw] using hs2, by omega, by simpa [maxLen] using hm, hcell⟩, fun i hi hne => ?_, fun i j hi hj hij b => h.apart i j (by omega) (by omega) hij b, fun i hi => ?_, fun i hi b hA => ?_⟩, ?_⟩
    · have := h.one i (by omega) (by rw [List.getD_eq_getElem?_getD, List.getElem?_eq_getElem hi]; exact hne)
      rw [List.getD_eq_getElem?_getD (l := Ls), List.getElem?_eq_getElem hi] at this
      exact this
    · have := h.cap i (by omega)
      rw [List.getD_eq_getElem?_getD (l := Ls), List.getElem?_eq_getElem hi] at this
      exact this
    · obtain ⟨b', cur', h1, h2, h3⟩ := h.blk i (by omega) _ hA
      injection h1 with h1
      subst h1
      refine ⟨(Array.getElem?_eq_some_iff.1 h3).1, ?_⟩
      rintro rfl
      rw [hh] at h3
      simp at h3
    · intro k hk
      rcases hk with rfl | ⟨i, hi, hA⟩
      · exact hb
      · obtain ⟨b', cur', h1, h2, h3⟩ := h.blk i hi _ hA
        injection h1 with h1
        subst h1
        exact h2
end Go.Proofs.Ytilabipmgcpnjaa.Own
namespace Go.Proofs.Ytilabipmgcpnjaa.Own
open Go.RowKit Go.Proofs.YtilabipmgcpnjaaW.PrintWords Go.Proofs.YtilabipmgcpnjaaW.PrintLast Go.Proofs.YtilabipmgcpnjaaW.PrintMore
set_option linter.unusedVariables false
set_option linter.unusedSimpArgs false
def Solved (w : World) (N : List Int) (e : Ending) (w' : World) : Prop := ∃ v : Value, e = .returned (.tuple #[v, .bool true]) ∧ Kd.R (Kd.int .i64) 3 w' w.heap.size (fun _ => True) v N ∧ Below w.heap.size w w'
set_option maxHeartbeats 4000000 in
set_option maxRecDepth 100000 in
theorem f42_F (K rg : Nat) (A0 : Option Addr) (c0 n : Nat) (Ls : List (List Int)) (R : List Int) (w : World) (hr : Kd.C (Kd.slice 3 (Kd.int .i64)) w A0 n Ls) (hc0 : n ≤ c0)
    (hrg : w.cell? ⟨rg, 0, none⟩ = some (.slice A0 n c0)) (hn1 : 1 ≤ n) (hn : n ≤ 24) (hlim : ∀ l ∈ Ls, l.length ≤ 1000000) (h : solveF K Ls = some R) :
    Calls Try.prog 42 #[.pointer (some ⟨rg, 0, none⟩)] w (Solved w R) := by
  have hlen : Ls.length = n := hr.1
  have HR := Aside0.mk hr
  have HRG := Aside0.mk hrg
  have HF := Aside0.mk h
  have HLn := Aside0.mk hlen
  have HLm := Aside0.mk hlim
  have hrgl : rg < w.heap.size := World.block_lt_of_cell? w _ hrg
  have hrgl1 : rg < w.heap.size + 1 := by omega
  have hrgl2 : rg < w.heap.size + 1 + 1 := by omega
  have hrgl3 : rg < w.heap.size + 2 := by omega
  clear hr h hlen hlim
  have hmf : ∀ (fn : Fn) (first cap : Array Value) (w : World), (Instr.makeFunc fn first cap).run Try.prog w = .ok (.func fn first cap) w := fun _ _ _ _ => rfl
  go_enter_defers Try.func42, Try.ntmps42
  obtain ⟨W3, hW3⟩ : ∃ W3 : World, ((w.alloc (.cells #[.slice none 0 0] 24)).alloc (.cells #[.bool false] 4)).alloc (.cells #[.int .i64 (-1)] 3) = W3 := ⟨_, rfl⟩
  have s1 := size_alloc w (.cells #[.slice none 0 0] 24)
  have s2 := size_alloc (w.alloc (.cells #[.slice none 0 0] 24)) (.cells #[.bool false] 4)
  have hxc : W3.heap[w.heap.size + 1 + 1]? = some (.cells #[.int .i64 (-1)] 3 (0, 0)) := by
    rw [← hW3, ← s1, ← s2]; exact heap_alloc_new _ _
  have hxc : W3.cell? ⟨w.heap.size + 1 + 1, 0, none⟩ = some (.int .i64 (-1)) := by simp [World.cell?, hxc]
  have hb3 : Below w.heap.size w W3 := by rw [← hW3]; exact (by repeat (first | exact Below.refl _ _ | apply below_alloc | apply pw_below_drewN | apply below_drew1))
  have hs3 : W3.heap.size = w.heap.size + 3 := by rw [← hW3]; simp
  have hr3 : W3.heap[w.heap.size]? = some (.cells #[.slice none 0 0] 24 (0, 0)) := by
    rw [← hW3, heap_alloc_old _ _ (by omega), heap_alloc_old _ _ (by omega)]; exact heap_alloc_new _ _
  have ho3 : W3.heap[w.heap.size + 1]? = some (.cells #[.bool false] 4 (0, 0)) := by
    rw [← hW3, heap_alloc_old _ _ (by omega), ← s1]; exact heap_alloc_new _ _
  have H48 : ∀ W, W = W3 → Calls Try.prog 48 #[.slice (some ⟨w.heap.size + 1 + 1, 0, none⟩) 1 1, .int .i64 n] W fun e w' => ∃ b, e = .returned (.slice (some ⟨b, 0, none⟩) n n) ∧ w.heap.size + 3 ≤ b ∧ Row w' b n (List.replicate n (-1)) ∧ Below w.heap.size w w' ∧ w.heap.size + 3 ≤ w'.heap.size ∧ w'.heap[w.heap.size]? = some (.cells #[.slice none 0 0] 24 (0, 0)) ∧ w'.heap[w.heap.size + 1]? = some (.cells #[.bool false] 4 (0, 0)) := by
    rintro W rfl
    refine (f48_any (-1) n (w.heap.size + 1 + 1) 1 W hxc hn1 hn).mono ?_
    rintro e w' ⟨b, h1, h2, h3, h4⟩
    refine ⟨b, h1, by omega, h3, hb3.trans ⟨h4.os, h4.tape, h4.output, h4.size, fun k hk => h4.block k (by omega)⟩, by have := h4.size; omega, (h4.block _ (by omega)).trans hr3, (h4.block _ (by omega)).trans ho3⟩
  have h48 := H48 _ hW3
  have HS3 := Aside0.mk hs3
  clear hxc H48 hr3 ho3 hb3 hs3 hW3 s1 s2
  go_wp2_with (go_at_call 48; (with_reducible refine h48.mono ?_); rintro e w1 ⟨nb, rfl, hnb, hnr, hbl, hsz, hr1, ho1⟩; have hrg1 := pw_cell_below hbl hrg; have hrgz := World.block_lt_of_cell? w1 _ hrg1; simp only at hrgz; have HNB := Aside0.mk hnb; have HNR := Aside0.mk hnr; have HBL := Aside0.mk hbl; have HSZ := Aside0.mk hsz; have HR1 := Aside0.mk hr1; have HO1 := Aside0.mk ho1; clear hnb hnr hbl hsz hr1 ho1)
  clear hmf hrgl hrgl1 hrgl2 hrgl3 hrg hrg1 hrgz h48
  obtain ⟨g, hg⟩ : ∃ g, w1.heap.size = g := ⟨_, rfl⟩
  obtain ⟨W2, hW2⟩ : ∃ W2 : World, w1.alloc (.cells #[.slice none 0 0, .slice (some ⟨nb, 0, none⟩) n n] 75) = W2 := ⟨_, rfl⟩
  have hz2 : W2.heap.size = g + 1 := by rw [← hW2, ← hg]; exact size_alloc _ _
  have hg2 : W2.heap[g]? = some (.cells #[.slice none 0 0, .slice (some ⟨nb, 0, none⟩) n n] 75 (0, 0)) := by rw [← hW2, ← hg]; exact heap_alloc_new _ _
  have hnr2 : Row W2 nb n (List.replicate n (-1)) := HNR.out.move (by rw [← hW2]; exact heap_alloc_old _ _ HNR.out.lt)
  have hb2 : Below w.heap.size w W2 := by rw [← hW2]; exact below_alloc HBL.out _
  have hr2 : W2.heap[w.heap.size]? = some (.cells #[.slice none 0 0] 24 (0, 0)) := by rw [← hW2, heap_alloc_old _ _ (by have := HSZ.out; omega)]; exact HR1.out
  have ho2 : W2.heap[w.heap.size + 1]? = some (.cells #[.bool false] 4 (0, 0)) := by rw [← hW2, heap_alloc_old _ _ (by have := HSZ.out; omega)]; exact HO1.out
  have hgn : nb < g := by rw [← hg]; exact HNR.out.lt
  have hgw : w.heap.size + 3 ≤ g := by rw [← hg]; exact HSZ.out
  rw [hg, hW2]
  have HG2 := Aside0.mk hg2
  have HZ2 := Aside0.mk hz2
  have HN2 := Aside0.mk hnr2
  have HB2 := Aside0.mk hb2
  have HR2 := Aside0.mk hr2
  have HO2 := Aside0.mk ho2
  have HGN := Aside0.mk hgn
  have HGW := Aside0.mk hgw
  clear hg2 hz2 hnr2 hb2 hr2 ho2 hgn hgw hg hW2 HBL HNR HSZ HR1 HO1 HS3
  clear w1
  go_loopg [28] n (fun kq s28 wr => ∃ (i : Nat) (v : Value) (hs : List (Option Addr × Nat)), s28 = .int .i64 i ∧ i ≤ n ∧ n - i ≤ kq ∧ Aside0 (Build (g + 1) wr i Ls v hs) ∧ Aside0 (wr.heap[g]? = some (.cells #[v, .slice (some ⟨nb, 0, none⟩) n n] 75 (0, 0))) ∧ Aside0 (Keep (fun k => k = g) W2 wr))
  case atStart => exact ⟨0, _, [], rfl, Nat.zero_le _, by omega, ⟨Build.start _ _ _⟩, HG2, ⟨Keep.refl _ _⟩⟩
  case round =>
    obtain ⟨i, v, hs, rfl, hi, hgg, HBu, HGv, HK⟩ := hrel
    by_cases hlt : i < n
    · obtain ⟨ad, cc, had, hcl, hK, hcells⟩ := Kd.C_get HR.out ([] : List Int) (i : Int) (by omega) (by omega)
      obtain ⟨Ai, ci, rfl, hci, hCi⟩ := hK
      have hcw := hcells 0 _ rfl
      simp only [Int.toNat_natCast] at hcw hci hCi
      have hsz1 : (Kd.slice 3 (Kd.int .i64)).sz = 1 := rfl
      rw [hsz1, Nat.mul_one, Nat.add_zero] at hcw
      have hwr : Below w.heap.size w wr := HB2.out.trans (HK.out.below (by have := HZ2.out; have := HGW.out; omega) (fun k hk => by have := HGW.out; omega))
      have hcw2 := pw_cell_below hwr hcw
      have hCr := Kd.C_below hCi hwr
      obtain ⟨li, hli⟩ : ∃ li, Ls.getD i [] = li := ⟨_, rfl⟩
      rw [hli] at hcw2 hCr hci
      have hlil : li.length ≤ 1000000 := by
        rw [← hli, List.getD_eq_getElem?_getD, List.getElem?_eq_getElem (by rw [HLn.out]; exact hlt)]
        exact HLm.out _ (List.getElem_mem _)
      have hgc : wr.cell? ⟨g, 0, none⟩ = some v := by simp [World.cell?, HGv.out]
      have hgs : g < wr.heap.size := (Array.getElem?_eq_some_iff.1 HGv.out).1
      have hCl := f50_any Ai ci li wr.drew (Kd.C_drew hCr) hci (by omega)
      subst had
      have hix : (i : Int) < (n : Int) := by omega
      have hi0 : (0 : Int) ≤ (i : Int) := by omega
      have hS : wr.drew.cell? ⟨g, 0, none⟩ = some v := hgc
      have HLI := Aside0.mk hli
      have HCW := Aside0.mk hwr
      clear hcw hCi hCr hcells hli hsz1 hwr hcl
      go_wp2
      refine wp_region_TD 11 (fun w' => w'.cell? ⟨g, 0, none⟩ = some v) (by kernel_rfl) ?_
      refine wpAnyT_take (i := 0) (v := ?_) rfl (by kernel_rfl) (by kernel_rfl) (by kernel_rfl) (by kernel_rfl) (fun _ _ _ h => h) (Or.inl ⟨by rfl, ?_⟩) (by assumption) ?_
      rotate_left
      · intro wS hSw; (try dsimp only at hSw); go_simp; try with_reducible rfl
      (try simp only [Act.put, List.setIfInBounds_toArray, List.set_cons_zero, List.set_cons_succ])
      refine wpAnyT_take (i := 1) (v := ?_) rfl (by kernel_rfl) (by kernel_rfl) (by kernel_rfl) (by kernel_rfl) (fun _ _ _ h => h) (Or.inl ⟨by rfl, ?_⟩) (by assumption) ?_
      rotate_left
      · intro wS hSw; (try dsimp only at hSw); go_simp; try with_reducible rfl
      (try simp only [Act.put, List.setIfInBounds_toArray, List.set_cons_zero, List.set_cons_succ])
      refine wpAnyT_take (i := 2) (v := ?_) rfl (by kernel_rfl) (by kernel_rfl) (by kernel_rfl) (by kernel_rfl) (fun _ _ _ h => h) (Or.inl ⟨by rfl, ?_⟩) (by assumption) ?_
      rotate_left
      · intro wS hSw; (try dsimp only at hSw); go_simp; try with_reducible rfl
      (try simp only [Act.put, List.setIfInBounds_toArray, List.set_cons_zero, List.set_cons_succ])
      refine wpAnyT_take (i := 3) (v := ?_) rfl (by kernel_rfl) (by kernel_rfl) (by kernel_rfl) (by kernel_rfl) (fun _ _ _ h => h) (Or.inl ⟨by rfl, ?_⟩) (by assumption) ?_
      rotate_left
      · intro wS hSw; (try dsimp only at hSw); go_simp; try with_reducible rfl
      (try simp only [Act.put, List.setIfInBounds_toArray, List.set_cons_zero, List.set_cons_succ])
      refine wpAnyT_take (i := 4) (v := ?_) rfl (by kernel_rfl) (by kernel_rfl) (by kernel_rfl) (by kernel_rfl) (fun _ _ _ h => h) (Or.inl ⟨by rfl, ?_⟩) (by assumption) ?_
      rotate_left
      · intro wS hSw; (try dsimp only at hSw); go_simp; try with_reducible rfl
      (try simp only [Act.put, List.setIfInBounds_toArray, List.set_cons_zero, List.set_cons_succ])
      refine wpAnyT_take (i := 5) (v := ?_) rfl (by kernel_rfl) (by kernel_rfl) (by kernel_rfl) (by kernel_rfl) (fun _ _ _ h => h) (Or.inl ⟨by rfl, ?_⟩) (by assumption) ?_
      rotate_left
      · intro wS hSw; (try dsimp only at hSw); go_simp; try with_reducible rfl
      (try simp only [Act.put, List.setIfInBounds_toArray, List.set_cons_zero, List.set_cons_succ])
      refine wpAnyT_one (i := 6) (by kernel_rfl) rfl (fun K hK => ?_)
      go_wp2_with (go_at_call 50; (with_reducible refine hCl.mono ?_); rintro e w5 ⟨vr, rfl, hvr, hb5⟩)
      have q5 := pw_cell_below hb5 hS
      have HVR := Aside0.mk hvr
      have HB5 := Aside0.mk hb5
      clear hvr hb5
      refine hK _ _ (fun _ => ?_) ?_
      · exact q5
      clear hK K
      (try simp only [Act.put, List.setIfInBounds_toArray, List.set_cons_zero, List.set_cons_succ])
      obtain ⟨A5, c5, rfl, hl5, hm5, hblk5, hone5⟩ := made_row2 HVR.out
      have H5 := Aside0.mk hblk5
      have H6 := Aside0.mk hone5
      have hg5 : g < w5.heap.size := World.block_lt_of_cell? w5 _ q5
      clear hblk5 hone5
      have hBW : g + 1 ≤ wr.drew.heap.size := by show g + 1 ≤ wr.heap.size; omega
      have hb5' : Below wr.heap.size wr w5 := (below_drew (Below.refl _ _)).trans HB5.out
      have HBB := Aside0.mk hb5'
      clear hb5'
      refine wpAnyT_one (i := 7) (by kernel_rfl) rfl (fun K hK => ?_)
      go_wp2
      have q7 : (w5.alloc (.cells #[.slice A5 li.length c5] 24)).cell? ⟨g, 0, none⟩ = some v := by
        exact (Keep.alloc (fun _ => False) w5 _).cell q5 id
      refine hK _ _ (fun _ => ?_) ?_
      · exact q7
      clear hK K
      (try simp only [Act.put, List.setIfInBounds_toArray, List.set_cons_zero, List.set_cons_succ])
      refine wpAnyT_one (i := 8) (by kernel_rfl) rfl (fun K hK => ?_)
      (try simp only [List.getElem_toArray, List.getElem_cons_succ, List.getElem_cons_zero]); go_wp2_with ((with_reducible refine gate_builtin (b := .append) (xs := #[.tmp 36, .tmp 39]) rfl ?_); at_builtin; go_loud (refine Kd.R_append (Kd.raw 1) (w0 := wr) (g + 1) rfl (.tmp 36) (.tmp 39) 22 24 (.slice none 0 0) 24 rfl Try.underlying22 info24 rfl (by decide) (by omega) v ((List.range i).map fun k => [Value.slice (hs.getD k (none, 0)).1 (Ls.getD k []).length (hs.getD k (none, 0)).2]) [.slice A5 li.length c5] [.slice A5 li.length c5] (fun _ => True) (fun _ => False) rfl rfl ?aP (fun _ hk => hk.elim) ?aF ?aO ?aB ?aS ?aL ?_); (case aP => go_loud (exact ⟨rfl, rfl, by simp [Value.oneCell']⟩)); (case aB => go_loud (exact (HBB.out.mono (by omega)))); (case aF => exact (fun _ _ => trivial)); (case aO => go_loud (exact (Kd.R_below HBu.out.row HBB.out))); (case aS => go_loud (exact (by have := HBB.out.size; omega))); (case aL => go_loud (simp; omega)); intro v1 w8 ho hb hgr hat)
      have q8 : w8.cell? ⟨g, 0, none⟩ = some v := by
        have h1 := hb.block g (by omega)
        simp only [World.cell?, h1, HGv.out]
        rfl
      have f8 : w8.frozen? ⟨g, 0, none⟩ = false := by
        have h1 := hb.block g (by omega)
        simp only [World.frozen?, h1, HGv.out]
        simp
      have g8 : w8.heap[g]? = some (.cells #[v, .slice (some ⟨nb, 0, none⟩) n n] 75 (0, 0)) := (hb.block g (by omega)).trans HGv.out
      have G8 := Aside0.mk g8
      have K8 := Aside0.mk (show Keep (fun k => k = g) W2 w8 from ⟨hb.os.trans HK.out.os, hb.tape.trans HK.out.tape, hb.output.trans HK.out.output, Nat.le_trans HK.out.size hb.size, fun k hk hn => (hb.block k (by have := HZ2.out; omega)).trans (HK.out.block k hk hn)⟩)
      obtain ⟨A8, c8, rfl⟩ := Kd.R_slice ho
      obtain ⟨n8, hn8⟩ : ∃ n8, (((List.range i).map fun k => [Value.slice (hs.getD k (none, 0)).1 (Ls.getD k []).length (hs.getD k (none, 0)).2]) ++ [[Value.slice A5 li.length c5]]).length = n8 := ⟨_, rfl⟩
      rw [hn8] at ho ⊢
      clear hn8
      have HV8 := Aside0.mk ho
      have HGR := Aside0.mk hgr
      clear g8 ho hb hgr hat q7 q5
      refine hK _ _ (fun _ => ?_) ?_
      · exact q8
      clear hK K
      (try simp only [Act.put, List.setIfInBounds_toArray, List.set_cons_zero, List.set_cons_succ])
      refine wpAnyT_one (i := 9) (by kernel_rfl) rfl (fun K hK => ?_)
      go_wp2
      refine hK _ _ (fun _ => ?_) ?_
      · exact q8
      clear hK K
      (try simp only [Act.put, List.setIfInBounds_toArray, List.set_cons_zero, List.set_cons_succ])
      refine wpAnyT_one (i := 10) (by kernel_rfl) rfl (fun K hK => ?_)
      go_wp2
      refine hK _ _ (fun _ => ?_) ?_
      · exact q8
      clear hK K
      (try simp only [Act.put, List.setIfInBounds_toArray, List.set_cons_zero, List.set_cons_succ])
      refine wpAnyT_one (i := 11) (by kernel_rfl) rfl (fun K hK => ?_)
      go_wp2
      refine hK _ _ (fun h => absurd rfl h) ?_
      clear hK K
      (try simp only [Act.put, List.setIfInBounds_toArray, List.set_cons_zero, List.set_cons_succ])
      refine wpAnyT_done (by kernel_rfl) ?_ _
      refine noPanic_normal ?_
      go_wp2
      go_roundg (n - (i + 1))
      case measure => omega
      case rel =>
        refine ⟨i + 1, .slice A8 n8 c8, hs ++ [(A5, c5)], by go_num, by omega, Nat.le_refl _, ⟨?_⟩, ⟨?_⟩, ⟨K8.out.trans (Keep.set _ g 0 _ rfl)⟩⟩
        · have hbase : Build (g + 1) w8 (i + 1) Ls (.slice A8 n8 c8) (hs ++ [(A5, c5)]) := by
            have hbu := HBu.out.below HBB.out
            refine hbu.snoc (W0 := wr.drew) (A := A5) (c := c5) ?_ hBW (by rw [HLI.out]; exact hl5) hm5 H5.out ?_ (fun k hk hne => HGR.out.block k hk hne) ?_
            · intro k hk b hb
              obtain ⟨b', cur, h1, h2, h3⟩ := HBu.out.blk k hk _ hb
              injection h1 with h1
              subst h1
              exact (Array.getElem?_eq_some_iff.1 h3).1
            · rw [HLI.out]; exact H6.out
            · rw [HLI.out]; exact HV8.out
          exact hbase.keep (Keep.set (S := fun k => k = g) _ g 0 _ rfl) (fun k hk => by omega)
        · rw [heap_setCell_same _ g 0 _ 75 _ G8.out]; rfl
    · have hin : i = n := by omega
      subst hin
      obtain ⟨bl, cl, rfl, hbl, hLists, hLB⟩ := HBu.out.lists HLn.out (by omega)
      generalize hA : (fun k => (hs.getD k (none, 0)).1) = A at hLists hLB
      generalize hc : (fun k => (hs.getD k (none, 0)).2) = c at hLists
      clear hA hc HBu
      clear hs
      have HLL := Aside0.mk hLists
      have HLB := Aside0.mk hLB
      clear hLists hLB
      obtain ⟨L1, hL1, hR⟩ := Option.bind_eq_some_iff.1 (show (proposeF K Ls).bind (fun L' => solveLoop K K L' (List.replicate Ls.length (-1))) = some R from HF.out)
      rw [HLn.out] at hR
      have hmf : ∀ (fn : Fn) (first cap : Array Value) (w : World), (Instr.makeFunc fn first cap).run Try.prog w = .ok (.func fn first cap) w := fun _ _ _ _ => rfl
      have hgs : g < wr.heap.size := (Array.getElem?_eq_some_iff.1 HGv.out).1
      have hcg : wr.cell? ⟨g, 0, none⟩ = some (.slice (some ⟨bl, 0, none⟩) i cl) := by simp [World.cell?, HGv.out]
      have hcg1 : wr.cell? ⟨g, 1, none⟩ = some (.slice (some ⟨nb, 0, none⟩) i i) := by simp [World.cell?, HGv.out]
      have hng : ¬ LB bl A i g := fun h => by have := HLB.out g h; omega
      have hnn : ¬ LB bl A i nb := fun h => by have := HLB.out nb h; have := HGN.out; omega
      have hNrow : Row wr nb i (List.replicate i (-1)) := HN2.out.move (HK.out.block nb (by have := HZ2.out; have := HGN.out; omega) (by have := HGN.out; omega))
      have hwr : Below w.heap.size w wr := HB2.out.trans (HK.out.below (by have := HZ2.out; have := HGW.out; omega) (fun k hk => by have := HGW.out; omega))
      have hrb : wr.heap[w.heap.size]? = some (.cells #[.slice none 0 0] 24 (0, 0)) := (HK.out.block _ (by have := HZ2.out; have := HGW.out; omega) (by have := HGW.out; omega)).trans HR2.out
      have hob : wr.heap[w.heap.size + 1]? = some (.cells #[.bool false] 4 (0, 0)) := (HK.out.block _ (by have := HZ2.out; have := HGW.out; omega) (by have := HGW.out; omega)).trans HO2.out
      have h51 := f51_F K g Ls L1 wr HLL.out HLn.out hng hcg HLm.out hL1
      have HC0 := Aside0.mk hcg
      have HC1 := Aside0.mk hcg1
      have HNG := Aside0.mk hng
      have HNN := Aside0.mk hnn
      have HNR := Aside0.mk hNrow
      have HWR := Aside0.mk hwr
      have HRB := Aside0.mk hrb
      have HOB := Aside0.mk hob
      have HSR := Aside0.mk hR
      clear hcg hcg1 hng hnn hNrow hwr hrb hob hR HF HGv HK HN2 HB2 HR2 HO2 hL1 HG2 HZ2 hi hlt hgg
      go_wp2_with (go_at_call 51; (with_reducible refine h51.mono ?_); rintro e w3 ⟨rfl, hl3, hk3, hn3, hm3⟩)
      have HL3 := Aside0.mk hl3
      have HK3 := Aside0.mk (hk3.mono (S' := fun k => LB bl A i k ∨ k = nb) (fun k _ h => .inl h))
      have HNR3 := Aside0.mk (HNR.out.move (hk3.block nb HNR.out.lt HNN.out))
      have HN3 := Aside0.mk hn3
      have HM3 := Aside0.mk hm3
      clear hl3 hk3 hn3 hm3 h51
      obtain ⟨wC, hwC⟩ : ∃ wC : World, wC = wr := ⟨_, rfl⟩
      subst hwC
      go_loopg [8] K (fun kq s8 wr => ∃ (L : List (List Int)) (N : List Int), Aside0 (Lists wr bl cl A c L) ∧ Aside0 (L.length = i) ∧ Aside0 (∀ l ∈ L, l.length ≤ 1000000) ∧ Aside0 (Row wr nb i N) ∧ Aside0 (N.length = i) ∧ Aside0 (Keep (fun k => LB bl A i k ∨ k = nb) wC wr) ∧ Aside0 (solveLoop K kq L N = some R))
      case atStart => exact ⟨L1, List.replicate i (-1), HL3, HN3, HM3, HNR3, ⟨List.length_replicate⟩, HK3, HSR⟩
      case round =>
        clear HL3 HK3 HN3 HM3 HNR3 HSR hmf
        obtain ⟨L, N, HL, HLl, HLm, HNx, HNl, HKx, HP⟩ := hrel
        have hp := HP.out
        clear HP
        cases gk with
        | zero => simp [solveLoop] at hp
        | succ k =>
          unfold solveLoop at hp
          obtain ⟨r, hrot, hp⟩ := Option.bind_eq_some_iff.1 hp
          have hng2 : ¬ (LB bl A i g ∨ g = nb) := fun h => h.elim HNG.out (fun h => by have := HGN.out; omega)
          have hcg := HKx.out.cell HC0.out hng2
          have hcg1 := HKx.out.cell HC1.out hng2
          have h52 := f52_F K g nb i L N r wr HL.out HLl.out HNl.out (by omega) hcg hcg1 HNx.out HLm.out hrot
          have HCG := Aside0.mk hcg
          have HCG1 := Aside0.mk hcg1
          clear hrot
          by_cases hr0 : r = []
          · rw [if_pos hr0] at hp
            have he := fun W : World => Lib.run_eql_slice_nil (P := Try.prog) W 24 3 none 0 0 0 0 Try.underlying24
            injection hp with hp
            have HF := Aside0.mk hp
            have HR0 := Aside0.mk hr0
            clear hp hr0 hcg hcg1
            have h52n : Calls Try.prog 52 #[.pointer (some ⟨g, 0, none⟩)] wr fun e w' => e = .returned (.slice none 0 0) ∧ Below wr.heap.size wr w' := h52.mono (fun e w' h => by
              obtain ⟨hb, (⟨-, h1⟩ | ⟨b, o, c', hne, -, -⟩)⟩ := h
              · exact ⟨h1, hb⟩
              · exact absurd HR0.out hne)
            clear h52
            go_wp2_with (go_at_call 52; (with_reducible refine h52n.mono ?_); rintro e w4 ⟨rfl, hb4⟩; have HB4 := Aside0.mk hb4; have hcg := pw_cell_below hb4 HCG.out; clear hb4)
            clear h52n hcg he
            have HG4 := Aside0.mk (pw_cell_below HB4.out HCG.out)
            have HG41 := Aside0.mk (pw_cell_below HB4.out HCG1.out)
            have HN4 := Aside0.mk (HNx.out.move (HB4.out.block nb HNx.out.lt))
            have HL4 := Aside0.mk (HL.out.below HB4.out)
            obtain ⟨wo, hwo⟩ : ∃ wo : World, wo = wr := ⟨_, rfl⟩
            subst hwo
            go_loopg [87] i (fun kq s87 wr => ∃ (j : Nat) (M : List Int), s87 = .int .i64 j ∧ j ≤ i ∧ i - j ≤ kq ∧ Aside0 (Row wr nb i M) ∧ Aside0 (M.length = i) ∧ Aside0 (Keep (fun k => k = nb) w4 wr) ∧ Aside0 (finishF L M (List.range' j (i - j)) = R))
            case atStart => exact ⟨0, N, rfl, Nat.zero_le _, by omega, HN4, HNl, ⟨Keep.refl _ _⟩, ⟨by have := HF.out; rw [HLl.out, List.range_eq_range'] at this; exact this⟩⟩
            case round =>
              obtain ⟨j, M, rfl, hj, hjg, HM, HMl, HKq, HA⟩ := hrel
              have hnb4 : ∀ {z}, LB bl A i z → ¬ z = nb := fun h e => HNN.out (e ▸ h)
              have hgne : ¬ g = nb := by have := HGN.out; omega
              have cg := HKq.out.cell HG4.out hgne
              have cg1 := HKq.out.cell HG41.out hgne
              by_cases hlt : j < i
              · have ha := HA.out
                rw [range'_cons hlt] at ha
                unfold finishF at ha
                have hjL : j < L.length := by rw [HLl.out]; exact hlt
                have hgj : L.getD j [] = L[j] := by rw [List.getD_eq_getElem?_getD, List.getElem?_eq_getElem hjL]; rfl
                rw [hgj] at ha
                have cj := HKq.out.cell (HL4.out.cell hjL) (hnb4 (.inl rfl))
                have cnb := HM.out.cell j (by rw [HMl.out]; exact hlt)
                have fnb := HM.out.frozen j
                obtain ⟨old, hold⟩ : ∃ old, M.getD j 0 = old := ⟨_, rfl⟩
                rw [hold] at cnb ha
                have hjx : (j : Int) < (i : Int) := by omega
                have hj0 : (0 : Int) ≤ (j : Int) := by omega
                clear hgj HA hold
                by_cases ho : old ≥ 0
                · have hob : decide (old ≥ 0) = true := decide_eq_true ho
                  have hob2 : decide (0 ≤ old) = true := decide_eq_true ho
                  rw [if_pos ho] at ha
                  have HAA := Aside0.mk ha
                  clear ha ho
                  go_wp2
                  go_roundg (i - (j + 1))
                  case measure => omega
                  case rel => exact ⟨j + 1, M, by go_num, by omega, Nat.le_refl _, HM, HMl, HKq, HAA⟩
                · have hob : decide (old ≥ 0) = false := decide_eq_false ho
                  have hob2 : decide (0 ≤ old) = false := decide_eq_false ho
                  rw [if_neg ho] at ha
                  rcases hl : L[j] with _ | ⟨x0, rest⟩
                  · rw [hl] at ha cj
                    simp only at ha
                    have HAA := Aside0.mk ha
                    simp only [List.length_nil] at cj
                    clear ha ho hl
                    go_wp2
                    go_roundg (i - (j + 1))
                    case measure => omega
                    case rel => exact ⟨j + 1, M.set j (j : Int), by go_num, by omega, Nat.le_refl _, ⟨HM.out.set j (j : Int)⟩, ⟨by rw [List.length_set]; exact HMl.out⟩, ⟨HKq.out.trans (Keep.set _ nb j _ rfl)⟩, HAA⟩
                  · rw [hl] at ha
                    simp only at ha
                    obtain ⟨bj, hAj, hrj⟩ := HL4.out.row j hjL (by rw [hl]; simp)
                    have cs := HKq.out.cell (hrj.cell 0 (by rw [hl]; simp)) (hnb4 (.inr ⟨j, hlt, hAj⟩))
                    rw [hl] at cs
                    simp only [List.getD_cons_zero] at cs
                    obtain ⟨lj, hlj⟩ : ∃ lj, L[j].length = lj := ⟨_, rfl⟩
                    have hlj1 : 0 < lj := by rw [← hlj, hl]; simp
                    have hlj2 : lj ≤ 1000000 := by rw [← hlj]; exact HLm.out _ (List.getElem_mem hjL)
                    have hlj3 : ((lj : Int) == 0) = false := by simp; omega
                    have hlj4 : (0 : Int) < (lj : Int) := by omega
                    rw [hAj, hlj] at cj
                    have HAA := Aside0.mk ha
                    have hS : wr.drew.cell? ⟨g, 1, none⟩ = some (.slice (some ⟨nb, 0, none⟩) i i) ∧ wr.drew.cell? ⟨bj, 0, none⟩ = some (.int .i64 x0) := ⟨cg1, cs⟩
                    clear ha ho hl hlj hAj hrj
                    go_wp2
                    refine wp_region_TD 9 (fun w' => w'.cell? ⟨g, 1, none⟩ = some (.slice (some ⟨nb, 0, none⟩) i i) ∧ w'.cell? ⟨bj, 0, none⟩ = some (.int .i64 x0)) (by kernel_rfl) ?_
                    refine wpAnyT_take (i := 0) (v := ?_) rfl (by kernel_rfl) (by kernel_rfl) (by kernel_rfl) (by kernel_rfl) (fun _ _ _ h => h) (Or.inl ⟨by rfl, ?_⟩) (by assumption) ?_
                    rotate_left
                    · intro wS hSw; (try dsimp only at hSw); go_simp; try with_reducible rfl
                    (try simp only [Act.put, List.setIfInBounds_toArray, List.set_cons_zero, List.set_cons_succ])
                    refine wpAnyT_take (i := 1) (v := ?_) rfl (by kernel_rfl) (by kernel_rfl) (by kernel_rfl) (by kernel_rfl) (fun _ _ _ h => h) (Or.inl ⟨by rfl, ?_⟩) (by assumption) ?_
                    rotate_left
                    · intro wS hSw; (try dsimp only at hSw); go_simp; try with_reducible rfl
                    (try simp only [Act.put, List.setIfInBounds_toArray, List.set_cons_zero, List.set_cons_succ])
                    refine wpAnyT_take (i := 2) (v := ?_) rfl (by kernel_rfl) (by kernel_rfl) (by kernel_rfl) (by kernel_rfl) (fun _ _ _ h => h) (Or.inl ⟨by rfl, ?_⟩) (by assumption) ?_
                    rotate_left
                    · intro wS hSw; (try dsimp only at hSw); go_simp; try with_reducible rfl
                    (try simp only [Act.put, List.setIfInBounds_toArray, List.set_cons_zero, List.set_cons_succ])
                    refine wpAnyT_take (i := 3) (v := ?_) rfl (by kernel_rfl) (by kernel_rfl) (by kernel_rfl) (by kernel_rfl) (fun _ _ _ h => h) (Or.inl ⟨by rfl, ?_⟩) (by assumption) ?_
                    rotate_left
                    · intro wS hSw; (try dsimp only at hSw); go_simp; try with_reducible rfl
                    (try simp only [Act.put, List.setIfInBounds_toArray, List.set_cons_zero, List.set_cons_succ])
                    refine wpAnyT_take (i := 4) (v := ?_) rfl (by kernel_rfl) (by kernel_rfl) (by kernel_rfl) (by kernel_rfl) (fun _ _ _ h => h) (Or.inl ⟨by rfl, ?_⟩) (by assumption) ?_
                    rotate_left
                    · intro wS hSw; (try dsimp only at hSw); go_simp; try with_reducible rfl
                    (try simp only [Act.put, List.setIfInBounds_toArray, List.set_cons_zero, List.set_cons_succ])
                    refine wpAnyT_take (i := 5) (v := ?_) rfl (by kernel_rfl) (by kernel_rfl) (by kernel_rfl) (by kernel_rfl) (fun _ _ _ h => h) (Or.inl ⟨by rfl, ?_⟩) (by assumption) ?_
                    rotate_left
                    · intro wS hSw; (try dsimp only at hSw); go_simp; try with_reducible rfl
                    (try simp only [Act.put, List.setIfInBounds_toArray, List.set_cons_zero, List.set_cons_succ])
                    refine wpAnyT_take (i := 6) (v := ?_) rfl (by kernel_rfl) (by kernel_rfl) (by kernel_rfl) (by kernel_rfl) (fun _ _ _ h => h) (Or.inl ⟨by rfl, ?_⟩) (by assumption) ?_
                    rotate_left
                    · intro wS hSw; (try dsimp only at hSw); go_simp; try with_reducible rfl
                    (try simp only [Act.put, List.setIfInBounds_toArray, List.set_cons_zero, List.set_cons_succ])
                    refine wpAnyT_take (i := 7) (v := ?_) rfl (by kernel_rfl) (by kernel_rfl) (by kernel_rfl) (by kernel_rfl) (fun _ _ _ h => h) (Or.inl ⟨by rfl, ?_⟩) (by assumption) ?_
                    rotate_left
                    · intro wS hSw; (try dsimp only at hSw); go_simp; try with_reducible rfl
                    (try simp only [Act.put, List.setIfInBounds_toArray, List.set_cons_zero, List.set_cons_succ])
                    refine wpAnyT_one (i := 8) (by kernel_rfl) rfl (fun K hK => ?_)
                    go_wp2
                    refine hK _ _ (fun _ => ?_) ?_
                    · exact hS
                    clear hK K
                    (try simp only [Act.put, List.setIfInBounds_toArray, List.set_cons_zero, List.set_cons_succ])
                    refine wpAnyT_one (i := 9) (by kernel_rfl) rfl (fun K hK => ?_)
                    go_wp2
                    refine hK _ _ (fun h => absurd rfl h) ?_
                    clear hK K
                    (try simp only [Act.put, List.setIfInBounds_toArray, List.set_cons_zero, List.set_cons_succ])
                    refine wpAnyT_done (by kernel_rfl) ?_ _
                    refine noPanic_normal ?_
                    go_wp2
                    go_roundg (i - (j + 1))
                    case measure => omega
                    case rel => exact ⟨j + 1, M.set j x0, by go_num, by omega, Nat.le_refl _, ⟨(HM.out.move (w' := wr.drew) rfl).set j x0⟩, ⟨by rw [List.length_set]; exact HMl.out⟩, ⟨(HKq.out.trans (Keep.drew _ _)).trans (Keep.set _ nb j _ rfl)⟩, HAA⟩
              · have hji : j = i := by omega
                subst hji
                have ha := HA.out
                rw [Nat.sub_self] at ha
                simp only [List.range'_zero, finishF] at ha
                subst ha
                clear HA
                have hA4 : Keep (fun k => LB bl A j k ∨ k = nb) wC wr := (HKx.out.trans (Keep.of_below HB4.out)).trans (HKq.out.mono (fun z _ h => .inr h))
                have hlow : ∀ k, k < g → k ≠ nb → ¬ (LB bl A j k ∨ k = nb) := fun k hk hkn h => h.elim (fun h => by have := HLB.out k h; omega) hkn
                have hgw := HGW.out
                have hnbw := HNB.out
                have hwg := HWR.out.size
                have hsC : g < wC.heap.size := World.block_lt_of_cell? wC _ HC0.out
                have hrb := (hA4.block (w.heap.size) (by omega) (hlow _ (by omega) (by omega))).trans HRB.out
                have hob := (hA4.block (w.heap.size + 1) (by omega) (hlow _ (by omega) (by omega))).trans HOB.out
                have crb : wr.cell? ⟨w.heap.size, 0, none⟩ = some (.slice none 0 0) := by simp [World.cell?, hrb]
                have frb : wr.frozen? ⟨w.heap.size, 0, none⟩ = false := by simp [World.frozen?, hrb]
                have cob : wr.cell? ⟨w.heap.size + 1, 0, none⟩ = some (.bool false) := by simp [World.cell?, hob]
                have fob : wr.frozen? ⟨w.heap.size + 1, 0, none⟩ = false := by simp [World.frozen?, hob]
                have hne1 : w.heap.size ≠ w.heap.size + 1 := by omega
                have hne2 : w.heap.size + 1 ≠ w.heap.size := by omega
                have HA4 := Aside0.mk hA4
                have HHR := Aside0.mk hrb
                have HHO := Aside0.mk hob
                clear hA4 hlow hrb hob
                go_wp2
                refine leaves_cons (f := 49) (args := #[.pointer (some ⟨w.heap.size, 0, none⟩), .pointer (some ⟨w.heap.size + 1, 0, none⟩)]) (by simp) (by simp [go_sem]) ?_
                refine (f49_idle ⟨w.heap.size, 0, none⟩ ⟨w.heap.size + 1, 0, none⟩ _).mono ?_
                rintro e u' w'' ⟨rfl, rfl, rfl⟩
                have hw1 : ((wr.setCell ⟨w.heap.size, 0, none⟩ (.slice (some ⟨nb, 0, none⟩) j j)).setCell ⟨w.heap.size + 1, 0, none⟩ (.bool true)).cell? ⟨w.heap.size + 1, 0, none⟩ = some (.bool true) := by
                  have h1 : (wr.setCell ⟨w.heap.size, 0, none⟩ (.slice (some ⟨nb, 0, none⟩) j j)).heap[w.heap.size + 1]? = some (.cells #[.bool false] 4 (0, 0)) := (heap_setCell_other _ _ _ _ hne2).trans HHO.out
                  have h2 := heap_setCell_same _ (w.heap.size + 1) 0 _ 4 (.bool true) h1
                  simp [World.cell?, h2]
                have hw2 : ((wr.setCell ⟨w.heap.size, 0, none⟩ (.slice (some ⟨nb, 0, none⟩) j j)).setCell ⟨w.heap.size + 1, 0, none⟩ (.bool true)).cell? ⟨w.heap.size, 0, none⟩ = some (.slice (some ⟨nb, 0, none⟩) j j) := by
                  have h1 := heap_setCell_same _ w.heap.size 0 _ 24 (.slice (some ⟨nb, 0, none⟩) j j) HHR.out
                  have h2 : ((wr.setCell ⟨w.heap.size, 0, none⟩ (.slice (some ⟨nb, 0, none⟩) j j)).setCell ⟨w.heap.size + 1, 0, none⟩ (.bool true)).heap[w.heap.size]? = _ := (heap_setCell_other _ _ _ _ hne1).trans h1
                  simp [World.cell?, h2]
                have hK5 : Keep (fun k => k = w.heap.size ∨ k = w.heap.size + 1) wr ((wr.setCell ⟨w.heap.size, 0, none⟩ (.slice (some ⟨nb, 0, none⟩) j j)).setCell ⟨w.heap.size + 1, 0, none⟩ (.bool true)) :=
                  (Keep.set _ _ _ _ (.inl rfl)).trans (Keep.set _ _ _ _ (.inr rfl))
                generalize ((wr.setCell ⟨w.heap.size, 0, none⟩ (.slice (some ⟨nb, 0, none⟩) j j)).setCell ⟨w.heap.size + 1, 0, none⟩ (.bool true)) = wz at hw1 hw2 hK5 ⊢
                have hrowz : Row wz nb j M := HM.out.move (hK5.block nb HM.out.lt (by omega))
                have hRz : Kd.R (Kd.int .i64) 3 wz w.heap.size (fun _ => True) (.slice (some ⟨nb, 0, none⟩) j j) M := by
                  obtain ⟨cur, h1, h2, h3, h4, h5⟩ := hrowz
                  refine ⟨fun _ _ => trivial, nums .i64 M, ⟨by simp [nums, Kd.int, Kd.scalar], .inr ⟨nb, j, cur, by rw [HMl.out], by omega, h1, by rw [HMl.out]; exact Nat.le_refl _, by simpa [maxLen] using h3, by simpa [Kd.int, Kd.scalar] using h4, by simpa [Kd.int, Kd.scalar] using h5⟩⟩, ?_⟩
                  refine ⟨by simp [nums, Kd.int, Kd.scalar], fun z p hz => ?_⟩
                  show ((nums .i64 M).drop (z * 1)).take 1 = [Value.int .i64 p]
                  have hzl := (List.getElem?_eq_some_iff.1 hz).1
                  rw [Nat.mul_one, List.drop_eq_getElem_cons (by simpa [nums] using hzl)]
                  have := (List.getElem?_eq_some_iff.1 hz).2
                  simp [nums, this]
                have hBz : Below w.heap.size w wz := ((HWR.out.trans (HA4.out.below (by omega) (fun k hk => hk.elim (fun h => by have := HLB.out k h; omega) (fun h => by omega)))).trans (hK5.below (by have := HWR.out.size; have := HA4.out.size; omega) (fun k hk => by omega)))
                have hsol : Solved w M (.returned (.tuple #[.slice (some ⟨nb, 0, none⟩) j j, .bool true])) wz := ⟨_, rfl, hRz, hBz⟩
                simp [Leaves, settle, results, Try.results42, go_sem, hw1, hw2]
                exact hsol
          · rw [if_neg hr0] at hp
            by_cases hrr : (∀ x ∈ r, 0 ≤ x ∧ x < (L.length : Int)) ∧ r.length ≤ 1000000
            · rw [if_pos hrr] at hp
              have h52s : Calls Try.prog 52 #[.pointer (some ⟨g, 0, none⟩)] wr fun e w' => ∃ b o c', e = .returned (.slice (some ⟨b, o, none⟩) r.length c') ∧ wr.heap.size ≤ b ∧ Cells w' b o r ∧ Below wr.heap.size wr w' := h52.mono (fun e w' h => by
                obtain ⟨hb, (⟨h1, -⟩ | ⟨b, o, c', -, h1, h2, h3⟩)⟩ := h
                · exact absurd h1 hr0
                · exact ⟨b, o, c', h1, h2, h3, hb⟩)
              clear h52
              have hes := fun (W : World) (ad : Addr) (l c : Nat) => Lib.run_eql_slice_nil (P := Try.prog) W 24 3 (some ad) l c 0 0 Try.underlying24
              have HRR := Aside0.mk hrr
              clear hrr hr0
              by_cases hpf : partyF L r r = true
              · rw [if_pos hpf] at hp
                obtain ⟨N2, hN2, hp⟩ := Option.bind_eq_some_iff.1 hp
                have HP := Aside0.mk hp
                have HPF := Aside0.mk hpf
                have HAS := Aside0.mk hN2
                clear hp hpf hN2
                go_wp2_with (first | (go_at_call 52; (with_reducible refine h52s.mono ?_); rintro e w4 ⟨b, o, c', rfl, hb, hcr, hb4⟩; have hcg := pw_cell_below hb4 HCG.out; have hcg1 := pw_cell_below hb4 HCG1.out; have h53 := f53_F g b o c' L r w4 (HL.out.below hb4) HLl.out hcg hcr HRR.out.2 (by rw [← HLl.out]; exact HRR.out.1) HLm.out; rw [HPF.out] at h53; have HB4 := Aside0.mk hb4; have HCR := Aside0.mk hcr; have HBB := Aside0.mk hb;  clear hb4 hcr hb) | (go_at_call 53; (with_reducible refine h53.mono ?_); rintro e w' ⟨rfl, rfl⟩))
                clear h53 h52s hes hcg hcg1
                have HG4 := Aside0.mk (pw_cell_below HB4.out HCG.out)
                have HG41 := Aside0.mk (pw_cell_below HB4.out HCG1.out)
                have HN4 := Aside0.mk (HNx.out.move (HB4.out.block nb HNx.out.lt))
                have HL4 := Aside0.mk (HL.out.below HB4.out)
                obtain ⟨wo, hwo⟩ : ∃ wo : World, wo = wr := ⟨_, rfl⟩
                subst hwo
                go_loopg [57] r.length (fun kq s57 wr => ∃ (j : Nat) (M : List Int), s57 = .int .i64 j ∧ j ≤ r.length ∧ r.length - j ≤ kq ∧ Aside0 (Row wr nb i M) ∧ Aside0 (M.length = i) ∧ Aside0 (Keep (fun k => k = nb) w4 wr) ∧ Aside0 (assignF L (r.drop j) M = some N2))
                case atStart => exact ⟨0, N, rfl, Nat.zero_le _, by omega, HN4, HNl, ⟨Keep.refl _ _⟩, HAS⟩
                case round =>
                  obtain ⟨j, M, rfl, hj, hjg, HM, HMl, HKq, HA⟩ := hrel
                  have hrlen := HRR.out.2
                  have hnb4 : ∀ {z}, LB bl A i z → ¬ z = nb := fun h e => HNN.out (e ▸ h)
                  by_cases hlt : j < r.length
                  · have ha := HA.out
                    rw [List.drop_eq_getElem_cons hlt] at ha
                    unfold assignF at ha
                    have hci := (HCR.out.keep HKq.out (fun e => by have := HNx.out.lt; have := HBB.out; omega)) j hlt
                    rw [List.getD_eq_getElem?_getD, List.getElem?_eq_getElem hlt] at hci
                    simp only [Option.getD_some] at hci
                    obtain ⟨x, hx⟩ : ∃ x, r[j] = x := ⟨_, rfl⟩
                    rw [hx] at ha hci
                    have hx0 := HRR.out.1 x (hx ▸ List.getElem_mem hlt)
                    rw [if_pos hx0] at ha
                    obtain ⟨q, rfl⟩ := Int.eq_ofNat_of_zero_le hx0.1
                    have hqL : q < L.length := by have := hx0.2; omega
                    have hqi : q < i := by rw [← HLl.out]; exact hqL
                    have hgq : L.getD q [] = L[q] := by rw [List.getD_eq_getElem?_getD, List.getElem?_eq_getElem hqL]; rfl
                    rw [show ((q : Int)).toNat = q by omega, hgq] at ha
                    obtain ⟨x0, rest, hl⟩ : ∃ x0 rest, L[q] = x0 :: rest := by
                      rcases hlq : L[q] with _ | ⟨x0, rest⟩
                      · rw [hlq] at ha; cases ha
                      · exact ⟨x0, rest, rfl⟩
                    rw [hl] at ha
                    simp only at ha
                    obtain ⟨bq, hAq, hrq⟩ := HL4.out.row q hqL (by rw [hl]; simp)
                    have cq := HKq.out.cell (HL4.out.cell hqL) (hnb4 (.inl rfl))
                    have cs := HKq.out.cell (hrq.cell 0 (by rw [hl]; simp)) (hnb4 (.inr ⟨q, hqi, hAq⟩))
                    rw [hl] at cs
                    simp only [List.getD_cons_zero] at cs
                    obtain ⟨lq, hlq⟩ : ∃ lq, L[q].length = lq := ⟨_, rfl⟩
                    have hlq2 : 1 ≤ lq := by rw [← hlq, hl]; simp
                    rw [hAq, hlq] at cq
                    have hgne : ¬ g = nb := by have := HGN.out; omega
                    have cg := HKq.out.cell HG4.out hgne
                    have cg1 := HKq.out.cell HG41.out hgne
                    have hqx : (q : Int) < (i : Int) := by omega
                    have hq0 : (0 : Int) ≤ (q : Int) := by omega
                    have hlx1 : (0 : Int) < (lq : Int) := by omega
                    have hlx2 : 0 < lq := by omega
                    have cnb := HM.out.cell q (by rw [HMl.out]; exact hqi)
                    have fnb := HM.out.frozen q
                    generalize M.getD q 0 = old at cnb
                    have hS : wr.drew.cell? ⟨g, 1, none⟩ = some (.slice (some ⟨nb, 0, none⟩) i i) ∧ wr.drew.cell? ⟨g, 0, none⟩ = some (.slice (some ⟨bl, 0, none⟩) i cl) ∧ wr.drew.cell? ⟨bl, q, none⟩ = some (.slice (some ⟨bq, 0, none⟩) lq (c q)) ∧ wr.drew.cell? ⟨bq, 0, none⟩ = some (.int .i64 x0) := ⟨cg1, cg, cq, cs⟩
                    have HAA := Aside0.mk ha
                    clear ha hl hlq hAq hrq hgq hx hx0 HA cg cg1 cq cs
                    go_wp2
                    refine wp_region_TD 15 (fun w' => w'.cell? ⟨g, 1, none⟩ = some (.slice (some ⟨nb, 0, none⟩) i i) ∧ w'.cell? ⟨g, 0, none⟩ = some (.slice (some ⟨bl, 0, none⟩) i cl) ∧ w'.cell? ⟨bl, q, none⟩ = some (.slice (some ⟨bq, 0, none⟩) lq (c q)) ∧ w'.cell? ⟨bq, 0, none⟩ = some (.int .i64 x0)) (by kernel_rfl) ?_
                    refine wpAnyT_take (i := 0) (v := ?_) rfl (by kernel_rfl) (by kernel_rfl) (by kernel_rfl) (by kernel_rfl) (fun _ _ _ h => h) (Or.inl ⟨by rfl, ?_⟩) (by assumption) ?_
                    rotate_left
                    · intro wS hSw; (try dsimp only at hSw); go_simp; try with_reducible rfl
                    (try simp only [Act.put, List.setIfInBounds_toArray, List.set_cons_zero, List.set_cons_succ])
                    refine wpAnyT_take (i := 1) (v := ?_) rfl (by kernel_rfl) (by kernel_rfl) (by kernel_rfl) (by kernel_rfl) (fun _ _ _ h => h) (Or.inl ⟨by rfl, ?_⟩) (by assumption) ?_
                    rotate_left
                    · intro wS hSw; (try dsimp only at hSw); go_simp; try with_reducible rfl
                    (try simp only [Act.put, List.setIfInBounds_toArray, List.set_cons_zero, List.set_cons_succ])
                    refine wpAnyT_take (i := 2) (v := ?_) rfl (by kernel_rfl) (by kernel_rfl) (by kernel_rfl) (by kernel_rfl) (fun _ _ _ h => h) (Or.inl ⟨by rfl, ?_⟩) (by assumption) ?_
                    rotate_left
                    · intro wS hSw; (try dsimp only at hSw); go_simp; try with_reducible rfl
                    (try simp only [Act.put, List.setIfInBounds_toArray, List.set_cons_zero, List.set_cons_succ])
                    refine wpAnyT_take (i := 3) (v := ?_) rfl (by kernel_rfl) (by kernel_rfl) (by kernel_rfl) (by kernel_rfl) (fun _ _ _ h => h) (Or.inl ⟨by rfl, ?_⟩) (by assumption) ?_
                    rotate_left
                    · intro wS hSw; (try dsimp only at hSw); go_simp; try with_reducible rfl
                    (try simp only [Act.put, List.setIfInBounds_toArray, List.set_cons_zero, List.set_cons_succ])
                    refine wpAnyT_take (i := 4) (v := ?_) rfl (by kernel_rfl) (by kernel_rfl) (by kernel_rfl) (by kernel_rfl) (fun _ _ _ h => h) (Or.inl ⟨by rfl, ?_⟩) (by assumption) ?_
                    rotate_left
                    · intro wS hSw; (try dsimp only at hSw); go_simp; try with_reducible rfl
                    (try simp only [Act.put, List.setIfInBounds_toArray, List.set_cons_zero, List.set_cons_succ])
                    refine wpAnyT_take (i := 5) (v := ?_) rfl (by kernel_rfl) (by kernel_rfl) (by kernel_rfl) (by kernel_rfl) (fun _ _ _ h => h) (Or.inl ⟨by rfl, ?_⟩) (by assumption) ?_
                    rotate_left
                    · intro wS hSw; (try dsimp only at hSw); go_simp; try with_reducible rfl
                    (try simp only [Act.put, List.setIfInBounds_toArray, List.set_cons_zero, List.set_cons_succ])
                    refine wpAnyT_take (i := 6) (v := ?_) rfl (by kernel_rfl) (by kernel_rfl) (by kernel_rfl) (by kernel_rfl) (fun _ _ _ h => h) (Or.inl ⟨by rfl, ?_⟩) (by assumption) ?_
                    rotate_left
                    · intro wS hSw; (try dsimp only at hSw); go_simp; try with_reducible rfl
                    (try simp only [Act.put, List.setIfInBounds_toArray, List.set_cons_zero, List.set_cons_succ])
                    refine wpAnyT_take (i := 7) (v := ?_) rfl (by kernel_rfl) (by kernel_rfl) (by kernel_rfl) (by kernel_rfl) (fun _ _ _ h => h) (Or.inl ⟨by rfl, ?_⟩) (by assumption) ?_
                    rotate_left
                    · intro wS hSw; (try dsimp only at hSw); go_simp; try with_reducible rfl
                    (try simp only [Act.put, List.setIfInBounds_toArray, List.set_cons_zero, List.set_cons_succ])
                    refine wpAnyT_take (i := 8) (v := ?_) rfl (by kernel_rfl) (by kernel_rfl) (by kernel_rfl) (by kernel_rfl) (fun _ _ _ h => h) (Or.inl ⟨by rfl, ?_⟩) (by assumption) ?_
                    rotate_left
                    · intro wS hSw; (try dsimp only at hSw); go_simp; try with_reducible rfl
                    (try simp only [Act.put, List.setIfInBounds_toArray, List.set_cons_zero, List.set_cons_succ])
                    refine wpAnyT_take (i := 9) (v := ?_) rfl (by kernel_rfl) (by kernel_rfl) (by kernel_rfl) (by kernel_rfl) (fun _ _ _ h => h) (Or.inl ⟨by rfl, ?_⟩) (by assumption) ?_
                    rotate_left
                    · intro wS hSw; (try dsimp only at hSw); go_simp; try with_reducible rfl
                    (try simp only [Act.put, List.setIfInBounds_toArray, List.set_cons_zero, List.set_cons_succ])
                    refine wpAnyT_take (i := 10) (v := ?_) rfl (by kernel_rfl) (by kernel_rfl) (by kernel_rfl) (by kernel_rfl) (fun _ _ _ h => h) (Or.inl ⟨by rfl, ?_⟩) (by assumption) ?_
                    rotate_left
                    · intro wS hSw; (try dsimp only at hSw); go_simp; try with_reducible rfl
                    (try simp only [Act.put, List.setIfInBounds_toArray, List.set_cons_zero, List.set_cons_succ])
                    refine wpAnyT_take (i := 11) (v := ?_) rfl (by kernel_rfl) (by kernel_rfl) (by kernel_rfl) (by kernel_rfl) (fun _ _ _ h => h) (Or.inl ⟨by rfl, ?_⟩) (by assumption) ?_
                    rotate_left
                    · intro wS hSw; (try dsimp only at hSw); go_simp; try with_reducible rfl
                    (try simp only [Act.put, List.setIfInBounds_toArray, List.set_cons_zero, List.set_cons_succ])
                    refine wpAnyT_take (i := 12) (v := ?_) rfl (by kernel_rfl) (by kernel_rfl) (by kernel_rfl) (by kernel_rfl) (fun _ _ _ h => h) (Or.inl ⟨by rfl, ?_⟩) (by assumption) ?_
                    rotate_left
                    · intro wS hSw; (try dsimp only at hSw); go_simp; try with_reducible rfl
                    (try simp only [Act.put, List.setIfInBounds_toArray, List.set_cons_zero, List.set_cons_succ])
                    refine wpAnyT_take (i := 13) (v := ?_) rfl (by kernel_rfl) (by kernel_rfl) (by kernel_rfl) (by kernel_rfl) (fun _ _ _ h => h) (Or.inl ⟨by rfl, ?_⟩) (by assumption) ?_
                    rotate_left
                    · intro wS hSw; (try dsimp only at hSw); go_simp; try with_reducible rfl
                    (try simp only [Act.put, List.setIfInBounds_toArray, List.set_cons_zero, List.set_cons_succ])
                    refine wpAnyT_one (i := 14) (by kernel_rfl) rfl (fun K hK => ?_)
                    go_wp2
                    refine hK _ _ (fun _ => ?_) ?_
                    · exact hS
                    clear hK K
                    (try simp only [Act.put, List.setIfInBounds_toArray, List.set_cons_zero, List.set_cons_succ])
                    refine wpAnyT_one (i := 15) (by kernel_rfl) rfl (fun K hK => ?_)
                    go_wp2
                    refine hK _ _ (fun h => absurd rfl h) ?_
                    clear hK K
                    (try simp only [Act.put, List.setIfInBounds_toArray, List.set_cons_zero, List.set_cons_succ])
                    refine wpAnyT_done (by kernel_rfl) ?_ _
                    refine noPanic_normal ?_
                    go_wp2
                    go_roundg (r.length - (j + 1))
                    case measure => omega
                    case rel => exact ⟨j + 1, M.set q x0, by go_num, by omega, Nat.le_refl _, ⟨(HM.out.move (w' := wr.drew) rfl).set q x0⟩, ⟨by rw [List.length_set]; exact HMl.out⟩, ⟨(HKq.out.trans (Keep.drew _ _)).trans (Keep.set _ nb q _ rfl)⟩, HAA⟩
                  · have hjr : j = r.length := by omega
                    subst hjr
                    have ha := HA.out
                    rw [List.drop_length] at ha
                    unfold assignF at ha
                    injection ha with ha
                    subst ha
                    clear HA
                    go_wp2
                    go_roundg k
                    case measure => omega
                    case rel => exact ⟨L, M, ⟨HL4.out.keep HKq.out (fun z hz h => by rw [HLl.out] at h; exact hnb4 h hz)⟩, HLl, HLm, HM, HMl, ⟨(HKx.out.trans (Keep.of_below HB4.out)).trans (HKq.out.mono (fun z _ h => .inr h))⟩, HP⟩
              · rw [if_neg hpf] at hp
                obtain ⟨L2, hL2, hp⟩ := Option.bind_eq_some_iff.1 hp
                obtain ⟨L3, hL3, hp⟩ := Option.bind_eq_some_iff.1 hp
                have HP := Aside0.mk hp
                have HPF := Aside0.mk (show partyF L r r = false by simpa using hpf)
                have HT2 := Aside0.mk hL2
                have HT3 := Aside0.mk hL3
                clear hp hpf hL2 hL3
                go_wp2_with (first | (go_at_call 52; (with_reducible refine h52s.mono ?_); rintro e w4 ⟨b, o, c', rfl, hb, hcr, hb4⟩; have hcg := pw_cell_below hb4 HCG.out; have hcg1 := pw_cell_below hb4 HCG1.out; have h53 := f53_F g b o c' L r w4 (HL.out.below hb4) HLl.out hcg hcr HRR.out.2 (by rw [← HLl.out]; exact HRR.out.1) HLm.out; rw [HPF.out] at h53; have HB4 := Aside0.mk hb4; have HCR := Aside0.mk hcr; have HBB := Aside0.mk hb; have h54 := f54_F g b o c' L L2 r w4 (HL.out.below hb4) HLl.out HNG.out hcg hcr (fun h => by have h1 := HL.out.lb_lt (k := b) (by rw [HLl.out]; exact h); omega) HRR.out.2 HLm.out HT2.out; clear hb4 hcr hb) | (go_at_call 53; (with_reducible refine h53.mono ?_); rintro e w' ⟨rfl, rfl⟩) | (go_at_call 54; (with_reducible refine h54.mono ?_); rintro e w5 ⟨rfl, hl5, hk5, hn5, hm5⟩; have h51 := f51_F K g L2 L3 w5 hl5 hn5 HNG.out (hk5.cell hcg HNG.out) hm5 HT3.out; have HK5 := Aside0.mk hk5; clear h54 hl5 hk5 hn5 hm5) | (go_at_call 51; (with_reducible refine h51.mono ?_); rintro e w6 ⟨rfl, hl6, hk6, hn6, hm6⟩))
                have hall : Keep (LB bl A i) wr w6 := ((Keep.of_below HB4.out).trans HK5.out).trans hk6
                have HALL := Aside0.mk hall
                have HL6 := Aside0.mk hl6
                have HN6 := Aside0.mk hn6
                have HM6 := Aside0.mk hm6
                clear hall hl6 hk6 hn6 hm6 h51 h53 h52s hes
                go_roundg k
                case measure => omega
                case rel => exact ⟨L3, N, HL6, HN6, HM6, ⟨HNx.out.move (HALL.out.block nb HNx.out.lt HNN.out)⟩, HNl, ⟨HKx.out.trans (HALL.out.mono (fun k _ h => .inl h))⟩, HP⟩
            · rw [if_neg hrr] at hp; cases hp
end Go.Proofs.Ytilabipmgcpnjaa.Own
namespace Go.Proofs.Ytilabipmgcpnjaa.Own
open Go.RowKit Go.Proofs.YtilabipmgcpnjaaW.PrintWords Go.Proofs.YtilabipmgcpnjaaW.PrintLast Go.Proofs.YtilabipmgcpnjaaW.PrintMore
set_option linter.unusedVariables false
set_option linter.unusedSimpArgs false
/-- The places that a list gives (person i of n), from place k on. -/
def placeF (n i : Nat) : List Int → Nat → List Int → Option (List Int)
  | [], _, p => some p
  | j :: r, k, p => if j < 0 ∨ (n : Int) ≤ j ∨ j = i ∨ 0 ≤ p.getD j.toNat 0 then none else placeF n i r (k + 1) (p.set j.toNat k)
/-- The lists from number i on; acc: the places so far. -/
def readLoop (n : Nat) : List (List Int) → Nat → List (List Int) → Option (List (List Int))
  | [], _, acc => some acc
  | l :: r, i, acc => (placeF n i l 0 (List.replicate n (-1))).bind fun p => if l.length = n - 1 then readLoop n r (i + 1) (acc ++ [p]) else none
/-- read: everybody's places; none: the lists are not valid. -/
def readF (Ls : List (List Int)) : Option (List (List Int)) := if Ls.length < 1 ∨ 24 < Ls.length then none else readLoop Ls.length Ls 0 []
/-- What read leaves: nothing, or a block rg with the lists and the places. -/
def ReadS (w : World) (A0 : Option Addr) (n c0 : Nat) : Option (List (List Int)) → Ending → World → Prop
  | none, e, w' => e = .returned (.tuple #[.pointer none, .bool false]) ∧ Below w.heap.size w w'
  | some P, e, w' => ∃ rg bl cl A c, e = .returned (.tuple #[.pointer (some ⟨rg, 0, none⟩), .bool true]) ∧ w'.cell? ⟨rg, 0, none⟩ = some (.slice A0 n c0) ∧ w'.cell? ⟨rg, 1, none⟩ = some (.slice (some ⟨bl, 0, none⟩) n cl) ∧ Lists w' bl cl A c P ∧ P.length = n ∧ Below w.heap.size w w'
theorem placeF_length {n i : Nat} : ∀ {l : List Int} {k : Nat} {p q : List Int}, placeF n i l k p = some q → q.length = p.length
  | [], k, p, q, h => by injection h with h; rw [h]
  | j :: r, k, p, q, h => by
    unfold placeF at h
    split at h
    · cases h
    · have := placeF_length h
      simpa using this
theorem Build.congr {B : Nat} {wr : World} {i : Nat} {Ls Ls' : List (List Int)} {v : Value} {hs : List (Option Addr × Nat)} (h : Build B wr i Ls v hs) (he : ∀ k, k < i → Ls.getD k [] = Ls'.getD k []) : Build B wr i Ls' v hs := by
  refine ⟨h.len, ?_, fun k hk => by rw [← he k hk]; exact h.cap k hk, h.blk, fun k hk => by rw [← he k hk]; exact h.one k hk, h.apart⟩
  have e : (List.range i).map (fun k => [Value.slice (hs.getD k (none, 0)).1 (Ls.getD k []).length (hs.getD k (none, 0)).2]) = (List.range i).map (fun k => [Value.slice (hs.getD k (none, 0)).1 (Ls'.getD k []).length (hs.getD k (none, 0)).2]) := by
    apply List.map_congr_left
    intro k hk
    rw [he k (by simpa using hk)]
  rw [← e]
  exact h.row
set_option maxHeartbeats 4000000 in
set_option maxRecDepth 100000 in
theorem f41_F (A0 : Option Addr) (c0 n : Nat) (Ls : List (List Int)) (w : World) (hr : Kd.C (Kd.slice 3 (Kd.int .i64)) w A0 n Ls) (hc0 : n ≤ c0) :
    Calls Try.prog 41 #[.slice A0 n c0] w (ReadS w A0 n c0 (readF Ls)) := by
  have hlen : Ls.length = n := hr.1
  have HR := Aside0.mk hr
  have HLn := Aside0.mk hlen
  obtain ⟨R, hR⟩ : ∃ R, readF Ls = R := ⟨_, rfl⟩
  rw [hR]
  have HF := Aside0.mk hR
  clear hr hR hlen
  go_enter Try.func41, Try.ntmps41
  by_cases hn : n < 1 ∨ 24 < n
  · have hRn : R = none := by
      have h := HF.out
      unfold readF at h
      rw [HLn.out, if_pos hn] at h
      exact h.symm
    subst hRn
    clear HF
    by_cases hn1 : n < 1
    · go_wp2
      go_ret2
      exact ⟨rfl, Below.refl _ _⟩
    · have hn2 : 24 < n := by omega
      go_wp2
      go_ret2
      exact ⟨rfl, Below.refl _ _⟩
  · have hn1 : 1 ≤ n := by omega
    have hn2 : n ≤ 24 := by omega
    have HF2 : Aside0 (readLoop n Ls 0 [] = R) := ⟨by
      have h := HF.out
      unfold readF at h
      rw [HLn.out, if_neg hn] at h
      exact h⟩
    clear HF hn
    obtain ⟨g, hg⟩ : ∃ g, w.heap.size = g := ⟨_, rfl⟩
    obtain ⟨W2, hW2⟩ : ∃ W2 : World, w.alloc (.cells #[.slice A0 n c0, .slice none 0 0] 69) = W2 := ⟨_, rfl⟩
    have hz2 : W2.heap.size = g + 1 := by rw [← hW2, ← hg]; exact size_alloc _ _
    have hg2 : W2.heap[g]? = some (.cells #[.slice A0 n c0, .slice none 0 0] 69 (0, 0)) := by rw [← hW2, ← hg]; exact heap_alloc_new _ _
    have hb2 : Below w.heap.size w W2 := by rw [← hW2]; exact below_alloc (Below.refl _ _) _
    go_wp2
    have HG2 := Aside0.mk hg2
    have HZ2 := Aside0.mk hz2
    have HB2 := Aside0.mk hb2
    have HG := Aside0.mk hg
    clear hg2 hz2 hb2 hg hW2
    go_loopg [24] n (fun kq s24 wr => ∃ (i : Nat) (v : Value) (hs : List (Option Addr × Nat)) (acc : List (List Int)), s24 = .int .i64 i ∧ i ≤ n ∧ n - i ≤ kq ∧ Aside0 (acc.length = i) ∧ Aside0 (Build (g + 1) wr i acc v hs) ∧ Aside0 (wr.heap[g]? = some (.cells #[.slice A0 n c0, v] 69 (0, 0))) ∧ Aside0 (Keep (fun k => k = g) W2 wr) ∧ Aside0 (readLoop n (Ls.drop i) i acc = R))
    case atStart => exact ⟨0, _, [], [], rfl, Nat.zero_le _, by omega, ⟨rfl⟩, ⟨Build.start _ _ _⟩, HG2, ⟨Keep.refl _ _⟩, HF2⟩
    case round =>
      clear HF2 HG2
      obtain ⟨i, v, hs, acc, rfl, hi, hgg, HAl, HBu, HGv, HK, HF⟩ := hrel
      have hwr : Below w.heap.size w wr := HB2.out.trans (HK.out.below (by have := HZ2.out; have := HG.out; omega) (fun k hk => by have := HG.out; omega))
      by_cases hlt : i < n
      · obtain ⟨ad, cc, had, hcl, hK, hcells⟩ := Kd.C_get HR.out ([] : List Int) (i : Int) (by omega) (by omega)
        obtain ⟨Ai, ci, rfl, hci, hCi⟩ := hK
        have hcw := hcells 0 _ rfl
        simp only [Int.toNat_natCast] at hcw hci hCi
        have hsz1 : (Kd.slice 3 (Kd.int .i64)).sz = 1 := rfl
        rw [hsz1, Nat.mul_one, Nat.add_zero] at hcw
        have hcw2 := pw_cell_below hwr hcw
        have hCr := Kd.C_below hCi hwr
        have hf := HF.out
        rw [List.drop_eq_getElem_cons (by rw [HLn.out]; exact hlt)] at hf
        unfold readLoop at hf
        obtain ⟨li, hli⟩ : ∃ li, Ls[i]'(by rw [HLn.out]; exact hlt) = li := ⟨_, rfl⟩
        have hgd : Ls.getD i [] = li := by rw [List.getD_eq_getElem?_getD, List.getElem?_eq_getElem (by rw [HLn.out]; exact hlt)]; exact hli
        rw [hli] at hf
        rw [hgd] at hcw2 hCr hci
        have hlm : li.length ≤ 9223372036854775807 := hCr.2.1
        subst had
        have hix : (i : Int) < (n : Int) := by omega
        have hi0 : (0 : Int) ≤ (i : Int) := by omega
        have hwz : g + 1 ≤ wr.heap.size := by have := HK.out.size; have := HZ2.out; omega
        have H48 : ∀ W, wr.alloc (.cells #[.int .i64 (-1)] 3) = W → Calls Try.prog 48 #[.slice (some ⟨wr.heap.size, 0, none⟩) 1 1, .int .i64 n] W fun e w' => ∃ b, e = .returned (.slice (some ⟨b, 0, none⟩) n n) ∧ wr.heap.size + 1 ≤ b ∧ Row w' b n (List.replicate n (-1)) ∧ Below wr.heap.size wr w' := by
          rintro W rfl
          refine (f48_any (-1) n wr.heap.size 1 _ (by simp only [World.cell?, heap_alloc_new]; rfl) hn1 hn2).mono ?_
          rintro e w' ⟨b, h1, h2, h3, h4⟩
          have hs := size_alloc wr (.cells #[.int .i64 (-1)] 3)
          exact ⟨b, h1, by omega, h3, (below_alloc (Below.refl _ _) (.cells #[.int .i64 (-1)] 3)).trans (h4.mono (by omega))⟩
        have h48 := H48 _ rfl
        have HCR := Aside0.mk hCr
        have HF3 := Aside0.mk hf
        have HWR := Aside0.mk hwr
        have HWZ := Aside0.mk hwz
        clear H48 hcells hcl hcw hCi hCr hf HF hli hgd hsz1 hwr hwz
        go_wp2_with (go_at_call 48; (with_reducible refine h48.mono ?_); rintro e w5 ⟨nb, rfl, hnb, hnr, hbl⟩; have HNB := Aside0.mk hnb; have HNR := Aside0.mk hnr; have HBL := Aside0.mk hbl; clear hnb hnr hbl h48)
        obtain ⟨wo, hwo⟩ : ∃ wo : World, wo = wr := ⟨_, rfl⟩
        subst hwo
        go_loopg [34] li.length (fun kq s34 wr => ∃ (k : Nat) (p : List Int), s34 = .int .i64 k ∧ k ≤ li.length ∧ li.length - k ≤ kq ∧ Aside0 (p.length = n) ∧ Aside0 (Row wr nb n p) ∧ Aside0 (Keep (fun k => k = nb) w5 wr) ∧ Aside0 ((placeF n i (li.drop k) k p).bind (fun p => if li.length = n - 1 then readLoop n (Ls.drop (i + 1)) (i + 1) (acc ++ [p]) else none) = R))
        case atStart => exact ⟨0, _, rfl, Nat.zero_le _, by omega, ⟨by simp⟩, HNR, ⟨Keep.refl _ _⟩, HF3⟩
        case round =>
          clear HF3 HNR
          obtain ⟨k, p, rfl, hk, hkk, HPl, HP, HKq, HF⟩ := hrel
          have hbq : Below wo.heap.size wo wr := HBL.out.trans (HKq.out.below (by have := HBL.out.size; omega) (fun k hk => by have := HNB.out; omega))
          by_cases hkl : k < li.length
          · have hf := HF.out
            rw [List.drop_eq_getElem_cons hkl] at hf
            unfold placeF at hf
            obtain ⟨ad, rfl, hcx⟩ := Kd.at_int (Kd.C_below HCR.out hbq) (k : Int) (by omega) (by omega)
            have hrx : rd li (k : Int) = li[k] := by simp [rd, List.getD_eq_getElem?_getD, List.getElem?_eq_getElem hkl]
            rw [hrx] at hcx
            simp only [Int.toNat_natCast] at hcx
            obtain ⟨x, hx⟩ : ∃ x, li[k] = x := ⟨_, rfl⟩
            rw [hx] at hf hcx
            have hkx : (k : Int) < (li.length : Int) := by omega
            have hk0 : (0 : Int) ≤ (k : Int) := by omega
            have HBQ := Aside0.mk hbq
            have HFf := Aside0.mk hf
            clear hbq hf HF hrx hx
            by_cases h0 : x < 0
            · have hn0 : R = none := by
                have h := HFf.out
                rw [if_pos (Or.inl h0)] at h
                exact h.symm
              subst hn0
              go_wp2
              go_ret2
              exact ⟨rfl, HWR.out.trans (HBQ.out.mono (by have := HWR.out.size; omega))⟩
            · by_cases h1 : (n : Int) ≤ x
              · have hn0 : R = none := by
                  have h := HFf.out
                  rw [if_pos (Or.inr (Or.inl h1))] at h
                  exact h.symm
                subst hn0
                go_wp2
                go_ret2
                exact ⟨rfl, HWR.out.trans (HBQ.out.mono (by have := HWR.out.size; omega))⟩
              · by_cases h2 : x = (i : Int)
                · have hn0 : R = none := by
                    have h := HFf.out
                    rw [if_pos (Or.inr (Or.inr (Or.inl h2)))] at h
                    exact h.symm
                  subst hn0
                  subst h2
                  go_wp2
                  go_ret2
                  exact ⟨rfl, HWR.out.trans (HBQ.out.mono (by have := HWR.out.size; omega))⟩
                · obtain ⟨q, rfl⟩ := Int.eq_ofNat_of_zero_le (show 0 ≤ x by omega)
                  have hqn : q < n := by omega
                  have hqx : (q : Int) < (n : Int) := by omega
                  have hq0 : (0 : Int) ≤ (q : Int) := by omega
                  have cp := HP.out.cell q (by rw [HPl.out]; exact hqn)
                  have fp := HP.out.frozen q
                  obtain ⟨y, hy⟩ : ∃ y, p.getD q 0 = y := ⟨_, rfl⟩
                  have hf := HFf.out
                  rw [show ((q : Int)).toNat = q by omega, hy] at hf
                  rw [hy] at cp
                  have HFg := Aside0.mk hf
                  clear hf HFf hy
                  by_cases h3 : 0 ≤ y
                  · have hn0 : R = none := by
                      have h := HFg.out
                      rw [if_pos (Or.inr (Or.inr (Or.inr h3)))] at h
                      exact h.symm
                    subst hn0
                    go_wp2
                    go_ret2
                    exact ⟨rfl, HWR.out.trans (HBQ.out.mono (by have := HWR.out.size; omega))⟩
                  · have HFh : Aside0 ((placeF n i (li.drop (k + 1)) (k + 1) (p.set q k)).bind (fun p => if li.length = n - 1 then readLoop n (Ls.drop (i + 1)) (i + 1) (acc ++ [p]) else none) = R) := ⟨by
                      have h := HFg.out
                      rw [if_neg (by omega)] at h
                      exact h⟩
                    clear HFg
                    go_wp2
                    go_roundg (li.length - (k + 1))
                    case measure => omega
                    case rel => exact ⟨k + 1, p.set q k, by go_num, by omega, Nat.le_refl _, ⟨by rw [List.length_set]; exact HPl.out⟩, ⟨HP.out.set q k⟩, ⟨HKq.out.trans (Keep.set _ nb q _ rfl)⟩, HFh⟩
          · have hkl2 : k = li.length := by omega
            subst hkl2
            have hf := HF.out
            rw [List.drop_length] at hf
            simp only [placeF, Option.bind_some] at hf
            have HBQ := Aside0.mk hbq
            by_cases hll : li.length = n - 1
            · rw [if_pos hll] at hf
              have hll2 : (li.length : Int) = (n : Int) - 1 := by omega
              have hwk : IntKind.i64.wrap ((n : Int) - 1) = (n : Int) - 1 := IntWalk.i64_in _ (by omega)
              have HFf := Aside0.mk hf
              have hge : wr.heap[g]? = _ := (hbq.block g (by have := HWZ.out; omega)).trans HGv.out
              have hgc : wr.cell? ⟨g, 1, none⟩ = some v := by simp [World.cell?, hge]
              have HGE := Aside0.mk hge
              clear hf HF hbq hll hge
              rw [hll2]
              have hapos : i + 1 ≤ 1000 := by omega
              go_wp2_with ((with_reducible refine gate_builtin (b := .append) (xs := #[.tmp 72, .tmp 74]) rfl ?_); at_builtin; go_loud (refine Kd.R_append (Kd.raw 1) (w0 := wo) (g + 1) rfl (.tmp 72) (.tmp 74) 22 24 (.slice none 0 0) 24 rfl Try.underlying22 info24 rfl (by decide) (by omega) v ((List.range i).map fun k => [Value.slice (hs.getD k (none, 0)).1 (acc.getD k []).length (hs.getD k (none, 0)).2]) [.slice (some ⟨nb, 0, none⟩) n n] [.slice (some ⟨nb, 0, none⟩) n n] (fun _ => True) (fun _ => False) rfl rfl ?aP (fun _ hk => hk.elim) ?aF ?aO ?aB ?aS ?aL ?_); (case aP => go_loud (exact ⟨rfl, rfl, by simp [Value.oneCell']⟩)); (case aB => go_loud (exact (HBQ.out.mono (by have := HWZ.out; omega)))); (case aF => exact (fun _ _ => trivial)); (case aO => go_loud (exact (Kd.R_below HBu.out.row HBQ.out))); (case aS => go_loud (exact (by have := HBQ.out.size; have := HWZ.out; omega))); (case aL => go_loud (simp; omega)); intro v1 w8 ho hb hgr hat; obtain ⟨A8, c8, rfl⟩ := Kd.R_slice ho; have hq8 : w8.heap[g]? = _ := (hb.block g (by omega)).trans HGv.out; have hf8 : w8.frozen? ⟨g, 1, none⟩ = false := (by simp [World.frozen?, hq8]); have hc8 : w8.cell? ⟨g, 1, none⟩ = some v := (by simp [World.cell?, hq8]))
              go_roundg (n - (i + 1))
              case measure => omega
              case rel =>
                have K8 : Keep (fun k => k = g) W2 w8 := ⟨hb.os.trans HK.out.os, hb.tape.trans HK.out.tape, hb.output.trans HK.out.output, Nat.le_trans HK.out.size hb.size, fun k hk hn => (hb.block k (by have := HZ2.out; omega)).trans (HK.out.block k hk hn)⟩
                have eL : ∀ k, k < i → acc.getD k [] = (acc ++ [p]).getD k [] := fun k hk => by
                  rw [List.getD_eq_getElem?_getD, List.getD_eq_getElem?_getD, List.getElem?_append_left (by rw [HAl.out]; exact hk)]
                have eP : (acc ++ [p]).getD i [] = p := by
                  rw [List.getD_eq_getElem?_getD, List.getElem?_append_right (by rw [HAl.out]; exact Nat.le_refl _), HAl.out, Nat.sub_self]; rfl
                rw [List.length_append, List.length_map, List.length_range, List.length_singleton] at ho
                refine ⟨i + 1, .slice A8 (i + 1) c8, hs ++ [(some ⟨nb, 0, none⟩, n)], acc ++ [p], by go_num, by omega, Nat.le_refl _, ⟨by simp [HAl.out]⟩, ⟨?_⟩, ⟨?_⟩, ⟨K8.trans (Keep.set _ g 1 _ rfl)⟩, HFf⟩
                rotate_left
                · rw [heap_setCell_same _ g 1 _ 69 _ hq8]; rfl
                · refine Build.keep (S := fun k => k = g) ?_ (Keep.set _ g 1 _ rfl) (fun k hk => by omega)
                  have hbu := (HBu.out.below HBQ.out).congr eL
                  have eM : (List.range i).map (fun k => [Value.slice (hs.getD k (none, 0)).1 (acc.getD k []).length (hs.getD k (none, 0)).2]) = (List.range i).map (fun k => [Value.slice (hs.getD k (none, 0)).1 ((acc ++ [p]).getD k []).length (hs.getD k (none, 0)).2]) := by
                    apply List.map_congr_left
                    intro k hk
                    rw [eL k (by simpa using hk)]
                  rw [eM] at ho
                  refine hbu.snoc (W0 := wo) (A := some ⟨nb, 0, none⟩) (c := n) ?_ HWZ.out (by rw [eP, HPl.out]; exact Nat.le_refl _) (by omega) ?_ ?_ (fun k hk hne => hgr.block k hk hne) ?_
                  · intro k hk b hb
                    obtain ⟨b', cur, h1, h2, h3⟩ := HBu.out.blk k hk _ hb
                    injection h1 with h1
                    subst h1
                    exact (Array.getElem?_eq_some_iff.1 h3).1
                  · intro a ha
                    injection ha with ha
                    obtain ⟨cur, h1, h2⟩ := HP.out
                    exact ⟨nb, cur, ha.symm, by have := HNB.out; omega, h1⟩
                  · intro hne
                    rw [eP]
                    exact ⟨nb, rfl, HP.out⟩
                  · rw [eP, HPl.out]; exact ho
            · have hn0 : R = none := by
                rw [if_neg hll] at hf
                exact hf.symm
              subst hn0
              have hll2 : ¬ ((li.length : Int) = (n : Int) - 1) := by omega
              have hwk : IntKind.i64.wrap ((n : Int) - 1) = (n : Int) - 1 := IntWalk.i64_in _ (by omega)
              clear hf HF hbq hll
              go_wp2
              go_ret2
              exact ⟨rfl, HWR.out.trans (HBQ.out.mono (by have := HWR.out.size; omega))⟩
      · have hin : i = n := by omega
        subst hin
        have hf := HF.out
        rw [List.drop_of_length_le (by rw [HLn.out]; exact Nat.le_refl _)] at hf
        unfold readLoop at hf
        subst hf
        obtain ⟨bl, cl, rfl, hbl, hLists, hLB⟩ := HBu.out.lists HAl.out (by omega)
        have h0 : wr.cell? ⟨g, 0, none⟩ = some (.slice A0 i c0) := by simp [World.cell?, HGv.out]
        have h1 : wr.cell? ⟨g, 1, none⟩ = some (.slice (some ⟨bl, 0, none⟩) i cl) := by simp [World.cell?, HGv.out]
        have HRS : Aside0 (ReadS w A0 i c0 (some acc) (.returned (.tuple #[.pointer (some ⟨g, 0, none⟩), .bool true])) wr) := ⟨⟨g, bl, cl, _, _, rfl, h0, h1, hLists, HAl.out, hwr⟩⟩
        clear HBu HF h0 h1 hLists hLB
        go_wp2
        go_ret2
        exact HRS.out
end Go.Proofs.Ytilabipmgcpnjaa.Own
namespace Go.Proofs.Ytilabipmgcpnjaa.Own
open Go.RowKit Go.Proofs.YtilabipmgcpnjaaW.PrintWords Go.Proofs.YtilabipmgcpnjaaW.PrintLast Go.Proofs.YtilabipmgcpnjaaW.PrintMore
set_option linter.unusedVariables false
set_option linter.unusedSimpArgs false
theorem readLoop_lens {n : Nat} : ∀ {ls : List (List Int)} {i : Nat} {acc P : List (List Int)}, readLoop n ls i acc = some P → ∀ l ∈ ls, l.length = n - 1
  | [], _, _, _, _, l, hl => by cases hl
  | a :: r, i, acc, P, h, l, hl => by
    unfold readLoop at h
    obtain ⟨p, hp, h⟩ := Option.bind_eq_some_iff.1 h
    split at h
    · rename_i he
      rcases List.mem_cons.1 hl with rfl | hl
      · exact he
      · exact readLoop_lens h l hl
    · cases h
theorem readF_len {Ls P : List (List Int)} (h : readF Ls = some P) : 1 ≤ Ls.length ∧ Ls.length ≤ 24 := by
  unfold readF at h
  split at h
  · cases h
  · omega
theorem readF_lens {Ls P : List (List Int)} (h : readF Ls = some P) : ∀ l ∈ Ls, l.length = Ls.length - 1 := by
  unfold readF at h
  split at h
  · cases h
  · exact readLoop_lens h
/-- Partition: the next ones, and the error. -/
def pair_Partition.f (k : Nat) (l0 : List (List Int)) : Option (List Int × Int) :=
  match readF l0 with
  | none => some ([], 1)
  | some _ => (solveF k l0).map fun r => (r, 0)
set_option maxHeartbeats 4000000 in
theorem pair_Partition.calls (k : Nat) (A0 : Option Addr) (c0 : Nat) (l0 : List (List Int)) (r1 : List Int) (r2 : Int) (w : World) (hr0 : Kd.C (Kd.slice 3 (Kd.int .i64)) w A0 l0.length l0) (hc0 : l0.length ≤ c0) (h : pair_Partition.f k l0 = some (r1, r2)) :
    Calls Try.prog 25 #[.slice A0 l0.length c0] w fun e w' => ∃ v0_ : Value, e = .returned (.tuple #[v0_, .int .i64 r2]) ∧ Kd.R (Kd.int .i64) 3 w' w.heap.size (fun _ => True) v0_ r1 ∧ Below w.heap.size w w' := by
  have h41 := f41_F A0 c0 l0.length l0 w hr0 hc0
  unfold pair_Partition.f at h
  rcases hR : readF l0 with _ | P
  · rw [hR] at h h41
    simp only [Option.some.injEq, Prod.mk.injEq] at h
    obtain ⟨rfl, rfl⟩ := h
    clear hr0 hR
    go_enter Try.func25, Try.ntmps25
    go_wp2_with (go_at_call 41; (with_reducible refine h41.mono ?_); rintro e w' ⟨rfl, hb⟩)
    go_ret2
    exact ⟨_, rfl, Kd.R_nil _ _ _ _ _, hb⟩
  · rw [hR] at h h41
    simp only [Option.map_eq_some_iff, Prod.mk.injEq] at h
    obtain ⟨R, hS, rfl, rfl⟩ := h
    obtain ⟨hn1, hn2⟩ := readF_len hR
    have hln := readF_lens hR
    have HR := Aside0.mk hr0
    clear hr0 hR
    go_enter Try.func25, Try.ntmps25
    go_wp2_with (first | (go_at_call 41; (with_reducible refine h41.mono ?_); rintro e w1 ⟨rg, bl, cl, A, c, rfl, hg0, hg1, hL, hPl, hb⟩; have h42 := f42_F k rg A0 c0 l0.length l0 R w1 (Kd.C_below HR.out hb) hc0 hg0 hn1 hn2 (fun l hl => by have := hln l hl; omega) hS; clear hS hln) | (go_at_call 42; (with_reducible refine h42.mono ?_); rintro e w2 ⟨v2, rfl, hv2, hb2⟩))
    go_ret2
    exact ⟨_, rfl, Kd.R_lower hv2 hb.size, hb.trans (hb2.mono hb.size)⟩
end Go.Proofs.Ytilabipmgcpnjaa.Own
namespace Go.Proofs.Ytilabipmgcpnjaa.Own
open Go.RowKit Go.Proofs.YtilabipmgcpnjaaW.PrintWords Go.Proofs.YtilabipmgcpnjaaW.PrintLast Go.Proofs.YtilabipmgcpnjaaW.PrintMore
attribute [local go_sem] max2_int min2_int max_two min_two max_three min_three max_four min_four
set_option linter.unusedVariables false
set_option linter.unusedSimpArgs false
mutual
def pair_odd.l0 : Nat → List Int → List (List Int) → List Bool → Int → Int → Option ((List (List Int)))
  | 0, _, _, _, _, _ => none
  | k + 1, x0, x3, x4, x12, x13 => if x13 < x12 then (pair_odd.l1 k x0 x3 x4 ([] : List Int) x13 x12 x13) else (some x3)
def pair_odd.l1 : Nat → List Int → List (List Int) → List Bool → List Int → Int → Int → Int → Option ((List (List Int)))
  | 0, _, _, _, _, _, _, _ => none
  | k + 1, x0, x3, x4, x6, x7, x12, x13 => if 0 ≤ x7 then (if x7 < (x4.length : Int) then (if rdOf false x4 x7 = true then (if ((x6.length : Int) % 2) = 1 then (if x3.length < 5864062014805 then (pair_odd.l0 k x0 (x3 ++ [x6]) x4 x12 (wrap64 (x13 + 1))) else (none)) else (pair_odd.l0 k x0 x3 x4 x12 (wrap64 (x13 + 1)))) else (if x6.length < 17592186044416 then (if x7 < (x0.length : Int) then (pair_odd.l1 k x0 x3 (x4.set (x7 : Int).toNat true) (x6 ++ [x7]) (rd x0 x7) x12 x13) else (none)) else (none))) else (none)) else (none)
end
def pair_odd.f (k : Nat) (l0 : List Int) : Option ((List (List Int))) := if 0 ≤ (l0.length : Int) then (if ((l0.length : Int) : Int).toNat ≤ 281474976710656 then (pair_odd.l0 k l0 ([] : List (List Int)) (List.replicate ((l0.length : Int) : Int).toNat false) (l0.length : Int) 0) else (none)) else (none)
theorem pair_odd.mono_l : ∀ k, (∀ y0 y1 y2 y3 y4, LeO (pair_odd.l0 k y0 y1 y2 y3 y4) (pair_odd.l0 (k + 1) y0 y1 y2 y3 y4)) ∧ (∀ y0 y1 y2 y3 y4 y5 y6, LeO (pair_odd.l1 k y0 y1 y2 y3 y4 y5 y6) (pair_odd.l1 (k + 1) y0 y1 y2 y3 y4 y5 y6))
  | 0 => ⟨fun _ _ _ _ _ r h => by simp [pair_odd.l0] at h, fun _ _ _ _ _ _ _ r h => by simp [pair_odd.l1] at h⟩
  | k + 1 => by
    obtain ⟨ih0, ih1⟩ := pair_odd.mono_l k
    refine ⟨?_, ?_⟩
    · intro y0 y1 y2 y3 y4
      unfold pair_odd.l0
      repeat' first
      | (with_reducible exact ih0 _ _ _ _ _)
      | (with_reducible exact ih1 _ _ _ _ _ _ _)
      | (with_reducible exact LeO.refl _)
      | (with_reducible exact LeO.none _)
      | (with_reducible refine LeO.ite ?_ ?_)
      | (with_reducible refine LeO.bind ?_ (fun _ => ?_))
      | exact ih0 _ _ _ _ _
      | exact ih1 _ _ _ _ _ _ _
      | exact LeO.none _
      | refine LeO.ite ?_ ?_
      | refine LeO.bind ?_ (fun _ => ?_)
    · intro y0 y1 y2 y3 y4 y5 y6
      unfold pair_odd.l1
      repeat' first
      | (with_reducible exact ih0 _ _ _ _ _)
      | (with_reducible exact ih1 _ _ _ _ _ _ _)
      | (with_reducible exact LeO.refl _)
      | (with_reducible exact LeO.none _)
      | (with_reducible refine LeO.ite ?_ ?_)
      | (with_reducible refine LeO.bind ?_ (fun _ => ?_))
      | exact ih0 _ _ _ _ _
      | exact ih1 _ _ _ _ _ _ _
      | exact LeO.none _
      | refine LeO.ite ?_ ?_
      | refine LeO.bind ?_ (fun _ => ?_)
theorem pair_odd.mono : ∀ a0 k, LeO (pair_odd.f k a0) (pair_odd.f (k + 1) a0) := by
  intro a0 k
  obtain ⟨ih0, ih1⟩ := pair_odd.mono_l k
  unfold pair_odd.f
  repeat' first
      | (with_reducible exact ih0 _ _ _ _ _)
      | (with_reducible exact ih1 _ _ _ _ _ _ _)
      | (with_reducible exact LeO.refl _)
      | (with_reducible exact LeO.none _)
      | (with_reducible refine LeO.ite ?_ ?_)
      | (with_reducible refine LeO.bind ?_ (fun _ => ?_))
      | exact ih0 _ _ _ _ _
      | exact ih1 _ _ _ _ _ _ _
      | exact LeO.none _
      | refine LeO.ite ?_ ?_
      | refine LeO.bind ?_ (fun _ => ?_)
set_option maxHeartbeats 8000000 in
set_option maxRecDepth 100000 in
theorem pair_odd.calls (k : Nat) (A0 : Option Addr) (c0 : Nat) (l0 : List Int) (r : List (List Int)) (w : World) (hr0 : Kd.C (Kd.int .i64) w A0 l0.length l0) (hc0 : l0.length ≤ c0) (h : pair_odd.f k l0 = some r) :
    Calls Try.prog 33 #[.slice A0 l0.length c0] w fun e w' => ∃ v0_ : Value, e = .returned (v0_) ∧ Kd.S (Kd.slice 3 (Kd.int .i64)) 24 w' w.heap.size (fun _ => True) v0_ r ∧ Below w.heap.size w w' := by
  have HR0 := Aside0.mk hr0
  have HC0 := Aside0.mk hc0
  clear hr0 hc0
  have HB := Aside0.mk (Below.refl w.heap.size w)
  have H : (if 0 ≤ (l0.length : Int) then (if ((l0.length : Int) : Int).toNat ≤ 281474976710656 then (pair_odd.l0 k l0 ([] : List (List Int)) (List.replicate ((l0.length : Int) : Int).toNat false) (l0.length : Int) 0) else (none)) else (none)) = some r := h
  clear h
  by_cases c2 : 0 ≤ (l0.length : Int)
  · rw [if_pos c2] at H
    have c2b0 := eq_true c2
    have c2b1 : decide (0 ≤ (l0.length : Int)) = true := decide_eq_true c2
    clear c2
    by_cases c3 : ((l0.length : Int) : Int).toNat ≤ 281474976710656
    · rw [if_pos c3] at H
      have c3b0 := eq_true c3
      have c3b1 : decide (((l0.length : Int) : Int).toNat ≤ 281474976710656) = true := decide_eq_true c3
      clear c3
      obtain ⟨y133, hy133⟩ : ∃ y_ : List Bool, y_ = (List.replicate ((l0.length : Int) : Int).toNat false) := ⟨_, rfl⟩
      replace H : (pair_odd.l0 k l0 ([] : List (List Int)) y133 (l0.length : Int) 0) = some r := by first | (rw [hy133]; with_reducible exact H) | (have H2_ := (Option.bind_some _ _).symm.trans H; rw [hy133]; with_reducible exact H2_) | (have H2_ := (Option.bind_some _ _).symm.trans H; with_reducible exact H2_) | with_reducible exact H | (rw [hy133]; exact H) | exact H
      have Ny133 := Aside0.mk hy133
      clear hy133
      have H' := Aside0.mk H
      clear H
      go_enter Try.func33, Try.ntmps33
      go_wp2_with (first | ((with_reducible refine gate_dst (N := 10) rfl ?_); refine Kd.R_make Kd.bool _ 4 rfl (N := 10) rfl 66 _ _ rfl (l0.length : Int) rfl rfl Try.underlying66 (.bool false) 1 info4 rfl (by decide) (by omega) false (ok := fun _ => True) (okp := fun _ => True) rfl (fun _ hk => hk) trivial (of_decide_eq_true (by first | (with_reducible assumption) | assumption)) (Nat.le_trans (Nat.mul_le_mul_right _ (of_decide_eq_true (by first | (with_reducible assumption) | assumption) : (l0.length : Int).toNat ≤ 281474976710656)) (by omega)) (Below.refl _ _) (Nat.le_refl _) ?_; intro v134 w4 ho5 hb hg_ hnew_; clear hg_ hnew_; (first | rw [← Ny133.out] at ho5 | (simp only [Int.reduceToNat] at ho5; rw [← Ny133.out] at ho5)); have n0_ := Aside0.mk (Kd.R_lower ho5 (below_size (by repeat (first | (with_reducible first | exact HB.out | apply below_alloc | apply pw_below_drewN | apply below_drew1) | exact HB.out)))); have n1_ := Aside0.mk (below_step (by repeat (first | (with_reducible first | exact HB.out | apply below_alloc | apply pw_below_drewN | apply below_drew1) | exact HB.out)) hb); clear HB; have HO135 := n0_; have HB := n1_; clear n0_ n1_; clear hb ho5))
      go_loopg [3, 13] k (fun kq v3 v13 w' => ∃ (x3_1 : List (List Int)) (x4_1 : List Bool) (x13_1 : Int), v13 = .int .i64 x13_1 ∧ Aside0 (pair_odd.l0 kq l0 x3_1 x4_1 (l0.length : Int) x13_1 = some r) ∧ Aside0 (kq ≤ k) ∧ Aside0 (Kd.S (Kd.slice 3 (Kd.int .i64)) 24 w' w.heap.size (fun _ => True) v3 x3_1) ∧ Aside0 (Kd.R Kd.bool 4 w' w.heap.size (fun _ => True) v134 x4_1) ∧ Aside0 (Below w.heap.size w w'))
      case atStart => exact ⟨(([] : List (List Int))), (y133), (0), (by first | rfl | (simp; done) | (simp [*]; done)), H', ⟨Nat.le_refl _⟩, ⟨by first | exact Kd.S_nil _ _ _ _ _ | exact Kd.N_nil _ _ _ _ _ | exact Kd.V_nil _ _ _ _ _ | exact Kd.Q_nil _ _ _ _ _ | exact Kd.R_nil _ _ _ _ _⟩, ⟨by (with_reducible repeat (first | apply Kd.R_alloc | apply Kd.R_drewN | apply Kd.R_drew)); exact HO135.out⟩, ⟨by repeat (first | (with_reducible first | exact HB.out | apply below_alloc | apply pw_below_drewN | apply below_drew1) | exact HB.out)⟩⟩
      case round =>
        clear H'
        try clear c2
        try clear c2b0
        try clear c2b1
        try clear p2
        try clear c3
        try clear c3b0
        try clear c3b1
        obtain ⟨x3_1, x4_1, x13_1, rfl, HA, HK1, HO_3, HO_4, HB⟩ := hrel
        cases gk with
        | zero => exact absurd HA.out (by simp [pair_odd.l0])
        | succ k1 =>
          have H := HA.out
          clear HA
          simp only [pair_odd.l0] at H
          by_cases c6 : x13_1 < (l0.length : Int)
          · rw [if_pos c6] at H
            have c6b0 : decide (x13_1 < (l0.length : Int)) = true := decide_eq_true c6
            clear c6
            have H' := Aside0.mk H
            clear H
            go_wp2
            go_loopg [6, 7] k1 (fun kq v6 v7 w' => ∃ (x4_2 : List Bool) (x6_2 : List Int) (x7_2 : Int), v7 = .int .i64 x7_2 ∧ Aside0 (pair_odd.l1 kq l0 x3_1 x4_2 x6_2 x7_2 (l0.length : Int) x13_1 = some r) ∧ Aside0 (kq ≤ k1) ∧ Aside0 (Kd.S (Kd.slice 3 (Kd.int .i64)) 24 w' w.heap.size (fun k_ => some k_ ≠ (v6 : Value).ownBlock) u3 x3_1) ∧ Aside0 (Kd.R Kd.bool 4 w' w.heap.size (fun _ => True) v134 x4_2) ∧ Aside0 (Kd.R (Kd.int .i64) 3 w' w.heap.size (fun _ => True) v6 x6_2) ∧ Aside0 (Below w.heap.size w w'))
            case atStart => exact ⟨(x4_1), (([] : List Int)), (x13_1), (by first | rfl | (simp; done) | (simp [*]; done)), H', ⟨Nat.le_refl _⟩, ⟨by (with_reducible repeat (first | apply Kd.S_alloc | apply Kd.S_drewN | apply Kd.S_drew)); exact Kd.S_mono HO_3.out (fun _ hk => (by simp [Value.ownBlock]))⟩, ⟨by (with_reducible repeat (first | apply Kd.R_alloc | apply Kd.R_drewN | apply Kd.R_drew)); exact HO_4.out⟩, ⟨by first | exact Kd.R_nil _ _ _ _ _ | exact Kd.N_nil _ _ _ _ _ | exact Kd.V_nil _ _ _ _ _ | exact Kd.Q_nil _ _ _ _ _ | exact Kd.S_nil _ _ _ _ _⟩, ⟨by repeat (first | (with_reducible first | exact HB.out | apply below_alloc | apply pw_below_drewN | apply below_drew1) | exact HB.out)⟩⟩
            case round =>
              clear H'
              try clear c2
              try clear c2b0
              try clear c2b1
              try clear p2
              try clear c3
              try clear c3b0
              try clear c3b1
              try clear c6
              try clear c6b0
              try clear p2
              obtain ⟨x4_2, x6_2, x7_2, rfl, HA, HK2, HO_3, HO_4, HO_6, HB⟩ := hrel
              cases gk with
              | zero => exact absurd HA.out (by simp [pair_odd.l1])
              | succ k2 =>
                have H := HA.out
                clear HA
                simp only [pair_odd.l1] at H
                by_cases c7 : 0 ≤ x7_2
                · rw [if_pos c7] at H
                  have c7b0 : decide (0 ≤ x7_2) = true := decide_eq_true c7
                  clear c7
                  by_cases c8 : x7_2 < (x4_2.length : Int)
                  · rw [if_pos c8] at H
                    have c8b0 : decide (x7_2 < (x4_2.length : Int)) = true := decide_eq_true c8
                    clear c8
                    obtain ⟨bq9, hbq9⟩ : ∃ b_ : Bool, b_ = (rdOf false x4_2 x7_2) := ⟨_, rfl⟩
                    replace H : (if bq9 = true then (if ((x6_2.length : Int) % 2) = 1 then (if x3_1.length < 5864062014805 then (pair_odd.l0 k2 l0 (x3_1 ++ [x6_2]) x4_2 (l0.length : Int) (wrap64 (x13_1 + 1))) else (none)) else (pair_odd.l0 k2 l0 x3_1 x4_2 (l0.length : Int) (wrap64 (x13_1 + 1)))) else (if x6_2.length < 17592186044416 then (if x7_2 < (l0.length : Int) then (pair_odd.l1 k2 l0 x3_1 (x4_2.set (x7_2 : Int).toNat true) (x6_2 ++ [x7_2]) (rd l0 x7_2) (l0.length : Int) x13_1) else (none)) else (none))) = some r := by rw [← hbq9] at H; exact H
                    have Nbq9 := Aside0.mk hbq9
                    clear hbq9
                    by_cases c10 : bq9 = true
                    · subst c10
                      have H1 : (if ((x6_2.length : Int) % 2) = 1 then (if x3_1.length < 5864062014805 then (pair_odd.l0 k2 l0 (x3_1 ++ [x6_2]) x4_2 (l0.length : Int) (wrap64 (x13_1 + 1))) else (none)) else (pair_odd.l0 k2 l0 x3_1 x4_2 (l0.length : Int) (wrap64 (x13_1 + 1)))) = some r := by rw [if_pos rfl] at H; exact H
                      clear H
                      have H := H1
                      clear H1
                      by_cases c11 : ((x6_2.length : Int) % 2) = 1
                      · rw [if_pos c11] at H
                        have c11b0 : (((x6_2.length : Int) % 2) == 1) = true := beq_iff_eq.mpr c11
                        have c11b1 : (((x6_2.length : Int) % 2) != 1) = false := bne_eq_false_iff_eq.mpr c11
                        clear c11
                        by_cases c12 : x3_1.length < 5864062014805
                        · rw [if_pos c12] at H
                          have LMc12 := Aside0.mk c12
                          clear c12
                          obtain ⟨y137, hy137⟩ : ∃ y_ : List (List Int), y_ = (x3_1 ++ [x6_2]) := ⟨_, rfl⟩
                          replace H : (pair_odd.l0 k2 l0 y137 x4_2 (l0.length : Int) (wrap64 (x13_1 + 1))) = some r := by first | (rw [hy137]; with_reducible exact H) | (have H2_ := (Option.bind_some _ _).symm.trans H; rw [hy137]; with_reducible exact H2_) | (have H2_ := (Option.bind_some _ _).symm.trans H; with_reducible exact H2_) | with_reducible exact H | (rw [hy137]; exact H) | exact H
                          have Ny137 := Aside0.mk hy137
                          clear hy137
                          have H' := Aside0.mk H
                          clear H
                          obtain ⟨Ao13, co13, eo13⟩ := Kd.R_slice HO_4.out
                          subst eo13
                          have p136 : 0 ≤ (x7_2 : Int) := of_decide_eq_true (by first | (with_reducible assumption) | assumption)
                          have q136 : x7_2 < (x4_2.length : Int) := of_decide_eq_true (by first | (with_reducible assumption) | assumption)
                          obtain ⟨ad136, e136, hx136_0⟩ := Kd.at_bool (Kd.R_reads' HO_4.out).2.2 x7_2 p136 q136
                          (try rw [← Nbq9.out] at hx136_0)
                          cases e136
                          replace p136 := eq_true p136
                          replace q136 := eq_true q136
                          obtain ⟨Ao14, co14, eo14⟩ := Kd.R_slice HO_6.out
                          subst eo14
                          go_wp2_with (first | ((with_reducible refine gate_builtin (b := .append) (xs := #[.tmp 37, .tmp 39]) rfl ?_); at_builtin; refine Kd.S_append (Kd.slice 3 (Kd.int .i64)) (w0 := w) w.heap.size rfl (.tmp 37) (.tmp 39) 22 24 (.slice none 0 0) 24 rfl Try.underlying22 info24 rfl (by decide) (by omega) u3 x3_1 x6_2 [.slice Ao14 x6_2.length co14] (fun _ => True) (fun k_ => some k_ = (.slice Ao14 x6_2.length co14 : Value).ownBlock) rfl rfl ?aP (fun k_ hk_ => ((Kd.R_mono (ok' := fun k_ => ((fun _ => True)) k_ ∧ some k_ ≠ (u3 : Value).ownBlock) (Kd.R_apart' (HO_6.out) (Kd.S_typed HO_3.out) (by decide)) (fun k_ hk => ⟨trivial, hk.2⟩))).1 k_ hk_.symm) ?aF ?aO ?aB ?aS ?aL ?_; (case aP => exact Kd.M_row (Kd.R_mono (Kd.R_tight rfl (Kd.R_mono (ok' := fun k_ => ((fun _ => True)) k_ ∧ some k_ ≠ (u3 : Value).ownBlock) (Kd.R_apart' (HO_6.out) (Kd.S_typed HO_3.out) (by decide)) (fun k_ hk => ⟨trivial, hk.2⟩))) (fun _ h_ => h_))); (case aB => exact (by repeat (first | (with_reducible first | exact HB.out | apply below_alloc | apply pw_below_drewN | apply below_drew1) | exact HB.out))); (case aF => exact (fun _ _ => trivial)); (case aO => exact (by (with_reducible repeat (first | apply Kd.S_alloc | apply Kd.S_drewN | apply Kd.S_drew)); exact Kd.S_mono HO_3.out (fun k_ hk => ⟨trivial, fun e_ => hk e_⟩))); (case aS => exact (below_size (by repeat (first | (with_reducible first | exact HB.out | apply below_alloc | apply pw_below_drewN | apply below_drew1) | exact HB.out)))); (case aL => have := LMc12.out; omega); intro v138 w15 ho hb hg hat; rw [← Ny137.out] at ho; have n0_ := Aside0.mk (Kd.R_over' (by (with_reducible repeat (first | apply Kd.R_alloc | apply Kd.R_drewN | apply Kd.R_drew)); exact HO_4.out) (Kd.S_typed (by (with_reducible repeat (first | apply Kd.S_alloc | apply Kd.S_drewN | apply Kd.S_drew)); exact HO_3.out)) (by decide) hg); have n1_ := Aside0.mk (hb); have n2_ := Aside0.mk (ho); clear HO_4; clear HB; clear HO_3; clear HO_6; have HO_4 := n0_; have HB := n1_; have HO139 := n2_; clear n0_ n1_ n2_; clear ho hb hg hat))
                          go_roundg k2
                          case measure => have := HK1.out; have := HK2.out; omega
                          case rel => exact ⟨(y137), (x4_2), (wrap64 (x13_1 + 1)), (by first | rfl | (simp; done) | (simp [*]; done)), H', ⟨by have := HK1.out; have := HK2.out; omega⟩, ⟨by (with_reducible repeat (first | apply Kd.S_alloc | apply Kd.S_drewN | apply Kd.S_drew)); exact HO139.out⟩, ⟨by (with_reducible repeat (first | apply Kd.R_alloc | apply Kd.R_drewN | apply Kd.R_drew)); exact HO_4.out⟩, ⟨by repeat (first | (with_reducible first | exact HB.out | apply below_alloc | apply pw_below_drewN | apply below_drew1) | exact HB.out)⟩⟩
                        · rw [if_neg c12] at H
                          exact absurd H (by simp)
                      · rw [if_neg c11] at H
                        have c11b0 : (((x6_2.length : Int) % 2) == 1) = false := beq_eq_false_iff_ne.mpr c11
                        have c11b1 : (((x6_2.length : Int) % 2) != 1) = true := bne_iff_ne.mpr c11
                        have H' := Aside0.mk H
                        clear H
                        obtain ⟨Ao16, co16, eo16⟩ := Kd.R_slice HO_4.out
                        subst eo16
                        have p136 : 0 ≤ (x7_2 : Int) := of_decide_eq_true (by first | (with_reducible assumption) | assumption)
                        have q136 : x7_2 < (x4_2.length : Int) := of_decide_eq_true (by first | (with_reducible assumption) | assumption)
                        obtain ⟨ad136, e136, hx136_0⟩ := Kd.at_bool (Kd.R_reads' HO_4.out).2.2 x7_2 p136 q136
                        (try rw [← Nbq9.out] at hx136_0)
                        cases e136
                        replace p136 := eq_true p136
                        replace q136 := eq_true q136
                        obtain ⟨Ao17, co17, eo17⟩ := Kd.R_slice HO_6.out
                        subst eo17
                        go_wp2
                        go_roundg k2
                        case measure => have := HK1.out; have := HK2.out; omega
                        case rel => exact ⟨(x3_1), (x4_2), (wrap64 (x13_1 + 1)), (by first | rfl | (simp; done) | (simp [*]; done)), H', ⟨by have := HK1.out; have := HK2.out; omega⟩, ⟨by (with_reducible repeat (first | apply Kd.S_alloc | apply Kd.S_drewN | apply Kd.S_drew)); exact Kd.S_mono HO_3.out (fun _ hk => trivial)⟩, ⟨by (with_reducible repeat (first | apply Kd.R_alloc | apply Kd.R_drewN | apply Kd.R_drew)); exact HO_4.out⟩, ⟨by repeat (first | (with_reducible first | exact HB.out | apply below_alloc | apply pw_below_drewN | apply below_drew1) | exact HB.out)⟩⟩
                    · replace c10 := Bool.eq_false_iff.mpr c10
                      subst c10
                      have H1 : (if x6_2.length < 17592186044416 then (if x7_2 < (l0.length : Int) then (pair_odd.l1 k2 l0 x3_1 (x4_2.set (x7_2 : Int).toNat true) (x6_2 ++ [x7_2]) (rd l0 x7_2) (l0.length : Int) x13_1) else (none)) else (none)) = some r := by rw [if_neg (show ¬ (false = true) by decide)] at H; exact H
                      clear H
                      have H := H1
                      clear H1
                      obtain ⟨y140, hy140⟩ : ∃ y_ : List Bool, y_ = (x4_2.set (x7_2 : Int).toNat true) := ⟨_, rfl⟩
                      replace H : (if x6_2.length < 17592186044416 then (if x7_2 < (l0.length : Int) then (pair_odd.l1 k2 l0 x3_1 y140 (x6_2 ++ [x7_2]) (rd l0 x7_2) (l0.length : Int) x13_1) else (none)) else (none)) = some r := by first | (rw [hy140]; with_reducible exact H) | (have H2_ := (Option.bind_some _ _).symm.trans H; rw [hy140]; with_reducible exact H2_) | (have H2_ := (Option.bind_some _ _).symm.trans H; with_reducible exact H2_) | with_reducible exact H | (rw [hy140]; exact H) | exact H
                      have Ny140 := Aside0.mk hy140
                      clear hy140
                      by_cases c19 : x6_2.length < 17592186044416
                      · rw [if_pos c19] at H
                        have LMc19 := Aside0.mk c19
                        clear c19
                        obtain ⟨y141, hy141⟩ : ∃ y_ : List Int, y_ = (x6_2 ++ [x7_2]) := ⟨_, rfl⟩
                        replace H : (if x7_2 < (l0.length : Int) then (pair_odd.l1 k2 l0 x3_1 y140 y141 (rd l0 x7_2) (l0.length : Int) x13_1) else (none)) = some r := by first | (rw [hy141]; with_reducible exact H) | (have H2_ := (Option.bind_some _ _).symm.trans H; rw [hy141]; with_reducible exact H2_) | (have H2_ := (Option.bind_some _ _).symm.trans H; with_reducible exact H2_) | with_reducible exact H | (rw [hy141]; exact H) | exact H
                        have Ny141 := Aside0.mk hy141
                        clear hy141
                        by_cases c20 : x7_2 < (l0.length : Int)
                        · rw [if_pos c20] at H
                          have c20b0 : decide (x7_2 < (l0.length : Int)) = true := decide_eq_true c20
                          clear c20
                          have H' := Aside0.mk H
                          clear H
                          obtain ⟨Ao21, co21, eo21⟩ := Kd.R_slice HO_4.out
                          subst eo21
                          have p136 : 0 ≤ (x7_2 : Int) := of_decide_eq_true (by first | (with_reducible assumption) | assumption)
                          have q136 : x7_2 < (x4_2.length : Int) := of_decide_eq_true (by first | (with_reducible assumption) | assumption)
                          obtain ⟨ad136, e136, hx136_0⟩ := Kd.at_bool (Kd.R_reads' HO_4.out).2.2 x7_2 p136 q136
                          (try rw [← Nbq9.out] at hx136_0)
                          cases e136
                          replace p136 := eq_true p136
                          replace q136 := eq_true q136
                          have p18 : 0 ≤ (x7_2 : Int) := of_decide_eq_true (by first | (with_reducible assumption) | assumption)
                          have q18 : (x7_2 : Int) < ((x4_2.length : Int) : Int) := of_decide_eq_true (by first | (with_reducible assumption) | assumption)
                          obtain ⟨go18, co18, eo18, gb18, gl18, cl18, HG18⟩ := Kd.R_form HO_4.out (by omega)
                          (first | cases eo18 | (injection eo18 with ea_ en_ ec_; (first | subst ea_ | (injection ea_ with ea_; subst ea_)); subst ec_; clear en_))
                          have GB18 := Aside0.mk gb18
                          have GG18 := Aside0.mk HG18
                          clear gb18 gl18 HG18
                          (first | simp only [add_plain] at hx136_0 | skip)
                          obtain ⟨hx18_0, hf18_0⟩ := Kd.R_celln false HO_4.out (x7_2 : Int) p18 q18
                          replace p18 := eq_true p18
                          replace q18 := eq_true q18
                          have HP22 := Kd.R_putg HO_4.out (x7_2 : Int) true
                          go_wp2_with (first | ((with_reducible refine gate_store (t := 4) (p := 28) rfl ?_); refine store_event (t := 4) (p := 28) (v := ?vo_w23) (w1 := (wr.setCell ⟨go18, (x7_2 : Int).toNat, none⟩ (.bool true))) ?hg ?ho ?hn ?hr ?_; (case ho => rfl); (case hg => rfl); (case hn => rfl); (case hr => first | (go_simp; done) | (go_simp; rfl)); intro w23 hw; have hg : wr.grownBy w23 (some go18) := (by rw [hw]; exact HP22.2); have hp_ : Kd.R Kd.bool 4 w23 w.heap.size (fun _ => True) (.slice (some ⟨go18, 0, none⟩) x4_2.length co21) y140 := (by rw [hw, Ny140.out]; exact HP22.1); clear HP22; have n0_ := Aside0.mk (Kd.S_over' (v := (.slice (some ⟨go18, 0, none⟩) x4_2.length co21)) (by (with_reducible repeat (first | apply Kd.S_alloc | apply Kd.S_drewN | apply Kd.S_drew)); exact HO_3.out) (Kd.R_typed HO_4.out) (by decide) hg); have n1_ := Aside0.mk (hp_); have n2_ := Aside0.mk (Kd.R_over' (v := (.slice (some ⟨go18, 0, none⟩) x4_2.length co21)) (by (with_reducible repeat (first | apply Kd.R_alloc | apply Kd.R_drewN | apply Kd.R_drew)); exact HO_6.out) (Kd.R_typed HO_4.out) (by decide) hg); have n3_ := Aside0.mk ((by rw [hw]; exact below_set (HB.out) GB18.out : Below w.heap.size w w23)); clear HO_3; clear HO_4; clear HO_6; clear HB; have HO_3 := n0_; have HO_4 := n1_; have HO_6 := n2_; have HB := n3_; clear n0_ n1_ n2_ n3_; clear hg hw hp_) | ((with_reducible refine gate_builtin (b := .append) (xs := #[.tmp 29, .tmp 31]) rfl ?_); at_builtin; refine Kd.R_append (Kd.int .i64) (w0 := w) w.heap.size rfl (.tmp 29) (.tmp 31) 24 3 (.int .i64 0) 8 rfl Try.underlying24 info3 rfl (by decide) (by omega) u6 x6_2 x7_2 [.int .i64 x7_2] (fun _ => True) (fun _ => False) rfl rfl ?aP (fun _ hk => hk.elim) ?aF ?aO ?aB ?aS ?aL ?_; (case aP => exact rfl); (case aB => exact (by repeat (first | (with_reducible first | exact HB.out | apply below_alloc | apply pw_below_drewN | apply below_drew1) | exact HB.out))); (case aF => exact (fun _ _ => trivial)); (case aO => exact (by (with_reducible repeat (first | apply Kd.R_alloc | apply Kd.R_drewN | apply Kd.R_drew)); exact HO_6.out)); (case aS => exact (below_size (by repeat (first | (with_reducible first | exact HB.out | apply below_alloc | apply pw_below_drewN | apply below_drew1) | exact HB.out)))); (case aL => have := LMc19.out; omega); intro v142 w24 ho hb hg hat; rw [← Ny141.out] at ho; have n0_ := Aside0.mk (Kd.S_after (ok := (fun _ => True)) (by (with_reducible repeat (first | apply Kd.S_alloc | apply Kd.S_drewN | apply Kd.S_drew)); exact Kd.S_mono HO_3.out (fun _ hk => ⟨trivial, hk⟩)) hg hat); have n1_ := Aside0.mk (Kd.R_over' (by (with_reducible repeat (first | apply Kd.R_alloc | apply Kd.R_drewN | apply Kd.R_drew)); exact HO_4.out) (Kd.R_typed (by (with_reducible repeat (first | apply Kd.R_alloc | apply Kd.R_drewN | apply Kd.R_drew)); exact HO_6.out)) (by decide) hg); have n2_ := Aside0.mk (hb); have n3_ := Aside0.mk (ho); clear HO_3; clear HO_4; clear HB; clear HO_6; have HO_3 := n0_; have HO_4 := n1_; have HB := n2_; have HO143 := n3_; clear n0_ n1_ n2_ n3_; clear ho hb hg hat; have p144 : 0 ≤ (x7_2 : Int) := of_decide_eq_true (by first | (with_reducible assumption) | assumption); have q144 : x7_2 < (l0.length : Int) := of_decide_eq_true (by first | (with_reducible assumption) | assumption); obtain ⟨ad144, e144, hx144_0⟩ := Kd.at_int HR0.out x7_2 p144 q144; cases e144; replace hx144_0 := (HB.out.cell (World.block_lt_of_cell? w _ hx144_0)).trans hx144_0; replace p144 := eq_true p144; replace q144 := eq_true q144))
                          go_roundg k2
                          case measure => have := HK1.out; have := HK2.out; omega
                          case rel => exact ⟨(y140), (y141), (rd l0 x7_2), (by first | rfl | (simp; done) | (simp [*]; done)), H', ⟨by have := HK1.out; have := HK2.out; omega⟩, ⟨by (with_reducible repeat (first | apply Kd.S_alloc | apply Kd.S_drewN | apply Kd.S_drew)); exact Kd.S_mono HO_3.out (fun _ hk => hk.2)⟩, ⟨by (with_reducible repeat (first | apply Kd.R_alloc | apply Kd.R_drewN | apply Kd.R_drew)); exact HO_4.out⟩, ⟨by (with_reducible repeat (first | apply Kd.R_alloc | apply Kd.R_drewN | apply Kd.R_drew)); exact HO143.out⟩, ⟨by repeat (first | (with_reducible first | exact HB.out | apply below_alloc | apply pw_below_drewN | apply below_drew1) | exact HB.out)⟩⟩
                        · rw [if_neg c20] at H
                          exact absurd H (by simp)
                      · rw [if_neg c19] at H
                        exact absurd H (by simp)
                  · rw [if_neg c8] at H
                    exact absurd H (by simp)
                · rw [if_neg c7] at H
                  exact absurd H (by simp)
          · rw [if_neg c6] at H
            have c6b0 : decide (x13_1 < (l0.length : Int)) = false := decide_eq_false c6
            clear c6
            obtain rfl := Option.some.inj H
            go_wp2
            go_ret
            exact ⟨_, by first | rfl | (simp [errW_none, errW_some] <;> rfl) | (simp [*, errW_none, errW_some] <;> rfl), by (with_reducible repeat (first | apply Kd.S_alloc | apply Kd.S_drewN | apply Kd.S_drew)); exact HO_3.out, by repeat (first | (with_reducible first | exact HB.out | apply below_alloc | apply pw_below_drewN | apply below_drew1) | exact HB.out)⟩
    · rw [if_neg c3] at H
      exact absurd H (by simp)
  · rw [if_neg c2] at H
    exact absurd H (by simp)
/-- Odd: the odd parties, and the error. -/
def pair_Odd.f (k : Nat) (l0 : List (List Int)) : Option (List (List Int) × Int) :=
  match readF l0 with
  | none => some ([], 1)
  | some _ => (solveF k l0).bind fun r => (pair_odd.f k r).map fun o => (o, 0)
set_option maxHeartbeats 4000000 in
theorem pair_Odd.calls (k : Nat) (A0 : Option Addr) (c0 : Nat) (l0 : List (List Int)) (r1 : List (List Int)) (r2 : Int) (w : World) (hr0 : Kd.C (Kd.slice 3 (Kd.int .i64)) w A0 l0.length l0) (hc0 : l0.length ≤ c0) (h : pair_Odd.f k l0 = some (r1, r2)) :
    Calls Try.prog 14 #[.slice A0 l0.length c0] w fun e w' => ∃ v0_ : Value, e = .returned (.tuple #[v0_, .int .i64 r2]) ∧ Kd.S (Kd.slice 3 (Kd.int .i64)) 24 w' w.heap.size (fun _ => True) v0_ r1 ∧ Below w.heap.size w w' := by
  unfold pair_Odd.f at h
  rcases hR : readF l0 with _ | P
  · rw [hR] at h
    simp only [Option.some.injEq, Prod.mk.injEq] at h
    obtain ⟨rfl, rfl⟩ := h
    have h25 := pair_Partition.calls k A0 c0 l0 [] 1 w hr0 hc0 (by unfold pair_Partition.f; rw [hR])
    clear hr0 hR
    go_enter Try.func14, Try.ntmps14
    go_wp2_with (go_at_call 25; (with_reducible refine h25.mono ?_); rintro e w' ⟨v, rfl, hv, hb⟩)
    go_ret2
    exact ⟨_, rfl, Kd.S_nil _ _ _ _ _, hb⟩
  · rw [hR] at h
    simp only [Option.bind_eq_some_iff, Option.map_eq_some_iff, Prod.mk.injEq] at h
    obtain ⟨R, hS, o, ho, rfl, rfl⟩ := h
    have h25 := pair_Partition.calls k A0 c0 l0 R 0 w hr0 hc0 (by unfold pair_Partition.f; rw [hR]; simp [hS])
    have HO := Aside0.mk ho
    clear hr0 hR ho hS
    go_enter Try.func14, Try.ntmps14
    go_wp2_with (first | (go_at_call 25; (with_reducible refine h25.mono ?_); rintro e w1 ⟨v, rfl, hv, hb⟩; obtain ⟨A1, c1, rfl, hc1, hC1⟩ := Kd.R_reads hv; have h33 := pair_odd.calls k A1 c1 R o w1 hC1 hc1 HO.out; clear hC1 hv) | (go_at_call 33; (with_reducible refine h33.mono ?_); rintro e w2 ⟨v2, rfl, hv2, hb2⟩))
    go_ret2
    exact ⟨_, rfl, Kd.S_lower hv2 hb.size, hb.trans (hb2.mono hb.size)⟩
end Go.Proofs.Ytilabipmgcpnjaa.Own
namespace Go.Proofs.Ytilabipmgcpnjaa.Own
open Go.RowKit Go.Proofs.YtilabipmgcpnjaaW.PrintWords Go.Proofs.YtilabipmgcpnjaaW.PrintLast Go.Proofs.YtilabipmgcpnjaaW.PrintMore
set_option linter.unusedVariables false
set_option linter.unusedSimpArgs false
theorem f34_any (A : Option Addr) (n c : Nat) (w : World) (hc : n ≤ c) : Calls Try.prog 34 #[.slice A n c] w fun e w' => e = .returned (.bool (decide (1 < (n : Int)))) ∧ w = w' := by
  go_enter Try.func34, Try.ntmps34
  go_wp2
  go_ret
  exact ⟨rfl, rfl⟩
/-- Some list has two elements or more. -/
def longF (o : List (List Int)) : Bool := o.any fun p => decide (1 < (p.length : Int))
set_option maxHeartbeats 1000000 in
theorem f47_any (A0 : Option Addr) (c0 n : Nat) (o : List (List Int)) (w : World) (hr : Kd.C (Kd.slice 3 (Kd.int .i64)) w A0 n o) (hc0 : n ≤ c0) :
    Calls Try.prog 47 #[.slice A0 n c0, .func (.func 34) #[] #[]] w fun e w' => ∃ z : Int, e = .returned (.int .i64 z) ∧ (decide (0 ≤ z) = longF o) ∧ w = w' := by
  have hlen : o.length = n := hr.1
  have hmx : n ≤ 9223372036854775807 := hr.2.1
  have HR := Aside0.mk hr
  have HL := Aside0.mk hlen
  clear hr hlen
  go_enter Try.func47, Try.ntmps47
  go_wp2
  go_loopg [8] n (fun kq s8 wr => ∃ i : Nat, s8 = .int .i64 i ∧ i ≤ n ∧ n - i ≤ kq ∧ wr = w ∧ Aside0 (longF (o.drop i) = longF o))
  case atStart => exact ⟨0, rfl, Nat.zero_le _, by omega, rfl, ⟨rfl⟩⟩
  case round =>
    obtain ⟨i, rfl, hi, hgg, rfl, HP⟩ := hrel
    by_cases hlt : i < n
    · obtain ⟨ad, cc, rfl, hcl, hK, hcells⟩ := Kd.C_get HR.out ([] : List Int) (i : Int) (by omega) (by omega)
      obtain ⟨Ai, ci, rfl, hci, hCi⟩ := hK
      have hcw := hcells 0 _ rfl
      have hsz1 : (Kd.slice 3 (Kd.int .i64)).sz = 1 := rfl
      simp only [Int.toNat_natCast] at hcw hci hCi
      rw [hsz1, Nat.mul_one, Nat.add_zero] at hcw
      obtain ⟨li, hli⟩ : ∃ li, o[i]'(by rw [HL.out]; exact hlt) = li := ⟨_, rfl⟩
      have hgd : o.getD i [] = li := by rw [List.getD_eq_getElem?_getD, List.getElem?_eq_getElem (by rw [HL.out]; exact hlt)]; exact hli
      have hp := HP.out
      rw [List.drop_eq_getElem_cons (by rw [HL.out]; exact hlt), hli] at hp
      have hp2 : (decide (1 < (li.length : Int)) || longF (o.drop (i + 1))) = longF o := hp
      rw [hgd] at hcw hci
      have h34 := fun W => f34_any Ai li.length ci W hci
      have HP2 := Aside0.mk hp2
      have hix : (i : Int) < (n : Int) := by omega
      have hi0 : (0 : Int) ≤ (i : Int) := by omega
      clear hcells hcl hCi hsz1 hli hgd hp hp2 HP
      by_cases hb : 1 < (li.length : Int)
      · have hd : decide (1 < (li.length : Int)) = true := decide_eq_true hb
        have HD := Aside0.mk hb
        rw [hd] at h34
        clear hb
        go_wp2_with (go_at_call 34; (with_reducible refine (h34 _).mono ?_); rintro e w' ⟨rfl, rfl⟩)
        go_ret
        refine ⟨i, rfl, ?_, rfl⟩
        rw [← HP2.out, hd]
        simp
      · have hd : decide (1 < (li.length : Int)) = false := decide_eq_false hb
        have HD := Aside0.mk hb
        rw [hd] at h34
        clear hb
        have HP3 : Aside0 (longF (o.drop (i + 1)) = longF o) := ⟨by have h := HP2.out; rw [hd] at h; simpa using h⟩
        clear hd HP2
        go_wp2_with (go_at_call 34; (with_reducible refine (h34 _).mono ?_); rintro e w' ⟨rfl, rfl⟩)
        go_roundg (n - (i + 1))
        case measure => omega
        case rel => exact ⟨i + 1, by go_num, by omega, Nat.le_refl _, rfl, HP3⟩
    · have hin : i = n := by omega
      subst hin
      have HP3 : Aside0 (longF o = false) := ⟨by have h := HP.out; rw [List.drop_of_length_le (by rw [HL.out]; exact Nat.le_refl _)] at h; exact h.symm⟩
      clear HP
      go_wp2
      go_ret
      exact ⟨_, rfl, by rw [HP3.out]; rfl, rfl⟩
theorem f32_any (A0 : Option Addr) (c0 n : Nat) (o : List (List Int)) (w : World) (hr : Kd.C (Kd.slice 3 (Kd.int .i64)) w A0 n o) (hc0 : n ≤ c0) :
    Calls Try.prog 32 #[.slice A0 n c0, .func (.func 34) #[] #[]] w fun e w' => e = .returned (.bool (longF o)) ∧ w = w' := by
  have h47 := f47_any A0 c0 n o w hr hc0
  clear hr
  go_enter Try.func32, Try.ntmps32
  go_wp2_with (go_at_call 47; (with_reducible refine h47.mono ?_); rintro e w' ⟨z, rfl, hz, rfl⟩)
  go_ret
  exact ⟨rfl, rfl⟩
/-- Who is next to himself stays alone: -1. -/
def soloF : Nat → List Int → List Int
  | _, [] => []
  | i, j :: r => (if (i : Int) = j then -1 else j) :: soloF (i + 1) r
theorem soloF_get : ∀ (r : List Int) (s i : Nat), (soloF s r)[i]? = r[i]?.map fun j => if ((s + i : Nat) : Int) = j then -1 else j
  | [], _, _ => by simp [soloF]
  | j :: r, s, 0 => by simp [soloF]
  | j :: r, s, i + 1 => by
    rw [soloF, List.getElem?_cons_succ, List.getElem?_cons_succ, soloF_get r (s + 1) i]
    rw [show s + 1 + i = s + (i + 1) by omega]
theorem row_own {w : World} {b c base : Nat} {xs : List Int} (h : Row w b c xs) (hb : base ≤ b) : Kd.R (Kd.int .i64) 3 w base (fun _ => True) (.slice (some ⟨b, 0, none⟩) xs.length c) xs := by
  obtain ⟨cur, h1, h2, h3, h4, h5⟩ := h
  refine ⟨fun _ _ => trivial, nums .i64 xs, ⟨by simp [nums, Kd.int, Kd.scalar], .inr ⟨b, c, cur, rfl, hb, h1, h2, by simpa [maxLen] using h3, by simpa [Kd.int, Kd.scalar] using h4, by simpa [Kd.int, Kd.scalar] using h5⟩⟩, ?_⟩
  refine ⟨by simp [nums, Kd.int, Kd.scalar], fun z p hz => ?_⟩
  show ((nums .i64 xs).drop (z * 1)).take 1 = [Value.int .i64 p]
  have hzl := (List.getElem?_eq_some_iff.1 hz).1
  rw [Nat.mul_one, List.drop_eq_getElem_cons (by simpa [nums] using hzl)]
  have := (List.getElem?_eq_some_iff.1 hz).2
  simp [nums, this]
theorem soloF_length : ∀ (r : List Int) (i : Nat), (soloF i r).length = r.length
  | [], _ => rfl
  | j :: r, i => by simp [soloF, soloF_length r (i + 1)]
/-- Match: the partners, and the error. -/
def pair_Match.f (k : Nat) (l0 : List (List Int)) : Option (List Int × Int) :=
  match readF l0 with
  | none => some ([], 1)
  | some _ => (solveF k l0).bind fun r => (pair_odd.f k r).map fun o => if longF o then ([], 5) else (soloF 0 r, 0)
set_option maxHeartbeats 4000000 in
theorem pair_Match.calls (k : Nat) (A0 : Option Addr) (c0 : Nat) (l0 : List (List Int)) (r1 : List Int) (r2 : Int) (w : World) (hr0 : Kd.C (Kd.slice 3 (Kd.int .i64)) w A0 l0.length l0) (hc0 : l0.length ≤ c0) (h : pair_Match.f k l0 = some (r1, r2)) :
    Calls Try.prog 13 #[.slice A0 l0.length c0] w fun e w' => ∃ v0_ : Value, e = .returned (.tuple #[v0_, .int .i64 r2]) ∧ Kd.R (Kd.int .i64) 3 w' w.heap.size (fun _ => True) v0_ r1 ∧ Below w.heap.size w w' := by
  unfold pair_Match.f at h
  rcases hR : readF l0 with _ | P
  · rw [hR] at h
    simp only [Option.some.injEq, Prod.mk.injEq] at h
    obtain ⟨rfl, rfl⟩ := h
    have h25 := pair_Partition.calls k A0 c0 l0 [] 1 w hr0 hc0 (by unfold pair_Partition.f; rw [hR])
    clear hr0 hR
    go_enter Try.func13, Try.ntmps13
    go_wp2_with (go_at_call 25; (with_reducible refine h25.mono ?_); rintro e w' ⟨v, rfl, hv, hb⟩)
    go_ret2
    exact ⟨_, rfl, Kd.R_nil _ _ _ _ _, hb⟩
  · rw [hR] at h
    simp only [Option.bind_eq_some_iff, Option.map_eq_some_iff] at h
    obtain ⟨R, hS, o, ho, hE⟩ := h
    have h25 := pair_Partition.calls k A0 c0 l0 R 0 w hr0 hc0 (by unfold pair_Partition.f; rw [hR]; simp [hS])
    have HO := Aside0.mk ho
    clear hr0 hR ho hS
    by_cases hlong : longF o = true
    · rw [if_pos hlong, Prod.mk.injEq] at hE
      obtain ⟨rfl, rfl⟩ := hE
      go_enter Try.func13, Try.ntmps13
      go_wp2_with (first | (go_at_call 25; (with_reducible refine h25.mono ?_); rintro e w1 ⟨v, rfl, hv, hb⟩; have HV := Aside0.mk hv; obtain ⟨A1, c1, rfl, hc1, hC1⟩ := Kd.R_reads hv; have h33 := pair_odd.calls k A1 c1 R o w1 hC1 hc1 HO.out; clear hC1 hv) | (go_at_call 33; (with_reducible refine h33.mono ?_); rintro e w2 ⟨v2, rfl, hv2, hb2⟩; obtain ⟨A2, c2, rfl, hc2, hC2⟩ := Kd.S_reads hv2; have h32 := f32_any A2 c2 o.length o w2 hC2 hc2; clear hC2 hv2) | (go_at_call 32; (with_reducible refine h32.mono ?_); rintro e w3 ⟨rfl, rfl⟩))
      go_ret2
      exact ⟨_, rfl, Kd.R_nil _ _ _ _ _, hb.trans (hb2.mono hb.size)⟩
    · rw [if_neg hlong, Prod.mk.injEq] at hE
      obtain ⟨rfl, rfl⟩ := hE
      have hlong2 : longF o = false := by simpa using hlong
      clear hlong
      go_enter Try.func13, Try.ntmps13
      go_wp2_with (first | (go_at_call 25; (with_reducible refine h25.mono ?_); rintro e w1 ⟨v, rfl, hv, hb⟩; have HV := Aside0.mk hv; obtain ⟨A1, c1, rfl, hc1, hC1⟩ := Kd.R_reads hv; have h33 := pair_odd.calls k A1 c1 R o w1 hC1 hc1 HO.out; clear hC1 hv) | (go_at_call 33; (with_reducible refine h33.mono ?_); rintro e w2 ⟨v2, rfl, hv2, hb2⟩; obtain ⟨A2, c2, rfl, hc2, hC2⟩ := Kd.S_reads hv2; have h32 := f32_any A2 c2 o.length o w2 hC2 hc2; clear hC2 hv2) | (go_at_call 32; (with_reducible refine h32.mono ?_); rintro e w3 ⟨rfl, rfl⟩))
      have HV2 := Aside0.mk (Kd.R_below HV.out hb2)
      have HB2 := Aside0.mk (hb.trans (hb2.mono hb.size))
      have hmx : R.length ≤ 9223372036854775807 := by
        obtain ⟨_, _, _, _, h⟩ := Kd.R_reads HV.out
        exact h.2.1
      obtain ⟨n, hn⟩ : ∃ n, R.length = n := ⟨_, rfl⟩
      rw [hn] at HV2 hmx hc1 ⊢
      have HN := Aside0.mk hn
      clear hn HV h33 h32 h25 hb hb2 hlong2
      go_loopg [21] n (fun kq s21 wr => ∃ (i : Nat) (M : List Int), s21 = .int .i64 i ∧ i ≤ n ∧ n - i ≤ kq ∧ Aside0 (M.length = n) ∧ Aside0 (Kd.R (Kd.int .i64) 3 wr w.heap.size (fun _ => True) (.slice A1 n c1) M) ∧ Aside0 (Below w.heap.size w wr) ∧ Aside0 (∀ q, M[q]? = if q < i then (soloF 0 R)[q]? else R[q]?))
      case atStart => exact ⟨0, R, rfl, Nat.zero_le _, by omega, HN, HV2, HB2, ⟨fun q => by rw [if_neg (by omega)]⟩⟩
      case round =>
        clear HV2 HB2
        obtain ⟨i, M, rfl, hi, hgg, HMl, HM, HB, HQ⟩ := hrel
        by_cases hlt : i < n
        · rcases own_row HM.out with ⟨h0, -⟩ | ⟨b, c2', hv2, hbb, -, hr2⟩
          · have := HMl.out; rw [h0] at this; simp at this; omega
          · injection hv2 with e1 e2 e3
            subst e1
            subst e3
            have hci := hr2.cell i (by rw [HMl.out]; exact hlt)
            have hfi := hr2.frozen i
            obtain ⟨x, hx⟩ : ∃ x, M.getD i 0 = x := ⟨_, rfl⟩
            rw [hx] at hci
            have hRi : R[i]? = some x := by
              have h := HQ.out i
              rw [if_neg (by omega)] at h
              rw [← h]
              rw [List.getD_eq_getElem?_getD, List.getElem?_eq_getElem (by rw [HMl.out]; exact hlt)] at hx
              rw [List.getElem?_eq_getElem (by rw [HMl.out]; exact hlt)]
              rw [← hx]; rfl
            have HRI := Aside0.mk hRi
            have HR2 := Aside0.mk hr2
            have HBB := Aside0.mk hbb
            have hix : (i : Int) < (n : Int) := by omega
            have hi0 : (0 : Int) ≤ (i : Int) := by omega
            clear hr2 hx hRi HM hbb
            by_cases he : (i : Int) = x
            · subst he
              go_wp2
              go_roundg (n - (i + 1))
              case measure => omega
              case rel =>
                have hr3 := HR2.out.set i (-1)
                have hl3 : (M.set i (-1)).length = n := by rw [List.length_set]; exact HMl.out
                have hR3 := row_own hr3 HBB.out
                rw [hl3] at hR3
                refine ⟨i + 1, M.set i (-1), by go_num, by omega, Nat.le_refl _, ⟨hl3⟩, ⟨hR3⟩, ⟨HB.out.trans ((Keep.set (S := fun k => k = b) wr b i (.int .i64 (-1)) rfl).below HB.out.size (fun k hk => by rw [hk]; exact HBB.out))⟩, ⟨fun q => ?_⟩⟩
                rw [List.getElem?_set]
                by_cases hqi : i = q
                · subst hqi
                  rw [if_pos rfl, if_pos (by rw [HMl.out]; exact hlt), if_pos (by omega), soloF_get, HRI.out]
                  simp
                · rw [if_neg hqi, HQ.out q]
                  by_cases hq2 : q < i
                  · rw [if_pos hq2, if_pos (by omega)]
                  · rw [if_neg hq2, if_neg (by omega)]
            · have he2 : ((i : Int) == x) = false := by simpa using he
              go_wp2
              go_roundg (n - (i + 1))
              case measure => omega
              case rel =>
                have hR3 := row_own HR2.out HBB.out
                rw [HMl.out] at hR3
                refine ⟨i + 1, M, by go_num, by omega, Nat.le_refl _, HMl, ⟨hR3⟩, HB, ⟨fun q => ?_⟩⟩
                by_cases hqi : i = q
                · subst hqi
                  rw [HQ.out i, if_neg (by omega), if_pos (by omega), soloF_get, HRI.out]
                  simp [he]
                · rw [HQ.out q]
                  by_cases hq2 : q < i
                  · rw [if_pos hq2, if_pos (by omega)]
                  · rw [if_neg hq2, if_neg (by omega)]
        · have hin : i = n := by omega
          subst hin
          have hM : M = soloF 0 R := by
            apply List.ext_getElem?
            intro q
            rw [HQ.out q]
            by_cases hq : q < i
            · rw [if_pos hq]
            · rw [if_neg hq, List.getElem?_eq_none (by rw [HN.out]; omega), List.getElem?_eq_none (by rw [soloF_length, HN.out]; omega)]
          have HMM := Aside0.mk hM
          clear HQ hM
          go_wp2
          go_ret2
          exact ⟨_, rfl, HMM.out ▸ HM.out, HB.out⟩
end Go.Proofs.Ytilabipmgcpnjaa.Own
namespace Go.Proofs.Ytilabipmgcpnjaa.Own
open Go.RowKit Go.Proofs.YtilabipmgcpnjaaW.PrintWords Go.Proofs.YtilabipmgcpnjaaW.PrintLast Go.Proofs.YtilabipmgcpnjaaW.PrintMore
set_option linter.unusedVariables false
set_option linter.unusedSimpArgs false
/-- Does person i prefer a to b? By the places. -/
def prefF (P : List (List Int)) (i a b : Nat) : Bool := if b = i then decide (a ≠ i) else decide (a ≠ i) && decide ((P.getD i []).getD a 0 < (P.getD i []).getD b 0)
set_option maxHeartbeats 2000000 in
theorem f44_F {bl cl : Nat} {A : Nat → Option Addr} {c : Nat → Nat} {n : Nat} (rg : Nat) (P : List (List Int)) (i a b : Nat) (w : World) (hL : Lists w bl cl A c P) (hn : P.length = n) (hn2 : n ≤ 1000000) (hP : ∀ p ∈ P, p.length = n)
    (hg : w.cell? ⟨rg, 1, none⟩ = some (.slice (some ⟨bl, 0, none⟩) n cl)) (hi : i < n) (ha : a < n) (hb : b < n) :
    Calls Try.prog 44 #[.pointer (some ⟨rg, 0, none⟩), .int .i64 i, .int .i64 a, .int .i64 b] w fun e w' => e = .returned (.bool (prefF P i a b)) ∧ Drawn0 w w' := by
  have hiP : i < P.length := by omega
  have hci := hL.cell hiP
  have hlen : P[i].length = n := hP _ (List.getElem_mem hiP)
  obtain ⟨bq, hAq, hrq⟩ := hL.row i hiP (by intro h; rw [h] at hlen; simp at hlen; omega)
  have hca := hrq.cell a (by omega)
  have hcb := hrq.cell b (by omega)
  have hgd : P.getD i [] = P[i] := by rw [List.getD_eq_getElem?_getD, List.getElem?_eq_getElem hiP]; rfl
  obtain ⟨res, hres⟩ : ∃ res, prefF P i a b = res := ⟨_, rfl⟩
  rw [hres]
  unfold prefF at hres
  rw [hgd] at hres
  rw [hAq, hlen] at hci
  obtain ⟨x, hx⟩ : ∃ x, P[i].getD a 0 = x := ⟨_, rfl⟩
  obtain ⟨y, hy⟩ : ∃ y, P[i].getD b 0 = y := ⟨_, rfl⟩
  rw [hx] at hca hres
  rw [hy] at hcb hres
  have hle := hL.le
  rw [hn] at hle
  have hix : (i : Int) < (n : Int) := by omega
  have hi0 : (0 : Int) ≤ (i : Int) := by omega
  have hax : (a : Int) < (n : Int) := by omega
  have ha0 : (0 : Int) ≤ (a : Int) := by omega
  have hbx : (b : Int) < (n : Int) := by omega
  have hb0 : (0 : Int) ≤ (b : Int) := by omega
  clear hrq hL hlen hgd hx hy hAq hiP hP
  by_cases h1 : b = i
  · rw [if_pos h1] at hres
    have hbi : ((b : Int) == (i : Int)) = true := by have : (b : Int) = i := by omega
                                                     simpa using this
    have hd : ((a : Int) != (i : Int)) = res := by
      rw [← hres]
      by_cases h : a = i
      · subst h; simp
      · have : ¬ (a : Int) = i := by omega
        simp [h, this]
    clear hres h1
    go_enter Try.func44, Try.ntmps44
    go_wp2
    go_ret
    exact ⟨rfl, Drawn0.refl _⟩
  · rw [if_neg h1] at hres
    have hbi : ((b : Int) == (i : Int)) = false := by have : ¬ (b : Int) = i := by omega
                                                      simpa using this
    by_cases h2 : a = i
    · have hai : ((a : Int) != (i : Int)) = false := by have : (a : Int) = i := by omega
                                                        simpa using this
      have hai0 : ((a : Int) == (i : Int)) = true := by have : (a : Int) = i := by omega
                                                        simpa using this
      have hr0 : res = false := by rw [← hres]; simp [h2]
      subst hr0
      clear hres h1 h2
      go_enter Try.func44, Try.ntmps44
      go_wp2
      repeat (go_quiet (fail); try go_wp2)
      go_ret
      exact ⟨rfl, by repeat (first | exact Drawn0.refl _ | apply Drawn0.step)⟩
    · have hai : ((a : Int) != (i : Int)) = true := by have : ¬ (a : Int) = i := by omega
                                                       simpa using this
      have hai0 : ((a : Int) == (i : Int)) = false := by have : ¬ (a : Int) = i := by omega
                                                         simpa using this
      have hr0 : decide (x < y) = res := by rw [← hres]; simp [h2]
      clear hres h1 h2
      have HR0 := Aside0.mk hr0
      clear hr0
      go_enter Try.func44, Try.ntmps44
      go_wp2
      repeat (go_quiet (fail); try go_wp2)
      go_ret
      exact ⟨ret_bool HR0.out, by repeat (first | exact Drawn0.refl _ | apply Drawn0.step)⟩
end Go.Proofs.Ytilabipmgcpnjaa.Own
namespace Go.Proofs.Ytilabipmgcpnjaa.Own
open Go.RowKit Go.Proofs.YtilabipmgcpnjaaW.PrintWords Go.Proofs.YtilabipmgcpnjaaW.PrintLast Go.Proofs.YtilabipmgcpnjaaW.PrintMore
set_option linter.unusedVariables false
set_option linter.unusedSimpArgs false
/-- The partner, or oneself. -/
def ownF (m : List Int) (i : Nat) : Int := if m.getD i 0 < 0 then i else m.getD i 0
theorem f46_F (A1 : Option Addr) (c1 n1 bx i : Nat) (m : List Int) (w : World) (hr : Kd.C (Kd.int .i64) w A1 n1 m) (hc : n1 ≤ c1) (hb : w.cell? ⟨bx, 0, none⟩ = some (.slice A1 n1 c1)) (hi : i < n1) :
    Calls Try.prog 46 #[.int .i64 i, .pointer (some ⟨bx, 0, none⟩)] w fun e w' => e = .returned (.int .i64 (ownF m i)) ∧ w = w' := by
  have hlen : m.length = n1 := hr.1
  obtain ⟨ad, rfl, hcx⟩ := Kd.at_int hr (i : Int) (by omega) (by omega)
  simp only [Int.toNat_natCast] at hcx
  obtain ⟨x, hx⟩ : ∃ x, rd m (i : Int) = x := ⟨_, rfl⟩
  have hx2 : m.getD i 0 = x := by rw [← hx]; simp [rd]
  obtain ⟨res, hres⟩ : ∃ res, ownF m i = res := ⟨_, rfl⟩
  rw [hres]
  unfold ownF at hres
  rw [hx2] at hres
  rw [hx] at hcx
  have hix : (i : Int) < (n1 : Int) := by omega
  have hi0 : (0 : Int) ≤ (i : Int) := by omega
  clear hr hx hx2 hlen
  by_cases h0 : x < 0
  · rw [if_pos h0] at hres
    have hd : decide (x < 0) = true := decide_eq_true h0
    have HR := Aside0.mk hres
    clear hres h0
    go_enter Try.func46, Try.ntmps46
    go_wp2
    go_ret
    exact ⟨ret_int HR.out, rfl⟩
  · rw [if_neg h0] at hres
    have hd : decide (x < 0) = false := decide_eq_false h0
    have HR := Aside0.mk hres
    clear hres h0
    go_enter Try.func46, Try.ntmps46
    go_wp2
    go_ret
    exact ⟨ret_int HR.out, rfl⟩
/-- The loop of matching. -/
def matchLoop (m : List Int) : List Int → Nat → Bool
  | [], _ => true
  | j :: r, i => if j ≠ -1 ∧ (j < 0 ∨ (m.length : Int) ≤ j ∨ j = i ∨ m.getD j.toNat 0 ≠ i) then false else matchLoop m r (i + 1)
/-- Is the slice a matching of n people? -/
def matchingF (n : Nat) (m : List Int) : Bool := if m.length = n then matchLoop m m 0 else false
set_option maxHeartbeats 4000000 in
theorem f45_F (A0 A1 : Option Addr) (n c0 c1 n1 rg : Nat) (m : List Int) (w : World) (hr : Kd.C (Kd.int .i64) w A1 n1 m) (hc : n1 ≤ c1) (hn : n ≤ 1000000) (hg : w.cell? ⟨rg, 0, none⟩ = some (.slice A0 n c0)) :
    Calls Try.prog 45 #[.pointer (some ⟨rg, 0, none⟩), .slice A1 n1 c1] w fun e w' => e = .returned (.bool (matchingF n m)) ∧ w = w' := by
  have hlen : m.length = n1 := hr.1
  have hmx : n1 ≤ 9223372036854775807 := hr.2.1
  obtain ⟨res, hres⟩ : ∃ res, matchingF n m = res := ⟨_, rfl⟩
  rw [hres]
  unfold matchingF at hres
  rw [hlen] at hres
  have HR := Aside0.mk hr
  have HL := Aside0.mk hlen
  have HF := Aside0.mk hres
  clear hr hlen hres
  go_enter Try.func45, Try.ntmps45
  by_cases h1 : n1 = n
  · subst h1
    have HF1 : Aside0 (matchLoop m m 0 = res) := ⟨by have h := HF.out; rw [if_pos rfl] at h; exact h⟩
    clear HF
    go_wp2
    go_loopg [17] n1 (fun kq s17 wr => ∃ i : Nat, s17 = .int .i64 i ∧ i ≤ n1 ∧ n1 - i ≤ kq ∧ wr = w ∧ Aside0 (matchLoop m (m.drop i) i = res))
    case atStart => exact ⟨0, rfl, Nat.zero_le _, by omega, rfl, HF1⟩
    case round =>
      clear HF1
      obtain ⟨i, rfl, hi, hgg, rfl, HP⟩ := hrel
      by_cases hlt : i < n1
      · have hp := HP.out
        rw [List.drop_eq_getElem_cons (by rw [HL.out]; exact hlt)] at hp
        unfold matchLoop at hp
        obtain ⟨ad, rfl, hcx⟩ := Kd.at_int HR.out (i : Int) (by omega) (by omega)
        have hrx : rd m (i : Int) = m[i]'(by rw [HL.out]; exact hlt) := by simp [rd, List.getD_eq_getElem?_getD, List.getElem?_eq_getElem (show i < m.length by rw [HL.out]; exact hlt)]
        rw [hrx] at hcx
        simp only [Int.toNat_natCast] at hcx
        obtain ⟨x, hx⟩ : ∃ x, m[i]'(by rw [HL.out]; exact hlt) = x := ⟨_, rfl⟩
        rw [hx] at hp hcx
        have hix : (i : Int) < (n1 : Int) := by omega
        have hi0 : (0 : Int) ≤ (i : Int) := by omega
        have HPP := Aside0.mk hp
        clear hp HP hrx hx
        by_cases h1 : x = -1
        · subst h1
          have HP2 : Aside0 (matchLoop m (m.drop (i + 1)) (i + 1) = res) := ⟨by have h := HPP.out; rw [if_neg (by simp)] at h; exact h⟩
          clear HPP
          go_wp2
          go_roundg (n1 - (i + 1))
          case measure => omega
          case rel => exact ⟨i + 1, by go_num, by omega, Nat.le_refl _, rfl, HP2⟩
        · have hx1 : (x != -1) = true := by simpa using h1
          by_cases h2 : x < 0
          · have HP2 : Aside0 (false = res) := ⟨by have h := HPP.out; rw [if_pos ⟨h1, .inl h2⟩] at h; exact h⟩
            have hd2 : decide (x < 0) = true := decide_eq_true h2
            clear HPP h1 h2
            go_wp2
            go_ret
            exact ⟨ret_bool HP2.out, rfl⟩
          · have hd2 : decide (x < 0) = false := decide_eq_false h2
            by_cases h3 : (n1 : Int) ≤ x
            · have HP2 : Aside0 (false = res) := ⟨by have h := HPP.out; rw [HL.out, if_pos ⟨h1, .inr (.inl h3)⟩] at h; exact h⟩
              have hd3 : decide ((n1 : Int) ≤ x) = true := decide_eq_true h3
              clear HPP h1 h2 h3
              go_wp2
              go_ret
              exact ⟨ret_bool HP2.out, rfl⟩
            · have hd3 : decide ((n1 : Int) ≤ x) = false := decide_eq_false h3
              by_cases h4 : x = (i : Int)
              · have HP2 : Aside0 (false = res) := ⟨by have h := HPP.out; rw [HL.out, if_pos ⟨h1, .inr (.inr (.inl h4))⟩] at h; exact h⟩
                subst h4
                clear HPP h1 h2 h3 hd2 hx1 hd3
                go_wp2
                go_ret
                exact ⟨ret_bool HP2.out, rfl⟩
              · have hd4 : (x == (i : Int)) = false := by simpa using h4
                obtain ⟨q, rfl⟩ := Int.eq_ofNat_of_zero_le (show 0 ≤ x by omega)
                have hqn : q < n1 := by omega
                have hqx : (q : Int) < (n1 : Int) := by omega
                have hq0 : (0 : Int) ≤ (q : Int) := by omega
                obtain ⟨ad2, e2, hcy⟩ := Kd.at_int HR.out (q : Int) (by omega) (by omega)
                obtain rfl : ad = ad2 := by injection e2
                simp only [Int.toNat_natCast] at hcy
                obtain ⟨y, hy⟩ : ∃ y, rd m (q : Int) = y := ⟨_, rfl⟩
                have hy2 : m.getD q 0 = y := by rw [← hy]; simp [rd]
                rw [hy] at hcy
                have hpp := HPP.out
                rw [show ((q : Int)).toNat = q by omega, hy2, HL.out] at hpp
                have HPQ := Aside0.mk hpp
                clear hpp HPP hy hy2 e2 hx1 hd2 hd3
                by_cases h5 : y = (i : Int)
                · have HP2 : Aside0 (matchLoop m (m.drop (i + 1)) (i + 1) = res) := ⟨by
                    have h := HPQ.out
                    rw [if_neg (by rintro ⟨_, h | h | h | h⟩; exact h2 h; exact h3 h; exact h4 h; exact h h5)] at h
                    exact h⟩
                  subst h5
                  clear HPQ
                  go_wp2
                  go_roundg (n1 - (i + 1))
                  case measure => omega
                  case rel => exact ⟨i + 1, by go_num, by omega, Nat.le_refl _, rfl, HP2⟩
                · have HP2 : Aside0 (false = res) := ⟨by have h := HPQ.out; rw [if_pos ⟨h1, .inr (.inr (.inr h5))⟩] at h; exact h⟩
                  have hd5 : (y != (i : Int)) = true := by simpa using h5
                  clear HPQ h5
                  go_wp2
                  go_ret
                  exact ⟨ret_bool HP2.out, rfl⟩
      · have hin : i = n1 := by omega
        subst hin
        have HP3 : Aside0 (true = res) := ⟨by have h := HP.out; rw [List.drop_of_length_le (by rw [HL.out]; exact Nat.le_refl _)] at h; exact h⟩
        clear HP
        go_wp2
        go_ret
        exact ⟨ret_bool HP3.out, rfl⟩
  · have HF1 : Aside0 (false = res) := ⟨by have h := HF.out; rw [if_neg h1] at h; exact h⟩
    have h2 : ¬ (n1 : Int) = (n : Int) := by omega
    clear HF h1
    go_wp2
    go_ret
    exact ⟨ret_bool HF1.out, rfl⟩
end Go.Proofs.Ytilabipmgcpnjaa.Own
namespace Go.Proofs.Ytilabipmgcpnjaa.Own
open Go.RowKit Go.Proofs.YtilabipmgcpnjaaW.PrintWords Go.Proofs.YtilabipmgcpnjaaW.PrintLast Go.Proofs.YtilabipmgcpnjaaW.PrintMore
set_option linter.unusedVariables false
set_option linter.unusedSimpArgs false
/-- Does the pair i, j block? -/
def blkF (P : List (List Int)) (m : List Int) (i j : Nat) : Bool := prefF P i j (ownF m i).toNat && prefF P j i (ownF m j).toNat
/-- The first j (from j on, d of them) with whom i blocks. -/
def blkIn (P : List (List Int)) (m : List Int) (i : Nat) : Nat → Nat → Option (Nat × Nat)
  | 0, _ => none
  | d + 1, j => if blkF P m i j then some (i, j) else blkIn P m i d (j + 1)
/-- The first blocking pair, from i on. -/
def blkOut (P : List (List Int)) (m : List Int) (n : Nat) : Nat → Nat → Option (Nat × Nat)
  | 0, _ => none
  | d + 1, i => match blkIn P m i (n - (i + 1)) (i + 1) with
    | some z => some z
    | none => blkOut P m n d (i + 1)
/-- What Blocks returns then. -/
def blkRes : Option (Nat × Nat) → Option (Int × Int × Int)
  | some z => some (z.1, z.2, 0)
  | none => some (0, 0, 5)
/-- Blocks: two people, and the error. -/
def pair_Blocks.f (l0 : List (List Int)) (m : List Int) : Option (Int × Int × Int) :=
  match readF l0 with
  | none => some (0, 0, 1)
  | some P => if matchingF l0.length m then
      blkRes (blkOut P m m.length m.length 0)
    else some (0, 0, 2)
theorem matchLoop_own {m : List Int} : ∀ {r : List Int} {i : Nat}, matchLoop m r i = true → ∀ j ∈ r, j = -1 ∨ (0 ≤ j ∧ j < (m.length : Int))
  | [], _, _, j, hj => by cases hj
  | x :: r, i, h, j, hj => by
    unfold matchLoop at h
    split at h
    · cases h
    · rename_i hn
      rcases List.mem_cons.1 hj with rfl | hj
      · by_cases h1 : j = -1
        · exact .inl h1
        · right
          by_cases h2 : j < 0
          · exact absurd ⟨h1, .inl h2⟩ hn
          · by_cases h3 : (m.length : Int) ≤ j
            · exact absurd ⟨h1, .inr (.inl h3)⟩ hn
            · omega
      · exact matchLoop_own h j hj
theorem ownF_in {m : List Int} {n : Nat} (h : matchingF n m = true) {i : Nat} (hi : i < n) : ∃ q : Nat, ownF m i = q ∧ q < n := by
  unfold matchingF at h
  split at h
  · rename_i hl
    have hm := matchLoop_own h (m.getD i 0) (by rw [List.getD_eq_getElem?_getD, List.getElem?_eq_getElem (by omega)]; exact List.getElem_mem _)
    unfold ownF
    split
    · exact ⟨i, rfl, hi⟩
    · exact ⟨(m.getD i 0).toNat, by omega, by omega⟩
  · cases h
theorem readLoop_rows {n : Nat} : ∀ {ls : List (List Int)} {i : Nat} {acc P : List (List Int)}, readLoop n ls i acc = some P → (∀ p ∈ acc, p.length = n) → ∀ p ∈ P, p.length = n
  | [], _, acc, P, h, ha => by injection h with h; subst h; exact ha
  | a :: r, i, acc, P, h, ha => by
    unfold readLoop at h
    obtain ⟨p, hp, h⟩ := Option.bind_eq_some_iff.1 h
    split at h
    · exact readLoop_rows h (fun q hq => by
        rcases List.mem_append.1 hq with hq | hq
        · exact ha q hq
        · rw [List.mem_singleton] at hq
          subst hq
          have := placeF_length hp
          simpa using this)
    · cases h
theorem readF_rows {Ls P : List (List Int)} (h : readF Ls = some P) : ∀ p ∈ P, p.length = Ls.length := by
  unfold readF at h
  split at h
  · cases h
  · exact readLoop_rows h (fun p hp => by cases hp)
set_option maxHeartbeats 4000000 in
set_option maxRecDepth 100000 in
theorem pair_Blocks.calls (A0 : Option Addr) (c0 : Nat) (l0 : List (List Int)) (A1 : Option Addr) (c1 : Nat) (l1 : List Int) (r1 : Int) (r2 : Int) (r3 : Int) (w : World) (hr0 : Kd.C (Kd.slice 3 (Kd.int .i64)) w A0 l0.length l0) (hc0 : l0.length ≤ c0) (hr1 : Kd.C (Kd.int .i64) w A1 l1.length l1) (hc1 : l1.length ≤ c1) (h : pair_Blocks.f l0 l1 = some (r1, r2, r3)) :
    Calls Try.prog 29 #[.slice A0 l0.length c0, .slice A1 l1.length c1] w fun e w' => e = .returned (.tuple #[.int .i64 r1, .int .i64 r2, .int .i64 r3]) ∧ Below w.heap.size w w' := by
  have hmf : ∀ (fn : Fn) (first cap : Array Value) (w : World), (Instr.makeFunc fn first cap).run Try.prog w = .ok (.func fn first cap) w := fun _ _ _ _ => rfl
  obtain ⟨W, hW⟩ : ∃ W : World, w.alloc (.cells #[.slice A1 l1.length c1] 24) = W := ⟨_, rfl⟩
  have hbW : Below w.heap.size w W := by rw [← hW]; exact below_alloc (Below.refl _ _) _
  have hbx : W.cell? ⟨w.heap.size, 0, none⟩ = some (.slice A1 l1.length c1) := by
    rw [← hW]; simp only [World.cell?, heap_alloc_new]; rfl
  have hbz : w.heap.size < W.heap.size := World.block_lt_of_cell? W _ hbx
  have h41 := f41_F A0 c0 l0.length l0 W (Kd.C_below hr0 hbW) hc0
  have hm1 := Kd.C_below hr1 hbW
  clear hr0 hr1
  unfold pair_Blocks.f at h
  rcases hR : readF l0 with _ | P
  · rw [hR] at h h41
    simp only [Option.some.injEq, Prod.mk.injEq] at h
    obtain ⟨rfl, rfl, rfl⟩ := h
    have HBW := Aside0.mk hbW
    clear hR hbx hbz hm1 hbW
    go_enter Try.func29, Try.ntmps29
    go_wp2_with (go_at_call 41; (with_reducible refine h41.mono ?_); rintro e w' ⟨rfl, hb⟩)
    go_ret3
    exact ⟨rfl, HBW.out.trans (hb.mono HBW.out.size)⟩
  · rw [hR] at h h41
    simp only at h
    obtain ⟨hn1, hn2⟩ := readF_len hR
    have hrows := readF_rows hR
    obtain ⟨n, hn⟩ : ∃ n, l0.length = n := ⟨_, rfl⟩
    rw [hn] at h h41 hn1 hn2 hrows hc0 ⊢
    have HBW := Aside0.mk hbW
    have HM1 := Aside0.mk hm1
    have HBX := Aside0.mk hbx
    have HRO := Aside0.mk hrows
    have HF := Aside0.mk h
    clear hR hbx hm1 hbW hrows h hn
    by_cases hmt : matchingF n l1 = true
    · have hnl : l1.length = n := by
        unfold matchingF at hmt
        split at hmt
        · assumption
        · cases hmt
      have hF := HF.out
      rw [if_pos hmt] at hF
      have HOW := Aside0.mk (fun i hi => ownF_in hmt (i := i) hi)
      rw [hnl] at HM1 HBX hW hF hc1 ⊢
      have HF2 := Aside0.mk hF
      clear hF HF
      go_enter Try.func29, Try.ntmps29
      go_wp2_with (first | (go_at_call 41; (with_reducible refine h41.mono ?_); rintro e w1 ⟨rg, bl, cl, A, c, rfl, hg0, hg1, hL, hPl, hb⟩; have hbx1 := pw_cell_below hb HBX.out; have hm := Kd.C_below HM1.out hb; have h45 := f45_F A0 A1 n c0 c1 n rg l1 w1 hm hc1 (by omega) hg0; have HG1 := Aside0.mk hg1; have HL := Aside0.mk hL; have HPl := Aside0.mk hPl; have HB := Aside0.mk hb; have HM := Aside0.mk hm; clear hg0 hg1 hL hPl hb hm) | (go_at_call 45; (with_reducible refine h45.mono ?_); rintro e w2 ⟨rfl, rfl⟩))
      clear h45 h41 hmt HBX HM1 hW
      have h46 : ∀ (q : Nat), q < n → ∀ nd, Calls Try.prog 46 #[.int .i64 q, .pointer (some ⟨w.heap.size, 0, none⟩)] (w1.drewN nd) fun e w' => e = .returned (.int .i64 (ownF l1 q)) ∧ w1.drewN nd = w' := fun q hq nd =>
        f46_F A1 c1 n w.heap.size q l1 _ (Kd.C_below HM.out (pw_below_drewN (Below.refl _ _) nd)) hc1 (pw_cell_below (pw_below_drewN (Below.refl _ _) nd) hbx1) hq
      have h44 : ∀ (a b z : Nat), a < n → b < n → z < n → ∀ nd, Calls Try.prog 44 #[.pointer (some ⟨rg, 0, none⟩), .int .i64 a, .int .i64 b, .int .i64 z] (w1.drewN nd) fun e w' => e = .returned (.bool (prefF P a b z)) ∧ Drawn0 (w1.drewN nd) w' := fun a b z ha hb hz nd =>
        f44_F rg P a b z _ (HL.out.below (pw_below_drewN (Below.refl _ _) nd)) HPl.out (by omega) HRO.out (pw_cell_below (pw_below_drewN (Below.refl _ _) nd) HG1.out) ha hb hz
      have H46 := Aside0.mk h46
      have H44 := Aside0.mk h44
      clear h46 h44 hbz hmf
      go_loopg [28] n (fun kq s28 wr => ∃ i : Nat, s28 = .int .i64 i ∧ i ≤ n ∧ n - i ≤ kq ∧ Aside0 (blkRes (blkOut P l1 n (n - i) i) = some (r1, r2, r3)) ∧ Drawn0 w1 wr)
      case atStart => exact ⟨0, rfl, Nat.zero_le _, by omega, HF2, Drawn0.refl _⟩
      case round =>
        clear HF2
        obtain ⟨i, rfl, hi, hgg, HP, ⟨nd0, rfl⟩⟩ := hrel
        by_cases hlt : i < n
        · have hp := HP.out
          rw [show n - i = (n - (i + 1)) + 1 by omega] at hp
          unfold blkOut at hp
          have hwk : IntKind.i64.wrap ((i : Int) + 1) = ((i + 1 : Nat) : Int) := IntWalk.i64_in _ (by omega)
          have HP1 : Aside0 (blkRes (match blkIn P l1 i (n - (i + 1)) (i + 1) with | some z => some z | none => blkOut P l1 n (n - (i + 1)) (i + 1)) = some (r1, r2, r3)) := ⟨hp⟩
          clear hp HP
          go_wp2
          go_loopg [11] n (fun kq s11 wr => ∃ j : Nat, s11 = .int .i64 j ∧ j ≤ n ∧ n - j ≤ kq ∧ Aside0 (blkRes (match blkIn P l1 i (n - j) j with | some z => some z | none => blkOut P l1 n (n - (i + 1)) (i + 1)) = some (r1, r2, r3)) ∧ Drawn0 w1 wr)
          case atStart => exact ⟨i + 1, by first | rfl | go_num, by omega, by omega, HP1, ⟨nd0, rfl⟩⟩
          case round =>
            clear HP1
            obtain ⟨j, rfl, hj, hgj, HQ, ⟨nd1, rfl⟩⟩ := hrel
            by_cases hlj : j < n
            · have hq := HQ.out
              rw [show n - j = (n - (j + 1)) + 1 by omega] at hq
              unfold blkIn at hq
              unfold blkF at hq
              obtain ⟨oi, hoi, hoi2⟩ := HOW.out i hlt
              obtain ⟨oj, hoj, hoj2⟩ := HOW.out j hlj
              rw [hoi, hoj] at hq
              simp only [Int.toNat_natCast] at hq
              have h46i := H46.out i hlt
              have h46j := H46.out j hlj
              rw [hoi] at h46i
              rw [hoj] at h46j
              have h44i := H44.out i j oi hlt hlj hoi2
              have h44j := H44.out j i oj hlj hlt hoj2
              have hjx : (j : Int) < (n : Int) := by omega
              have hj0 : (0 : Int) ≤ (j : Int) := by omega
              have HQ1 := Aside0.mk hq
              clear hq HQ hoi hoj
              by_cases hb1 : prefF P i j oi = true
              · by_cases hb2 : prefF P j i oj = true
                · have hq := HQ1.out
                  simp only [hb1, hb2, Bool.and_self, if_true, blkRes, Option.some.injEq, Prod.mk.injEq] at hq
                  obtain ⟨rfl, rfl, rfl⟩ := hq
                  rw [hb1] at h44i
                  rw [hb2] at h44j
                  clear HQ1 hb1 hb2
                  go_wp2_with (first | (go_at_call 46; (with_reducible refine (h46i _).mono ?_); rintro e w' ⟨rfl, rfl⟩) | (go_at_call 46; (with_reducible refine (h46j _).mono ?_); rintro e w' ⟨rfl, rfl⟩) | (go_at_call 44; (with_reducible refine (h44i _).mono ?_); rintro e w' ⟨rfl, ⟨m1, rfl⟩⟩; rw [World.drewN_drewN]) | (go_at_call 44; (with_reducible refine (h44j _).mono ?_); rintro e w' ⟨rfl, ⟨m2, rfl⟩⟩; rw [World.drewN_drewN]))
                  go_ret3
                  exact ⟨rfl, (HBW.out.trans (HB.out.mono HBW.out.size)).trans (pw_below_drewN ((Below.refl _ _).mono (by have := HB.out.size; have := HBW.out.size; omega)) _)⟩
                · have hb3 : prefF P j i oj = false := by simpa using hb2
                  have hq := HQ1.out
                  simp only [hb1, hb3, Bool.and_false, Bool.false_eq_true, if_false] at hq
                  rw [hb1] at h44i
                  rw [hb3] at h44j
                  have HQ2 := Aside0.mk hq
                  clear HQ1 hb1 hb2 hb3 hq
                  go_wp2_with (first | (go_at_call 46; (with_reducible refine (h46i _).mono ?_); rintro e w' ⟨rfl, rfl⟩) | (go_at_call 46; (with_reducible refine (h46j _).mono ?_); rintro e w' ⟨rfl, rfl⟩) | (go_at_call 44; (with_reducible refine (h44i _).mono ?_); rintro e w' ⟨rfl, ⟨m1, rfl⟩⟩; rw [World.drewN_drewN]) | (go_at_call 44; (with_reducible refine (h44j _).mono ?_); rintro e w' ⟨rfl, ⟨m2, rfl⟩⟩; rw [World.drewN_drewN]))
                  go_roundg (n - (j + 1))
                  case measure => omega
                  case rel => exact ⟨j + 1, by go_num, by omega, Nat.le_refl _, HQ2, ⟨_, rfl⟩⟩
              · have hb3 : prefF P i j oi = false := by simpa using hb1
                have hq := HQ1.out
                simp only [hb3, Bool.false_and, Bool.false_eq_true, if_false] at hq
                rw [hb3] at h44i
                have HQ2 := Aside0.mk hq
                clear HQ1 hb1 hb3 hq
                go_wp2_with (first | (go_at_call 46; (with_reducible refine (h46i _).mono ?_); rintro e w' ⟨rfl, rfl⟩) | (go_at_call 46; (with_reducible refine (h46j _).mono ?_); rintro e w' ⟨rfl, rfl⟩) | (go_at_call 44; (with_reducible refine (h44i _).mono ?_); rintro e w' ⟨rfl, ⟨m1, rfl⟩⟩; rw [World.drewN_drewN]) | (go_at_call 44; (with_reducible refine (h44j _).mono ?_); rintro e w' ⟨rfl, ⟨m2, rfl⟩⟩; rw [World.drewN_drewN]))
                go_roundg (n - (j + 1))
                case measure => omega
                case rel => exact ⟨j + 1, by go_num, by omega, Nat.le_refl _, HQ2, ⟨_, rfl⟩⟩
            · have hjn : j = n := by omega
              subst hjn
              have hq := HQ.out
              rw [Nat.sub_self] at hq
              simp only [blkIn] at hq
              have HQ2 := Aside0.mk hq
              clear HQ hq
              go_wp2
              go_roundg (j - (i + 1))
              case measure => omega
              case rel => exact ⟨i + 1, by go_num, by omega, Nat.le_refl _, HQ2, ⟨_, rfl⟩⟩
        · have hin : i = n := by omega
          subst hin
          have hp := HP.out
          rw [Nat.sub_self] at hp
          simp only [blkOut, blkRes, Option.some.injEq, Prod.mk.injEq] at hp
          obtain ⟨rfl, rfl, rfl⟩ := hp
          clear HP
          go_wp2
          go_ret3
          exact ⟨rfl, (HBW.out.trans (HB.out.mono HBW.out.size)).trans (pw_below_drewN ((Below.refl _ _).mono (by have := HB.out.size; have := HBW.out.size; omega)) _)⟩
    · have hmt2 : matchingF n l1 = false := by simpa using hmt
      have hF := HF.out
      rw [if_neg hmt] at hF
      simp only [Option.some.injEq, Prod.mk.injEq] at hF
      obtain ⟨rfl, rfl, rfl⟩ := hF
      clear hmt HF
      go_enter Try.func29, Try.ntmps29
      go_wp2_with (first | (go_at_call 41; (with_reducible refine h41.mono ?_); rintro e w1 ⟨rg, bl, cl, A, c, rfl, hg0, hg1, hL, hPl, hb⟩; have hbx1 := pw_cell_below hb HBX.out; have hm := Kd.C_below HM1.out hb; have h45 := f45_F A0 A1 n c0 c1 l1.length rg l1 w1 hm hc1 (by omega) hg0; have HG1 := Aside0.mk hg1; have HL := Aside0.mk hL; have HPl := Aside0.mk hPl; have HB := Aside0.mk hb; have HM := Aside0.mk hm; clear hg0 hg1 hL hPl hb hm) | (go_at_call 45; (with_reducible refine h45.mono ?_); rintro e w2 ⟨rfl, rfl⟩))
      go_ret3
      exact ⟨rfl, HBW.out.trans (HB.out.mono HBW.out.size)⟩
end Go.Proofs.Ytilabipmgcpnjaa.Own
namespace Go.Proofs.Ytilabipmgcpnjaa.Own
open Go.RowKit Go.Proofs.YtilabipmgcpnjaaW.PrintWords Go.Proofs.YtilabipmgcpnjaaW.PrintLast Go.Proofs.YtilabipmgcpnjaaW.PrintMore
set_option linter.unusedVariables false
set_option linter.unusedSimpArgs false
/-- What permutation leaves. -/
def PermS (w : World) (n : Nat) : Option (List Int) → Ending → World → Prop
  | none, e, w' => (∃ v : Value, e = .returned (.tuple #[v, .bool false])) ∧ Below w.heap.size w w'
  | some p, e, w' => ∃ b, e = .returned (.tuple #[.slice (some ⟨b, 0, none⟩) n n, .bool true]) ∧ Row w' b n p ∧ p.length = n ∧ Below w.heap.size w w'
theorem PermS.no {w w' : World} {n : Nat} {R : Option (List Int)} {v : Value} (h : R = none) (hb : Below w.heap.size w w') : PermS w n R (.returned (.tuple #[v, .bool false])) w' := by
  subst h; exact ⟨⟨v, rfl⟩, hb⟩
end Go.Proofs.Ytilabipmgcpnjaa.Own
namespace Go.Proofs.Ytilabipmgcpnjaa.Own
open Go.RowKit Go.Proofs.YtilabipmgcpnjaaW.PrintWords Go.Proofs.YtilabipmgcpnjaaW.PrintLast Go.Proofs.YtilabipmgcpnjaaW.PrintMore
set_option linter.unusedVariables false
set_option linter.unusedSimpArgs false
end Go.Proofs.Ytilabipmgcpnjaa.Own
namespace Go.Proofs.Ytilabipmgcpnjaa.Own
open Go.RowKit Go.Proofs.YtilabipmgcpnjaaW.PrintWords Go.Proofs.YtilabipmgcpnjaaW.PrintLast Go.Proofs.YtilabipmgcpnjaaW.PrintMore
attribute [local go_sem] max2_int min2_int max_two min_two max_three min_three max_four min_four
set_option linter.unusedVariables false
set_option linter.unusedSimpArgs false
end Go.Proofs.Ytilabipmgcpnjaa.Own
namespace Go.Proofs.Ytilabipmgcpnjaa.Own
open Go.RowKit Go.Proofs.YtilabipmgcpnjaaW.PrintWords Go.Proofs.YtilabipmgcpnjaaW.PrintLast Go.Proofs.YtilabipmgcpnjaaW.PrintMore
set_option linter.unusedVariables false
set_option linter.unusedSimpArgs false
theorem proposeF_mono : ∀ (k : Nat) (L R : List (List Int)), proposeF k L = some R → proposeF (k + 1) L = some R
  | 0, _, _, h => by cases h
  | k + 1, L, R, h => by
    unfold proposeF at h ⊢
    obtain ⟨r, hr, h⟩ := Option.bind_eq_some_iff.1 h
    rw [hr, Option.bind_some]
    split at h
    · rename_i hm
      rw [if_pos hm]
      exact proposeF_mono k _ _ h
    · rename_i hm
      rw [if_neg hm]
      exact h
theorem walkF_mono {L : List (List Int)} : ∀ (k : Nat) (seen : List Int) (i : Int) (r : List Int), walkF L k seen i = some r → walkF L (k + 1) seen i = some r
  | 0, _, _, _, h => by cases h
  | k + 1, seen, i, r, h => by
    unfold walkF at h ⊢
    split at h
    · rename_i hm
      rw [if_pos hm]; exact h
    · rename_i hm
      rw [if_neg hm]
      split at h
      · rename_i hc
        rw [if_pos hc]
        split at h
        · rename_i a s rest hl
          split at h
          · rename_i hs
            simp only [if_pos hs]
            split at h
            · rename_i i' hi
              exact walkF_mono k _ _ _ h
            · cases h
          · cases h
        · cases h
      · cases h
theorem rotationF_mono {k : Nat} {L : List (List Int)} {N r : List Int} (h : rotationF k L N = some r) : rotationF (k + 1) L N = some r := by
  unfold rotationF at h ⊢
  split at h
  · exact h
  · exact walkF_mono _ _ _ _ h
theorem solveLoop_mono {K : Nat} : ∀ (k : Nat) (L : List (List Int)) (N R : List Int), solveLoop K k L N = some R → solveLoop (K + 1) (k + 1) L N = some R
  | 0, _, _, _, h => by cases h
  | k + 1, L, N, R, h => by
    unfold solveLoop at h ⊢
    obtain ⟨r, hr, h⟩ := Option.bind_eq_some_iff.1 h
    rw [rotationF_mono hr, Option.bind_some]
    split at h
    · rename_i h0
      rw [if_pos h0]; exact h
    · rename_i h0
      rw [if_neg h0]
      split at h
      · rename_i h1
        rw [if_pos h1]
        split at h
        · rename_i h2
          rw [if_pos h2]
          obtain ⟨N', hN, h⟩ := Option.bind_eq_some_iff.1 h
          rw [hN, Option.bind_some]
          exact solveLoop_mono k _ _ _ h
        · rename_i h2
          rw [if_neg h2]
          obtain ⟨L', hL, h⟩ := Option.bind_eq_some_iff.1 h
          obtain ⟨L2, hL2, h⟩ := Option.bind_eq_some_iff.1 h
          rw [hL, Option.bind_some, proposeF_mono _ _ _ hL2, Option.bind_some]
          exact solveLoop_mono k _ _ _ h
      · cases h
theorem solveF_mono {K : Nat} {L : List (List Int)} {R : List Int} (h : solveF K L = some R) : solveF (K + 1) L = some R := by
  unfold solveF at h ⊢
  obtain ⟨L', hL, h⟩ := Option.bind_eq_some_iff.1 h
  rw [proposeF_mono _ _ _ hL, Option.bind_some]
  exact solveLoop_mono _ _ _ _ h
theorem pair_Partition.mono : ∀ a0 k, LeO (pair_Partition.f k a0) (pair_Partition.f (k + 1) a0) := by
  intro a0 k r h
  unfold pair_Partition.f at h ⊢
  split at h
  · exact h
  · obtain ⟨R, hR, rfl⟩ := Option.map_eq_some_iff.1 h
    rw [solveF_mono hR]; rfl
theorem pair_Odd.mono : ∀ a0 k, LeO (pair_Odd.f k a0) (pair_Odd.f (k + 1) a0) := by
  intro a0 k r h
  unfold pair_Odd.f at h ⊢
  split at h
  · exact h
  · obtain ⟨R, hR, h⟩ := Option.bind_eq_some_iff.1 h
    obtain ⟨o, ho, rfl⟩ := Option.map_eq_some_iff.1 h
    rw [solveF_mono hR, Option.bind_some, pair_odd.mono _ _ _ ho]; rfl
theorem pair_Match.mono : ∀ a0 k, LeO (pair_Match.f k a0) (pair_Match.f (k + 1) a0) := by
  intro a0 k r h
  unfold pair_Match.f at h ⊢
  split at h
  · exact h
  · obtain ⟨R, hR, h⟩ := Option.bind_eq_some_iff.1 h
    obtain ⟨o, ho, rfl⟩ := Option.map_eq_some_iff.1 h
    rw [solveF_mono hR, Option.bind_some, pair_odd.mono _ _ _ ho]; rfl
end Go.Proofs.Ytilabipmgcpnjaa.Own
