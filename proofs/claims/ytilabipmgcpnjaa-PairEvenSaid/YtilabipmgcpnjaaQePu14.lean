/- The declarations of Pu14 that the claim Qe needs. -/
import Derived.Test.YtilabipmgcpnjaaQePu10
import Derived.Test.YtilabipmgcpnjaaQeFnx7
namespace Go.Proofs.Ytilabipmgcpnjaa.Pure
open Go.RowKit Go.Proofs.Ytilabipmgcpnjaa.Own Go.Proofs.Ytilabipmgcpnjaa.Fn Go.Proofs.YtilabipmgcpnjaaW.PrintWords Go.Proofs.YtilabipmgcpnjaaW.PrintLast Go.Proofs.YtilabipmgcpnjaaW.PrintMore Go.Proofs.Ytilabipmgcpnjaa.Tan Go.Proofs.Ytilabipmgcpnjaa.Cyc
set_option linter.unusedVariables false
set_option linter.unusedSimpArgs false
section
variable {picks : List Int} {n : Nat}
/-- Everybody but i, from j on. -/
def others (i j d : Nat) : List Int := ((List.range' j d).filter (fun x => decide (x ≠ i))).map (fun (x : Nat) => (x : Int))
theorem pick_perm (left row : List Int) (q : Nat) (hq : q < left.length) : (row ++ left).Perm ((row ++ [left[q]]) ++ (left.take q ++ left.drop (q + 1))) := by
  have e : left = left.take q ++ left[q] :: left.drop (q + 1) := by
    rw [← List.drop_eq_getElem_cons hq, List.take_append_drop]
  have h1 : left.Perm (left[q] :: (left.take q ++ left.drop (q + 1))) := by
    conv => lhs; rw [e]
    exact List.perm_middle
  rw [List.append_assoc, List.singleton_append]
  exact h1.append_left row
theorem pick_len (left : List Int) (q : Nat) (hq : q < left.length) : (left.take q ++ left.drop (q + 1)).length + 1 = left.length := by
  rw [List.length_append, List.length_take, List.length_drop]; omega
theorem made_l2 (hpk : ∀ x ∈ picks, 0 ≤ x ∧ x < 65536) (hn : n ≤ 1000) {i : Nat} {out : List (List Int)} (ho : out.length ≤ 1000) {L0 : List Int} {G : List (List Int) → Prop} 
    (hc : ∀ (row : List Int) (at' : Nat), row.Perm L0 → at' ≤ (i + 1) * 1000 → ∃ Y, G Y ∧ Ev (fun k => gamplaw07_made.l0 k picks (n : Int) (out ++ [row]) (at' : Int) ((i + 1 : Nat) : Int)) Y) (hi : i ≤ 1000) (hL0 : L0.length ≤ 1000) :
    ∀ (d : Nat) (left row : List Int) (a : Nat), left.length = d → a + d ≤ (i + 1) * 1000 → (row ++ left).Perm L0 →
    ∃ Y, G Y ∧ Ev (fun k => gamplaw07_made.l2 k picks (n : Int) out (a : Int) (i : Int) left row) Y
  | 0, left, row, a, hd, ha, hP => by
    have e : left = [] := List.eq_nil_of_length_eq_zero hd
    subst e
    rw [List.append_nil] at hP
    obtain ⟨Y, h1, h2⟩ := hc row a hP (by omega)
    refine ⟨Y, h1, Ev.step (fun k => ?_) h2⟩
    simp only [gamplaw07_made.l2]
    rw [if_neg (by simp), if_pos (by omega), wrap_s (by omega)]
  | d + 1, left, row, a, hd, ha, hP => by
    have hlen := hP.length_eq
    rw [List.length_append] at hlen
    have ha2 : (i + 1) * 1000 ≤ 1001 * 1000 := Nat.mul_le_mul_right _ (by omega)
    have hwa : wrap64 ((a : Int) + 1) = ((a + 1 : Nat) : Int) := by unfold wrap64; omega
    by_cases hin : a < picks.length
    · have hx := hpk _ (List.getElem_mem hin)
      have hrd : rd picks (a : Int) = picks[a] := rd_get hin
      have hw : wrap64 (rd picks (a : Int)) = rd picks (a : Int) := by rw [hrd]; unfold wrap64; omega
      obtain ⟨q, hq⟩ : ∃ q : Nat, Int.tmod (rd picks (a : Int)) (left.length : Int) = (q : Int) ∧ q < left.length := by
        rw [hrd]
        obtain ⟨x, hx2⟩ := Int.eq_ofNat_of_zero_le hx.1
        refine ⟨x % left.length, ?_, Nat.mod_lt _ (by omega)⟩
        rw [hx2]
        rfl
      obtain ⟨hq1, hq2⟩ := hq
      have hlq : rd left (q : Int) = left[q] := rd_get hq2
      have hpl := pick_len left q hq2
      have hpl2 := hpl
      rw [List.length_append] at hpl2
      obtain ⟨Y, h1, h2⟩ := made_l2 hpk hn ho hc hi hL0 d (left.take q ++ left.drop (q + 1)) (row ++ [left[q]]) (a + 1) (by omega) (by omega) ((pick_perm left row q hq2).symm.trans hP)
      refine ⟨Y, h1, Ev.step (fun k => ?_) h2⟩
      simp only [gamplaw07_made.l2]
      rw [hw, hq1, if_pos (by omega), if_pos (by omega), if_pos (by omega), if_neg (by omega), if_pos (by omega), if_pos (by omega), if_pos (by omega), Option.bind_some, if_pos (by omega), Option.bind_some, Int.toNat_natCast, if_pos (by rw [List.length_nil, List.length_take]; omega), Option.bind_some, wrap_s (by omega), if_pos (by omega), if_pos (by omega), Option.bind_some, Int.toNat_natCast, if_pos (by rw [List.nil_append]; omega), List.nil_append, hlq, hwa]
    · have hq2 : 0 < left.length := by omega
      have hlq : rd left 0 = left[0] := rd_get (i := 0) hq2
      have hpl := pick_len left 0 hq2
      have hpl2 := hpl
      rw [List.length_append] at hpl2
      obtain ⟨Y, h1, h2⟩ := made_l2 hpk hn ho hc hi hL0 d (left.take 0 ++ left.drop (0 + 1)) (row ++ [left[0]]) (a + 1) (by omega) (by omega) ((pick_perm left row 0 hq2).symm.trans hP)
      refine ⟨Y, h1, Ev.step (fun k => ?_) h2⟩
      have t1 : (((0 : Int) + 1) : Int).toNat = 0 + 1 := rfl
      simp only [gamplaw07_made.l2]
      rw [if_pos (by omega), if_neg (by omega), if_pos (by omega), if_pos (by omega), Option.bind_some, if_pos (by omega), Option.bind_some, if_pos (by rw [List.length_nil, List.length_take]; omega), Option.bind_some, if_pos (by omega), if_pos (by omega), Option.bind_some, t1, if_pos (by rw [List.nil_append]; omega), List.nil_append, hlq, hwa]
theorem made_l1 (hn : n ≤ 1000) {i : Nat} {out : List (List Int)} {a : Nat} (hi : i < n) {row : List Int} {Y : List (List Int)} : ∀ (d j : Nat) (left : List Int), j + d = n → left.length ≤ j →
    Ev (fun k => gamplaw07_made.l2 k picks (n : Int) out (a : Int) (i : Int) (left ++ others i j d) row) Y →
    Ev (fun k => gamplaw07_made.l1 k picks (n : Int) out (a : Int) (i : Int) left row (j : Int)) Y
  | 0, j, left, hd, hl, h => by
    have e : others i j 0 = [] := rfl
    rw [e, List.append_nil] at h
    refine Ev.step (fun k => ?_) h
    simp only [gamplaw07_made.l1]
    rw [if_neg (by omega)]
  | d + 1, j, left, hd, hl, h => by
    by_cases e : j = i
    · have e2 : others i j (d + 1) = others i (j + 1) d := by
        unfold others
        rw [List.range'_succ, List.filter_cons, if_neg (by simp [e])]
      rw [e2] at h
      refine Ev.step (fun k => ?_) (made_l1 hn hi d (j + 1) left (by omega) (by omega) h)
      simp only [gamplaw07_made.l1]
      rw [if_pos (by omega), if_pos (by omega), wrap_s (by omega)]
    · have e2 : left ++ others i j (d + 1) = (left ++ [(j : Int)]) ++ others i (j + 1) d := by
        unfold others
        rw [List.range'_succ, List.filter_cons, if_pos (by simp [e]), List.append_assoc, List.map_cons]
        rfl
      rw [e2] at h
      refine Ev.step (fun k => ?_) (made_l1 hn hi d (j + 1) (left ++ [(j : Int)]) (by omega) (by rw [List.length_append, List.length_singleton]; omega) h)
      simp only [gamplaw07_made.l1]
      rw [if_pos (by omega), if_neg (by omega), if_pos (by omega), wrap_s (by omega)]
theorem others_len (i : Nat) : ∀ d j, (others i j d).length = if j ≤ i ∧ i < j + d then d - 1 else d
  | 0, j => by simp [others]
  | d + 1, j => by
    have ih := others_len i d (j + 1)
    unfold others at ih ⊢
    rw [List.range'_succ, List.filter_cons]
    by_cases e : j = i
    · rw [if_neg (by simp [e]), ih, if_neg (by omega), if_pos (by omega)]; omega
    · rw [if_pos (by simp [e]), List.map_cons, List.length_cons, ih]
      by_cases h : j + 1 ≤ i ∧ i < j + 1 + d
      · rw [if_pos h, if_pos (by omega)]; omega
      · rw [if_neg h, if_neg (by omega)]
theorem others_ok {i : Nat} (hi : i < n) : RowOk n i (others i 0 n) := by
  unfold others RowOk
  have hnd : ((List.range' 0 n).filter (fun x => decide (x ≠ i))).Nodup := List.Nodup.sublist List.filter_sublist List.nodup_range'
  refine ⟨?_, fun j hj => ?_, ?_⟩
  · have : ∀ l : List Nat, l.Nodup → (l.map (fun (x : Nat) => (x : Int))).Nodup := by
      intro l
      induction l with
      | nil => intro _; simp
      | cons a l ih =>
        intro h
        rw [List.nodup_cons] at h
        rw [List.map_cons, List.nodup_cons]
        refine ⟨fun hm => ?_, ih h.2⟩
        obtain ⟨z, hz, e⟩ := List.mem_map.1 hm
        exact h.1 ((by omega : z = a) ▸ hz)
    exact this _ hnd
  · obtain ⟨x, hx, rfl⟩ := List.mem_map.1 hj
    rw [List.mem_filter, List.mem_range'_1, decide_eq_true_eq] at hx
    omega
  · have := others_len i n 0
    rw [if_pos (by omega)] at this
    unfold others at this
    exact this
theorem perm_rowok {i : Nat} {L : List Int} (h : RowOk n i L) {l : List Int} (hP : l.Perm L) : RowOk n i l :=
  ⟨hP.nodup_iff.2 h.1, fun j hj => h.2.1 j (hP.mem_iff.1 hj), by rw [hP.length_eq]; exact h.2.2⟩
theorem made_l0 (hpk : ∀ x ∈ picks, 0 ≤ x ∧ x < 65536) (hn : n ≤ 1000) : ∀ (d i : Nat) (out : List (List Int)) (a : Nat), i + d = n → out.length = i → a ≤ i * 1000 → (∀ t, t < i → RowOk n t (out.getD t [])) →
    ∃ Y : List (List Int), (Y.length = n ∧ ∀ t, t < n → RowOk n t (Y.getD t [])) ∧ Ev (fun k => gamplaw07_made.l0 k picks (n : Int) out (a : Int) (i : Int)) Y
  | 0, i, out, a, hd, ho, ha, hr => by
    refine ⟨out, ⟨by omega, fun t ht => hr t (by omega)⟩, Ev.step (f := fun _ => some out) (fun k => by simp only [gamplaw07_made.l0]; rw [if_neg (by omega)]) (Ev.now _)⟩
  | d + 1, i, out, a, hd, ho, ha, hr => by
    have hi : i < n := by omega
    have hok := others_ok hi
    have ha2 : (i + 1) * 1000 = i * 1000 + 1000 := by omega
    obtain ⟨Y, h1, h2⟩ := made_l2 (G := fun Y => Y.length = n ∧ ∀ t, t < n → RowOk n t (Y.getD t [])) hpk hn (i := i) (out := out) (by omega) (L0 := others i 0 n) (fun row at' hrow hat =>
      made_l0 hpk hn d (i + 1) (out ++ [row]) at' (by omega) (by rw [List.length_append, List.length_singleton, ho]) hat (fun t ht => by
        rw [List.getD_eq_getElem?_getD, List.getElem?_append]
        by_cases e : t < out.length
        · rw [if_pos e, ← List.getD_eq_getElem?_getD]
          exact hr t (by omega)
        · have : t = i := by omega
          subst this
          rw [if_neg e, ho, Nat.sub_self]
          exact perm_rowok hok hrow)) (by omega) (by rw [hok.2.2]; omega) (n - 1) (others i 0 n) [] a hok.2.2 (by omega) (by rw [List.nil_append])
    refine ⟨Y, h1, Ev.step (fun k => ?_) (made_l1 (picks := picks) (n := n) hn (out := out) (a := a) hi (row := []) n 0 [] (by omega) (by simp) (by rw [List.nil_append]; exact h2))⟩
    simp only [gamplaw07_made.l0]
    rw [if_pos (by omega)]; rfl
/-- What made makes: valid lists of 1 to most people. -/
theorem made_ev (a0 : Int) (hpk : ∀ x ∈ picks, 0 ≤ x ∧ x < 65536) (h0 : 0 ≤ a0) (h1 : a0 < 256) (most : Nat) (hm1 : 1 ≤ most) (hm : most ≤ 24) :
    ∃ Ls : List (List Int), Valid Ls ∧ Ls.length ≤ most ∧ (Ls.length : Int) = Int.tmod a0 most + 1 ∧ Ev (fun k => gamplaw07_made.f k a0 picks (most : Int)) Ls := by
  obtain ⟨x, rfl⟩ := Int.eq_ofNat_of_zero_le h0
  have hw : wrap64 (x : Int) = x := by unfold wrap64; omega
  have ht : Int.tmod (x : Int) (most : Int) = ((x % most : Nat) : Int) := rfl
  have hlt := Nat.mod_lt x (show 0 < most by omega)
  obtain ⟨Y, ⟨h2, h3⟩, h4⟩ := made_l0 hpk (n := x % most + 1) (by omega) (x % most + 1) 0 [] 0 (by omega) rfl (by omega) (fun t ht => by omega)
  refine ⟨Y, ⟨by omega, by omega, fun i hi => by rw [h2]; exact h3 i (by omega)⟩, by omega, by rw [ht, h2]; omega, ?_⟩
  unfold gamplaw07_made.f
  refine Ev.congr (fun k => ?_) h4
  rw [if_neg (by omega), hw, ht, wrap_s (by omega)]; rfl
end
end Go.Proofs.Ytilabipmgcpnjaa.Pure
