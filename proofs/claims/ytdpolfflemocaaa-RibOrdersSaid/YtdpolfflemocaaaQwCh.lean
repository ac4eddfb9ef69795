/- The declarations of Ch that the claim Qw needs. -/
import Derived.Test.YtdpolfflemocaaaQwPe
import Derived.Test.YtdpolfflemocaaaQwRxx14
import Derived.Test.YtdpolfflemocaaaQwTr
namespace Go.Proofs.Ytdpolfflemocaaa.Pure
open Go Go.RowKit Go.Proofs.YtdpolfflemocaaaW.PrintWords Go.Proofs.YtdpolfflemocaaaW.PrintLast Go.Proofs.YtdpolfflemocaaaW.PrintMore Go.Proofs.Ytdpolfflemocaaa.Cl Go.Proofs.Ytdpolfflemocaaa.Own Go.Proofs.Ytdpolfflemocaaa.Rx
set_option linter.unusedVariables false
set_option linter.unusedSimpArgs false
open Classical
/-- The neighbours of v among some nodes are a clique. -/
def Simp (es : List S52) (left : List Nat) (v : Nat) : Prop := ∀ a b, a ∈ left → b ∈ left → adjE es v a = true → adjE es v b = true → a ≠ b → adjE es a b = true
noncomputable def elim (es : List S52) : Nat → List Nat → Option (List Nat)
 | 0, _ => some []
 | k + 1, left => match left.find? (fun v => decide (Simp es left v)) with
  | none => if left = [] then some [] else none
  | some v => (elim es k (left.erase v)).map (v :: ·)
theorem il_take (l : List Nat) (i : Nat) : (il l).take i = il (l.take i) := by simp [il, List.map_take]
theorem il_drop (l : List Nat) (i : Nat) : (il l).drop i = il (l.drop i) := by simp [il, List.map_drop]
theorem erase_at : ∀ (l : List Nat) (i : Nat), l.Nodup → (h : i < l.length) → l.take i ++ l.drop (i + 1) = l.erase l[i]
 | [], i, _, h => by simp at h
 | a :: l, 0, _, h => by simp
 | a :: l, i + 1, hn, h => by
  rw [List.nodup_cons] at hn
  have hi : i < l.length := by simpa using h
  have hne : (a == l[i]) = false := by
   rw [beq_eq_false_iff_ne]
   exact fun e => hn.1 (e ▸ List.getElem_mem hi)
  have ih := erase_at l i hn.2 hi
  simp only [List.take_succ_cons, List.drop_succ_cons, List.cons_append, List.getElem_cons_succ]
  rw [List.erase_cons, hne, ih]
  rfl
/-- The inner loop of the reference's Chordal: the neighbours of a place. -/
theorem chord_l3 (es : List S52) (hes : es.length < 2 ^ 50) (left : List Nat) (hl : left.length < 2 ^ 30) (at_ : Int) (i : Nat) (hi : i < left.length) (R : Bool) (hnd : left.Nodup)
  (hR : Ev (fun k => gampref04_Chordal.l2 k es (il left) (if Simp es left left[i] then (i : Int) else at_) ((i + 1 : Nat) : Int)) R) :
  ∀ (d j : Nat) (acc : List Nat), j + d = left.length → acc = (left.take j).filter (adjE es left[i] ·) → Ev (fun k => gampref04_Chordal.l3 k es (il left) at_ (i : Int) (il acc) (j : Int)) R := by
 intro d
 induction d with
 | zero =>
  intro j acc hj hacc
  have hj2 : left.take j = left := List.take_of_length_le (by omega)
  rw [hj2] at hacc
  have hlen : acc.length ≤ left.length := by rw [hacc]; exact List.length_filter_le _ _
  have ev := clique_ev es hes (il acc) (by rw [il_len]; omega)
  have hiff : AllPr (nr es) (il acc) ↔ Simp es left left[i] := by
   rw [allPr_iff es acc (by rw [hacc]; exact hnd.sublist List.filter_sublist), hacc]
   unfold Simp
   constructor
   ·exact fun h a b ha hb haa hab hne => h a b (List.mem_filter.2 ⟨ha, haa⟩) (List.mem_filter.2 ⟨hb, hab⟩) hne
   ·exact fun h a b ha hb hne => h a b (List.mem_filter.1 ha).1 (List.mem_filter.1 hb).1 (List.mem_filter.1 ha).2 (List.mem_filter.1 hb).2 hne
  obtain ⟨K1, h1⟩ := ev
  obtain ⟨K2, h2⟩ := hR
  refine ⟨K1 + K2 + 1, fun k hk => ?_⟩
  obtain ⟨k, rfl⟩ : ∃ j, k = j + 1 := ⟨k - 1, by omega⟩
  have a1 := h1 k (by omega)
  have a2 := h2 k (by omega)
  dsimp only at a1 a2
  simp only [gampref04_Chordal.l3]
  rw [if_neg (by rw [il_len]; omega), a1, Option.bind_some, wrap_up i (by omega)]
  by_cases hs : Simp es left left[i]
  ·rw [if_pos (decide_eq_true (hiff.2 hs))]
   rw [if_pos hs] at a2; exact a2
  ·rw [if_neg (by simpa using fun h => hs (hiff.1 h))]
   rw [if_neg hs] at a2; exact a2
 | succ d ih =>
  intro j acc hj hacc
  have hjl : j < left.length := by omega
  have hlen : acc.length ≤ left.length := by rw [hacc]; exact Nat.le_trans (List.length_filter_le _ _) (List.length_take_le' _ _)
  have ev := near_ev es hes (left[i] : Int) (left[j] : Int)
  have hstep : (left.take (j + 1)).filter (adjE es left[i] ·) = if adjE es left[i] left[j] = true then acc ++ [left[j]] else acc := by
   rw [List.take_succ_eq_append_getElem hjl, List.filter_append, hacc]
   by_cases hn : adjE es left[i] left[j] = true
   ·rw [if_pos hn]; simp [hn]
   ·rw [if_neg hn]; simp [hn]
  have ih2 := ih (j + 1) _ (by omega) hstep.symm
  obtain ⟨K1, h1⟩ := ev
  obtain ⟨K2, h2⟩ := ih2
  refine ⟨K1 + K2 + 1, fun k hk => ?_⟩
  obtain ⟨k, rfl⟩ : ∃ j, k = j + 1 := ⟨k - 1, by omega⟩
  have a1 := h1 k (by omega)
  have a2 := h2 k (by omega)
  dsimp only at a1 a2
  have ri : rd (il left) (i : Int) = (left[i] : Int) := by rw [il_rd _ _ hi]; simp [hi]
  have rj : rd (il left) (j : Int) = (left[j] : Int) := by rw [il_rd _ _ hjl]; simp [hjl]
  simp only [gampref04_Chordal.l3]
  rw [il_len, if_pos (by omega), if_pos (by omega), if_pos (by omega), if_pos (by omega), ri, rj, a1, Option.bind_some, il_len, wrap_up j (by omega)]
  by_cases hn : adjE es left[i] left[j] = true
  ·rw [if_pos (show nr es left[i] left[j] = true from hn), if_pos (by omega), show il acc ++ [(left[j] : Int)] = il (acc ++ [left[j]]) by rw [il_app]; rfl]
   rw [if_pos hn] at a2; exact a2
  ·rw [if_neg (show ¬ nr es left[i] left[j] = true from hn)]
   rw [if_neg hn] at a2; exact a2
/-- The search for the first node whose neighbours are a clique. -/
theorem chord_l2 (es : List S52) (hes : es.length < 2 ^ 50) (left : List Nat) (hl : left.length < 2 ^ 30) (hnd : left.Nodup) (R : Bool)
  (hR : ∀ i (h : i < left.length), Simp es left left[i] → (∀ j (hj : j < left.length), j < i → ¬ Simp es left left[j]) → Ev (fun k => gampref04_Chordal.l1 k es (il (left.erase left[i]))) R)
  (hN : (∀ j (hj : j < left.length), ¬ Simp es left left[j]) → R = false) :
  ∀ (d i : Nat), i + d = left.length → (∀ j (hj : j < left.length), j < i → ¬ Simp es left left[j]) → Ev (fun k => gampref04_Chordal.l2 k es (il left) (-1) (i : Int)) R := by
 -- what is done where the search ends
 have fin : ∀ i (h : i < left.length), Simp es left left[i] → (∀ j (hj : j < left.length), j < i → ¬ Simp es left left[j]) → ∀ j : Nat, Ev (fun k => gampref04_Chordal.j3 k es (il left) (i : Int) (j : Int) false) R := by
  intro i h hs hf j
  refine Ev.step (fun k => ?_) (hR i h hs hf)
  have t1 : (left.take i).length ≤ left.length := List.length_take_le' _ _
  have t2 : (left.drop (i + 1)).length ≤ left.length := by rw [List.length_drop]; omega
  have c1 : ([] : List Int).length + (il (left.take i)).length < 17592186044416 := by rw [il_len, List.length_nil]; omega
  have c2 : ([] ++ il (left.take i)).length + (il (left.drop (i + 1))).length < 17592186044416 := by rw [List.nil_append, il_len, il_len]; omega
  have w1 : wrap64 ((i : Int) + 1) = ((i + 1 : Nat) : Int) := wrap_up i (by omega)
  have i1 : (0 : Int) ≤ (i : Int) := by omega
  have i2 : (i : Int) ≤ (left.length : Int) := by omega
  have i3 : (0 : Int) ≤ ((i + 1 : Nat) : Int) := by omega
  have i4 : ((i + 1 : Nat) : Int) ≤ (left.length : Int) := by omega
  have i5 : ¬ (i : Int) < 0 := by omega
  have e := erase_at left i hnd h
  clear hR hN hf hs
  simp only [gampref04_Chordal.j3]
  rw [if_neg (by simp), if_neg i5, Option.bind_some, if_pos i1, il_len, if_pos i2, w1, Int.toNat_natCast, Int.toNat_natCast, il_take, il_drop, Option.bind_some, if_pos c1, Option.bind_some, if_pos i3, if_pos i4, Option.bind_some, if_pos c2, List.nil_append, ← il_app, e]
 intro d
 induction d with
 | zero =>
  intro i hi hf
  rw [hN fun j hj => hf j hj (by omega)]
  refine Ev.step (f := fun k => gampref04_Chordal.j3 k es (il left) (-1) (i : Int) false) (fun k => ?_) ?_
  ·simp only [gampref04_Chordal.l2]
   rw [il_len, if_neg (by omega)]
  ·refine Ev.step (f := fun _ => some false) (fun k => ?_) (Ev.now _)
   simp only [gampref04_Chordal.j3]
   rw [if_neg (by simp), if_pos (by omega)]
 | succ d ih =>
  intro i hi hf
  have hil : i < left.length := by omega
  refine Ev.step (f := fun k => gampref04_Chordal.j3 k es (il left) (-1) (i : Int) true) (fun k => ?_) ?_
  ·simp only [gampref04_Chordal.l2]
   rw [il_len, if_pos (by omega), decide_eq_true (by omega)]
  ·refine Ev.step (f := fun k => gampref04_Chordal.l3 k es (il left) (-1) (i : Int) (il []) ((0 : Nat) : Int)) (fun k => ?_) ?_
   ·simp only [gampref04_Chordal.j3]
    rw [if_pos trivial]; rfl
   ·refine chord_l3 es hes left hl (-1) i hil R hnd ?_ left.length 0 [] (by omega) (by simp)
    by_cases hs : Simp es left left[i]
    ·rw [if_pos hs]
     -- the next round ends the search
     refine Ev.step (f := fun k => gampref04_Chordal.j3 k es (il left) (i : Int) ((i + 1 : Nat) : Int) false) (fun k => ?_) (fin i hil hs hf (i + 1))
     simp only [gampref04_Chordal.l2]
     by_cases h : ((i + 1 : Nat) : Int) < ((il left).length : Int)
     ·rw [if_pos h, decide_eq_false (by omega)]
     ·rw [if_neg h]
    ·rw [if_neg hs]
     exact ih (i + 1) (by omega) (fun j hj hji => by
      by_cases e : j = i
      ·subst e; exact hs
      ·exact hf j hj (by omega))
theorem chord_l1 (es : List S52) (hes : es.length < 2 ^ 50) : ∀ (d : Nat) (left : List Nat), left.length ≤ d → left.length < 2 ^ 30 → left.Nodup → Ev (fun k => gampref04_Chordal.l1 k es (il left)) (elim es d left).isSome := by
 intro d
 induction d with
 | zero =>
  intro left hd _ _
  obtain rfl : left = [] := List.length_eq_zero_iff.1 (by omega)
  refine Ev.step (f := fun _ => some true) (fun k => ?_) (Ev.now _)
  simp [gampref04_Chordal.l1, il]
 | succ d ih =>
  intro left hd hl hnd
  by_cases h0 : left = []
  ·subst h0
   refine Ev.step (f := fun _ => some true) (fun k => ?_) (Ev.now _)
   simp [gampref04_Chordal.l1, il]
  ·have hpos : 0 < left.length := List.length_pos_iff.2 h0
   refine Ev.step (f := fun k => gampref04_Chordal.l2 k es (il left) (-1) ((0 : Nat) : Int)) (fun k => ?_) ?_
   ·simp only [gampref04_Chordal.l1]
    rw [il_len, if_pos (by omega)]; rfl
   ·refine chord_l2 es hes left hl hnd _ ?_ ?_ left.length 0 (by omega) (fun j _ hj => by omega)
    ·intro i hi hs hf
     have hfind : left.find? (fun v => decide (Simp es left v)) = some left[i] := by
      rw [List.find?_eq_some_iff_getElem]
      refine ⟨decide_eq_true hs, i, hi, rfl, fun j hj => by simpa using hf j (by omega) hj⟩
     have : elim es (d + 1) left = (elim es d (left.erase left[i])).map (left[i] :: ·) := by
      rw [elim, hfind]
     rw [this, Option.isSome_map]
     have hle : (left.erase left[i]).length = left.length - 1 := List.length_erase_of_mem (List.getElem_mem hi)
     exact ih _ (by omega) (by omega) (hnd.erase _)
    ·intro hn
     have hfind : left.find? (fun v => decide (Simp es left v)) = none := by
      rw [List.find?_eq_none]
      intro v hv
      obtain ⟨j, hj, rfl⟩ := List.getElem_of_mem hv
      simpa using hn j hj
     rw [elim, hfind]
     simp [h0]
theorem chordal_ev (n : Nat) (hn : n ≤ 100) (es : List S52) (hes : es.length < 2 ^ 50) : Ev (fun k => gampref04_Chordal.f k (n : Int) es) (elim es n (List.range n)).isSome := by
 have main : ∀ (d i : Nat), i + d = n → Ev (fun k => gampref04_Chordal.l0 k (n : Int) es (il (List.range i)) (i : Int)) (elim es n (List.range n)).isSome := by
  intro d
  induction d with
  | zero =>
   intro i hi
   obtain rfl : i = n := by omega
   refine Ev.step (fun k => ?_) (chord_l1 es hes i (List.range i) (by simp) (by simp; omega) List.nodup_range)
   simp only [gampref04_Chordal.l0]
   rw [if_neg (by omega)]
  | succ d ih =>
   intro i hi
   refine Ev.step (fun k => ?_) (ih (i + 1) (by omega))
   simp only [gampref04_Chordal.l0]
   rw [if_pos (by omega), il_len, List.length_range, if_pos (by omega), wrap_up i (by omega), List.range_succ, il_app]
   rfl
 exact main n 0 (by omega)
/-- As long as some node's neighbours are a clique, whatever is left, the elimination ends. -/
theorem elim_some (es : List S52) (n : Nat) (h : ∀ left : List Nat, left ≠ [] → left.Nodup → (∀ v ∈ left, v < n) → ∃ v ∈ left, Simp es left v) : ∀ (d : Nat) (left : List Nat), left.Nodup → (∀ v ∈ left, v < n) → (elim es d left).isSome = true := by
 intro d
 induction d with
 | zero => intro left _ _; rfl
 | succ d ih =>
  intro left hnd hlt
  by_cases h0 : left = []
  ·subst h0; simp [elim]
  ·obtain ⟨v, hv, hs⟩ := h left h0 hnd hlt
   have : (left.find? (fun v => decide (Simp es left v))).isSome = true := by
    rw [List.find?_isSome]; exact ⟨v, hv, decide_eq_true hs⟩
   obtain ⟨u, hu⟩ := Option.isSome_iff_exists.1 this
   rw [elim, hu]
   simp only [Option.isSome_map]
   exact ih _ (hnd.erase _) (fun w hw => hlt w (List.mem_of_mem_erase hw))
end Go.Proofs.Ytdpolfflemocaaa.Pure
