/- The declarations of Fs that the claim Qd needs. -/
import Derived.Test.YtiknnpfdpecfdaaQdFex1
namespace Go.Proofs.Ytiknnpfdpecfdaa.Own
open Go Go.RowKit Go.Proofs Go.Proofs.Ytiknnpfdpecfdaa.Fe Go.Proofs.YtiknnpfdpecfdaaW.PrintWords Go.Proofs.YtiknnpfdpecfdaaW.PrintLast Go.Proofs.YtiknnpfdpecfdaaW.PrintMore
set_option linter.unusedVariables false
set_option linter.unusedSimpArgs false
/-- The place of a number in a list; -1: there is none. -/
def idxI : List Int → Int → Int
  | [], _ => -1
  | x :: l, a => if a = x then 0 else (if idxI l a < 0 then -1 else idxI l a + 1)
theorem idxI_range : ∀ (l : List Int) (a : Int), -1 ≤ idxI l a ∧ idxI l a < l.length
 | [], a => by simp [idxI]
 | x :: l, a => by
  have h := idxI_range l a
  unfold idxI
  split
  ·simp
  ·split <;> simp <;> omega
theorem idxI_cast (l : List Int) (a : Int) (h : 0 ≤ idxI l a) : ∃ i : Nat, idxI l a = i ∧ i < l.length := ⟨(idxI l a).toNat, by omega, by have := idxI_range l a; omega⟩
theorem idx_l0 (l : List Int) (a : Int) (hl : l.length < 2 ^ 40) : ∀ (d i : Nat), i + d = l.length → slices_Index_int_int.l0 (d + 1) l a (l.length : Int) (i : Int) = some (if idxI (l.drop i) a < 0 then -1 else idxI (l.drop i) a + i) := by
 intro d
 induction d with
 | zero =>
  intro i hi
  rw [List.drop_eq_nil_of_le (by omega)]
  simp only [slices_Index_int_int.l0]
  rw [if_neg (by omega)]
  rfl
 | succ d ih =>
  intro i hi
  have hil : i < l.length := by omega
  have hrd : rd l (i : Int) = l[i] := by simp [rd, hil]
  have hw : wrap64 ((i : Int) + 1) = ((i + 1 : Nat) : Int) := by unfold wrap64; omega
  rw [List.drop_eq_getElem_cons hil]
  simp only [slices_Index_int_int.l0]
  rw [if_pos (by omega), if_pos (by omega), if_pos (by omega), hrd]
  by_cases h : a = l[i]
  ·rw [if_pos h, idxI, if_pos h, if_neg (by omega)]
   simp
  ·rw [if_neg h, idxI, if_neg h, hw]
   have := ih (i + 1) (by omega)
   simp only [slices_Index_int_int.l0] at this
   rw [this]
   by_cases h2 : idxI (l.drop (i + 1)) a < 0
   ·rw [if_pos h2, if_pos h2]; rfl
   ·rw [if_neg h2, if_neg h2, if_neg (by omega)]
    congr 1
    omega
theorem idx_f (l : List Int) (a : Int) (hl : l.length < 2 ^ 40) : slices_Index_int_int.f (l.length + 1) l a = some (idxI l a) := by
 have h := idx_l0 l a hl l.length 0 (by omega)
 rw [List.drop_zero] at h
 unfold slices_Index_int_int.f
 refine h.trans ?_
 have := idxI_range l a
 by_cases h2 : idxI l a < 0
 ·rw [if_pos h2]
  congr 1
  omega
 ·rw [if_neg h2]
  simp
def endsB (c : S96) (s : Int) : Bool := decide (c.f0 = s) || (c.f1 == s)
theorem ends_f (c : S96) (s : Int) : fold_crease_ends.f c.f0 c.f1 c.f2 c.f3 s = some (endsB c s) := by
 unfold fold_crease_ends.f endsB
 by_cases h : c.f0 = s
 ·rw [if_pos h, decide_eq_true h]; rfl
 ·rw [if_neg h, decide_eq_false h]; rfl
def underB (c : S96) (l : Int) : Bool := (l == 86) == ((Int.tmod c.f0 2) == 0)
theorem under_f (c : S96) (l : Int) : fold_crease_under.f c.f0 c.f1 c.f2 c.f3 l = some (underB c l) := rfl
/-- A crease that waits inside a segment. -/
def blocked (low high : List Int) (cr : List S96) (seg k : Int) : Bool := !(endsB (rd_T96 cr k) seg) && (decide (rd low seg < (rd_T96 cr k).f2) && decide ((rd_T96 cr k).f2 < rd high seg))
def crossed (cr : List S96) (k j : Int) : Bool := ((rd_T96 cr j).f2 == (rd_T96 cr k).f2) && ((rd_T96 cr j).f3 == (rd_T96 cr k).f3)
/-- One crease of a segment that is put. -/
def putStep (cr : List S96) (pat : ByteArray) (seg k : Int) (ws : List Int) : Option (List Int) :=
  if endsB (rd_T96 cr k) seg = true then
    (if idxI ws k < 0 then (if (decide (pat.size ≠ 0) && (underB (rd_T96 cr k) (bt pat k) != ((rd_T96 cr k).f0 == seg))) = true then none else some (ws ++ [k]))
     else (if (ws.drop ((idxI ws k).toNat + 1)).any (crossed cr k) = true then none else some (ws.eraseIdx (idxI ws k).toNat)))
  else some ws
def putB (cr : List S96) (pat : ByteArray) (seg : Int) : Nat → Nat → List Int → Option (List Int)
  | 0, _, ws => some ws
  | d + 1, k, ws => (putStep cr pat seg (k : Int) ws).bind (putB cr pat seg d (k + 1))
def putF (low high : List Int) (cr : List S96) (pat : ByteArray) (seg : Int) (ws : List Int) : Option (List Int) :=
  if ws.any (blocked low high cr seg) = true then none else putB cr pat seg cr.length 0 ws
/-- Numbers of creases. -/
def Okw (cr : List S96) (ws : List Int) : Prop := ∀ k ∈ ws, 0 ≤ k ∧ k < cr.length
theorem okw_step {cr : List S96} {pat : ByteArray} {seg : Int} {k : Nat} {ws r : List Int} (hw : Okw cr ws) (hk : k < cr.length) (h : putStep cr pat seg (k : Int) ws = some r) : Okw cr r ∧ r.length ≤ ws.length + 1 := by
 unfold putStep at h
 split at h
 ·split at h
  ·split at h
   ·cases h
   ·obtain rfl := Option.some.inj h
    refine ⟨fun x hx => ?_, by simp⟩
    rcases List.mem_append.1 hx with hx | hx
    ·exact hw x hx
    ·rw [List.mem_singleton.1 hx]; omega
  ·split at h
   ·cases h
   ·obtain rfl := Option.some.inj h
    exact ⟨fun x hx => hw x (List.mem_of_mem_eraseIdx hx), by rw [List.length_eraseIdx]; split <;> omega⟩
 ·obtain rfl := Option.some.inj h
  exact ⟨hw, by omega⟩
end Go.Proofs.Ytiknnpfdpecfdaa.Own
