/- The declarations of Mh that the claim Qb needs. -/
import Derived.Test.YtiknnpfdpecfdaaQbZ1
namespace Go.Proofs.Ytiknnpfdpecfdaa.Own
open Go Go.RowKit Go.Proofs Go.Proofs.YtiknnpfdpecfdaaW.PrintWords Go.Proofs.YtiknnpfdpecfdaaW.PrintLast Go.Proofs.YtiknnpfdpecfdaaW.PrintMore
set_option linter.unusedVariables false
set_option linter.unusedSimpArgs false
/-- A crease is put on its stack, or taken off it. -/
def stk (k : Nat) (st : List Nat) : Option (List Nat) := if st.contains k then (match st with | [] => none | x :: r => if x == k then some r else none) else some (k :: st)
def stp1 (k : Nat) (eo : List Nat × List Nat) : Option (List Nat × List Nat) := if k % 2 == 0 then (stk k eo.1).map fun e => (e, eo.2) else (stk k eo.2).map fun o => (eo.1, o)
/-- Segment s of n is put. -/
def stp (n s : Nat) (eo : List Nat × List Nat) : Option (List Nat × List Nat) := (match s with | 0 => some eo | c + 1 => stp1 c eo).bind fun u => if Nat.blt s (n - 1) then stp1 s u else some u
def cnt (n : Nat) : Nat → List Nat → List Nat × List Nat → Nat
  | 0, _, _ => 1
  | d + 1, us, eo => (List.range n).foldr (fun s acc => (if us.contains s then 0 else match stp n s eo with | none => 0 | some eo' => cnt n d (s :: us) eo') + acc) 0
/-- The creases that wait, on two stacks. -/
structure Two (m : Nat) (ws : List Int) (eo : List Nat × List Nat) : Prop where
  nd : ws.Nodup
  ok : ∀ x ∈ ws, 0 ≤ x ∧ x < m
  ev : ws.filter (fun x => x % 2 == 0) = eo.1.reverse.map (fun (k : Nat) => (k : Int))
  od : ws.filter (fun x => !(x % 2 == 0)) = eo.2.reverse.map (fun (k : Nat) => (k : Int))
theorem cast_mem {k : Nat} {st : List Nat} {F : List Int} (h : F = st.reverse.map (fun (k : Nat) => (k : Int))) : (k : Int) ∈ F ↔ k ∈ st := by
 subst h
 rw [List.mem_map]
 constructor
 ·rintro ⟨a, ha, e⟩
  have : a = k := by omega
  subst this
  exact List.mem_reverse.1 ha
 ·intro h; exact ⟨k, List.mem_reverse.2 h, rfl⟩
/-- One stack: p tells its creases. -/
theorem stk_push {p : Int → Bool} {ws : List Int} {k : Nat} {st : List Nat} (h : ws.filter p = st.reverse.map (fun (k : Nat) => (k : Int))) (hp : p (k : Int) = true) (hk : (k : Int) ∉ ws) : stk k st = some (k :: st) ∧ (ws ++ [(k : Int)]).filter p = (k :: st).reverse.map (fun (k : Nat) => (k : Int)) := by
 have hn : k ∉ st := fun h2 => hk (List.mem_filter.1 ((cast_mem h).2 h2)).1
 constructor
 ·unfold stk
  rw [if_neg (by rw [List.contains_iff_mem]; exact hn)]
 ·rw [List.filter_append, h, List.filter_cons_of_pos hp]
  simp
theorem stk_pop {p : Int → Bool} {A B : List Int} {k : Nat} {st : List Nat} (h : (A ++ (k : Int) :: B).filter p = st.reverse.map (fun (k : Nat) => (k : Int))) (hp : p (k : Int) = true) (hB : (k : Int) ∉ B) (hA : (k : Int) ∉ A) :
  (B.filter p = [] → ∃ r, stk k st = some r ∧ (A ++ B).filter p = r.reverse.map (fun (k : Nat) => (k : Int))) ∧ (B.filter p ≠ [] → stk k st = none) := by
 have hm : k ∈ st := (cast_mem h).1 (by rw [List.mem_filter]; exact ⟨by simp, hp⟩)
 rw [List.filter_append, List.filter_cons_of_pos hp] at h
 unfold stk
 rw [if_pos (by rw [List.contains_iff_mem]; exact hm)]
 cases st with
 | nil => cases hm
 | cons x r =>
  rw [List.reverse_cons, List.map_append, List.map_cons, List.map_nil] at h
  constructor
  ·intro hb
   rw [hb] at h
   have h1 := List.append_inj' h rfl
   have hx : (k : Int) = (x : Int) := (List.cons.inj h1.2).1
   have hx2 : x = k := by omega
   refine ⟨r, ?_, ?_⟩
   ·subst hx2; simp
   ·rw [List.filter_append, hb, List.append_nil]; exact h1.1
  ·intro hb
   have hx : x ≠ k := by
    intro e
    subst e
    obtain ⟨y, hy⟩ : ∃ y, (B.filter p).getLast? = some y := by
     cases hg : (B.filter p).getLast? with
     | none => exact absurd (List.getLast?_eq_none_iff.1 hg) hb
     | some y => exact ⟨y, rfl⟩
    have h2 := congrArg List.getLast? h
    rw [List.getLast?_append, List.getLast?_append] at h2
    have h3 : ((x : Int) :: B.filter p).getLast? = some y := by rw [List.getLast?_cons, hy]; rfl
    rw [h3] at h2
    have h4 : y = (x : Int) := by simpa using h2
    have h5 := List.mem_of_getLast? hy
    rw [h4] at h5
    exact hB (List.mem_filter.1 h5).1
   have hx2 : (x == k) = false := by simpa using hx
   show (if (x == k) = true then some r else none) = none
   rw [hx2]
   rfl
/-- Creases of a strip of one length: m of them. -/
structure Unit1 (m : Nat) (cr : List S96) : Prop where
  len : cr.length = m
  f0 : ∀ k : Nat, k < m → (rd_T96 cr k).f0 = (k : Int) ∧ (rd_T96 cr k).f1 = ((k + 1 : Nat) : Int)
  x : ∀ k j : Nat, k < m → j < m → crossed cr (k : Int) (j : Int) = (((j : Int) % 2 == 0) == ((k : Int) % 2 == 0))
theorem unit_ends {m : Nat} {cr : List S96} (h : Unit1 m cr) {k s : Nat} (hk : k < m) : endsB (rd_T96 cr (k : Int)) (s : Int) = true ↔ (k = s ∨ k + 1 = s) := by
 unfold endsB
 rw [(h.f0 k hk).1, (h.f0 k hk).2, Bool.or_eq_true, decide_eq_true_eq, beq_iff_eq]
 omega
/-- One crease. -/
theorem two_step {m : Nat} {cr : List S96} (h : Unit1 m cr) {k s : Nat} (hk : k < m) (he : k = s ∨ k + 1 = s) {ws : List Int} {eo : List Nat × List Nat} (ht : Two m ws eo) :
  (∀ eo', stp1 k eo = some eo' → ∃ us, putStep cr ⟨#[]⟩ (s : Int) (k : Int) ws = some us ∧ Two m us eo') ∧ (stp1 k eo = none → putStep cr ⟨#[]⟩ (s : Int) (k : Int) ws = none) := by
 unfold putStep
 rw [if_pos ((unit_ends h hk).2 he)]
 by_cases hm : (k : Int) ∈ ws
 ·obtain ⟨t, hti, hget⟩ := idxI_at ws _ hm
  have htl : t < ws.length := (List.getElem?_eq_some_iff.1 hget).1
  have hgt : ws[t] = (k : Int) := (List.getElem?_eq_some_iff.1 hget).2
  rw [hti, if_neg (by omega), Int.toNat_natCast]
  obtain ⟨A, hA⟩ : ∃ A, ws.take t = A := ⟨_, rfl⟩
  obtain ⟨B, hB⟩ : ∃ B, ws.drop (t + 1) = B := ⟨_, rfl⟩
  have hws : ws = A ++ (k : Int) :: B := by rw [← hA, ← hB, ← hgt, ← List.drop_eq_getElem_cons htl, List.take_append_drop]
  have her : ws.eraseIdx t = A ++ B := by rw [List.eraseIdx_eq_take_drop_succ, hA, hB]
  rw [her, hB]
  have hnd := ht.nd
  rw [hws] at hnd
  have hkB : (k : Int) ∉ B := (List.nodup_cons.1 (List.nodup_append.1 hnd).2.1).1
  have hkA : (k : Int) ∉ A := fun h2 => (List.nodup_append.1 hnd).2.2 _ h2 _ List.mem_cons_self rfl
  have hev := ht.ev
  have hod := ht.od
  rw [hws] at hev hod
  have hsub : (A ++ B).Sublist ws := by rw [hws]; exact (List.Sublist.refl A).append (List.sublist_cons_self _ _)
  have hokB : ∀ x ∈ B, 0 ≤ x ∧ x < m := fun x hx => ht.ok x (by rw [hws]; exact List.mem_append_right _ (List.mem_cons_of_mem _ hx))
  have hany : ∀ q : Int → Bool, (∀ x : Int, q x = ((x % 2 == 0) == ((k : Int) % 2 == 0))) → (B.any (crossed cr (k : Int)) = true ↔ B.filter q ≠ []) := by
   intro q hq
   rw [List.any_eq_true]
   constructor
   ·rintro ⟨x, hx, hc⟩ h2
    obtain ⟨j, rfl⟩ : ∃ j : Nat, x = (j : Int) := ⟨x.toNat, by have := hokB x hx; omega⟩
    rw [h.x k j hk (by have := hokB _ hx; omega), ← hq] at hc
    have := List.mem_filter.2 ⟨hx, hc⟩
    rw [h2] at this
    cases this
   ·intro h2
    obtain ⟨x, hx⟩ := List.exists_mem_of_ne_nil _ h2
    have h3 := List.mem_filter.1 hx
    obtain ⟨j, rfl⟩ : ∃ j : Nat, x = (j : Int) := ⟨x.toNat, by have := hokB x h3.1; omega⟩
    exact ⟨_, h3.1, by rw [h.x k j hk (by have := hokB _ h3.1; omega), ← hq]; exact h3.2⟩
  unfold stp1
  by_cases hpar : k % 2 = 0
  ·have hp : ((k : Int) % 2 == 0) = true := by rw [beq_iff_eq]; omega
   have hq := hany (fun x => x % 2 == 0) (fun x => by rw [hp]; simp)
   obtain ⟨z1, z2⟩ := stk_pop hev hp hkB hkA
   rw [if_pos (by rw [beq_iff_eq]; exact hpar)]
   constructor
   ·intro eo' hs
    obtain ⟨e, he1, rfl⟩ := Option.map_eq_some_iff.1 hs
    have hb : B.filter (fun x => x % 2 == 0) = [] := Decidable.byContradiction fun h2 => by rw [z2 h2] at he1; cases he1
    obtain ⟨r, hr1, hr2⟩ := z1 hb
    obtain rfl := Option.some.inj (hr1.symm.trans he1)
    rw [if_neg (fun h2 => hq.1 h2 hb)]
    refine ⟨_, rfl, ht.nd.sublist hsub, fun x hx => ht.ok x (hsub.subset hx), hr2, ?_⟩
    rw [List.filter_append, List.filter_cons_of_neg (by rw [hp]; simp)] at hod
    rw [List.filter_append]; exact hod
   ·intro hs
    rw [if_pos]
    apply hq.2
    intro h2
    obtain ⟨r, hr1, _⟩ := z1 h2
    rw [hr1] at hs
    cases hs
  ·have hp : ((k : Int) % 2 == 0) = false := by rw [beq_eq_false_iff_ne]; omega
   have hp2 : (!((k : Int) % 2 == 0)) = true := by rw [hp]; rfl
   have hq := hany (fun x => !(x % 2 == 0)) (fun x => by rw [hp]; cases (x % 2 == 0) <;> rfl)
   obtain ⟨z1, z2⟩ := stk_pop hod hp2 hkB hkA
   rw [if_neg (by rw [beq_iff_eq]; exact hpar)]
   constructor
   ·intro eo' hs
    obtain ⟨e, he1, rfl⟩ := Option.map_eq_some_iff.1 hs
    have hb : B.filter (fun x => !(x % 2 == 0)) = [] := Decidable.byContradiction fun h2 => by rw [z2 h2] at he1; cases he1
    obtain ⟨r, hr1, hr2⟩ := z1 hb
    obtain rfl := Option.some.inj (hr1.symm.trans he1)
    rw [if_neg (fun h2 => hq.1 h2 hb)]
    refine ⟨_, rfl, ht.nd.sublist hsub, fun x hx => ht.ok x (hsub.subset hx), ?_, hr2⟩
    rw [List.filter_append, List.filter_cons_of_neg (by rw [hp]; simp)] at hev
    rw [List.filter_append]; exact hev
   ·intro hs
    rw [if_pos]
    apply hq.2
    intro h2
    obtain ⟨r, hr1, _⟩ := z1 h2
    rw [hr1] at hs
    cases hs
 ·have hneg : idxI ws (k : Int) < 0 := Int.not_le.1 (fun h => hm (idxI_mem.1 h))
  rw [if_pos hneg]
  have hnd : (ws ++ [(k : Int)]).Nodup := List.nodup_append.2 ⟨ht.nd, by simp, fun x hx y hy e => hm (by rw [List.mem_singleton.1 hy] at e; exact e ▸ hx)⟩
  have hok : ∀ x ∈ ws ++ [(k : Int)], 0 ≤ x ∧ x < m := fun x hx => by
   rcases List.mem_append.1 hx with hx | hx
   ·exact ht.ok x hx
   ·rw [List.mem_singleton.1 hx]; omega
  have hpat : ¬ ((decide ((⟨#[]⟩ : ByteArray).size ≠ 0) && (underB (rd_T96 cr (k : Int)) (bt ⟨#[]⟩ (k : Int)) != ((rd_T96 cr (k : Int)).f0 == (s : Int)))) = true) := by
   rw [show decide ((⟨#[]⟩ : ByteArray).size ≠ 0) = false from rfl]; simp
  rw [if_neg hpat]
  unfold stp1
  by_cases hpar : k % 2 = 0
  ·have hp : ((k : Int) % 2 == 0) = true := by rw [beq_iff_eq]; omega
   obtain ⟨z1, z2⟩ := stk_push (p := fun x => x % 2 == 0) ht.ev hp hm
   rw [if_pos (by rw [beq_iff_eq]; exact hpar), z1]
   constructor
   ·intro eo' hs
    obtain rfl := Option.some.inj hs
    exact ⟨_, rfl, hnd, hok, z2, by rw [List.filter_append, List.filter_cons_of_neg (by rw [hp]; simp), List.filter_nil, List.append_nil]; exact ht.od⟩
   ·intro hs; cases hs
  ·have hp : ((k : Int) % 2 == 0) = false := by rw [beq_eq_false_iff_ne]; omega
   obtain ⟨z1, z2⟩ := stk_push (p := fun x => !(x % 2 == 0)) ht.od (by rw [hp]; rfl) hm
   rw [if_neg (by rw [beq_iff_eq]; exact hpar), z1]
   constructor
   ·intro eo' hs
    obtain rfl := Option.some.inj hs
    exact ⟨_, rfl, hnd, hok, by rw [List.filter_append, List.filter_cons_of_neg (by rw [hp]; simp), List.filter_nil, List.append_nil]; exact ht.ev, z2⟩
   ·intro hs; cases hs
end Go.Proofs.Ytiknnpfdpecfdaa.Own
