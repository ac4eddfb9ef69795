/- The declarations of Es that the claim Qz needs. -/
import Derived.Test.YtdpolfflemocaaaQzEr
namespace Go.Proofs.Ytdpolfflemocaaa.Pure
open Go Go.RowKit Go.Proofs.YtdpolfflemocaaaW.PrintWords Go.Proofs.YtdpolfflemocaaaW.PrintLast Go.Proofs.YtdpolfflemocaaaW.PrintMore Go.Proofs.Ytdpolfflemocaaa.Cl Go.Proofs.Ytdpolfflemocaaa.Own Go.Proofs.Ytdpolfflemocaaa.Rx Go.Proofs.Ytdpolfflemocaaa.Re
set_option linter.unusedVariables false
set_option linter.unusedSimpArgs false
open Classical
theorem eliminates_ok (n : Nat) (hn : n ≤ 31) (es : List S52) (g : List Nat) (G : Gr g) (hg : g.length = n) (hga : ∀ x y : Nat, ad g x y = nr es x y) (hr : Ev (fun k => rib_read.f k (n : Int) es) (il g, true)) (o : List Int) (ho : o.length < 2 ^ 30) :
  Ev (fun k => rib_Eliminates.f k (n : Int) es o) (if PermP n o then (decide (ElimP es (natl o)), 0) else (false, 2)) := by
 refine Ev.congr (g := fun k => rib_Eliminates.f k (n : Int) es o) (fun k => rfl) ?_
 refine Ev.bind (f := fun k bt137 => (if bt137.2 = true then ((rib_graph_permutation.f k bt137.1 o).bind fun t141 => (if t141 = true then ((rib_graph_all.f bt137.1).bind fun t142 => (rib_Eliminates.l0 k bt137.1 t142 o (o.length : Int) 0)) else (some (false, 2)))) else (some (false, 1)))) hr ?_
 refine Ev.congr (fun k => if_pos rfl) ?_
 refine Ev.bind (f := fun k t141 => (if t141 = true then ((rib_graph_all.f (il g)).bind fun t142 => (rib_Eliminates.l0 k (il g) t142 o (o.length : Int) 0)) else (some (false, (2 : Int))))) (perm_prog n g hg hn o (by omega)) ?_
 by_cases hp : PermP n o
 ·rw [if_pos hp]
  refine Ev.congr (fun k => if_pos (decide_eq_true hp)) ?_
  have hlt := inr_nat hp.1
  have hio : o = il (natl o) := natl_il o fun x hx => (hp.1 x hx).1
  have hlen : (natl o).length = o.length := by unfold natl; rw [List.length_map]
  have hset : setOf (natl o) = 2 ^ n - 1 := by
   have hq := (pig (natl o) (List.range n) hp.2.1 fun x hx => List.mem_range.2 (hlt x hx)).2 (by rw [List.length_range, hlen]; exact hp.2.2)
   apply Nat.eq_of_testBit_eq
   intro j
   rw [setOf_bit, all_bit, decide_eq_decide, hq.mem_iff, List.mem_range]
  have ev := elim_prog n hn es g G hg hga (natl o) (by omega) hp.2.1 hlt
  rw [hset] at ev
  refine Ev.congr (fun k => ?_) ev
  rw [all_f g (by omega), Option.bind_some, hg, ← hio, hlen]
 ·rw [if_neg hp]
  exact Ev.congr (fun k => if_neg (by simpa using hp)) (Ev.now _)
theorem eliminates_no (n : Int) (es : List S52) (o : List Int) (hes : es.length < 2 ^ 50) (v : ¬ Valid n es) : Ev (fun k => rib_Eliminates.f k n es o) (false, 1) := by
 refine Ev.congr (g := fun k => rib_Eliminates.f k n es o) (fun k => rfl) ?_
 refine Ev.bind (f := fun k bt137 => (if bt137.2 = true then ((rib_graph_permutation.f k bt137.1 o).bind fun t141 => (if t141 = true then ((rib_graph_all.f bt137.1).bind fun t142 => (rib_Eliminates.l0 k bt137.1 t142 o (o.length : Int) 0)) else (some (false, 2)))) else (some (false, 1)))) (read_no n es hes v) ?_
 exact Ev.congr (fun k => if_neg (by simp)) (Ev.now _)
theorem any_out (n : Int) (l : List Int) : l.any (outB n) = decide (¬ InR n l) := by
 rw [Bool.eq_iff_iff, List.any_eq_true, decide_eq_true_eq]
 unfold InR outB
 constructor
 ·rintro ⟨x, hx, h⟩ hin
  have := hin x hx
  simp only [Bool.or_eq_true, decide_eq_true_eq] at h
  omega
 ·intro h
  apply Classical.byContradiction
  intro hno
  refine h fun x hx => ?_
  apply Classical.byContradiction
  intro hb
  refine hno ⟨x, hx, ?_⟩
  simp only [Bool.or_eq_true, decide_eq_true_eq]
  omega
theorem isRing_ok (n : Nat) (hn : n ≤ 31) (es : List S52) (g : List Nat) (G : Gr g) (hg : g.length = n) (hga : ∀ x y : Nat, ad g x y = nr es x y) (hr : Ev (fun k => rib_read.f k (n : Int) es) (il g, true)) (l : List Int) (hl : l.length < 2 ^ 30) :
  Ev (fun k => rib_IsRing.f k (n : Int) es l) (if InR n l then (decide (RingP es l), 0) else (false, 2)) := by
 refine Ev.congr (g := fun k => rib_IsRing.f k (n : Int) es l) (fun k => rfl) ?_
 refine Ev.bind (f := fun k bt148 => (if bt148.2 = true then ((rib_out.f l (n : Int)).bind fun t152 => (if t152 = true then (some (false, 2)) else (rib_IsRing.l0 k l bt148.1 0 l (l.length : Int) 0))) else (some (false, 1)))) hr ?_
 refine Ev.congr (fun k => if_pos rfl) ?_
 unfold rib_out.f
 rw [any_out]
 by_cases hin : InR n l
 ·rw [if_pos hin]
  refine Ev.congr (fun k => by rw [Option.bind_some, if_neg (by simpa using hin)]) ?_
  have hio : l = il (natl l) := natl_il l fun x hx => (hin x hx).1
  have hlen : (natl l).length = l.length := by unfold natl; rw [List.length_map]
  have ev := ring_prog n hn es g G hg hga (natl l) (by omega) (inr_nat hin)
  rw [← hio, hlen] at ev
  exact ev
 ·rw [if_neg hin]
  exact Ev.congr (fun k => by rw [Option.bind_some, if_pos (decide_eq_true hin)]) (Ev.now _)
theorem isRing_no (n : Int) (es : List S52) (l : List Int) (hes : es.length < 2 ^ 50) (v : ¬ Valid n es) : Ev (fun k => rib_IsRing.f k n es l) (false, 1) := by
 refine Ev.congr (g := fun k => rib_IsRing.f k n es l) (fun k => rfl) ?_
 refine Ev.bind (f := fun k bt148 => (if bt148.2 = true then ((rib_out.f l n).bind fun t152 => (if t152 = true then (some (false, 2)) else (rib_IsRing.l0 k l bt148.1 0 l (l.length : Int) 0))) else (some (false, 1)))) (read_no n es hes v) ?_
 exact Ev.congr (fun k => if_neg (by simp)) (Ev.now _)
/-- The law's last loop. -/
theorem law_l0 (n : Nat) (es : List S52) (hes : es.length < 2 ^ 50) (l : List Int) (hl : l.length < 2 ^ 30) : ∀ (d i : Nat), i + d = l.length → (∀ x ∈ l.take i, 0 ≤ x ∧ x < (n : Int)) →
  Ev (fun k => gamplaw04_RibEliminates.l0 k l (if InR n l then (decide (RingP es l), 0) else (false, (2 : Int))).1 (if InR n l then (decide (RingP es l), 0) else (false, (2 : Int))).2 (i : Int) (n : Int) es) true := by
 intro d
 induction d with
 | zero =>
  intro i hi hok
  rw [List.take_of_length_le (by omega)] at hok
  have hin : InR n l := hok
  rw [if_pos hin]
  obtain ⟨K, hK⟩ := ring_ref es hes l (by omega)
  refine ⟨K + 1, fun k hk => ?_⟩
  obtain ⟨k, rfl⟩ : ∃ j, k = j + 1 := ⟨k - 1, by omega⟩
  have a1 := hK k (by omega)
  dsimp only at a1
  simp only [gamplaw04_RibEliminates.l0]
  rw [if_neg (by omega), a1, Option.bind_some, if_pos (by simp)]
  rfl
 | succ d ih =>
  intro i hi hok
  have hil : i < l.length := by omega
  have e1 : ∀ k a b, gamplaw04_RibEliminates.l0 (k + 1) l a b (i : Int) (n : Int) es = if l[i] < 0 then (if a = true then some false else some (b == 2)) else if l[i] ≥ (n : Int) then (if a = true then some false else some (b == 2)) else gamplaw04_RibEliminates.l0 k l a b ((i + 1 : Nat) : Int) (n : Int) es := by
   intro k a b
   simp only [gamplaw04_RibEliminates.l0]
   rw [if_pos (by omega), if_pos (by omega), rd_get l i hil, wrap_up i (by omega)]
  by_cases hb : 0 ≤ l[i] ∧ l[i] < (n : Int)
  ·refine Ev.step (fun k => by rw [e1, if_neg (by omega), if_neg (by omega)]) (ih (i + 1) (by omega) fun x hx => ?_)
   rw [List.take_succ_eq_append_getElem hil, List.mem_append] at hx
   rcases hx with hx | hx
   ·exact hok x hx
   ·obtain rfl := List.mem_singleton.1 hx; exact hb
  ·have hin : ¬ InR n l := fun h => hb (h _ (List.getElem_mem hil))
   rw [if_neg hin]
   refine Ev.step (f := fun _ => some true) (fun k => ?_) (Ev.now _)
   rw [e1]
   by_cases h1 : l[i] < 0
   ·rw [if_pos h1]; rfl
   ·rw [if_neg h1, if_pos (by omega)]; rfl
/-- RibEliminates: Eliminates reports whether any order is an elimination order, and IsRing whether any nodes are a ring, or the errors. -/
theorem ribEliminates_ev (n : Int) (es : List S52) (o l : List Int) : Ev (fun k => gamplaw04_RibEliminates.f k n es o l) true := by
 have hel : (es.take 70).length ≤ 70 := List.length_take_le _ _
 have hl5 : (es.take 70).length < 2 ^ 50 := by omega
 have ho2 : (o.take 14).length ≤ 14 := List.length_take_le _ _
 have hl2 : (l.take 14).length ≤ 14 := List.length_take_le _ _
 have evg := graph_ev (fewN n) (es.take 70) hl5
 obtain ⟨Kl, hKl⟩ := lives_ev
 by_cases v : Valid (fewN n) (es.take 70)
 ·rw [decide_eq_true v] at evg
  obtain ⟨m, hm⟩ : ∃ m : Nat, fewN n = m := ⟨(fewN n).toNat, by have := v.lo; omega⟩
  rw [hm] at v evg
  have hm12 := v.hi
  obtain ⟨g, evr, G, hgl, hga⟩ := read_ok m (es.take 70) hl5 v
  have e1 := eliminates_ok m (by omega) _ g G hgl hga evr (o.take 14) (by omega)
  have e2 := isRing_ok m (by omega) _ g G hgl hga evr (l.take 14) (by omega)
  have e3 := perm_ref m (by omega) (o.take 14) (by omega)
  have e4 := law_l0 m (es.take 70) hl5 (l.take 14) (by omega) (l.take 14).length 0 (by omega) (by simp)
  generalize hring : (if InR m (l.take 14) then (decide (RingP (es.take 70) (l.take 14)), 0) else (false, (2 : Int))) = ring at e2 e4
  obtain ⟨K1, k1⟩ := e1
  obtain ⟨K2, k2⟩ := e2
  obtain ⟨K3, k3⟩ := e3
  obtain ⟨K4, k4⟩ := e4
  obtain ⟨K5, k5⟩ := evg
  -- what is common to both ways
  have fin : ∀ k, K4 + Kl + 2 ≤ k → ∀ (is : Bool) (e : Int), gamplaw04_RibEliminates.j0 k (l.take 14) is e ring.1 ring.2 is e (m : Int) (es.take 70) = some true := by
   intro k hk is e
   obtain ⟨k, rfl⟩ : ∃ j, k = j + 2 := ⟨k - 2, by omega⟩
   have a1 := hKl (k + 1) (by omega)
   have a2 := k4 k (by omega)
   dsimp only at a1 a2
   simp only [gamplaw04_RibEliminates.j0]
   rw [if_neg (by simp), if_pos trivial, a1, Option.bind_some]
   simp only [gamplaw04_RibEliminates.j1]
   rw [if_neg (by simp)]
   exact a2
  by_cases hp : PermP m (o.take 14)
  ·have hio : o.take 14 = il (natl (o.take 14)) := natl_il _ fun x hx => (hp.1 x hx).1
   have hlen : (natl (o.take 14)).length = (o.take 14).length := by unfold natl; rw [List.length_map]
   have e6 := elim_ref (es.take 70) hl5 (natl (o.take 14)) (by omega) hp.2.1
   rw [← hio] at e6
   obtain ⟨K6, k6⟩ := e6
   refine ⟨K1 + K2 + K3 + K4 + K5 + K6 + Kl + 2, fun k hk => ?_⟩
   have a1 := k1 k (by omega)
   have a2 := k2 k (by omega)
   have a3 := k3 k (by omega)
   have a5 := k5 k (by omega)
   have a6 := k6 k (by omega)
   dsimp only at a1 a2 a3 a5 a6
   rw [if_pos hp] at a1
   rw [decide_eq_true hp] at a3
   show gamplaw04_RibEliminates.f k n es o l = some true
   unfold gamplaw04_RibEliminates.f
   rw [few_f, Option.bind_some, cut_f o, Option.bind_some, cut_f l, Option.bind_some, hm]
   dsimp only
   rw [a1, Option.bind_some, a2, Option.bind_some, a5, Option.bind_some, if_pos rfl, a3, Option.bind_some, if_pos rfl, a6, Option.bind_some]
   exact fin k (by omega) _ _
  ·refine ⟨K1 + K2 + K3 + K4 + K5 + Kl + 2, fun k hk => ?_⟩
   have a1 := k1 k (by omega)
   have a2 := k2 k (by omega)
   have a3 := k3 k (by omega)
   have a5 := k5 k (by omega)
   dsimp only at a1 a2 a3 a5
   rw [if_neg hp] at a1
   rw [decide_eq_false hp] at a3
   show gamplaw04_RibEliminates.f k n es o l = some true
   unfold gamplaw04_RibEliminates.f
   rw [few_f, Option.bind_some, cut_f o, Option.bind_some, cut_f l, Option.bind_some, hm]
   dsimp only
   rw [a1, Option.bind_some, a2, Option.bind_some, a5, Option.bind_some, if_pos rfl, a3, Option.bind_some, if_neg (by simp)]
   exact fin k (by omega) _ _
 ·rw [decide_eq_false v] at evg
  obtain ⟨K1, k1⟩ := eliminates_no (fewN n) (es.take 70) (o.take 14) hl5 v
  obtain ⟨K2, k2⟩ := isRing_no (fewN n) (es.take 70) (l.take 14) hl5 v
  obtain ⟨K5, k5⟩ := evg
  refine ⟨K1 + K2 + K5 + Kl, fun k hk => ?_⟩
  have a1 := k1 k (by omega)
  have a2 := k2 k (by omega)
  have a5 := k5 k (by omega)
  have a6 := hKl k (by omega)
  dsimp only at a1 a2 a5 a6
  show gamplaw04_RibEliminates.f k n es o l = some true
  unfold gamplaw04_RibEliminates.f
  rw [few_f, Option.bind_some, cut_f o, Option.bind_some, cut_f l, Option.bind_some]
  dsimp only
  rw [a1, Option.bind_some, a2, Option.bind_some, a5, Option.bind_some, if_neg (by simp)]
  dsimp only
  rw [if_neg (by simp), if_pos rfl, if_neg (by simp), if_pos rfl, a6]
  rfl
end Go.Proofs.Ytdpolfflemocaaa.Pure
