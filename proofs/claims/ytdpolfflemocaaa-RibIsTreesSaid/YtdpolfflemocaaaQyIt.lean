/- The declarations of It that the claim Qy needs. -/
import Derived.Test.YtdpolfflemocaaaQyPf
import Derived.Test.YtdpolfflemocaaaQyCh
import Derived.Test.YtdpolfflemocaaaQyRxx13
import Derived.Test.YtdpolfflemocaaaQyRxx11
namespace Go.Proofs.Ytdpolfflemocaaa.Pure
open Go Go.RowKit Go.Proofs.YtdpolfflemocaaaW.PrintWords Go.Proofs.YtdpolfflemocaaaW.PrintLast Go.Proofs.YtdpolfflemocaaaW.PrintMore Go.Proofs.Ytdpolfflemocaaa.Cl Go.Proofs.Ytdpolfflemocaaa.Own Go.Proofs.Ytdpolfflemocaaa.Rx
set_option linter.unusedVariables false
set_option linter.unusedSimpArgs false
open Classical
def fa (e : S52) : Nat := e.f0.toNat
def fb (e : S52) : Nat := e.f1.toNat
/-- A pair that joins two groups. -/
def OkT (m : Nat) (nm : List Nat) (e : S52) : Prop := 0 ≤ e.f0 ∧ e.f0 < e.f1 ∧ e.f1 < m ∧ nm.getD (fa e) 0 ≠ nm.getD (fb e) 0
def ren (nm : List Nat) (a b : Nat) : List Nat := nm.map fun x => if x = a then b else x
def renE (nm : List Nat) (e : S52) : List Nat := ren nm (nm.getD (fa e) 0) (nm.getD (fb e) 0)
def AccT (m : Nat) : List Nat → List S52 → Prop
  | _, [] => True
  | nm, e :: es => OkT m nm e ∧ AccT m (renE nm e) es
theorem ren_len (nm : List Nat) (a b : Nat) : (ren nm a b).length = nm.length := by simp [ren]
theorem ren_get (nm : List Nat) (a b i : Nat) (h : i < nm.length) : (ren nm a b).getD i 0 = if nm.getD i 0 = a then b else nm.getD i 0 := by
  simp [ren, h]
theorem ref_l2 (n : Nat) (tree : List S52) (R : List (List Int)) (hR : R.length < 2 ^ 40) (x10 : Nat) (hx : x10 < 2 ^ 40) (a b : Nat) (nm : List Nat) (hnm : nm.length = R.length) (r : Bool)
    (hr : Ev (fun k => gampref04_Tree.l1 k (n : Int) tree R (il (ren nm a b)) ((x10 + 1 : Nat) : Int)) r) :
    ∀ (d i : Nat) (cur : List Nat), i + d = R.length → cur.length = R.length → (∀ j, j < R.length → cur.getD j 0 = if j < i then (ren nm a b).getD j 0 else nm.getD j 0) → Ev (fun k => gampref04_Tree.l2 k (n : Int) tree R (il cur) (x10 : Int) (a : Int) (b : Int) (i : Int)) r := by
  intro d
  induction d with
  | zero =>
    intro i cur hi hc hv
    have e : cur = ren nm a b := by
      apply List.ext_getElem (by rw [ren_len, hnm, hc])
      intro j h1 h2
      have := hv j (by omega)
      rw [if_pos (by omega)] at this
      simpa [h1, h2] using this
    subst e
    refine Ev.step (fun k => ?_) hr
    simp only [gampref04_Tree.l2]
    rw [if_neg (by omega), wrap_up x10 (by omega)]
  | succ d ih =>
    intro i cur hi hc hv
    have hil : i < cur.length := by omega
    have rc : rd (il cur) (i : Int) = ((cur.getD i 0 : Nat) : Int) := il_rd _ _ hil
    have hci : cur.getD i 0 = nm.getD i 0 := by have := hv i (by omega); rw [if_neg (by omega)] at this; exact this
    have hrn := ren_get nm a b i (by omega)
    refine Ev.step (f := fun k => gampref04_Tree.l2 k (n : Int) tree R (il (if nm.getD i 0 = a then cur.set i b else cur)) (x10 : Int) (a : Int) (b : Int) ((i + 1 : Nat) : Int)) (fun k => ?_) ?_
    · simp only [gampref04_Tree.l2]
      rw [if_pos (by omega), if_pos (by omega), il_len, if_pos (by omega), rc, hci, wrap_up i (by omega), Int.toNat_natCast, il_set]
      by_cases h : nm.getD i 0 = a
      · rw [if_pos (by omega), if_pos h]
      · rw [if_neg (by omega), if_neg h]
    · refine ih (i + 1) _ (by omega) (by split <;> simp [hc]) (fun j hj => ?_)
      by_cases hji : j = i
      · subst hji
        rw [if_pos (show j < j + 1 by omega), hrn]
        by_cases h : nm.getD j 0 = a
        · rw [if_pos h, if_pos h, getD_set, if_pos ⟨rfl, hil⟩]
        · rw [if_neg h, if_neg h, hci]
      · have h1 : (if nm.getD i 0 = a then cur.set i b else cur).getD j 0 = cur.getD j 0 := by
          split
          · rw [getD_set, if_neg (fun h => hji h.1.symm)]
          · rfl
        rw [h1, hv j hj]
        by_cases h2 : j < i
        · rw [if_pos h2, if_pos (by omega)]
        · rw [if_neg h2, if_neg (by omega)]
theorem ref_l1 (n : Nat) (tree : List S52) (ht : tree.length < 2 ^ 40) (R : List (List Int)) (hR : R.length < 2 ^ 40) (r : Bool) :
  ∀ (d i : Nat) (nm : List Nat), i + d = tree.length → nm.length = R.length → (AccT R.length nm (tree.drop i) → Ev (fun k => gampref04_Tree.l3 k (n : Int) tree R 0) r) → Ev (fun k => gampref04_Tree.l1 k (n : Int) tree R (il nm) (i : Int)) (decide (AccT R.length nm (tree.drop i)) && r) := by
 intro d
 induction d with
 | zero =>
  intro i nm hi hnm hr
  rw [List.drop_eq_nil_of_le (by omega)] at hr
  rw [List.drop_eq_nil_of_le (by omega), decide_eq_true (show AccT R.length nm [] from trivial), Bool.true_and]
  refine Ev.step (fun k => ?_) (hr trivial)
  simp only [gampref04_Tree.l1]
  rw [if_neg (by omega)]
 | succ d ih =>
  intro i nm hi hnm hr
  have hil : i < tree.length := by omega
  have e0 : ea tree i = tree[i] := by simp [ea, hil]
  rw [List.drop_eq_getElem_cons hil, ← e0] at hr
  rw [List.drop_eq_getElem_cons hil, ← e0]
  have hwm : wrap64 ((R.length : Int) - 1) = (R.length : Int) - 1 := by unfold wrap64; omega
  have e1 : ∀ k, gampref04_Tree.l1 (k + 1) (n : Int) tree R (il nm) (i : Int) = if 0 ≤ (ea tree i).f0 ∧ (ea tree i).f0 ≤ (R.length : Int) - 1 then (if wrap64 ((ea tree i).f0 + 1) ≤ (ea tree i).f1 ∧ (ea tree i).f1 ≤ (R.length : Int) - 1 then (if 0 ≤ (ea tree i).f0 then (if (ea tree i).f0 < ((il nm).length : Int) then (if 0 ≤ (ea tree i).f1 then (if (ea tree i).f1 < ((il nm).length : Int) then gampref04_Tree.j2 k (n : Int) tree R (il nm) (i : Int) ((rd (il nm) (ea tree i).f0) == (rd (il nm) (ea tree i).f1)) else none) else none) else none) else none) else gampref04_Tree.j2 k (n : Int) tree R (il nm) (i : Int) true) else gampref04_Tree.j2 k (n : Int) tree R (il nm) (i : Int) true := by
   intro k
   simp only [gampref04_Tree.l1]
   rw [if_pos (by omega), if_pos (by omega), ea_rd, in_f, Option.bind_some, hwm]
   by_cases h1 : 0 ≤ (ea tree i).f0 ∧ (ea tree i).f0 ≤ (R.length : Int) - 1
   ·rw [if_pos (decide_eq_true h1), if_pos h1, in_f, Option.bind_some]
    by_cases h2 : wrap64 ((ea tree i).f0 + 1) ≤ (ea tree i).f1 ∧ (ea tree i).f1 ≤ (R.length : Int) - 1
    ·rw [if_pos (decide_eq_true h2), if_pos h2]
    ·rw [if_neg (by simpa using h2), if_neg h2]
   ·rw [if_neg (by simpa using h1), if_neg h1]
  have bad : ¬ OkT R.length nm (ea tree i) → (∀ k, gampref04_Tree.l1 (k + 1) (n : Int) tree R (il nm) (i : Int) = gampref04_Tree.j2 k (n : Int) tree R (il nm) (i : Int) true) → Ev (fun k => gampref04_Tree.l1 k (n : Int) tree R (il nm) (i : Int)) (decide (AccT R.length nm (ea tree i :: tree.drop (i + 1))) && r) := by
   intro h1 h2
   rw [decide_eq_false (fun h => h1 h.1), Bool.false_and]
   refine Ev.step h2 ?_
   refine Ev.step (f := fun _ => some false) (fun k => ?_) (Ev.now _)
   simp only [gampref04_Tree.j2]
   rw [if_pos trivial]
  by_cases h1 : 0 ≤ (ea tree i).f0 ∧ (ea tree i).f0 ≤ (R.length : Int) - 1
  ·have hw1 : wrap64 ((ea tree i).f0 + 1) = (ea tree i).f0 + 1 := by unfold wrap64; omega
   rw [hw1] at e1
   by_cases h2 : (ea tree i).f0 + 1 ≤ (ea tree i).f1 ∧ (ea tree i).f1 ≤ (R.length : Int) - 1
   ·obtain ⟨a, ha⟩ : ∃ a : Nat, (ea tree i).f0 = a := ⟨(ea tree i).f0.toNat, by omega⟩
    obtain ⟨b, hb⟩ : ∃ b : Nat, (ea tree i).f1 = b := ⟨(ea tree i).f1.toNat, by omega⟩
    have hfa : fa (ea tree i) = a := by unfold fa; omega
    have hfb : fb (ea tree i) = b := by unfold fb; omega
    have ra : rd (il nm) (a : Int) = ((nm.getD a 0 : Nat) : Int) := il_rd _ _ (by omega)
    have rb : rd (il nm) (b : Int) = ((nm.getD b 0 : Nat) : Int) := il_rd _ _ (by omega)
    have e2 : ∀ k, gampref04_Tree.l1 (k + 1) (n : Int) tree R (il nm) (i : Int) = gampref04_Tree.j2 k (n : Int) tree R (il nm) (i : Int) ((rd (il nm) (a : Int)) == (rd (il nm) (b : Int))) := by
     intro k
     rw [e1, if_pos h1, if_pos h2, ha, hb, if_pos (by omega), il_len, if_pos (by omega), if_pos (by omega), if_pos (by omega)]
    by_cases h3 : nm.getD a 0 = nm.getD b 0
    ·refine bad (fun h => h.2.2.2 (by rw [hfa, hfb]; exact h3)) (fun k => ?_)
     rw [e2, ra, rb, h3]; simp
    ·have hok : OkT R.length nm (ea tree i) := ⟨by omega, by omega, by omega, by rw [hfa, hfb]; exact h3⟩
     have ih2 := ih (i + 1) (renE nm (ea tree i)) (by omega) (by unfold renE; rw [ren_len, hnm]) (fun h => hr ⟨hok, h⟩)
     rw [show decide (AccT R.length nm (ea tree i :: tree.drop (i + 1))) = decide (AccT R.length (renE nm (ea tree i)) (tree.drop (i + 1))) from decide_eq_decide.2 ⟨fun h => h.2, fun h => ⟨hok, h⟩⟩]
     refine Ev.step e2 ?_
     unfold renE at ih2
     rw [hfa, hfb] at ih2
     have l2 := ref_l2 n tree R hR i (by omega) (nm.getD a 0) (nm.getD b 0) nm hnm _ ih2 R.length 0 nm (by omega) hnm (fun j hj => by rw [if_neg (by omega)])
     unfold renE
     rw [hfa, hfb]
     refine Ev.step (fun k => ?_) l2
     simp only [gampref04_Tree.j2]
     rw [ra, rb, if_neg (show ¬ ((((nm.getD a 0 : Nat) : Int) == ((nm.getD b 0 : Nat) : Int)) = true) by rw [beq_iff_eq]; omega), if_pos (by omega), if_pos (by omega), ea_rd, ha, hb, if_pos (by omega), il_len, if_pos (by omega), if_pos (by omega), if_pos (by omega), ra, rb]
     rfl
   ·exact bad (fun h => h2 ⟨by have := h.2.1; omega, by have := h.2.2.1; omega⟩) (fun k => by rw [e1, if_pos h1, if_neg h2])
  ·exact bad (fun h => h1 ⟨h.1, by have := h.2.1; have := h.2.2.1; omega⟩) (fun k => by rw [e1, if_neg h1])
def cntM (M : List Nat) (v : Nat) : Nat := M.countP (·.testBit v)
def prsM (M : List Nat) (tree : List S52) (v : Nat) : Nat := tree.countP fun e => (M.getD (fa e) 0).testBit v && (M.getD (fb e) 0).testBit v
def CntT (n : Nat) (M : List Nat) (tree : List S52) : Prop := ∀ v, v < n → ((prsM M tree v : Nat) : Int) = (cntM M v : Int) - 1
def Rng (m : Nat) (tree : List S52) : Prop := ∀ e ∈ tree, 0 ≤ e.f0 ∧ e.f0 < e.f1 ∧ e.f1 < m
theorem AccT.rng {m : Nat} : ∀ {nm : List Nat} {tree : List S52}, AccT m nm tree → Rng m tree
 | _, [], _ => fun e he => by cases he
 | nm, x :: tree, h => fun e he => by
  rcases List.mem_cons.1 he with rfl | he
  ·exact ⟨h.1.1, h.1.2.1, h.1.2.2.1⟩
  ·exact AccT.rng h.2 e he
theorem has_ev (t v : Nat) (ht : t < 4294967296) : Ev (fun k => gampref04_Has.f k (il (nd t)) (v : Int)) (t.testBit v) := by
 have hlen : (nd t).length ≤ 32 := by unfold nd; exact Nat.le_trans (List.length_filter_le _ _) (by simp)
 have main : ∀ (d i : Nat), i + d = (nd t).length → Ev (fun k => gampref04_Has.l0 k (il (nd t)) (v : Int) (i : Int)) (decide (v ∈ (nd t).drop i)) := by
  intro d
  induction d with
  | zero =>
   intro i hi
   rw [List.drop_eq_nil_of_le (by omega), decide_eq_false (by simp)]
   refine Ev.step (f := fun _ => some false) (fun k => ?_) (Ev.now _)
   simp only [gampref04_Has.l0]
   rw [il_len, if_neg (by omega)]
  | succ d ih =>
   intro i hi
   have hil : i < (nd t).length := by omega
   have ri : rd (il (nd t)) (i : Int) = ((nd t)[i] : Int) := by rw [il_rd _ _ hil]; simp [hil]
   rw [List.drop_eq_getElem_cons hil]
   by_cases h : (nd t)[i] = v
   ·rw [decide_eq_true (by rw [h]; simp)]
    refine Ev.step (f := fun _ => some true) (fun k => ?_) (Ev.now _)
    simp only [gampref04_Has.l0]
    rw [il_len, if_pos (by omega), if_pos (by omega), ri, if_pos (by omega)]
   ·rw [show decide (v ∈ (nd t)[i] :: (nd t).drop (i + 1)) = decide (v ∈ (nd t).drop (i + 1)) from decide_eq_decide.2 (by rw [List.mem_cons]; exact ⟨fun x => x.resolve_left fun y => h y.symm, Or.inr⟩)]
    refine Ev.step (fun k => ?_) (ih (i + 1) (by omega))
    simp only [gampref04_Has.l0]
    rw [il_len, if_pos (by omega), if_pos (by omega), ri, if_neg (by omega), wrap_up i (by omega)]
 have h := main (nd t).length 0 (by omega)
 rw [List.drop_zero] at h
 rw [show t.testBit v = decide (v ∈ nd t) by rw [Bool.eq_iff_iff, decide_eq_true_eq, mem_nd ht]]
 exact h
theorem countP_take_succ {α : Type} (p : α → Bool) (l : List α) (i : Nat) (h : i < l.length) : (l.take (i + 1)).countP p = (l.take i).countP p + if p l[i] = true then 1 else 0 := by
  rw [List.take_succ_eq_append_getElem h, List.countP_append, List.countP_singleton]
theorem countP_take_le {α : Type} (p : α → Bool) (l : List α) (i : Nat) : (l.take i).countP p ≤ l.length := Nat.le_trans List.countP_le_length (List.length_take_le' _ _)
/-- The reference's counts. -/
theorem ref_l3 (n : Nat) (hn : n < 2 ^ 30) (M : List Nat) (hM : ∀ t ∈ M, t < 4294967296) (hMl : M.length < 2 ^ 40) (tree : List S52) (ht : tree.length < 2 ^ 40) (hrng : Rng M.length tree) :
    ∀ (d v : Nat), v + d = n → Ev (fun k => gampref04_Tree.l3 k (n : Int) tree (M.map fun t => il (nd t)) (v : Int)) (decide (∀ u, v ≤ u → u < n → ((prsM M tree u : Nat) : Int) = (cntM M u : Int) - 1)) := by
  intro d
  induction d with
  | zero =>
    intro v hv
    rw [decide_eq_true (fun u h1 h2 => by omega)]
    refine Ev.step (f := fun _ => some true) (fun k => ?_) (Ev.now _)
    simp only [gampref04_Tree.l3]
    rw [if_neg (by omega)]
  | succ d ih =>
    intro v hv
    have ih2 := ih (v + 1) (by omega)
    have hget : ∀ i, i < M.length → rd_L2 (M.map fun t => il (nd t)) (i : Int) = il (nd (M.getD i 0)) := by
      intro i hi
      simp [rd_L2, hi]
    have hmem : ∀ i, i < M.length → M.getD i 0 < 4294967296 := fun i hi => by
      rw [show M.getD i 0 = M[i] by simp [hi]]; exact hM _ (List.getElem_mem _)
    -- the pairs
    have l5 : ∀ (d i : Nat), i + d = tree.length → Ev (fun k => gampref04_Tree.l5 k (n : Int) tree (M.map fun t => il (nd t)) (v : Int) ((cntM M v : Nat) : Int) ((((tree.take i).countP fun e => (M.getD (fa e) 0).testBit v && (M.getD (fb e) 0).testBit v : Nat)) : Int) (i : Int)) (decide (∀ u, v ≤ u → u < n → ((prsM M tree u : Nat) : Int) = (cntM M u : Int) - 1)) := by
      intro d
      induction d with
      | zero =>
        intro i hi
        have hfull : (tree.take i).countP (fun e => (M.getD (fa e) 0).testBit v && (M.getD (fb e) 0).testBit v) = prsM M tree v := by rw [List.take_of_length_le (by omega)]; rfl
        rw [hfull]
        have hc : cntM M v ≤ M.length := List.countP_le_length
        have hw : wrap64 ((cntM M v : Int) - 1) = (cntM M v : Int) - 1 := by unfold wrap64; omega
        by_cases h : ((prsM M tree v : Nat) : Int) = (cntM M v : Int) - 1
        · rw [show decide (∀ u, v ≤ u → u < n → ((prsM M tree u : Nat) : Int) = (cntM M u : Int) - 1) = decide (∀ u, v + 1 ≤ u → u < n → ((prsM M tree u : Nat) : Int) = (cntM M u : Int) - 1) from decide_eq_decide.2 ⟨fun hh u h1 h2 => hh u (by omega) h2, fun hh u h1 h2 => by
            by_cases e : u = v
            · subst e; exact h
            · exact hh u (by omega) h2⟩]
          refine Ev.step (fun k => ?_) ih2
          simp only [gampref04_Tree.l5]
          rw [if_neg (by omega), hw, if_pos h, wrap_up v (by omega)]
        · rw [decide_eq_false (fun hh => h (hh v (Nat.le_refl _) (by omega)))]
          refine Ev.step (f := fun _ => some false) (fun k => ?_) (Ev.now _)
          simp only [gampref04_Tree.l5]
          rw [if_neg (by omega), hw, if_neg h]
      | succ d ih5 =>
        intro i hi
        have hil : i < tree.length := by omega
        have e0 : ea tree i = tree[i] := by simp [ea, hil]
        obtain ⟨g1, g2, g3⟩ := hrng _ (ea_mem hil)
        obtain ⟨a, ha⟩ : ∃ a : Nat, (ea tree i).f0 = a := ⟨(ea tree i).f0.toNat, by omega⟩
        obtain ⟨b, hb⟩ : ∃ b : Nat, (ea tree i).f1 = b := ⟨(ea tree i).f1.toNat, by omega⟩
        have hfa : fa tree[i] = a := by rw [← e0]; unfold fa; omega
        have hfb : fb tree[i] = b := by rw [← e0]; unfold fb; omega
        have hstep := countP_take_succ (fun e => (M.getD (fa e) 0).testBit v && (M.getD (fb e) 0).testBit v) tree i hil
        have hcl := countP_take_le (fun e => (M.getD (fa e) 0).testBit v && (M.getD (fb e) 0).testBit v) tree i
        rw [hfa, hfb] at hstep
        have h1 := has_ev (M.getD a 0) v (hmem a (by omega))
        have h2 := has_ev (M.getD b 0) v (hmem b (by omega))
        have ih6 := ih5 (i + 1) (by omega)
        rw [hstep] at ih6
        generalize (tree.take i).countP (fun e => (M.getD (fa e) 0).testBit v && (M.getD (fb e) 0).testBit v) = c at *
        have hwc : wrap64 ((c : Int) + 1) = ((c + 1 : Nat) : Int) := wrap_up c (by omega)
        obtain ⟨K1, h1⟩ := h1
        obtain ⟨K2, h2⟩ := h2
        obtain ⟨K3, h3⟩ := ih6
        refine ⟨K1 + K2 + K3 + 1, fun k hk => ?_⟩
        obtain ⟨k, rfl⟩ : ∃ j, k = j + 1 := ⟨k - 1, by omega⟩
        have a1 := h1 k (by omega)
        have a2 := h2 k (by omega)
        have a3 := h3 k (by omega)
        dsimp only at a1 a2 a3
        simp only [gampref04_Tree.l5]
        rw [if_pos (by omega), if_pos (by omega), ea_rd, ha, hb, if_pos (by omega), List.length_map, if_pos (by omega), hget a (by omega), a1, Option.bind_some, hwc, wrap_up i (by omega)]
        by_cases b1 : (M.getD a 0).testBit v = true
        · rw [if_pos b1, if_pos (by omega), if_pos (by omega), hget b (by omega), a2, Option.bind_some]
          by_cases b2 : (M.getD b 0).testBit v = true
          · rw [if_pos b2]
            rw [b1, b2] at a3
            exact a3
          · rw [if_neg b2]
            rw [b1, Bool.eq_false_iff.2 b2] at a3
            exact a3
        · rw [if_neg b1]
          rw [Bool.eq_false_iff.2 b1, Bool.false_and] at a3
          exact a3
    -- the cliques
    have l4 : ∀ (d i : Nat), i + d = M.length → Ev (fun k => gampref04_Tree.l4 k (n : Int) tree (M.map fun t => il (nd t)) (v : Int) ((((M.take i).countP (·.testBit v) : Nat)) : Int) 0 (i : Int)) (decide (∀ u, v ≤ u → u < n → ((prsM M tree u : Nat) : Int) = (cntM M u : Int) - 1)) := by
      intro d
      induction d with
      | zero =>
        intro i hi
        have hfull : (M.take i).countP (·.testBit v) = cntM M v := by rw [List.take_of_length_le (by omega)]; rfl
        rw [hfull]
        refine Ev.step (fun k => ?_) (l5 tree.length 0 (by omega))
        simp only [gampref04_Tree.l4]
        rw [List.length_map, if_neg (by omega)]
        rfl
      | succ d ih4 =>
        intro i hi
        have hil : i < M.length := by omega
        have hgi : M.getD i 0 = M[i] := by simp [hil]
        have hstep := countP_take_succ (·.testBit v) M i hil
        have hcl := countP_take_le (·.testBit v) M i
        have h1 := has_ev (M.getD i 0) v (hmem i hil)
        rw [hgi] at h1
        have ih6 := ih4 (i + 1) (by omega)
        rw [hstep] at ih6
        generalize (M.take i).countP (·.testBit v) = c at *
        have hwc : wrap64 ((c : Int) + 1) = ((c + 1 : Nat) : Int) := wrap_up c (by omega)
        obtain ⟨K1, h1⟩ := h1
        obtain ⟨K3, h3⟩ := ih6
        refine ⟨K1 + K3 + 1, fun k hk => ?_⟩
        obtain ⟨k, rfl⟩ : ∃ j, k = j + 1 := ⟨k - 1, by omega⟩
        have a1 := h1 k (by omega)
        have a3 := h3 k (by omega)
        dsimp only at a1 a3
        simp only [gampref04_Tree.l4]
        rw [List.length_map, if_pos (by omega), if_pos (by omega), hget i hil, hgi, a1, Option.bind_some, hwc, wrap_up i (by omega)]
        by_cases b1 : M[i].testBit v = true
        · rw [if_pos b1]
          rw [if_pos b1] at a3; exact a3
        · rw [if_neg b1]
          rw [if_neg b1] at a3; exact a3
    refine Ev.step (fun k => ?_) (l4 M.length 0 (by omega))
    simp only [gampref04_Tree.l3]
    rw [if_pos (by omega)]
    rfl
theorem il_range_succ (i : Nat) : il (List.range i) ++ [(i : Int)] = il (List.range (i + 1)) := by rw [List.range_succ, il_app]; rfl
/-- The reference's Tree. -/
theorem tree_ev (n : Nat) (hn : n < 2 ^ 30) (es : List S52) (M : List Nat) (hM : ∀ t ∈ M, t < 4294967296) (hMl : M.length < 2 ^ 40) (tree : List S52) (ht : tree.length < 2 ^ 40) (hc : Ev (fun k => gampref04_Cliques.f k (n : Int) es) (M.map fun t => il (nd t))) :
  Ev (fun k => gampref04_Tree.f k (n : Int) es tree) (decide ((tree.length : Int) = (M.length : Int) - 1 ∧ AccT M.length (List.range M.length) tree ∧ CntT n M tree)) := by
 refine Ev.congr (g := fun k => gampref04_Tree.f k (n : Int) es tree) (fun k => rfl) ?_
 refine Ev.bind (f := fun k t295 => (if (tree.length : Int) = (wrap64 ((t295.length : Int) - 1)) then (gampref04_Tree.l0 k (n : Int) tree t295 (([] : List Int)) 0) else (some false))) hc ?_
 have hw : wrap64 ((M.length : Int) - 1) = (M.length : Int) - 1 := by unfold wrap64; omega
 rw [List.length_map, hw]
 by_cases h0 : (tree.length : Int) = (M.length : Int) - 1
 ·refine Ev.congr (fun k => if_pos h0) ?_
  have main : ∀ (r : Bool), Ev (fun k => gampref04_Tree.l1 k (n : Int) tree (M.map fun t => il (nd t)) (il (List.range M.length)) 0) r → ∀ (d i : Nat), i + d = M.length → Ev (fun k => gampref04_Tree.l0 k (n : Int) tree (M.map fun t => il (nd t)) (il (List.range i)) (i : Int)) r := by
   intro r hr d
   induction d with
   | zero =>
    intro i hi
    obtain rfl : i = M.length := by omega
    refine Ev.step (fun k => ?_) hr
    simp only [gampref04_Tree.l0]
    rw [List.length_map, if_neg (by omega)]
   | succ d ih =>
    intro i hi
    refine Ev.step (fun k => ?_) (ih (i + 1) (by omega))
    simp only [gampref04_Tree.l0]
    rw [List.length_map, if_pos (by omega), il_len, List.length_range, if_pos (by omega), wrap_up i (by omega), il_range_succ]
  refine main _ ?_ M.length 0 (by omega)
  by_cases hacc : AccT M.length (List.range M.length) tree
  ·have h3 := ref_l3 n hn M hM hMl tree ht hacc.rng n 0 (by omega)
   have h1 := ref_l1 n tree ht (M.map fun t => il (nd t)) (by rw [List.length_map]; exact hMl) _ tree.length 0 (List.range M.length) (by omega) (by simp) (fun _ => h3)
   rw [List.length_map, List.drop_zero, decide_eq_true hacc, Bool.true_and] at h1
   rw [show decide ((tree.length : Int) = (M.length : Int) - 1 ∧ AccT M.length (List.range M.length) tree ∧ CntT n M tree) = decide (∀ u, 0 ≤ u → u < n → ((prsM M tree u : Nat) : Int) = (cntM M u : Int) - 1) from decide_eq_decide.2 ⟨fun h u _ hu => h.2.2 u hu, fun h => ⟨h0, hacc, fun u hu => h u (by omega) hu⟩⟩]
   exact h1
  ·rw [decide_eq_false (fun h => hacc h.2.1)]
   have h1 := ref_l1 n tree ht (M.map fun t => il (nd t)) (by rw [List.length_map]; exact hMl) true tree.length 0 (List.range M.length) (by omega) (by simp) (fun h => absurd (by rw [List.drop_zero, List.length_map] at h; exact h) hacc)
   rw [List.length_map, List.drop_zero, decide_eq_false hacc, Bool.false_and] at h1
   exact h1
 ·rw [decide_eq_false (fun h => h0 h.1)]
  exact Ev.congr (fun k => if_neg h0) (Ev.now _)
inductive Fd (gr : List Nat) : Nat → Nat → Prop
  | root {i : Nat} : i < gr.length → gr.getD i 0 = i → Fd gr i i
  | step {i r : Nat} : i < gr.length → gr.getD i 0 ≠ i → Fd gr (gr.getD i 0) r → Fd gr i r
theorem Fd.fin {gr : List Nat} {i r : Nat} (h : Fd gr i r) : r < gr.length ∧ gr.getD r 0 = r := by
 induction h with
 | root h1 h2 => exact ⟨h1, h2⟩
 | step _ _ _ ih => exact ih
theorem find_ev {gr : List Nat} {i r : Nat} (h : Fd gr i r) : Ev (fun k => rib_find.f k (il gr) (i : Int)) (r : Int) := by
 induction h with
 | @root i h1 h2 =>
  have rc : rd (il gr) (i : Int) = ((gr.getD i 0 : Nat) : Int) := il_rd _ _ h1
  refine Ev.step (g := fun k => rib_find.f k (il gr) (i : Int)) (f := fun _ => some (i : Int)) (fun k => ?_) (Ev.now _)
  unfold rib_find.f
  simp only [rib_find.l0]
  rw [if_pos (by omega), il_len, if_pos (by omega), rc, h2, if_pos rfl]
 | @step i r h1 h2 _ ih =>
  have rc : rd (il gr) (i : Int) = ((gr.getD i 0 : Nat) : Int) := il_rd _ _ h1
  refine Ev.step (g := fun k => rib_find.f k (il gr) (i : Int)) (fun k => ?_) ih
  show rib_find.f (k + 1) (il gr) (i : Int) = rib_find.f k (il gr) ((gr.getD i 0 : Nat) : Int)
  unfold rib_find.f
  simp only [rib_find.l0]
  rw [if_pos (by omega), il_len, if_pos (by omega), rc, if_neg (by omega)]
theorem Fd.set {gr : List Nat} {ra rb : Nat} (hra : ra < gr.length ∧ gr.getD ra 0 = ra) (hrb : rb < gr.length ∧ gr.getD rb 0 = rb) (hne : ra ≠ rb) {i r : Nat} (h : Fd gr i r) : Fd (gr.set ra rb) i (if r = ra then rb else r) := by
 have hb : Fd (gr.set ra rb) rb rb := Fd.root (by rw [List.length_set]; exact hrb.1) (by rw [getD_set, if_neg (fun h => hne h.1)]; exact hrb.2)
 induction h with
 | @root i h1 h2 =>
  by_cases e : i = ra
  ·subst e
   rw [if_pos rfl]
   have hg : (gr.set i rb).getD i 0 = rb := by rw [getD_set, if_pos ⟨rfl, h1⟩]
   exact Fd.step (by rw [List.length_set]; exact h1) (by rw [hg]; exact fun h => hne h.symm) (by rw [hg]; exact hb)
  ·rw [if_neg e]
   exact Fd.root (by rw [List.length_set]; exact h1) (by rw [getD_set, if_neg (fun h => e h.1.symm)]; exact h2)
 | @step i r h1 h2 _ ih =>
  have e : ra ≠ i := fun h => h2 (by rw [← h]; exact hra.2)
  have hg : (gr.set ra rb).getD i 0 = gr.getD i 0 := by rw [getD_set, if_neg (fun h => e h.1)]
  exact Fd.step (by rw [List.length_set]; exact h1) (by rw [hg]; exact h2) (by rw [hg]; exact ih)
structure GInv (m : Nat) (gr nm : List Nat) : Prop where
  gl : gr.length = m
  nl : nm.length = m
  fd : ∀ i, i < m → Fd gr i (nm.getD i 0)
theorem GInv.next {m : Nat} {gr nm : List Nat} (h : GInv m gr nm) {a b : Nat} (ha : a < m) (hb : b < m) (hne : nm.getD a 0 ≠ nm.getD b 0) : GInv m (gr.set (nm.getD a 0) (nm.getD b 0)) (ren nm (nm.getD a 0) (nm.getD b 0)) := by
 refine ⟨by rw [List.length_set]; exact h.gl, by rw [ren_len]; exact h.nl, fun i hi => ?_⟩
 rw [ren_get _ _ _ _ (by rw [h.nl]; exact hi)]
 exact Fd.set (h.fd a ha).fin (h.fd b hb).fin hne (h.fd i hi)
theorem prog_l0 (n : Nat) (M : List Nat) (hMl : M.length < 2 ^ 40) (tree : List S52) (ht : tree.length < 2 ^ 40) (r : Bool × Int) : ∀ (d i : Nat) (gr nm : List Nat), i + d = tree.length → GInv M.length gr nm → (AccT M.length nm (tree.drop i) → Ev (fun k => rib_IsTree.l1 k tree (il M) (n : Int) 0) r) →
    Ev (fun k => rib_IsTree.l0 k (n : Int) tree (il M) (il gr) tree (tree.length : Int) (i : Int)) (if AccT M.length nm (tree.drop i) then r else (false, 0)) := by
  intro d
  induction d with
  | zero =>
    intro i gr nm hi hg hr
    rw [List.drop_eq_nil_of_le (by omega)] at hr
    rw [List.drop_eq_nil_of_le (by omega), if_pos (show AccT M.length nm [] from trivial)]
    refine Ev.step (fun k => ?_) (hr trivial)
    simp only [rib_IsTree.l0]
    rw [if_neg (by omega)]
  | succ d ih =>
    intro i gr nm hi hg hr
    have hil : i < tree.length := by omega
    have e0 : ea tree i = tree[i] := by simp [ea, hil]
    rw [List.drop_eq_getElem_cons hil, ← e0] at hr
    rw [List.drop_eq_getElem_cons hil, ← e0]
    have e1 : ∀ k, rib_IsTree.l0 (k + 1) (n : Int) tree (il M) (il gr) tree (tree.length : Int) (i : Int) = if (ea tree i).f0 < 0 then rib_IsTree.j1 k n tree (il M) (il gr) tree tree.length i true (ea tree i).f0 (ea tree i).f1 else if (ea tree i).f0 ≥ (ea tree i).f1 then rib_IsTree.j1 k n tree (il M) (il gr) tree tree.length i true (ea tree i).f0 (ea tree i).f1 else if (ea tree i).f1 ≥ (M.length : Int) then rib_IsTree.j1 k n tree (il M) (il gr) tree tree.length i true (ea tree i).f0 (ea tree i).f1 else
        (rib_find.f k (il gr) (ea tree i).f0).bind fun t282 => (rib_find.f k (il gr) (ea tree i).f1).bind fun t283 => rib_IsTree.j1 k n tree (il M) (il gr) tree tree.length i (t282 == t283) (ea tree i).f0 (ea tree i).f1 := by
      intro k
      simp only [rib_IsTree.l0]
      rw [if_pos (by omega), if_pos (by omega), if_pos (by omega), ea_rd, il_len]
    have bad : ¬ OkT M.length nm (ea tree i) → (∀ k, rib_IsTree.l0 (k + 1) (n : Int) tree (il M) (il gr) tree (tree.length : Int) (i : Int) = rib_IsTree.j1 k n tree (il M) (il gr) tree tree.length i true (ea tree i).f0 (ea tree i).f1) → Ev (fun k => rib_IsTree.l0 k (n : Int) tree (il M) (il gr) tree (tree.length : Int) (i : Int)) (if AccT M.length nm (ea tree i :: tree.drop (i + 1)) then r else (false, 0)) := by
      intro h1 h2
      rw [if_neg (fun h => h1 h.1)]
      refine Ev.step h2 ?_
      refine Ev.step (f := fun _ => some (false, 0)) (fun k => ?_) (Ev.now _)
      simp only [rib_IsTree.j1]
      rw [if_pos trivial]
    by_cases h1 : (ea tree i).f0 < 0
    · exact bad (fun h => by have := h.1; omega) (fun k => by rw [e1, if_pos h1])
    by_cases h2 : (ea tree i).f0 ≥ (ea tree i).f1
    · exact bad (fun h => by have := h.2.1; omega) (fun k => by rw [e1, if_neg h1, if_pos h2])
    by_cases h3 : (ea tree i).f1 ≥ (M.length : Int)
    · exact bad (fun h => by have := h.2.2.1; omega) (fun k => by rw [e1, if_neg h1, if_neg h2, if_pos h3])
    obtain ⟨a, ha⟩ : ∃ a : Nat, (ea tree i).f0 = a := ⟨(ea tree i).f0.toNat, by omega⟩
    obtain ⟨b, hb⟩ : ∃ b : Nat, (ea tree i).f1 = b := ⟨(ea tree i).f1.toNat, by omega⟩
    have hfa : fa (ea tree i) = a := by unfold fa; omega
    have hfb : fb (ea tree i) = b := by unfold fb; omega
    have fda := hg.fd a (by omega)
    have fdb := hg.fd b (by omega)
    have eva := find_ev fda
    have evb := find_ev fdb
    have hgl := hg.gl
    obtain ⟨K1, k1⟩ := eva
    obtain ⟨K2, k2⟩ := evb
    by_cases h4 : nm.getD a 0 = nm.getD b 0
    · rw [if_neg (fun h => h.1.2.2.2 (by rw [hfa, hfb]; exact h4))]
      refine ⟨K1 + K2 + 2, fun k hk => ?_⟩
      obtain ⟨k, rfl⟩ : ∃ j, k = j + 2 := ⟨k - 2, by omega⟩
      have a1 := k1 (k + 1) (by omega)
      have a2 := k2 (k + 1) (by omega)
      dsimp only at a1 a2
      show rib_IsTree.l0 (k + 1 + 1) (n : Int) tree (il M) (il gr) tree (tree.length : Int) (i : Int) = _
      rw [e1, if_neg h1, if_neg h2, if_neg h3, ha, hb, a1, Option.bind_some, a2, Option.bind_some, h4]
      simp [rib_IsTree.j1]
    · have hok : OkT M.length nm (ea tree i) := ⟨by omega, by omega, by omega, by rw [hfa, hfb]; exact h4⟩
      have hnx := hg.next (show a < M.length by omega) (show b < M.length by omega) h4
      have hre : renE nm (ea tree i) = ren nm (nm.getD a 0) (nm.getD b 0) := by unfold renE; rw [hfa, hfb]
      have ih2 := ih (i + 1) _ _ (by omega) hnx (fun h => hr ⟨hok, by rw [hre]; exact h⟩)
      have hif : (if AccT M.length nm (ea tree i :: tree.drop (i + 1)) then r else (false, 0)) = if AccT M.length (ren nm (nm.getD a 0) (nm.getD b 0)) (tree.drop (i + 1)) then r else (false, 0) := by
        by_cases hh : AccT M.length (ren nm (nm.getD a 0) (nm.getD b 0)) (tree.drop (i + 1))
        · rw [if_pos hh, if_pos ⟨hok, by rw [hre]; exact hh⟩]
        · rw [if_neg hh, if_neg (fun h => hh (by rw [← hre]; exact h.2))]
      rw [hif]
      obtain ⟨K3, k3⟩ := ih2
      refine ⟨K1 + K2 + K3 + 2, fun k hk => ?_⟩
      obtain ⟨k, rfl⟩ : ∃ j, k = j + 2 := ⟨k - 2, by omega⟩
      have a1 := k1 (k + 1) (by omega)
      have a2 := k2 (k + 1) (by omega)
      have a3 := k1 k (by omega)
      have a4 := k2 k (by omega)
      have a5 := k3 k (by omega)
      dsimp only at a1 a2 a3 a4 a5
      have hfr := fda.fin.1
      rw [hgl] at hfr
      have hne4 : ¬ ((((nm.getD a 0 : Nat) : Int) == ((nm.getD b 0 : Nat) : Int)) = true) := by rw [beq_iff_eq]; omega
      clear k1 k2 k3 hif hre hnx
      show rib_IsTree.l0 (k + 1 + 1) (n : Int) tree (il M) (il gr) tree (tree.length : Int) (i : Int) = _
      rw [e1, if_neg h1, if_neg h2, if_neg h3, ha, hb, a1, Option.bind_some, a2, Option.bind_some]
      simp only [rib_IsTree.j1]
      rw [if_neg hne4, a3, Option.bind_some, a4, Option.bind_some, if_pos (by omega), il_len, if_pos (by omega), Int.toNat_natCast, il_set, wrap_up i (by omega), a5]
/-- The program's counts. -/
theorem prog_l1 (n : Nat) (hn : n ≤ 31) (M : List Nat) (hM : ∀ t ∈ M, t < 4294967296) (hMl : M.length < 2 ^ 40) (tree : List S52) (ht : tree.length < 2 ^ 40) (hrng : Rng M.length tree) :
    ∀ (d v : Nat), v + d = n → Ev (fun k => rib_IsTree.l1 k tree (il M) (n : Int) (v : Int)) (decide (∀ u, v ≤ u → u < n → ((prsM M tree u : Nat) : Int) = (cntM M u : Int) - 1), 0) := by
  intro d
  induction d with
  | zero =>
    intro v hv
    rw [decide_eq_true (fun u h1 h2 => by omega)]
    refine Ev.step (f := fun _ => some (true, 0)) (fun k => ?_) (Ev.now _)
    simp only [rib_IsTree.l1]
    rw [if_neg (by omega)]
  | succ d ih =>
    intro v hv
    have ih2 := ih (v + 1) (by omega)
    have hget : ∀ i, i < M.length → rd (il M) (i : Int) = ((M.getD i 0 : Nat) : Int) := fun i hi => il_rd _ _ hi
    have hmem : ∀ i, i < M.length → M.getD i 0 < 4294967296 := fun i hi => by
      rw [show M.getD i 0 = M[i] by simp [hi]]; exact hM _ (List.getElem_mem _)
    -- the pairs
    have l3 : ∀ (d i : Nat), i + d = tree.length → Ev (fun k => rib_IsTree.l3 k tree (il M) (v : Int) ((cntM M v : Nat) : Int) ((((tree.take i).countP fun e => (M.getD (fa e) 0).testBit v && (M.getD (fb e) 0).testBit v : Nat)) : Int) (n : Int) (v : Int) tree (tree.length : Int) (i : Int)) (decide (∀ u, v ≤ u → u < n → ((prsM M tree u : Nat) : Int) = (cntM M u : Int) - 1), 0) := by
      intro d
      induction d with
      | zero =>
        intro i hi
        have hfull : (tree.take i).countP (fun e => (M.getD (fa e) 0).testBit v && (M.getD (fb e) 0).testBit v) = prsM M tree v := by rw [List.take_of_length_le (by omega)]; rfl
        rw [hfull]
        have hc : cntM M v ≤ M.length := List.countP_le_length
        have hw : wrap64 ((cntM M v : Int) - 1) = (cntM M v : Int) - 1 := by unfold wrap64; omega
        by_cases h : ((prsM M tree v : Nat) : Int) = (cntM M v : Int) - 1
        · rw [show decide (∀ u, v ≤ u → u < n → ((prsM M tree u : Nat) : Int) = (cntM M u : Int) - 1) = decide (∀ u, v + 1 ≤ u → u < n → ((prsM M tree u : Nat) : Int) = (cntM M u : Int) - 1) from decide_eq_decide.2 ⟨fun hh u h1 h2 => hh u (by omega) h2, fun hh u h1 h2 => by
            by_cases e : u = v
            · subst e; exact h
            · exact hh u (by omega) h2⟩]
          refine Ev.step (fun k => ?_) ih2
          simp only [rib_IsTree.l3]
          rw [if_neg (by omega), hw, if_pos h, wrap_up v (by omega)]
        · rw [decide_eq_false (fun hh => h (hh v (Nat.le_refl _) (by omega)))]
          refine Ev.step (f := fun _ => some (false, 0)) (fun k => ?_) (Ev.now _)
          simp only [rib_IsTree.l3]
          rw [if_neg (by omega), hw, if_neg h]
      | succ d ih5 =>
        intro i hi
        have hil : i < tree.length := by omega
        have e0 : ea tree i = tree[i] := by simp [ea, hil]
        obtain ⟨g1, g2, g3⟩ := hrng _ (ea_mem hil)
        obtain ⟨a, ha⟩ : ∃ a : Nat, (ea tree i).f0 = a := ⟨(ea tree i).f0.toNat, by omega⟩
        obtain ⟨b, hb⟩ : ∃ b : Nat, (ea tree i).f1 = b := ⟨(ea tree i).f1.toNat, by omega⟩
        have hfa : fa tree[i] = a := by rw [← e0]; unfold fa; omega
        have hfb : fb tree[i] = b := by rw [← e0]; unfold fb; omega
        have hstep := countP_take_succ (fun e => (M.getD (fa e) 0).testBit v && (M.getD (fb e) 0).testBit v) tree i hil
        have hcl := countP_take_le (fun e => (M.getD (fa e) 0).testBit v && (M.getD (fb e) 0).testBit v) tree i
        rw [hfa, hfb] at hstep
        have ih6 := ih5 (i + 1) (by omega)
        rw [hstep] at ih6
        generalize (tree.take i).countP (fun e => (M.getD (fa e) 0).testBit v && (M.getD (fb e) 0).testBit v) = c at *
        have hwc : wrap64 ((c : Int) + 1) = ((c + 1 : Nat) : Int) := wrap_up c (by omega)
        refine Ev.step (fun k => ?_) ih6
        simp only [rib_IsTree.l3]
        have hma := hmem a (by omega)
        have hmb := hmem b (by omega)
        rw [if_pos (by omega), if_pos (by omega), if_pos (by omega), ea_rd, ha, hb, if_pos (by omega), il_len, if_pos (by omega), if_pos (by omega), if_pos (by omega), hget a (by omega), hget b (by omega), u32_and_nat _ _ hma hmb, has_f _ _ (and_u32 hma) (by omega), Option.bind_some, hwc, wrap_up i (by omega), Nat.testBit_and]
        by_cases b1 : ((M.getD a 0).testBit v && (M.getD b 0).testBit v) = true
        · rw [if_pos b1, if_pos b1]
        · rw [if_neg b1, if_neg b1]; rfl
    -- the cliques
    have l2 : ∀ (d i : Nat), i + d = M.length → Ev (fun k => rib_IsTree.l2 k tree (il M) (v : Int) ((((M.take i).countP (·.testBit v) : Nat)) : Int) 0 (n : Int) (v : Int) (il M) (M.length : Int) (i : Int)) (decide (∀ u, v ≤ u → u < n → ((prsM M tree u : Nat) : Int) = (cntM M u : Int) - 1), 0) := by
      intro d
      induction d with
      | zero =>
        intro i hi
        have hfull : (M.take i).countP (·.testBit v) = cntM M v := by rw [List.take_of_length_le (by omega)]; rfl
        rw [hfull]
        refine Ev.step (fun k => ?_) (l3 tree.length 0 (by omega))
        simp only [rib_IsTree.l2]
        rw [if_neg (by omega)]
        rfl
      | succ d ih4 =>
        intro i hi
        have hil : i < M.length := by omega
        have hgi : M.getD i 0 = M[i] := by simp [hil]
        have hstep := countP_take_succ (·.testBit v) M i hil
        have hcl := countP_take_le (·.testBit v) M i
        have hmi := hmem i hil
        have ih6 := ih4 (i + 1) (by omega)
        rw [hstep] at ih6
        generalize (M.take i).countP (·.testBit v) = c at *
        have hwc : wrap64 ((c : Int) + 1) = ((c + 1 : Nat) : Int) := wrap_up c (by omega)
        refine Ev.step (fun k => ?_) ih6
        simp only [rib_IsTree.l2]
        rw [if_pos (by omega), if_pos (by omega), il_len, if_pos (by omega), hget i hil, has_f _ _ hmi (by omega), Option.bind_some, hgi, hwc, wrap_up i (by omega)]
        by_cases b1 : M[i].testBit v = true
        · rw [if_pos b1, if_pos b1]
        · rw [if_neg b1, if_neg b1]; rfl
    refine Ev.step (fun k => ?_) (l2 M.length 0 (by omega))
    simp only [rib_IsTree.l1]
    rw [if_pos (by omega), il_len]
    rfl
theorem numbers_ev (m : Nat) (hm : m < 2 ^ 40) : Ev (fun k => rib_numbers.f k (m : Int)) (il (List.range m)) := by
 have main : ∀ (d i : Nat), i + d = m → Ev (fun k => rib_numbers.l0 k (il (List.range i)) (m : Int) (i : Int)) (il (List.range m)) := by
  intro d
  induction d with
  | zero =>
   intro i hi
   obtain rfl : i = m := by omega
   refine Ev.step (f := fun _ => some (il (List.range i))) (fun k => ?_) (Ev.now _)
   simp only [rib_numbers.l0]
   rw [if_neg (by omega)]
  | succ d ih =>
   intro i hi
   refine Ev.step (fun k => ?_) (ih (i + 1) (by omega))
   simp only [rib_numbers.l0]
   rw [if_pos (by omega), il_len, List.length_range, if_pos (by omega), wrap_up i (by omega), il_range_succ]
 exact main m 0 (by omega)
def TreeOk (n : Nat) (M : List Nat) (tree : List S52) : Prop := (tree.length : Int) = (M.length : Int) - 1 ∧ AccT M.length (List.range M.length) tree ∧ CntT n M tree
theorem isTree_ev (n : Nat) (hn : n ≤ 31) (es : List S52) (g M : List Nat) (hM : ∀ t ∈ M, t < 4294967296) (hMl : M.length < 2 ^ 40) (tree : List S52) (ht : tree.length < 2 ^ 40) (hg : Ev (fun k => rib_read.f k (n : Int) es) (il g, true)) (hc : Ev (fun k => rib_maximal.f k (il g)) (il M)) :
  Ev (fun k => rib_IsTree.f k (n : Int) es tree) (decide (TreeOk n M tree), 0) := by
 refine Ev.congr (g := fun k => rib_IsTree.f k (n : Int) es tree) (fun k => rfl) ?_
 refine Ev.bind (f := fun k bt270 => (if bt270.2 = true then ((rib_maximal.f k bt270.1).bind fun t274 => (if (tree.length : Int) = (wrap64 ((t274.length : Int) - 1)) then ((rib_numbers.f k (t274.length : Int)).bind fun t277 => (rib_IsTree.l0 k (n : Int) tree t274 t277 tree (tree.length : Int) 0)) else (some (false, 0)))) else (some (false, 1)))) hg ?_
 refine Ev.congr (fun k => if_pos rfl) ?_
 refine Ev.bind (f := fun k t274 => (if (tree.length : Int) = (wrap64 ((t274.length : Int) - 1)) then ((rib_numbers.f k (t274.length : Int)).bind fun t277 => (rib_IsTree.l0 k (n : Int) tree t274 t277 tree (tree.length : Int) 0)) else (some (false, 0)))) hc ?_
 have hw : wrap64 ((M.length : Int) - 1) = (M.length : Int) - 1 := by unfold wrap64; omega
 rw [il_len, hw]
 by_cases h0 : (tree.length : Int) = (M.length : Int) - 1
 ·refine Ev.congr (fun k => if_pos h0) ?_
  refine Ev.bind (f := fun k t277 => rib_IsTree.l0 k (n : Int) tree (il M) t277 tree (tree.length : Int) 0) (numbers_ev _ hMl) ?_
  have hgi : GInv M.length (List.range M.length) (List.range M.length) := by
   refine ⟨by simp, by simp, fun i hi => ?_⟩
   have e : (List.range M.length).getD i 0 = i := by simp [hi]
   rw [e]
   exact Fd.root (by simpa using hi) e
  by_cases hacc : AccT M.length (List.range M.length) tree
  ·have h1 := prog_l0 n M hMl tree ht _ tree.length 0 _ _ (by omega) hgi (fun _ => prog_l1 n hn M hM hMl tree ht hacc.rng n 0 (by omega))
   rw [List.drop_zero, if_pos hacc] at h1
   rw [show decide (TreeOk n M tree) = decide (∀ u, 0 ≤ u → u < n → ((prsM M tree u : Nat) : Int) = (cntM M u : Int) - 1) from decide_eq_decide.2 ⟨fun h u _ hu => h.2.2 u hu, fun h => ⟨h0, hacc, fun u hu => h u (by omega) hu⟩⟩]
   exact h1
  ·have h1 := prog_l0 n M hMl tree ht (true, 0) tree.length 0 _ _ (by omega) hgi (fun h => absurd (by rw [List.drop_zero] at h; exact h) hacc)
   rw [List.drop_zero, if_neg hacc] at h1
   rw [decide_eq_false (fun h => hacc h.2.1)]
   exact h1
 ·rw [decide_eq_false (fun h => h0 h.1)]
  exact Ev.congr (fun k => if_neg h0) (Ev.now _)
theorem isTree_no (n : Int) (es tree : List S52) (hes : es.length < 2 ^ 50) (v : ¬ Valid n es) : Ev (fun k => rib_IsTree.f k n es tree) (false, 1) := by
 refine Ev.congr (g := fun k => rib_IsTree.f k n es tree) (fun k => rfl) ?_
 refine Ev.bind (f := fun k bt270 => (if bt270.2 = true then ((rib_maximal.f k bt270.1).bind fun t274 => (if (tree.length : Int) = (wrap64 ((t274.length : Int) - 1)) then ((rib_numbers.f k (t274.length : Int)).bind fun t277 => (rib_IsTree.l0 k n tree t274 t277 tree (tree.length : Int) 0)) else (some (false, 0)))) else (some (false, 1)))) (read_no n es hes v) ?_
 exact Ev.congr (fun k => if_neg (by simp)) (Ev.now _)
end Go.Proofs.Ytdpolfflemocaaa.Pure
