/- The declarations of Mj that the claim Qb needs. -/
import Derived.Test.YtiknnpfdpecfdaaQbMh
namespace Go.Proofs.Ytiknnpfdpecfdaa.Own
set_option linter.unusedSimpArgs false
/-- The same, for the kernel. -/
def memB (k : Nat) : List Nat → Bool
  | [] => false
  | x :: r => bif Nat.beq x k then true else memB k r
def stkF (k : Nat) (st : List Nat) : Option (List Nat) := bif memB k st then (match st with | [] => none | x :: r => bif Nat.beq x k then some r else none) else some (k :: st)
def stp1F (k : Nat) (e o : List Nat) (f : List Nat → List Nat → Nat) : Nat := bif Nat.beq (Nat.mod k 2) 0 then (match stkF k e with | none => 0 | some e' => f e' o) else (match stkF k o with | none => 0 | some o' => f e o')
def stpF (n1 s : Nat) (e o : List Nat) (f : List Nat → List Nat → Nat) : Nat :=
 match s with
 | 0 => bif Nat.blt 0 n1 then stp1F 0 e o f else f e o
 | c + 1 => stp1F c e o fun e o => bif Nat.blt (Nat.succ c) n1 then stp1F (Nat.succ c) e o f else f e o
def cntF (ks : List Nat) (n1 : Nat) : Nat → List Nat → List Nat → List Nat → Nat
  | 0, _, _, _ => 1
  | d + 1, us, e, o => ks.foldr (fun s acc => Nat.add (bif memB s us then 0 else stpF n1 s e o fun e o => cntF ks n1 d (s :: us) e o) acc) 0
theorem memB_eq (k : Nat) : ∀ l : List Nat, memB k l = l.contains k
 | [] => rfl
 | x :: r => by
  have hb : Nat.beq x k = (k == x) := by
   apply Bool.eq_iff_iff.2; rw [Nat.beq_eq, beq_iff_eq]; exact eq_comm
  rw [memB, List.contains_cons, memB_eq k r, hb]
  cases (k == x) <;> rfl
theorem stkF_eq (k : Nat) (st : List Nat) : stkF k st = stk k st := by
 unfold stkF stk
 rw [memB_eq]
 cases hm : st.contains k with
 | false => rfl
 | true =>
  cases st with
  | nil => rfl
  | cons x r =>
   have hb : Nat.beq x k = (x == k) := by
    apply Bool.eq_iff_iff.2; rw [Nat.beq_eq, beq_iff_eq]
   show (bif Nat.beq x k then some r else none) = if (x == k) = true then some r else none
   rw [hb]
   cases (x == k) <;> rfl
/-- What goes on behind an attempt. -/
def goOn (z : Option (List Nat × List Nat)) (f : List Nat → List Nat → Nat) : Nat := match z with | none => 0 | some eo => f eo.1 eo.2
theorem stp1F_eq (k : Nat) (e o : List Nat) (f : List Nat → List Nat → Nat) : stp1F k e o f = goOn (stp1 k (e, o)) f := by
 unfold stp1F stp1
 rw [stkF_eq, stkF_eq]
 have hb : Nat.beq (Nat.mod k 2) 0 = (k % 2 == 0) := by
  apply Bool.eq_iff_iff.2; rw [Nat.beq_eq, beq_iff_eq]; rfl
 rw [hb]
 cases (k % 2 == 0)
 ·show (match stk k o with | none => 0 | some o' => f e o') = goOn ((stk k o).map fun o => (e, o)) f
  cases stk k o <;> rfl
 ·show (match stk k e with | none => 0 | some e' => f e' o) = goOn ((stk k e).map fun e => (e, o)) f
  cases stk k e <;> rfl
theorem goOn_bind (z : Option (List Nat × List Nat)) (g : List Nat × List Nat → Option (List Nat × List Nat)) (f : List Nat → List Nat → Nat) : goOn (z.bind g) f = goOn z fun e o => goOn (g (e, o)) f := by
  cases z <;> rfl
theorem stpF_eq (n s : Nat) (e o : List Nat) (f : List Nat → List Nat → Nat) : stpF (n - 1) s e o f = goOn (stp n s (e, o)) f := by
 have ht : ∀ (k : Nat) (e o : List Nat), (bif Nat.blt k (n - 1) then stp1F k e o f else f e o) = goOn (if Nat.blt k (n - 1) = true then stp1 k (e, o) else some (e, o)) f := by
  intro k e o
  cases Nat.blt k (n - 1)
  ·rfl
  ·exact stp1F_eq k e o f
 unfold stpF stp
 cases s with
 | zero => rw [goOn_bind]; exact ht 0 e o
 | succ c =>
  rw [goOn_bind]
  show stp1F c e o _ = _
  rw [stp1F_eq]
  congr 1
  funext e o
  exact ht (c + 1) e o
theorem cntF_eq (n : Nat) : ∀ (d : Nat) (us e o : List Nat), cntF (List.range n) (n - 1) d us e o = cnt n d us (e, o)
 | 0, _, _, _ => rfl
 | d + 1, us, e, o => by
  rw [cntF, cnt]
  congr 1
  funext s acc
  show (bif memB s us then 0 else _) + acc = _
  congr 1
  rw [memB_eq]
  cases us.contains s with
  | true => rfl
  | false =>
   show stpF (n - 1) s e o _ = match stp n s (e, o) with | none => 0 | some eo' => cnt n d (s :: us) eo'
   rw [stpF_eq]
   cases stp n s (e, o) with
   | none => rfl
   | some eo' => exact cntF_eq n d (s :: us) eo'.1 eo'.2
/-- Orders whose lowest segment is s. -/
def cntAt (n d s : Nat) : Nat := stpF (n - 1) s [] [] fun e o => cntF (List.range n) (n - 1) d [s] e o
theorem cnt_at (n d : Nat) : cnt n (d + 1) [] ([], []) = (List.range n).foldr (fun s acc => Nat.add (cntAt n d s) acc) 0 := by
  rw [← cntF_eq]
  rfl
theorem c80 : cntAt 8 7 0 = 174 := by decide +kernel
theorem c81 : cntAt 8 7 1 = 174 := by decide +kernel
theorem c82 : cntAt 8 7 2 = 174 := by decide +kernel
theorem c83 : cntAt 8 7 3 = 174 := by decide +kernel
theorem c84 : cntAt 8 7 4 = 174 := by decide +kernel
theorem c85 : cntAt 8 7 5 = 174 := by decide +kernel
theorem c86 : cntAt 8 7 6 = 174 := by decide +kernel
theorem c87 : cntAt 8 7 7 = 174 := by decide +kernel
theorem cn1 : cnt 1 1 [] ([], []) = 1 := by decide +kernel
theorem cn2 : cnt 2 2 [] ([], []) = 2 := by decide +kernel
theorem cn3 : cnt 3 3 [] ([], []) = 6 := by decide +kernel
theorem cn4 : cnt 4 4 [] ([], []) = 16 := by decide +kernel
theorem cn5 : cnt 5 5 [] ([], []) = 50 := by decide +kernel
theorem cn6 : cnt 6 6 [] ([], []) = 144 := by decide +kernel
theorem cn7 : cnt 7 7 [] ([], []) = 462 := by decide +kernel
theorem cn8 : cnt 8 8 [] ([], []) = 1392 := by
  rw [cnt_at, show List.range 8 = [0, 1, 2, 3, 4, 5, 6, 7] from rfl]
  simp only [List.foldr_cons, List.foldr_nil, c80, c81, c82, c83, c84, c85, c86, c87]
end Go.Proofs.Ytiknnpfdpecfdaa.Own
