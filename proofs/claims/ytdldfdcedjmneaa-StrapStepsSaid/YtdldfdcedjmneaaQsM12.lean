/- The declarations of M12 that the claim Qs needs. -/
import Derived.Test.YtdldfdcedjmneaaQsM5
import Derived.Test.YtdldfdcedjmneaaQsM6
namespace Go.Proofs.Ytdldfdcedjmneaa.Pure
open Go.Proofs.Ytdldfdcedjmneaa.Br
set_option linter.unusedVariables false
set_option linter.unusedSimpArgs false
section
variable {n : Nat}
/-- Two words do the same to every state. -/
def WEq (n : Nat) (U V : List Int) : Prop := ∀ (x : Int × List Pm), AllSup n x.2 → SEq n (rawW n x U) (rawW n x V)
theorem inv_inv (U : List Int) : invL (invL U) = U := by
 unfold invL
 rw [List.map_reverse, List.reverse_reverse, List.map_map]
 conv => rhs; rw [← List.map_id U]
 apply List.map_congr_left
 intro x _
 show - -x = x
 omega
theorem WEq.symm {U V : List Int} (h : WEq n U V) : WEq n V U := fun x hx => (h x hx).symm
theorem WEq.inv (hn : 2 ≤ n) {U V : List Int} (hU : Word n U) (hV : Word n V) (h : WEq n U V) : WEq n (invL U) (invL V) := fun x hx => by
 have hy := rawW_sup (word_inv hU) hx
 have k1 := rawW_inv hn (xs := invL U) (x := x) (word_inv hU) hx
 rw [inv_inv, rawW_app] at k1
 have k2 := (h _ hy).symm.trans hn k1
 have k3 := rawW_seq hn (word_inv hV) k2
 have k4 := rawW_inv hn (xs := V) hV hy
 rw [rawW_app] at k4
 exact k4.symm.trans hn k3
theorem WEq.mid (hn : 2 ≤ n) {a b U V : List Int} (ha : Word n a) (hb : Word n b) (h : WEq n U V) : SEq n (rawW n (0, []) (a ++ U ++ b)) (rawW n (0, []) (a ++ V ++ b)) := by
  rw [rawW_app, rawW_app, rawW_app (n := n) (0, []) (a ++ V), rawW_app (n := n) (0, []) a V]
  exact rawW_seq hn hb (h _ (rawW_sup (x := (0, [])) ha AllSup.nil))
theorem weq_cancel (hn : 2 ≤ n) {k : Int} (hk : Letter n k) : WEq n [k, -k] [] := fun x hx => cancel hn hk hx
theorem weq_near (hn : 2 ≤ n) {i : Nat} (hi : i + 2 < n) : WEq n [(i : Int) + 1, (i : Int) + 2, (i : Int) + 1] [(i : Int) + 2, (i : Int) + 1, (i : Int) + 2] := fun x hx => near_pos hn hi hx
theorem weq_far (hn : 2 ≤ n) {i j : Nat} (hi : i + 1 < n) (hj : j + 1 < n) (hf : i + 2 ≤ j ∨ j + 2 ≤ i) : WEq n [(i : Int) + 1, (j : Int) + 1] [(j : Int) + 1, (i : Int) + 1] := fun x hx => far_pos hn hi hj hf hx
/-- A letter that commutes does so with its inverse, too. -/
theorem weq_swap (hn : 2 ≤ n) {k j : Int} (hk : Letter n k) (hj : Letter n j) (h : WEq n [k, j] [j, k]) : WEq n [-k, j] [j, -k] := fun x hx => by
 have hk2 : Letter n (-k) := ⟨by have := hk.1; omega, by have := hk.2.2; omega, by have := hk.2.1; omega⟩
 have hy := raw_sup hk2 hx
 have k1 := cancel hn hk2 hx
 rw [Int.neg_neg] at k1
 -- y = x (-k); y k = x
 have k2 : SEq n (rawStep n (rawStep n (rawStep n x (-k)) k) j) (rawStep n x j) := raw_seq hn hj k1
 have k3 : SEq n (rawStep n (rawStep n (rawStep n x (-k)) k) j) (rawStep n (rawStep n (rawStep n x (-k)) j) k) := h _ hy
 have k4 := raw_seq hn hk2 (k3.symm.trans hn k2)
 have k5 := cancel hn hk (raw_sup hj hy)
 exact k5.symm.trans hn k4
end
end Go.Proofs.Ytdldfdcedjmneaa.Pure
