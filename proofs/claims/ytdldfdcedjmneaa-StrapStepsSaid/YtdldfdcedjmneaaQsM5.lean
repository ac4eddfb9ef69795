/- The declarations of M5 that the claim Qs needs. -/
import Derived.Test.YtdldfdcedjmneaaQsLxx0
import Derived.Test.YtdldfdcedjmneaaQsLxx1
import Derived.Test.YtdldfdcedjmneaaQsLxx2
import Derived.Test.YtdldfdcedjmneaaQsLxx28
import Derived.Test.YtdldfdcedjmneaaQsLxx10
import Derived.Test.YtdldfdcedjmneaaQsLxx11
import Derived.Test.YtdldfdcedjmneaaQsM4
namespace Go.Proofs.Ytdldfdcedjmneaa.Pure
open Go.RowKit Go.Proofs.YtdldfdcedjmneaaW.PrintWords Go.Proofs.YtdldfdcedjmneaaW.PrintLast Go.Proofs.YtdldfdcedjmneaaW.PrintMore Go.Proofs.Ytdldfdcedjmneaa.Lx Go.Proofs.Ytdldfdcedjmneaa.Br
open Go.Proofs.Ytdldfdcedjmneaa.Own (lst lst_len lst_getD lst_rd lst_inj lst_of getD_set' wrap_s rd_nat checkF checkF_zero badL normF normL normF_nf normF_eq strap_Normal.f)
set_option linter.unusedVariables false
set_option linter.unusedSimpArgs false
section
variable {n : Nat} {t : Pm}
theorem sumN_le {h : Nat → Nat} {b : Nat} : ∀ m, (∀ x, x < m → h x ≤ b) → sumN h m ≤ m * b
 | 0, _ => by simp [sumN]
 | m + 1, hb => by
  have h1 := sumN_le m (fun x hx => hb x (by omega))
  have h2 := hb m (by omega)
  rw [sumN, Nat.succ_mul]; omega
def invL (xs : List Int) : List Int := (xs.map fun k => -k).reverse
theorem word_inv {xs : List Int} (h : Word n xs) : Word n (invL xs) := fun k hk => by
 unfold invL at hk
 rw [List.mem_reverse, List.mem_map] at hk
 obtain ⟨j, hj, rfl⟩ := hk
 obtain ⟨h1, h2, h3⟩ := h j hj
 exact ⟨by omega, by omega, by omega⟩
theorem inverse_l0 (hn : n ≤ 1000) {xs : List Int} (hw : Word n xs) (hm : xs.length ≤ 100000) : ∀ (d i : Nat), i + d = xs.length → Ev (fun k => gampref05_Inverse.l0 k xs (invL (xs.drop d)) ((d : Int) - 1)) (invL xs) := by
 intro d
 induction d with
 | zero =>
  intro i hi
  refine Ev.step (f := fun _ => some (invL xs)) (fun k => ?_) (Ev.now _)
  simp only [gampref05_Inverse.l0]
  rw [if_neg (by omega), List.drop_zero]
 | succ d ih =>
  intro i hi
  have hd : d < xs.length := by omega
  have e1 : rd xs (((d + 1 : Nat) : Int) - 1) = xs[d] := by rw [show ((d + 1 : Nat) : Int) - 1 = (d : Int) by omega, rd_nat, List.getD_eq_getElem?_getD, List.getElem?_eq_getElem hd]; rfl
  obtain ⟨h1, h2, h3⟩ := hw xs[d] (List.getElem_mem hd)
  have e2 : wrap64 (-xs[d]) = -xs[d] := by unfold wrap64; omega
  have e3 : wrap64 (((d + 1 : Nat) : Int) - 1 - 1) = (d : Int) - 1 := by unfold wrap64; omega
  have e4 : invL (xs.drop (d + 1)) ++ [-xs[d]] = invL (xs.drop d) := by
   unfold invL
   rw [List.drop_eq_getElem_cons hd, List.map_cons, List.reverse_cons]
  have hlen : (invL (xs.drop (d + 1))).length ≤ 100000 := by unfold invL; rw [List.length_reverse, List.length_map, List.length_drop]; omega
  refine Ev.step (fun k => ?_) (ih (i + 1) (by omega))
  simp only [gampref05_Inverse.l0]
  rw [if_pos (by omega), if_pos (by omega), if_pos (by omega), if_pos (by omega), e1, e2, e3, e4]
theorem inverse_ev (hn : n ≤ 1000) {xs : List Int} (hw : Word n xs) (hm : xs.length ≤ 100000) : Ev (fun k => gampref05_Inverse.f k xs) (invL xs) := by
 unfold gampref05_Inverse.f
 have h := inverse_l0 hn hw hm xs.length 0 (by omega)
 rw [List.drop_of_length_le (Nat.le_refl _)] at h
 have e : wrap64 ((xs.length : Int) - 1) = (xs.length : Int) - 1 := by unfold wrap64; omega
 rw [e]
 exact h
theorem rawW_inv (hn : 2 ≤ n) : ∀ {xs : List Int} {x : Int × List Pm}, Word n xs → AllSup n x.2 → SEq n (rawW n x (xs ++ invL xs)) x
 | [], x, hw, hs => SEq.refl hs
 | k :: xs, x, hw, hs => by
  have hk := hw k (by simp)
  have hxs : Word n xs := fun j hj => hw j (by simp [hj])
  have e1 : invL (k :: xs) = invL xs ++ [-k] := by unfold invL; rw [List.map_cons, List.reverse_cons]
  have e2 : rawW n x (k :: xs ++ invL (k :: xs)) = rawStep n (rawW n (rawStep n x k) (xs ++ invL xs)) (-k) := by
   rw [e1, List.cons_append, ← List.append_assoc]
   show rawW n (rawStep n x k) (xs ++ invL xs ++ [-k]) = _
   rw [rawW_app]; rfl
  rw [e2]
  have hk2 : Letter n (-k) := ⟨by have := hk.1; omega, by have := hk.2.2; omega, by have := hk.2.1; omega⟩
  exact (raw_seq hn hk2 (rawW_inv hn (xs := xs) hxs (raw_sup hk hs))).trans hn (cancel hn hk hs)
end
end Go.Proofs.Ytdldfdcedjmneaa.Pure
