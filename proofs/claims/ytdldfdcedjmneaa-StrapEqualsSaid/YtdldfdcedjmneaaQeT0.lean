/- The declarations of T0 that the claim Qe needs. -/
import Derived.Test.YtdldfdcedjmneaaProg
import Derived.Below
import Derived.Deep.Draws
import Derived.Deep.AppendLies
import Derived.Maps.AppendAt
import Derived.OwnWalk
import Derived.Laws.BytesArg
import Derived.Laws.MakeOwn
import Derived.Laws.OwnMore
import Derived.Deep.OwnRows
import Derived.Tactics
import Derived.Lib.ConvBytes
import Derived.Laws.Slices
import Derived.WalkKit
import Derived.KernelRfl
import Derived.RowKit3
import Derived.Deep.LoopGhost
import Derived.Deep.QuietTactic
import Derived.BigQuiet
import Derived.WideLaws
import Derived.Deep.DeepCutAuto
import Derived.Deep.CutBlock
import Derived.Deep.RegionHeld3
import Derived.Laws.Rows
import Derived.Lib.AppendStr
import Derived.ArgAppend
import Derived.Laws.IdiomCopy
import Derived.OrdersHeld
import Derived.Laws.BitsLemmas
import Derived.RowKit
import Derived.Test.YtdldfdcedjmneaaQeWWords
import Derived.Test.YtdldfdcedjmneaaQeWLast
import Derived.Test.YtdldfdcedjmneaaQeWTab
import Derived.Test.YtdldfdcedjmneaaQeWQPut
import Derived.Test.YtdldfdcedjmneaaQeWApart
import Derived.Test.YtdldfdcedjmneaaQeWFoot
import Derived.Test.YtdldfdcedjmneaaQeWKept
import Derived.Test.YtdldfdcedjmneaaQeWShare
import Derived.Test.YtdldfdcedjmneaaQeWN
import Derived.Laws.StructEq
import Derived.Test.YtdldfdcedjmneaaQeWRepsOne
import Derived.Test.YtdldfdcedjmneaaQeWInv
import Derived.Test.YtdldfdcedjmneaaQeWGuard
import Derived.Test.YtdldfdcedjmneaaQeWNEv
import Derived.Test.YtdldfdcedjmneaaQeWMore
import Derived.LoopTactic
import Derived.Lib.SliceRun
import Derived.IntWalk
import Derived.Defers
import Derived.Outline
namespace Go.Proofs.Ytdldfdcedjmneaa.Own
set_option linter.unusedVariables false
set_option linter.unusedSimpArgs false
open Go.RowKit Go.Proofs.YtdldfdcedjmneaaW.PrintWords Go.Proofs.YtdldfdcedjmneaaW.PrintLast Go.Proofs.YtdldfdcedjmneaaW.PrintMore
theorem info3 : (Try.prog.info? 3).map (fun i => (i.zero, i.size, i.bytes)) = some (some (.int .i64 0), 1, 8) := by kernel_rfl
theorem info22 : (Try.prog.info? 22).map (fun i => (i.zero, i.size, i.bytes)) = some (some (.slice none 0 0), 1, 24) := by kernel_rfl
theorem info86 : (Try.prog.info? 86).map (fun i => (i.zero, i.size, i.bytes)) = some (some (.slice none 0 0), 1, 24) := by kernel_rfl
theorem ret_int {k : IntKind} {a b : Int} (h : a = b) : Ending.returned (.int k a) = .returned (.int k b) := by rw [h]
theorem ret_bool {a b : Bool} (h : a = b) : Ending.returned (.bool a) = .returned (.bool b) := by rw [h]
theorem heap_alloc_new (w : World) (o : Obj) : (w.alloc o).heap[w.heap.size]? = some o := by show (w.heap.push o)[w.heap.size]? = _; simp
theorem size_alloc (w : World) (o : Obj) : (w.alloc o).heap.size = w.heap.size + 1 := by show (w.heap.push o).size = _; simp
/-- The header of a row of n numbers in a block of its own: block and capacity. -/
def encH (n : Nat) (h : Nat × Nat) : Value := .slice (some ⟨h.1, 0, none⟩) n h.2
def hd (n : Nat) : Kd (Nat × Nat) := Kd.scalar (encH n) (fun _ => rfl)
/-- The factors of a braid: the row of their headers, and their rows. -/
structure Fac (B n : Nat) (w : World) (v : Value) (hs : List (Nat × Nat)) (L : List (List Int)) : Prop where
  top : (hd n).Q 86 w B (fun _ => True) v hs
  len : hs.length = L.length
  row : ∀ i (h : i < hs.length), Kd.R (Kd.int .i64) 3 w B (fun k => k = hs[i].1) (encH n hs[i]) (L.getD i [])
  nd : (hs.map (·.1)).Nodup
section
variable {B n : Nat} {w w' : World} {v : Value} {hs : List (Nat × Nat)} {L : List (List Int)}
theorem Fac.nil (B n : Nat) (w : World) : Fac B n w (.slice none 0 0) [] [] :=
  ⟨Kd.Q_nil _ _ _ _ _, rfl, fun i h => by simp at h, by simp⟩
theorem hd_E (n : Nat) : (hd n).E = [] := rfl
theorem int_E : (Kd.int .i64).E = [] := rfl
theorem R_own1 {b c n : Nat} {xs : List Int} {ok : Nat → Prop} (h : Kd.R (Kd.int .i64) 3 w B ok (.slice (some ⟨b, 0, none⟩) n c) xs) : Kd.R (Kd.int .i64) 3 w B (fun k => k = b) (.slice (some ⟨b, 0, none⟩) n c) xs :=
  Kd.R_mono (Kd.R_tight int_E h) (fun k hk => by simpa [Value.ownBlock] using hk)
theorem R_blk {b c n : Nat} {xs : List Int} {ok : Nat → Prop} (h : Kd.R (Kd.int .i64) 3 w B ok (.slice (some ⟨b, 0, none⟩) n c) xs) : ∃ cells, w.heap[b]? = some (.cells cells 3 (0, 0)) :=
  Kd.R_typed h b (by simp [Value.ownBlock])
theorem R_lt1 {b c n : Nat} {xs : List Int} {ok : Nat → Prop} (h : Kd.R (Kd.int .i64) 3 w B ok (.slice (some ⟨b, 0, none⟩) n c) xs) : b < w.heap.size ∧ B ≤ b := by
  obtain ⟨cells, hc⟩ := R_blk h
  exact ⟨(Array.getElem?_eq_some_iff.1 hc).1, Kd.R_base h b (by simp [Value.ownBlock])⟩
theorem Fac.blk_ne (h : Fac B n w v hs L) {i : Nat} (hi : i < hs.length) : some hs[i].1 ≠ v.ownBlock := by
  obtain ⟨cells, hc⟩ := R_blk (h.row i hi)
  exact Kd.Q_ne h.top hc (by decide)
theorem Fac.inj (h : Fac B n w v hs L) {i j : Nat} (hi : i < hs.length) (hj : j < hs.length) (e : hs[i].1 = hs[j].1) : i = j := by
 have h1 := h.nd
 unfold List.Nodup at h1
 rw [List.pairwise_iff_getElem] at h1
 rcases Nat.lt_trichotomy i j with h2 | h2 | h2
 ·exact absurd (by rw [List.getElem_map, List.getElem_map]; exact e) (h1 i j (by simpa using hi) (by simpa using hj) h2)
 ·exact h2
 ·exact absurd (by rw [List.getElem_map, List.getElem_map]; exact e.symm) (h1 j i (by simpa using hj) (by simpa using hi) h2)
/-- Nothing of the factors is written. -/
theorem Fac.kept {S : Nat → Prop} (h : Fac B n w v hs L) (hk : Kept w w' S) (hv : ∀ k, S k → v.ownBlock ≠ some k) (hr : ∀ k, S k → ∀ i (hi : i < hs.length), hs[i].1 ≠ k) : Fac B n w' v hs L :=
  ⟨Kd.Q_mono (Kd.Q_kept (Kd.Q_tight (hd_E n) h.top) hk (fun k hk1 hs1 => hv k hs1 hk1.symm)) (fun _ _ => trivial), h.len,
    fun i hi => Kd.R_kept (h.row i hi) hk (fun k hk1 hs1 => hr k hs1 i hi hk1.symm), h.nd⟩
theorem Fac.below (h : Fac B n w v hs L) (hb : Below w.heap.size w w') : Fac B n w' v hs L :=
  h.kept (S := fun _ => False) (Kept.of_below hb _) (fun _ hf => hf.elim) (fun _ hf => hf.elim)
theorem Fac.lt (h : Fac B n w v hs L) {i : Nat} (hi : i < hs.length) : hs[i].1 < w.heap.size ∧ B ≤ hs[i].1 := R_lt1 (h.row i hi)
end
end Go.Proofs.Ytdldfdcedjmneaa.Own
namespace Go.Proofs.Ytdldfdcedjmneaa.Own
open Go.RowKit Go.Proofs.YtdldfdcedjmneaaW.PrintWords Go.Proofs.YtdldfdcedjmneaaW.PrintLast Go.Proofs.YtdldfdcedjmneaaW.PrintMore
set_option linter.unusedVariables false
set_option linter.unusedSimpArgs false
/-- A letter that no word of n strands may have. -/
def badL (n k : Int) : Bool := decide (k = 0 ∨ n ≤ k ∨ k ≤ -n)
theorem f82_any (k n : Int) (b : Nat) (w : World) (hn1 : 2 ≤ n) (hn2 : n ≤ 8) (hc : w.cell? ⟨b, 0, none⟩ = some (.int .i64 n)) :
  Calls Try.prog 82 #[.int .i64 k, .pointer (some ⟨b, 0, none⟩)] w fun e w' => e = .returned (.bool (badL n k)) ∧ w = w' := by
 by_cases h1 : k = 0
 ·have hb : badL n k = true := by unfold badL; simp [h1]
  have HB := Aside0.mk hb
  have h2 : (k == 0) = true := by simpa using h1
  clear hb h1
  go_enter Try.func82, Try.ntmps82
  go_wp2
  go_ret
  exact ⟨ret_bool HB.out.symm, rfl⟩
 ·have h2 : (k == 0) = false := by simpa using h1
  by_cases h3 : n ≤ k
  ·have hb : badL n k = true := by unfold badL; simp [h3]
   have HB := Aside0.mk hb
   clear hb h1
   go_enter Try.func82, Try.ntmps82
   go_wp2
   go_ret
   exact ⟨ret_bool HB.out.symm, rfl⟩
  ·by_cases h4 : k ≤ -n
   ·have hb : badL n k = true := by unfold badL; simp [h4]
    have HB := Aside0.mk hb
    clear hb h1
    go_enter Try.func82, Try.ntmps82
    go_wp2
    go_ret
    exact ⟨ret_bool HB.out.symm, rfl⟩
   ·have hb : badL n k = false := by unfold badL; simp [h1, h3, h4]
    have HB := Aside0.mk hb
    clear hb h1
    go_enter Try.func82, Try.ntmps82
    go_wp2
    go_ret
    exact ⟨ret_bool HB.out.symm, rfl⟩
set_option maxHeartbeats 1000000 in
theorem f87_chk (A : Option Addr) (c m : Nat) (xs : List Int) (n : Int) (b : Nat) (w : World) (hr : Kd.C (Kd.int .i64) w A m xs) (hm : m ≤ c) (hn1 : 2 ≤ n) (hn2 : n ≤ 8) (hc : w.cell? ⟨b, 0, none⟩ = some (.int .i64 n)) :
  Calls Try.prog 87 #[.slice A m c, .func (.func 82) #[] #[.pointer (some ⟨b, 0, none⟩)]] w fun e w' => ∃ z : Int, e = .returned (.int .i64 z) ∧ (decide (0 ≤ z) = xs.any (badL n)) ∧ w = w' := by
 have hlen : xs.length = m := hr.1
 have hmx : m ≤ 9223372036854775807 := hr.2.1
 have h82 := fun k => f82_any k n b w hn1 hn2 hc
 have HR := Aside0.mk hr
 have HL := Aside0.mk hlen
 clear hr hlen hc hn1 hn2
 go_enter Try.func87, Try.ntmps87
 go_wp2
 go_loopg [8] m (fun kq s8 wr => ∃ i : Nat, s8 = .int .i64 i ∧ i ≤ m ∧ m - i ≤ kq ∧ wr = w ∧ Aside0 ((xs.drop i).any (badL n) = xs.any (badL n)))
 case atStart => exact ⟨0, rfl, Nat.zero_le _, by omega, rfl, ⟨rfl⟩⟩
 case round =>
  obtain ⟨i, rfl, hi, hgg, rfl, HP⟩ := hrel
  by_cases hlt : i < m
  ·obtain ⟨ad, rfl, hcw⟩ := Kd.at_int HR.out (i : Int) (by omega) (by omega)
   rw [Int.toNat_natCast] at hcw
   obtain ⟨x, hx⟩ : ∃ x, rd xs (i : Int) = x := ⟨_, rfl⟩
   rw [hx] at hcw
   have hp := HP.out
   have hxi : xs[i]'(by rw [HL.out]; exact hlt) = x := by
    have := hx
    unfold rd at this
    rw [Int.toNat_natCast, List.getD_eq_getElem?_getD, List.getElem?_eq_getElem (by rw [HL.out]; exact hlt)] at this
    exact this
   rw [List.drop_eq_getElem_cons (by rw [HL.out]; exact hlt), hxi, List.any_cons] at hp
   have HP2 := Aside0.mk hp
   have hix : (i : Int) < (m : Int) := by omega
   have hi0 : (0 : Int) ≤ (i : Int) := by omega
   have h82x := h82 x
   clear hx hxi hp HP h82
   cases hb : badL n x with
   | true =>
    rw [hb] at h82x
    have HD := Aside0.mk hb
    clear hb
    go_wp2_with (go_at_call 82; (with_reducible refine h82x.mono ?_); rintro e w' ⟨rfl, rfl⟩)
    go_ret
    refine ⟨i, rfl, ?_, rfl⟩
    rw [← HP2.out, HD.out]
    simp
   | false =>
    rw [hb] at h82x
    have HP3 : Aside0 ((xs.drop (i + 1)).any (badL n) = xs.any (badL n)) := ⟨by have h := HP2.out; rw [hb] at h; simpa using h⟩
    clear hb HP2
    go_wp2_with (go_at_call 82; (with_reducible refine h82x.mono ?_); rintro e w' ⟨rfl, rfl⟩)
    go_roundg (m - (i + 1))
    case measure => omega
    case rel => exact ⟨i + 1, by go_num, by omega, Nat.le_refl _, rfl, HP3⟩
  ·have hin : i = m := by omega
   subst hin
   have HP3 : Aside0 (xs.any (badL n) = false) := ⟨by have h := HP.out; rw [List.drop_of_length_le (by rw [HL.out]; exact Nat.le_refl _)] at h; exact h.symm⟩
   clear HP h82
   go_wp2
   go_ret
   exact ⟨_, rfl, by rw [HP3.out]; rfl, rfl⟩
theorem f81_chk (A : Option Addr) (c m : Nat) (xs : List Int) (n : Int) (b : Nat) (w : World) (hr : Kd.C (Kd.int .i64) w A m xs) (hm : m ≤ c) (hn1 : 2 ≤ n) (hn2 : n ≤ 8) (hc : w.cell? ⟨b, 0, none⟩ = some (.int .i64 n)) :
  Calls Try.prog 81 #[.slice A m c, .func (.func 82) #[] #[.pointer (some ⟨b, 0, none⟩)]] w fun e w' => e = .returned (.bool (xs.any (badL n))) ∧ w = w' := by
 have h87 := f87_chk A c m xs n b w hr hm hn1 hn2 hc
 clear hr hc
 go_enter Try.func81, Try.ntmps81
 go_wp2_with (go_at_call 87; (with_reducible refine h87.mono ?_); rintro e w' ⟨z, rfl, hz, rfl⟩)
 go_ret
 exact ⟨rfl, rfl⟩
/-- Why a word is not valid. -/
def checkF (n : Int) (xs : List Int) : Int := if n < 2 ∨ 8 < n then 1 else if xs.any (badL n) = true then 2 else if 60 < xs.length then 3 else 0
theorem f52_any (n : Int) (A : Option Addr) (c m : Nat) (xs : List Int) (w : World) (hr : Kd.C (Kd.int .i64) w A m xs) (hm : m ≤ c) :
  Calls Try.prog 52 #[.int .i64 n, .slice A m c] w fun e w' => e = .returned (.int .i64 (checkF n xs)) ∧ Below w.heap.size w w' := by
 have hlen : xs.length = m := hr.1
 have hmx : m ≤ 9223372036854775807 := hr.2.1
 by_cases h1 : n < 2
 ·have hf : checkF n xs = 1 := by unfold checkF; rw [if_pos (.inl h1)]
  rw [hf]
  clear hr hf hlen
  go_enter Try.func52, Try.ntmps52
  go_wp2
  go_ret
  exact ⟨rfl, by repeat (first | exact Below.refl _ _ | apply below_alloc | apply pw_below_drewN | apply below_drew1)⟩
 ·by_cases h2 : 8 < n
  ·have hf : checkF n xs = 1 := by unfold checkF; rw [if_pos (.inr h2)]
   rw [hf]
   clear hr hf hlen
   go_enter Try.func52, Try.ntmps52
   go_wp2
   go_ret
   exact ⟨rfl, by repeat (first | exact Below.refl _ _ | apply below_alloc | apply pw_below_drewN | apply below_drew1)⟩
  ·have h81 := f81_chk A c m xs n w.heap.size (w.alloc (.cells #[.int .i64 n] 3)) (Kd.C_alloc hr _) hm (by omega) (by omega) (by have h9 := heap_alloc_new w (.cells #[.int .i64 n] 3); simp only [World.cell?, h9]; rfl)
   have HF : Aside0 (checkF n xs = if xs.any (badL n) = true then 2 else if 60 < m then 3 else 0) := ⟨by unfold checkF; rw [if_neg (by omega), hlen]⟩
   clear hr hlen
   cases hb : xs.any (badL n) with
   | true =>
    rw [hb] at h81
    have HF2 : Aside0 (checkF n xs = 2) := ⟨by rw [HF.out, hb]; rfl⟩
    clear hb HF
    go_enter Try.func52, Try.ntmps52
    go_wp2_with (go_at_call 81; (with_reducible refine h81.mono ?_); rintro e w' ⟨rfl, rfl⟩)
    go_ret
    exact ⟨ret_int HF2.out.symm, by repeat (first | exact Below.refl _ _ | apply below_alloc | apply pw_below_drewN | apply below_drew1)⟩
   | false =>
    rw [hb] at h81
    by_cases h3 : 60 < m
    ·have HF2 : Aside0 (checkF n xs = 3) := ⟨by rw [HF.out, hb]; simp [h3]⟩
     clear hb HF
     go_enter Try.func52, Try.ntmps52
     go_wp2_with (go_at_call 81; (with_reducible refine h81.mono ?_); rintro e w' ⟨rfl, rfl⟩)
     go_ret
     exact ⟨ret_int HF2.out.symm, by repeat (first | exact Below.refl _ _ | apply below_alloc | apply pw_below_drewN | apply below_drew1)⟩
    ·have HF2 : Aside0 (checkF n xs = 0) := ⟨by rw [HF.out, hb]; simp [h3]⟩
     clear hb HF
     go_enter Try.func52, Try.ntmps52
     go_wp2_with (go_at_call 81; (with_reducible refine h81.mono ?_); rintro e w' ⟨rfl, rfl⟩)
     go_ret
     exact ⟨ret_int HF2.out.symm, by repeat (first | exact Below.refl _ _ | apply below_alloc | apply pw_below_drewN | apply below_drew1)⟩
end Go.Proofs.Ytdldfdcedjmneaa.Own
