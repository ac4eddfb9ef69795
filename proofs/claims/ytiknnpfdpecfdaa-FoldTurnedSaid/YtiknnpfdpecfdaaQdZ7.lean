/- The declarations of Z7 that the claim Qd needs. -/
import Derived.Test.YtiknnpfdpecfdaaQdZ5
import Derived.Test.YtiknnpfdpecfdaaQdZ6
namespace Go.Proofs.Ytiknnpfdpecfdaa.Own
open Go Go.RowKit Go.Proofs Go.Proofs.YtiknnpfdpecfdaaW.PrintWords Go.Proofs.YtiknnpfdpecfdaaW.PrintLast Go.Proofs.YtiknnpfdpecfdaaW.PrintMore
set_option linter.unusedVariables false
set_option linter.unusedSimpArgs false
def lo (o : List Int) (k : Nat) : Nat := min (pos o (k : Int)) (pos o ((k + 1 : Nat) : Int))
def hi (o : List Int) (k : Nat) : Nat := max (pos o (k : Int)) (pos o ((k + 1 : Nat) : Int))
/-- Crease k lies inside segment s. -/
def insideS (l : List Int) (k s : Nat) : Prop := min (PP l s) (PP l (s + 1)) < PP l (k + 1) ∧ PP l (k + 1) < max (PP l s) (PP l (s + 1))
/-- Creases at one place and side. -/
def alikeC (l : List Int) (k j : Nat) : Prop := PP l (j + 1) = PP l (k + 1) ∧ (j + 1) % 2 = (k + 1) % 2
def Glob (l o : List Int) : Prop := (∀ k s : Nat, k + 1 < l.length → s < l.length → ¬ (insideS l k s ∧ lo o k < pos o (s : Int) ∧ pos o (s : Int) < hi o k)) ∧ (∀ k j : Nat, k + 1 < l.length → j + 1 < l.length → j ≠ k → alikeC l k j → ¬ (lo o k < lo o j ∧ lo o j < hi o k ∧ hi o k < hi o j))
variable {l o : List Int}
theorem folds_glob (h : OkL l) (hp : IsP l.length o) : foldsO l o = true ↔ Glob l o := by
 have hcl := layR_cr l l.length
 have hab : ∀ k, k + 1 < l.length → aOf (layR l l.length).cr o k = lo o k ∧ bOf (layR l l.length).cr o k = hi o k := by
  intro k hk
  unfold aOf bOf lo hi
  rw [lay_cr h hk]
  exact ⟨rfl, rfl⟩
 have hcr : ∀ k j, k + 1 < l.length → j + 1 < l.length → (crossed (layR l l.length).cr (k : Int) (j : Int) = true ↔ alikeC l k j) := by
  intro k j hk hj
  unfold crossed alikeC
  rw [lay_cr h hk, lay_cr h hj, Bool.and_eq_true, beq_iff_eq, beq_iff_eq]
  show (PP l (j + 1) = PP l (k + 1) ∧ ((j + 1) % 2 == 1) = ((k + 1) % 2 == 1)) ↔ _
  have : (((j + 1) % 2 == 1) = ((k + 1) % 2 == 1)) ↔ (j + 1) % 2 = (k + 1) % 2 := by
   rw [Bool.eq_iff_iff, beq_iff_eq, beq_iff_eq]
   omega
  rw [this]
 have hlt := fun k (hk : k < (layR l l.length).cr.length) => ab_lt (lay_geo h) hp hk
 unfold foldsO
 rw [folds_all (lay_geo h) hp]
 constructor
 ·intro hg
  refine ⟨fun k s hk hs ⟨h1, h2, h3⟩ => ?_, fun k j hk hj hjk hc ⟨h1, h2, h3⟩ => ?_⟩
  ·have hps := pos_lt hp (s := (s : Int)) (by omega) (by omega)
   refine (hg _ hps).1 k (by omega) (by rw [(hab k hk).1]; exact h2) (by rw [(hab k hk).2]; exact h3) ?_
   rw [get_pos hp (by omega) (by omega), lay_low h hs, lay_high h hs, lay_cr h hk]
   exact h1
  ·have hb := (hlt k (by omega)).2
   refine ((hg _ hb).2 k (by omega)).1 rfl j (by omega) hjk ((hcr k j hk hj).2 hc) ?_ ?_ ?_
   ·rw [(hab k hk).1, (hab j hj).1]; exact h1
   ·rw [(hab k hk).2, (hab j hj).1]; exact h2
   ·rw [(hab k hk).2, (hab j hj).2]; exact h3
 ·intro hg i hi_
  refine ⟨fun k hk h1 h2 h3 => ?_, fun k hk => ⟨fun hb j hj hjk hc h1 h2 h3 => ?_, fun _ hp0 => absurd rfl hp0⟩⟩
  ·have hk2 : k + 1 < l.length := by omega
   have hio : i < o.length := by rw [hp.len]; exact hi_
   have hm := (hp.mem (o.getD i 0)).1 (by rw [List.getD_eq_getElem?_getD, List.getElem?_eq_getElem hio, Option.getD_some]; exact List.getElem_mem hio)
   obtain ⟨s, hs⟩ : ∃ s : Nat, o.getD i 0 = (s : Int) := ⟨(o.getD i 0).toNat, by omega⟩
   have hps := pos_get hp hi_
   rw [hs] at h3 hps hm
   rw [lay_low h (by omega), lay_high h (by omega), lay_cr h hk2] at h3
   rw [(hab k hk2).1] at h1
   rw [(hab k hk2).2] at h2
   exact hg.1 k s hk2 (by omega) ⟨h3, by omega, by omega⟩
  ·have hk2 : k + 1 < l.length := by omega
   have hj2 : j + 1 < l.length := by omega
   rw [(hab k hk2).2] at hb
   rw [(hab k hk2).1, (hab j hj2).1] at h1
   rw [(hab j hj2).1] at h2
   rw [(hab j hj2).2] at h3
   exact hg.2 k j hk2 hj2 hjk ((hcr k j hk2 hj2).1 hc) ⟨h1, by omega, by omega⟩
theorem scale_pp (m : Int) : ∀ k, k ≤ l.length → PP (l.map (· * m)) k = PP l k * m
 | 0, _ => by simp [PP]
 | k + 1, hk => by
  have ih := scale_pp m k (by omega)
  have hg : (l.map (· * m)).getD k 0 = l.getD k 0 * m := by
   rw [List.getD_eq_getElem?_getD, List.getD_eq_getElem?_getD, List.getElem?_map, List.getElem?_eq_getElem (show k < l.length by omega)]
   rfl
  rw [PP, PP, ih, hg]
  split
  ·rw [Int.sub_mul]
  ·rw [Int.add_mul]
theorem scale_glob {m : Int} (hm : 0 < m) : Glob (l.map (· * m)) o ↔ Glob l o := by
 have hin : ∀ k s, k + 1 < l.length → s < l.length → (insideS (l.map (· * m)) k s ↔ insideS l k s) := by
  intro k s hk hs
  unfold insideS
  rw [scale_pp m s (by omega), scale_pp m (s + 1) (by omega), scale_pp m (k + 1) (by omega)]
  have e1 : min (PP l s * m) (PP l (s + 1) * m) = min (PP l s) (PP l (s + 1)) * m := by
   by_cases h : PP l s ≤ PP l (s + 1)
   ·rw [Int.min_eq_left h, Int.min_eq_left (Int.mul_le_mul_of_nonneg_right h (by omega))]
   ·rw [Int.min_eq_right (show PP l (s + 1) ≤ PP l s by omega), Int.min_eq_right (Int.mul_le_mul_of_nonneg_right (show PP l (s + 1) ≤ PP l s by omega) (by omega))]
  have e2 : max (PP l s * m) (PP l (s + 1) * m) = max (PP l s) (PP l (s + 1)) * m := by
   by_cases h : PP l s ≤ PP l (s + 1)
   ·rw [Int.max_eq_right h, Int.max_eq_right (Int.mul_le_mul_of_nonneg_right h (by omega))]
   ·rw [Int.max_eq_left (show PP l (s + 1) ≤ PP l s by omega), Int.max_eq_left (Int.mul_le_mul_of_nonneg_right (show PP l (s + 1) ≤ PP l s by omega) (by omega))]
  rw [e1, e2, Int.mul_lt_mul_right hm, Int.mul_lt_mul_right hm]
 have hal : ∀ k j, k + 1 < l.length → j + 1 < l.length → (alikeC (l.map (· * m)) k j ↔ alikeC l k j) := by
  intro k j hk hj
  unfold alikeC
  rw [scale_pp m (j + 1) (by omega), scale_pp m (k + 1) (by omega)]
  constructor
  ·rintro ⟨h1, h2⟩; exact ⟨Int.eq_of_mul_eq_mul_right (by omega) h1, h2⟩
  ·rintro ⟨h1, h2⟩; exact ⟨by rw [h1], h2⟩
 unfold Glob
 rw [List.length_map]
 constructor
 ·rintro ⟨h1, h2⟩
  exact ⟨fun k s hk hs ⟨a, b⟩ => h1 k s hk hs ⟨(hin k s hk hs).2 a, b⟩, fun k j hk hj hjk hc => h2 k j hk hj hjk ((hal k j hk hj).2 hc)⟩
 ·rintro ⟨h1, h2⟩
  exact ⟨fun k s hk hs ⟨a, b⟩ => h1 k s hk hs ⟨(hin k s hk hs).1 a, b⟩, fun k j hk hj hjk hc => h2 k j hk hj hjk ((hal k j hk hj).1 hc)⟩
theorem allO_filter (l : List Int) : allO l ⟨#[]⟩ = (exts l.length l.length []).filter (foldsO l) := by
 unfold allO
 rw [growF_eq, (layR_len l l.length).1]
 rfl
theorem scale_folds {m : Int} (hm : 0 < m) (h : OkL l) (h' : OkL (l.map (· * m))) (hp : IsP l.length o) : foldsO (l.map (· * m)) o = foldsO l o := by
  apply Bool.eq_iff_iff.2
  rw [folds_glob h hp, folds_glob h' (by rw [List.length_map]; exact hp), scale_glob hm]
theorem scale_all {m : Int} (hm : 0 < m) (h : OkL l) (h' : OkL (l.map (· * m))) : allO (l.map (· * m)) ⟨#[]⟩ = allO l ⟨#[]⟩ := by
  rw [allO_filter, allO_filter, List.length_map]
  exact List.filter_congr (fun o ho => scale_folds hm h h' (isP_of ho))
theorem lett_strip (h : OkL l) (hp : IsP l.length o) : lettC (layR l l.length).cr o = (List.range (l.length - 1)).map fun (k : Nat) => if ((k % 2 == 0) == decide (pos o (k : Int) < pos o ((k + 1 : Nat) : Int))) = true then 86 else 77 := by
 unfold lettC
 rw [layR_cr]
 apply List.map_congr_left
 intro k hk
 have hk2 := List.mem_range.1 hk
 unfold lettAt
 rw [lay_cr h (by omega)]
 have ht : (Int.tmod ((k : Nat) : Int) 2 == 0) = (k % 2 == 0) := by
  rw [Int.tmod_eq_emod_of_nonneg (by omega)]
  apply Bool.eq_iff_iff.2
  rw [beq_iff_eq, beq_iff_eq]
  omega
 show (if ((Int.tmod ((k : Nat) : Int) 2 == 0) == decide (pos o ((k : Nat) : Int) < pos o ((k + 1 : Nat) : Int))) = true then (86 : Int) else 77) = _
 rw [ht]
theorem rev_isP {n : Nat} (hp : IsP n o) : IsP n o.reverse := ⟨by rw [List.nodup_iff_pairwise_ne, List.pairwise_reverse]; exact (List.nodup_iff_pairwise_ne.1 hp.nd).imp (fun h => h.symm), by rw [List.length_reverse]; exact hp.len, fun s => by rw [List.mem_reverse]; exact hp.mem s⟩
theorem rev_pos {n : Nat} (hp : IsP n o) {s : Int} (h0 : 0 ≤ s) (h1 : s < n) : pos o.reverse s + pos o s + 1 = n := by
 have hr := rev_isP hp
 have hi := pos_lt hp h0 h1
 have hg : o.reverse.getD (n - 1 - pos o s) 0 = s := by
  have hl := hp.len
  rw [List.getD_eq_getElem?_getD, List.getElem?_reverse (by omega), show o.length - 1 - (n - 1 - pos o s) = pos o s by omega, ← List.getD_eq_getElem?_getD]
  exact get_pos hp h0 h1
 have := pos_get hr (show n - 1 - pos o s < n by omega)
 rw [hg] at this
 omega
theorem rev_glob (hp : IsP l.length o) (hg : Glob l o) : Glob l o.reverse := by
 have hq : ∀ s : Nat, s < l.length → pos o.reverse (s : Int) + pos o (s : Int) + 1 = l.length := fun s hs => rev_pos hp (by omega) (by omega)
 refine ⟨fun k s hk hs ⟨h1, h2, h3⟩ => ?_, fun k j hk hj hjk hc ⟨h1, h2, h3⟩ => ?_⟩
 ·refine hg.1 k s hk hs ⟨h1, ?_, ?_⟩
  all_goals
   have a1 := hq k (by omega)
   have a2 := hq (k + 1) (by omega)
   have a3 := hq s hs
   unfold lo at *
   unfold hi at *
   omega
 ·refine hg.2 j k hj hk (Ne.symm hjk) ⟨hc.1.symm, hc.2.symm⟩ ⟨?_, ?_, ?_⟩
  all_goals
   have a1 := hq k (by omega)
   have a2 := hq (k + 1) (by omega)
   have a3 := hq j (by omega)
   have a4 := hq (j + 1) (by omega)
   unfold lo at *
   unfold hi at *
   omega
end Go.Proofs.Ytiknnpfdpecfdaa.Own
namespace Go.Proofs.Ytiknnpfdpecfdaa.Own
open Go Go.RowKit Go.Proofs Go.Proofs.Ytiknnpfdpecfdaa.Hx Go.Proofs.Ytiknnpfdpecfdaa.Ox Go.Proofs.Ytiknnpfdpecfdaa.Gx Go.Proofs.YtiknnpfdpecfdaaW.PrintWords Go.Proofs.YtiknnpfdpecfdaaW.PrintLast Go.Proofs.YtiknnpfdpecfdaaW.PrintMore
set_option linter.unusedVariables false
set_option linter.unusedSimpArgs false
theorem reversed_l0 (o : List Int) (ho : o.length < 2 ^ 40) : ∀ (i : Nat), i ≤ o.length → Ev (fun k => gamplaw01_reversed.l0 k o ((o.drop i).reverse) ((i : Int) - 1)) o.reverse
 | 0, _ => by
  refine Ev.step (f := fun _ => some o.reverse) (fun k => ?_) (Ev.now _)
  simp only [gamplaw01_reversed.l0]
  rw [if_neg (by omega), List.drop_zero]
 | i + 1, hi => by
  have hio : i < o.length := by omega
  have e1 : (((i + 1 : Nat) : Int) - 1) = (i : Int) := by omega
  have e2 : wrap64 ((i : Int) - 1) = (i : Int) - 1 := by unfold wrap64; omega
  refine Ev.step (fun k => ?_) (reversed_l0 o ho i (by omega))
  simp only [gamplaw01_reversed.l0]
  rw [e1, if_pos (show (i : Int) ≥ 0 by omega), if_pos (show 0 ≤ (i : Int) by omega), if_pos (by omega), rd_nat o hio, e2, if_pos (by rw [List.length_reverse, List.length_drop]; omega)]
  congr 1
  rw [List.drop_eq_getElem_cons hio, List.reverse_cons]
theorem reversed_ev (o : List Int) (ho : o.length < 2 ^ 40) : Ev (fun k => gamplaw01_reversed.f k o) o.reverse := by
 have h := reversed_l0 o ho o.length (Nat.le_refl _)
 unfold gamplaw01_reversed.f
 refine Ev.congr (fun k => ?_) h
 rw [List.drop_length, show wrap64 ((o.length : Int) - 1) = (o.length : Int) - 1 by unfold wrap64; omega]
 rfl
/-- M and V exchanged. -/
def exN (v : Int) : Int := if v = 86 then 77 else 86
theorem bt_str (xs : List Int) {i : Nat} (hi : i < xs.length) (h : 0 ≤ xs[i] ∧ xs[i] < 256) : bt (strOfNums xs) (i : Int) = xs[i] := by
 have hs : (i : Int).toNat < (strOfNums xs).size := by rw [str_size, Int.toNat_natCast]; exact hi
 unfold bt
 rw [dif_pos hs]
 have : (strOfNums xs)[(i : Int).toNat]'hs = UInt8.ofNat (xs[i]).toNat := by
  show (strOfNums xs).data[(i : Int).toNat]'hs = _
  simp [strOfNums]
 rw [this]
 have h2 : xs[i].toNat < 256 := by omega
 rw [UInt8.toNat_ofNat', Nat.mod_eq_of_lt h2]
 omega
theorem exchanged_l0 (xs : List Int) (hx : ∀ v ∈ xs, v = 86 ∨ v = 77) (hl : xs.length < 2 ^ 40) : ∀ (d i : Nat), i + d = xs.length → Ev (fun k => gamplaw01_exchanged.l0 k (strOfNums xs) (strOfNums ((xs.take i).map exN)) (i : Int)) (strOfNums (xs.map exN)) := by
 intro d
 induction d with
 | zero =>
  intro i hi
  refine Ev.step (f := fun _ => some _) (fun k => ?_) (Ev.now _)
  simp only [gamplaw01_exchanged.l0]
  rw [str_size, if_neg (by omega), List.take_of_length_le (by omega)]
 | succ d ih =>
  intro i hi
  have hix : i < xs.length := by omega
  have hv := hx _ (List.getElem_mem hix)
  have hb := bt_str xs hix (by rcases hv with h | h <;> rw [h] <;> decide)
  have hsz : (strOfNums ((xs.take i).map exN)).size + 1 ≤ 9223372036854775807 := by rw [str_size, List.length_map, List.length_take]; omega
  refine Ev.step (fun k => ?_) (ih (i + 1) (by omega))
  simp only [gamplaw01_exchanged.l0]
  rw [str_size, if_pos (by omega), if_pos (by omega), hb, if_pos hsz, if_pos hsz, wup i (by omega), List.take_succ_eq_append_getElem hix, List.map_append]
  rcases hv with h | h
  ·rw [h, if_pos rfl, str_push _ 77 77 rfl]; rfl
  ·rw [h, if_neg (by decide), str_push _ 86 86 rfl]; rfl
theorem exchanged_ev (xs : List Int) (hx : ∀ v ∈ xs, v = 86 ∨ v = 77) (hl : xs.length < 2 ^ 40) : Ev (fun k => gamplaw01_exchanged.f k (strOfNums xs)) (strOfNums (xs.map exN)) := by
  have := exchanged_l0 xs hx hl xs.length 0 (by omega)
  exact this
theorem lettC_mv (cr : List Own.S96) (o : List Int) : ∀ v ∈ lettC cr o, v = 86 ∨ v = 77 := by
 intro v hv
 unfold lettC at hv
 obtain ⟨k, _, rfl⟩ := List.mem_map.1 hv
 unfold lettAt
 split
 ·exact .inl rfl
 ·exact .inr rfl
theorem lett_rev {l o : List Int} (h : OkL l) (hp : IsP l.length o) : lettC (layR l l.length).cr o.reverse = (lettC (layR l l.length).cr o).map exN := by
 rw [lett_strip h hp, lett_strip h (rev_isP hp), List.map_map]
 apply List.map_congr_left
 intro k hk
 have hk2 := List.mem_range.1 hk
 have a1 := rev_pos hp (s := (k : Int)) (by omega) (by omega)
 have a2 := rev_pos hp (s := ((k + 1 : Nat) : Int)) (by omega) (by omega)
 have hne : pos o (k : Int) ≠ pos o ((k + 1 : Nat) : Int) := fun e => by
  have := pos_inj hp (s := (k : Int)) (t := ((k + 1 : Nat) : Int)) (by omega) (by omega) (by omega) (by omega) e
  omega
 show (if ((k % 2 == 0) == decide (pos o.reverse (k : Int) < pos o.reverse ((k + 1 : Nat) : Int))) = true then (86 : Int) else 77) = exN (if ((k % 2 == 0) == decide (pos o (k : Int) < pos o ((k + 1 : Nat) : Int))) = true then 86 else 77)
 by_cases hlt : pos o (k : Int) < pos o ((k + 1 : Nat) : Int)
 ·rw [decide_eq_true hlt, decide_eq_false (show ¬ pos o.reverse (k : Int) < pos o.reverse ((k + 1 : Nat) : Int) by omega)]
  cases (k % 2 == 0) <;> rfl
 ·rw [decide_eq_false hlt, decide_eq_true (show pos o.reverse (k : Int) < pos o.reverse ((k + 1 : Nat) : Int) by omega)]
  cases (k % 2 == 0) <;> rfl
end Go.Proofs.Ytiknnpfdpecfdaa.Own
namespace Go.Proofs.Ytiknnpfdpecfdaa.Own
open Go Go.RowKit Go.Proofs Go.Proofs.Ytiknnpfdpecfdaa.Hx Go.Proofs.Ytiknnpfdpecfdaa.Ox Go.Proofs.Ytiknnpfdpecfdaa.Gx Go.Proofs.YtiknnpfdpecfdaaW.PrintWords Go.Proofs.YtiknnpfdpecfdaaW.PrintLast Go.Proofs.YtiknnpfdpecfdaaW.PrintMore
set_option linter.unusedVariables false
set_option linter.unusedSimpArgs false
/-- The other end's numbers. -/
def mir (n : Nat) (o : List Int) : List Int := o.map fun s => (n : Int) - 1 - s
section
variable {l o : List Int}
theorem mir_mir (n : Nat) (o : List Int) : mir n (mir n o) = o := by
 unfold mir
 rw [List.map_map]
 have : ((fun s : Int => (n : Int) - 1 - s) ∘ fun s => (n : Int) - 1 - s) = id := by funext s; show (n : Int) - 1 - ((n : Int) - 1 - s) = s; omega
 rw [this, List.map_id]
theorem mir_isP {n : Nat} (hp : IsP n o) : IsP n (mir n o) := by
 refine ⟨?_, by unfold mir; rw [List.length_map]; exact hp.len, fun s => ?_⟩
 ·unfold mir
  rw [List.nodup_iff_pairwise_ne]
  exact List.Pairwise.map _ (fun a b h e => h (by omega)) (List.nodup_iff_pairwise_ne.1 hp.nd)
 ·unfold mir
  rw [List.mem_map]
  constructor
  ·rintro ⟨a, ha, rfl⟩
   have := (hp.mem a).1 ha
   omega
  ·intro h
   exact ⟨(n : Int) - 1 - s, (hp.mem _).2 (by omega), by omega⟩
theorem mir_pos {n : Nat} (hp : IsP n o) {s t : Nat} (hs : s + t + 1 = n) : pos (mir n o) (s : Int) = pos o (t : Int) := by
 have hl := pos_lt hp (s := (t : Int)) (by omega) (by omega)
 have hg : (mir n o).getD (pos o (t : Int)) 0 = (s : Int) := by
  have hlt : pos o (t : Int) < o.length := by rw [hp.len]; exact hl
  have h1 := get_pos hp (s := (t : Int)) (by omega) (by omega)
  rw [List.getD_eq_getElem?_getD, List.getElem?_eq_getElem hlt, Option.getD_some] at h1
  unfold mir
  rw [List.getD_eq_getElem?_getD, List.getElem?_map, List.getElem?_eq_getElem hlt, Option.map_some, Option.getD_some, h1]
  omega
 have := pos_get (mir_isP hp) hl
 rw [hg] at this
 exact this
theorem back_pp (l : List Int) : ∀ k, k ≤ l.length → (l.length % 2 = 1 → PP l.reverse k = PP l l.length - PP l (l.length - k)) ∧ (l.length % 2 = 0 → PP l.reverse k = PP l (l.length - k) - PP l l.length)
 | 0, _ => ⟨fun _ => by simp [PP], fun _ => by simp [PP]⟩
 | k + 1, hk => by
  have ih := back_pp l k (by omega)
  obtain ⟨u, hu⟩ : ∃ u, l.length = u + k + 1 := ⟨l.length - k - 1, by omega⟩
  have hg : l.reverse.getD k 0 = l.getD u 0 := by
   rw [List.getD_eq_getElem?_getD, List.getD_eq_getElem?_getD, List.getElem?_reverse (by omega), show l.length - 1 - k = u by omega]
  have e1 : l.length - k = u + 1 := by omega
  have e2 : l.length - (k + 1) = u := by omega
  rw [e1] at ih
  rw [e2, PP, hg]
  have hp : PP l (u + 1) = if u % 2 = 1 then PP l u - l.getD u 0 else PP l u + l.getD u 0 := by rw [PP]
  constructor
  ·intro ho
   have h1 := ih.1 ho
   rw [hp] at h1
   by_cases e : k % 2 = 1
   ·rw [if_pos e]; rw [if_pos (by omega)] at h1; omega
   ·rw [if_neg e]; rw [if_neg (by omega)] at h1; omega
  ·intro ho
   have h1 := ih.2 ho
   rw [hp] at h1
   by_cases e : k % 2 = 1
   ·rw [if_pos e]; rw [if_neg (by omega)] at h1; omega
   ·rw [if_neg e]; rw [if_pos (by omega)] at h1; omega
theorem back_glob (hp : IsP l.length o) (hg : Glob l o) : Glob l.reverse (mir l.length o) := by
 have hpp : ∀ a b, a + b = l.length → (l.length % 2 = 1 → PP l.reverse a = PP l l.length - PP l b) ∧ (l.length % 2 = 0 → PP l.reverse a = PP l b - PP l l.length) := by
  intro a b hab
  have := back_pp l a (by omega)
  rwa [show l.length - a = b by omega] at this
 have hlh : ∀ k' k, k' + k + 2 = l.length → lo (mir l.length o) k' = lo o k ∧ hi (mir l.length o) k' = hi o k := by
  intro k' k hk
  unfold lo hi
  rw [mir_pos hp (s := k') (t := k + 1) (by omega), mir_pos hp (s := k' + 1) (t := k) (by omega)]
  omega
 constructor
 ·intro k' s' hk' hs' ⟨h1, h2, h3⟩
  rw [List.length_reverse] at hk' hs'
  obtain ⟨k, hk⟩ : ∃ k, k' + k + 2 = l.length := ⟨l.length - 2 - k', by omega⟩
  obtain ⟨s, hs⟩ : ∃ s, s' + s + 1 = l.length := ⟨l.length - 1 - s', by omega⟩
  rw [(hlh k' k hk).1, mir_pos hp hs] at h2
  rw [(hlh k' k hk).2, mir_pos hp hs] at h3
  refine hg.1 k s (by omega) (by omega) ⟨?_, h2, h3⟩
  unfold insideS at h1 ⊢
  have a1 := hpp s' (s + 1) (by omega)
  have a2 := hpp (s' + 1) s (by omega)
  have a3 := hpp (k' + 1) (k + 1) (by omega)
  rcases Nat.mod_two_eq_zero_or_one l.length with e | e
  ·rw [a1.2 e, a2.2 e, a3.2 e] at h1
   omega
  ·rw [a1.1 e, a2.1 e, a3.1 e] at h1
   omega
 ·intro k' j' hk' hj' hne hc ⟨h1, h2, h3⟩
  rw [List.length_reverse] at hk' hj'
  obtain ⟨k, hk⟩ : ∃ k, k' + k + 2 = l.length := ⟨l.length - 2 - k', by omega⟩
  obtain ⟨j, hj⟩ : ∃ j, j' + j + 2 = l.length := ⟨l.length - 2 - j', by omega⟩
  rw [(hlh k' k hk).1, (hlh j' j hj).1] at h1
  rw [(hlh k' k hk).2, (hlh j' j hj).1] at h2
  rw [(hlh k' k hk).2, (hlh j' j hj).2] at h3
  refine hg.2 k j (by omega) (by omega) (by omega) ⟨?_, ?_⟩ ⟨h1, h2, h3⟩
  ·have a1 := hpp (j' + 1) (j + 1) (by omega)
   have a3 := hpp (k' + 1) (k + 1) (by omega)
   have h4 := hc.1
   rcases Nat.mod_two_eq_zero_or_one l.length with e | e
   ·rw [a1.2 e, a3.2 e] at h4
    omega
   ·rw [a1.1 e, a3.1 e] at h4
    omega
  ·have h4 := hc.2
   omega
theorem back_ok (h : OkL l) : OkL l.reverse := ⟨by rw [List.length_reverse]; exact h.len, fun x hx => h.rng x (List.mem_reverse.1 hx)⟩
theorem back_folds (h : OkL l) (hp : IsP l.length o) (hf : foldsO l o = true) : foldsO l.reverse (mir l.length o) = true :=
  (folds_glob (back_ok h) (by rw [List.length_reverse]; exact mir_isP hp)).2 (back_glob hp ((folds_glob h hp).1 hf))
theorem count_le (a b : List (List Int)) (f : List Int → List Int) (ha : a.Nodup) (hf : ∀ x y, f x = f y → x = y) (hab : ∀ x ∈ a, f x ∈ b) : a.length ≤ b.length := by
 induction a generalizing b with
 | nil => exact Nat.zero_le _
 | cons x a ih =>
  have hx := hab x List.mem_cons_self
  have := ih (b.erase (f x)) (List.nodup_cons.1 ha).2 (fun y hy => (List.mem_erase_of_ne (fun e => (List.nodup_cons.1 ha).1 (by rw [← hf _ _ e]; exact hy))).2 (hab y (List.mem_cons_of_mem _ hy)))
  rw [List.length_erase_of_mem hx] at this
  have := List.length_pos_of_mem hx
  simp only [List.length_cons]
  omega
theorem back_le (h : OkL l) : (allO l ⟨#[]⟩).length ≤ (allO l.reverse ⟨#[]⟩).length := by
 refine count_le _ _ (mir l.length) (allO_nodup l) (fun x y e => by rw [← mir_mir l.length x, e, mir_mir]) (fun x hx => ?_)
 have hp := allO_isP hx
 exact (mem_allO (by rw [List.length_reverse]; exact mir_isP hp)).2 (back_folds h hp ((mem_allO hp).1 hx))
theorem back_count (h : OkL l) : (allO l.reverse ⟨#[]⟩).length = (allO l ⟨#[]⟩).length := by
 have h1 := back_le h
 have h2 := back_le (back_ok h)
 rw [List.reverse_reverse] at h2
 omega
theorem lett_back (h : OkL l) (hp : IsP l.length o) : lettC (layR l.reverse l.reverse.length).cr (mir l.length o) = if l.length % 2 = 0 then (lettC (layR l l.length).cr o).reverse.map exN else (lettC (layR l l.length).cr o).reverse := by
 have hpm : IsP l.reverse.length (mir l.length o) := by rw [List.length_reverse]; exact mir_isP hp
 rw [lett_strip (back_ok h) hpm, lett_strip h hp, List.length_reverse]
 apply List.ext_getElem
 ·split <;> simp
 ·intro k' h1 h2
  simp only [List.length_map, List.length_range] at h1
  obtain ⟨k, hk⟩ : ∃ k, k' + k + 2 = l.length := ⟨l.length - 2 - k', by omega⟩
  have e1 := mir_pos hp (s := k') (t := k + 1) (by omega)
  have e2 := mir_pos hp (s := k' + 1) (t := k) (by omega)
  have hne : pos o (k : Int) ≠ pos o ((k + 1 : Nat) : Int) := fun e => by
   have := pos_inj hp (s := (k : Int)) (t := ((k + 1 : Nat) : Int)) (by omega) (by omega) (by omega) (by omega) e
   omega
  have hrev : ∀ (f : Nat → Int) (hh : k' < ((List.range (l.length - 1)).map f).reverse.length), ((List.range (l.length - 1)).map f).reverse[k'] = f k := by
   intro f hh
   rw [List.getElem_reverse]
   simp only [List.getElem_map, List.getElem_range, List.length_map, List.length_range]
   congr 1
   omega
  rw [List.getElem_map, List.getElem_range, e1, e2]
  by_cases hev : l.length % 2 = 0
  ·simp only [if_pos hev]
   rw [List.getElem_map, hrev]
   have hpar : (k' % 2 == 0) = (k % 2 == 0) := by apply Bool.eq_iff_iff.2; rw [beq_iff_eq, beq_iff_eq]; omega
   rw [hpar]
   by_cases hlt : pos o (k : Int) < pos o ((k + 1 : Nat) : Int)
   ·rw [decide_eq_true hlt, decide_eq_false (show ¬ pos o ((k + 1 : Nat) : Int) < pos o (k : Int) by omega)]
    cases (k % 2 == 0) <;> rfl
   ·rw [decide_eq_false hlt, decide_eq_true (show pos o ((k + 1 : Nat) : Int) < pos o (k : Int) by omega)]
    cases (k % 2 == 0) <;> rfl
  ·simp only [if_neg hev]
   rw [hrev]
   have hpar : (k' % 2 == 0) = !(k % 2 == 0) := by
    by_cases e : k % 2 = 0
    ·rw [show (k % 2 == 0) = true by rw [beq_iff_eq]; exact e, show (k' % 2 == 0) = false by rw [beq_eq_false_iff_ne]; omega]; rfl
    ·rw [show (k % 2 == 0) = false by rw [beq_eq_false_iff_ne]; exact e, show (k' % 2 == 0) = true by rw [beq_iff_eq]; omega]; rfl
   rw [hpar]
   by_cases hlt : pos o (k : Int) < pos o ((k + 1 : Nat) : Int)
   ·rw [decide_eq_true hlt, decide_eq_false (show ¬ pos o ((k + 1 : Nat) : Int) < pos o (k : Int) by omega)]
    cases (k % 2 == 0) <;> rfl
   ·rw [decide_eq_false hlt, decide_eq_true (show pos o ((k + 1 : Nat) : Int) < pos o (k : Int) by omega)]
    cases (k % 2 == 0) <;> rfl
end
theorem str_cut (ys xs : List Int) {i : Nat} (hi : i < xs.length) : strOfNums ys ++ (strOfNums xs).extract i (i + 1) = strOfNums (ys ++ [xs[i]]) := by
 apply ByteArray.ext
 rw [ByteArray.data_append, ByteArray.data_extract]
 apply Array.ext'
 simp only [strOfNums, Array.toList_append, Array.toList_extract]
 simp
 rw [List.drop_eq_getElem_cons (by rw [List.length_map]; exact hi)]
 simp
theorem turned_l1 (l : List Int) (xs b : List Int) (hl : l.length < 1000) (hx : xs.length < 1000) : ∀ (i : Nat), i ≤ xs.length → Ev (fun k => gamplaw01_backwards.l1 k l (strOfNums xs) b (strOfNums ((xs.drop i).reverse)) ((i : Int) - 1)) (l.reverse, b, strOfNums xs.reverse)
 | 0, _ => by
  refine Ev.step (f := fun k => (gamplaw01_reversed.f k l).bind fun t => some (t, b, strOfNums xs.reverse)) (fun k => ?_) (Ev.bind (reversed_ev l (by omega)) (Ev.now _))
  simp only [gamplaw01_backwards.l1]
  rw [if_neg (by omega), List.drop_zero]
 | i + 1, hi => by
  have hio : i < xs.length := by omega
  have e1 : (((i + 1 : Nat) : Int) - 1) = (i : Int) := by omega
  have e2 : wrap64 ((i : Int) - 1) = (i : Int) - 1 := by unfold wrap64; omega
  have e3 : wrap64 ((i : Int) + 1) = ((i + 1 : Nat) : Int) := wup i (by omega)
  have hsz : (strOfNums ((xs.drop (i + 1)).reverse)).size + ((strOfNums xs).extract i (i + 1)).size ≤ 9223372036854775807 := by
   rw [str_size, ByteArray.size_extract, str_size, List.length_reverse, List.length_drop]
   omega
  refine Ev.step (fun k => ?_) (turned_l1 l xs b hl hx i (by omega))
  simp only [gamplaw01_backwards.l1]
  rw [e1, e3, if_pos (show (i : Int) ≥ 0 by omega), if_pos (show 0 ≤ (i : Int) by omega), if_pos (by omega), str_size, if_pos (by omega), Int.toNat_natCast, Int.toNat_natCast, if_pos hsz, e2, str_cut _ _ hio]
  congr 2
  rw [List.drop_eq_getElem_cons hio, List.reverse_cons]
theorem turned_l0' (l o xs : List Int) (hl : l.length < 1000) (hx : xs.length < 1000) (ho : ∀ s ∈ o, 0 ≤ s ∧ s < l.length) (hol : o.length < 1000) : ∀ (d i : Nat), i + d = o.length → Ev (fun k => gamplaw01_backwards.l0 k l o (strOfNums xs) (mir l.length (o.take i)) ⟨#[]⟩ (i : Int)) (l.reverse, mir l.length o, strOfNums xs.reverse) := by
 intro d
 have hw : wrap64 ((l.length : Int) - 1) = (l.length : Int) - 1 := by unfold wrap64; omega
 induction d with
 | zero =>
  intro i hi
  have hw2 : wrap64 ((xs.length : Int) - 1) = (xs.length : Int) - 1 := by unfold wrap64; omega
  have h1 := turned_l1 l xs (mir l.length o) hl hx xs.length (Nat.le_refl _)
  rw [List.drop_length] at h1
  refine Ev.step (fun k => ?_) h1
  simp only [gamplaw01_backwards.l0]
  rw [if_neg (by omega), List.take_of_length_le (by omega), str_size, hw2]
  rfl
 | succ d ih =>
  intro i hi
  have hio : i < o.length := by omega
  have hs := ho _ (List.getElem_mem hio)
  have hw3 : wrap64 ((l.length : Int) - 1 - o[i]) = (l.length : Int) - 1 - o[i] := by unfold wrap64; omega
  refine Ev.step (fun k => ?_) (ih (i + 1) (by omega))
  simp only [gamplaw01_backwards.l0]
  rw [if_pos (by omega), if_pos (by omega), if_pos (by unfold mir; rw [List.length_map, List.length_take]; omega), hw, rd_nat o hio, hw3, wup i (by omega), List.take_succ_eq_append_getElem hio]
  unfold mir
  rw [List.map_append]
  rfl
theorem backwards_ev (l o xs : List Int) (hl : l.length < 1000) (hx : xs.length < 1000) (ho : ∀ s ∈ o, 0 ≤ s ∧ s < l.length) (hol : o.length < 1000) : Ev (fun k => gamplaw01_backwards.f k l o (strOfNums xs)) (l.reverse, mir l.length o, strOfNums xs.reverse) := by
  have := turned_l0' l o xs hl hx ho hol o.length 0 (by omega)
  exact this
end Go.Proofs.Ytiknnpfdpecfdaa.Own
