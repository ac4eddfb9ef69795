/- The declarations of Z5 that the claim Qc needs. -/
import Derived.Test.YtiknnpfdpecfdaaQcZ1
import Derived.Test.YtiknnpfdpecfdaaQcOxx1
import Derived.Test.YtiknnpfdpecfdaaQcHxx1
import Derived.Test.YtiknnpfdpecfdaaQcZ4
import Derived.Lib.Bytes
import Derived.Test.YtiknnpfdpecfdaaQcOxx2
import Derived.Test.YtiknnpfdpecfdaaQcTkP
import Derived.Test.YtiknnpfdpecfdaaQcOxx0
namespace Go.Proofs.Ytiknnpfdpecfdaa.Own
open Go Go.RowKit Go.Proofs Go.Proofs.Ytiknnpfdpecfdaa.Hx Go.Proofs.Ytiknnpfdpecfdaa.Ox Go.Proofs.Ytiknnpfdpecfdaa.Gx Go.Proofs.YtiknnpfdpecfdaaW.PrintWords Go.Proofs.YtiknnpfdpecfdaaW.PrintLast Go.Proofs.YtiknnpfdpecfdaaW.PrintMore
set_option linter.unusedVariables false
set_option linter.unusedSimpArgs false
theorem str_push (xs : List Int) (v : Int) (b : UInt8) (hb : UInt8.ofNat v.toNat = b) : strOfNums xs ++ (⟨#[b]⟩ : ByteArray) = strOfNums (xs ++ [v]) := by
 subst hb
 apply ByteArray.ext
 simp [strOfNums]
theorem str_size (xs : List Int) : (strOfNums xs).size = xs.length := by
  show (strOfNums xs).data.size = _
  simp [strOfNums]
/-- The letter of crease k. -/
def lettAt (cr : List Own.S96) (o : List Int) (k : Nat) : Int := if ((Int.tmod (Own.rd_T96 cr k).f0 2 == 0) == decide (pos o (Own.rd_T96 cr k).f0 < pos o (Own.rd_T96 cr k).f1)) = true then 86 else 77
def lettC (cr : List Own.S96) (o : List Int) : List Int := (List.range cr.length).map (lettAt cr o)
section
variable {n : Nat} {cr : List Own.S96} {o : List Int}
theorem letter_f (hg : Geo n cr) (hp : IsP n o) {k : Nat} (hk : k < cr.length) : fold_crease_letter.f (Own.rd_T96 cr (k : Int)).f0 (Own.rd_T96 cr (k : Int)).f1 (Own.rd_T96 cr (k : Int)).f2 (Own.rd_T96 cr (k : Int)).f3 (layL n o) = some (lettAt cr o k) := by
 have h0 := hg.i0 k hk
 have h1 := hg.i1 k hk
 have hl : (layL n o).length = n := by simp [layL]
 have hd : decide ((pos o (Own.rd_T96 cr (k : Int)).f0 : Int) < (pos o (Own.rd_T96 cr (k : Int)).f1 : Int)) = decide (pos o (Own.rd_T96 cr (k : Int)).f0 < pos o (Own.rd_T96 cr (k : Int)).f1) := decide_eq_decide.2 (by omega)
 unfold fold_crease_letter.f
 rw [under_f, Option.bind_some, hl, if_pos h0.1, if_pos h0.2, if_pos h1.1, if_pos h1.2, layL_at h0.1 h0.2, layL_at h1.1 h1.2, hd]
 have hu : underB (Own.rd_T96 cr (k : Int)) 86 = (Int.tmod (Own.rd_T96 cr (k : Int)).f0 2 == 0) := by
  unfold underB
  rw [show ((86 : Int) == 86) = true from rfl]
  cases (Int.tmod (Own.rd_T96 cr (k : Int)).f0 2 == 0) <;> rfl
 rw [hu]
 unfold lettAt
 split <;> rfl
theorem cl_l1 (hg : Geo n cr) (hp : IsP n o) (hc : cr.length < 1000) : ∀ (d i : Nat), i + d = cr.length → Ev (fun k => fold_cloth_letters.l1 k (layL n o) ((List.range i).map (lettAt cr o)) cr (cr.length : Int) (i : Int)) (strOfNums (lettC cr o)) := by
 intro d
 induction d with
 | zero =>
  intro i hi
  obtain rfl : i = cr.length := by omega
  refine Ev.step (f := fun _ => some _) (fun k => ?_) (Ev.now _)
  simp only [fold_cloth_letters.l1]
  rw [if_neg (by omega)]
  rfl
 | succ d ih =>
  intro i hi
  have hic : i < cr.length := by omega
  refine Ev.step (fun k => ?_) (ih (i + 1) (by omega))
  simp only [fold_cloth_letters.l1]
  rw [if_pos (by omega), if_pos (by omega), if_pos (by omega), letter_f hg hp hic, Option.bind_some, if_pos (by rw [List.length_map, List.length_range]; omega), wup i (by omega), List.range_succ, show (List.range i ++ [i]).map (lettAt cr o) = (List.range i).map (lettAt cr o) ++ [lettAt cr o i] from by simp]
theorem cl_l0 (hg : Geo n cr) (hp : IsP n o) (hn : n ≤ 12) (hc : cr.length < 1000) (low high : List Int) (rdd : Bool) : ∀ (d i : Nat), i + d = n → Ev (fun k => fold_cloth_letters.l0 k ((List.range n).map fun (s : Nat) => if pos o (s : Int) < i then (pos o (s : Int) : Int) else 0) o (o.length : Int) (i : Int) low high cr rdd) (strOfNums (lettC cr o)) := by
 intro d
 induction d with
 | zero =>
  intro i hi
  obtain rfl : i = n := by omega
  have e : ((List.range i).map fun (s : Nat) => if pos o (s : Int) < i then (pos o (s : Int) : Int) else 0) = layL i o := by
   apply List.map_congr_left
   intro s hs
   rw [if_pos (pos_lt hp (by omega) (by have := List.mem_range.1 hs; omega))]
  rw [e]
  refine Ev.step (fun k => ?_) (cl_l1 hg hp hc cr.length 0 (by omega))
  simp only [fold_cloth_letters.l0]
  rw [hp.len, if_neg (by omega)]
  rfl
 | succ d ih =>
  intro i hi
  have hin : i < n := by omega
  have hio : i < o.length := by rw [hp.len]; exact hin
  have hmem := (hp.mem o[i]).1 (List.getElem_mem hio)
  obtain ⟨s, hs⟩ : ∃ s : Nat, o[i] = (s : Int) := ⟨o[i].toNat, by omega⟩
  have hsn : s < n := by omega
  have hps : pos o (s : Int) = i := by
   have := pos_get hp hin
   rw [List.getD_eq_getElem?_getD, List.getElem?_eq_getElem hio, Option.getD_some, hs] at this
   exact this
  refine Ev.step (fun k => ?_) (ih (i + 1) (by omega))
  simp only [fold_cloth_letters.l0]
  rw [hp.len, rd_nat o hio, hs, if_pos (by omega), if_pos (by omega), if_pos (by omega), if_pos (by omega), if_pos (by simp; omega), wup i (by omega), Int.toNat_natCast]
  congr 1
  apply List.ext_getElem (by simp)
  intro t h1 h2
  simp only [List.length_map, List.length_range] at h2
  simp only [List.getElem_set, List.getElem_map, List.getElem_range]
  by_cases e : s = t
  ·subst e
   rw [if_pos rfl, if_pos (by omega), hps]
  ·rw [if_neg e]
   have hne : pos o (t : Int) ≠ i := fun e2 => e (by have := pos_inj hp (s := (s : Int)) (t := (t : Int)) (by omega) (by omega) (by omega) (by omega) (by omega); omega)
   by_cases h3 : pos o (t : Int) < i
   ·rw [if_pos h3, if_pos (by omega)]
   ·rw [if_neg h3, if_neg (by omega)]
theorem letters_ev (hg : Geo n cr) (hp : IsP n o) (hn : n ≤ 12) (hc : cr.length < 1000) (low high : List Int) (rdd : Bool) : Ev (fun k => fold_cloth_letters.f k low high cr rdd o) (strOfNums (lettC cr o)) := by
 have h := cl_l0 hg hp hn hc low high rdd n 0 (by omega)
 unfold fold_cloth_letters.f
 refine Ev.congr (fun k => ?_) h
 rw [if_pos (by omega), hp.len, if_pos (by omega)]
 congr 1
 apply List.ext_getElem (by simp)
 intro t h1 h2
 simp
theorem ref_l0 (hg : Geo n cr) (hp : IsP n o) (hc : cr.length < 1000) {l low high : List Int} {c : List Gx.S88} (ha : Alike n l low high cr c) : ∀ (d i : Nat), i + d = cr.length → Ev (fun k => gampref01_Letters.l0 k (layL n o) c (strOfNums ((List.range i).map (lettAt cr o))) (i : Int)) (strOfNums (lettC cr o)) := by
 intro d
 have hl : (layL n o).length = n := by simp [layL]
 induction d with
 | zero =>
  intro i hi
  obtain rfl : i = cr.length := by omega
  refine Ev.step (f := fun _ => some _) (fun k => ?_) (Ev.now _)
  simp only [gampref01_Letters.l0]
  rw [ha.len, if_neg (by omega)]
  rfl
 | succ d ih =>
  intro i hi
  have hic : i < cr.length := by omega
  have h0 := hg.i0 i hic
  have h1 := hg.i1 i hic
  have e0 : (Gx.rd_T88 c (i : Int)).f1 = (Own.rd_T96 cr (i : Int)).f0 := ha.f0 i hic
  have e1 : (Gx.rd_T88 c (i : Int)).f2 = (Own.rd_T96 cr (i : Int)).f1 := ha.f1 i hic
  have hd : decide ((pos o (Own.rd_T96 cr (i : Int)).f1 : Int) > (pos o (Own.rd_T96 cr (i : Int)).f0 : Int)) = decide (pos o (Own.rd_T96 cr (i : Int)).f0 < pos o (Own.rd_T96 cr (i : Int)).f1) := decide_eq_decide.2 (by omega)
  have hsz : (strOfNums ((List.range i).map (lettAt cr o))).size + 1 ≤ 9223372036854775807 := by rw [str_size, List.length_map, List.length_range]; omega
  refine Ev.step (fun k => ?_) (ih (i + 1) (by omega))
  simp only [gampref01_Letters.l0]
  rw [ha.len, if_pos (by omega), if_pos (by omega), e0, e1, hl, if_pos h1.1, if_pos h1.2, if_pos h0.1, if_pos h0.2, layL_at h0.1 h0.2, layL_at h1.1 h1.2, hd, if_pos hsz, if_pos hsz, wup i (by omega), List.range_succ, show (List.range i ++ [i]).map (lettAt cr o) = (List.range i).map (lettAt cr o) ++ [lettAt cr o i] from by simp]
  by_cases hb : ((Int.tmod (Own.rd_T96 cr (i : Int)).f0 2 == 0) == decide (pos o (Own.rd_T96 cr (i : Int)).f0 < pos o (Own.rd_T96 cr (i : Int)).f1)) = true
  ·rw [if_pos hb, show lettAt cr o i = 86 from by unfold lettAt; rw [if_pos hb], str_push _ 86 86 rfl]
  ·rw [if_neg hb, show lettAt cr o i = 77 from by unfold lettAt; rw [if_neg hb], str_push _ 77 77 rfl]
end
theorem ref_letters {l o : List Int} (h : OkL l) (h1 : 1 ≤ l.length) (hp : IsP l.length o) : Ev (fun k => gampref01_Letters.f k l o false) (strOfNums (lettC (layR l l.length).cr o)) := by
 have hc := layR_cr l l.length
 have hlen := h.len
 unfold gampref01_Letters.f
 refine Ev.bind (layers_ev hp h.len) (Ev.bind (creases_strip h h1) ?_)
 have := ref_l0 (lay_geo h) hp (by rw [hc]; omega) (strip_alike h) (layR l l.length).cr.length 0 (by omega)
 exact this
section
open Classical
theorem perm_l1 (o : List Int) (n : Nat) (ho : o.length < 2 ^ 40) (i : Nat) (hi : i < o.length) (r : Bool) (hr : Ev (fun k => gampref01_Permutation.l0 k o (n : Int) ((i + 1 : Nat) : Int)) r) : ∀ (d j : Nat), j + d = i → Ev (fun k => gampref01_Permutation.l1 k o (n : Int) (i : Int) (j : Int)) (decide (∀ x, j ≤ x → x < i → o.getD x 0 ≠ o.getD i 0) && r) := by
  intro d
  induction d with
  | zero =>
    intro j hj
    rw [decide_eq_true (fun x h1 h2 => by omega), Bool.true_and]
    refine Ev.step (fun k => ?_) hr
    simp only [gampref01_Permutation.l1]
    rw [if_neg (by omega), wup i (by omega)]
  | succ d ih =>
    intro j hj
    have hjo : j < o.length := by omega
    have e1 : rd o (j : Int) = o.getD j 0 := by simp [rd]
    have e2 : rd o (i : Int) = o.getD i 0 := by simp [rd]
    have e : ∀ k, gampref01_Permutation.l1 (k + 1) o (n : Int) (i : Int) (j : Int) = if o.getD j 0 = o.getD i 0 then some false else gampref01_Permutation.l1 k o (n : Int) (i : Int) ((j + 1 : Nat) : Int) := by
      intro k
      simp only [gampref01_Permutation.l1]
      rw [if_pos (by omega), if_pos (by omega), if_pos (by omega), if_pos (by omega), if_pos (by omega), e1, e2, wup j (by omega)]
    by_cases h : o.getD j 0 = o.getD i 0
    · rw [decide_eq_false (fun hh => hh j (Nat.le_refl _) (by omega) h), Bool.false_and]
      exact Ev.step (f := fun _ => some false) (fun k => by rw [e, if_pos h]) (Ev.now _)
    · rw [show decide (∀ x, j ≤ x → x < i → o.getD x 0 ≠ o.getD i 0) = decide (∀ x, j + 1 ≤ x → x < i → o.getD x 0 ≠ o.getD i 0) from decide_eq_decide.2 ⟨fun hh x h1 h2 => hh x (by omega) h2, fun hh x h1 h2 => by
        by_cases e2 : x = j
        · exact e2 ▸ h
        · exact hh x (by omega) h2⟩]
      exact Ev.step (fun k => by rw [e, if_neg h]) (ih (j + 1) (by omega))
theorem perm_r0 (o : List Int) (n : Nat) (ho : o.length < 2 ^ 40) (hn : n < 1000) : ∀ (d i : Nat), i + d = o.length → Ev (fun k => gampref01_Permutation.l0 k o (n : Int) (i : Int)) (decide ((∀ x, i ≤ x → x < o.length → (0 ≤ o.getD x 0 ∧ o.getD x 0 < n) ∧ ∀ y, y < x → o.getD y 0 ≠ o.getD x 0) ∧ o.length = n)) := by
  intro d
  induction d with
  | zero =>
    intro i hi
    refine Ev.step (f := fun _ => some ((o.length : Int) == (n : Int))) (fun k => ?_) ?_
    · simp only [gampref01_Permutation.l0]
      rw [if_neg (by omega)]
    · have : ((o.length : Int) == (n : Int)) = decide ((∀ x, i ≤ x → x < o.length → (0 ≤ o.getD x 0 ∧ o.getD x 0 < n) ∧ ∀ y, y < x → o.getD y 0 ≠ o.getD x 0) ∧ o.length = n) := by
        apply Bool.eq_iff_iff.2
        rw [beq_iff_eq, decide_eq_true_eq]
        exact ⟨fun h => ⟨fun x h1 h2 => by omega, by omega⟩, fun h => by omega⟩
      rw [this]
      exact Ev.now _
  | succ d ih =>
    intro i hi
    have hio : i < o.length := by omega
    have e2 : rd o (i : Int) = o.getD i 0 := by simp [rd]
    have hw : wrap64 ((n : Int) - 1) = (n : Int) - 1 := by unfold wrap64; omega
    have h1 := perm_l1 o n ho i hio _ (ih (i + 1) (by omega)) i 0 (by omega)
    have e : ∀ k, gampref01_Permutation.l0 (k + 1) o (n : Int) (i : Int) = if (0 ≤ o.getD i 0 ∧ o.getD i 0 ≤ (n : Int) - 1) then gampref01_Permutation.l1 k o (n : Int) (i : Int) ((0 : Nat) : Int) else some false := by
      intro k
      simp only [gampref01_Permutation.l0]
      rw [if_pos (by omega), if_pos (by omega), hw, in_f, Option.bind_some, e2]
      by_cases h : 0 ≤ o.getD i 0 ∧ o.getD i 0 ≤ (n : Int) - 1
      · rw [if_pos h, if_pos (decide_eq_true h)]; rfl
      · rw [if_neg h, if_neg (by rw [decide_eq_false h]; simp)]
    by_cases h : 0 ≤ o.getD i 0 ∧ o.getD i 0 ≤ (n : Int) - 1
    · have hres : (decide (∀ x, 0 ≤ x → x < i → o.getD x 0 ≠ o.getD i 0) && decide ((∀ x, i + 1 ≤ x → x < o.length → (0 ≤ o.getD x 0 ∧ o.getD x 0 < n) ∧ ∀ y, y < x → o.getD y 0 ≠ o.getD x 0) ∧ o.length = n)) = decide ((∀ x, i ≤ x → x < o.length → (0 ≤ o.getD x 0 ∧ o.getD x 0 < n) ∧ ∀ y, y < x → o.getD y 0 ≠ o.getD x 0) ∧ o.length = n) := by
        rw [← Bool.decide_and]
        apply decide_eq_decide.2
        constructor
        · rintro ⟨a1, a2, a3⟩
          refine ⟨fun x hx hxl => ?_, a3⟩
          by_cases e3 : x = i
          · subst e3; exact ⟨⟨h.1, by omega⟩, fun y hy => a1 y (Nat.zero_le _) hy⟩
          · exact a2 x (by omega) hxl
        · rintro ⟨a1, a3⟩
          exact ⟨fun x _ hx => (a1 i (Nat.le_refl _) hio).2 x hx, fun x hx hxl => a1 x (by omega) hxl, a3⟩
      rw [hres] at h1
      exact Ev.step (fun k => by rw [e, if_pos h]) h1
    · rw [decide_eq_false (fun hh => h (by have := (hh.1 i (Nat.le_refl _) hio).1; omega))]
      exact Ev.step (f := fun _ => some false) (fun k => by rw [e, if_neg h]) (Ev.now _)
theorem permutation_ev (o : List Int) (n : Nat) (ho : o.length < 2 ^ 40) (hn : n < 1000) : Ev (fun k => gampref01_Permutation.f k o (n : Int)) (permB o n) := by
 have h := perm_r0 o n ho hn o.length 0 (by omega)
 have e : decide ((∀ x, 0 ≤ x → x < o.length → (0 ≤ o.getD x 0 ∧ o.getD x 0 < n) ∧ ∀ y, y < x → o.getD y 0 ≠ o.getD x 0) ∧ o.length = n) = permB o n := by
  unfold permB
  apply decide_eq_decide.2
  have hg : ∀ x (hx : x < o.length), o.getD x 0 = o[x] := fun x hx => by rw [List.getD_eq_getElem?_getD, List.getElem?_eq_getElem hx, Option.getD_some]
  constructor
  ·rintro ⟨a1, a2⟩
   refine ⟨?_, fun s hs => ?_, a2⟩
   ·rw [List.nodup_iff_pairwise_ne, List.pairwise_iff_getElem]
    intro i j hi hj hij
    have := (a1 j (Nat.zero_le _) hj).2 i hij
    rwa [hg i hi, hg j hj] at this
   ·obtain ⟨i, hi, rfl⟩ := List.getElem_of_mem hs
    have := (a1 i (Nat.zero_le _) hi).1
    rwa [hg i hi] at this
  ·rintro ⟨a1, a2, a3⟩
   refine ⟨fun x _ hx => ?_, a3⟩
   rw [hg x hx]
   refine ⟨a2 _ (List.getElem_mem hx), fun y hy => ?_⟩
   rw [hg y (by omega)]
   rw [List.nodup_iff_pairwise_ne, List.pairwise_iff_getElem] at a1
   exact a1 y x (by omega) hx hy
 rw [e] at h
 exact h
end
theorem isP_perm {o : List Int} {n : Nat} : permB o n = true → IsP n o := by
 intro h
 unfold permB at h
 obtain ⟨h1, h2, h3⟩ := of_decide_eq_true h
 refine ⟨h1, h3, fun s => ⟨h2 s, fun hs => ?_⟩⟩
 apply Decidable.byContradiction
 intro hn
 have hk : ∀ (a b : List Int), a.Nodup → (∀ x ∈ a, x ∈ b) → a.length ≤ b.length := by
  intro a
  induction a with
  | nil => intro b _ _; exact Nat.zero_le _
  | cons x a ih =>
   intro b hnd hab
   have hx := hab x List.mem_cons_self
   have := ih (b.erase x) (List.nodup_cons.1 hnd).2 (fun y hy => (List.mem_erase_of_ne (by rintro rfl; exact (List.nodup_cons.1 hnd).1 hy)).2 (hab y (List.mem_cons_of_mem _ hy)))
   rw [List.length_erase_of_mem hx] at this
   have := List.length_pos_of_mem hx
   simp only [List.length_cons]
   omega
 have hl := hk (s :: o) ((List.range n).map fun (i : Nat) => (i : Int)) (List.nodup_cons.2 ⟨hn, h1⟩) (fun x hx => by
  have : 0 ≤ x ∧ x < n := by
   rcases List.mem_cons.1 hx with hx | hx
   ·rw [hx]; exact hs
   ·exact h2 x hx
  exact List.mem_map.2 ⟨x.toNat, List.mem_range.2 (by omega), by omega⟩)
 simp at hl
 omega
end Go.Proofs.Ytiknnpfdpecfdaa.Own
namespace Go.Proofs.Ytiknnpfdpecfdaa.Own
open Go Go.RowKit Go.Proofs Go.Proofs.Ytiknnpfdpecfdaa.Hx Go.Proofs.Ytiknnpfdpecfdaa.Ox Go.Proofs.Ytiknnpfdpecfdaa.Gx Go.Proofs.YtiknnpfdpecfdaaW.PrintWords Go.Proofs.YtiknnpfdpecfdaaW.PrintLast Go.Proofs.YtiknnpfdpecfdaaW.PrintMore
set_option linter.unusedVariables false
set_option linter.unusedSimpArgs false
theorem exts_all (n : Nat) (o : List Int) (hn : o.Nodup) (hr : ∀ s ∈ o, 0 ≤ s ∧ s < n) : ∀ (d : Nat) (order r : List Int), o = order ++ r → r.length = d → o ∈ exts n d order
 | 0, order, r, h, hd => by
  rw [List.length_eq_zero_iff.1 hd, List.append_nil] at h
  rw [exts, h]; simp
 | d + 1, order, [], h, hd => by cases hd
 | d + 1, order, s :: r, h, hd => by
  have hs := hr s (by rw [h]; simp)
  obtain ⟨t, ht⟩ : ∃ t : Nat, s = (t : Int) := ⟨s.toNat, by omega⟩
  rw [exts, List.mem_flatMap]
  refine ⟨t, List.mem_range.2 (by omega), ?_⟩
  have hno : ¬ (t : Int) ∈ order := by
   intro hm
   rw [h] at hn
   exact (List.nodup_append.1 hn).2.2 _ hm _ List.mem_cons_self ht.symm
  rw [if_neg hno]
  refine exts_all n o hn hr d (order ++ [(t : Int)]) r (by rw [h, ht]; simp) (by simpa using hd)
theorem mem_allO {l o : List Int} : IsP l.length o → (o ∈ allO l ⟨#[]⟩ ↔ foldsO l o = true) := by
 intro hp
 unfold allO foldsO
 rw [growF_eq, (layR_len l l.length).1, List.mem_filter]
 constructor
 ·rintro ⟨_, h⟩; exact h
 ·intro h
  exact ⟨exts_all l.length o hp.nd (fun s hs => (hp.mem s).1 hs) l.length [] o rfl hp.len, h⟩
theorem stripE_bad {l o : List Int} (h : sizesB l 1 9 = false) : stripE l o = 1 := by
  unfold stripE; rw [sizes_f, h]; rfl
theorem stripE_form {l o : List Int} (h : sizesB l 1 9 = true) (h2 : permB o l.length = false) : stripE l o = 2 := by
  unfold stripE; rw [sizes_f, h, h2]; rfl
theorem stripE_zero {l o : List Int} (h : sizesB l 1 9 = true) (h2 : permB o l.length = true) : stripE l o = 0 := by
  unfold stripE; rw [sizes_f, h, h2]; rfl
theorem ev_map {α β : Type} {g : Nat → Option α} {a : α} (f : α → β) (h : Ev g a) : Ev (fun k => (g k).bind fun s => some (f s)) (f a) := Ev.bind h (Ev.now _)
/-- Creases, as it tells them. -/
theorem creases_ev {l o : List Int} (ho : o.length < 512) (hs : sizesB l 1 9 = true) (hp : permB o l.length = true) : Ev (fun k => fold_Creases.f k l o) (if foldsO l o = true then (strOfNums (lettC (layR l l.length).cr o), 0) else (⟨#[]⟩, 5)) := by
 obtain ⟨hok, h1, h9⟩ := sizesB_ok hs (by decide)
 have hcl := layR_cr l l.length
 have hlen := hok.len
 unfold fold_Creases.f ansF
 rw [stripE_zero hs hp]
 by_cases hf : foldsO l o = true
 ·rw [if_pos hf]
  refine Ev.congr (f := fun k => (fold_cloth_letters.f k (layR l l.length).low (layR l l.length).high (layR l l.length).cr false o).bind fun s => some (s, 0)) (fun k => ?_) ?_
  ·rw [if_pos ho, if_pos rfl, if_pos (by simpa [foldsO] using hf)]
  ·exact ev_map (fun s => (s, (0 : Int))) (letters_ev (lay_geo hok) (isP_perm hp) hok.len (by rw [hcl]; omega) _ _ _)
 ·rw [if_neg hf]
  refine Ev.congr (f := fun k => some (⟨#[]⟩, 5)) (fun k => ?_) (Ev.now _)
  rw [if_pos ho, if_pos rfl, if_neg (by simpa [foldsO] using hf)]
end Go.Proofs.Ytiknnpfdpecfdaa.Own
namespace Go.Proofs.Ytiknnpfdpecfdaa.Pure
open Go.RowKit Go.Proofs.Ytiknnpfdpecfdaa.Own Go.Proofs.Ytiknnpfdpecfdaa.Hx Go.Proofs.Ytiknnpfdpecfdaa.Ox Go.Proofs.Ytiknnpfdpecfdaa.Gx Go.Proofs.YtiknnpfdpecfdaaW.PrintWords Go.Proofs.YtiknnpfdpecfdaaW.PrintLast
theorem orders_j0 (l o : List Int) (e : Int) (he : e ≠ 0) : Ev (fun k => gamplaw01_FoldOrders.j0 k l o false e ⟨#[]⟩ e 0 e e) true := by
 refine Ev.step (f := fun k => (gamplaw01_lives.f k).bind fun t => some t) (fun k => ?_) (Ev.bind lives_ev (Ev.now _))
 simp only [gamplaw01_FoldOrders.j0]
 rw [if_neg he, if_neg (by simp), if_pos trivial, if_pos (show ByteArray.toList ⟨#[]⟩ = [] by decide +kernel), if_pos trivial, if_pos trivial, if_pos trivial]
theorem FoldOrders : gamplaw01_FoldOrders.Pure := by
 intro l0 l1 hm0 hm1 hwf0 hm2 hm3 hwf1
 apply Ev.rounds
 have hcut0 := cut_f l0 6 9 (by decide) (by decide) (by unfold maxLen at hm0; omega)
 have hcut1 := cut_f l1 6 9 (by decide) (by decide) (by unfold maxLen at hm2; omega)
 obtain ⟨l, hl⟩ : ∃ l, cutL l0 6 9 = l := ⟨_, rfl⟩
 obtain ⟨o, ho⟩ : ∃ o, cutL l1 6 9 = o := ⟨_, rfl⟩
 have hlen : l.length < 512 := by
  rw [← hl]; unfold cutL
  split <;> rw [List.length_take] <;> omega
 have hlo : o.length < 512 := by
  rw [← ho]; unfold cutL
  split <;> rw [List.length_take] <;> omega
 unfold gamplaw01_FoldOrders.f
 refine Ev.congr (f := fun k => (some l).bind _) (fun k => by rw [show (6 : Int) = ((6 : Nat) : Int) from rfl, show (9 : Int) = ((9 : Nat) : Int) from rfl, hcut0, hl]) ?_
 refine Ev.bind (Ev.now _) ?_
 refine Ev.congr (f := fun k => (some o).bind _) (fun k => by rw [hcut1, ho]) ?_
 refine Ev.bind (Ev.now _) ?_
 have hst := strip_ev l (by omega)
 have hF : fold_Folds.f l o = some (if stripE l o = 0 then (foldsO l o, 0) else (false, stripE l o)) := by unfold fold_Folds.f; rw [if_pos hlo]
 have hR : fold_Rank.f l o = some (if stripE l o = 0 then (if o ∈ allO l ⟨#[]⟩ then (((allO l ⟨#[]⟩).idxOf o : Int), 0) else (0, 5)) else (0, stripE l o)) := by unfold fold_Rank.f; rw [if_pos hlo]
 have hCbad : stripE l o ≠ 0 → Ev (fun k => fold_Creases.f k l o) (⟨#[]⟩, stripE l o) := by
  intro he
  refine Ev.congr (f := fun _ => some (⟨#[]⟩, stripE l o)) (fun k => ?_) (Ev.now _)
  unfold fold_Creases.f ansF
  rw [if_pos hlo, if_neg he]
 cases hs : sizesB l 1 9 with
 | false =>
  have he := stripE_bad (o := o) hs
  have hC := hCbad (by rw [he]; decide)
  rw [he] at hF hR hC
  rw [if_neg (by decide)] at hF hR
  rw [hs] at hst
  refine Ev.congr (f := fun k => (fold_Creases.f k l o).bind _) (fun k => by rw [hF, Option.bind_some]) ?_
  refine Ev.bind hC ?_
  refine Ev.congr (f := fun k => (gampref01_Strip.f k l).bind _) (fun k => by rw [hR, Option.bind_some]) ?_
  refine Ev.bind hst ?_
  exact Ev.congr (fun k => by rw [if_neg (by simp)]) (orders_j0 l o 1 (by decide))
 | true =>
  obtain ⟨hok, h1, h9⟩ := sizesB_ok hs (by decide)
  have hpe := permutation_ev o l.length (by omega) (by omega)
  rw [hs] at hst
  cases hp : permB o l.length with
  | false =>
   have he := stripE_form hs hp
   have hC := hCbad (by rw [he]; decide)
   rw [he] at hF hR hC
   rw [if_neg (by decide)] at hF hR
   rw [hp] at hpe
   refine Ev.congr (f := fun k => (fold_Creases.f k l o).bind _) (fun k => by rw [hF, Option.bind_some]) ?_
   refine Ev.bind hC ?_
   refine Ev.congr (f := fun k => (gampref01_Strip.f k l).bind _) (fun k => by rw [hR, Option.bind_some]) ?_
   refine Ev.bind hst ?_
   refine Ev.congr (f := fun k => (gampref01_Permutation.f k o (l.length : Int)).bind _) (fun k => by rw [if_pos rfl]) ?_
   refine Ev.bind hpe ?_
   exact Ev.congr (fun k => by rw [if_neg (by simp)]) (orders_j0 l o 2 (by decide))
  | true =>
   have hP := isP_perm hp
   have he := stripE_zero hs hp
   have hC := creases_ev hlo hs hp
   rw [he, if_pos rfl] at hF hR
   rw [hp] at hpe
   have hfo := folds_strip hok (by omega) hP
   have hfo2 : Ev (fun k => gampref01_Folds.f k l o false) (foldsO l o) := hfo
   refine Ev.congr (f := fun k => (fold_Creases.f k l o).bind _) (fun k => by rw [hF, Option.bind_some]) ?_
   refine Ev.bind hC ?_
   refine Ev.congr (f := fun k => (gampref01_Strip.f k l).bind _) (fun k => by rw [hR, Option.bind_some]) ?_
   refine Ev.bind hst ?_
   refine Ev.congr (f := fun k => (gampref01_Permutation.f k o (l.length : Int)).bind _) (fun k => by rw [if_pos rfl]) ?_
   refine Ev.bind hpe ?_
   refine Ev.congr (f := fun k => gamplaw01_FoldOrders.j0 k l o (foldsO l o) 0 (if foldsO l o = true then (strOfNums (lettC (layR l l.length).cr o), (0 : Int)) else (⟨#[]⟩, 5)).1 (if foldsO l o = true then (strOfNums (lettC (layR l l.length).cr o), (0 : Int)) else (⟨#[]⟩, 5)).2 (if o ∈ allO l ⟨#[]⟩ then (((allO l ⟨#[]⟩).idxOf o : Int), (0 : Int)) else (0, 5)).1 (if o ∈ allO l ⟨#[]⟩ then (((allO l ⟨#[]⟩).idxOf o : Int), (0 : Int)) else (0, 5)).2 0) (fun k => by rw [if_pos rfl]) ?_
   have hmem := mem_allO hP
   cases hf : foldsO l o with
   | true =>
    rw [hf] at hfo2
    have hin := hmem.2 hf
    rw [if_pos rfl, if_pos hin]
    refine Ev.step (f := fun k => (gampref01_Folds.f k l o false).bind fun t131 => if (true != t131) = true then gamplaw01_FoldOrders.j1 k l o (strOfNums (lettC (layR l l.length).cr o)) 0 ((allO l ⟨#[]⟩).idxOf o : Int) 0 t131 true else (gamplaw01_lives.f k).bind fun t132 => gamplaw01_FoldOrders.j1 k l o (strOfNums (lettC (layR l l.length).cr o)) 0 ((allO l ⟨#[]⟩).idxOf o : Int) 0 t131 (!t132)) (fun k => by simp only [gamplaw01_FoldOrders.j0]; rfl) (Ev.bind hfo2 ?_)
    refine Ev.congr (f := fun k => (gamplaw01_lives.f k).bind fun t132 => gamplaw01_FoldOrders.j1 k l o (strOfNums (lettC (layR l l.length).cr o)) 0 ((allO l ⟨#[]⟩).idxOf o : Int) 0 true (!t132)) (fun k => by rw [if_neg (by decide)]) (Ev.bind lives_ev ?_)
    have hix := List.idxOf_lt_length_of_mem hin
    have hsame := same_ev (rd_L3 (allO l ⟨#[]⟩) ((allO l ⟨#[]⟩).idxOf o : Int)) o (by
     have : rd_L3 (allO l ⟨#[]⟩) ((allO l ⟨#[]⟩).idxOf o : Int) = o := by unfold rd_L3; rw [Int.toNat_natCast, List.getD_eq_getElem?_getD, List.getElem?_eq_getElem hix, Option.getD_some, List.getElem_idxOf]
     rw [this]; omega)
    have hrd : rd_L3 (allO l ⟨#[]⟩) ((allO l ⟨#[]⟩).idxOf o : Int) = o := by unfold rd_L3; rw [Int.toNat_natCast, List.getD_eq_getElem?_getD, List.getElem?_eq_getElem hix, Option.getD_some, List.getElem_idxOf]
    rw [hrd, decide_eq_true rfl] at hsame
    refine Ev.step (f := fun k => (gampref01_All.f k l false).bind fun t133 => (gampref01_Letters.f k l o false).bind fun t136 => if (strOfNums (lettC (layR l l.length).cr o)).toList = t136.toList then (if ((allO l ⟨#[]⟩).idxOf o : Int) < (t133.length : Int) then (gampref01_Same.f k (rd_L3 t133 ((allO l ⟨#[]⟩).idxOf o : Int)) o).bind fun t138 => some t138 else some false) else some false) (fun k => ?_) (Ev.bind (all_strip hok (by omega) (by omega)) (Ev.bind (ref_letters hok (by omega) hP) ?_))
    ·simp only [gamplaw01_FoldOrders.j1]
     rw [if_neg (by simp), if_pos trivial]
     congr 1
    ·refine Ev.congr (f := fun k => (gampref01_Same.f k o o).bind fun t138 => some t138) (fun k => by rw [if_pos rfl, if_pos (by omega), hrd]) (Ev.bind hsame (Ev.now _))
   | false =>
    rw [hf] at hfo2
    have hno : o ∉ allO l ⟨#[]⟩ := fun h => by rw [hmem.1 h] at hf; cases hf
    rw [if_neg (by simp), if_neg hno]
    refine Ev.step (f := fun k => (gampref01_Folds.f k l o false).bind fun t131 => if (false != t131) = true then gamplaw01_FoldOrders.j1 k l o ⟨#[]⟩ 5 0 5 t131 true else (gamplaw01_lives.f k).bind fun t132 => gamplaw01_FoldOrders.j1 k l o ⟨#[]⟩ 5 0 5 t131 (!t132)) (fun k => by simp only [gamplaw01_FoldOrders.j0]; rfl) (Ev.bind hfo2 ?_)
    refine Ev.congr (f := fun k => (gamplaw01_lives.f k).bind fun t132 => gamplaw01_FoldOrders.j1 k l o ⟨#[]⟩ 5 0 5 false (!t132)) (fun k => by rw [if_neg (by decide)]) (Ev.bind lives_ev ?_)
    refine Ev.step (f := fun _ => some true) (fun k => ?_) (Ev.now _)
    simp only [gamplaw01_FoldOrders.j1]
    rw [if_neg (by simp), if_neg (by simp), if_pos (show ByteArray.toList ⟨#[]⟩ = [] by decide +kernel), if_pos trivial, if_pos trivial]
    rfl
end Go.Proofs.Ytiknnpfdpecfdaa.Pure
namespace Go.Proofs.Ytiknnpfdpecfdaa.Own
open Go Go.RowKit Go.Proofs Go.Proofs.Ytiknnpfdpecfdaa.Hx Go.Proofs.Ytiknnpfdpecfdaa.Ox Go.Proofs.Ytiknnpfdpecfdaa.Gx Go.Proofs.YtiknnpfdpecfdaaW.PrintWords Go.Proofs.YtiknnpfdpecfdaaW.PrintLast Go.Proofs.YtiknnpfdpecfdaaW.PrintMore
set_option linter.unusedVariables false
set_option linter.unusedSimpArgs false
/-- The remainder by n, from 1 on. -/
def f1 (v n : Int) : Int := Int.tmod (Int.tmod v n + n) n + 1
end Go.Proofs.Ytiknnpfdpecfdaa.Own
