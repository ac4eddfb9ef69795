/- The declarations of Z5 that the claim Qd needs. -/
import Derived.Test.YtiknnpfdpecfdaaQdZ1
import Derived.Test.YtiknnpfdpecfdaaQdOxx1
import Derived.Test.YtiknnpfdpecfdaaQdHxx1
import Derived.Test.YtiknnpfdpecfdaaQdZ4
import Derived.Lib.Bytes
import Derived.Test.YtiknnpfdpecfdaaQdTkP
import Derived.Test.YtiknnpfdpecfdaaQdOxx0
import Derived.Test.YtiknnpfdpecfdaaQdZ6
namespace Go.Proofs.Ytiknnpfdpecfdaa.Own
open Go Go.RowKit Go.Proofs Go.Proofs.Ytiknnpfdpecfdaa.Hx Go.Proofs.Ytiknnpfdpecfdaa.Ox Go.Proofs.Ytiknnpfdpecfdaa.Gx Go.Proofs.YtiknnpfdpecfdaaW.PrintWords Go.Proofs.YtiknnpfdpecfdaaW.PrintLast Go.Proofs.YtiknnpfdpecfdaaW.PrintMore
set_option linter.unusedVariables false
set_option linter.unusedSimpArgs false
theorem str_push (xs : List Int) (v : Int) (b : UInt8) (hb : UInt8.ofNat v.toNat = b) : strOfNums xs ++ (⟨#[b]⟩ : ByteArray) = strOfNums (xs ++ [v]) := by
 subst hb
 apply ByteArray.ext
 simp [strOfNums]
theorem str_size (xs : List Int) : (strOfNums xs).size = xs.length := by
  show (strOfNums xs).data.size = _
  simp [strOfNums]
/-- The letter of crease k. -/
def lettAt (cr : List Own.S96) (o : List Int) (k : Nat) : Int := if ((Int.tmod (Own.rd_T96 cr k).f0 2 == 0) == decide (pos o (Own.rd_T96 cr k).f0 < pos o (Own.rd_T96 cr k).f1)) = true then 86 else 77
def lettC (cr : List Own.S96) (o : List Int) : List Int := (List.range cr.length).map (lettAt cr o)
section
variable {n : Nat} {cr : List Own.S96} {o : List Int}
theorem letter_f (hg : Geo n cr) (hp : IsP n o) {k : Nat} (hk : k < cr.length) : fold_crease_letter.f (Own.rd_T96 cr (k : Int)).f0 (Own.rd_T96 cr (k : Int)).f1 (Own.rd_T96 cr (k : Int)).f2 (Own.rd_T96 cr (k : Int)).f3 (layL n o) = some (lettAt cr o k) := by
 have h0 := hg.i0 k hk
 have h1 := hg.i1 k hk
 have hl : (layL n o).length = n := by simp [layL]
 have hd : decide ((pos o (Own.rd_T96 cr (k : Int)).f0 : Int) < (pos o (Own.rd_T96 cr (k : Int)).f1 : Int)) = decide (pos o (Own.rd_T96 cr (k : Int)).f0 < pos o (Own.rd_T96 cr (k : Int)).f1) := decide_eq_decide.2 (by omega)
 unfold fold_crease_letter.f
 rw [under_f, Option.bind_some, hl, if_pos h0.1, if_pos h0.2, if_pos h1.1, if_pos h1.2, layL_at h0.1 h0.2, layL_at h1.1 h1.2, hd]
 have hu : underB (Own.rd_T96 cr (k : Int)) 86 = (Int.tmod (Own.rd_T96 cr (k : Int)).f0 2 == 0) := by
  unfold underB
  rw [show ((86 : Int) == 86) = true from rfl]
  cases (Int.tmod (Own.rd_T96 cr (k : Int)).f0 2 == 0) <;> rfl
 rw [hu]
 unfold lettAt
 split <;> rfl
theorem cl_l1 (hg : Geo n cr) (hp : IsP n o) (hc : cr.length < 1000) : ∀ (d i : Nat), i + d = cr.length → Ev (fun k => fold_cloth_letters.l1 k (layL n o) ((List.range i).map (lettAt cr o)) cr (cr.length : Int) (i : Int)) (strOfNums (lettC cr o)) := by
 intro d
 induction d with
 | zero =>
  intro i hi
  obtain rfl : i = cr.length := by omega
  refine Ev.step (f := fun _ => some _) (fun k => ?_) (Ev.now _)
  simp only [fold_cloth_letters.l1]
  rw [if_neg (by omega)]
  rfl
 | succ d ih =>
  intro i hi
  have hic : i < cr.length := by omega
  refine Ev.step (fun k => ?_) (ih (i + 1) (by omega))
  simp only [fold_cloth_letters.l1]
  rw [if_pos (by omega), if_pos (by omega), if_pos (by omega), letter_f hg hp hic, Option.bind_some, if_pos (by rw [List.length_map, List.length_range]; omega), wup i (by omega), List.range_succ, show (List.range i ++ [i]).map (lettAt cr o) = (List.range i).map (lettAt cr o) ++ [lettAt cr o i] from by simp]
theorem cl_l0 (hg : Geo n cr) (hp : IsP n o) (hn : n ≤ 12) (hc : cr.length < 1000) (low high : List Int) (rdd : Bool) : ∀ (d i : Nat), i + d = n → Ev (fun k => fold_cloth_letters.l0 k ((List.range n).map fun (s : Nat) => if pos o (s : Int) < i then (pos o (s : Int) : Int) else 0) o (o.length : Int) (i : Int) low high cr rdd) (strOfNums (lettC cr o)) := by
 intro d
 induction d with
 | zero =>
  intro i hi
  obtain rfl : i = n := by omega
  have e : ((List.range i).map fun (s : Nat) => if pos o (s : Int) < i then (pos o (s : Int) : Int) else 0) = layL i o := by
   apply List.map_congr_left
   intro s hs
   rw [if_pos (pos_lt hp (by omega) (by have := List.mem_range.1 hs; omega))]
  rw [e]
  refine Ev.step (fun k => ?_) (cl_l1 hg hp hc cr.length 0 (by omega))
  simp only [fold_cloth_letters.l0]
  rw [hp.len, if_neg (by omega)]
  rfl
 | succ d ih =>
  intro i hi
  have hin : i < n := by omega
  have hio : i < o.length := by rw [hp.len]; exact hin
  have hmem := (hp.mem o[i]).1 (List.getElem_mem hio)
  obtain ⟨s, hs⟩ : ∃ s : Nat, o[i] = (s : Int) := ⟨o[i].toNat, by omega⟩
  have hsn : s < n := by omega
  have hps : pos o (s : Int) = i := by
   have := pos_get hp hin
   rw [List.getD_eq_getElem?_getD, List.getElem?_eq_getElem hio, Option.getD_some, hs] at this
   exact this
  refine Ev.step (fun k => ?_) (ih (i + 1) (by omega))
  simp only [fold_cloth_letters.l0]
  rw [hp.len, rd_nat o hio, hs, if_pos (by omega), if_pos (by omega), if_pos (by omega), if_pos (by omega), if_pos (by simp; omega), wup i (by omega), Int.toNat_natCast]
  congr 1
  apply List.ext_getElem (by simp)
  intro t h1 h2
  simp only [List.length_map, List.length_range] at h2
  simp only [List.getElem_set, List.getElem_map, List.getElem_range]
  by_cases e : s = t
  ·subst e
   rw [if_pos rfl, if_pos (by omega), hps]
  ·rw [if_neg e]
   have hne : pos o (t : Int) ≠ i := fun e2 => e (by have := pos_inj hp (s := (s : Int)) (t := (t : Int)) (by omega) (by omega) (by omega) (by omega) (by omega); omega)
   by_cases h3 : pos o (t : Int) < i
   ·rw [if_pos h3, if_pos (by omega)]
   ·rw [if_neg h3, if_neg (by omega)]
theorem letters_ev (hg : Geo n cr) (hp : IsP n o) (hn : n ≤ 12) (hc : cr.length < 1000) (low high : List Int) (rdd : Bool) : Ev (fun k => fold_cloth_letters.f k low high cr rdd o) (strOfNums (lettC cr o)) := by
 have h := cl_l0 hg hp hn hc low high rdd n 0 (by omega)
 unfold fold_cloth_letters.f
 refine Ev.congr (fun k => ?_) h
 rw [if_pos (by omega), hp.len, if_pos (by omega)]
 congr 1
 apply List.ext_getElem (by simp)
 intro t h1 h2
 simp
end
section
open Classical
theorem perm_l1 (o : List Int) (n : Nat) (ho : o.length < 2 ^ 40) (i : Nat) (hi : i < o.length) (r : Bool) (hr : Ev (fun k => gampref01_Permutation.l0 k o (n : Int) ((i + 1 : Nat) : Int)) r) : ∀ (d j : Nat), j + d = i → Ev (fun k => gampref01_Permutation.l1 k o (n : Int) (i : Int) (j : Int)) (decide (∀ x, j ≤ x → x < i → o.getD x 0 ≠ o.getD i 0) && r) := by
  intro d
  induction d with
  | zero =>
    intro j hj
    rw [decide_eq_true (fun x h1 h2 => by omega), Bool.true_and]
    refine Ev.step (fun k => ?_) hr
    simp only [gampref01_Permutation.l1]
    rw [if_neg (by omega), wup i (by omega)]
  | succ d ih =>
    intro j hj
    have hjo : j < o.length := by omega
    have e1 : rd o (j : Int) = o.getD j 0 := by simp [rd]
    have e2 : rd o (i : Int) = o.getD i 0 := by simp [rd]
    have e : ∀ k, gampref01_Permutation.l1 (k + 1) o (n : Int) (i : Int) (j : Int) = if o.getD j 0 = o.getD i 0 then some false else gampref01_Permutation.l1 k o (n : Int) (i : Int) ((j + 1 : Nat) : Int) := by
      intro k
      simp only [gampref01_Permutation.l1]
      rw [if_pos (by omega), if_pos (by omega), if_pos (by omega), if_pos (by omega), if_pos (by omega), e1, e2, wup j (by omega)]
    by_cases h : o.getD j 0 = o.getD i 0
    · rw [decide_eq_false (fun hh => hh j (Nat.le_refl _) (by omega) h), Bool.false_and]
      exact Ev.step (f := fun _ => some false) (fun k => by rw [e, if_pos h]) (Ev.now _)
    · rw [show decide (∀ x, j ≤ x → x < i → o.getD x 0 ≠ o.getD i 0) = decide (∀ x, j + 1 ≤ x → x < i → o.getD x 0 ≠ o.getD i 0) from decide_eq_decide.2 ⟨fun hh x h1 h2 => hh x (by omega) h2, fun hh x h1 h2 => by
        by_cases e2 : x = j
        · exact e2 ▸ h
        · exact hh x (by omega) h2⟩]
      exact Ev.step (fun k => by rw [e, if_neg h]) (ih (j + 1) (by omega))
theorem perm_r0 (o : List Int) (n : Nat) (ho : o.length < 2 ^ 40) (hn : n < 1000) : ∀ (d i : Nat), i + d = o.length → Ev (fun k => gampref01_Permutation.l0 k o (n : Int) (i : Int)) (decide ((∀ x, i ≤ x → x < o.length → (0 ≤ o.getD x 0 ∧ o.getD x 0 < n) ∧ ∀ y, y < x → o.getD y 0 ≠ o.getD x 0) ∧ o.length = n)) := by
  intro d
  induction d with
  | zero =>
    intro i hi
    refine Ev.step (f := fun _ => some ((o.length : Int) == (n : Int))) (fun k => ?_) ?_
    · simp only [gampref01_Permutation.l0]
      rw [if_neg (by omega)]
    · have : ((o.length : Int) == (n : Int)) = decide ((∀ x, i ≤ x → x < o.length → (0 ≤ o.getD x 0 ∧ o.getD x 0 < n) ∧ ∀ y, y < x → o.getD y 0 ≠ o.getD x 0) ∧ o.length = n) := by
        apply Bool.eq_iff_iff.2
        rw [beq_iff_eq, decide_eq_true_eq]
        exact ⟨fun h => ⟨fun x h1 h2 => by omega, by omega⟩, fun h => by omega⟩
      rw [this]
      exact Ev.now _
  | succ d ih =>
    intro i hi
    have hio : i < o.length := by omega
    have e2 : rd o (i : Int) = o.getD i 0 := by simp [rd]
    have hw : wrap64 ((n : Int) - 1) = (n : Int) - 1 := by unfold wrap64; omega
    have h1 := perm_l1 o n ho i hio _ (ih (i + 1) (by omega)) i 0 (by omega)
    have e : ∀ k, gampref01_Permutation.l0 (k + 1) o (n : Int) (i : Int) = if (0 ≤ o.getD i 0 ∧ o.getD i 0 ≤ (n : Int) - 1) then gampref01_Permutation.l1 k o (n : Int) (i : Int) ((0 : Nat) : Int) else some false := by
      intro k
      simp only [gampref01_Permutation.l0]
      rw [if_pos (by omega), if_pos (by omega), hw, in_f, Option.bind_some, e2]
      by_cases h : 0 ≤ o.getD i 0 ∧ o.getD i 0 ≤ (n : Int) - 1
      · rw [if_pos h, if_pos (decide_eq_true h)]; rfl
      · rw [if_neg h, if_neg (by rw [decide_eq_false h]; simp)]
    by_cases h : 0 ≤ o.getD i 0 ∧ o.getD i 0 ≤ (n : Int) - 1
    · have hres : (decide (∀ x, 0 ≤ x → x < i → o.getD x 0 ≠ o.getD i 0) && decide ((∀ x, i + 1 ≤ x → x < o.length → (0 ≤ o.getD x 0 ∧ o.getD x 0 < n) ∧ ∀ y, y < x → o.getD y 0 ≠ o.getD x 0) ∧ o.length = n)) = decide ((∀ x, i ≤ x → x < o.length → (0 ≤ o.getD x 0 ∧ o.getD x 0 < n) ∧ ∀ y, y < x → o.getD y 0 ≠ o.getD x 0) ∧ o.length = n) := by
        rw [← Bool.decide_and]
        apply decide_eq_decide.2
        constructor
        · rintro ⟨a1, a2, a3⟩
          refine ⟨fun x hx hxl => ?_, a3⟩
          by_cases e3 : x = i
          · subst e3; exact ⟨⟨h.1, by omega⟩, fun y hy => a1 y (Nat.zero_le _) hy⟩
          · exact a2 x (by omega) hxl
        · rintro ⟨a1, a3⟩
          exact ⟨fun x _ hx => (a1 i (Nat.le_refl _) hio).2 x hx, fun x hx hxl => a1 x (by omega) hxl, a3⟩
      rw [hres] at h1
      exact Ev.step (fun k => by rw [e, if_pos h]) h1
    · rw [decide_eq_false (fun hh => h (by have := (hh.1 i (Nat.le_refl _) hio).1; omega))]
      exact Ev.step (f := fun _ => some false) (fun k => by rw [e, if_neg h]) (Ev.now _)
theorem permutation_ev (o : List Int) (n : Nat) (ho : o.length < 2 ^ 40) (hn : n < 1000) : Ev (fun k => gampref01_Permutation.f k o (n : Int)) (permB o n) := by
 have h := perm_r0 o n ho hn o.length 0 (by omega)
 have e : decide ((∀ x, 0 ≤ x → x < o.length → (0 ≤ o.getD x 0 ∧ o.getD x 0 < n) ∧ ∀ y, y < x → o.getD y 0 ≠ o.getD x 0) ∧ o.length = n) = permB o n := by
  unfold permB
  apply decide_eq_decide.2
  have hg : ∀ x (hx : x < o.length), o.getD x 0 = o[x] := fun x hx => by rw [List.getD_eq_getElem?_getD, List.getElem?_eq_getElem hx, Option.getD_some]
  constructor
  ·rintro ⟨a1, a2⟩
   refine ⟨?_, fun s hs => ?_, a2⟩
   ·rw [List.nodup_iff_pairwise_ne, List.pairwise_iff_getElem]
    intro i j hi hj hij
    have := (a1 j (Nat.zero_le _) hj).2 i hij
    rwa [hg i hi, hg j hj] at this
   ·obtain ⟨i, hi, rfl⟩ := List.getElem_of_mem hs
    have := (a1 i (Nat.zero_le _) hi).1
    rwa [hg i hi] at this
  ·rintro ⟨a1, a2, a3⟩
   refine ⟨fun x _ hx => ?_, a3⟩
   rw [hg x hx]
   refine ⟨a2 _ (List.getElem_mem hx), fun y hy => ?_⟩
   rw [hg y (by omega)]
   rw [List.nodup_iff_pairwise_ne, List.pairwise_iff_getElem] at a1
   exact a1 y x (by omega) hx hy
 rw [e] at h
 exact h
end
theorem isP_perm {o : List Int} {n : Nat} : permB o n = true → IsP n o := by
 intro h
 unfold permB at h
 obtain ⟨h1, h2, h3⟩ := of_decide_eq_true h
 refine ⟨h1, h3, fun s => ⟨h2 s, fun hs => ?_⟩⟩
 apply Decidable.byContradiction
 intro hn
 have hk : ∀ (a b : List Int), a.Nodup → (∀ x ∈ a, x ∈ b) → a.length ≤ b.length := by
  intro a
  induction a with
  | nil => intro b _ _; exact Nat.zero_le _
  | cons x a ih =>
   intro b hnd hab
   have hx := hab x List.mem_cons_self
   have := ih (b.erase x) (List.nodup_cons.1 hnd).2 (fun y hy => (List.mem_erase_of_ne (by rintro rfl; exact (List.nodup_cons.1 hnd).1 hy)).2 (hab y (List.mem_cons_of_mem _ hy)))
   rw [List.length_erase_of_mem hx] at this
   have := List.length_pos_of_mem hx
   simp only [List.length_cons]
   omega
 have hl := hk (s :: o) ((List.range n).map fun (i : Nat) => (i : Int)) (List.nodup_cons.2 ⟨hn, h1⟩) (fun x hx => by
  have : 0 ≤ x ∧ x < n := by
   rcases List.mem_cons.1 hx with hx | hx
   ·rw [hx]; exact hs
   ·exact h2 x hx
  exact List.mem_map.2 ⟨x.toNat, List.mem_range.2 (by omega), by omega⟩)
 simp at hl
 omega
end Go.Proofs.Ytiknnpfdpecfdaa.Own
namespace Go.Proofs.Ytiknnpfdpecfdaa.Own
open Go Go.RowKit Go.Proofs Go.Proofs.Ytiknnpfdpecfdaa.Hx Go.Proofs.Ytiknnpfdpecfdaa.Ox Go.Proofs.Ytiknnpfdpecfdaa.Gx Go.Proofs.YtiknnpfdpecfdaaW.PrintWords Go.Proofs.YtiknnpfdpecfdaaW.PrintLast Go.Proofs.YtiknnpfdpecfdaaW.PrintMore
set_option linter.unusedVariables false
set_option linter.unusedSimpArgs false
theorem exts_all (n : Nat) (o : List Int) (hn : o.Nodup) (hr : ∀ s ∈ o, 0 ≤ s ∧ s < n) : ∀ (d : Nat) (order r : List Int), o = order ++ r → r.length = d → o ∈ exts n d order
 | 0, order, r, h, hd => by
  rw [List.length_eq_zero_iff.1 hd, List.append_nil] at h
  rw [exts, h]; simp
 | d + 1, order, [], h, hd => by cases hd
 | d + 1, order, s :: r, h, hd => by
  have hs := hr s (by rw [h]; simp)
  obtain ⟨t, ht⟩ : ∃ t : Nat, s = (t : Int) := ⟨s.toNat, by omega⟩
  rw [exts, List.mem_flatMap]
  refine ⟨t, List.mem_range.2 (by omega), ?_⟩
  have hno : ¬ (t : Int) ∈ order := by
   intro hm
   rw [h] at hn
   exact (List.nodup_append.1 hn).2.2 _ hm _ List.mem_cons_self ht.symm
  rw [if_neg hno]
  refine exts_all n o hn hr d (order ++ [(t : Int)]) r (by rw [h, ht]; simp) (by simpa using hd)
theorem mem_allO {l o : List Int} : IsP l.length o → (o ∈ allO l ⟨#[]⟩ ↔ foldsO l o = true) := by
 intro hp
 unfold allO foldsO
 rw [growF_eq, (layR_len l l.length).1, List.mem_filter]
 constructor
 ·rintro ⟨_, h⟩; exact h
 ·intro h
  exact ⟨exts_all l.length o hp.nd (fun s hs => (hp.mem s).1 hs) l.length [] o rfl hp.len, h⟩
theorem stripE_zero {l o : List Int} (h : sizesB l 1 9 = true) (h2 : permB o l.length = true) : stripE l o = 0 := by
  unfold stripE; rw [sizes_f, h, h2]; rfl
theorem ev_map {α β : Type} {g : Nat → Option α} {a : α} (f : α → β) (h : Ev g a) : Ev (fun k => (g k).bind fun s => some (f s)) (f a) := Ev.bind h (Ev.now _)
/-- Creases, as it tells them. -/
theorem creases_ev {l o : List Int} (ho : o.length < 512) (hs : sizesB l 1 9 = true) (hp : permB o l.length = true) : Ev (fun k => fold_Creases.f k l o) (if foldsO l o = true then (strOfNums (lettC (layR l l.length).cr o), 0) else (⟨#[]⟩, 5)) := by
 obtain ⟨hok, h1, h9⟩ := sizesB_ok hs (by decide)
 have hcl := layR_cr l l.length
 have hlen := hok.len
 unfold fold_Creases.f ansF
 rw [stripE_zero hs hp]
 by_cases hf : foldsO l o = true
 ·rw [if_pos hf]
  refine Ev.congr (f := fun k => (fold_cloth_letters.f k (layR l l.length).low (layR l l.length).high (layR l l.length).cr false o).bind fun s => some (s, 0)) (fun k => ?_) ?_
  ·rw [if_pos ho, if_pos rfl, if_pos (by simpa [foldsO] using hf)]
  ·exact ev_map (fun s => (s, (0 : Int))) (letters_ev (lay_geo hok) (isP_perm hp) hok.len (by rw [hcl]; omega) _ _ _)
 ·rw [if_neg hf]
  refine Ev.congr (f := fun k => some (⟨#[]⟩, 5)) (fun k => ?_) (Ev.now _)
  rw [if_pos ho, if_pos rfl, if_neg (by simpa [foldsO] using hf)]
end Go.Proofs.Ytiknnpfdpecfdaa.Own
namespace Go.Proofs.Ytiknnpfdpecfdaa.Pure
open Go.RowKit Go.Proofs.Ytiknnpfdpecfdaa.Own Go.Proofs.Ytiknnpfdpecfdaa.Hx Go.Proofs.Ytiknnpfdpecfdaa.Ox Go.Proofs.Ytiknnpfdpecfdaa.Gx Go.Proofs.YtiknnpfdpecfdaaW.PrintWords Go.Proofs.YtiknnpfdpecfdaaW.PrintLast
end Go.Proofs.Ytiknnpfdpecfdaa.Pure
namespace Go.Proofs.Ytiknnpfdpecfdaa.Own
open Go Go.RowKit Go.Proofs Go.Proofs.Ytiknnpfdpecfdaa.Hx Go.Proofs.Ytiknnpfdpecfdaa.Ox Go.Proofs.Ytiknnpfdpecfdaa.Gx Go.Proofs.YtiknnpfdpecfdaaW.PrintWords Go.Proofs.YtiknnpfdpecfdaaW.PrintLast Go.Proofs.YtiknnpfdpecfdaaW.PrintMore
set_option linter.unusedVariables false
set_option linter.unusedSimpArgs false
/-- The remainder by n, from 1 on. -/
def f1 (v n : Int) : Int := Int.tmod (Int.tmod v n + n) n + 1
theorem f1_rng (v : Int) {n : Int} (h0 : 1 ≤ n) : 1 ≤ f1 v n ∧ f1 v n ≤ n := by
 have h2 : -n < Int.tmod v n ∧ Int.tmod v n < n := ⟨by have := Int.lt_tmod_of_pos v (show 0 < n by omega); omega, Int.tmod_lt_of_pos v (by omega)⟩
 have h4 : 0 ≤ Int.tmod (Int.tmod v n + n) n ∧ Int.tmod (Int.tmod v n + n) n < n := ⟨Int.tmod_nonneg _ (by omega), Int.tmod_lt_of_pos _ (by omega)⟩
 unfold f1
 omega
theorem f1_f (v : Int) {n : Int} (h0 : 1 ≤ n) (h1 : n ≤ 1000) : Gx.gamplaw01_fold1.f v n = some (f1 v n) := by
 have h2 : -n < Int.tmod v n ∧ Int.tmod v n < n := ⟨by have := Int.lt_tmod_of_pos v (show 0 < n by omega); omega, Int.tmod_lt_of_pos v (by omega)⟩
 have h3 : wrap64 (Int.tmod v n + n) = Int.tmod v n + n := by unfold wrap64; omega
 have h4 : 0 ≤ Int.tmod (Int.tmod v n + n) n ∧ Int.tmod (Int.tmod v n + n) n < n := ⟨Int.tmod_nonneg _ (by omega), Int.tmod_lt_of_pos _ (by omega)⟩
 have h5 : wrap64 (Int.tmod (Int.tmod v n + n) n + 1) = Int.tmod (Int.tmod v n + n) n + 1 := by unfold wrap64; omega
 unfold Gx.gamplaw01_fold1.f f1
 rw [if_neg (by omega), h3, h5]
def stripL (x : List Int) (most : Nat) (size : Int) : List Int := if (x.take most) = [] then [1] else (x.take most).map (f1 · size)
theorem strip_l0 (x : List Int) (most : Nat) (size : Int) (h0 : 1 ≤ size) (h1 : size ≤ 1000) (hm : most ≤ 12) (hx : x.length < 2 ^ 60) : ∀ (d i : Nat), i + d = (x.take most).length → Ev (fun k => gamplaw01_strip.l0 k x (most : Int) size ((x.take i).map (f1 · size)) (i : Int)) (stripL x most size) := by
 intro d
 have hlen : (x.take most).length = min most x.length := List.length_take
 induction d with
 | zero =>
  intro i hi
  rw [hlen] at hi
  have e : ∀ k, gamplaw01_strip.l0 (k + 1) x (most : Int) size ((x.take i).map (f1 · size)) (i : Int) = some (stripL x most size) := by
   intro k
   have htk : x.take i = x.take most := by
    by_cases h : most ≤ x.length
    ·rw [show i = most by omega]
    ·rw [List.take_of_length_le (by omega), List.take_of_length_le (by omega)]
   have hend : (if (((x.take i).map (f1 · size)).length : Int) = 0 then (if ((x.take i).map (f1 · size)).length < 17592186044416 then (some ((x.take i).map (f1 · size) ++ [1])) else none) else some ((x.take i).map (f1 · size))) = some (stripL x most size) := by
    unfold stripL
    rw [← htk]
    by_cases hz : x.take i = []
    ·rw [if_pos hz, hz]; rfl
    ·have hl : (x.take i).length ≠ 0 := fun h => hz (List.length_eq_zero_iff.1 h)
     rw [if_neg hz, if_neg (by rw [List.length_map]; omega)]
   simp only [gamplaw01_strip.l0]
   by_cases hlt : (i : Int) < (x.length : Int)
   ·rw [if_pos hlt, if_neg (by omega)]; exact hend
   ·rw [if_neg hlt]; exact hend
  exact Ev.step (f := fun _ => some (stripL x most size)) e (Ev.now _)
 | succ d ih =>
  intro i hi
  have hil : i < x.length := by omega
  refine Ev.step (fun k => ?_) (ih (i + 1) (by omega))
  simp only [gamplaw01_strip.l0]
  rw [if_pos (by omega), if_pos (by omega), if_pos (by omega), f1_f _ h0 h1, Option.bind_some, if_pos (by rw [List.length_map, List.length_take]; omega), wup i (by omega), rd_nat x hil, List.take_succ_eq_append_getElem hil, List.map_append]
  rfl
theorem stripL_ev (x : List Int) (most : Nat) (size : Int) (h0 : 1 ≤ size) (h1 : size ≤ 1000) (hm : most ≤ 12) (hx : x.length < 2 ^ 60) : Ev (fun k => gamplaw01_strip.f k x (most : Int) size) (stripL x most size) := by
  have := strip_l0 x most size h0 h1 hm hx (x.take most).length 0 (by omega)
  exact this
theorem stripL_ok (x : List Int) (most : Nat) (size : Int) (h0 : 1 ≤ size) (h1 : size ≤ 1000) (hm1 : 1 ≤ most) (hm : most ≤ 9) : sizesB (stripL x most size) 1 9 = true ∧ (stripL x most size).length ≤ most ∧ ∀ v ∈ stripL x most size, 1 ≤ v ∧ v ≤ size := by
 have key : ∀ v ∈ stripL x most size, 1 ≤ v ∧ v ≤ size := by
  unfold stripL
  split
  ·intro v hv; rw [List.mem_singleton.1 hv]; omega
  ·intro v hv
   obtain ⟨a, _, rfl⟩ := List.mem_map.1 hv
   exact f1_rng a h0
 have hlen : 1 ≤ (stripL x most size).length ∧ (stripL x most size).length ≤ most := by
  unfold stripL
  split
  ·exact ⟨Nat.le_refl _, hm1⟩
  ·rename_i h
   rw [List.length_map]
   exact ⟨List.length_pos_iff.2 h, by rw [List.length_take]; omega⟩
 refine ⟨?_, hlen.2, key⟩
 unfold sizesB
 rw [Bool.and_eq_true, List.all_eq_true, decide_eq_true_eq]
 exact ⟨fun v hv => decide_eq_true ⟨(key v hv).1, by have := (key v hv).2; omega⟩, by omega⟩
def idO (n : Nat) : List Int := (List.range n).map fun (i : Nat) => (i : Int)
theorem idO_isP (n : Nat) : IsP n (idO n) := by
 refine ⟨?_, by simp [idO], fun s => ?_⟩
 ·unfold idO
  rw [List.nodup_iff_pairwise_ne]
  exact List.Pairwise.map _ (fun a b h e => h (by omega)) (List.nodup_iff_pairwise_ne.1 List.nodup_range)
 ·unfold idO
  rw [List.mem_map]
  constructor
  ·rintro ⟨a, ha, rfl⟩; have := List.mem_range.1 ha; omega
  ·intro h; exact ⟨s.toNat, List.mem_range.2 (by omega), by omega⟩
theorem idO_pos {n : Nat} {s : Nat} (hs : s < n) : pos (idO n) (s : Int) = s := by
 have h := pos_get (idO_isP n) hs
 have e : (idO n).getD s 0 = (s : Int) := by simp [idO, hs]
 rwa [e] at h
theorem idO_folds {l : List Int} (h : OkL l) : foldsO l (idO l.length) = true := by
 have hcl := layR_cr l l.length
 unfold foldsO
 rw [folds_all (lay_geo h) (idO_isP _)]
 have hab : ∀ k, k < (layR l l.length).cr.length → aOf (layR l l.length).cr (idO l.length) k = k ∧ bOf (layR l l.length).cr (idO l.length) k = k + 1 := by
  intro k hk
  rw [hcl] at hk
  unfold aOf bOf
  rw [lay_cr h (by omega)]
  show min (pos (idO l.length) ((k : Nat) : Int)) (pos (idO l.length) ((k + 1 : Nat) : Int)) = k ∧ max (pos (idO l.length) ((k : Nat) : Int)) (pos (idO l.length) ((k + 1 : Nat) : Int)) = k + 1
  rw [idO_pos (by omega), idO_pos (by omega)]
  omega
 intro j hj
 refine ⟨fun k hk h1 h2 => ?_, fun k hk => ⟨fun hb x hx hxk hc h1 h2 => ?_, fun _ hp => absurd rfl hp⟩⟩
 ·have := hab k hk
  omega
 ·have := hab k hk
  have := hab x hx
  omega
theorem allO_pos {l : List Int} (h : OkL l) : 1 ≤ (allO l ⟨#[]⟩).length := List.length_pos_of_mem ((mem_allO (idO_isP l.length)).2 (idO_folds h))
/-- A list comes ahead of another one. -/
def LexLt (a b : List Int) : Prop := ∃ i : Nat, i < a.length ∧ i < b.length ∧ (∀ j, j < i → a.getD j 0 = b.getD j 0) ∧ a.getD i 0 < b.getD i 0
theorem lex_ne {a b : List Int} (h : LexLt a b) : a ≠ b := by
 rintro rfl
 obtain ⟨i, _, _, _, h⟩ := h
 omega
theorem lex_pre (p : List Int) (s t : Int) (x y : List Int) (h : s < t) : LexLt (p ++ [s] ++ x) (p ++ [t] ++ y) := by
 refine ⟨p.length, by simp, by simp, fun j hj => ?_, ?_⟩
 ·simp [List.getD_eq_getElem?_getD, hj, List.getElem?_append_left]
 ·simp [List.getD_eq_getElem?_getD]
  exact h
theorem exts_lex (n : Nat) : ∀ (d : Nat) (order : List Int), (exts n d order).Pairwise LexLt
 | 0, order => List.pairwise_singleton _ _
 | d + 1, order => by
  have key : ∀ ks : List Nat, ks.Pairwise (· < ·) → (ks.flatMap fun (s : Nat) => if (s : Int) ∈ order then [] else exts n d (order ++ [(s : Int)])).Pairwise LexLt := by
   intro ks
   induction ks with
   | nil => intro _; exact List.Pairwise.nil
   | cons s ks ih =>
    intro hks
    obtain ⟨h1, h2⟩ := List.pairwise_cons.1 hks
    rw [List.flatMap_cons]
    refine List.pairwise_append.2 ⟨?_, ih h2, fun a ha b hb => ?_⟩
    ·split
     ·exact List.Pairwise.nil
     ·exact exts_lex n d _
    ·split at ha
     ·cases ha
     ·rw [List.mem_flatMap] at hb
      obtain ⟨t, ht, hb⟩ := hb
      split at hb
      ·cases hb
      ·obtain ⟨x, rfl, _⟩ := exts_pre n d _ _ ha
       obtain ⟨y, rfl, _⟩ := exts_pre n d _ _ hb
       exact lex_pre order (s : Int) (t : Int) x y (by have := h1 t ht; omega)
  rw [exts]
  exact key (List.range n) List.pairwise_lt_range
theorem allO_lex (l : List Int) : (allO l ⟨#[]⟩).Pairwise LexLt := by
 unfold allO
 rw [growF_eq]
 exact (exts_lex _ _ _).filter _
theorem allO_nodup (l : List Int) : (allO l ⟨#[]⟩).Nodup := by
  rw [List.nodup_iff_pairwise_ne]
  exact (allO_lex l).imp (fun h => lex_ne h)
theorem allO_isP {l o : List Int} (h : o ∈ allO l ⟨#[]⟩) : IsP l.length o := by
 unfold allO at h
 rw [growF_eq, (layR_len l l.length).1] at h
 exact isP_of (List.mem_filter.1 h).1
theorem permB_of {n : Nat} {o : List Int} (h : IsP n o) : permB o n = true := decide_eq_true ⟨h.nd, fun s hs => (h.mem s).1 hs, h.len⟩
end Go.Proofs.Ytiknnpfdpecfdaa.Own
