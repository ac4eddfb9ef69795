/- The declarations of M11 that the claim Qv needs. -/
import Derived.Test.YtdldfdcedjmneaaQvM10
namespace Go.Proofs.Ytdldfdcedjmneaa.Pure
open Go.RowKit Go.Proofs.YtdldfdcedjmneaaW.PrintWords Go.Proofs.YtdldfdcedjmneaaW.PrintLast Go.Proofs.YtdldfdcedjmneaaW.PrintMore Go.Proofs.Ytdldfdcedjmneaa.Lx Go.Proofs.Ytdldfdcedjmneaa.Br
open Go.Proofs.Ytdldfdcedjmneaa.Own (lst lst_len lst_getD lst_rd lst_inj lst_of getD_set' wrap_s rd_nat checkF checkF_zero badL normF normL normF_nf normF_eq strap_Normal.f strap_Equal.f)
open Go.Proofs.Ytdldfdcedjmneaa.Pb (strap_formed.f strap_twist.f strap_Is.f slices_Reverse_int_int.f)
set_option linter.unusedVariables false
set_option linter.unusedSimpArgs false
section
variable {n : Nat}
theorem word_app {a b : List Int} (h1 : Word n a) (h2 : Word n b) : Word n (a ++ b) := fun k hk => (List.mem_append.1 hk).elim (h1 k) (h2 k)
theorem word_l2 (hn1 : 2 ≤ n) (hn : n ≤ 8) {L : List Pm} (hs : AllSup n L) (hm : L.length ≤ 10000) : ∀ (d i : Nat) (acc : List Int), i + d = L.length → acc.length + tot n (L.drop i) ≤ 10000 →
  ∃ ws : List Int, Word n ws ∧ ws.length = tot n (L.drop i) ∧ Ev (fun k => strap_Word.l2 k acc (L.map (lst n)) (L.length : Int) (i : Int)) (acc ++ ws, 0) ∧ ∀ (q : Int) (l : List Pm), AllSup n l → SEq n (rawW n (q, l) ws) (q, l ++ L.drop i) := by
 intro d
 induction d with
 | zero =>
  intro i acc hi ha
  rw [List.drop_of_length_le (by omega)] at ha ⊢
  refine ⟨[], (fun k hk => absurd hk (by simp)), rfl, Ev.step (f := fun _ => some (acc ++ [], (0 : Int))) (fun k => ?_) (Ev.now _), fun q l hl => ?_⟩
  ·simp only [strap_Word.l2]
   rw [if_neg (by omega), if_neg (by omega), List.append_nil]
  ·rw [List.append_nil]; exact SEq.refl hl
 | succ d ih =>
  intro i acc hi ha
  have hiL : i < L.length := by omega
  have ht : Sup n L[i] := hs _ (List.getElem_mem hiL)
  have hd : L.drop i = L[i] :: L.drop (i + 1) := List.drop_eq_getElem_cons hiL
  rw [hd, tot] at ha
  obtain ⟨w1, a1, a2, a3, a4⟩ := pw_ev (t := L[i]) hn1 (by omega) ht (by omega)
  obtain ⟨w2, b1, b2, b3, b4⟩ := ih (i + 1) (acc ++ w1) (by omega) (by rw [List.length_append]; omega)
  refine ⟨w1 ++ w2, word_app a1 b1, by rw [List.length_append, hd, tot]; omega, ?_, fun q l hl => ?_⟩
  ·rw [← List.append_assoc]
   refine Ev.step (f := fun k => (strap_perm_word.f k (lst n L[i])).bind fun t605 => (if acc.length + t605.length < 17592186044416 then (strap_Word.l2 k (acc ++ t605) (L.map (lst n)) (L.length : Int) ((i + 1 : Nat) : Int)) else (none))) (fun k => ?_) (Ev.bind a3 ?_)
   ·simp only [strap_Word.l2]
    rw [if_pos (by omega), if_pos (by omega), List.length_map, if_pos (by omega), rd_map hiL, wrap_s (by omega)]
   ·refine Ev.congr (fun k => ?_) b3
    rw [if_pos (by omega)]
  ·rw [rawW_app, hd]
   have c1 := rawW_seq hn1 b1 (a4 q l hl)
   have c2 := b4 q (l ++ [L[i]]) (hl.app (single ht))
   rw [List.append_assoc, List.singleton_append] at c2
   exact c1.trans hn1 c2
theorem word_l1 {x6 : List Int} {p : Int} {Ls : List (List Int)} {r : List Int × Int} (hx : x6.length ≤ 100) {a : Nat} (hal : a ≤ 100) : ∀ (d i : Nat) (acc : List Int), i + d = a → acc.length ≤ i * 100 →
  Ev (fun k => strap_Word.l2 k (acc ++ (List.replicate d x6).flatten) Ls (Ls.length : Int) 0) r → Ev (fun k => strap_Word.l1 k x6 acc (a : Int) (i : Int) p Ls) r := by
 intro d
 induction d with
 | zero =>
  intro i acc hi ha hr
  rw [List.replicate_zero, List.flatten_nil, List.append_nil] at hr
  refine Ev.step (fun k => ?_) hr
  simp only [strap_Word.l1]
  rw [if_neg (by omega)]
 | succ d ih =>
  intro i acc hi ha hr
  rw [List.replicate_succ, List.flatten_cons, ← List.append_assoc] at hr
  refine Ev.step (fun k => ?_) (ih (i + 1) (acc ++ x6) (by omega) (by rw [List.length_append]; omega) hr)
  simp only [strap_Word.l1]
  rw [if_pos (by omega), if_pos (by omega), wrap_s (by omega)]
theorem rep_word {x : List Int} (hx : Word n x) : ∀ a, Word n (List.replicate a x).flatten
  | 0 => fun k hk => absurd hk (by simp)
  | a + 1 => by rw [List.replicate_succ, List.flatten_cons]; exact word_app hx (rep_word hx a)
theorem rep_len {x : List Int} : ∀ a, (List.replicate a x).flatten.length = a * x.length
  | 0 => by simp
  | a + 1 => by rw [List.replicate_succ, List.flatten_cons, List.length_append, rep_len a, Nat.succ_mul]; omega
theorem rep_seq (hn1 : 2 ≤ n) {x : List Int} (hx : Word n x) {s : Int} (h : ∀ q, SEq n (rawW n (q, []) x) (q + s, [])) : ∀ (a : Nat) (q : Int), SEq n (rawW n (q, []) (List.replicate a x).flatten) (q + (a : Int) * s, [])
 | 0, q => by
  have e : q + ((0 : Nat) : Int) * s = q := by simp
  rw [e]
  exact SEq.refl AllSup.nil
 | a + 1, q => by
  rw [List.replicate_succ, List.flatten_cons, rawW_app]
  have c1 := rawW_seq hn1 (rep_word hx a) (h q)
  have c2 := rep_seq hn1 hx h a (q + s)
  have e : q + s + (a : Int) * s = q + ((a + 1 : Nat) : Int) * s := by push_cast; rw [Int.add_mul]; omega
  rw [e] at c2
  exact c1.trans hn1 c2
theorem word_j3 (hn1 : 2 ≤ n) (hn : n ≤ 8) {L : List Pm} (hs : AllSup n L) (hm : tot n L ≤ 5000) (hlm : L.length ≤ 5000) {p : Int} {x6 : List Int} (hx : Word n x6) (hxl : x6.length ≤ 28) {s : Int} (h : ∀ q, SEq n (rawW n (q, []) x6) (q + s, [])) {a : Nat} (ha : a ≤ 60) (hap : (a : Int) * s = p) (hmx : mx p (wrap64 (-p)) = (a : Int)) :
  ∃ v : List Int, Word n v ∧ Ev (fun k => strap_Word.j3 k x6 p (L.map (lst n))) (v, 0) ∧ SEq n (rawW n (0, []) v) (p, L) := by
 have hal : a * x6.length ≤ 60 * 28 := Nat.mul_le_mul ha hxl
 obtain ⟨ws, b1, b2, b3, b4⟩ := word_l2 hn1 hn hs (by omega) L.length 0 ((List.replicate a x6).flatten) (by omega) (by rw [List.drop_zero, rep_len]; omega)
 refine ⟨(List.replicate a x6).flatten ++ ws, word_app (rep_word hx a) b1, ?_, ?_⟩
 ·refine Ev.step (f := fun k => strap_Word.l1 k x6 [] (a : Int) 0 p (L.map (lst n))) (fun k => ?_) (word_l1 (by omega) (by omega) a 0 [] (by omega) (by simp) ?_)
  ·simp only [strap_Word.j3]
   rw [hmx]
  ·rw [List.nil_append, List.length_map]
   exact b3
 ·rw [rawW_app]
  have c1 := rep_seq hn1 hx h a 0
  rw [hap, Int.zero_add] at c1
  have c2 := b4 p [] AllSup.nil
  rw [List.drop_zero, List.nil_append] at c2
  exact (rawW_seq hn1 b1 c1).trans hn1 c2
theorem Word_ev (hn1 : 2 ≤ n) (hn : n ≤ 8) {L : List Pm} (hr : Rgt n L) (hs : AllSup n L) (hh : L.head? ≠ some (half n)) (hm : tot n L ≤ 5000) (hlm : L.length ≤ 5000) {p : Int} (hp1 : -60 ≤ p) (hp2 : p ≤ 60) :
    ∃ v : List Int, Word n v ∧ Ev (fun k => strap_Word.f k (n : Int) p (L.map (lst n))) (v, 0) ∧ SEq n (rawW n (0, []) v) (p, L) := by
  have ht := tri_pos hn1 hn
  obtain ⟨hw, w1, w2, w3, w4⟩ := pw_ev (t := half n) hn1 (by omega) (sup_half n) (by rw [inv_half]; omega)
  rw [inv_half] at w2
  have hH : ∀ q : Int, SEq n (rawW n (q, []) hw) (q + 1, []) := fun q => (w4 q [] AllSup.nil).trans hn1 (half_end hn1 q AllSup.nil)
  have hI : ∀ q : Int, SEq n (rawW n (q, []) (invL hw)) (q + -1, []) := fun q => by
    have k1 := rawW_inv hn1 (xs := hw) (x := (q - 1, [])) w1 AllSup.nil
    rw [rawW_app] at k1
    have k2 := rawW_seq hn1 (word_inv w1) (hH (q - 1))
    rw [show q - 1 + 1 = q by omega] at k2
    exact k2.symm.trans hn1 k1
  have hil : (invL hw).length = hw.length := by unfold invL; rw [List.length_reverse, List.length_map]
  have key : ∃ v : List Int, Word n v ∧ Ev (fun k => strap_Word.j1 k hw false p (L.map (lst n))) (v, 0) ∧ SEq n (rawW n (0, []) v) (p, L) := by
    by_cases hp : p < 0
    · obtain ⟨v, v1, v2, v3⟩ := word_j3 hn1 hn hs hm hlm (p := p) (x6 := invL hw) (word_inv w1) (by omega) hI (a := p.natAbs) (by omega) (by omega) (by
        have e : wrap64 (-p) = -p := by unfold wrap64; omega
        rw [e]; unfold mx; rw [if_pos (by omega)]; omega)
      refine ⟨v, v1, ?_, v3⟩
      have hneg := neg_l0 (N := hw.length) (by omega) (p := p) (Ls := L.map (lst n)) (r := (v, 0)) (fun x => hw.reverse.getD x 0) (fun x hx => by
        have hmem : hw.reverse.getD x 0 ∈ hw.reverse := by
          rw [List.getD_eq_getElem?_getD, List.getElem?_eq_getElem (by rw [List.length_reverse]; exact hx)]
          exact List.getElem_mem _
        obtain ⟨_, k1, k2⟩ := w1 _ (List.mem_reverse.1 hmem)
        omega) (T := invL hw) hil (fun x hx => by
        unfold invL
        rw [← List.map_reverse, List.getD_eq_getElem?_getD, List.getElem?_map, List.getD_eq_getElem?_getD, List.getElem?_eq_getElem (by rw [List.length_reverse]; exact hx)]
        rfl) v2 hw.length 0 hw.reverse (by omega) (by rw [List.length_reverse]) (fun x hx => by rw [if_neg (by omega)])
      refine Ev.step (f := fun k => (slices_Reverse_int_int.f k hw).bind fun t598 => (strap_Word.l0 k t598 (hw.length : Int) 0 p (L.map (lst n)))) (fun k => ?_) (Ev.bind (rev_ev (by omega)) hneg)
      simp only [strap_Word.j1, Bool.false_eq_true, if_false]
      rw [if_pos hp]
    · obtain ⟨v, v1, v2, v3⟩ := word_j3 hn1 hn hs hm hlm (p := p) (x6 := hw) w1 (by omega) hH (a := p.natAbs) (by omega) (by omega) (by
        have e : wrap64 (-p) = -p := by unfold wrap64; omega
        rw [e]; unfold mx; rw [if_neg (by omega)]; omega)
      refine ⟨v, v1, Ev.step (fun k => ?_) v2, v3⟩
      simp only [strap_Word.j1, Bool.false_eq_true, if_false]
      rw [if_neg hp]
  obtain ⟨v, v1, v2, v3⟩ := key
  refine ⟨v, v1, ?_, v3⟩
  unfold strap_Word.f
  refine Ev.step (f := fun k => (strap_formed.f k (n : Int) p (L.map (lst n))).bind fun t591 => (if t591 = true then ((strap_twist.f k (n : Int)).bind fun t592 => ((strap_perm_word.f k t592).bind fun t595 => (strap_Word.j1 k t595 false p (L.map (lst n))))) else (some (([] : List Int), 2)))) (fun k => ?_) ?_
  · rw [if_neg (by omega), decide_eq_false (by omega)]
    simp only [strap_Word.j0, Bool.false_eq_true, if_false]
    have g1 : ¬ p > 10000 := by omega
    simp only [g1, if_false, decide_eq_false (show ¬ p < -10000 by omega)]
  · refine Ev.bind (formed_ev p hr hs hh (by omega) (by omega) (by omega)) ?_
    simp only [if_true]
    refine Ev.bind (Own.twist_ev n (by omega) (by omega)) (Ev.bind w3 v2)
end
theorem StrapBack : gamplaw05_StrapBack.Pure := fun a0 l1 h0 h1 h2 h3 => by
  refine Ev.rounds ?_
  obtain ⟨ha, hb⟩ := u8_of h0
  obtain ⟨n, hs, hn1, hn2⟩ := strands_eq ha hb (c := 6) (.inr rfl)
  have hn3 : n ≤ 8 := by omega
  obtain ⟨xs, hw, hl, hev⟩ := word_ev hn1 hn3 (l := l1) (L := 16) (by omega) h3
  unfold gamplaw05_StrapBack.f
  rw [hs]
  simp only [Option.bind_some]
  refine Ev.bind hev ?_
  rw [normal_word' hn1 hn3 hw (by omega)]
  simp only [Option.bind_some, if_true]
  have hnf := normF_nf (n := n) hw
  have hsup := hnf.sup.2
  have hrgt := hnf.irr.rgt
  generalize hP : (normF n xs).1 = p at hnf hsup hrgt
  generalize hL : (normF n xs).2 = L at hnf hsup hrgt
  have hwgt : p * (tri n : Int) + (tot n L : Int) = (xs.map sgn).sum := by
    have h4 := hnf.wgt
    have h5 := rawW_wgt (n := n) (w := xs) (x := (0, [])) hw AllSup.nil
    have h6 : wgt n (p, L) = p * (tri n : Int) + (tot n L : Int) := rfl
    have h7 : wgt n ((rawW n (0, []) xs).1, (rawW n (0, []) xs).2) = wgt n (rawW n (0, []) xs) := rfl
    have h8 : wgt n (0, []) = 0 := by unfold wgt; simp [tot]
    rw [← h6, h4, h7, h5, h8]; omega
  have hlow := (rawW_low (n := n) (w := xs) (x := (0, []))).1
  obtain ⟨a, _, hpa⟩ := hnf.ex
  have hsg := sgn_le xs
  obtain ⟨ht1, ht2⟩ := tri_pos hn1 hn3
  have hp1 : -16 ≤ p := by simp only at hlow; omega
  have hp2 : p ≤ 16 := by
    refine Classical.byContradiction fun hc => ?_
    have : p * 1 ≤ p * (tri n : Int) := Int.mul_le_mul_of_nonneg_left (by omega) (by omega)
    omega
  have hpt1 : -(16 * 28) ≤ p * (tri n : Int) := by
    by_cases hp0 : 0 ≤ p
    · have := Int.mul_nonneg hp0 (show (0 : Int) ≤ (tri n : Int) by omega); omega
    · have h9 : (-p) * (tri n : Int) ≤ 16 * 28 := by
        have h10 : (-p) * (tri n : Int) ≤ (-p) * 28 := Int.mul_le_mul_of_nonneg_left (by omega) (by omega)
        omega
      rw [Int.neg_mul] at h9; omega
  have hlen := tot_len L hrgt hsup
  have hfm := formed_ev p hrgt hsup hnf.hd (by omega) (by omega) (by omega)
  have hIs : Ev (fun k => strap_Is.f k (n : Int) p (L.map (lst n))) (true, 0) := by
    unfold strap_Is.f
    refine Ev.congr (f := fun k => (strap_formed.f k (n : Int) p (L.map (lst n))).bind fun t => some (t, (0 : Int))) (fun k => ?_) (Ev.bind hfm (Ev.now _))
    rw [if_neg (by omega), if_neg (by omega)]
  obtain ⟨v, v1, v2, v3⟩ := Word_ev hn1 hn3 hrgt hsup hnf.hd (by omega) (by omega) (p := p) (by omega) (by omega)
  refine Ev.bind hIs (Ev.bind v2 ?_)
  simp only [if_true]
  refine Ev.bind lives_ev ?_
  simp only [if_true]
  by_cases hv : (v.length : Int) > 60
  · simp only [hv, if_true]
    exact Ev.now _
  · simp only [hv, if_false]
    exact Ev.bind (same_law hn1 hn3 hw v1 (by omega) (by omega) (hnf.seq.trans hn1 v3.symm)) (Ev.now _)
end Go.Proofs.Ytdldfdcedjmneaa.Pure
