/- The declarations of Pu20 that the claim Qb needs. -/
import Derived.Test.YtilabipmgcpnjaaQbPu18
import Derived.Test.YtilabipmgcpnjaaQbPu14
import Derived.Test.YtilabipmgcpnjaaQbFnx13
namespace Go.Proofs.Ytilabipmgcpnjaa.Pure
open Go.RowKit Go.Proofs.Ytilabipmgcpnjaa.Own Go.Proofs.Ytilabipmgcpnjaa.Fn Go.Proofs.YtilabipmgcpnjaaW.PrintWords Go.Proofs.YtilabipmgcpnjaaW.PrintLast Go.Proofs.YtilabipmgcpnjaaW.PrintMore Go.Proofs.Ytilabipmgcpnjaa.Tan Go.Proofs.Ytilabipmgcpnjaa.Cyc
set_option linter.unusedVariables false
set_option linter.unusedSimpArgs false
theorem u16_list20 {l : List Int} (h : ∀ x ∈ l, (Lit.int .u16 x).wf = true) : ∀ x ∈ l, 0 ≤ x ∧ x < 65536 := fun x hx => by
  have := h x hx
  simp [Lit.wf] at this
  have e1 : IntKind.u16.min = 0 := by decide
  have e2 : IntKind.u16.max = 65535 := by decide
  omega
theorem u8_in20 {x : Int} (h : (Lit.int .u8 x).wf = true) : 0 ≤ x ∧ x < 256 := by
  simp [Lit.wf] at h
  have e1 : IntKind.u8.min = 0 := by decide
  have e2 : IntKind.u8.max = 255 := by decide
  omega
section
variable {Ls : List (List Int)} {R m : List Int}
def aloneF (m : List Int) (i d : Nat) : List (List Int) := ((List.range' i d).filter (fun k => decide (m.getD k 0 < 0))).map (fun (k : Nat) => [(k : Int)])
theorem alone_eq (hv : Valid Ls) (hs : Sol Ls R) (hm : MatOk Ls.length m) (hst : Part Ls.length (rkOf Ls) (ow m) (ow m)) : aloneF m 0 Ls.length = (odds (nx R) Ls.length).map ints := by
  rw [odds_matching hv hs hm hst]
  unfold aloneF
  rw [List.map_map, List.range_eq_range']
  have : (List.range' 0 Ls.length).filter (fun k => decide (m.getD k 0 < 0)) = (List.range' 0 Ls.length).filter (fun i => decide (ow m i = i)) := by
    apply List.filter_congr
    intro k hk
    rw [List.mem_range'_1] at hk
    apply decide_eq_decide.2
    rcases ow_at hm (i := k) (by omega) with ⟨h1, h2⟩ | ⟨h1, h2, h3, _⟩
    · rw [h1, h2]; simp
    · constructor
      · intro h; omega
      · intro h; exact absurd h h3
  rw [this]
  rfl
theorem alone_few (hv : Valid Ls) (hm : MatOk Ls.length m) (hst : Part Ls.length (rkOf Ls) (ow m) (ow m)) : (aloneF m 0 Ls.length).length ≤ 1 := by
  unfold aloneF
  rw [List.length_map]
  have hnd : ((List.range' 0 Ls.length).filter (fun k => decide (m.getD k 0 < 0))).Nodup := List.Nodup.sublist List.filter_sublist List.nodup_range'
  have hmem : ∀ x ∈ (List.range' 0 Ls.length).filter (fun k => decide (m.getD k 0 < 0)), x < Ls.length ∧ ow m x = x := by
    intro x hx
    rw [List.mem_filter, List.mem_range'_1, decide_eq_true_eq] at hx
    refine ⟨by omega, ?_⟩
    rcases ow_at hm (i := x) (by omega) with ⟨_, h2⟩ | ⟨h1, _⟩
    · exact h2
    · omega
  generalize (List.range' 0 Ls.length).filter (fun k => decide (m.getD k 0 < 0)) = l at hnd hmem
  match l, hnd, hmem with
  | [], _, _ => simp
  | [_], _, _ => simp
  | a :: b :: l, hnd, hmem =>
    exfalso
    obtain ⟨ha, ha2⟩ := hmem a List.mem_cons_self
    obtain ⟨hb, hb2⟩ := hmem b (List.mem_cons_of_mem _ List.mem_cons_self)
    have hne : a ≠ b := by
      rw [List.nodup_cons] at hnd
      exact fun e => hnd.1 (by rw [e]; exact List.mem_cons_self)
    have hp := hv.pref
    exact hst.no a b ha hb hne (by rw [ha2]; exact hp.self a b ha hb hne.symm) (by rw [hb2]; exact hp.self b a hb ha hne)
theorem pa_l1 {o S : List (List Int)} {i : Nat} (hi : i < S.length) (hS : S.length ≤ 100000000000) (hml : (S.getD i []).length = Ls.length) (hn : Ls.length ≤ 24) {r : Bool} : ∀ (d j : Nat) (out : List (List Int)), j + d = Ls.length → out.length ≤ j →
    Ev (fun k => if ((out ++ aloneF (S.getD i []) j d).length : Int) > 1 then some false else (gampref07_Same.f k (out ++ aloneF (S.getD i []) j d) o).bind fun t458 => if t458 = true then gamplaw07_PairAlone.l0 k Ls o S ((i + 1 : Nat) : Int) else some false) r →
    Ev (fun k => gamplaw07_PairAlone.l1 k Ls o S (i : Int) out (j : Int)) r
  | 0, j, out, hd, ho, h => by
    have e : aloneF (S.getD i []) j 0 = [] := rfl
    rw [e, List.append_nil] at h
    have hw : wrap64 ((i : Int) + 1) = ((i + 1 : Nat) : Int) := by unfold wrap64; omega
    refine Ev.step (fun k => ?_) h
    simp only [gamplaw07_PairAlone.l1]
    rw [if_neg (by omega), hw]
  | d + 1, j, out, hd, ho, h => by
    have hg : rd (rd_L1 S (i : Int)) (j : Int) = (S.getD i []).getD j 0 := by rw [rdL_get, rd_nat]
    have hgl : (rd_L1 S (i : Int)).length = Ls.length := by rw [rdL_get, hml]
    by_cases h0 : (S.getD i []).getD j 0 < 0
    · have e : out ++ aloneF (S.getD i []) j (d + 1) = (out ++ [[(j : Int)]]) ++ aloneF (S.getD i []) (j + 1) d := by
        unfold aloneF
        rw [List.range'_succ, List.filter_cons, if_pos (by simpa using h0), List.map_cons, List.append_assoc]; rfl
      rw [e] at h
      refine Ev.step (fun k => ?_) (pa_l1 hi hS hml hn d (j + 1) (out ++ [[(j : Int)]]) (by omega) (by rw [List.length_append, List.length_singleton]; omega) h)
      simp only [gamplaw07_PairAlone.l1]
      rw [if_pos (by omega), if_pos (by omega), if_pos (by omega), if_pos (by omega), if_pos (by omega), hg, if_pos h0, if_pos (by omega), wrap_s (by omega)]
    · have e : out ++ aloneF (S.getD i []) j (d + 1) = out ++ aloneF (S.getD i []) (j + 1) d := by
        unfold aloneF
        rw [List.range'_succ, List.filter_cons, if_neg (by simpa using h0)]
      rw [e] at h
      refine Ev.step (fun k => ?_) (pa_l1 hi hS hml hn d (j + 1) out (by omega) (by omega) h)
      simp only [gamplaw07_PairAlone.l1]
      rw [if_pos (by omega), if_pos (by omega), if_pos (by omega), if_pos (by omega), if_pos (by omega), hg, if_neg h0, wrap_s (by omega)]
theorem pa_l0 (hv : Valid Ls) (hs : Sol Ls R) {S : List (List Int)} (hS : S.length ≤ 100000000000) (hst : ∀ s ∈ S, MatOk Ls.length s ∧ Part Ls.length (rkOf Ls) (ow s) (ow s)) : ∀ (d i : Nat), i + d = S.length →
    Ev (fun k => gamplaw07_PairAlone.l0 k Ls ((odds (nx R) Ls.length).map ints) S (i : Int)) true
  | 0, i, hd => Ev.step (f := fun _ => some true) (fun k => by simp only [gamplaw07_PairAlone.l0]; rw [if_neg (by omega)]) (Ev.now _)
  | d + 1, i, hd => by
    have h24 := hv.2.1
    have hi : i < S.length := by omega
    have hg : S.getD i [] = S[i] := by rw [List.getD_eq_getElem?_getD, List.getElem?_eq_getElem hi]; rfl
    obtain ⟨hm, hpt⟩ := hst _ (List.getElem_mem hi)
    rw [← hg] at hm hpt
    have h1 := pa_l1 (o := (odds (nx R) Ls.length).map ints) hi hS hm.1 h24 (r := true) Ls.length 0 [] (by omega) (by simp) (by
      have hf := alone_few hv hm hpt
      rw [List.nil_append]
      refine Ev.congr (fun k => by rw [if_neg (by omega), alone_eq hv hs hm hpt]) (Ev.bind (odds_same_ev (perm2_of (sol_perm hv hs)) (by omega)) ?_)
      simp only [if_true]
      exact pa_l0 hv hs hS hst d (i + 1) (by omega))
    refine Ev.step (fun k => ?_) h1
    simp only [gamplaw07_PairAlone.l0]
    rw [if_pos (by omega)]; rfl
end
theorem PairAlone : gamplaw07_PairAlone.Pure := by
  intro a0 l1 w0 _ _ wl
  obtain ⟨h0, h1⟩ := u8_in20 w0
  refine Ev.rounds ?_
  obtain ⟨Ls, hv, hmost, _, hmade⟩ := made_ev a0 (u16_list20 wl) h0 h1 7 (by omega) (by omega)
  obtain ⟨P, hP, _⟩ := readF_valid hv
  obtain ⟨R, hs, _, e2, e3⟩ := partition_ev hv
  obtain ⟨S, s1, s2, s3⟩ := stable_ev hP hmost
  unfold gamplaw07_PairAlone.f
  refine Ev.bind hmade (Ev.bind e2 ?_)
  simp only [if_true]
  refine Ev.bind lives_ev ?_
  refine Ev.step (fun k => by simp only [gamplaw07_PairAlone.j0, Bool.not_true, Bool.false_eq_true, if_false]; rfl) (Ev.bind s3 ?_)
  exact pa_l0 hv hs s1 (fun s h => (s2 s).1 h) S.length 0 (by omega)
end Go.Proofs.Ytilabipmgcpnjaa.Pure
