/- The declarations of Sl3 that the claim Qe needs. -/
import Derived.Test.YtilabipmgcpnjaaQeSl2
namespace Go.Proofs.Ytilabipmgcpnjaa.Own
open Go.Proofs.Ytilabipmgcpnjaa.Tan
set_option linter.unusedVariables false
set_option linter.unusedSimpArgs false
def ints (l : List Nat) : List Int := l.map (fun a : Nat => (a : Int))
theorem mem_ints {l : List Nat} {a : Nat} : (a : Int) ∈ ints l ↔ a ∈ l := by
  unfold ints
  rw [List.mem_map]
  constructor
  · rintro ⟨b, hb, e⟩
    have : b = a := by omega
    exact this ▸ hb
  · exact fun h => ⟨a, h, rfl⟩
theorem ints_getD (l : List Nat) (k : Nat) : (ints l).getD k 0 = ((l.getD k 0 : Nat) : Int) := by
  unfold ints
  rw [List.getD_eq_getElem?_getD, List.getD_eq_getElem?_getD, List.getElem?_map]
  cases l[k]? <;> rfl
theorem ints_length (l : List Nat) : (ints l).length = l.length := List.length_map _
def firstN (L : List (List Int)) (a : Nat) : Nat := ((L.getD a []).headD 0).toNat
def secondI (L : List (List Int)) (a : Nat) : Int := (L.getD a []).getD 1 0
section
variable {Ls L : List (List Int)} {N : List Int}
def Step (Ls L : List (List Int)) (a b : Nat) : Prop := ∃ s, Second (rkOf Ls) (alOf L) a s ∧ Last (rkOf Ls) (alOf L) s b
def OkP (Ls L : List (List Int)) (N : List Int) (a : Nat) : Prop := a < Ls.length ∧ N.getD a 0 < 0 ∧ 1 < (L.getD a []).length
/-- A rotation, as a list. -/
structure IsRot (Ls L : List (List Int)) (N : List Int) (rn : List Nat) : Prop where
  ne : rn ≠ []
  nd : rn.Nodup
  ok : ∀ a ∈ rn, OkP Ls L N a
  ch : ∀ t, t < rn.length → Step Ls L (rn.getD t 0) (rn.getD ((t + 1) % rn.length) 0)
theorem two_list {l : List Int} (h : 1 < l.length) : ∃ a b r, l = a :: b :: r := by
  match l, h with
  | a :: b :: r, _ => exact ⟨a, b, r, rfl⟩
theorem two_of {l : List Int} {a b : Int} (ha : a ∈ l) (hb : b ∈ l) (hab : a ≠ b) : 1 < l.length := by
  match l, ha, hb with
  | [x], ha, hb =>
    rw [List.mem_singleton] at ha hb
    exact absurd (ha.trans hb.symm) hab
  | _ :: _ :: _, _, _ => simp
/-- The walk: it comes back, to a rotation. clo: who is in no party leads to none. -/
theorem walk_spec (hp : Pref Ls.length (rkOf Ls)) (h : TL Ls L) (hs : St Ls.length (rkOf Ls) (alOf L)) (hn : Ls.length ≤ 1000000) (hclo : ∀ a b, alOf L a b → N.getD a 0 < 0 → N.getD b 0 < 0) :
    ∀ (k : Nat) (sn : List Nat) (a : Nat), sn.Nodup → (∀ b ∈ sn, OkP Ls L N b) → OkP Ls L N a → (∀ t, t < sn.length → Step Ls L ((sn ++ [a]).getD t 0) ((sn ++ [a]).getD (t + 1) 0)) → Ls.length < k + sn.length →
      ∃ rn, walkF L k (ints sn) a = some (ints rn) ∧ IsRot Ls L N rn
  | 0, sn, a, hnd, hok, _, _, hk => by
    have := len_le_of_sub hnd (l2 := List.range Ls.length) (fun b hb => List.mem_range.2 (hok b hb).1)
    rw [List.length_range] at this
    omega
  | k + 1, sn, a, hnd, hok, hoa, hch, hk => by
    unfold walkF
    by_cases hm : (a : Int) ∈ ints sn
    · rw [if_pos hm]
      have hlt := List.idxOf_lt_length_of_mem hm
      obtain ⟨m, hme⟩ : ∃ m, (ints sn).idxOf (a : Int) = m := ⟨_, rfl⟩
      have hge : (ints sn)[(ints sn).idxOf (a : Int)] = (a : Int) := List.getElem_idxOf hlt
      rw [hme] at hlt ⊢
      rw [ints_length] at hlt
      have ham : sn.getD m 0 = a := by
        have h1 := ints_getD sn m
        rw [List.getD_eq_getElem?_getD, List.getElem?_eq_getElem (by rw [ints_length]; exact hlt)] at h1
        simp only [hme] at hge
        rw [hge] at h1
        simp only [Option.getD_some] at h1
        omega
      refine ⟨sn.drop m, by unfold ints; rw [List.map_drop], ?_⟩
      have hlen : (sn.drop m).length = sn.length - m := List.length_drop
      have hget : ∀ t, (sn.drop m).getD t 0 = sn.getD (m + t) 0 := fun t => by
        rw [List.getD_eq_getElem?_getD, List.getD_eq_getElem?_getD, List.getElem?_drop]
      have happ : ∀ t, t < sn.length → (sn ++ [a]).getD t 0 = sn.getD t 0 := fun t ht => by
        rw [List.getD_eq_getElem?_getD, List.getD_eq_getElem?_getD, List.getElem?_append_left ht]
      refine ⟨fun e => ?_, hnd.sublist (List.drop_sublist _ _), fun b hb => hok b (List.mem_of_mem_drop hb), fun t ht => ?_⟩
      · have := congrArg List.length e
        rw [hlen] at this
        simp only [List.length_nil] at this
        omega
      · rw [hlen] at ht ⊢
        have h1 := hch (m + t) (by omega)
        rw [happ _ (by omega)] at h1
        rw [hget, hget]
        by_cases hlast : t + 1 = sn.length - m
        · rw [hlast, Nat.mod_self, Nat.add_zero, ham]
          rw [show m + t + 1 = sn.length by omega] at h1
          rw [List.getD_eq_getElem?_getD (l := sn ++ [a]), List.getElem?_append_right (Nat.le_refl _), Nat.sub_self] at h1
          exact h1
        · rw [Nat.mod_eq_of_lt (by omega)]
          rw [happ _ (by omega)] at h1
          rw [show m + (t + 1) = m + t + 1 by omega]
          exact h1
    · rw [if_neg hm]
      have hsl := len_le_of_sub hnd (l2 := List.range Ls.length) (fun b hb => List.mem_range.2 (hok b hb).1)
      rw [List.length_range] at hsl
      have ha1 := hoa.1
      have hnm : a ∉ sn := fun e => hm (mem_ints.2 e)
      have hsl2 : sn.length + 1 ≤ Ls.length := by
        have := len_le_of_sub (l1 := a :: sn) (List.nodup_cons.2 ⟨hnm, hnd⟩) (l2 := List.range Ls.length) (fun b hb => by
          rcases List.mem_cons.1 hb with rfl | hb
          · exact List.mem_range.2 ha1
          · exact List.mem_range.2 (hok b hb).1)
        rw [List.length_range, List.length_cons] at this
        exact this
      have hc : 0 ≤ (a : Int) ∧ (a : Int) < (L.length : Int) ∧ (ints sn).length < 1000000 := by
        rw [h.len, ints_length]; omega
      rw [if_pos hc]
      obtain ⟨f, s, rest, hl⟩ := two_list hoa.2.2
      rw [show ((a : Int)).toNat = a by omega, hl]
      have hsm : s ∈ L.getD a [] := by rw [hl]; simp
      obtain ⟨hal, hse⟩ := h.mem ha1 hsm
      have hr := hs.tb.rng _ _ hal
      have hsc : 0 ≤ s ∧ s < (L.length : Int) := by rw [h.len]; omega
      simp only [if_pos hsc]
      have hsa := hs.tb.sym _ _ hal
      rcases hg : (L.getD s.toNat []).getLast? with _ | i'
      · rw [List.getLast?_eq_none_iff] at hg
        have := hsa.2
        rw [hg] at this
        cases this
      · simp only
        have hlast := h.last hr.2.1 hg
        obtain ⟨hlm, hle⟩ := h.mem hr.2.1 (x := i') (List.mem_of_getLast? hg)
        have hsec := h.second ha1 hl
        obtain ⟨hne, hfi, z, hz, hzy⟩ := walk_two hp hs hsec hlast
        have hok' : OkP Ls L N i'.toNat := by
          refine ⟨(hs.tb.rng _ _ hlm).2.1, hclo _ _ hlm (hclo _ _ hal hoa.2.1), ?_⟩
          exact two_of (a := (z : Int)) (b := ((s.toNat : Nat) : Int)) hz.2 hfi.1.2 (by omega)
        have hstep : Step Ls L a i'.toNat := ⟨_, hsec, hlast⟩
        have hints : ints sn ++ [(a : Int)] = ints (sn ++ [a]) := by unfold ints; simp
        rw [hints, ← hle]
        refine walk_spec hp h hs hn hclo k (sn ++ [a]) i'.toNat ?_ ?_ hok' ?_ (by rw [List.length_append, List.length_singleton]; omega)
        · rw [List.nodup_append]
          refine ⟨hnd, by simp, fun x hx y hy e => ?_⟩
          rw [List.mem_singleton] at hy
          exact hnm (by rw [← hy, ← e]; exact hx)
        · intro b hb
          rcases List.mem_append.1 hb with hb | hb
          · exact hok b hb
          · rw [List.mem_singleton] at hb
            exact hb ▸ hoa
        · intro t ht
          rw [List.length_append, List.length_singleton] at ht
          have e1 : ∀ t, t < sn.length + 1 → (sn ++ [a] ++ [i'.toNat]).getD t 0 = (sn ++ [a]).getD t 0 := fun t ht => by
            rw [List.getD_eq_getElem?_getD, List.getD_eq_getElem?_getD, List.getElem?_append_left (by rw [List.length_append, List.length_singleton]; exact ht)]
          rw [e1 t ht]
          by_cases hlt2 : t < sn.length
          · rw [e1 _ (by omega)]
            exact hch t hlt2
          · have : t = sn.length := by omega
            subst this
            have e2 : (sn ++ [a]).getD sn.length 0 = a := by
              rw [List.getD_eq_getElem?_getD, List.getElem?_append_right (Nat.le_refl _), Nat.sub_self]; rfl
            have e3 : (sn ++ [a] ++ [i'.toNat]).getD (sn.length + 1) 0 = i'.toNat := by
              rw [List.getD_eq_getElem?_getD, List.getElem?_append_right (by simp)]
              simp
            rw [e2, e3]
            exact hstep
theorem start_spec : ∀ is : List Nat, (match startF L N is with | none => ∀ i ∈ is, ¬ (1 < (L.getD i []).length ∧ N.getD i 0 < 0) | some s => s ∈ is ∧ 1 < (L.getD s []).length ∧ N.getD s 0 < 0)
  | [] => fun i hi => by cases hi
  | i :: is => by
    unfold startF
    by_cases h : 1 < (L.getD i []).length ∧ N.getD i 0 < 0
    · rw [if_pos h]; exact ⟨List.mem_cons_self, h⟩
    · rw [if_neg h]
      have ih := start_spec is
      split
      · rename_i e
        rw [e] at ih
        intro k hk
        rcases List.mem_cons.1 hk with rfl | hk
        · exact h
        · exact ih k hk
      · rename_i s e
        rw [e] at ih
        exact ⟨List.mem_cons_of_mem _ ih.1, ih.2⟩
/-- rotation: none, and all lists are short; or one. -/
theorem rotation_spec (hp : Pref Ls.length (rkOf Ls)) (h : TL Ls L) (hs : St Ls.length (rkOf Ls) (alOf L)) (hn : Ls.length ≤ 1000000) (hclo : ∀ a b, alOf L a b → N.getD a 0 < 0 → N.getD b 0 < 0) {K : Nat} (hK : Ls.length < K) :
    (rotationF K L N = some [] ∧ ∀ i, i < Ls.length → N.getD i 0 < 0 → (L.getD i []).length ≤ 1) ∨ ∃ rn, rotationF K L N = some (ints rn) ∧ IsRot Ls L N rn := by
  unfold rotationF
  have hst := start_spec (L := L) (N := N) (List.range L.length)
  split
  · rename_i e
    rw [e] at hst
    left
    refine ⟨rfl, fun i hi hN => ?_⟩
    have := hst i (List.mem_range.2 (by rw [h.len]; exact hi))
    omega
  · rename_i s e
    rw [e] at hst
    right
    have hs1 : s < Ls.length := by rw [← h.len]; exact List.mem_range.1 hst.1
    exact walk_spec hp h hs hn hclo K [] s List.nodup_nil (fun b hb => by cases hb) ⟨hs1, hst.2.2, hst.2.1⟩ (fun t ht => by simp at ht) (by simpa using hK)
end
end Go.Proofs.Ytilabipmgcpnjaa.Own
