/- The declarations of Sl2 that the claim Qe needs. -/
import Derived.Test.YtilabipmgcpnjaaQeSl1
namespace Go.Proofs.Ytilabipmgcpnjaa.Own
open Go.Proofs.Ytilabipmgcpnjaa.Tan
set_option linter.unusedVariables false
set_option linter.unusedSimpArgs false
/-- How many pairs are left. -/
def mu (n : Nat) (L : List (List Int)) : Nat := cnt (n * n) (fun z => alOf L (z / n) (z % n))
theorem cnt_lt {n : Nat} {A B : Nat → Prop} [DecidablePred A] [DecidablePred B] (h : ∀ x, x < n → A x → B x) {z : Nat} (hz : z < n) (hB : B z) (hA : ¬ A z) : cnt n A < cnt n B :=
  Nat.lt_of_not_le (fun hc => hA (cnt_eq_of h hc z hz hB))
theorem mu_le {n : Nat} {L L' : List (List Int)} (h : ∀ a b, alOf L' a b → alOf L a b) : mu n L' ≤ mu n L := cnt_mono (fun x _ hx => h _ _ hx)
theorem mu_lt {n : Nat} {L L' : List (List Int)} (h : ∀ a b, alOf L' a b → alOf L a b) {a b : Nat} (ha : a < n) (hb : b < n) (h1 : alOf L a b) (h2 : ¬ alOf L' a b) : mu n L' < mu n L := by
  have hn : 0 < n := by omega
  have e1 : (a * n + b) / n = a := by rw [Nat.mul_comm, Nat.mul_add_div hn, Nat.div_eq_of_lt hb, Nat.add_zero]
  have e2 : (a * n + b) % n = b := by rw [Nat.mul_comm, Nat.mul_add_mod, Nat.mod_eq_of_lt hb]
  refine cnt_lt (z := a * n + b) (fun x _ hx => h _ _ hx) ?_ (by rw [e1, e2]; exact h1) (by rw [e1, e2]; exact h2)
  have : (a + 1) * n ≤ n * n := Nat.mul_le_mul_right _ ha
  rw [Nat.succ_mul] at this
  omega
section
variable {Ls : List (List Int)}
theorem pass_spec (hp : Pref Ls.length (rkOf Ls)) : ∀ (is : List Nat) (L : List (List Int)) (more : Bool), TL Ls L → Tb Ls.length (rkOf Ls) (alOf L) → (∀ i ∈ is, i < Ls.length) →
    ∃ L' m', passF is L more = some (L', m') ∧ TL Ls L' ∧ Tb Ls.length (rkOf Ls) (alOf L') ∧ (∀ a b, alOf L' a b → alOf L a b) ∧
      (m' = false → more = false ∧ L' = L ∧ ∀ i ∈ is, ∀ j, First (rkOf Ls) (alOf L) i j → Last (rkOf Ls) (alOf L) j i) ∧ (more = false → m' = true → mu Ls.length L' < mu Ls.length L)
  | [], L, more, h, ht, _ => ⟨L, more, rfl, h, ht, fun _ _ h => h, fun hm => ⟨hm, rfl, fun i hi => by cases hi⟩, fun h1 h2 => by rw [h1] at h2; cases h2⟩
  | i :: is, L, more, h, ht, hi => by
    have hin := hi i List.mem_cons_self
    have his : ∀ k ∈ is, k < Ls.length := fun k hk => hi k (List.mem_cons_of_mem _ hk)
    unfold passF
    rcases hl : L.getD i [] with _ | ⟨j, rest⟩
    · obtain ⟨L', m', h1, h2, h3, h4, h5, h6⟩ := pass_spec hp is L more h ht his
      refine ⟨L', m', h1, h2, h3, h4, fun hm => ?_, h6⟩
      obtain ⟨a, b, c⟩ := h5 hm
      refine ⟨a, b, fun k hk => ?_⟩
      rcases List.mem_cons.1 hk with rfl | hk
      · intro z hz
        have := hz.1.2
        rw [hl] at this
        cases this
      · exact c k hk
    · have hf := h.first hin hl
      obtain ⟨hm, hje⟩ := h.mem hin (x := j) (by rw [hl]; exact List.mem_cons_self)
      have hr := ht.rng _ _ hm
      have hji := ht.sym _ _ hm
      have hj : 0 ≤ j ∧ j < (L.length : Int) := by rw [h.len]; omega
      simp only [if_pos hj]
      rcases hg : (L.getD j.toNat []).getLast? with _ | last
      · rw [List.getLast?_eq_none_iff] at hg
        have := hji.2
        rw [hg] at this
        cases this
      · simp only
        have hlast := h.last hr.2.1 hg
        obtain ⟨hlm, hle⟩ := h.mem hr.2.1 (x := last) (List.mem_of_getLast? hg)
        by_cases he : last = (i : Int)
        · rw [if_pos he]
          obtain ⟨L', m', h1, h2, h3, h4, h5, h6⟩ := pass_spec hp is L more h ht his
          refine ⟨L', m', h1, h2, h3, h4, fun hm => ?_, h6⟩
          obtain ⟨a, b, c⟩ := h5 hm
          refine ⟨a, b, fun k hk => ?_⟩
          rcases List.mem_cons.1 hk with rfl | hk
          · intro z hz
            rw [first_uniq hp ht hz hf]
            rw [he] at hlast
            simpa using hlast
          · exact c k hk
        · rw [if_neg he]
          obtain ⟨L1, hc, hT, hal⟩ := cutF_spec h ht.rng ht.sym hji
          have e : alOf L1 = cutR (rkOf Ls) (alOf L) j.toNat i := by funext u v; exact propext (hal u v)
          rw [hc, Option.bind_some]
          have ht1 : Tb Ls.length (rkOf Ls) (alOf L1) := by rw [e]; exact cut_tb ht hf
          obtain ⟨L', m', h1, h2, h3, h4, h5, h6⟩ := pass_spec hp is L1 true hT ht1 his
          have hsub : ∀ a b, alOf L1 a b → alOf L a b := fun a b h => ((hal a b).1 h).1
          refine ⟨L', m', h1, h2, h3, fun a b h => hsub a b (h4 a b h), fun hm => ?_, fun _ _ => ?_⟩
          · have := (h5 hm).1
            cases this
          · refine Nat.lt_of_le_of_lt (mu_le h4) (mu_lt hsub (ht.rng _ _ hlm).1 (ht.rng _ _ hlm).2.1 hlm (fun h => ?_))
            have h7 := ((hal _ _).1 h).2.1
            refine h7 ⟨rfl, Nat.lt_of_le_of_ne (hlast.2 i hji) (fun e2 => he ?_)⟩
            have := hp.inj _ _ _ hr.2.1 hr.1 (ht.rng _ _ hlm).2.1 e2
            omega
theorem propose_spec (hp : Pref Ls.length (rkOf Ls)) : ∀ (K : Nat) (L : List (List Int)), mu Ls.length L < K → TL Ls L → Tb Ls.length (rkOf Ls) (alOf L) →
    ∃ L', proposeF K L = some L' ∧ TL Ls L' ∧ St Ls.length (rkOf Ls) (alOf L') ∧ ∀ a b, alOf L' a b → alOf L a b
  | 0, _, hk, _, _ => by omega
  | K + 1, L, hk, h, ht => by
    obtain ⟨L', m', h1, h2, h3, h4, h5, h6⟩ := pass_spec hp (List.range L.length) L false h ht (fun i hi => by rw [← h.len]; exact List.mem_range.1 hi)
    unfold proposeF
    rw [h1, Option.bind_some]
    cases m' with
    | true =>
      have := h6 rfl rfl
      obtain ⟨L2, a1, a2, a3, a4⟩ := propose_spec hp K L' (by omega) h2 h3
      exact ⟨L2, by simpa using a1, a2, a3, fun a b h => h4 a b (a4 a b h)⟩
    | false =>
      obtain ⟨-, rfl, h7⟩ := h5 rfl
      exact ⟨L', by simp, h2, st_of hp h3 (fun x y hf => h7 x (List.mem_range.2 (by rw [h2.len]; exact (h3.rng _ _ hf.1).1)) y hf), fun _ _ h => h⟩
/-- On a stable table nobody proposes. -/
theorem propose_stays (hp : Pref Ls.length (rkOf Ls)) (K : Nat) {L : List (List Int)} (h : TL Ls L) (hs : St Ls.length (rkOf Ls) (alOf L)) : proposeF (K + 1) L = some L := by
  have go : ∀ is : List Nat, (∀ i ∈ is, i < Ls.length) → passF is L false = some (L, false) := by
    intro is
    induction is with
    | nil => intro _; rfl
    | cons i is ih =>
      intro hi
      have hin := hi i List.mem_cons_self
      have ih := ih (fun k hk => hi k (List.mem_cons_of_mem _ hk))
      unfold passF
      rcases hl : L.getD i [] with _ | ⟨j, rest⟩
      · exact ih
      · have hf := h.first hin hl
        obtain ⟨hm, hje⟩ := h.mem hin (x := j) (by rw [hl]; exact List.mem_cons_self)
        have hr := hs.tb.rng _ _ hm
        have hji := hs.tb.sym _ _ hm
        have hj : 0 ≤ j ∧ j < (L.length : Int) := by rw [h.len]; omega
        simp only [if_pos hj]
        rcases hg : (L.getD j.toNat []).getLast? with _ | last
        · rw [List.getLast?_eq_none_iff] at hg
          have := hji.2
          rw [hg] at this
          cases this
        · simp only
          have hlast := h.last hr.2.1 hg
          obtain ⟨hlm, hle⟩ := h.mem hr.2.1 (x := last) (List.mem_of_getLast? hg)
          have e := last_uniq hp hs.tb hlast ((hs.fl _ _).1 hf)
          rw [if_pos (by omega)]
          exact ih
  unfold proposeF
  rw [go _ (fun i hi => by rw [← h.len]; exact List.mem_range.1 hi), Option.bind_some]
  simp
end
end Go.Proofs.Ytilabipmgcpnjaa.Own
