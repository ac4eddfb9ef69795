/- The declarations of Sl5 that the claim Qe needs. -/
import Derived.Test.YtilabipmgcpnjaaQeSl4
namespace Go.Proofs.Ytilabipmgcpnjaa.Own
open Go.Proofs.Ytilabipmgcpnjaa.Tan
set_option linter.unusedVariables false
set_option linter.unusedSimpArgs false
def nx (N : List Int) (a : Nat) : Nat := (N.getD a 0).toNat
/-- What is known of the people of the parties so far. -/
structure As (Ls L : List (List Int)) (N : List Int) : Prop where
  len : N.length = Ls.length
  val : ∀ a, a < Ls.length → 0 ≤ N.getD a 0 → First (rkOf Ls) (alOf L) a (nx N a)
  clo : ∀ a b, alOf L a b → 0 ≤ N.getD a 0 → 0 ≤ N.getD b 0
  sho : ∀ a b, alOf L a b → 0 ≤ N.getD a 0 → First (rkOf Ls) (alOf L) a b ∨ Last (rkOf Ls) (alOf L) a b
  odd : ∀ a, a < Ls.length → 0 ≤ N.getD a 0 → Od (nx N) a
theorem rep_congr {p f : Nat → Nat} {P : Nat → Prop} (hc : ∀ b, P b → P (p b)) (he : ∀ b, P b → f b = p b) {a : Nat} (ha : P a) : ∀ m, Nat.repeat f m a = Nat.repeat p m a ∧ P (Nat.repeat p m a)
  | 0 => ⟨rfl, ha⟩
  | m + 1 => by
    obtain ⟨h1, h2⟩ := rep_congr hc he ha m
    rw [rep_succ, rep_succ, h1, he _ h2]
    exact ⟨rfl, hc _ h2⟩
theorem Od.congr {p f : Nat → Nat} {P : Nat → Prop} (hc : ∀ b, P b → P (p b)) (he : ∀ b, P b → f b = p b) {a : Nat} (ha : P a) (h : Od p a) : Od f a := by
  obtain ⟨m, hm⟩ := h
  exact ⟨m, by rw [(rep_congr hc he ha _).1, hm]⟩
section
variable {Ls L : List (List Int)} {N : List Int} {rn : List Nat}
theorem As.next (hA : As Ls L N) (hs : St Ls.length (rkOf Ls) (alOf L)) {a : Nat} (h : a < Ls.length ∧ 0 ≤ N.getD a 0) : nx N a < Ls.length ∧ 0 ≤ N.getD (nx N a) 0 := by
  have hf := hA.val a h.1 h.2
  exact ⟨(hs.tb.rng _ _ hf.1).2.1, hA.clo _ _ hf.1 h.2⟩
theorem assign_spec (h : TL Ls L) : ∀ (l : List Nat) (N : List Int), N.length = Ls.length → (∀ a ∈ l, a < Ls.length ∧ 1 < (L.getD a []).length) →
    ∃ N', assignF L (ints l) N = some N' ∧ N'.length = Ls.length ∧ ∀ a, N'.getD a 0 = if a ∈ l then (firstN L a : Int) else N.getD a 0
  | [], N, hl, _ => ⟨N, rfl, hl, fun a => by simp⟩
  | a :: l, N, hl, hok => by
    obtain ⟨h1, h2⟩ := hok a List.mem_cons_self
    obtain ⟨f, s, r, he, _, h3, _⟩ := h.two h1 h2
    obtain ⟨N', e1, e2, e3⟩ := assign_spec h l (N.set a f) (by rw [List.length_set]; exact hl) (fun b hb => hok b (List.mem_cons_of_mem _ hb))
    refine ⟨N', ?_, e2, fun b => ?_⟩
    · show assignF L ((a : Int) :: ints l) N = _
      unfold assignF
      rw [if_pos (by rw [h.len]; omega), show ((a : Nat) : Int).toNat = a by omega, he]
      exact e1
    · rw [e3, getD_set]
      by_cases hb : b ∈ l
      · rw [if_pos hb, if_pos (List.mem_cons_of_mem _ hb)]
      · rw [if_neg hb]
        by_cases hba : a = b
        · subst hba
          rw [if_pos ⟨rfl, by rw [hl]; exact h1⟩, if_pos List.mem_cons_self, h3]
        · rw [if_neg (fun e => hba e.1), if_neg (fun e => by
            rcases List.mem_cons.1 e with e | e
            · exact hba e.symm
            · exact hb e)]
theorem as_party (hr : IsRot Ls L N rn) (hp : Pref Ls.length (rkOf Ls)) (h : TL Ls L) (hs : St Ls.length (rkOf Ls) (alOf L)) (hA : As Ls L N) (hP : Party (alOf L) (xOf rn) (yOf L rn)) {N' : List Int} (hl : N'.length = Ls.length)
    (hN : ∀ a, N'.getD a 0 = if a ∈ rn then (firstN L a : Int) else N.getD a 0) : As Ls L N' := by
  have hR := hr.rotn hp h hs
  have hin : ∀ a, a ∈ rn → nx N' a = firstN L a := fun a ha => by unfold nx; rw [hN, if_pos ha]; omega
  have hout : ∀ a, a ∉ rn → nx N' a = nx N a := fun a ha => by unfold nx; rw [hN, if_neg ha]
  have hpos : ∀ a, 0 ≤ N.getD a 0 → 0 ≤ N'.getD a 0 := fun a ha => by
    rw [hN]; split
    · omega
    · exact ha
  have hpin : ∀ a, a ∈ rn → 0 ≤ N'.getD a 0 := fun a ha => by rw [hN, if_pos ha]; omega
  have hold : ∀ a, 0 ≤ N'.getD a 0 → a ∉ rn → 0 ≤ N.getD a 0 := fun a ha hna => by rw [hN, if_neg hna] at ha; exact ha
  have hnot : ∀ a, 0 ≤ N.getD a 0 → a ∉ rn := fun a ha hm => by have := (hr.ok a hm).2.1; omega
  refine ⟨hl, fun a ha h0 => ?_, fun a b hab h0 => ?_, fun a b hab h0 => ?_, fun a ha h0 => ?_⟩
  · by_cases hm : a ∈ rn
    · rw [hin a hm]
      obtain ⟨_, _, _, _, h1, _⟩ := h.two ha (hr.ok a hm).2.2
      exact h1
    · rw [hout a hm]
      exact hA.val a ha (hold a h0 hm)
  · by_cases hm : a ∈ rn
    · obtain ⟨k, _, rfl⟩ := hr.at hm
      rcases (hP k).1 b hab with e | e
      · obtain ⟨m, hm⟩ := (hP k).2
        rw [e, hm]; exact hpin _ (hr.mem m)
      · obtain ⟨m, hm⟩ := (hP (k + 1)).2
        rw [e, hm]; exact hpin _ (hr.mem m)
    · exact hpos _ (hA.clo a b hab (hold a h0 hm))
  · by_cases hm : a ∈ rn
    · obtain ⟨k, _, rfl⟩ := hr.at hm
      rcases (hP k).1 b hab with e | e
      · left; rw [e]; exact hR.first hs k
      · right; rw [e]; exact party_last hR hp hs hP k
    · exact hA.sho a b hab (hold a h0 hm)
  · by_cases hm : a ∈ rn
    · obtain ⟨k, _, rfl⟩ := hr.at hm
      exact party_odd hR hp hs hP (f := nx N') (fun k => hin _ (hr.mem k)) k
    · have h1 := hold a h0 hm
      refine Od.congr (p := nx N) (P := fun b => b < Ls.length ∧ 0 ≤ N.getD b 0) (fun b hb => hA.next hs hb) (fun b hb => hout b (hnot b hb.2)) ⟨ha, h1⟩ (hA.odd a ha h1)
theorem as_turn (hr : IsRot Ls L N rn) (hp : Pref Ls.length (rkOf Ls)) (h : TL Ls L) (hs : St Ls.length (rkOf Ls) (alOf L)) (hA : As Ls L N) {L' : List (List Int)}
    (hal : ∀ a b, alOf L' a b ↔ turnM (rkOf Ls) (alOf L) (xOf rn) (yOf L rn) rn.length a b) : As Ls L' N := by
  have hR := hr.rotn hp h hs
  have hkeep : ∀ a b, 0 ≤ N.getD a 0 → alOf L a b → alOf L' a b := by
    intro a b h0 hab
    have hb := hA.clo _ _ hab h0
    have hno : ∀ c k, 0 ≤ N.getD c 0 → c ≠ yOf L rn (k + 1) := by
      intro c k hc e
      have h1 := (hR.sec_ne hp hs k).2.1
      rw [← e] at h1
      have h2 := hA.clo _ _ (hs.tb.sym _ _ h1) hc
      have := (hr.ok _ (hr.mem k)).2.1
      omega
    exact (hal a b).2 ⟨hab, fun k _ => ⟨fun e => hno a k h0 e.1, fun e => hno b k hb e.1⟩⟩
  have hsub : ∀ a b, alOf L' a b → alOf L a b := fun a b hh => ((hal a b).1 hh).1
  refine ⟨hA.len, fun a ha h0 => ?_, fun a b hab h0 => hA.clo a b (hsub _ _ hab) h0, fun a b hab h0 => ?_, hA.odd⟩
  · have hf := hA.val a ha h0
    exact ⟨hkeep _ _ h0 hf.1, fun z hz => hf.2 z (hsub _ _ hz)⟩
  · rcases hA.sho a b (hsub _ _ hab) h0 with hf | hl
    · left; exact ⟨hab, fun z hz => hf.2 z (hsub _ _ hz)⟩
    · right; exact ⟨hab, fun z hz => hl.2 z (hsub _ _ hz)⟩
theorem finish_spec (L : List (List Int)) : ∀ (is : List Nat) (N : List Int), is.Nodup → (∀ i ∈ is, i < N.length) →
    (finishF L N is).length = N.length ∧ ∀ a, (finishF L N is).getD a 0 = if a ∈ is ∧ N.getD a 0 < 0 then (match L.getD a [] with | [] => (a : Int) | j :: _ => j) else N.getD a 0
  | [], N, _, _ => ⟨rfl, fun a => by simp [finishF]⟩
  | i :: is, N, hnd, hi => by
    have hnd' := List.nodup_cons.1 hnd
    unfold finishF
    by_cases h0 : N.getD i 0 ≥ 0
    · rw [if_pos h0]
      obtain ⟨h1, h2⟩ := finish_spec L is N hnd'.2 (fun k hk => hi k (List.mem_cons_of_mem _ hk))
      refine ⟨h1, fun a => ?_⟩
      rw [h2]
      by_cases ha : a ∈ is ∧ N.getD a 0 < 0
      · rw [if_pos ha, if_pos ⟨List.mem_cons_of_mem _ ha.1, ha.2⟩]
      · rw [if_neg ha, if_neg]
        rintro ⟨hm, hneg⟩
        rcases List.mem_cons.1 hm with rfl | hm
        · omega
        · exact ha ⟨hm, hneg⟩
    · rw [if_neg h0]
      have hil := hi i List.mem_cons_self
      have key : ∀ v : Int, (finishF L (N.set i v) is).length = N.length ∧ ∀ a, (finishF L (N.set i v) is).getD a 0 = if a = i then v else if a ∈ is ∧ N.getD a 0 < 0 then (match L.getD a [] with | [] => (a : Int) | j :: _ => j) else N.getD a 0 := by
        intro v
        obtain ⟨h1, h2⟩ := finish_spec L is (N.set i v) hnd'.2 (fun k hk => by rw [List.length_set]; exact hi k (List.mem_cons_of_mem _ hk))
        rw [List.length_set] at h1
        refine ⟨h1, fun a => ?_⟩
        by_cases ha : a = i
        · subst ha
          rw [h2, if_neg (fun e => hnd'.1 e.1), getD_set, if_pos rfl, if_pos ⟨rfl, hil⟩]
        · rw [h2, show (N.set i v).getD a 0 = N.getD a 0 from by rw [getD_set, if_neg (fun e => ha e.1.symm)], if_neg ha]
      have fin : ∀ v : Int, (match L.getD i [] with | [] => (i : Int) | j :: _ => j) = v → ∀ a, (if a = i then v else if a ∈ is ∧ N.getD a 0 < 0 then (match L.getD a [] with | [] => (a : Int) | j :: _ => j) else N.getD a 0) = if a ∈ i :: is ∧ N.getD a 0 < 0 then (match L.getD a [] with | [] => (a : Int) | j :: _ => j) else N.getD a 0 := by
        intro v hv a
        by_cases ha : a = i
        · subst ha
          rw [if_pos rfl, if_pos ⟨List.mem_cons_self, by omega⟩, hv]
        · rw [if_neg ha]
          by_cases hb : a ∈ is ∧ N.getD a 0 < 0
          · rw [if_pos hb, if_pos ⟨List.mem_cons_of_mem _ hb.1, hb.2⟩]
          · rw [if_neg hb, if_neg]
            rintro ⟨hm, hneg⟩
            rcases List.mem_cons.1 hm with e | hm
            · exact ha e
            · exact hb ⟨hm, hneg⟩
      rcases hl : L.getD i [] with _ | ⟨j, rest⟩
      · simp only
        obtain ⟨h1, h2⟩ := key (i : Int)
        exact ⟨h1, fun a => (h2 a).trans (fin _ (by rw [hl]) a)⟩
      · simp only
        obtain ⟨h1, h2⟩ := key j
        exact ⟨h1, fun a => (h2 a).trans (fin _ (by rw [hl]) a)⟩
/-- What solve returns. -/
structure Sol (Ls : List (List Int)) (R : List Int) : Prop where
  len : R.length = Ls.length
  pos : ∀ a, a < Ls.length → 0 ≤ R.getD a 0
  part : ∃ q, Part Ls.length (rkOf Ls) (nx R) q
  inv : (∀ a, a < Ls.length → Od (nx R) a → nx R a = a) → ∀ a, a < Ls.length → nx R (nx R a) = a
theorem finish_sol (hp : Pref Ls.length (rkOf Ls)) (h : TL Ls L) (hs : St Ls.length (rkOf Ls) (alOf L)) (hA : As Ls L N) (hsh : ∀ i, i < Ls.length → N.getD i 0 < 0 → (L.getD i []).length ≤ 1) :
    Sol Ls (finishF L N (List.range L.length)) := by
  obtain ⟨f1, f2⟩ := finish_spec L (List.range L.length) N List.nodup_range (fun i hi => by rw [hA.len, ← h.len]; exact List.mem_range.1 hi)
  generalize finishF L N (List.range L.length) = R at f1 f2 ⊢
  have hval : ∀ a, a < Ls.length → R.getD a 0 = if N.getD a 0 < 0 then (match L.getD a [] with | [] => (a : Int) | j :: _ => j) else N.getD a 0 := fun a ha => by
    rw [f2]
    by_cases hneg : N.getD a 0 < 0
    · rw [if_pos ⟨List.mem_range.2 (by rw [h.len]; exact ha), hneg⟩, if_pos hneg]
    · rw [if_neg (fun e => hneg e.2), if_neg hneg]
  have hone : ∀ a, a < Ls.length → (∃ z, alOf L a z) → First (rkOf Ls) (alOf L) a (nx R a) := by
    intro a ha hz
    by_cases hneg : N.getD a 0 < 0
    · rcases hl : L.getD a [] with _ | ⟨j, rest⟩
      · obtain ⟨z, hz⟩ := hz
        have := hz.2
        rw [hl] at this
        cases this
      · have hf := h.first ha hl
        unfold nx
        rw [hval a ha, if_pos hneg, hl]
        exact hf
    · have hf := hA.val a ha (by omega)
      unfold nx
      rw [hval a ha, if_neg hneg]
      exact hf
  have hempty : ∀ a, a < Ls.length → (¬ ∃ z, alOf L a z) → nx R a = a := by
    intro a ha hz
    have hneg : N.getD a 0 < 0 := by
      apply Int.not_le.1
      intro h0
      exact hz ⟨_, (hA.val a ha h0).1⟩
    have hl : L.getD a [] = [] := by
      rcases hl : L.getD a [] with _ | ⟨j, rest⟩
      · rfl
      · exact absurd ⟨_, (h.first ha hl).1⟩ hz
    unfold nx
    rw [hval a ha, if_pos hneg, hl]
    simp
  have hshort : ∀ x z, alOf L x z → First (rkOf Ls) (alOf L) x z ∨ Last (rkOf Ls) (alOf L) x z := by
    intro x z hxz
    by_cases hneg : N.getD x 0 < 0
    · have hx := (hs.tb.rng _ _ hxz).1
      left
      have h1 := hsh x hx hneg
      rcases hl : L.getD x [] with _ | ⟨j, rest⟩
      · have := hxz.2
        rw [hl] at this
        cases this
      · have hr0 : rest = [] := by
          rw [hl] at h1
          simp only [List.length_cons] at h1
          exact List.length_eq_zero_iff.1 (by omega)
        subst hr0
        have hm := hxz.2
        rw [hl, List.mem_singleton] at hm
        have hf := h.first hx hl
        have e : j.toNat = z := by omega
        rw [e] at hf
        exact hf
    · exact hA.sho x z hxz (by omega)
  refine ⟨f1.trans hA.len, fun a ha => ?_, ?_, fun hodd a ha => ?_⟩
  · rw [hval a ha]
    split
    · rcases hl : L.getD a [] with _ | ⟨j, rest⟩
      · simp
      · exact h.rng a ha j (by rw [hl]; simp)
    · omega
  · have hq : ∀ a, ∃ b, a < Ls.length → ((∃ z, alOf L a z) → Last (rkOf Ls) (alOf L) a b) ∧ ((¬ ∃ z, alOf L a z) → b = a) := fun a => by
      by_cases hz : ∃ z, alOf L a z
      · obtain ⟨b, hb⟩ := ex_last (rk := rkOf Ls) hs.tb hz
        exact ⟨b, fun _ => ⟨fun _ => hb, fun e => absurd hz e⟩⟩
      · exact ⟨a, fun _ => ⟨fun e => absurd e hz, fun _ => rfl⟩⟩
    refine ⟨fun a => Classical.choose (hq a), final_part hp hs hshort (fun x hx hz => ⟨hone x hx hz, (Classical.choose_spec (hq x) hx).1 hz⟩) (fun x hx hz => ⟨hempty x hx hz, (Classical.choose_spec (hq x) hx).2 hz⟩)⟩
  · -- nobody is in a party
    have hun : ∀ a, a < Ls.length → N.getD a 0 < 0 := by
      intro a ha
      apply Int.not_le.1
      intro h0
      have ho : Od (nx R) a := by
        refine Od.congr (p := nx N) (P := fun b => b < Ls.length ∧ 0 ≤ N.getD b 0) (fun b hb => hA.next hs hb) (fun b hb => ?_) ⟨ha, h0⟩ (hA.odd a ha h0)
        unfold nx
        rw [hval b hb.1, if_neg (by omega)]
      have h1 := hodd a ha ho
      have hf := hA.val a ha h0
      have h2 := first_uniq hp hs.tb hf (hone a ha ⟨_, hf.1⟩)
      rw [h1] at h2
      exact (hs.tb.rng _ _ hf.1).2.2 h2.symm
    by_cases hz : ∃ z, alOf L a z
    · have hf := hone a ha hz
      have hl := (hs.fl _ _).1 hf
      have hb := (hs.tb.rng _ _ hl.1).1
      have hf2 := hone _ hb ⟨_, hl.1⟩
      -- the list has one element
      have h1 := hsh _ hb (hun _ hb)
      apply Classical.byContradiction
      intro hne
      have := two_of (a := (a : Int)) (b := ((nx R (nx R a) : Nat) : Int)) hl.1.2 hf2.1.2 (by omega)
      omega
    · rw [hempty a ha hz, hempty a ha hz]
theorem cnt_le_n {n : Nat} {A : Nat → Prop} [DecidablePred A] : cnt n A ≤ n := by
  unfold cnt
  exact Nat.le_trans (List.length_filter_le _ _) (by rw [List.length_range]; exact Nat.le_refl _)
theorem solveLoop_spec (hp : Pref Ls.length (rkOf Ls)) (hn : Ls.length ≤ 1000000) {K : Nat} (hK1 : Ls.length * Ls.length < K) (hK2 : Ls.length < K) :
    ∀ (k : Nat) (L : List (List Int)) (N : List Int), mu Ls.length L * (Ls.length + 1) + cnt Ls.length (fun a => N.getD a 0 < 0) < k → TL Ls L → St Ls.length (rkOf Ls) (alOf L) → As Ls L N →
      ∃ R, solveLoop K k L N = some R ∧ Sol Ls R
  | 0, _, _, hk, _, _, _ => by omega
  | k + 1, L, N, hk, h, hs, hA => by
    have hclo : ∀ a b, alOf L a b → N.getD a 0 < 0 → N.getD b 0 < 0 := by
      intro a b hab hneg
      apply Int.not_le.1
      intro h0
      have := hA.clo _ _ (hs.tb.sym _ _ hab) h0
      omega
    unfold solveLoop
    rcases rotation_spec hp h hs hn hclo hK2 with ⟨h1, h2⟩ | ⟨rn, h1, hr⟩
    · rw [h1, Option.bind_some, if_pos rfl]
      exact ⟨_, rfl, finish_sol hp h hs hA h2⟩
    · rw [h1, Option.bind_some]
      have hne : ints rn ≠ [] := by
        intro e
        have h9 := congrArg List.length e
        rw [ints_length, List.length_nil] at h9
        have := hr.pos
        omega
      rw [if_neg hne]
      have hlen : rn.length ≤ Ls.length := by
        have := len_le_of_sub hr.nd (l2 := List.range Ls.length) (fun b hb => List.mem_range.2 (hr.ok b hb).1)
        rw [List.length_range] at this
        exact this
      have hcond : (∀ x ∈ ints rn, 0 ≤ x ∧ x < (L.length : Int)) ∧ (ints rn).length ≤ 1000000 := by
        refine ⟨fun x hx => ?_, by rw [ints_length]; omega⟩
        unfold ints at hx
        rw [List.mem_map] at hx
        obtain ⟨a, ha, rfl⟩ := hx
        have := (hr.ok a ha).1
        rw [h.len]
        omega
      rw [if_pos hcond]
      by_cases hP : Party (alOf L) (xOf rn) (yOf L rn)
      · rw [if_pos ((party_spec hr hp h hs).2 hP)]
        obtain ⟨N', e1, e2, e3⟩ := assign_spec h rn N hA.len (fun a ha => ⟨(hr.ok a ha).1, (hr.ok a ha).2.2⟩)
        rw [e1, Option.bind_some]
        have hlt : cnt Ls.length (fun a => N'.getD a 0 < 0) < cnt Ls.length (fun a => N.getD a 0 < 0) := by
          have h0 := hr.ok _ (hr.mem 0)
          refine cnt_lt (fun x _ hx => ?_) h0.1 h0.2.1 (by rw [e3, if_pos (hr.mem 0)]; omega)
          rw [e3] at hx
          split at hx
          · omega
          · exact hx
        exact solveLoop_spec hp hn hK1 hK2 k L N' (by omega) h hs (as_party hr hp h hs hA hP e2 e3)
      · rw [if_neg (fun e => hP ((party_spec hr hp h hs).1 e))]
        obtain ⟨L', e1, hT, hal⟩ := turn_spec hr hp h hs hP
        have e : alOf L' = turnM (rkOf Ls) (alOf L) (xOf rn) (yOf L rn) rn.length := by funext a b; exact propext (hal a b)
        have hR := hr.rotn hp h hs
        have hs' : St Ls.length (rkOf Ls) (alOf L') := by rw [e]; exact turn_st hR hp hs hP
        obtain ⟨K', rfl⟩ : ∃ K', K = K' + 1 := ⟨K - 1, by omega⟩
        rw [e1, Option.bind_some, propose_stays hp K' hT hs', Option.bind_some]
        have hless := turn_less hR hp hs
        have hr0 := hs.tb.rng _ _ hless.1
        have hmu : mu Ls.length L' < mu Ls.length L := mu_lt (fun a b hh => ((hal a b).1 hh).1) hr0.1 hr0.2.1 hless.1 (fun hh => hless.2 ((hal _ _).1 hh))
        have hcn : cnt Ls.length (fun a => N.getD a 0 < 0) ≤ Ls.length := cnt_le_n
        have hmul : (mu Ls.length L' + 1) * (Ls.length + 1) ≤ mu Ls.length L * (Ls.length + 1) := Nat.mul_le_mul_right _ hmu
        rw [Nat.succ_mul] at hmul
        exact solveLoop_spec hp hn hK1 hK2 k L' N (by omega) hT hs' (as_turn hr hp h hs hA hal)
end
end Go.Proofs.Ytilabipmgcpnjaa.Own
