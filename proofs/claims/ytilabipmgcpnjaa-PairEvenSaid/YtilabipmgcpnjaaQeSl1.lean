/- The declarations of Sl1 that the claim Qe needs. -/
import Derived.Test.YtilabipmgcpnjaaQeIr2
import Derived.Test.YtilabipmgcpnjaaQeTB
namespace Go.Proofs.Ytilabipmgcpnjaa.Own
open Go.Proofs.Ytilabipmgcpnjaa.Tan
set_option linter.unusedVariables false
set_option linter.unusedSimpArgs false
def alOf (L : List (List Int)) (a b : Nat) : Prop := a < L.length ∧ (b : Int) ∈ L.getD a []
instance (L : List (List Int)) (a b : Nat) : Decidable (alOf L a b) := by unfold alOf; exact inferInstance
def rkOf (Ls : List (List Int)) (i a : Nat) : Nat := (Ls.getD i []).idxOf (a : Int)
/-- Lists in the order of Ls. -/
structure TL (Ls L : List (List Int)) : Prop where
  len : L.length = Ls.length
  srt : ∀ i, i < Ls.length → (L.getD i []).Pairwise (fun a b => rkOf Ls i a.toNat < rkOf Ls i b.toNat)
  rng : ∀ i, i < Ls.length → ∀ x ∈ L.getD i [], 0 ≤ x
section
variable {Ls L : List (List Int)}
theorem TL.mem (h : TL Ls L) {i : Nat} (hi : i < Ls.length) {x : Int} (hx : x ∈ L.getD i []) : alOf L i x.toNat ∧ ((x.toNat : Nat) : Int) = x := by
  have h0 := h.rng i hi x hx
  have e : ((x.toNat : Nat) : Int) = x := by omega
  exact ⟨⟨by rw [h.len]; exact hi, by rw [e]; exact hx⟩, e⟩
theorem TL.first (h : TL Ls L) {i : Nat} (hi : i < Ls.length) {x : Int} {r : List Int} (hl : L.getD i [] = x :: r) : First (rkOf Ls) (alOf L) i x.toNat := by
  have hx : x ∈ L.getD i [] := by rw [hl]; exact List.mem_cons_self
  refine ⟨(h.mem hi hx).1, fun z hz => ?_⟩
  have hs := h.srt i hi
  have hz2 := hz.2
  rw [hl] at hs hz2
  rcases List.mem_cons.1 hz2 with e | hz3
  · rw [← e]; exact Nat.le_refl _
  · have := (List.pairwise_cons.1 hs).1 _ hz3
    exact Nat.le_of_lt this
theorem TL.last (h : TL Ls L) {i : Nat} (hi : i < Ls.length) {x : Int} (hl : (L.getD i []).getLast? = some x) : Last (rkOf Ls) (alOf L) i x.toNat := by
  obtain ⟨ys, he⟩ := List.getLast?_eq_some_iff.1 hl
  have hx : x ∈ L.getD i [] := by rw [he]; simp
  refine ⟨(h.mem hi hx).1, fun z hz => ?_⟩
  have hs := h.srt i hi
  have hz2 := hz.2
  rw [he] at hs hz2
  rcases List.mem_append.1 hz2 with hz3 | hz3
  · exact Nat.le_of_lt ((List.pairwise_append.1 hs).2.2 _ hz3 _ List.mem_cons_self)
  · rw [List.mem_singleton] at hz3
    rw [← hz3]; exact Nat.le_refl _
theorem TL.second (h : TL Ls L) {i : Nat} (hi : i < Ls.length) {f s : Int} {r : List Int} (hl : L.getD i [] = f :: s :: r) : Second (rkOf Ls) (alOf L) i s.toNat := by
  have hs := h.srt i hi
  rw [hl] at hs
  have h1 := List.pairwise_cons.1 hs
  have h2 := List.pairwise_cons.1 h1.2
  have hm : s ∈ L.getD i [] := by rw [hl]; simp
  refine ⟨f.toNat, h.first hi hl, (h.mem hi hm).1, fun e => ?_, fun z hz hne => ?_⟩
  · have := h1.1 s List.mem_cons_self
    rw [e] at this
    omega
  · have hz2 := hz.2
    rw [hl] at hz2
    rcases List.mem_cons.1 hz2 with e | hz3
    · exact absurd (by rw [← e]; omega) hne
    · rcases List.mem_cons.1 hz3 with e | hz4
      · rw [← e]; exact Nat.le_refl _
      · exact Nat.le_of_lt (h2.1 _ hz4)
theorem getD_set {α : Type} (l : List α) (i k : Nat) (v d : α) : (l.set i v).getD k d = if i = k ∧ k < l.length then v else l.getD k d := by
  rw [List.getD_eq_getElem?_getD, List.getD_eq_getElem?_getD, List.getElem?_set]
  by_cases h : i = k
  · subst h
    by_cases h2 : i < l.length
    · simp [h2]
    · simp [h2]
  · simp [h]
theorem dropL_getD {a b : Nat} (ha : a < L.length) (hb : b < L.length) (hab : a ≠ b) (u : Nat) :
    (dropL L a b).getD u [] = if u = a then (L.getD a []).filter (fun x => x != (b : Int)) else if u = b then (L.getD b []).filter (fun x => x != (a : Int)) else L.getD u [] := by
  unfold dropL
  rw [getD_set, getD_set, List.length_set]
  by_cases h1 : u = a
  · subst h1
    rw [if_neg (fun e => hab e.1.symm), if_pos ⟨rfl, ha⟩, if_pos rfl]
  · rw [if_neg h1]
    by_cases h2 : u = b
    · subst h2
      rw [if_pos ⟨rfl, hb⟩, if_pos rfl]
    · rw [if_neg (fun e => h2 e.1.symm), if_neg (fun e => h1 e.1.symm), if_neg h2]
theorem drop_TL (h : TL Ls L) {a b : Nat} (ha : a < L.length) (hb : b < L.length) (hab : a ≠ b) : TL Ls (dropL L a b) := by
  refine ⟨(length_dropL _ _ _).trans h.len, fun i hi => ?_, fun i hi x hx => ?_⟩
  · rw [dropL_getD ha hb hab]
    split
    · rename_i e; subst e; exact (h.srt i hi).filter _
    · split
      · rename_i e; subst e; exact (h.srt i hi).filter _
      · exact h.srt i hi
  · rw [dropL_getD ha hb hab] at hx
    split at hx
    · rename_i e; subst e; exact h.rng i hi x (List.mem_filter.1 hx).1
    · split at hx
      · rename_i e; subst e; exact h.rng i hi x (List.mem_filter.1 hx).1
      · exact h.rng i hi x hx
theorem drop_al {a b : Nat} (ha : a < L.length) (hb : b < L.length) (hab : a ≠ b) (u v : Nat) : alOf (dropL L a b) u v ↔ alOf L u v ∧ ¬ (u = a ∧ v = b) ∧ ¬ (u = b ∧ v = a) := by
  unfold alOf
  rw [length_dropL, dropL_getD ha hb hab]
  by_cases h1 : u = a
  · subst h1
    rw [if_pos rfl, List.mem_filter]
    simp only [bne_iff_ne, ne_eq]
    constructor
    · rintro ⟨h, h2, h3⟩
      exact ⟨⟨h, h2⟩, fun e => h3 (by rw [e.2]), fun e => hab e.1⟩
    · rintro ⟨⟨h, h2⟩, h3, _⟩
      exact ⟨h, h2, fun e => h3 ⟨by trivial, by omega⟩⟩
  · rw [if_neg h1]
    by_cases h2 : u = b
    · subst h2
      rw [if_pos rfl, List.mem_filter]
      simp only [bne_iff_ne, ne_eq]
      constructor
      · rintro ⟨h, h3, h4⟩
        exact ⟨⟨h, h3⟩, fun e => h1 e.1, fun e => h4 (by rw [e.2])⟩
      · rintro ⟨⟨h, h3⟩, _, h4⟩
        exact ⟨h, h3, fun e => h4 ⟨by trivial, by omega⟩⟩
    · rw [if_neg h2]
      constructor
      · intro h; exact ⟨h, fun e => h1 e.1, fun e => h2 e.1⟩
      · intro h; exact h.1
theorem cutL_cons (p : Nat) (k : Int) (suf : List Int) : cutL L p (k :: suf) = cutL (dropL L p k.toNat) p suf := rfl
theorem cutL_spec {p : Nat} : ∀ (suf : List Int) (L : List (List Int)), TL Ls L → p < Ls.length → (∀ k ∈ suf, 0 ≤ k ∧ k < (L.length : Int) ∧ k ≠ (p : Int)) →
    TL Ls (cutL L p suf) ∧ ∀ u v, alOf (cutL L p suf) u v ↔ alOf L u v ∧ ¬ (u = p ∧ (v : Int) ∈ suf) ∧ ¬ (v = p ∧ (u : Int) ∈ suf)
  | [], L, h, _, _ => ⟨h, fun u v => by simp [cutL]⟩
  | k :: suf, L, h, hp, hk => by
    have hk0 := hk k List.mem_cons_self
    have hkn : k.toNat < L.length := by omega
    have hpL : p < L.length := by rw [h.len]; exact hp
    have hne : p ≠ k.toNat := by omega
    rw [cutL_cons]
    obtain ⟨h1, h2⟩ := cutL_spec suf (dropL L p k.toNat) (drop_TL h hpL hkn hne) hp (fun x hx => by
      rw [length_dropL]; exact hk x (List.mem_cons_of_mem _ hx))
    refine ⟨h1, fun u v => ?_⟩
    rw [h2, drop_al hpL hkn hne]
    constructor
    · rintro ⟨⟨a1, a2, a3⟩, a4, a5⟩
      refine ⟨a1, fun e => ?_, fun e => ?_⟩
      · rcases List.mem_cons.1 e.2 with e2 | e2
        · exact a2 ⟨e.1, by omega⟩
        · exact a4 ⟨e.1, e2⟩
      · rcases List.mem_cons.1 e.2 with e2 | e2
        · exact a3 ⟨by omega, e.1⟩
        · exact a5 ⟨e.1, e2⟩
    · rintro ⟨a1, a2, a3⟩
      refine ⟨⟨a1, fun e => a2 ⟨e.1, ?_⟩, fun e => a3 ⟨e.2, ?_⟩⟩, fun e => a2 ⟨e.1, List.mem_cons_of_mem _ e.2⟩, fun e => a3 ⟨e.1, List.mem_cons_of_mem _ e.2⟩⟩
      · rw [show (v : Int) = k by omega]; exact List.mem_cons_self
      · rw [show (u : Int) = k by omega]; exact List.mem_cons_self
theorem suf_spec (h : TL Ls L) {j i : Nat} (hj : j < Ls.length) (hi : (i : Int) ∈ L.getD j []) (k : Int) : k ∈ sufOf (L.getD j []) i ↔ k ∈ L.getD j [] ∧ rkOf Ls j i < rkOf Ls j k.toNat := by
  obtain ⟨he, hno⟩ := split_at hi
  have hs := h.srt j hj
  rw [he] at hs
  obtain ⟨h1, h2, h3⟩ := List.pairwise_append.1 hs
  have h4 := (List.pairwise_cons.1 h2).1
  constructor
  · intro hk
    refine ⟨?_, by have := h4 k hk; simpa using this⟩
    rw [he]
    exact List.mem_append_right _ (List.mem_cons_of_mem _ hk)
  · rintro ⟨hk, hlt⟩
    rw [he] at hk
    rcases List.mem_append.1 hk with hk | hk
    · have := h3 k hk (i : Int) List.mem_cons_self
      simp only [Int.toNat_natCast] at this
      omega
    · rcases List.mem_cons.1 hk with e | hk
      · subst e
        simp only [Int.toNat_natCast] at hlt
        omega
      · exact hk
/-- A cut: it succeeds, and leaves the cut table. -/
theorem cutF_spec (h : TL Ls L) (hr : ∀ a b, alOf L a b → a < Ls.length ∧ b < Ls.length ∧ a ≠ b) (hsy : ∀ a b, alOf L a b → alOf L b a) {j i : Nat} (hij : alOf L j i) :
    ∃ L', cutF L j i = some L' ∧ TL Ls L' ∧ ∀ u v, alOf L' u v ↔ cutR (rkOf Ls) (alOf L) j i u v := by
  have hj := (hr _ _ hij).1
  have hsuf := suf_spec h hj hij.2
  have hc : ∀ k ∈ sufOf (L.getD j []) (i : Int), 0 ≤ k ∧ k < (L.length : Int) ∧ k ≠ (j : Int) := fun k hk => by
    have hm := ((hsuf k).1 hk).1
    obtain ⟨h1, h2⟩ := h.mem hj hm
    have h3 := hr _ _ h1
    rw [h.len]
    omega
  obtain ⟨h1, h2⟩ := cutL_spec _ L h hj hc
  refine ⟨_, by unfold cutF; rw [if_pos ⟨hij.2, hc⟩], h1, fun u v => ?_⟩
  rw [h2]
  unfold cutR
  constructor
  · rintro ⟨a1, a2, a3⟩
    refine ⟨a1, fun e => a2 ⟨e.1, (hsuf _).2 ⟨?_, by simpa using e.2⟩⟩, fun e => a3 ⟨e.1, (hsuf _).2 ⟨?_, by simpa using e.2⟩⟩⟩
    · have := a1.2; rw [e.1] at this; exact this
    · have := (hsy _ _ a1).2; rw [e.1] at this; exact this
  · rintro ⟨a1, a2, a3⟩
    refine ⟨a1, fun e => a2 ⟨e.1, by have := ((hsuf _).1 e.2).2; simpa using this⟩, fun e => a3 ⟨e.1, by have := ((hsuf _).1 e.2).2; simpa using this⟩⟩
end
end Go.Proofs.Ytilabipmgcpnjaa.Own
