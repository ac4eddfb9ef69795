/- The declarations of Mi that the claim Qb needs. -/
import Derived.Test.YtiknnpfdpecfdaaQbMh
import Derived.Test.YtiknnpfdpecfdaaQbZ1
namespace Go.Proofs.Ytiknnpfdpecfdaa.Own
open Go Go.RowKit Go.Proofs Go.Proofs.YtiknnpfdpecfdaaW.PrintWords Go.Proofs.YtiknnpfdpecfdaaW.PrintLast Go.Proofs.YtiknnpfdpecfdaaW.PrintMore
set_option linter.unusedVariables false
set_option linter.unusedSimpArgs false
section
variable {m : Nat} {cr : List S96}
theorem step_far (h : Unit1 m cr) {k s : Nat} (hk : k < m) (he : ¬ (k = s ∨ k + 1 = s)) (ws : List Int) : putStep cr ⟨#[]⟩ (s : Int) (k : Int) ws = some ws := by
  unfold putStep
  rw [if_neg (fun h2 => he ((unit_ends h hk).1 h2))]
theorem b_past (h : Unit1 m cr) {s : Nat} (ws : List Int) : ∀ (d c : Nat), c + d = m → s < c → putB cr ⟨#[]⟩ (s : Int) d c ws = some ws
 | 0, _, _, _ => rfl
 | d + 1, c, hd, hs => by
  rw [putB, step_far h (by omega) (by omega), Option.bind_some]
  exact b_past h ws d (c + 1) (by omega) (by omega)
theorem b_at (h : Unit1 m cr) {s : Nat} (ws : List Int) {d : Nat} (hd : s + d = m) : putB cr ⟨#[]⟩ (s : Int) d s ws = if s < m then putStep cr ⟨#[]⟩ (s : Int) (s : Int) ws else some ws := by
 cases d with
 | zero => rw [if_neg (by omega)]; rfl
 | succ d =>
  rw [if_pos (by omega), putB]
  cases hp : putStep cr ⟨#[]⟩ (s : Int) (s : Int) ws with
  | none => rfl
  | some us => rw [Option.bind_some, b_past h us d (s + 1) (by omega) (by omega)]
theorem b_all (h : Unit1 m cr) {s : Nat} (hs : s ≤ m) (ws : List Int) : ∀ (d c : Nat), c + d = m → c < s → putB cr ⟨#[]⟩ (s : Int) d c ws = (putStep cr ⟨#[]⟩ (s : Int) ((s - 1 : Nat) : Int) ws).bind fun u => if s < m then putStep cr ⟨#[]⟩ (s : Int) (s : Int) u else some u
 | 0, c, hd, hc => by omega
 | d + 1, c, hd, hc => by
  rw [putB]
  by_cases e : c + 1 = s
  ·rw [show s - 1 = c by omega]
   cases hp : putStep cr ⟨#[]⟩ (s : Int) (c : Int) ws with
   | none => rfl
   | some us =>
    rw [Option.bind_some, Option.bind_some, e]
    exact b_at h us (by omega)
  ·rw [step_far h (by omega) (by omega), Option.bind_some]
   exact b_all h hs ws d (c + 1) (by omega) (by omega)
/-- A segment is put: its two creases. -/
theorem two_put (h : Unit1 m cr) {s : Nat} (hs : s ≤ m) {ws : List Int} {eo : List Nat × List Nat} (ht : Two m ws eo) :
  (∀ eo', stp (m + 1) s eo = some eo' → ∃ us, putB cr ⟨#[]⟩ (s : Int) m 0 ws = some us ∧ Two m us eo') ∧ (stp (m + 1) s eo = none → putB cr ⟨#[]⟩ (s : Int) m 0 ws = none) := by
 have tail : ∀ {u : List Int} {z : List Nat × List Nat}, Two m u z → (∀ eo', (if Nat.blt s m = true then stp1 s z else some z) = some eo' → ∃ us, (if s < m then putStep cr ⟨#[]⟩ (s : Int) (s : Int) u else some u) = some us ∧ Two m us eo') ∧ ((if Nat.blt s m = true then stp1 s z else some z) = none → (if s < m then putStep cr ⟨#[]⟩ (s : Int) (s : Int) u else some u) = none) := by
  intro u z hz
  by_cases hsm : s < m
  ·rw [if_pos (by rw [Nat.blt_eq]; exact hsm), if_pos hsm]
   exact two_step h hsm (.inl rfl) hz
  ·rw [if_neg (by rw [Nat.blt_eq]; exact hsm), if_neg hsm]
   exact ⟨fun eo' he => ⟨u, rfl, by obtain rfl := Option.some.inj he; exact hz⟩, fun he => by cases he⟩
 unfold stp
 cases s with
 | zero =>
  rw [Option.bind_some, show putB cr ⟨#[]⟩ ((0 : Nat) : Int) m 0 ws = _ from b_at h (s := 0) ws (by omega)]
  exact tail ht
 | succ c =>
  rw [b_all h hs ws m 0 (by omega) (by omega)]
  show (∀ eo', (stp1 c eo).bind _ = some eo' → _) ∧ ((stp1 c eo).bind _ = none → _)
  obtain ⟨z1, z2⟩ := two_step h (k := c) (s := c + 1) (by omega) (.inr rfl) ht
  cases hc : stp1 c eo with
  | none =>
   rw [show c + 1 - 1 = c from rfl, z2 hc]
   exact ⟨fun eo' he => (by cases he), fun _ => rfl⟩
  | some z =>
   obtain ⟨us, hu, htu⟩ := z1 z hc
   rw [show c + 1 - 1 = c from rfl, hu, Option.bind_some, Option.bind_some]
   exact tail htu
theorem cnt_eq (h : Unit1 m cr) {low high : List Int} (hb : ∀ (s : Nat) (k : Int), blocked low high cr (s : Int) k = false) (hlow : low.length = m + 1) : ∀ (d : Nat) (order ws : List Int) (us : List Nat) (eo : List Nat × List Nat), (∀ s : Nat, (s : Int) ∈ order ↔ s ∈ us) → Two m ws eo →
    (growF low high cr ⟨#[]⟩ d order ws).length = cnt (m + 1) d us eo
  | 0, order, ws, us, eo, _, _ => rfl
  | d + 1, order, ws, us, eo, hus, ht => by
    rw [growF, cnt, hlow]
    have key : ∀ ks : List Nat, (∀ s ∈ ks, s ≤ m) → (ks.flatMap fun (s : Nat) => if ((s : Int)) ∈ order then [] else match putF low high cr ⟨#[]⟩ (s : Int) ws with
        | none => []
        | some vs => growF low high cr ⟨#[]⟩ d (order ++ [(s : Int)]) vs).length = ks.foldr (fun s acc => (if us.contains s then 0 else match stp (m + 1) s eo with | none => 0 | some eo' => cnt (m + 1) d (s :: us) eo') + acc) 0 := by
      intro ks
      induction ks with
      | nil => intro _; rfl
      | cons s ks ih =>
        intro hks
        rw [List.flatMap_cons, List.length_append, List.foldr_cons, ih (fun x hx => hks x (List.mem_cons_of_mem _ hx))]
        congr 1
        by_cases hs : (s : Int) ∈ order
        · rw [if_pos hs, if_pos (by rw [List.contains_iff_mem]; exact (hus s).1 hs)]; rfl
        · rw [if_neg hs, if_neg (by rw [List.contains_iff_mem]; exact fun h2 => hs ((hus s).2 h2))]
          obtain ⟨z1, z2⟩ := two_put h (hks s List.mem_cons_self) ht
          have hpf : putF low high cr ⟨#[]⟩ (s : Int) ws = putB cr ⟨#[]⟩ (s : Int) m 0 ws := by
            unfold putF
            rw [if_neg, h.len]
            rw [List.any_eq_true]
            rintro ⟨x, _, hx⟩
            rw [hb] at hx
            cases hx
          rw [hpf]
          cases hst : stp (m + 1) s eo with
          | none => rw [z2 hst]; rfl
          | some eo' =>
            obtain ⟨vs, hv, htv⟩ := z1 eo' hst
            rw [hv]
            exact cnt_eq h hb hlow d _ vs _ eo' (fun t => by
              rw [List.mem_append, List.mem_singleton, List.mem_cons, hus t]
              constructor
              · rintro (h2 | h2)
                · exact .inr h2
                · exact .inl (by omega)
              · rintro (h2 | h2)
                · exact .inr (by omega)
                · exact .inl h2) htv
    exact key (List.range (m + 1)) (fun s hs => by have := List.mem_range.1 hs; omega)
end
/-- The places of a strip of one length. -/
theorem unit_pp (n : Nat) (s : Int) : ∀ k, k ≤ n → PP (List.replicate n s) k = if k % 2 = 1 then s else 0
 | 0, _ => rfl
 | k + 1, hk => by
  have ih := unit_pp n s k (by omega)
  have hg : (List.replicate n s).getD k 0 = s := by
   rw [List.getD_eq_getElem?_getD, List.getElem?_replicate, if_pos (by omega)]; rfl
  rw [PP, ih, hg]
  by_cases e : k % 2 = 1
  ·rw [if_pos e, if_pos e, if_neg (by omega)]; omega
  ·rw [if_neg e, if_neg e, if_pos (by omega)]; omega
theorem unit_ok (n : Nat) (s : Int) (hn : n ≤ 12) (h0 : 1 ≤ s) (h1 : s ≤ 1000) : OkL (List.replicate n s) := ⟨by simpa using hn, fun x hx => by rw [List.eq_of_mem_replicate hx]; exact ⟨h0, h1⟩⟩
theorem unit_count (m : Nat) (s : Int) (hn : m + 1 ≤ 12) (h0 : 1 ≤ s) (h1 : s ≤ 1000) : (allO (List.replicate (m + 1) s) ⟨#[]⟩).length = cnt (m + 1) (m + 1) [] ([], []) := by
  have hok := unit_ok (m + 1) s hn h0 h1
  have hl : (List.replicate (m + 1) s).length = m + 1 := by simp
  have hcr : ∀ k : Nat, k < m → rd_T96 (layR (List.replicate (m + 1) s) (List.replicate (m + 1) s).length).cr (k : Int) = ⟨(k : Int), ((k + 1 : Nat) : Int), if (k + 1) % 2 = 1 then s else 0, (k + 1) % 2 == 1⟩ := by
    intro k hk
    rw [lay_cr hok (by omega)]
    unfold creaseAt
    rw [unit_pp _ _ _ (by omega)]
  have hlen := layR_cr (List.replicate (m + 1) s) (List.replicate (m + 1) s).length
  rw [hl] at hlen
  have hU : Unit1 m (layR (List.replicate (m + 1) s) (List.replicate (m + 1) s).length).cr := by
    refine ⟨by rw [hl, hlen]; omega, fun k hk => by rw [hcr k hk]; exact ⟨rfl, rfl⟩, fun k j hk hj => ?_⟩
    unfold crossed
    rw [hcr k hk, hcr j hj]
    have e1 : ((k : Int) % 2 == 0) = ((k + 1) % 2 == 1) := by
      apply Bool.eq_iff_iff.2; rw [beq_iff_eq, beq_iff_eq]; omega
    have e2 : ((j : Int) % 2 == 0) = ((j + 1) % 2 == 1) := by
      apply Bool.eq_iff_iff.2; rw [beq_iff_eq, beq_iff_eq]; omega
    rw [e1, e2]
    show (((if (j + 1) % 2 = 1 then s else 0) == (if (k + 1) % 2 = 1 then s else 0)) && (((j + 1) % 2 == 1) == ((k + 1) % 2 == 1))) = (((j + 1) % 2 == 1) == ((k + 1) % 2 == 1))
    have hs0 : ((0 : Int) == s) = false := by rw [beq_eq_false_iff_ne]; omega
    have hs1 : (s == (0 : Int)) = false := by rw [beq_eq_false_iff_ne]; omega
    by_cases a : (j + 1) % 2 = 1 <;> by_cases b : (k + 1) % 2 = 1 <;> simp [a, b, hs0, hs1]
  unfold allO
  have hlow := (layR_len (List.replicate (m + 1) s) (List.replicate (m + 1) s).length).1
  have hc := cnt_eq hU (low := (layR (List.replicate (m + 1) s) (List.replicate (m + 1) s).length).low) (high := (layR (List.replicate (m + 1) s) (List.replicate (m + 1) s).length).high) ?_ (by rw [hlow, hl]) (m + 1) [] [] [] ([], []) (by simp) ⟨List.nodup_nil, fun _ h => (nomatch h), rfl, rfl⟩
  · rw [← hc]
    congr 1
    simp only [hl]
  · intro t k
    unfold blocked
    have hnn : ∀ x, (rd_T96 (layR (List.replicate (m + 1) s) (List.replicate (m + 1) s).length).cr k).f2 = x → (x = s ∨ x = 0) := by
      intro x hx
      rw [← hx]
      by_cases hk : k.toNat < m
      · have : rd_T96 (layR (List.replicate (m + 1) s) (List.replicate (m + 1) s).length).cr k = rd_T96 (layR (List.replicate (m + 1) s) (List.replicate (m + 1) s).length).cr ((k.toNat : Nat) : Int) := by
          unfold rd_T96; rw [Int.toNat_natCast]
        rw [this, hcr _ hk]
        show (if (k.toNat + 1) % 2 = 1 then s else 0) = s ∨ (if (k.toNat + 1) % 2 = 1 then s else 0) = 0
        split
        · exact .inl rfl
        · exact .inr rfl
      · right
        unfold rd_T96
        rw [List.getD_eq_getElem?_getD, List.getElem?_eq_none (by rw [hU.len]; omega)]
        rfl
    by_cases ht : t < m + 1
    · rw [lay_low hok (by omega), lay_high hok (by omega), unit_pp _ _ _ (by omega), unit_pp _ _ _ (by omega)]
      have := hnn _ rfl
      have hfin : (decide (min (if t % 2 = 1 then s else 0) (if (t + 1) % 2 = 1 then s else 0) < (rd_T96 (layR (List.replicate (m + 1) s) (List.replicate (m + 1) s).length).cr k).f2) && decide ((rd_T96 (layR (List.replicate (m + 1) s) (List.replicate (m + 1) s).length).cr k).f2 < max (if t % 2 = 1 then s else 0) (if (t + 1) % 2 = 1 then s else 0))) = false := by
        rw [← Bool.decide_and, decide_eq_false_iff_not]
        rintro ⟨h2, h3⟩
        split at h2 <;> split at h3 <;> omega
      rw [hfin, Bool.and_false]
    · have e1 : rd (layR (List.replicate (m + 1) s) (List.replicate (m + 1) s).length).low (t : Int) = 0 := by
        unfold rd
        rw [List.getD_eq_getElem?_getD, List.getElem?_eq_none (by rw [hlow, hl]; omega)]; rfl
      have e2 : rd (layR (List.replicate (m + 1) s) (List.replicate (m + 1) s).length).high (t : Int) = 0 := by
        unfold rd
        rw [List.getD_eq_getElem?_getD, List.getElem?_eq_none (by rw [(layR_len _ _).2.1, hl]; omega)]; rfl
      rw [e1, e2]
      have hfin : (decide ((0 : Int) < (rd_T96 (layR (List.replicate (m + 1) s) (List.replicate (m + 1) s).length).cr k).f2) && decide ((rd_T96 (layR (List.replicate (m + 1) s) (List.replicate (m + 1) s).length).cr k).f2 < 0)) = false := by
        rw [← Bool.decide_and, decide_eq_false_iff_not]
        omega
      rw [hfin, Bool.and_false]
end Go.Proofs.Ytiknnpfdpecfdaa.Own
