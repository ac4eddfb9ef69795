/- The declarations of M7 that the claim Qs needs. -/
import Derived.Test.YtdldfdcedjmneaaQsM6
namespace Go.Proofs.Ytdldfdcedjmneaa.Lx
open Go.RowKit Go.Proofs.Ytdldfdcedjmneaa.Own Go.Proofs.YtdldfdcedjmneaaW.PrintWords Go.Proofs.YtdldfdcedjmneaaW.PrintLast Go.Proofs.YtdldfdcedjmneaaW.PrintMore
attribute [local go_sem] max2_int min2_int max_two min_two max_three min_three max_four min_four
set_option linter.unusedVariables false
set_option linter.unusedSimpArgs false
theorem joined_gen {L : List (List Int)} (hs : ∀ x ∈ L, x.length ≤ 1000) (hL : L.length ≤ 1000) : ∀ (d i : Nat) (acc : List Int), i + d = L.length → acc.length ≤ i * 1000 → Ev (fun k => gamplaw05_joined.l0 k L acc (i : Int)) (acc ++ (L.drop i).flatten) := by
 intro d
 induction d with
 | zero =>
  intro i acc hi ha
  rw [List.drop_of_length_le (by omega), List.flatten_nil, List.append_nil]
  refine Ev.step (f := fun _ => some acc) (fun k => ?_) (Ev.now _)
  simp only [gamplaw05_joined.l0]
  rw [if_neg (by omega)]
 | succ d ih =>
  intro i acc hi ha
  have hiL : i < L.length := by omega
  have e1 : rd_L1 L (i : Int) = L[i] := by unfold rd_L1; rw [Int.toNat_natCast, List.getD_eq_getElem?_getD, List.getElem?_eq_getElem hiL]; rfl
  have hl := hs _ (List.getElem_mem hiL)
  have h2 := ih (i + 1) (acc ++ L[i]) (by omega) (by rw [List.length_append]; omega)
  rw [List.append_assoc] at h2
  rw [List.drop_eq_getElem_cons hiL, List.flatten_cons]
  refine Ev.step (fun k => ?_) h2
  simp only [gamplaw05_joined.l0]
  rw [if_pos (by omega), if_pos (by omega), e1, if_pos (by omega), wrap_s (by omega)]
theorem joined_all {L : List (List Int)} (hs : ∀ x ∈ L, x.length ≤ 1000) (hL : L.length ≤ 1000) : Ev (fun k => gamplaw05_joined.f k L) L.flatten := by
  have h := joined_gen hs hL L.length 0 [] (by omega) (by simp)
  rwa [List.drop_zero, List.nil_append] at h
/-- All that the walk of StrapCentre is told. -/
structure CeF (a0 m0 : Int) (l1 xs hf ws : List Int) : Prop where
  st : gamplaw05_strands.f a0 6 = some m0
  wd : ∃ k, gamplaw05_word.f k m0 l1 24 = some xs
  hh : ∃ k, gampref05_Half.f k m0 = some hf
  si : ∃ k, gampref05_Simple.f k hf = some ws
  j1 : ∃ k, gamplaw05_joined.f k [ws, ws, xs] = some (ws ++ ws ++ xs)
  j2 : ∃ k, gamplaw05_joined.f k [xs, ws, ws] = some (xs ++ ws ++ ws)
  j3 : ∃ k, gamplaw05_joined.f k [xs, ws] = some (xs ++ ws)
  j4 : ∃ k, gamplaw05_joined.f k [ws, xs.map (Pure.turn m0.toNat)] = some (ws ++ xs.map (Pure.turn m0.toNat))
  s1 : ∃ k, gamplaw05_same.f k m0 (ws ++ ws ++ xs) (xs ++ ws ++ ws) = some true
  s2 : ∃ k, gamplaw05_same.f k m0 (xs ++ ws) (ws ++ xs.map (Pure.turn m0.toNat)) = some true
  li : ∃ k, gamplaw05_lives.f k = some true
  m1 : 2 ≤ m0
  m2 : m0 ≤ 6
  wx : Br.Word m0.toNat xs
  lx : xs.length ≤ 24
open Go.Proofs.Ytdldfdcedjmneaa.Br Go.Proofs.Ytdldfdcedjmneaa.Pure in
theorem CeF.of {a0 : Int} {l1 : List Int} (h0 : (Lit.int .u8 a0).wf = true) (h1 : ∀ x ∈ l1, (Lit.int .i8 x).wf = true) : ∃ m0 xs hf ws, CeF a0 m0 l1 xs hf ws := by
 obtain ⟨ha, hb⟩ := u8_of h0
 obtain ⟨n, hs, hn1, hn2⟩ := strands_eq ha hb (c := 6) (.inr rfl)
 have hn3 : n ≤ 6 := by omega
 obtain ⟨xs, hw, hl, hev⟩ := word_ev hn1 (by omega) (l := l1) (L := 24) (by omega) h1
 have ht : tri n ≤ 15 := by
  have : n = 2 ∨ n = 3 ∨ n = 4 ∨ n = 5 ∨ n = 6 := by omega
  rcases this with rfl | rfl | rfl | rfl | rfl <;> decide
 obtain ⟨ws, k1, k2, k3, k4⟩ := simple_ev (t := half n) hn1 (by omega) (sup_half n) (by rw [inv_half]; omega)
 rw [inv_half] at k2
 have hwt := turn_word hw
 have app : ∀ {a b : List Int}, Word n a → Word n b → Word n (a ++ b) := fun h1 h2 k hk => (List.mem_append.1 hk).elim (h1 k) (h2 k)
 have lt : (xs.map (turn n)).length ≤ 24 := by rw [List.length_map]; exact hl
 have j1 := joined_all (L := [ws, ws, xs]) (fun x hx => by simp only [List.mem_cons, List.not_mem_nil, or_false] at hx; rcases hx with rfl | rfl | rfl <;> omega) (by simp)
 have j2 := joined_all (L := [xs, ws, ws]) (fun x hx => by simp only [List.mem_cons, List.not_mem_nil, or_false] at hx; rcases hx with rfl | rfl | rfl <;> omega) (by simp)
 have j3 := joined_all (L := [xs, ws]) (fun x hx => by simp only [List.mem_cons, List.not_mem_nil, or_false] at hx; rcases hx with rfl | rfl <;> omega) (by simp)
 have j4 := joined_all (L := [ws, xs.map (turn n)]) (fun x hx => by simp only [List.mem_cons, List.not_mem_nil, or_false] at hx; rcases hx with rfl | rfl <;> omega) (by simp)
 simp only [List.flatten_cons, List.flatten_nil, List.append_nil, ← List.append_assoc] at j1 j2 j3 j4
 refine ⟨(n : Int), xs, lst n (half n), ws, ⟨hs, hev.rounds, (refHalf_ev (by omega)).rounds, k3.rounds, j1.rounds, j2.rounds, j3.rounds, j4.rounds, ?_, ?_, lives_ev.rounds, by omega, by omega, hw, hl⟩⟩
 ·exact (same_law hn1 (by omega) (app (app k1 k1) hw) (app (app hw k1) k1) (by simp only [List.length_append]; omega) (by simp only [List.length_append]; omega) (centre1 hn1 k1 hw k4)).rounds
 ·exact (same_law hn1 (by omega) (app hw k1) (app k1 hwt) (by simp only [List.length_append]; omega) (by simp only [List.length_append, Int.toNat_natCast]; omega) (centre2 hn1 k1 hw k4)).rounds
theorem FK_row {w : World} {A : Option Addr} {c : Nat} {l : List Int} (h : Kd.C (Kd.int .i64) w A l.length l) (hl : l.length ≤ c) : Kd.FK (Kd.slice 3 (Kd.int .i64)) w (fun _ => True) l [.slice A l.length c] :=
  Kd.FK_slice_mk hl (Kd.F_mono (Kd.C_F (Kd.heap_int _) h) (fun _ _ => trivial))
end Go.Proofs.Ytdldfdcedjmneaa.Lx
