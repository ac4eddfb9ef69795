/- The declarations of M14 that the claim Qs needs. -/
import Derived.Test.YtdldfdcedjmneaaQsM13
namespace Go.Proofs.Ytdldfdcedjmneaa.Lx
open Go.RowKit Go.Proofs.Ytdldfdcedjmneaa.Own Go.Proofs.YtdldfdcedjmneaaW.PrintWords Go.Proofs.YtdldfdcedjmneaaW.PrintLast Go.Proofs.YtdldfdcedjmneaaW.PrintMore
set_option linter.unusedVariables false
set_option linter.unusedSimpArgs false
/-- The tail of StrapSteps. -/
structure StF (m0 : Int) (xs la lb : List Int) (kk jj u v p : Int) : Prop where
  j1 : ∃ k, gamplaw05_joined.f k [la, [u, v], lb] = some (la ++ [u, v] ++ lb)
  s1 : ∃ k, gamplaw05_same.f k m0 xs (la ++ [u, v] ++ lb) = some true
  li : ∃ k, gamplaw05_lives.f k = some true
  j2 : ∃ k, gamplaw05_joined.f k [la, [u, p, u], lb] = some (la ++ [u, p, u] ++ lb)
  j3 : ∃ k, gamplaw05_joined.f k [la, [p, u, p], lb] = some (la ++ [p, u, p] ++ lb)
  s2 : kk + 1 < m0 → ∃ k, gamplaw05_same.f k m0 (la ++ [u, p, u] ++ lb) (la ++ [p, u, p] ++ lb) = some true
  j4 : ∃ k, gamplaw05_joined.f k [la, [u, jj], lb] = some (la ++ [u, jj] ++ lb)
  j5 : ∃ k, gamplaw05_joined.f k [la, [jj, u], lb] = some (la ++ [jj, u] ++ lb)
  s3 : (kk + 2 ≤ jj ∨ jj + 2 ≤ kk) → ∃ k, gamplaw05_same.f k m0 (la ++ [u, jj] ++ lb) (la ++ [jj, u] ++ lb) = some true
open Go.Proofs.Ytdldfdcedjmneaa.Br Go.Proofs.Ytdldfdcedjmneaa.Pure in
theorem StF.of {n : Nat} (hn1 : 2 ≤ n) (hn2 : n ≤ 8) {xs la lb : List Int} (hw : Word n xs) (hl : xs.length ≤ 40) {i : Nat} (ha : la = xs.take i) (hb : lb = xs.drop i) {kk jj s : Int} (hs : s = 1 ∨ s = -1) (hk1 : 1 ≤ kk) (hk2 : kk < n) (hj1 : 1 ≤ jj) (hj2 : jj < n) :
  StF (n : Int) xs la lb kk jj (s * kk) (-s * kk) (s * (kk + 1)) := by
 have hla : Word n la := fun k hk => hw k (List.mem_of_mem_take (ha ▸ hk))
 have hlb : Word n lb := fun k hk => hw k (List.mem_of_mem_drop (hb ▸ hk))
 have hlen : la.length + lb.length ≤ 40 := by rw [ha, hb, List.length_take, List.length_drop]; omega
 have hab : la ++ [] ++ lb = xs := by rw [List.append_nil, ha, hb, List.take_append_drop]
 have hu : Letter n (s * kk) := let_sgn hk1 hk2 hs
 have hv : Letter n (-s * kk) := by rcases hs with rfl | rfl <;> exact ⟨by omega, by omega, by omega⟩
 have hj : Letter n jj := let_pos hj1 hj2
 have w1 : ∀ {a : Int}, Letter n a → Word n [a] := fun h k hk => by rw [List.mem_singleton.1 hk]; exact h
 have w2 : ∀ {a b : Int}, Letter n a → Letter n b → Word n [a, b] := fun h h' k hk => by
  simp only [List.mem_cons, List.not_mem_nil, or_false] at hk
  rcases hk with rfl | rfl
  ·exact h
  ·exact h'
 have w3 : ∀ {a b c : Int}, Letter n a → Letter n b → Letter n c → Word n [a, b, c] := fun h h' h'' k hk => by
  simp only [List.mem_cons, List.not_mem_nil, or_false] at hk
  rcases hk with rfl | rfl | rfl
  ·exact h
  ·exact h'
  ·exact h''
 have jn : ∀ m : List Int, m.length ≤ 3 → ∃ k, gamplaw05_joined.f k [la, m, lb] = some (la ++ m ++ lb) := fun m hm => join3 (by omega) (by omega) (by omega)
 refine ⟨jn _ (by simp), ?_, lives_ev.rounds, jn _ (by simp), jn _ (by simp), ?_, jn _ (by simp), jn _ (by simp), ?_⟩
 ·have h := mid_same hn1 hn2 (U := []) (V := [s * kk, -s * kk]) hla hlb (fun k hk => by cases hk) (w2 hu hv) hlen (by simp) (by simp) (cancel_s hn1 hk1 hk2 hs).symm
  rwa [hab] at h
 ·intro h1
  have hp : Letter n (s * (kk + 1)) := let_sgn (by omega) (by omega) hs
  exact mid_same hn1 hn2 hla hlb (w3 hu hp hu) (w3 hp hu hp) hlen (by simp) (by simp) (near_s hn1 hk1 (by omega) hs)
 ·intro h1
  exact mid_same hn1 hn2 hla hlb (w2 hu hj) (w2 hj hu) hlen (by simp) (by simp) (far_s hn1 hk1 hk2 hj1 hj2 h1 hs)
end Go.Proofs.Ytdldfdcedjmneaa.Lx
