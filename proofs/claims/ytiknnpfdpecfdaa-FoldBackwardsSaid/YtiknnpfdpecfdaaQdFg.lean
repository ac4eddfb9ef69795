/- The declarations of Fg that the claim Qd needs. -/
import Derived.Test.YtiknnpfdpecfdaaQdFz
namespace Go.Proofs.Ytiknnpfdpecfdaa.Own
open Go Go.RowKit Go.Proofs Go.Proofs.YtiknnpfdpecfdaaW.PrintWords Go.Proofs.YtiknnpfdpecfdaaW.PrintLast Go.Proofs.YtiknnpfdpecfdaaW.PrintMore
theorem grow74 (b : Nat → Prop) (c B gs gl capl bo by_ bs bg bc l cl ch cc : Nat) (Al Ah Ac : Option Addr) (low high : List Int) (cr : List S96) (pat : ByteArray) (N M : Nat) (J Jx : List Ord → World → Prop)
  (hY : ∀ m pre x W1, J pre W1 → Ord.px M x W1 → pre.length < N → YieldAt Fence.wide m Try.prog l (Ord.enc x) W1 fun e W' => (e = .returned (.bool true) ∧ J (pre ++ [x]) W' ∧ Rf.Above B W1 W' ∧ Rf.Keep b c W1 W') ∨ (e = .returned (.bool false) ∧ Jx (pre ++ [x]) W' ∧ Rf.Above B W1 W' ∧ Rf.Keep b c W1 W'))
  (hJ : ∀ s A C, J s A → Below B A C → J s C) (hJx : ∀ s A C, Jx s A → Rf.Rest M B A C → Jx s C) (hMg : B ≤ M ∧ gs < M ∧ gl < M ∧ bo < M)
  (hn : low.length < 13) (hhl : high.length = low.length) (hcr : cr.length < 2 ^ 10) (hpat : pat.size = 0 ∨ cr.length ≤ pat.size) :
  ∀ (d : Nat) (order ws : List Int) (Ao Aw : Option Addr) (co cw : Nat) (pre : List Ord) (W : World), order.length + d = low.length → (∀ s ∈ order, 0 ≤ s ∧ s < low.length) → order.Nodup → Okw cr ws → ws.length ≤ order.length * 2 ^ 10 →
   Grw W b c B gs gl capl bo by_ bs bg bc l cl ch cc Al Ah Ac low high cr pat order (layerOf low.length order) ws Ao Aw co cw → J pre W → pre.length + (growF low high cr pat d order ws).length ≤ N → M ≤ W.heap.size →
   Calls Try.prog 74 #[.pointer (some ⟨bo, 0, none⟩), .pointer (some ⟨bc, 0, none⟩), .pointer (some ⟨by_, 0, none⟩), .pointer (some ⟨bs, 0, none⟩), .pointer (some ⟨bg, 0, none⟩)] W fun e W2 => GrowPost b c B gs gl capl bo by_ bs bg bc l cl ch cc Al Ah Ac low high cr pat J Jx d order ws Ao Aw co cw pre W e W2 := by
 intro d
 induction d with
 | zero =>
  intro order ws Ao Aw co cw pre W hlen hor hnd hok hwl hG hp hN hM
  exact grow0 b c B gs gl capl bo by_ bs bg bc l cl ch cc Al Ah Ac low high cr pat N M J Jx hY hJ order ws Ao Aw co cw pre W hG hlen (by omega) hp (by simp only [growF, List.length_singleton] at hN; omega) hM
 | succ d ih =>
  intro order ws Ao Aw co cw pre W hlen hor hnd hok hwl hG hp hN hM
  exact grow1 b c B gs gl capl bo by_ bs bg bc l cl ch cc Al Ah Ac low high cr pat N M J Jx d order ws Ao Aw co cw pre W (fun order' ws' Ao' Aw' co' cw' pre' W' h1 h2 h3 h4 h5 h6 h7 h8 h9 => ih order' ws' Ao' Aw' co' cw' pre' W' (by omega) h2 h3 h4 h5 h6 h7 h8 h9) hJ hJx hM hMg hG hlen hn hhl hcr hpat hor hnd hok hwl hp hN
end Go.Proofs.Ytiknnpfdpecfdaa.Own
