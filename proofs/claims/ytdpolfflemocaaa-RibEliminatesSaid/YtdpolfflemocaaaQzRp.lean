/- The declarations of Rp that the claim Qz needs. -/
import Derived.Test.YtdpolfflemocaaaQzT1
import Derived.Deep.QuietTactic
import Derived.BigQuiet
import Derived.Laws.BitsAllLaws
namespace Go.Proofs.Ytdpolfflemocaaa.Own
open Go Go.RowKit Go.Proofs.Ytdpolfflemocaaa.Own Go.Proofs.YtdpolfflemocaaaW.PrintWords Go.Proofs.YtdpolfflemocaaaW.PrintLast Go.Proofs.YtdpolfflemocaaaW.PrintMore
set_option linter.unusedVariables false
set_option linter.unusedSimpArgs false
/-- The ones of a byte. -/
def pc8 (i : Nat) : Nat := (List.range 8).countP (i.testBit ·)
def pc32 (x : Nat) : Nat := pc8 (x / 16777216) + pc8 (x / 65536 % 256) + pc8 (x / 256 % 256) + pc8 (x % 256)
theorem pc8_le (i : Nat) : pc8 i ≤ 8 := Nat.le_trans List.countP_le_length (by simp)
theorem and255 (x : Nat) (hx : x < 4294967296) : Go.bits .and .u32 (x : Int) 255 = ((x % 256 : Nat) : Int) := by
 have h := u32_and_nat x 255 hx (by omega)
 rw [show ((255 : Nat) : Int) = 255 from rfl] at h
 rw [h, show (255 : Nat) = 2 ^ 8 - 1 from rfl, Nat.and_two_pow_sub_one_eq_mod]
set_option maxHeartbeats 8000000 in
set_option maxRecDepth 100000 in
theorem bits_OnesCount32.calls (x : Nat) (h1 : x < 4294967296) (w : World) :
  Calls Try.prog 94 #[.int .u32 (x : Int)] w fun e w' => e = .returned (.int .i64 (pc32 x : Int)) ∧ Drawn0 w w' := by
 have e2 : (x : Int) / 16777216 = ((x / 16777216 : Nat) : Int) := by omega
 have e6 : (x : Int) / 65536 = ((x / 65536 : Nat) : Int) := by omega
 have e10 : (x : Int) / 256 = ((x / 256 : Nat) : Int) := by omega
 obtain ⟨ji2, hji2⟩ : ∃ j_ : Int, ((x : Int) / 16777216) = j_ := ⟨_, rfl⟩
 obtain ⟨ji6, hji6⟩ : ∃ j_ : Int, (Go.bits .and .u32 ((x : Int) / 65536) 255) = j_ := ⟨_, rfl⟩
 obtain ⟨ji10, hji10⟩ : ∃ j_ : Int, (Go.bits .and .u32 ((x : Int) / 256) 255) = j_ := ⟨_, rfl⟩
 obtain ⟨ji14, hji14⟩ : ∃ j_ : Int, (Go.bits .and .u32 (x : Int) 255) = j_ := ⟨_, rfl⟩
 have v2 : ji2 = ((x / 16777216 : Nat) : Int) := by omega
 have v6 : ji6 = ((x / 65536 % 256 : Nat) : Int) := by rw [← hji6, e6, and255 _ (by omega)]
 have v10 : ji10 = ((x / 256 % 256 : Nat) : Int) := by rw [← hji10, e10, and255 _ (by omega)]
 have v14 : ji14 = ((x % 256 : Nat) : Int) := by rw [← hji14, and255 _ (by omega)]
 go_enter Try.func94, Try.ntmps94
 generalize hT : ByteArray.mk _ = T
 have hs : T.size = 256 := by rw [← hT]; decide +kernel
 have hx : ∀ i : Fin 256, bt T (i.val : Int) = (pc8 i.val : Int) := by rw [← hT]; decide +kernel
 clear hT
 have b2 := hx ⟨x / 16777216, by omega⟩
 have b6 := hx ⟨x / 65536 % 256, by omega⟩
 have b10 := hx ⟨x / 256 % 256, by omega⟩
 have b14 := hx ⟨x % 256, by omega⟩
 dsimp only at b2 b6 b10 b14
 rw [← v2] at b2
 rw [← v6] at b6
 rw [← v10] at b10
 rw [← v14] at b14
 have l2 := pc8_le (x / 16777216)
 have l6 := pc8_le (x / 65536 % 256)
 have l10 := pc8_le (x / 256 % 256)
 have l14 := pc8_le (x % 256)
 have p5 : 0 ≤ ji2 := by omega
 have q5 : ji2 < (T.size : Int) := by omega
 have hx5 := bt_at T ji2
 have p9 : 0 ≤ ji6 := by omega
 have q9 : ji6 < (T.size : Int) := by omega
 have hx9 := bt_at T ji6
 have p13 : 0 ≤ ji10 := by omega
 have q13 : ji10 < (T.size : Int) := by omega
 have hx13 := bt_at T ji10
 have p16 : 0 ≤ ji14 := by omega
 have q16 : ji14 < (T.size : Int) := by omega
 have hx16 := bt_at T ji14
 have B2 := Aside0.mk b2
 have B6 := Aside0.mk b6
 have B10 := Aside0.mk b10
 have B14 := Aside0.mk b14
 have L := Aside0.mk (And.intro l2 (And.intro l6 (And.intro l10 l14)))
 clear b2 b6 b10 b14 l2 l6 l10 l14 v2 v6 v10 v14 e2 e6 e10 hs hx
 replace p5 := eq_true p5
 replace q5 := eq_true q5
 replace p9 := eq_true p9
 replace q9 := eq_true q9
 replace p13 := eq_true p13
 replace q13 := eq_true q13
 replace p16 := eq_true p16
 replace q16 := eq_true q16
 go_wp2
 repeat (go_quiet (fail); try go_wp2)
 go_ret
 refine ⟨?_, ⟨_, rfl⟩⟩
 have e : (bt T ji2 + bt T ji6 + bt T ji10 + bt T ji14) % 256 = (pc32 x : Int) := by
  have l := L.out
  rw [B2.out, B6.out, B10.out, B14.out]
  unfold pc32
  omega
 show Ending.returned (.int .i64 ((bt T ji2 + bt T ji6 + bt T ji10 + bt T ji14) % 256)) = _
 rw [e]
set_option maxHeartbeats 8000000 in
theorem size32.calls (x : Nat) (h1 : x < 4294967296) (w : World) :
  Calls Try.prog 70 #[.int .u32 (x : Int)] w fun e w' => e = .returned (.int .i64 (pc32 x : Int)) ∧ Drawn0 w w' := by
 go_enter Try.func70, Try.ntmps70
 go_wp2_with (go_at_call 94; (with_reducible refine (bits_OnesCount32.calls x h1 _).mono ?_); rintro e w' ⟨rfl, ⟨nd, rfl⟩⟩)
 go_ret
 exact ⟨rfl, ⟨_, rfl⟩⟩
def rib_set_size.f (a0 : Int) : Option Int := if 0 ≤ a0 then (if a0 < 4294967296 then some (pc32 a0.toNat : Int) else none) else none
theorem rib_set_size.calls (a0 : Int) (r : Int) (w : World) (h : rib_set_size.f a0 = some r) : Calls Try.prog 70 #[.int .u32 a0] w fun e w' => e = .returned (.int .i64 r) ∧ Drawn0 w w' := by
 unfold rib_set_size.f at h
 split at h
 ·split at h
  ·obtain rfl := Option.some.inj h
   obtain ⟨x, rfl⟩ : ∃ x : Nat, a0 = x := ⟨a0.toNat, by omega⟩
   exact size32.calls x (by omega) w
  ·cases h
 ·cases h
theorem pc8_shift (x k : Nat) : pc8 (x / 2 ^ k % 256) = (List.range 8).countP fun i => x.testBit (k + i) := by
 unfold pc8
 apply List.countP_congr
 intro i hi
 have hi8 : i < 8 := List.mem_range.1 hi
 rw [show (256 : Nat) = 2 ^ 8 from rfl, Nat.testBit_mod_two_pow, Nat.testBit_div_two_pow]
 simp [hi8, Nat.add_comm]
theorem pc32_count (x : Nat) (h : x < 4294967296) : pc32 x = (List.range 32).countP (x.testBit ·) := by
 have e : List.range 32 = List.range 8 ++ ((List.range 8).map (8 + ·) ++ ((List.range 8).map (16 + ·) ++ (List.range 8).map (24 + ·))) := by decide
 have h0 := pc8_shift x 0
 have h8 := pc8_shift x 8
 have h16 := pc8_shift x 16
 have h24 := pc8_shift x 24
 rw [e, List.countP_append, List.countP_append, List.countP_append, List.countP_map, List.countP_map, List.countP_map]
 unfold pc32
 rw [show x / 16777216 = x / 2 ^ 24 % 256 by rw [show (2 : Nat) ^ 24 = 16777216 from rfl]; omega, show x / 65536 = x / 2 ^ 16 from rfl, show x / 256 = x / 2 ^ 8 from rfl, show x % 256 = x / 2 ^ 0 % 256 by simp, h0, h8, h16, h24]
 simp only [Nat.zero_add]
 have : (fun x_1 => x.testBit x_1) = (x.testBit ·) := rfl
 simp only [Function.comp_def]
 omega
end Go.Proofs.Ytdpolfflemocaaa.Own
