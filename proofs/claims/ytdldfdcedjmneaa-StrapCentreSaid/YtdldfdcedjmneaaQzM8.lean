/- The declarations of M8 that the claim Qz needs. -/
import Derived.Test.YtdldfdcedjmneaaQzM7
namespace Go.Proofs.Ytdldfdcedjmneaa.Lx
open Go.RowKit Go.Proofs.Ytdldfdcedjmneaa.Own Go.Proofs.YtdldfdcedjmneaaW.PrintWords Go.Proofs.YtdldfdcedjmneaaW.PrintLast Go.Proofs.YtdldfdcedjmneaaW.PrintMore
attribute [local go_sem] max2_int min2_int max_two min_two max_three min_three max_four min_four
set_option linter.unusedVariables false
set_option linter.unusedSimpArgs false
theorem turn_neg {m0 x : Int} (h1 : 2 ≤ m0) (h2 : m0 ≤ 6) (hx : Br.Letter m0.toNat x) (c : x < 0) : wrap64 (-(wrap64 (m0 - wrap64 (-x)))) = Pure.turn m0.toNat x := by
 obtain ⟨k0, k1, k2⟩ := hx
 have e : wrap64 (-x) = -x := by unfold wrap64; omega
 rw [e]
 unfold Pure.turn wrap64
 rw [if_neg (by omega)]
 omega
theorem turn_pos {m0 x : Int} (h1 : 2 ≤ m0) (h2 : m0 ≤ 6) (hx : Br.Letter m0.toNat x) (c : ¬ x < 0) : wrap64 (m0 - x) = Pure.turn m0.toNat x := by
 obtain ⟨k0, k1, k2⟩ := hx
 unfold Pure.turn wrap64
 rw [if_pos (by omega)]
 omega
theorem turn_no1 {m0 x : Int} (h2 : m0 ≤ 6) (hx : Br.Letter m0.toNat x) (c : x < 0) (h : wrap64 (-x) ≤ x) : False := by
 obtain ⟨k0, k1, k2⟩ := hx
 unfold wrap64 at h
 omega
theorem turn_no2 {m0 x : Int} (h2 : m0 ≤ 6) (hx : Br.Letter m0.toNat x) (c : 0 ≤ x) (h : x < wrap64 (-x)) : False := by
 obtain ⟨k0, k1, k2⟩ := hx
 unfold wrap64 at h
 omega
set_option maxHeartbeats 8000000 in
set_option maxRecDepth 100000 in
theorem centre_calls (a0 : Int) (A1 : Option Addr) (c1 : Nat) (l1 : List Int) (w : World) (h0 : (Lit.int .u8 a0).wf = true) (h1 : ∀ x ∈ l1, (Lit.int .i8 x).wf = true) (hr1 : Kd.C (Kd.int .i8) w A1 l1.length l1) (hc1 : l1.length ≤ c1) :
    Calls Try.prog 6 #[.int .u8 a0, .slice A1 l1.length c1] w fun e w' => e = .returned (.bool true) ∧ Below w.heap.size w w' := by
  obtain ⟨m0, xs, hf, ws, F0⟩ := CeF.of h0 h1
  have F := Aside0.mk F0
  have HR := Aside0.mk hr1
  clear F0 hr1 h0 h1
  go_enter Try.func6, Try.ntmps6
  go_upto_block 0 with (first
    | (go_at_call 24; (with_reducible refine (gamplaw05_strands.calls a0 6 m0 _ F.out.st).mono ?_); rintro e w2 ⟨rfl, hb⟩; have HR2 := Aside0.mk (Kd.C_below HR.out hb.below); have HB2 := Aside0.mk hb.below; clear hb)
    | (go_at_call 25; obtain ⟨kw, ew⟩ := F.out.wd; (with_reducible refine (gamplaw05_word.calls kw m0 _ _ l1 24 xs _ HR2.out hc1 ew).mono ?_); rintro e w3 ⟨v3, rfl, ho, hb⟩; obtain ⟨Ax, cx, rfl⟩ := Kd.R_slice ho; have HX := Aside0.mk (Kd.R_reads' ho).2.2; have HXc := Aside0.mk (Kd.R_reads' ho).2.1; have HB3 := Aside0.mk (below_step HB2.out hb); clear ho hb ew)
    | (go_at_call 29; obtain ⟨kh, eh⟩ := F.out.hh; (with_reducible refine (gampref05_Half.calls kh m0 hf _ eh).mono ?_); rintro e w4 ⟨v4, rfl, ho, hb⟩; obtain ⟨Ah, ch, rfl⟩ := Kd.R_slice ho; have HH := Aside0.mk (Kd.R_reads' ho).2.2; have HHc := Aside0.mk (Kd.R_reads' ho).2.1; have HX4 := Aside0.mk (Kd.C_below HX.out hb); have HB4 := Aside0.mk (below_step HB3.out hb); clear ho hb HX eh)
    | (go_at_call 28; obtain ⟨ks, es⟩ := F.out.si; (with_reducible refine (gampref05_Simple.calls ks _ _ hf ws _ HH.out HHc.out es).mono ?_); rintro e w5 ⟨v5, rfl, ho, hb⟩; obtain ⟨Aw, cw, rfl⟩ := Kd.R_slice ho; have HW5 := Aside0.mk (Kd.R_reads' ho).2.2; have HWc := Aside0.mk (Kd.R_reads' ho).2.1; have HX5 := Aside0.mk (Kd.C_below HX4.out hb); have HB5 := Aside0.mk (below_step HB4.out hb); clear ho hb HX4 HH es)
    | ((with_reducible refine gate_dst (N := 19) rfl ?_); refine Kd.R_lit (Kd.int .i64) _ 3 ?hg (N := 19) ?hd (xs := ([] : List Int)) (inner := []) (ok := fun _ => True) (okp := fun _ => True) ?hr ?hp (fun _ hk => hk) trivial (Below.refl _ _) (Nat.le_refl _) (by simp) ?_; (case hd => rfl); (case hg => rfl); (case hr => first | (go_simp; done) | (go_simp; rfl)); (case hp => exact (Reps.none _ _)); intro v6 w6 ho hb hg_ hnew_; clear hg_ hnew_; have HT6 := Aside0.mk ho; have HB6 := Aside0.mk hb; clear ho hb))
  have hM1 := F.out.m1
  have hM2 := F.out.m2
  have hlx := F.out.lx
  go_wp2
  go_loopg [8, 9] xs.length (fun kq s8 s9 wr => ∃ (i : Nat), s9 = .int .i64 i ∧ i ≤ xs.length ∧ xs.length - i ≤ kq ∧ Aside0 (Kd.R (Kd.int .i64) 3 wr w5.heap.size (fun _ => True) s8 ((xs.take i).map (Pure.turn m0.toNat))) ∧ Aside0 (Below w5.heap.size w5 wr))
  case atStart => exact ⟨0, rfl, by omega, by omega, HT6, HB6⟩
  case round =>
    clear HT6 HB6
    obtain ⟨i, rfl, hi, hk, HT, HBr⟩ := hrel
    by_cases hlt : i < xs.length
    · have hlt2 : (i : Int) < (xs.length : Int) := by omega
      have hi0 : (0 : Int) ≤ (i : Int) := by omega
      obtain ⟨ad, eA, hx⟩ := Kd.at_int HX5.out (i : Int) hi0 hlt2
      cases eA
      replace hx := (HBr.out.cell (World.block_lt_of_cell? w5 _ hx)).trans hx
      have hrd : rd xs (i : Int) = xs[i] := by rw [rd_nat, List.getD_eq_getElem?_getD, List.getElem?_eq_getElem hlt]; rfl
      have hlet : Br.Letter m0.toNat xs[i] := F.out.wx _ (List.getElem_mem hlt)
      have htk : (xs.take (i + 1)).map (Pure.turn m0.toNat) = (xs.take i).map (Pure.turn m0.toNat) ++ [Pure.turn m0.toNat xs[i]] := by rw [List.take_succ_eq_append_getElem hlt, List.map_append]; rfl
      rw [hrd, Int.toNat_natCast] at hx
      generalize xs[i] = x at hx hlet htk
      clear hrd
      have HL := Aside0.mk hlet
      have HK := Aside0.mk htk
      have HM1 := Aside0.mk hM1
      have HM2 := Aside0.mk hM2
      have hll : ((xs.take i).map (Pure.turn m0.toNat)).length ≤ 24 := by rw [List.length_map, List.length_take]; omega
      have HLL := Aside0.mk hll
      clear hlet htk hM1 hM2 hll
      obtain ⟨ys, hys⟩ : ∃ ys, (xs.take i).map (Pure.turn m0.toNat) = ys := ⟨_, rfl⟩
      rw [hys] at HT HK HLL
      by_cases c : x < 0
      · have cb : decide (x < 0) = true := decide_eq_true c
        have HE := Aside0.mk (turn_neg HM1.out HM2.out HL.out c)
        have HC := Aside0.mk c
        clear c
        go_upto_region 8 with (fail)
        have HTd : Aside0 (Kd.R (Kd.int .i64) 3 wr.drew w5.heap.size (fun _ => True) u8 ys) := ⟨Kd.R_drew HT.out⟩
        have HBd : Aside0 (Below w5.heap.size w5 wr.drew) := ⟨below_drew1 HBr.out⟩
        have hS : wr.drew.cell? (ad.add i) = some (.int .i64 x) := hx
        refine Own.wp_region_T 12 (fun w' => w'.cell? (ad.add i) = some (.int .i64 x)) (by kernel_rfl) ?_
        refine wpAnyT_take (i := 0) (v := ?_) rfl (by kernel_rfl) (by kernel_rfl) (by kernel_rfl) (by kernel_rfl) (fun _ _ _ h => h) (Or.inl ⟨by rfl, ?_⟩) (by assumption) ?_
        rotate_left
        · intro wS hSw; (try dsimp only at hSw); go_simp; try with_reducible rfl
        (try simp only [Act.put, List.setIfInBounds_toArray, List.set_cons_zero, List.set_cons_succ])
        refine wpAnyT_take (i := 1) (v := ?_) rfl (by kernel_rfl) (by kernel_rfl) (by kernel_rfl) (by kernel_rfl) (fun _ _ _ h => h) (Or.inl ⟨by rfl, ?_⟩) (by assumption) ?_
        rotate_left
        · intro wS hSw; (try dsimp only at hSw); go_simp; try with_reducible rfl
        (try simp only [Act.put, List.setIfInBounds_toArray, List.set_cons_zero, List.set_cons_succ])
        refine wpAnyT_take (i := 2) (v := ?_) rfl (by kernel_rfl) (by kernel_rfl) (by kernel_rfl) (by kernel_rfl) (fun _ _ _ h => h) (Or.inl ⟨by rfl, ?_⟩) (by assumption) ?_
        rotate_left
        · intro wS hSw; (try dsimp only at hSw); go_simp; try with_reducible rfl
        (try simp only [Act.put, List.setIfInBounds_toArray, List.set_cons_zero, List.set_cons_succ])
        refine wpAnyT_take (i := 3) (v := ?_) rfl (by kernel_rfl) (by kernel_rfl) (by kernel_rfl) (by kernel_rfl) (fun _ _ _ h => h) (Or.inl ⟨by rfl, ?_⟩) (by assumption) ?_
        rotate_left
        · intro wS hSw; (try dsimp only at hSw); go_simp; try with_reducible rfl
        (try simp only [Act.put, List.setIfInBounds_toArray, List.set_cons_zero, List.set_cons_succ])
        refine wpAnyT_take (i := 4) (v := ?_) rfl (by kernel_rfl) (by kernel_rfl) (by kernel_rfl) (by kernel_rfl) (fun _ _ _ h => h) (Or.inl ⟨by rfl, ?_⟩) (by assumption) ?_
        rotate_left
        · intro wS hSw; (try dsimp only at hSw); go_simp; try with_reducible rfl
        (try simp only [Act.put, List.setIfInBounds_toArray, List.set_cons_zero, List.set_cons_succ])
        refine wpAnyT_take (i := 5) (v := ?_) rfl (by kernel_rfl) (by kernel_rfl) (by kernel_rfl) (by kernel_rfl) (fun _ _ _ h => h) (Or.inl ⟨by rfl, ?_⟩) (by assumption) ?_
        rotate_left
        · intro wS hSw; (try dsimp only at hSw); go_simp; try with_reducible rfl
        (try simp only [Act.put, List.setIfInBounds_toArray, List.set_cons_zero, List.set_cons_succ])
        refine wpAnyT_take (i := 6) (v := ?_) rfl (by kernel_rfl) (by kernel_rfl) (by kernel_rfl) (by kernel_rfl) (fun _ _ _ h => h) (Or.inl ⟨by rfl, ?_⟩) (by assumption) ?_
        rotate_left
        · intro wS hSw; (try dsimp only at hSw); go_simp; try with_reducible rfl
        (try simp only [Act.put, List.setIfInBounds_toArray, List.set_cons_zero, List.set_cons_succ])
        refine wpAnyT_take (i := 7) (v := ?_) rfl (by kernel_rfl) (by kernel_rfl) (by kernel_rfl) (by kernel_rfl) (fun _ _ _ h => h) (Or.inl ⟨by rfl, ?_⟩) (by assumption) ?_
        rotate_left
        · intro wS hSw; (try dsimp only at hSw); go_simp; try with_reducible rfl
        (try simp only [Act.put, List.setIfInBounds_toArray, List.set_cons_zero, List.set_cons_succ])
        refine wpAnyT_take (i := 8) (v := ?_) rfl (by kernel_rfl) (by kernel_rfl) (by kernel_rfl) (by kernel_rfl) (fun _ _ _ h => h) (Or.inl ⟨by rfl, ?_⟩) (by assumption) ?_
        rotate_left
        · intro wS hSw; (try dsimp only at hSw); go_simp; try with_reducible rfl
        (try simp only [Act.put, List.setIfInBounds_toArray, List.set_cons_zero, List.set_cons_succ])
        refine wpAnyT_take (i := 9) (v := ?_) rfl (by kernel_rfl) (by kernel_rfl) (by kernel_rfl) (by kernel_rfl) (fun _ _ _ h => h) (Or.inl ⟨by rfl, ?_⟩) (by assumption) ?_
        rotate_left
        · intro wS hSw; (try dsimp only at hSw); go_simp; try with_reducible rfl
        (try simp only [Act.put, List.setIfInBounds_toArray, List.set_cons_zero, List.set_cons_succ])
        refine wpAnyT_take (i := 10) (v := ?_) rfl (by kernel_rfl) (by kernel_rfl) (by kernel_rfl) (by kernel_rfl) (fun _ _ _ h => h) (Or.inl ⟨by rfl, ?_⟩) (by assumption) ?_
        rotate_left
        · intro wS hSw; (try dsimp only at hSw); go_simp; try with_reducible rfl
        (try simp only [Act.put, List.setIfInBounds_toArray, List.set_cons_zero, List.set_cons_succ])
        refine wpAnyT_take (i := 11) (v := ?_) rfl (by kernel_rfl) (by kernel_rfl) (by kernel_rfl) (by kernel_rfl) (fun _ _ _ h => h) (Or.inl ⟨by rfl, ?_⟩) (by assumption) ?_
        rotate_left
        · intro wS hSw; (try dsimp only at hSw); go_simp; try with_reducible rfl
        (try simp only [Act.put, List.setIfInBounds_toArray, List.set_cons_zero, List.set_cons_succ])
        refine wpAnyT_one (i := 12) (by kernel_rfl) rfl (fun K hK => ?_)
        (go_wp2 <;> first | (exfalso; exact turn_no1 HM2.out HL.out HC.out h) | skip)
        refine hK _ _ (fun h => absurd rfl h) ?_
        clear hK K
        (try simp only [Act.put, List.setIfInBounds_toArray, List.set_cons_zero, List.set_cons_succ])
        refine wpAnyT_done (by kernel_rfl) ?_ _
        generalize wr.drew = wd at *
        clear HT HBr hx
        go_wp2_with ((with_reducible refine gate_builtin (b := .append) (xs := #[.tmp 45, .tmp 47]) rfl ?_); at_builtin; refine Kd.R_append (Kd.int .i64) (w0 := w5) w5.heap.size rfl (.tmp 45) (.tmp 47) 22 3 (.int .i64 0) 8 rfl Try.underlying22 info3 rfl (by decide) (by omega) u8 ys (wrap64 (-(wrap64 (m0 - (wrap64 (-x)))))) [.int .i64 (wrap64 (-(wrap64 (m0 - (wrap64 (-x))))))] (fun _ => True) (fun _ => False) rfl rfl ?aP (fun _ hk => hk.elim) ?aF ?aO ?aB ?aS ?aL ?_; (case aP => exact rfl); (case aB => exact (by repeat (first | exact HBd.out | apply below_alloc | apply pw_below_drewN | apply below_drew1))); (case aF => exact (fun _ _ => trivial)); (case aO => exact (by (with_reducible repeat (first | apply Kd.R_alloc | apply Kd.R_drewN | apply Kd.R_drew)); exact HTd.out)); (case aS => exact (below_size (by repeat (first | exact HBd.out | apply below_alloc | apply pw_below_drewN | apply below_drew1)))); (case aL => (have := HLL.out; omega)); intro v1 w1 ho hb hg hat; have HT2 := Aside0.mk ho; have HB2_ := Aside0.mk hb; clear ho hb hg hat)
        go_roundg (xs.length - (i + 1))
        case measure => omega
        case rel => exact ⟨i + 1, by go_num, by omega, Nat.le_refl _, ⟨by rw [HK.out, ← HE.out]; exact HT2.out⟩, HB2_⟩
      · have cb : decide (x < 0) = false := decide_eq_false c
        have HE := Aside0.mk (turn_pos HM1.out HM2.out HL.out c)
        have HC : Aside0 (0 ≤ x) := ⟨by omega⟩
        clear c
        go_upto_region 8 with (fail)
        have HTd : Aside0 (Kd.R (Kd.int .i64) 3 wr.drew w5.heap.size (fun _ => True) u8 ys) := ⟨Kd.R_drew HT.out⟩
        have HBd : Aside0 (Below w5.heap.size w5 wr.drew) := ⟨below_drew1 HBr.out⟩
        have hS : wr.drew.cell? (ad.add i) = some (.int .i64 x) := hx
        refine Own.wp_region_T 12 (fun w' => w'.cell? (ad.add i) = some (.int .i64 x)) (by kernel_rfl) ?_
        refine wpAnyT_take (i := 0) (v := ?_) rfl (by kernel_rfl) (by kernel_rfl) (by kernel_rfl) (by kernel_rfl) (fun _ _ _ h => h) (Or.inl ⟨by rfl, ?_⟩) (by assumption) ?_
        rotate_left
        · intro wS hSw; (try dsimp only at hSw); go_simp; try with_reducible rfl
        (try simp only [Act.put, List.setIfInBounds_toArray, List.set_cons_zero, List.set_cons_succ])
        refine wpAnyT_take (i := 1) (v := ?_) rfl (by kernel_rfl) (by kernel_rfl) (by kernel_rfl) (by kernel_rfl) (fun _ _ _ h => h) (Or.inl ⟨by rfl, ?_⟩) (by assumption) ?_
        rotate_left
        · intro wS hSw; (try dsimp only at hSw); go_simp; try with_reducible rfl
        (try simp only [Act.put, List.setIfInBounds_toArray, List.set_cons_zero, List.set_cons_succ])
        refine wpAnyT_take (i := 2) (v := ?_) rfl (by kernel_rfl) (by kernel_rfl) (by kernel_rfl) (by kernel_rfl) (fun _ _ _ h => h) (Or.inl ⟨by rfl, ?_⟩) (by assumption) ?_
        rotate_left
        · intro wS hSw; (try dsimp only at hSw); go_simp; try with_reducible rfl
        (try simp only [Act.put, List.setIfInBounds_toArray, List.set_cons_zero, List.set_cons_succ])
        refine wpAnyT_take (i := 3) (v := ?_) rfl (by kernel_rfl) (by kernel_rfl) (by kernel_rfl) (by kernel_rfl) (fun _ _ _ h => h) (Or.inl ⟨by rfl, ?_⟩) (by assumption) ?_
        rotate_left
        · intro wS hSw; (try dsimp only at hSw); go_simp; try with_reducible rfl
        (try simp only [Act.put, List.setIfInBounds_toArray, List.set_cons_zero, List.set_cons_succ])
        refine wpAnyT_take (i := 4) (v := ?_) rfl (by kernel_rfl) (by kernel_rfl) (by kernel_rfl) (by kernel_rfl) (fun _ _ _ h => h) (Or.inl ⟨by rfl, ?_⟩) (by assumption) ?_
        rotate_left
        · intro wS hSw; (try dsimp only at hSw); go_simp; try with_reducible rfl
        (try simp only [Act.put, List.setIfInBounds_toArray, List.set_cons_zero, List.set_cons_succ])
        refine wpAnyT_take (i := 5) (v := ?_) rfl (by kernel_rfl) (by kernel_rfl) (by kernel_rfl) (by kernel_rfl) (fun _ _ _ h => h) (Or.inl ⟨by rfl, ?_⟩) (by assumption) ?_
        rotate_left
        · intro wS hSw; (try dsimp only at hSw); go_simp; try with_reducible rfl
        (try simp only [Act.put, List.setIfInBounds_toArray, List.set_cons_zero, List.set_cons_succ])
        refine wpAnyT_take (i := 6) (v := ?_) rfl (by kernel_rfl) (by kernel_rfl) (by kernel_rfl) (by kernel_rfl) (fun _ _ _ h => h) (Or.inl ⟨by rfl, ?_⟩) (by assumption) ?_
        rotate_left
        · intro wS hSw; (try dsimp only at hSw); go_simp; try with_reducible rfl
        (try simp only [Act.put, List.setIfInBounds_toArray, List.set_cons_zero, List.set_cons_succ])
        refine wpAnyT_take (i := 7) (v := ?_) rfl (by kernel_rfl) (by kernel_rfl) (by kernel_rfl) (by kernel_rfl) (fun _ _ _ h => h) (Or.inl ⟨by rfl, ?_⟩) (by assumption) ?_
        rotate_left
        · intro wS hSw; (try dsimp only at hSw); go_simp; try with_reducible rfl
        (try simp only [Act.put, List.setIfInBounds_toArray, List.set_cons_zero, List.set_cons_succ])
        refine wpAnyT_take (i := 8) (v := ?_) rfl (by kernel_rfl) (by kernel_rfl) (by kernel_rfl) (by kernel_rfl) (fun _ _ _ h => h) (Or.inl ⟨by rfl, ?_⟩) (by assumption) ?_
        rotate_left
        · intro wS hSw; (try dsimp only at hSw); go_simp; try with_reducible rfl
        (try simp only [Act.put, List.setIfInBounds_toArray, List.set_cons_zero, List.set_cons_succ])
        refine wpAnyT_take (i := 9) (v := ?_) rfl (by kernel_rfl) (by kernel_rfl) (by kernel_rfl) (by kernel_rfl) (fun _ _ _ h => h) (Or.inl ⟨by rfl, ?_⟩) (by assumption) ?_
        rotate_left
        · intro wS hSw; (try dsimp only at hSw); go_simp; try with_reducible rfl
        (try simp only [Act.put, List.setIfInBounds_toArray, List.set_cons_zero, List.set_cons_succ])
        refine wpAnyT_take (i := 10) (v := ?_) rfl (by kernel_rfl) (by kernel_rfl) (by kernel_rfl) (by kernel_rfl) (fun _ _ _ h => h) (Or.inl ⟨by rfl, ?_⟩) (by assumption) ?_
        rotate_left
        · intro wS hSw; (try dsimp only at hSw); go_simp; try with_reducible rfl
        (try simp only [Act.put, List.setIfInBounds_toArray, List.set_cons_zero, List.set_cons_succ])
        refine wpAnyT_take (i := 11) (v := ?_) rfl (by kernel_rfl) (by kernel_rfl) (by kernel_rfl) (by kernel_rfl) (fun _ _ _ h => h) (Or.inl ⟨by rfl, ?_⟩) (by assumption) ?_
        rotate_left
        · intro wS hSw; (try dsimp only at hSw); go_simp; try with_reducible rfl
        (try simp only [Act.put, List.setIfInBounds_toArray, List.set_cons_zero, List.set_cons_succ])
        refine wpAnyT_one (i := 12) (by kernel_rfl) rfl (fun K hK => ?_)
        (go_wp2 <;> first | (exfalso; exact turn_no2 HM2.out HL.out HC.out h) | skip)
        refine hK _ _ (fun h => absurd rfl h) ?_
        clear hK K
        (try simp only [Act.put, List.setIfInBounds_toArray, List.set_cons_zero, List.set_cons_succ])
        refine wpAnyT_done (by kernel_rfl) ?_ _
        generalize wr.drew = wd at *
        clear HT HBr hx
        go_wp2_with ((with_reducible refine gate_builtin (b := .append) (xs := #[.tmp 45, .tmp 47]) rfl ?_); at_builtin; refine Kd.R_append (Kd.int .i64) (w0 := w5) w5.heap.size rfl (.tmp 45) (.tmp 47) 22 3 (.int .i64 0) 8 rfl Try.underlying22 info3 rfl (by decide) (by omega) u8 ys (wrap64 (m0 - x)) [.int .i64 (wrap64 (m0 - x))] (fun _ => True) (fun _ => False) rfl rfl ?aP (fun _ hk => hk.elim) ?aF ?aO ?aB ?aS ?aL ?_; (case aP => exact rfl); (case aB => exact (by repeat (first | exact HBd.out | apply below_alloc | apply pw_below_drewN | apply below_drew1))); (case aF => exact (fun _ _ => trivial)); (case aO => exact (by (with_reducible repeat (first | apply Kd.R_alloc | apply Kd.R_drewN | apply Kd.R_drew)); exact HTd.out)); (case aS => exact (below_size (by repeat (first | exact HBd.out | apply below_alloc | apply pw_below_drewN | apply below_drew1)))); (case aL => (have := HLL.out; omega)); intro v1 w1 ho hb hg hat; have HT2 := Aside0.mk ho; have HB2_ := Aside0.mk hb; clear ho hb hg hat)
        go_roundg (xs.length - (i + 1))
        case measure => omega
        case rel => exact ⟨i + 1, by go_num, by omega, Nat.le_refl _, ⟨by rw [HK.out, ← HE.out]; exact HT2.out⟩, HB2_⟩
    · obtain rfl : i = xs.length := by omega
      rw [List.take_of_length_le (Nat.le_refl _)] at HT
      obtain ⟨ts, hts⟩ : ∃ ts, xs.map (Pure.turn m0.toNat) = ts := ⟨_, rfl⟩
      obtain ⟨kj1, ej1'⟩ := F.out.j1
      obtain ⟨kj2, ej2'⟩ := F.out.j2
      obtain ⟨kj3, ej3'⟩ := F.out.j3
      obtain ⟨kj4, ej4'⟩ := F.out.j4
      obtain ⟨ks1, es1'⟩ := F.out.s1
      obtain ⟨ks2, es2'⟩ := F.out.s2
      obtain ⟨kl, el'⟩ := F.out.li
      rw [hts] at HT ej4' es2'
      obtain ⟨L1, hL1'⟩ : ∃ L, L = [ws, ws, xs] := ⟨_, rfl⟩
      obtain ⟨L2, hL2'⟩ : ∃ L, L = [xs, ws, ws] := ⟨_, rfl⟩
      obtain ⟨L3, hL3'⟩ : ∃ L, L = [xs, ws] := ⟨_, rfl⟩
      obtain ⟨L4, hL4'⟩ : ∃ L, L = [ws, ts] := ⟨_, rfl⟩
      rw [← hL1'] at ej1'
      rw [← hL2'] at ej2'
      rw [← hL3'] at ej3'
      rw [← hL4'] at ej4'
      generalize ws ++ ws ++ xs = J1 at ej1' es1'
      generalize xs ++ ws ++ ws = J2 at ej2' es1'
      generalize xs ++ ws = J3 at ej3' es2'
      generalize ws ++ ts = J4 at ej4' es2'
      have hL1 := Aside0.mk hL1'
      have hL2 := Aside0.mk hL2'
      have hL3 := Aside0.mk hL3'
      have hL4 := Aside0.mk hL4'
      have ej1 := Aside0.mk ej1'
      have ej2 := Aside0.mk ej2'
      have ej3 := Aside0.mk ej3'
      have ej4 := Aside0.mk ej4'
      have es1 := Aside0.mk es1'
      have es2 := Aside0.mk es2'
      have el := Aside0.mk el'
      clear hL1' hL2' hL3' hL4' ej1' ej2' ej3' ej4' es1' es2' el' hts
      obtain ⟨At, ct, rfl⟩ := Kd.R_slice HT.out
      have HTc := Aside0.mk (Kd.R_reads' HT.out).2.1
      have HT1 := Aside0.mk (Kd.R_reads' HT.out).2.2
      have HX := Aside0.mk (Kd.C_below HX5.out HBr.out)
      have HW := Aside0.mk (Kd.C_below HW5.out HBr.out)
      have HB := Aside0.mk (below_step HB5.out HBr.out)
      clear HT HX5 HW5 HBr HB5 hk hi hlt
      have HT := HT1
      clear HT1
      go_wp2_with (first
          | ((with_reducible refine gate_dst (N := 53) rfl ?_); (try (refine gate_guard (by rfl) ?_; dsimp only)); refine Kd.N_lit (Kd.slice 3 (Kd.int .i64)) _ 22 ?hg (N' := 53) ?hd (xs := ([ws, ws, xs] : List (List Int))) (inner := [.slice Aw ws.length cw, .slice Aw ws.length cw, .slice Ax xs.length cx]) (ok := fun _ => True) (okp := fun _ => True) ?hr ?hp (fun _ hk => hk) trivial (Below.refl _ _) (Nat.le_refl _) (by simp) ?_; (case hd => rfl); (case hg => rfl); (case hr => first | (go_simp; done) | (go_simp; rfl)); (case hp => exact (Reps.one (FK_row HW.out HWc.out) (Reps.one (FK_row HW.out HWc.out) (Reps.one (FK_row HX.out HXc.out) (Reps.none _ _))))); intro v53 w53 ho hb hg_ hnew_; clear hg_ hnew_; rw [← hL1.out] at ho; obtain ⟨A53, c53, rfl⟩ := Kd.N_slice ho; have HL1 := Aside0.mk (Kd.N_reads' ho).2.2; have HL1c := Aside0.mk (Kd.N_reads' ho).2.1; clear ho; have n_HX := Aside0.mk (Kd.C_below HX.out hb); have n_HW := Aside0.mk (Kd.C_below HW.out hb); have n_HT := Aside0.mk (Kd.C_below HT.out hb); have n_HB := Aside0.mk (below_step HB.out hb); clear HX HW HT HB; have HX := n_HX; have HW := n_HW; have HT := n_HT; have HB := n_HB; clear n_HX n_HW n_HT n_HB; clear hb)
          | (go_at_call 27; (with_reducible refine (gamplaw05_joined.calls kj1 _ _ L1 J1 _ HL1.out HL1c.out ej1.out).mono ?_); rintro e w54 ⟨v54, rfl, ho, hb⟩; obtain ⟨A54, c54, rfl⟩ := Kd.R_slice ho; have HJ1 := Aside0.mk (Kd.R_reads' ho).2.2; have HJ1c := Aside0.mk (Kd.R_reads' ho).2.1; clear ho; clear HL1 HL1c; have n_HX := Aside0.mk (Kd.C_below HX.out hb); have n_HW := Aside0.mk (Kd.C_below HW.out hb); have n_HT := Aside0.mk (Kd.C_below HT.out hb); have n_HB := Aside0.mk (below_step HB.out hb); clear HX HW HT HB; have HX := n_HX; have HW := n_HW; have HT := n_HT; have HB := n_HB; clear n_HX n_HW n_HT n_HB; clear hb)
          | ((with_reducible refine gate_dst (N := 58) rfl ?_); (try (refine gate_guard (by rfl) ?_; dsimp only)); refine Kd.N_lit (Kd.slice 3 (Kd.int .i64)) _ 22 ?hg (N' := 58) ?hd (xs := ([xs, ws, ws] : List (List Int))) (inner := [.slice Ax xs.length cx, .slice Aw ws.length cw, .slice Aw ws.length cw]) (ok := fun _ => True) (okp := fun _ => True) ?hr ?hp (fun _ hk => hk) trivial (Below.refl _ _) (Nat.le_refl _) (by simp) ?_; (case hd => rfl); (case hg => rfl); (case hr => first | (go_simp; done) | (go_simp; rfl)); (case hp => exact (Reps.one (FK_row HX.out HXc.out) (Reps.one (FK_row HW.out HWc.out) (Reps.one (FK_row HW.out HWc.out) (Reps.none _ _))))); intro v58 w58 ho hb hg_ hnew_; clear hg_ hnew_; rw [← hL2.out] at ho; obtain ⟨A58, c58, rfl⟩ := Kd.N_slice ho; have HL2 := Aside0.mk (Kd.N_reads' ho).2.2; have HL2c := Aside0.mk (Kd.N_reads' ho).2.1; clear ho; have n_HX := Aside0.mk (Kd.C_below HX.out hb); have n_HW := Aside0.mk (Kd.C_below HW.out hb); have n_HT := Aside0.mk (Kd.C_below HT.out hb); have n_HJ1 := Aside0.mk (Kd.C_below HJ1.out hb); have n_HB := Aside0.mk (below_step HB.out hb); clear HX HW HT HJ1 HB; have HX := n_HX; have HW := n_HW; have HT := n_HT; have HJ1 := n_HJ1; have HB := n_HB; clear n_HX n_HW n_HT n_HJ1 n_HB; clear hb)
          | (go_at_call 27; (with_reducible refine (gamplaw05_joined.calls kj2 _ _ L2 J2 _ HL2.out HL2c.out ej2.out).mono ?_); rintro e w59 ⟨v59, rfl, ho, hb⟩; obtain ⟨A59, c59, rfl⟩ := Kd.R_slice ho; have HJ2 := Aside0.mk (Kd.R_reads' ho).2.2; have HJ2c := Aside0.mk (Kd.R_reads' ho).2.1; clear ho; clear HL2 HL2c; have n_HX := Aside0.mk (Kd.C_below HX.out hb); have n_HW := Aside0.mk (Kd.C_below HW.out hb); have n_HT := Aside0.mk (Kd.C_below HT.out hb); have n_HJ1 := Aside0.mk (Kd.C_below HJ1.out hb); have n_HB := Aside0.mk (below_step HB.out hb); clear HX HW HT HJ1 HB; have HX := n_HX; have HW := n_HW; have HT := n_HT; have HJ1 := n_HJ1; have HB := n_HB; clear n_HX n_HW n_HT n_HJ1 n_HB; clear hb)
          | (go_at_call 26; (with_reducible refine (gamplaw05_same.calls ks1 m0 _ _ J1 _ _ J2 true _ HJ1.out HJ1c.out HJ2.out HJ2c.out es1.out rfl).mono ?_); rintro e w60 ⟨rfl, hb⟩; clear HJ1 HJ1c HJ2 HJ2c; have n_HX := Aside0.mk (Kd.C_below HX.out hb); have n_HW := Aside0.mk (Kd.C_below HW.out hb); have n_HT := Aside0.mk (Kd.C_below HT.out hb); have n_HB := Aside0.mk (below_step HB.out hb); clear HX HW HT HB; have HX := n_HX; have HW := n_HW; have HT := n_HT; have HB := n_HB; clear n_HX n_HW n_HT n_HB; clear hb)
          | ((with_reducible refine gate_dst (N := 65) rfl ?_); (try (refine gate_guard (by rfl) ?_; dsimp only)); refine Kd.N_lit (Kd.slice 3 (Kd.int .i64)) _ 22 ?hg (N' := 65) ?hd (xs := ([xs, ws] : List (List Int))) (inner := [.slice Ax xs.length cx, .slice Aw ws.length cw]) (ok := fun _ => True) (okp := fun _ => True) ?hr ?hp (fun _ hk => hk) trivial (Below.refl _ _) (Nat.le_refl _) (by simp) ?_; (case hd => rfl); (case hg => rfl); (case hr => first | (go_simp; done) | (go_simp; rfl)); (case hp => exact (Reps.one (FK_row HX.out HXc.out) (Reps.one (FK_row HW.out HWc.out) (Reps.none _ _)))); intro v65 w65 ho hb hg_ hnew_; clear hg_ hnew_; rw [← hL3.out] at ho; obtain ⟨A65, c65, rfl⟩ := Kd.N_slice ho; have HL3 := Aside0.mk (Kd.N_reads' ho).2.2; have HL3c := Aside0.mk (Kd.N_reads' ho).2.1; clear ho; have n_HX := Aside0.mk (Kd.C_below HX.out hb); have n_HW := Aside0.mk (Kd.C_below HW.out hb); have n_HT := Aside0.mk (Kd.C_below HT.out hb); have n_HB := Aside0.mk (below_step HB.out hb); clear HX HW HT HB; have HX := n_HX; have HW := n_HW; have HT := n_HT; have HB := n_HB; clear n_HX n_HW n_HT n_HB; clear hb)
          | (go_at_call 27; (with_reducible refine (gamplaw05_joined.calls kj3 _ _ L3 J3 _ HL3.out HL3c.out ej3.out).mono ?_); rintro e w66 ⟨v66, rfl, ho, hb⟩; obtain ⟨A66, c66, rfl⟩ := Kd.R_slice ho; have HJ3 := Aside0.mk (Kd.R_reads' ho).2.2; have HJ3c := Aside0.mk (Kd.R_reads' ho).2.1; clear ho; clear HL3 HL3c; have n_HX := Aside0.mk (Kd.C_below HX.out hb); have n_HW := Aside0.mk (Kd.C_below HW.out hb); have n_HT := Aside0.mk (Kd.C_below HT.out hb); have n_HB := Aside0.mk (below_step HB.out hb); clear HX HW HT HB; have HX := n_HX; have HW := n_HW; have HT := n_HT; have HB := n_HB; clear n_HX n_HW n_HT n_HB; clear hb)
          | ((with_reducible refine gate_dst (N := 69) rfl ?_); (try (refine gate_guard (by rfl) ?_; dsimp only)); refine Kd.N_lit (Kd.slice 3 (Kd.int .i64)) _ 22 ?hg (N' := 69) ?hd (xs := ([ws, ts] : List (List Int))) (inner := [.slice Aw ws.length cw, .slice At ts.length ct]) (ok := fun _ => True) (okp := fun _ => True) ?hr ?hp (fun _ hk => hk) trivial (Below.refl _ _) (Nat.le_refl _) (by simp) ?_; (case hd => rfl); (case hg => rfl); (case hr => first | (go_simp; done) | (go_simp; rfl)); (case hp => exact (Reps.one (FK_row HW.out HWc.out) (Reps.one (FK_row HT.out HTc.out) (Reps.none _ _)))); intro v69 w69 ho hb hg_ hnew_; clear hg_ hnew_; rw [← hL4.out] at ho; obtain ⟨A69, c69, rfl⟩ := Kd.N_slice ho; have HL4 := Aside0.mk (Kd.N_reads' ho).2.2; have HL4c := Aside0.mk (Kd.N_reads' ho).2.1; clear ho; have n_HX := Aside0.mk (Kd.C_below HX.out hb); have n_HW := Aside0.mk (Kd.C_below HW.out hb); have n_HT := Aside0.mk (Kd.C_below HT.out hb); have n_HJ3 := Aside0.mk (Kd.C_below HJ3.out hb); have n_HB := Aside0.mk (below_step HB.out hb); clear HX HW HT HJ3 HB; have HX := n_HX; have HW := n_HW; have HT := n_HT; have HJ3 := n_HJ3; have HB := n_HB; clear n_HX n_HW n_HT n_HJ3 n_HB; clear hb)
          | (go_at_call 27; (with_reducible refine (gamplaw05_joined.calls kj4 _ _ L4 J4 _ HL4.out HL4c.out ej4.out).mono ?_); rintro e w70 ⟨v70, rfl, ho, hb⟩; obtain ⟨A70, c70, rfl⟩ := Kd.R_slice ho; have HJ4 := Aside0.mk (Kd.R_reads' ho).2.2; have HJ4c := Aside0.mk (Kd.R_reads' ho).2.1; clear ho; clear HL4 HL4c; have n_HX := Aside0.mk (Kd.C_below HX.out hb); have n_HW := Aside0.mk (Kd.C_below HW.out hb); have n_HT := Aside0.mk (Kd.C_below HT.out hb); have n_HJ3 := Aside0.mk (Kd.C_below HJ3.out hb); have n_HB := Aside0.mk (below_step HB.out hb); clear HX HW HT HJ3 HB; have HX := n_HX; have HW := n_HW; have HT := n_HT; have HJ3 := n_HJ3; have HB := n_HB; clear n_HX n_HW n_HT n_HJ3 n_HB; clear hb)
          | (go_at_call 26; (with_reducible refine (gamplaw05_same.calls ks2 m0 _ _ J3 _ _ J4 true _ HJ3.out HJ3c.out HJ4.out HJ4c.out es2.out rfl).mono ?_); rintro e w71 ⟨rfl, hb⟩; clear HJ3 HJ3c HJ4 HJ4c; have n_HX := Aside0.mk (Kd.C_below HX.out hb); have n_HW := Aside0.mk (Kd.C_below HW.out hb); have n_HT := Aside0.mk (Kd.C_below HT.out hb); have n_HB := Aside0.mk (below_step HB.out hb); clear HX HW HT HB; have HX := n_HX; have HW := n_HW; have HT := n_HT; have HB := n_HB; clear n_HX n_HW n_HT n_HB; clear hb)
          | (go_at_call 20; (with_reducible refine (gamplaw05_lives.calls kl true _ el.out).mono ?_); rintro e w74 ⟨rfl, hb⟩; have n_HB := Aside0.mk (below_step HB.out hb); clear HB; have HB := n_HB; clear n_HB hb))
      go_ret
      exact ⟨rfl, HB.out⟩
theorem centre_walk (a0 : Int) (a1 : Option Addr) (len1 cap1 : Nat) (z1 : List Int) (w : World) (w0 : (Lit.int .u8 a0).wf = true) (w1 : (a1 = none ∧ len1 = 0 ∧ cap1 = 0 ∧ z1 = []) ∨ ∃ x, a1 = some x ∧ len1 ≤ cap1 ∧ cap1 ≤ maxLen ∧ z1.length = cap1 ∧ (∀ i, i < z1.length → w.cell? (x.add i) = some (.int .i8 (z1.getD i 0))) ∧ ∀ n ∈ z1, (Lit.int .i8 n).wf = true) (y1 : len1 * 1 ≤ 140737488351232) :
  Calls Try.prog 6 #[.int .u8 a0, .slice a1 len1 cap1] w fun e w' => e = .returned (.bool true) ∧ Below w.heap.size w w' := by
 obtain ⟨l1, rfl, hr1, hm1, hw1, hc1⟩ := ReadsInt.ofRowC w1
 exact centre_calls a0 _ _ l1 w w0 hw1 (Kd.C_of_reads (d := (0 : Int)) (h1 := fun _ => rfl) hr1) hc1
end Go.Proofs.Ytdldfdcedjmneaa.Lx
