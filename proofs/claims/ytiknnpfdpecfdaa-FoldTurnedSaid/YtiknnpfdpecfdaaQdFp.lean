/- The declarations of Fp that the claim Qd needs. -/
import Derived.Test.YtiknnpfdpecfdaaQdFs
import Derived.Test.YtiknnpfdpecfdaaQdFl
import Derived.Test.YtiknnpfdpecfdaaQdTkP
import Derived.Deep.DeepMust
namespace Go.Proofs.Ytiknnpfdpecfdaa.Own
open Go Go.RowKit Go.Proofs Go.Proofs.Ytiknnpfdpecfdaa.Fe Go.Proofs.YtiknnpfdpecfdaaW.PrintWords Go.Proofs.YtiknnpfdpecfdaaW.PrintLast Go.Proofs.YtiknnpfdpecfdaaW.PrintMore
set_option linter.unusedVariables false
set_option linter.unusedSimpArgs false
def put5T : Bool × List (List Nat × List Nat) := (true, [([], []), ([], []), ([0, 1], [0, 1]), ([2], [2]), ([3, 2], [3]), ([4], [4]), ([5, 4], [4, 5]), ([6, 4], [4, 6]), ([7, 4], [4, 7]), ([8, 4], [4, 8]), ([4], [4]), ([9, 10, 4], [4, 9, 10]), ([11, 4], [4, 11]), ([4], [4]), ([13, 4], [4, 13]), ([12, 14, 4], [4, 12, 14]), ([4, 15], [4, 15]), ([16, 4], [16]), ([17], [17]), ([18, 17], [17, 18]), ([17], [17]), ([20, 17], [17, 20]), ([21, 17], [17, 21]), ([22, 17], [17, 22]), ([23, 17], [17, 23]), ([17], [17]), ([24, 25, 17], [17, 24, 25]), ([26, 17], [17, 26]), ([19, 27, 17], [17, 19, 27]), ([17, 28], [17, 28])])
def put5B : List Nat := [0, 0, 3, 7, 15, 31, 63, 127, 255, 511, 31, 2047, 4095, 31, 8223, 32767, 65535, 131071, 262143, 524287, 262143, 1310719, 3407871, 7602175, 15990783, 262143, 66322431, 133431295, 268435455, 536870911]
theorem put5tab : rtab .any (opsOf Try.f75 5) = put5T := by kernel_rfl
theorem put5bits : waitsOk put5T.2 put5B = true := by kernel_rfl
def put15T : Bool × List (List Nat × List Nat) := (true, [([], []), ([0], [0]), ([1], [1]), ([2], [2]), ([3], [3]), ([4], [4]), ([5], [5]), ([5], [5]), ([7, 5], [5, 7]), ([8, 5], [5, 8]), ([9, 5], [5, 9]), ([5], [5]), ([10, 11, 5], [5, 10, 11]), ([6, 12, 5, 5], [5, 6, 12]), ([5], [5]), ([14, 5], [5, 14]), ([5], [5]), ([15, 16, 5], [5, 15, 16]), ([13, 17, 5], [5, 13, 17]), ([5, 18], [5, 18])])
def put15B : List Nat := [0, 1, 3, 7, 15, 31, 63, 63, 191, 447, 959, 63, 4031, 8191, 63, 16447, 63, 114751, 262143, 524287]
theorem put15tab : rtab .any (opsOf Try.f75 15) = put15T := by kernel_rfl
theorem put15bits : waitsOk put15T.2 put15B = true := by kernel_rfl
theorem below_drew1' {w W : World} (h : Below w.heap.size w W) : Below w.heap.size w W.drew := h.drew
/-- A stack, as put reads it. -/
structure StackR (w : World) (gs : Nat) (Al Ah Ac Aw : Option Addr) (cl ch cc cw : Nat) (low high : List Int) (cr : List S96) (pat : ByteArray) (ws : List Int) : Prop where
  lt : gs < w.heap.size
  c0 : w.cell? ⟨gs, 0, none⟩ = some (.slice Al low.length cl)
  c1 : w.cell? ⟨gs, 1, none⟩ = some (.slice Ah high.length ch)
  c2 : w.cell? ⟨gs, 2, none⟩ = some (.slice Ac cr.length cc)
  c4 : w.cell? ⟨gs, 4, none⟩ = some (.string pat)
  c6 : w.cell? ⟨gs, 6, none⟩ = some (.slice Aw ws.length cw)
  hl : Kd.C (Kd.int .i64) w Al low.length low
  hh : Kd.C (Kd.int .i64) w Ah high.length high
  hc : Kd.C k96 w Ac cr.length cr
  hw : Kd.C (Kd.int .i64) w Aw ws.length ws
  kw : ws.length ≤ cw
theorem StackR.below {w W : World} {gs : Nat} {Al Ah Ac Aw : Option Addr} {cl ch cc cw : Nat} {low high : List Int} {cr : List S96} {pat : ByteArray} {ws : List Int} (h : StackR w gs Al Ah Ac Aw cl ch cc cw low high cr pat ws) (hb : Below w.heap.size w W) : StackR W gs Al Ah Ac Aw cl ch cc cw low high cr pat ws :=
  ⟨Nat.lt_of_lt_of_le h.lt hb.size, (hb.cell (p := ⟨gs, 0, none⟩) h.lt).trans h.c0, (hb.cell (p := ⟨gs, 1, none⟩) h.lt).trans h.c1, (hb.cell (p := ⟨gs, 2, none⟩) h.lt).trans h.c2, (hb.cell (p := ⟨gs, 4, none⟩) h.lt).trans h.c4, (hb.cell (p := ⟨gs, 6, none⟩) h.lt).trans h.c6, Kd.C_below h.hl hb, Kd.C_below h.hh hb, Kd.C_below h.hc hb, Kd.C_below h.hw hb, h.kw⟩
theorem mv {w W : World} (hb : Below w.heap.size w W) {a : Addr} {v : Value} (h : w.cell? a = some v) : W.cell? a = some v := (hb.cell (World.block_lt_of_cell? w _ h)).trans h
theorem up1 {n i : Nat} (hn : n < 2 ^ 20) (hi : i < n) : Value.int .i64 (wrap64 ((i : Int) + 1)) = .int .i64 ((i + 1 : Nat) : Int) := by
  have : wrap64 ((i : Int) + 1) = ((i + 1 : Nat) : Int) := by unfold wrap64; omega
  rw [this]
theorem up1m {n i : Nat} (hn : n < 2 ^ 20) (hi : i < n) : n - (intOf (Value.int .i64 (wrap64 ((i : Int) + 1)))).toNat < n - (intOf (Value.int .i64 (i : Int))).toNat := by
 rw [up1 hn hi]
 simp only [intOf]
 omega
theorem nbs {ws : List Int} {f : Int → Bool} {i : Nat} (h : ∀ j (hj : j < ws.length), j < i → f ws[j] = false) (hi : i < ws.length) (hf : f ws[i] = false) : ∀ j (hj : j < ws.length), j < i + 1 → f ws[j] = false := by
 intro j hj hji
 by_cases e : j = i
 ·subst e; exact hf
 ·exact h j hj (by omega)
theorem putB_some {cr : List S96} {pat : ByteArray} {seg : Int} {k : Nat} {us vs : List Int} (hk : k < cr.length) (h : putStep cr pat seg (k : Int) us = some vs) : putB cr pat seg (cr.length - k) k us = putB cr pat seg (cr.length - (k + 1)) (k + 1) vs := by
  rw [show cr.length - k = (cr.length - (k + 1)) + 1 by omega, putB, h]
  rfl
theorem putB_none {cr : List S96} {pat : ByteArray} {seg : Int} {k : Nat} {us : List Int} (hk : k < cr.length) (h : putStep cr pat seg (k : Int) us = none) : putB cr pat seg (cr.length - k) k us = none := by
  rw [show cr.length - k = (cr.length - (k + 1)) + 1 by omega, putB, h]
  rfl
theorem own_addr {w : World} {base n c : Nat} {A : Option Addr} {us : List Int} (h : Kd.R (Kd.int .i64) 3 w base (fun _ => True) (.slice A n c) us) (hn : 0 < us.length) : ∃ g, A = some ⟨g, 0, none⟩ ∧ base ≤ g := by
 obtain ⟨hlen, hform⟩ := Kd.own_of_R h
 rcases hform with ⟨hv, h0⟩ | ⟨g', cap', cur, hv, hb, hh, hnc, hcm, hcs, htk⟩
 ·simp at hv
  omega
 ·injection hv with e1 e2 e3
  exact ⟨g', e1, hb⟩
theorem ncs {vs : List Int} {f : Int → Bool} {i : Nat} (h : ∀ j (hj : j < vs.length), j < i → f vs[j] = false) (hi : vs.length ≤ i) : vs.any f = false := by
 rw [Bool.eq_false_iff]
 intro ha
 obtain ⟨x, hx, hxb⟩ := List.any_eq_true.1 ha
 obtain ⟨j, hj, rfl⟩ := List.getElem_of_mem hx
 rw [h j hj (by omega)] at hxb
 cases hxb
theorem up2 {n i : Nat} (hn : n < 2 ^ 21) (hi : i < n) : Value.int .i64 (wrap64 ((i : Int) + 1)) = .int .i64 ((i + 1 : Nat) : Int) := by
  have : wrap64 ((i : Int) + 1) = ((i + 1 : Nat) : Int) := by unfold wrap64; omega
  rw [this]
theorem up2m {n i : Nat} (hn : n < 2 ^ 21) (hi : i < n) : n - (intOf (Value.int .i64 (wrap64 ((i : Int) + 1)))).toNat < n - (intOf (Value.int .i64 (i : Int))).toNat := by
 rw [up2 hn hi]
 simp only [intOf]
 omega
set_option maxRecDepth 100000 in
set_option maxHeartbeats 8000000 in
theorem put75 (gs : Nat) (Al Ah Ac Aw : Option Addr) (cl ch cc cw : Nat) (low high : List Int) (cr : List S96) (pat : ByteArray) (ws : List Int) (seg : Int) (w : World) (st : StackR w gs Al Ah Ac Aw cl ch cc cw low high cr pat ws)
    (h0 : 0 ≤ seg) (h1 : seg < low.length) (h2 : seg < high.length) (hws : Okw cr ws) (hcr : cr.length < 2 ^ 20) (hwl : ws.length < 2 ^ 20) (hpat : pat.size = 0 ∨ cr.length ≤ pat.size) :
    Calls Try.prog 75 #[.pointer (some ⟨gs, 0, none⟩), .int .i64 seg] w fun e w' => ∃ v : Value, e = .returned (.tuple #[v, .bool (putF low high cr pat seg ws).isSome]) ∧ Kd.R (Kd.int .i64) 3 w' w.heap.size (fun _ => True) v ((putF low high cr pat seg ws).getD []) ∧ Below w.heap.size w w' := by
  have ST := Aside0.mk st
  have HWS := Aside0.mk hws
  have HCR := Aside0.mk hcr
  have HWL := Aside0.mk hwl
  have HPAT := Aside0.mk hpat
  have d0 := st.c0
  have d6 := st.c6
  clear hws hcr hwl hpat
  go_enter Try.func75, Try.ntmps75
  go_wp2
  go_loopw [21] (fun v21 wr => ∃ i : Nat, v21 = .int .i64 (i : Int) ∧ i ≤ ws.length ∧ Aside0 (∀ j (h : j < ws.length), j < i → blocked low high cr seg ws[j] = false) ∧ Aside0 (Below w.heap.size w wr)) (fun v21 _ => ws.length - (intOf v21).toNat)
  case atStart => exact ⟨0, by first | rfl | simp, Nat.zero_le _, ⟨fun j _ h => by omega⟩, ⟨Below.refl _ _⟩⟩
  case round =>
    obtain ⟨i, rfl, hi, HNB, HBr⟩ := hrel
    by_cases hin : i < ws.length
    · obtain ⟨k, hk⟩ : ∃ k, ws[i] = k := ⟨_, rfl⟩
      have hkm : k ∈ ws := hk ▸ List.getElem_mem hin
      obtain ⟨hk0, hk1⟩ := HWS.out k hkm
      obtain ⟨aw, rfl, hxw⟩ := Kd.at_int ST.out.hw (i : Int) (by omega) (by omega)
      have hrk : rd ws (i : Int) = k := by rw [← hk]; simp [rd, hin]
      rw [hrk, Int.toNat_natCast] at hxw
      obtain ⟨ac, rfl, hxc0, hxc1, hxc2, hxc3⟩ := at_T96 ST.out.hc k hk0 hk1
      obtain ⟨c, hc⟩ : ∃ c, rd_T96 cr k = c := ⟨_, rfl⟩
      rw [hc] at hxc0 hxc1 hxc2 hxc3
      obtain ⟨al, rfl, hxl⟩ := Kd.at_int ST.out.hl seg h0 h1
      obtain ⟨ah, rfl, hxh⟩ := Kd.at_int ST.out.hh seg h0 h2
      have e0 := mv HBr.out ST.out.c0
      have e1 := mv HBr.out ST.out.c1
      have e2 := mv HBr.out ST.out.c2
      have exw := mv HBr.out hxw
      have exc0 := mv HBr.out hxc0
      have exc1 := mv HBr.out hxc1
      have exc2 := mv HBr.out hxc2
      have exc3 := mv HBr.out hxc3
      go_wp2
      obtain ⟨w7, hw7⟩ : ∃ w7, wr.alloc (.cells #[.int .i64 c.f0, .int .i64 c.f1, .int .i64 c.f2, .bool c.f3] 96) = w7 := ⟨_, rfl⟩
      obtain ⟨bx, hbxe⟩ : ∃ bx, wr.heap.size = bx := ⟨_, rfl⟩
      have hb7 : Below w.heap.size w w7 := hw7 ▸ below_alloc HBr.out _
      have hbw : bx < w7.heap.size := by rw [← hw7, ← hbxe]; simp
      have hx : ∀ j u, #[Value.int .i64 c.f0, .int .i64 c.f1, .int .i64 c.f2, .bool c.f3][j]? = some u → w7.cell? ⟨bx, j, none⟩ = some u := by
        intro j u hj
        rw [← hw7, ← hbxe, World.cell?_alloc_mark]
        exact hj
      rw [hw7, hbxe]
      have hbx : Below w7.heap.size w7 w7 := Below.refl _ _
      have HS : ∀ W, Below w7.heap.size w7 W → (W.cell? ⟨bx, 0, none⟩ = some (.int .i64 c.f0) ∧ W.cell? ⟨bx, 1, none⟩ = some (.int .i64 c.f1) ∧ W.cell? ⟨bx, 2, none⟩ = some (.int .i64 c.f2) ∧ W.cell? ⟨bx, 3, none⟩ = some (.bool c.f3)) ∧ W.cell? ⟨gs, 0, none⟩ = some (.slice (some al) low.length cl) ∧ W.cell? ⟨gs, 1, none⟩ = some (.slice (some ah) high.length ch) ∧ W.cell? (al.add seg.toNat) = some (.int .i64 (rd low seg)) ∧ W.cell? (ah.add seg.toNat) = some (.int .i64 (rd high seg)) :=
        fun W hW => ⟨⟨mv hW (hx 0 _ rfl), mv hW (hx 1 _ rfl), mv hW (hx 2 _ rfl), mv hW (hx 3 _ rfl)⟩, mv (below_step hb7 hW) ST.out.c0, mv (below_step hb7 hW) ST.out.c1, mv (below_step hb7 hW) hxl, mv (below_step hb7 hW) hxh⟩
      have hbl : blocked low high cr seg ws[i] = (!(endsB c seg) && (decide (rd low seg < c.f2) && decide (c.f2 < rd high seg))) := by rw [hk]; unfold blocked; rw [hc]
      have HBL := Aside0.mk hbl
      have P0 : (0 ≤ seg) = True := eq_true h0
      have P1 : (seg < (low.length : Int)) = True := eq_true h1
      have P2 : (seg < (high.length : Int)) = True := eq_true h2
      clear hbl exw exc0 exc1 exc2 exc3 e0 e1 e2 hxw hxc0 hxc1 hxc2 hxc3 hx
      have HL := Aside0.mk hxl
      have HH := Aside0.mk hxh
      clear hxl hxh d0 d6 st
      by_cases hb : endsB c seg = true
      · have HX := trivial
        refine start_ (n := 30) (S := fun w' => (w'.cell? ⟨bx, 0, none⟩ = some (.int .i64 c.f0) ∧ w'.cell? ⟨bx, 1, none⟩ = some (.int .i64 c.f1) ∧ w'.cell? ⟨bx, 2, none⟩ = some (.int .i64 c.f2) ∧ w'.cell? ⟨bx, 3, none⟩ = some (.bool c.f3)) ∧ w'.cell? ⟨gs, 0, none⟩ = some (.slice (some al) low.length cl) ∧ w'.cell? ⟨gs, 1, none⟩ = some (.slice (some ah) high.length ch) ∧ w'.cell? (al.add seg.toNat) = some (.int .i64 (rd low seg)) ∧ w'.cell? (ah.add seg.toNat) = some (.int .i64 (rd high seg))) (ds := []) #[false, false, false, false, false, false, false, false, false, false, false, false, false, false, false, false, false, false, false, false, false, false, false, false, false, false, false, false, false, false] (by kernel_rfl) rfl rfl (HS _ (below_drew1' hbx)) (fun hHeld => ?_); refine with_tabW put5tab put5bits (fun HT_ HW_ => ?_)
        refine tr 0 33 HT_ HW_ hHeld ?_
        refine pr 1 34 HT_ ?_
        refine on 2 (some 35) HT_ (fun K hK => ?_)
        refine gS Try.func87 #[.agg #[.int .i64 c.f0, .int .i64 c.f1, .int .i64 c.f2, .bool c.f3], .int .i64 seg] ?_
        refine (Fe.fold_crease_ends.calls c.f0 c.f1 c.f2 c.f3 seg true _ (by rw [ends_f, hb])).mono ?_
        rintro e w9 ⟨rfl, hb9⟩
        refine ⟨_, rfl, ?_⟩
        have hb9' := below_step (below_drew1' hbx) hb9
        refine hK.out _ _ (HS w9 hb9') (fun hHeld => ?_)
        clear hK K
        refine nr (some 35) ?_
        refine pr 3 36 HT_ ?_
        refine pr 4 37 HT_ ?_
        refine pr 5 38 HT_ (hy := Or.inr ⟨by rfl, rfl⟩) ?_
        refine pr 6 39 HT_ (hy := Or.inr ⟨by rfl, rfl⟩) ?_
        refine pr 7 40 HT_ (hy := Or.inr ⟨by rfl, rfl⟩) ?_
        refine pr 8 41 HT_ (hy := Or.inr ⟨by rfl, rfl⟩) ?_
        refine pr 9 42 HT_ (hy := Or.inr ⟨by rfl, rfl⟩) ?_
        refine pr 10 43 HT_ (hy := Or.inr ⟨by rfl, rfl⟩) ?_
        refine pr 11 44 HT_ (hy := Or.inr ⟨by rfl, rfl⟩) ?_
        refine pr 12 45 HT_ (hy := Or.inr ⟨by rfl, rfl⟩) ?_
        refine pr 13 46 HT_ (hy := Or.inr ⟨by rfl, rfl⟩) ?_
        refine pr 14 47 HT_ (hy := Or.inr ⟨by rfl, rfl⟩) ?_
        refine pr 15 48 HT_ (hy := Or.inr ⟨by rfl, rfl⟩) ?_
        refine pr 16 49 HT_ ?_
        refine pr 17 50 HT_ ?_
        refine pr 18 51 HT_ (hy := Or.inr ⟨by rfl, rfl⟩) ?_
        refine pr 19 52 HT_ (hy := Or.inr ⟨by rfl, rfl⟩) ?_
        refine pr 20 53 HT_ (hy := Or.inr ⟨by rfl, rfl⟩) ?_
        refine pr 21 54 HT_ (hy := Or.inr ⟨by rfl, rfl⟩) ?_
        refine pr 22 55 HT_ (hy := Or.inr ⟨by rfl, rfl⟩) ?_
        refine pr 23 56 HT_ (hy := Or.inr ⟨by rfl, rfl⟩) ?_
        refine pr 24 57 HT_ (hy := Or.inr ⟨by rfl, rfl⟩) ?_
        refine pr 25 58 HT_ (hy := Or.inr ⟨by rfl, rfl⟩) ?_
        refine pr 26 59 HT_ (hy := Or.inr ⟨by rfl, rfl⟩) ?_
        refine pr 27 60 HT_ (hy := Or.inr ⟨by rfl, rfl⟩) ?_
        refine pr 28 61 HT_ (hy := Or.inr ⟨by rfl, rfl⟩) ?_
        refine pr 29 62 HT_ ?_
        refine dn HT_ ?_
        try go_wp2
        go_roundw
        case rel => exact ⟨i + 1, up1 HWL.out hin, by omega, ⟨nbs HNB.out hin (by rw [HBL.out]; rw [hb]; rfl)⟩, ⟨below_step hb7 hb9'⟩⟩
        case measure => exact up1m HWL.out hin
      · have hb : endsB c seg = false := by simpa using hb
        by_cases hlt1 : rd low seg < c.f2
        · have hd1 : decide (rd low seg < c.f2) = true := decide_eq_true hlt1
          by_cases hlt2 : c.f2 < rd high seg
          · have hd2 : decide (c.f2 < rd high seg) = true := decide_eq_true hlt2
            have HD1 := Aside0.mk hd1
            have HD2 := Aside0.mk hd2
            clear hlt1 hlt2
            refine start_ (n := 30) (S := fun w' => (w'.cell? ⟨bx, 0, none⟩ = some (.int .i64 c.f0) ∧ w'.cell? ⟨bx, 1, none⟩ = some (.int .i64 c.f1) ∧ w'.cell? ⟨bx, 2, none⟩ = some (.int .i64 c.f2) ∧ w'.cell? ⟨bx, 3, none⟩ = some (.bool c.f3)) ∧ w'.cell? ⟨gs, 0, none⟩ = some (.slice (some al) low.length cl) ∧ w'.cell? ⟨gs, 1, none⟩ = some (.slice (some ah) high.length ch) ∧ w'.cell? (al.add seg.toNat) = some (.int .i64 (rd low seg)) ∧ w'.cell? (ah.add seg.toNat) = some (.int .i64 (rd high seg))) (ds := []) #[false, false, false, false, false, false, false, false, false, false, false, false, false, false, false, false, false, false, false, false, false, false, false, false, false, false, false, false, false, false] (by kernel_rfl) rfl rfl (HS _ (below_drew1' hbx)) (fun hHeld => ?_); refine with_tabW put5tab put5bits (fun HT_ HW_ => ?_)
            refine tr 0 33 HT_ HW_ hHeld ?_
            refine pr 1 34 HT_ ?_
            refine on 2 (some 35) HT_ (fun K hK => ?_)
            refine gS Try.func87 #[.agg #[.int .i64 c.f0, .int .i64 c.f1, .int .i64 c.f2, .bool c.f3], .int .i64 seg] ?_
            refine (Fe.fold_crease_ends.calls c.f0 c.f1 c.f2 c.f3 seg false _ (by rw [ends_f, hb])).mono ?_
            rintro e w9 ⟨rfl, hb9⟩
            refine ⟨_, rfl, ?_⟩
            have hb9' := below_step (below_drew1' hbx) hb9
            refine hK.out _ _ (HS w9 hb9') (fun hHeld => ?_)
            clear hK K
            refine nr (some 35) ?_
            refine pr 3 36 HT_ ?_
            refine pr 4 37 HT_ ?_
            refine pr 5 38 HT_ ?_
            refine pr 6 39 HT_ ?_
            refine pr 7 40 HT_ ?_
            refine pr 8 41 HT_ ?_
            refine tr 9 42 HT_ HW_ hHeld ?_
            refine pr 10 43 HT_ ?_
            refine pr 11 44 HT_ ?_
            refine tr 12 45 HT_ HW_ hHeld ?_
            refine pr 13 46 HT_ ?_
            refine tr 14 47 HT_ HW_ hHeld ?_
            refine pr 15 48 HT_ ?_
            refine pr 16 49 HT_ ?_
            refine pr 17 50 HT_ ?_
            refine pr 18 51 HT_ ?_
            refine tr 19 52 HT_ HW_ hHeld ?_
            refine pr 20 53 HT_ ?_
            refine pr 21 54 HT_ ?_
            refine pr 22 55 HT_ ?_
            refine pr 23 56 HT_ ?_
            refine tr 24 57 HT_ HW_ hHeld ?_
            refine pr 25 58 HT_ ?_
            refine pr 26 59 HT_ ?_
            refine tr 27 60 HT_ HW_ hHeld ?_
            refine pr 28 61 HT_ ?_
            refine pr 29 62 HT_ ?_
            refine dn HT_ ?_
            go_wp2
            go_ret2
            have hn : putF low high cr pat seg ws = none := by
              unfold putF
              rw [if_pos]
              rw [List.any_eq_true]
              exact ⟨ws[i], List.getElem_mem hin, by rw [HBL.out, hb, HD1.out, HD2.out]; rfl⟩
            rw [hn]
            exact ⟨_, rfl, Kd.R_nil _ _ _ _ _, below_step hb7 hb9'⟩
          · have hd2 : decide (c.f2 < rd high seg) = false := decide_eq_false hlt2
            have HD2 := Aside0.mk hd2
            clear hlt1 hlt2
            refine start_ (n := 30) (S := fun w' => (w'.cell? ⟨bx, 0, none⟩ = some (.int .i64 c.f0) ∧ w'.cell? ⟨bx, 1, none⟩ = some (.int .i64 c.f1) ∧ w'.cell? ⟨bx, 2, none⟩ = some (.int .i64 c.f2) ∧ w'.cell? ⟨bx, 3, none⟩ = some (.bool c.f3)) ∧ w'.cell? ⟨gs, 0, none⟩ = some (.slice (some al) low.length cl) ∧ w'.cell? ⟨gs, 1, none⟩ = some (.slice (some ah) high.length ch) ∧ w'.cell? (al.add seg.toNat) = some (.int .i64 (rd low seg)) ∧ w'.cell? (ah.add seg.toNat) = some (.int .i64 (rd high seg))) (ds := []) #[false, false, false, false, false, false, false, false, false, false, false, false, false, false, false, false, false, false, false, false, false, false, false, false, false, false, false, false, false, false] (by kernel_rfl) rfl rfl (HS _ (below_drew1' hbx)) (fun hHeld => ?_); refine with_tabW put5tab put5bits (fun HT_ HW_ => ?_)
            refine tr 0 33 HT_ HW_ hHeld ?_
            refine pr 1 34 HT_ ?_
            refine on 2 (some 35) HT_ (fun K hK => ?_)
            refine gS Try.func87 #[.agg #[.int .i64 c.f0, .int .i64 c.f1, .int .i64 c.f2, .bool c.f3], .int .i64 seg] ?_
            refine (Fe.fold_crease_ends.calls c.f0 c.f1 c.f2 c.f3 seg false _ (by rw [ends_f, hb])).mono ?_
            rintro e w9 ⟨rfl, hb9⟩
            refine ⟨_, rfl, ?_⟩
            have hb9' := below_step (below_drew1' hbx) hb9
            refine hK.out _ _ (HS w9 hb9') (fun hHeld => ?_)
            clear hK K
            refine nr (some 35) ?_
            refine pr 3 36 HT_ ?_
            refine pr 4 37 HT_ ?_
            refine pr 5 38 HT_ ?_
            refine pr 6 39 HT_ ?_
            refine pr 7 40 HT_ ?_
            refine pr 8 41 HT_ ?_
            refine tr 9 42 HT_ HW_ hHeld ?_
            refine pr 10 43 HT_ ?_
            refine pr 11 44 HT_ ?_
            refine tr 12 45 HT_ HW_ hHeld ?_
            refine pr 13 46 HT_ ?_
            refine tr 14 47 HT_ HW_ hHeld ?_
            refine pr 15 48 HT_ ?_
            refine pr 16 49 HT_ ?_
            refine pr 17 50 HT_ ?_
            refine pr 18 51 HT_ ?_
            refine tr 19 52 HT_ HW_ hHeld ?_
            refine pr 20 53 HT_ ?_
            refine pr 21 54 HT_ ?_
            refine pr 22 55 HT_ ?_
            refine pr 23 56 HT_ ?_
            refine tr 24 57 HT_ HW_ hHeld ?_
            refine pr 25 58 HT_ ?_
            refine pr 26 59 HT_ ?_
            refine tr 27 60 HT_ HW_ hHeld ?_
            refine pr 28 61 HT_ ?_
            refine pr 29 62 HT_ ?_
            refine dn HT_ ?_
            try go_wp2
            go_roundw
            case rel => exact ⟨i + 1, up1 HWL.out hin, by omega, ⟨nbs HNB.out hin (by rw [HBL.out]; rw [HD2.out]; simp)⟩, ⟨below_step hb7 hb9'⟩⟩
            case measure => exact up1m HWL.out hin
        · have hd1 : decide (rd low seg < c.f2) = false := decide_eq_false hlt1
          have HD1 := Aside0.mk hd1
          clear hlt1
          refine start_ (n := 30) (S := fun w' => (w'.cell? ⟨bx, 0, none⟩ = some (.int .i64 c.f0) ∧ w'.cell? ⟨bx, 1, none⟩ = some (.int .i64 c.f1) ∧ w'.cell? ⟨bx, 2, none⟩ = some (.int .i64 c.f2) ∧ w'.cell? ⟨bx, 3, none⟩ = some (.bool c.f3)) ∧ w'.cell? ⟨gs, 0, none⟩ = some (.slice (some al) low.length cl) ∧ w'.cell? ⟨gs, 1, none⟩ = some (.slice (some ah) high.length ch) ∧ w'.cell? (al.add seg.toNat) = some (.int .i64 (rd low seg)) ∧ w'.cell? (ah.add seg.toNat) = some (.int .i64 (rd high seg))) (ds := []) #[false, false, false, false, false, false, false, false, false, false, false, false, false, false, false, false, false, false, false, false, false, false, false, false, false, false, false, false, false, false] (by kernel_rfl) rfl rfl (HS _ (below_drew1' hbx)) (fun hHeld => ?_); refine with_tabW put5tab put5bits (fun HT_ HW_ => ?_)
          refine tr 0 33 HT_ HW_ hHeld ?_
          refine pr 1 34 HT_ ?_
          refine on 2 (some 35) HT_ (fun K hK => ?_)
          refine gS Try.func87 #[.agg #[.int .i64 c.f0, .int .i64 c.f1, .int .i64 c.f2, .bool c.f3], .int .i64 seg] ?_
          refine (Fe.fold_crease_ends.calls c.f0 c.f1 c.f2 c.f3 seg false _ (by rw [ends_f, hb])).mono ?_
          rintro e w9 ⟨rfl, hb9⟩
          refine ⟨_, rfl, ?_⟩
          have hb9' := below_step (below_drew1' hbx) hb9
          refine hK.out _ _ (HS w9 hb9') (fun hHeld => ?_)
          clear hK K
          refine nr (some 35) ?_
          refine pr 3 36 HT_ ?_
          refine pr 4 37 HT_ ?_
          refine pr 5 38 HT_ ?_
          refine pr 6 39 HT_ ?_
          refine pr 7 40 HT_ ?_
          refine pr 8 41 HT_ ?_
          refine tr 9 42 HT_ HW_ hHeld ?_
          refine pr 10 43 HT_ ?_
          refine pr 11 44 HT_ ?_
          refine tr 12 45 HT_ HW_ hHeld ?_
          refine pr 13 46 HT_ ?_
          refine tr 14 47 HT_ HW_ hHeld ?_
          refine pr 15 48 HT_ ?_
          refine pr 16 49 HT_ ?_
          refine pr 17 50 HT_ ?_
          refine pr 18 51 HT_ (hy := Or.inr ⟨by rfl, rfl⟩) ?_
          refine pr 19 52 HT_ (hy := Or.inr ⟨by rfl, rfl⟩) ?_
          refine pr 20 53 HT_ (hy := Or.inr ⟨by rfl, rfl⟩) ?_
          refine pr 21 54 HT_ (hy := Or.inr ⟨by rfl, rfl⟩) ?_
          refine pr 22 55 HT_ (hy := Or.inr ⟨by rfl, rfl⟩) ?_
          refine pr 23 56 HT_ (hy := Or.inr ⟨by rfl, rfl⟩) ?_
          refine pr 24 57 HT_ (hy := Or.inr ⟨by rfl, rfl⟩) ?_
          refine pr 25 58 HT_ (hy := Or.inr ⟨by rfl, rfl⟩) ?_
          refine pr 26 59 HT_ (hy := Or.inr ⟨by rfl, rfl⟩) ?_
          refine pr 27 60 HT_ (hy := Or.inr ⟨by rfl, rfl⟩) ?_
          refine pr 28 61 HT_ (hy := Or.inr ⟨by rfl, rfl⟩) ?_
          refine pr 29 62 HT_ ?_
          refine dn HT_ ?_
          try go_wp2
          go_roundw
          case rel => exact ⟨i + 1, up1 HWL.out hin, by omega, ⟨nbs HNB.out hin (by rw [HBL.out]; rw [HD1.out]; simp)⟩, ⟨below_step hb7 hb9'⟩⟩
          case measure => exact up1m HWL.out hin
    · obtain rfl : i = ws.length := by omega
      have hnone : ws.any (blocked low high cr seg) = false := by
        rw [Bool.eq_false_iff]
        intro h
        obtain ⟨x, hx, hxb⟩ := List.any_eq_true.1 h
        obtain ⟨j, hj, rfl⟩ := List.getElem_of_mem hx
        rw [HNB.out j hj hj] at hxb
        cases hxb
      have hpf : putF low high cr pat seg ws = putB cr pat seg cr.length 0 ws := by unfold putF; rw [hnone]; rfl
      have HPF := Aside0.mk hpf
      clear hpf hnone HNB d0 d6
      have e6 := mv HBr.out ST.out.c6
      have e2 := mv HBr.out ST.out.c2
      have hcl := fold_Clone.calls Aw cw ws ws wr (Kd.C_below ST.out.hw HBr.out) ST.out.kw (by unfold fold_Clone.f; rw [if_pos]; have := HWL.out; omega)
      go_wp2_with (go_at_call 51; refine hcl.mono ?_; clear hcl; rintro e w2 ⟨v2, rfl, hr2, hb2⟩; obtain ⟨A2, c2, rfl⟩ := Kd.R_slice hr2; have e22 := mv (below_step HBr.out hb2) ST.out.c2)
      go_loopw [9, 75] (fun v9 v75 wr => ∃ (k : Nat) (us : List Int), v75 = .int .i64 (k : Int) ∧ k ≤ cr.length ∧ Aside0 (Kd.R (Kd.int .i64) 3 wr w.heap.size (fun _ => True) v9 us) ∧ Aside0 (Okw cr us) ∧ Aside0 (us.length ≤ ws.length + k) ∧ Aside0 (putB cr pat seg cr.length 0 ws = putB cr pat seg (cr.length - k) k us) ∧ Aside0 (Below w.heap.size w wr)) (fun _ v75 _ => cr.length - (intOf v75).toNat)
      case atStart => exact ⟨0, ws, by first | rfl | simp, Nat.zero_le _, ⟨Kd.R_lower hr2 HBr.out.size⟩, ⟨HWS.out⟩, ⟨by omega⟩, ⟨rfl⟩, ⟨below_step HBr.out hb2⟩⟩
      case round =>
        clear hr2 hb2 HBr e22 e6 e2
        obtain ⟨k, us, rfl, hk, HR, HOW, HUL, HPB, HBr⟩ := hrel
        obtain ⟨A3, c3, rfl⟩ := Kd.R_slice HR.out
        by_cases hkn : k < cr.length
        · obtain ⟨c, hc⟩ : ∃ c, rd_T96 cr (k : Int) = c := ⟨_, rfl⟩
          obtain ⟨ac, rfl, hxc0, hxc1, hxc2, hxc3⟩ := at_T96 ST.out.hc (k : Int) (by omega) (by omega)
          rw [hc, Int.toNat_natCast] at hxc0 hxc1 hxc2 hxc3
          have exc0 := mv HBr.out hxc0
          have exc1 := mv HBr.out hxc1
          have exc2 := mv HBr.out hxc2
          have exc3 := mv HBr.out hxc3
          have HX0 := Aside0.mk hxc0
          clear hxc0 hxc1 hxc2 hxc3 st
          obtain ⟨w7, hw7⟩ : ∃ w7, wr.alloc (.cells #[.int .i64 c.f0, .int .i64 c.f1, .int .i64 c.f2, .bool c.f3] 96) = w7 := ⟨_, rfl⟩
          obtain ⟨bx, hbxe⟩ : ∃ bx, wr.heap.size = bx := ⟨_, rfl⟩
          have hb7 : Below w.heap.size w w7 := hw7 ▸ below_alloc HBr.out _
          have hbr7 : Below wr.heap.size wr w7 := hw7 ▸ below_alloc (Below.refl _ _) _
          have hbw : bx < w7.heap.size := by rw [← hw7, ← hbxe]; simp
          have hx : ∀ j u, #[Value.int .i64 c.f0, .int .i64 c.f1, .int .i64 c.f2, .bool c.f3][j]? = some u → w7.cell? ⟨bx, j, none⟩ = some u := by
            intro j u hj
            rw [← hw7, ← hbxe, World.cell?_alloc_mark]
            exact hj
          have hx0 := hx 0 _ rfl
          have hx1 := hx 1 _ rfl
          have hx2 := hx 2 _ rfl
          have hx3 := hx 3 _ rfl
          have HX := Aside0.mk hx
          have HB7 := Aside0.mk hb7
          have HBR7 := Aside0.mk hbr7
          clear hx hb7 hbr7
          have hR7 : Kd.R (Kd.int .i64) 3 w7 w.heap.size (fun _ => True) (.slice A3 us.length c3) us := Kd.R_below HR.out HBR7.out
          have HR7 := Aside0.mk hR7
          clear hR7
          by_cases hb : endsB c seg = true
          · have HE := Aside0.mk (fun W => Fe.fold_crease_ends.calls c.f0 c.f1 c.f2 c.f3 seg true W (by rw [ends_f, hb]))
            obtain ⟨ix, hix⟩ : ∃ ix, idxI us (k : Int) = ix := ⟨_, rfl⟩
            have hus : us.length < 2 ^ 21 := by have := HUL.out; have := HCR.out; have := HWL.out; omega
            have HUS := Aside0.mk hus
            have HI := Aside0.mk (fun W hr => Fe.slices_Index_int_int.calls (us.length + 1) A3 c3 us (k : Int) ix W hr (Kd.R_reads' HR.out).2.1 (by rw [← hix]; exact idx_f us (k : Int) (by omega)))
            have HIX := Aside0.mk hix
            clear hus hix
            by_cases hneg : ix < 0
            · go_wp2_with (first
                | (go_at_call 87; refine (HE.out _).mono ?_; rintro e w9 ⟨rfl, hb9⟩; have hb79' := hb9; have hb79 := below_step HB7.out hb9; have hR9 := Aside0.mk (Kd.R_below HR7.out hb9))
                | (go_at_call 88; refine (HI.out _ (Kd.R_reads' hR9.out).2.2).mono ?_; rintro e w10 ⟨rfl, nd, rfl⟩))
              obtain ⟨w11, hw11⟩ : ∃ w11, w9.drewN nd = w11 := ⟨_, rfl⟩
              have hb711 : Below w7.heap.size w7 w11 := hw11 ▸ (below_step (Below.refl _ _) (show Below w7.heap.size w7 (w9.drewN nd) from pw_below_drewN hb79' nd))
              rw [hw11]
              have HS : ∀ W, Below w7.heap.size w7 W → (W.cell? ⟨bx, 0, none⟩ = some (.int .i64 c.f0) ∧ W.cell? ⟨bx, 1, none⟩ = some (.int .i64 c.f1) ∧ W.cell? ⟨bx, 2, none⟩ = some (.int .i64 c.f2) ∧ W.cell? ⟨bx, 3, none⟩ = some (.bool c.f3)) ∧ W.cell? ⟨gs, 4, none⟩ = some (.string pat) :=
                fun W hW => ⟨⟨mv hW (HX.out 0 _ rfl), mv hW (HX.out 1 _ rfl), mv hW (HX.out 2 _ rfl), mv hW (HX.out 3 _ rfl)⟩, mv (below_step HB7.out hW) ST.out.c4⟩
              by_cases hpz : pat.size = 0
              · have hpe : pat = ⟨#[]⟩ := by
                  cases pat with | mk d => exact congrArg ByteArray.mk (Array.eq_empty_of_size_eq_zero hpz)
                have hcond : (decide (pat.size ≠ 0) && (underB c (bt pat (k : Int)) != (c.f0 == seg))) = false := by rw [decide_eq_false (by simpa using hpz)]; rfl
                have HCO := Aside0.mk hcond
                clear hcond hpz
                subst hpe
                refine start_ (n := 20) (S := fun w' => (w'.cell? ⟨bx, 0, none⟩ = some (.int .i64 c.f0) ∧ w'.cell? ⟨bx, 1, none⟩ = some (.int .i64 c.f1) ∧ w'.cell? ⟨bx, 2, none⟩ = some (.int .i64 c.f2) ∧ w'.cell? ⟨bx, 3, none⟩ = some (.bool c.f3)) ∧ w'.cell? ⟨gs, 4, none⟩ = some (.string ⟨#[]⟩)) (ds := []) #[false, false, false, false, false, false, false, false, false, false, false, false, false, false, false, false, false, false, false, false] (by kernel_rfl) rfl rfl (HS _ (below_drew1' hb711)) (fun hHeld => ?_); refine with_tabW put15tab put15bits (fun HT_ HW_ => ?_)
                refine pr 0 89 HT_ ?_
                refine pr 1 90 HT_ ?_
                refine pr 2 91 HT_ ?_
                refine tr 3 92 HT_ HW_ hHeld ?_
                refine pr 4 93 HT_ ?_
                refine pr 5 94 HT_ ?_
                refine pr 6 95 HT_ (hy := Or.inr ⟨by rfl, rfl⟩) ?_
                refine pr 7 96 HT_ (hy := Or.inr ⟨by rfl, rfl⟩) ?_
                refine pr 8 97 HT_ (hy := Or.inr ⟨by rfl, rfl⟩) ?_
                refine pr 9 98 HT_ (hy := Or.inr ⟨by rfl, rfl⟩) ?_
                refine pr 10 99 HT_ (hy := Or.inr ⟨by rfl, rfl⟩) ?_
                refine pr 11 100 HT_ (hy := Or.inr ⟨by rfl, rfl⟩) ?_
                refine pr 12 101 HT_ (hy := Or.inr ⟨by rfl, rfl⟩) ?_
                refine pr 13 102 HT_ (hy := Or.inr ⟨by rfl, rfl⟩) ?_
                refine pr 14 103 HT_ (hy := Or.inr ⟨by rfl, rfl⟩) ?_
                refine pr 15 104 HT_ (hy := Or.inr ⟨by rfl, rfl⟩) ?_
                refine pr 16 105 HT_ (hy := Or.inr ⟨by rfl, rfl⟩) ?_
                refine pr 17 106 HT_ (hy := Or.inr ⟨by rfl, rfl⟩) ?_
                refine pr 18 107 HT_ (hy := Or.inr ⟨by rfl, rfl⟩) ?_
                refine pr 19 108 HT_ ?_
                refine dn HT_ ?_
                have hps : putStep cr ⟨#[]⟩ seg (k : Int) us = some (us ++ [(k : Int)]) := by
                  unfold putStep
                  rw [hc, if_pos hb, HIX.out, if_pos hneg]
                  rfl
                have HPS := Aside0.mk hps
                clear hps
                obtain ⟨w13, hw13⟩ : ∃ W, w11.drew = W := ⟨_, rfl⟩
                have hb713 : Below w7.heap.size w7 w13 := hw13 ▸ below_drew1' hb711
                have HRa := Aside0.mk (Kd.R_below HR7.out hb713)
                have HBa := Aside0.mk (below_step HB7.out hb713)
                rw [hw13]
                clear hw13 hHeld
                go_wp2_with ((with_reducible refine gate_builtin (b := .append) (xs := #[.tmp 109, .tmp 111]) rfl ?_); at_builtin; refine Kd.R_append (Kd.int .i64) (w0 := w) w.heap.size rfl (.tmp 109) (.tmp 111) 22 3 (.int .i64 0) 8 rfl Try.underlying22 info3 rfl (by decide) (by omega) (.slice A3 us.length c3) us (k : Int) [.int .i64 (k : Int)] (fun _ => True) (fun _ => False) rfl rfl ?aP (fun _ hk => hk.elim) ?aF ?aO ?aB ?aS ?aL ?_; (case aP => exact rfl); (case aF => exact fun _ _ => trivial); (case aO => exact HRa.out); (case aB => exact HBa.out); (case aS => exact HBa.out.size); (case aL => have := HUS.out; omega); intro v14 w14 ho14 hb14 hg14 hat14)
                refine ⟨⟨k + 1, us ++ [(k : Int)], up1 HCR.out hkn, by omega, ⟨ho14⟩, ⟨(okw_step HOW.out hkn HPS.out).1⟩, ⟨by have := HUL.out; simp; omega⟩, ⟨HPB.out.trans (putB_some hkn HPS.out)⟩, ⟨hb14⟩⟩, up1m HCR.out hkn⟩
              · have hpl : cr.length ≤ pat.size := HPAT.out.resolve_left hpz
                obtain ⟨U, hU⟩ : ∃ U, underB c (bt pat (k : Int)) = U := ⟨_, rfl⟩
                obtain ⟨F, hF⟩ : ∃ F, (c.f0 == seg) = F := ⟨_, rfl⟩
                have HU := Aside0.mk (show fold_crease_under.f c.f0 c.f1 c.f2 c.f3 (bt pat (k : Int)) = some U by rw [under_f, hU])
                have hk0 : 0 ≤ (k : Int) := by omega
                have hkp : (k : Int) < (pat.size : Int) := by omega
                have hx6 : ∀ h : k < pat.size, (((pat[k]'h).toNat : Nat) : Int) = bt pat (k : Int) := by
                  intro h
                  simpa using bt_at pat (k : Int) (by simpa using h)
                have hpn1 : pat.toList.isEmpty = false := by
                  rw [ByteArray.toList_eq, List.isEmpty_eq_false_iff]
                  intro e
                  exact hpz (by have := congrArg List.length e; simpa using this)
                have hcond : (decide (pat.size ≠ 0) && (underB c (bt pat (k : Int)) != (c.f0 == seg))) = (U != F) := by rw [decide_eq_true (by simpa using hpz), hU, hF]; rfl
                have HCO := Aside0.mk hcond
                clear hcond hU
                by_cases hUF : (U != F) = true
                · have hUF2 : (U == F) = false := by revert hUF; cases U <;> cases F <;> simp
                  refine start_ (n := 20) (S := fun w' => (w'.cell? ⟨bx, 0, none⟩ = some (.int .i64 c.f0) ∧ w'.cell? ⟨bx, 1, none⟩ = some (.int .i64 c.f1) ∧ w'.cell? ⟨bx, 2, none⟩ = some (.int .i64 c.f2) ∧ w'.cell? ⟨bx, 3, none⟩ = some (.bool c.f3)) ∧ w'.cell? ⟨gs, 4, none⟩ = some (.string pat)) (ds := []) #[false, false, false, false, false, false, false, false, false, false, false, false, false, false, false, false, false, false, false, false] (by kernel_rfl) rfl rfl (HS _ (below_drew1' hb711)) (fun hHeld => ?_); refine with_tabW put15tab put15bits (fun HT_ HW_ => ?_)
                  refine pr 0 89 HT_ ?_
                  refine pr 1 90 HT_ ?_
                  refine pr 2 91 HT_ ?_
                  refine tr 3 92 HT_ HW_ hHeld ?_
                  refine pr 4 93 HT_ ?_
                  refine pr 5 94 HT_ ?_
                  refine tr 6 95 HT_ HW_ hHeld ?_
                  refine pr 7 96 HT_ ?_
                  refine pr 8 97 HT_ ?_
                  refine pr 9 98 HT_ ?_
                  refine tr 10 99 HT_ HW_ hHeld ?_
                  refine pr 11 100 HT_ ?_
                  refine pr 12 101 HT_ ?_
                  refine pr 14 103 HT_ ?_
                  refine tr 15 104 HT_ HW_ hHeld ?_
                  refine pr 16 105 HT_ ?_
                  refine pr 17 106 HT_ ?_
                  refine on 13 (some 102) HT_ (fun K hK => ?_)
                  refine gS Try.func89 #[.agg #[.int .i64 c.f0, .int .i64 c.f1, .int .i64 c.f2, .bool c.f3], .int .u8 (bt pat (k : Int))] ?_
                  refine (Fe.fold_crease_under.calls c.f0 c.f1 c.f2 c.f3 (bt pat (k : Int)) U _ HU.out).mono ?_
                  rintro e w12 ⟨rfl, hb12⟩
                  refine ⟨_, rfl, ?_⟩
                  have hb12' := below_step (below_drew1' hb711) hb12
                  refine hK.out _ _ (HS w12 hb12') (fun hHeld => ?_)
                  clear hK K
                  refine nr (some 102) ?_
                  refine pr 18 107 HT_ ?_
                  refine pr 19 108 HT_ ?_
                  refine dn HT_ ?_
                  go_wp2
                  go_ret2
                  have hn : putStep cr pat seg (k : Int) us = none := by
                    unfold putStep
                    rw [hc, if_pos hb, HIX.out, if_pos hneg, HCO.out, if_pos hUF]
                  rw [HPF.out, HPB.out, putB_none hkn hn]
                  exact ⟨_, rfl, Kd.R_nil _ _ _ _ _, below_step HB7.out hb12'⟩
                · have hUF : (U != F) = false := by simpa using hUF
                  have hUF2 : (U == F) = true := by revert hUF; cases U <;> cases F <;> simp
                  have hps : putStep cr pat seg (k : Int) us = some (us ++ [(k : Int)]) := by
                    unfold putStep
                    rw [hc, if_pos hb, HIX.out, if_pos hneg, HCO.out, hUF]
                    rfl
                  have HPS := Aside0.mk hps
                  clear hps
                  refine start_ (n := 20) (S := fun w' => (w'.cell? ⟨bx, 0, none⟩ = some (.int .i64 c.f0) ∧ w'.cell? ⟨bx, 1, none⟩ = some (.int .i64 c.f1) ∧ w'.cell? ⟨bx, 2, none⟩ = some (.int .i64 c.f2) ∧ w'.cell? ⟨bx, 3, none⟩ = some (.bool c.f3)) ∧ w'.cell? ⟨gs, 4, none⟩ = some (.string pat)) (ds := []) #[false, false, false, false, false, false, false, false, false, false, false, false, false, false, false, false, false, false, false, false] (by kernel_rfl) rfl rfl (HS _ (below_drew1' hb711)) (fun hHeld => ?_); refine with_tabW put15tab put15bits (fun HT_ HW_ => ?_)
                  refine pr 0 89 HT_ ?_
                  refine pr 1 90 HT_ ?_
                  refine pr 2 91 HT_ ?_
                  refine tr 3 92 HT_ HW_ hHeld ?_
                  refine pr 4 93 HT_ ?_
                  refine pr 5 94 HT_ ?_
                  refine tr 6 95 HT_ HW_ hHeld ?_
                  refine pr 7 96 HT_ ?_
                  refine pr 8 97 HT_ ?_
                  refine pr 9 98 HT_ ?_
                  refine tr 10 99 HT_ HW_ hHeld ?_
                  refine pr 11 100 HT_ ?_
                  refine pr 12 101 HT_ ?_
                  refine pr 14 103 HT_ ?_
                  refine tr 15 104 HT_ HW_ hHeld ?_
                  refine pr 16 105 HT_ ?_
                  refine pr 17 106 HT_ ?_
                  refine on 13 (some 102) HT_ (fun K hK => ?_)
                  refine gS Try.func89 #[.agg #[.int .i64 c.f0, .int .i64 c.f1, .int .i64 c.f2, .bool c.f3], .int .u8 (bt pat (k : Int))] ?_
                  refine (Fe.fold_crease_under.calls c.f0 c.f1 c.f2 c.f3 (bt pat (k : Int)) U _ HU.out).mono ?_
                  rintro e w12 ⟨rfl, hb12⟩
                  refine ⟨_, rfl, ?_⟩
                  have hb12' := below_step (below_drew1' hb711) hb12
                  refine hK.out _ _ (HS w12 hb12') (fun hHeld => ?_)
                  clear hK K
                  refine nr (some 102) ?_
                  refine pr 18 107 HT_ ?_
                  refine pr 19 108 HT_ ?_
                  refine dn HT_ ?_
                  have HRa := Aside0.mk (Kd.R_below HR7.out hb12')
                  have HBa := Aside0.mk (below_step HB7.out hb12')
                  clear hHeld
                  go_wp2_with ((with_reducible refine gate_builtin (b := .append) (xs := #[.tmp 109, .tmp 111]) rfl ?_); at_builtin; refine Kd.R_append (Kd.int .i64) (w0 := w) w.heap.size rfl (.tmp 109) (.tmp 111) 22 3 (.int .i64 0) 8 rfl Try.underlying22 info3 rfl (by decide) (by omega) (.slice A3 us.length c3) us (k : Int) [.int .i64 (k : Int)] (fun _ => True) (fun _ => False) rfl rfl ?aP (fun _ hk => hk.elim) ?aF ?aO ?aB ?aS ?aL ?_; (case aP => exact rfl); (case aF => exact fun _ _ => trivial); (case aO => exact HRa.out); (case aB => exact HBa.out); (case aS => exact HBa.out.size); (case aL => have := HUS.out; omega); intro v14 w14 ho14 hb14 hg14 hat14)
                  refine ⟨⟨k + 1, us ++ [(k : Int)], up1 HCR.out hkn, by omega, ⟨ho14⟩, ⟨(okw_step HOW.out hkn HPS.out).1⟩, ⟨by have := HUL.out; simp; omega⟩, ⟨HPB.out.trans (putB_some hkn HPS.out)⟩, ⟨hb14⟩⟩, up1m HCR.out hkn⟩
            · have hp : 0 ≤ ix := by omega
              obtain ⟨i, hi1, hi2⟩ := idxI_cast us (k : Int) (by rw [HIX.out]; exact hp)
              obtain rfl : ix = (i : Int) := HIX.out.symm.trans hi1
              obtain ⟨g, rfl, hbg⟩ := own_addr HR7.out (by omega)
              obtain ⟨m, hm⟩ : ∃ m : Int, wrap64 ((i : Int) + 1) = m := ⟨_, rfl⟩
              have hmv : m = ((i + 1 : Nat) : Int) := by
                rw [← hm]
                have := HUS.out
                unfold wrap64
                omega
              have hmt : m.toNat = i + 1 := by omega
              obtain ⟨i0, hi0, _, hsz, _⟩ := info_parts info3
              have hcut := cut_from (P := Try.prog) 22 3 .i64 Try.underlying22 hi0 1 hsz (some ⟨g, 0, none⟩) us.length c3 m (by omega) (by omega)
              obtain ⟨vs, hvs⟩ : ∃ vs, us.drop m.toNat = vs := ⟨_, rfl⟩
              have hvl : vs.length = us.length - m.toNat := by rw [← hvs, List.length_drop]
              obtain ⟨AV, hAV⟩ : ∃ A1, A1 = (if c3 = m.toNat then some (⟨g, 0, none⟩ : Addr) else (some (⟨g, 0, none⟩ : Addr)).map (·.add (m.toNat * 1))) := ⟨_, rfl⟩
              obtain ⟨cV, hcV⟩ : ∃ c1, c1 = c3 - m.toNat := ⟨_, rfl⟩
              have hv : Kd.C (Kd.int .i64) w7 AV vs.length vs := by
                rw [hAV, ← hvs]
                exact Kd.C_drop (m := m.toNat) (c := c3) (Kd.R_reads' HR7.out).2.2 (by omega) (Kd.R_reads' HR7.out).2.1
              rw [← hvl, ← hAV, ← hcV] at hcut
              have HV := Aside0.mk hv
              have HVS := Aside0.mk hvs
              have HMT := Aside0.mk hmt
              have HVL := Aside0.mk (show vs.length < 2 ^ 21 by have := HUS.out; omega)
              have HI2 := Aside0.mk hi2
              have HBG := Aside0.mk hbg
              have HD := Aside0.mk (fun (W : World) (hr : Kd.R (Kd.int .i64) 3 W w.heap.size (fun _ => True) (.slice (some ⟨g, 0, none⟩) us.length c3) us) => show Calls Try.prog 90 #[.slice (some ⟨g, 0, none⟩) us.length c3, .int .i64 (i : Int), .int .i64 m] W _ from hmv ▸ del90 g c3 i us w.heap.size W hr hi2)
              have HC2 := Aside0.mk ST.out.c2
              clear hv hvs hmt hi2 hi1 hp hvl hAV hcV hmv hbg hi0 hsz
              go_wp2_with (first
                | (go_at_call 87; refine (HE.out _).mono ?_; rintro e w9 ⟨rfl, hb9⟩; have hb79' := hb9; have hb79 := below_step HB7.out hb9; have hR9 := Aside0.mk (Kd.R_below HR7.out hb9))
                | (go_at_call 88; refine (HI.out _ (Kd.R_reads' hR9.out).2.2).mono ?_; rintro e w10 ⟨rfl, nd, rfl⟩; obtain ⟨w11, hw11⟩ : ∃ w11, w9.drewN nd = w11 := ⟨_, rfl⟩; have hb711 : Below w7.heap.size w7 w11 := hw11 ▸ (below_step (Below.refl _ _) (show Below w7.heap.size w7 (w9.drewN nd) from pw_below_drewN hb79' nd)); rw [hw11]))
              go_loopw [118] (fun v118 wr => ∃ j : Nat, v118 = .int .i64 (j : Int) ∧ j ≤ vs.length ∧ Aside0 (∀ t (h : t < vs.length), t < j → crossed cr (k : Int) vs[t] = false) ∧ Aside0 (Below w7.heap.size w7 wr)) (fun v118 _ => vs.length - (intOf v118).toNat)
              case atStart => exact ⟨0, by first | rfl | simp, Nat.zero_le _, ⟨fun t _ h => by omega⟩, ⟨hb711⟩⟩
              case round =>
                obtain ⟨j, rfl, hj, HNC, HBq⟩ := hrel
                by_cases hjn : j < vs.length
                · obtain ⟨x, hx⟩ : ∃ x, vs[j] = x := ⟨_, rfl⟩
                  have hxm : x ∈ us := List.mem_of_mem_drop (i := m.toNat) (by rw [HVS.out]; exact hx ▸ List.getElem_mem hjn)
                  obtain ⟨hx0', hx1'⟩ := HOW.out x hxm
                  obtain ⟨av, rfl, hxv⟩ := Kd.at_int HV.out (j : Int) (by omega) (by omega)
                  have hrk : rd vs (j : Int) = x := by rw [← hx]; simp [rd, hjn]
                  rw [hrk, Int.toNat_natCast] at hxv
                  obtain ⟨ac2, eac, hd0, hd1, hd2, hd3⟩ := at_T96 ST.out.hc x hx0' hx1'
                  obtain rfl := Option.some.inj eac
                  obtain ⟨d, hd⟩ : ∃ d, rd_T96 cr x = d := ⟨_, rfl⟩
                  rw [hd] at hd0 hd1 hd2 hd3
                  have hbw7 := below_step HB7.out HBq.out
                  have e2 := mv hbw7 HC2.out
                  have exv := mv HBq.out hxv
                  have ed0 := mv hbw7 hd0
                  have ed1 := mv hbw7 hd1
                  have ed2 := mv hbw7 hd2
                  have ed3 := mv hbw7 hd3
                  have ec2 := mv (below_alloc HBq.out (.cells #[.int .i64 d.f0, .int .i64 d.f1, .int .i64 d.f2, .bool d.f3] 96)) (HX.out 2 _ rfl)
                  have ec3 := mv (below_alloc HBq.out (.cells #[.int .i64 d.f0, .int .i64 d.f1, .int .i64 d.f2, .bool d.f3] 96)) (HX.out 3 _ rfl)
                  have hcx : crossed cr (k : Int) vs[j] = ((d.f2 == c.f2) && (d.f3 == c.f3)) := by rw [hx]; unfold crossed; rw [hd, hc]
                  have HCX := Aside0.mk hcx
                  clear hcx hxv hd0 hd1 hd2 hd3 hbw7
                  have Q2 : (0 ≤ x) = True := eq_true hx0'
                  have Q3 : (x < (cr.length : Int)) = True := eq_true hx1'
                  have Q0 : ((i : Int) < 0) = False := eq_false (by omega)
                  by_cases h2 : d.f2 = c.f2
                  · have h2b : (d.f2 == c.f2) = true := by simpa using h2
                    have h2d : decide (d.f2 = c.f2) = true := decide_eq_true h2
                    have H2 := Aside0.mk h2b
                    clear h2
                    obtain ⟨E3, hE3⟩ : ∃ E3, (d.f3 == c.f3) = E3 := ⟨_, rfl⟩
                    have H3 := Aside0.mk hE3
                    cases E3
                    · go_wp2
                      go_roundw
                      case rel => exact ⟨j + 1, up2 HVL.out hjn, by omega, ⟨nbs HNC.out hjn (by rw [HCX.out, H3.out]; simp)⟩, ⟨below_alloc HBq.out _⟩⟩
                      case measure => exact up2m HVL.out hjn
                    · go_wp2
                      go_ret2
                      have hn : putStep cr pat seg (k : Int) us = none := by
                        unfold putStep
                        rw [hc, if_pos hb, HIX.out, if_neg (by omega), Int.toNat_natCast, ← HMT.out, HVS.out, if_pos]
                        rw [List.any_eq_true]
                        exact ⟨vs[j], List.getElem_mem hjn, by rw [HCX.out, H2.out, H3.out]; rfl⟩
                      rw [HPF.out, HPB.out, putB_none hkn hn]
                      exact ⟨_, rfl, Kd.R_nil _ _ _ _ _, below_step HB7.out (below_alloc HBq.out _)⟩
                  · have h2b : (d.f2 == c.f2) = false := by simpa using h2
                    have h2d : decide (d.f2 = c.f2) = false := decide_eq_false h2
                    have H2 := Aside0.mk h2b
                    clear h2
                    go_wp2
                    go_roundw
                    case rel => exact ⟨j + 1, up2 HVL.out hjn, by omega, ⟨nbs HNC.out hjn (by rw [HCX.out, H2.out]; rfl)⟩, ⟨below_alloc HBq.out _⟩⟩
                    case measure => exact up2m HVL.out hjn
                · have hps : putStep cr pat seg (k : Int) us = some (us.eraseIdx i) := by
                    unfold putStep
                    rw [hc, if_pos hb, HIX.out, if_neg (by omega), Int.toNat_natCast, ← HMT.out, HVS.out, ncs HNC.out (by omega)]
                    rfl
                  have HPS := Aside0.mk hps
                  have HRd := Aside0.mk (Kd.R_below HR7.out HBq.out)
                  clear hps
                  go_wp2_with (go_at_call 90; refine (HD.out _ HRd.out).mono ?_; rintro e w14 ⟨rfl, hr14, hg14⟩)
                  refine ⟨⟨k + 1, us.eraseIdx i, up1 HCR.out hkn, by omega, ⟨hr14⟩, ⟨(okw_step HOW.out hkn HPS.out).1⟩, ⟨by have := HUL.out; have := (okw_step HOW.out hkn HPS.out).2; omega⟩, ⟨HPB.out.trans (putB_some hkn HPS.out)⟩, ⟨pw_below_grown (below_step HB7.out HBq.out) (some g) (below_step HB7.out HBq.out).size hg14 (fun q hq => by cases hq; exact HBG.out)⟩⟩, up1m HCR.out hkn⟩
          · have hb : endsB c seg = false := by simpa using hb
            have HE := Aside0.mk (fun W => Fe.fold_crease_ends.calls c.f0 c.f1 c.f2 c.f3 seg false W (by rw [ends_f, hb]))
            go_wp2_with (go_at_call 87; refine (HE.out _).mono ?_; rintro e w9 ⟨rfl, hb9⟩)
            refine ⟨⟨k + 1, us, up1 HCR.out hkn, by omega, ⟨Kd.R_below HR7.out hb9⟩, HOW, ⟨by have := HUL.out; omega⟩, ⟨HPB.out.trans (putB_some hkn (by unfold putStep; rw [hc, hb]; rfl))⟩, ⟨below_step HB7.out hb9⟩⟩, up1m HCR.out hkn⟩
        · obtain rfl : k = cr.length := by omega
          have hn : putF low high cr pat seg ws = some us := by rw [HPF.out, HPB.out, Nat.sub_self]; rfl
          have HN := Aside0.mk hn
          clear hn HPB HPF
          go_wp2
          go_ret2
          rw [HN.out]
          exact ⟨_, rfl, HR.out, HBr.out⟩
end Go.Proofs.Ytiknnpfdpecfdaa.Own
