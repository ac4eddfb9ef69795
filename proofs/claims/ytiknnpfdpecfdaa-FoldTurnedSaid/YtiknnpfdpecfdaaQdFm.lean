/- The declarations of Fm that the claim Qd needs. -/
import Derived.Test.YtiknnpfdpecfdaaQdFk
namespace Go.Proofs.Ytiknnpfdpecfdaa.Own
open Go Go.RowKit Go.Proofs Go.Proofs.YtiknnpfdpecfdaaW.PrintWords Go.Proofs.YtiknnpfdpecfdaaW.PrintLast Go.Proofs.YtiknnpfdpecfdaaW.PrintMore
set_option linter.unusedVariables false
set_option linter.unusedSimpArgs false
/-- A stack that one has made: the block gs, its layer in gl, what waits. -/
structure Stk (W : World) (base gs gl capl : Nat) (vl vh vc : Value) (rd : Bool) (pat : ByteArray) (lay : List Int) (Aw : Option Addr) (cw : Nat) (ws : List Int) : Prop where
  hs : W.heap[gs]? = some (.cells #[vl, vh, vc, .bool rd, .string pat, .slice (some ⟨gl, 0, none⟩) lay.length capl, .slice Aw ws.length cw] 101 (0, 0))
  hl : Kd.R (Kd.int .i64) 3 W base (fun k => k ≠ gs) (.slice (some ⟨gl, 0, none⟩) lay.length capl) lay
  hw : Kd.R (Kd.int .i64) 3 W base (fun k => k ≠ gs ∧ k ≠ gl) (.slice Aw ws.length cw) ws
  hb : base ≤ gs
section
variable {W W' : World} {base gs gl capl : Nat} {vl vh vc : Value} {rd : Bool} {pat : ByteArray} {lay : List Int} {Aw : Option Addr} {cw : Nat} {ws : List Int}
theorem Stk.lt (h : Stk W base gs gl capl vl vh vc rd pat lay Aw cw ws) : gs < W.heap.size := (Array.getElem?_eq_some_iff.1 h.hs).1
theorem Stk.ne (h : Stk W base gs gl capl vl vh vc rd pat lay Aw cw ws) : gs ≠ gl := fun e => h.hl.1 gl rfl e.symm
theorem Stk.gl_lt (h : Stk W base gs gl capl vl vh vc rd pat lay Aw cw ws) : gl < W.heap.size := Kd.R_lt h.hl gl rfl
theorem Stk.gl_base (h : Stk W base gs gl capl vl vh vc rd pat lay Aw cw ws) : base ≤ gl := Kd.R_base h.hl gl rfl
theorem Stk.below (h : Stk W base gs gl capl vl vh vc rd pat lay Aw cw ws) (hb : Below W.heap.size W W') : Stk W' base gs gl capl vl vh vc rd pat lay Aw cw ws :=
  ⟨(hb.block gs h.lt).trans h.hs, Kd.R_below h.hl hb, Kd.R_below h.hw hb, h.hb⟩
/-- Another waits. -/
theorem Stk.waits (h : Stk W base gs gl capl vl vh vc rd pat lay Aw cw ws) {A2 : Option Addr} {c2 : Nat} {vs : List Int} (hv : Kd.R (Kd.int .i64) 3 W base (fun k => k ≠ gs ∧ k ≠ gl) (.slice A2 vs.length c2) vs) :
    Stk (W.setCell ⟨gs, 6, none⟩ (.slice A2 vs.length c2)) base gs gl capl vl vh vc rd pat lay A2 c2 vs ∧ W.cell? ⟨gs, 6, none⟩ = some (.slice Aw ws.length cw) ∧ W.frozen? ⟨gs, 6, none⟩ = false :=
  ⟨⟨blk_set h.hs 6 _, Kd.R_far h.hl (p := ⟨gs, 6, none⟩) (fun k hk => hk) _, Kd.R_far hv (p := ⟨gs, 6, none⟩) (fun k hk => hk.1) _, h.hb⟩, (heap_cells h.hs 6 (by simp)).1, (heap_cells h.hs 6 (by simp)).2⟩
/-- A number of the layer. -/
theorem Stk.layer (h : Stk W base gs gl capl vl vh vc rd pat lay Aw cw ws) (i x : Int) (h0 : 0 ≤ i) (h1 : i < lay.length) :
  Stk (W.setCell ⟨gl, i.toNat, none⟩ (.int .i64 x)) base gs gl capl vl vh vc rd pat (lay.set i.toNat x) Aw cw ws ∧ W.cell? ⟨gl, i.toNat, none⟩ = some (.int .i64 (Go.Proofs.YtiknnpfdpecfdaaW.PrintWords.rd lay i)) ∧ W.frozen? ⟨gl, i.toNat, none⟩ = false := by
 have ho := Kd.own_of_R h.hl
 have hst := (own_store_of (enc := Value.int .i64) ho i x).1
 have hat := own_at (k := .i64) (xs := lay) (show W.ownsRow base 3 1 (.slice (some ⟨gl, 0, none⟩) lay.length capl) lay.length (nums .i64 lay) from ho) i h0 h1
 refine ⟨⟨?_, ?_, Kd.R_far h.hw (p := ⟨gl, i.toNat, none⟩) (fun k hk => hk.2) _, h.hb⟩, hat.1, hat.2⟩
 ·rw [List.length_set]
  exact blk_far h.hs (p := ⟨gl, i.toNat, none⟩) h.ne _
 ·exact Kd.R_of_own (by rw [List.length_set]; exact hst) (fun k hk => by injection hk with hk; rw [← hk]; exact h.ne.symm)
theorem Stk.read (h : Stk W base gs gl capl vl vh vc rd pat lay Aw cw ws) : W.cell? ⟨gs, 0, none⟩ = some vl ∧ W.cell? ⟨gs, 1, none⟩ = some vh ∧ W.cell? ⟨gs, 2, none⟩ = some vc ∧ W.cell? ⟨gs, 3, none⟩ = some (.bool rd) ∧ W.cell? ⟨gs, 4, none⟩ = some (.string pat) ∧ W.cell? ⟨gs, 5, none⟩ = some (.slice (some ⟨gl, 0, none⟩) lay.length capl) ∧ W.cell? ⟨gs, 6, none⟩ = some (.slice Aw ws.length cw) :=
  ⟨(heap_cells h.hs 0 (by simp)).1, (heap_cells h.hs 1 (by simp)).1, (heap_cells h.hs 2 (by simp)).1, (heap_cells h.hs 3 (by simp)).1, (heap_cells h.hs 4 (by simp)).1, (heap_cells h.hs 5 (by simp)).1, (heap_cells h.hs 6 (by simp)).1⟩
/-- What put hands out waits apart from the stack. -/
theorem Stk.fresh (h : Stk W base gs gl capl vl vh vc rd pat lay Aw cw ws) {W2 : World} {v : Value} {vs : List Int} (hv : Kd.R (Kd.int .i64) 3 W2 W.heap.size (fun _ => True) v vs) : Kd.R (Kd.int .i64) 3 W2 base (fun k => k ≠ gs ∧ k ≠ gl) v vs :=
  Kd.R_lower (Kd.R_mono (Kd.R_bound hv) (fun k hk => ⟨fun e => by have := h.lt; have := hk.2.1; omega, fun e => by have := h.gl_lt; have := hk.2.1; omega⟩)) (Nat.le_trans h.hb (Nat.le_of_lt h.lt))
end
theorem Stk.stackR {W : World} {base gs gl capl cl ch cc cw : Nat} {Al Ah Ac Aw : Option Addr} {low high : List Int} {cr : List S96} {rd : Bool} {pat : ByteArray} {lay ws : List Int}
    (h : Stk W base gs gl capl (.slice Al low.length cl) (.slice Ah high.length ch) (.slice Ac cr.length cc) rd pat lay Aw cw ws) (h1 : Kd.C (Kd.int .i64) W Al low.length low) (h2 : Kd.C (Kd.int .i64) W Ah high.length high) (h3 : Kd.C k96 W Ac cr.length cr) : StackR W gs Al Ah Ac Aw cl ch cc cw low high cr pat ws :=
  ⟨h.lt, h.read.1, h.read.2.1, h.read.2.2.1, h.read.2.2.2.2.1, h.read.2.2.2.2.2.2, h1, h2, h3, (Kd.R_reads' h.hw).2.2, (Kd.R_reads' h.hw).2.1⟩
theorem putB_okw {cr : List S96} {pat : ByteArray} {seg : Int} : ∀ (d k : Nat) (ws r : List Int), Okw cr ws → k + d ≤ cr.length → putB cr pat seg d k ws = some r → Okw cr r ∧ r.length ≤ ws.length + d
 | 0, k, ws, r, hw, _, h => by
  obtain rfl := Option.some.inj h
  exact ⟨hw, by omega⟩
 | d + 1, k, ws, r, hw, hk, h => by
  rw [putB] at h
  obtain ⟨us, h1, h2⟩ := Option.bind_eq_some_iff.1 h
  obtain ⟨ho, hl⟩ := okw_step hw (by omega) h1
  obtain ⟨ho2, hl2⟩ := putB_okw d (k + 1) us r ho (by omega) h2
  exact ⟨ho2, by omega⟩
theorem putF_okw {low high : List Int} {cr : List S96} {pat : ByteArray} {seg : Int} {ws r : List Int} (hw : Okw cr ws) (h : putF low high cr pat seg ws = some r) : Okw cr r ∧ r.length ≤ ws.length + cr.length := by
 unfold putF at h
 split at h
 ·cases h
 ·exact putB_okw _ _ _ _ hw (by omega) h
/-- All segments of a list are put. -/
def foldsL (low high : List Int) (cr : List S96) (pat : ByteArray) : List Int → List Int → Bool
 | [], _ => true
 | s :: o, ws => match putF low high cr pat s ws with
  | none => false
  | some vs => foldsL low high cr pat o vs
theorem foldsL_drop {low high : List Int} {cr : List S96} {pat : ByteArray} {order ws : List Int} {i : Nat} (hi : i < order.length) : foldsL low high cr pat (order.drop i) ws = match putF low high cr pat order[i] ws with
  | none => false
  | some vs => foldsL low high cr pat (order.drop (i + 1)) vs := by
 rw [List.drop_eq_getElem_cons hi, foldsL]
set_option maxRecDepth 100000 in
set_option maxHeartbeats 8000000 in
theorem folds64 (Al Ah Ac Ao : Option Addr) (cl ch cc co : Nat) (low high : List Int) (cr : List S96) (rdd : Bool) (order : List Int) (w : World) (hL : Kd.C (Kd.int .i64) w Al low.length low) (hH : Kd.C (Kd.int .i64) w Ah high.length high) (hC : Kd.C k96 w Ac cr.length cr) (hO : Kd.C (Kd.int .i64) w Ao order.length order)
  (hn1 : 1 ≤ low.length) (hn2 : low.length < 13) (hhl : high.length = low.length) (hcr : cr.length < 2 ^ 10) (ho : ∀ s ∈ order, 0 ≤ s ∧ s < low.length) (hol : order.length < 2 ^ 9) :
  Calls Try.prog 64 #[.agg #[.slice Al low.length cl, .slice Ah high.length ch, .slice Ac cr.length cc, .bool rdd], .slice Ao order.length co] w fun e w' => e = .returned (.bool (!rdd && foldsL low high cr ⟨#[]⟩ order [])) ∧ Below w.heap.size w w' := by
 have HL := Aside0.mk hL
 have HH := Aside0.mk hH
 have HC := Aside0.mk hC
 have HO := Aside0.mk hO
 have HN := Aside0.mk (And.intro hn1 hn2)
 have HHL := Aside0.mk hhl
 have HCR := Aside0.mk hcr
 have HOR := Aside0.mk ho
 have HOL := Aside0.mk hol
 clear hL hH hC hO hn1 hn2 hhl hcr ho hol
 cases rdd
 ·go_enter Try.func64, Try.ntmps64
  obtain ⟨w7, hw7⟩ : ∃ w7, w.alloc (.cells #[.slice Al low.length cl, .slice Ah high.length ch, .slice Ac cr.length cc, .bool false] 76) = w7 := ⟨_, rfl⟩
  obtain ⟨bx, hbxe⟩ : ∃ bx, w.heap.size = bx := ⟨_, rfl⟩
  have hb7 : Below w.heap.size w w7 := hw7 ▸ below_alloc (Below.refl _ _) _
  have hx : ∀ j u, #[Value.slice Al low.length cl, .slice Ah high.length ch, .slice Ac cr.length cc, .bool false][j]? = some u → w7.cell? ⟨bx, j, none⟩ = some u := by
   intro j u hj
   rw [← hw7, ← hbxe, World.cell?_alloc_mark]
   exact hj
  have hx0 := hx 0 _ rfl
  have hx1 := hx 1 _ rfl
  have hx2 := hx 2 _ rfl
  have hx3 := hx 3 _ rfl
  clear hx
  go_wp2_with (go_at_call 73; refine (begin73 Al Ah Ac low.length high.length cr.length cl ch cc false ⟨#[]⟩ _ HN.out.1 HN.out.2).mono ?_; rintro e w8 ⟨gs, v8, rfl, hs8, hl8, hb8, hg8⟩)
  obtain ⟨A8, c8, rfl⟩ := Kd.R_slice hl8
  obtain ⟨gl, rfl, hbl⟩ := own_addr (Kd.R_mono hl8 (fun _ _ => trivial)) (by have := HN.out.1; simp; omega)
  have ST0 := Aside0.mk (show Stk w8 w.heap.size gs gl c8 (.slice Al low.length cl) (.slice Ah high.length ch) (.slice Ac cr.length cc) false ⟨#[]⟩ (List.replicate low.length (-1)) none 0 [] from
   ⟨hs8, Kd.R_lower hl8 hb7.size, Kd.R_nil _ _ _ _ _, Nat.le_trans hb7.size hg8⟩)
  have HB8 := Aside0.mk (below_step hb7 hb8)
  clear hs8 hl8 hb8 hg8 hbl hx0 hx1 hx2 hx3 hb7 hbxe hw7
  go_loopw [16] (fun v16 wr => ∃ (i : Nat) (lay ws : List Int) (Aw : Option Addr) (cw : Nat), v16 = .int .i64 (i : Int) ∧ i ≤ order.length ∧ Aside0 (lay.length = low.length) ∧ Aside0 (Stk wr w.heap.size gs gl c8 (.slice Al low.length cl) (.slice Ah high.length ch) (.slice Ac cr.length cc) false ⟨#[]⟩ lay Aw cw ws) ∧ Aside0 (Okw cr ws) ∧ Aside0 (ws.length ≤ i * 2 ^ 10) ∧ Aside0 (foldsL low high cr ⟨#[]⟩ order [] = foldsL low high cr ⟨#[]⟩ (order.drop i) ws) ∧ Aside0 (Below w.heap.size w wr)) (fun v16 _ => order.length - (intOf v16).toNat)
  case atStart => exact ⟨0, _, [], none, 0, by first | rfl | simp, Nat.zero_le _, ⟨List.length_replicate⟩, ST0, ⟨fun k hk => nomatch hk⟩, ⟨Nat.zero_le _⟩, ⟨rfl⟩, HB8⟩
  case round =>
   obtain ⟨i, lay, ws, Aw, cw, rfl, hi, HLY, HST, HOW, HWL, HF, HBr⟩ := hrel
   clear ST0 HB8
   by_cases hin : i < order.length
   ·obtain ⟨s, hs⟩ : ∃ s, order[i] = s := ⟨_, rfl⟩
    obtain ⟨hs0, hs1⟩ := HOR.out s (hs ▸ List.getElem_mem hin)
    obtain ⟨ao, rfl, hxo⟩ := Kd.at_int HO.out (i : Int) (by omega) (by omega)
    have hrk : Go.Proofs.YtiknnpfdpecfdaaW.PrintWords.rd order (i : Int) = s := by rw [← hs]; simp [Go.Proofs.YtiknnpfdpecfdaaW.PrintWords.rd, hin]
    rw [hrk, Int.toNat_natCast] at hxo
    have exo := mv HBr.out hxo
    have HPUT := Aside0.mk (put75 gs Al Ah Ac Aw cl ch cc cw low high cr ⟨#[]⟩ ws s wr (HST.out.stackR (Kd.C_below HL.out HBr.out) (Kd.C_below HH.out HBr.out) (Kd.C_below HC.out HBr.out)) hs0 hs1 (by rw [HHL.out]; exact hs1) HOW.out (by have := HCR.out; omega) (by have := HWL.out; have := HOL.out; omega) (Or.inl rfl))
    obtain ⟨pf, hpf⟩ : ∃ pf, putF low high cr ⟨#[]⟩ s ws = pf := ⟨_, rfl⟩
    rw [hpf] at HPUT
    have HP := Aside0.mk hpf
    have hsl : s < lay.length := by rw [HLY.out]; exact hs1
    have HS := Aside0.mk (And.intro hs0 (And.intro hsl hs))
    clear hpf hxo hrk hs
    cases pf with
    | none =>
     go_wp2_with (go_at_call 75; refine HPUT.out.mono ?_; rintro e w9 ⟨v9, rfl, hr9, hb9⟩)
     go_ret
     refine ⟨?_, below_step HBr.out hb9⟩
     rw [HF.out, foldsL_drop hin, HS.out.2.2, HP.out]
     rfl
    | some vs =>
     go_wp2_with (go_at_call 75; refine HPUT.out.mono ?_; rintro e w9 ⟨v9, rfl, hr9, hb9⟩; obtain ⟨A9, c9, rfl⟩ := Kd.R_slice hr9; have st9 := HST.out.below hb9; obtain ⟨stw, f1, f2⟩ := st9.waits (HST.out.fresh hr9); obtain ⟨stl, f3, f4⟩ := stw.layer s (i : Int) hs0 hsl; obtain ⟨_, f6, f7⟩ := st9.layer s (i : Int) hs0 hsl; have f8 := st9.ne; have f9 := st9.ne.symm; have f5 := st9.read.2.2.2.2.2.1; have STL := Aside0.mk stl; have ST9 := Aside0.mk st9; have HB9 := Aside0.mk hb9; clear stl stw st9 hr9 hb9)
     refine ⟨⟨i + 1, _, vs, A9, c9, up2 (by have := HOL.out; omega) hin, by omega, ⟨by rw [List.length_set]; exact HLY.out⟩, STL, ⟨(putF_okw HOW.out HP.out).1⟩, ⟨by have := (putF_okw HOW.out HP.out).2; have := HWL.out; have := HCR.out; omega⟩, ⟨by rw [HF.out, foldsL_drop hin, HS.out.2.2, HP.out]⟩, ⟨below_set (below_set (below_step HBr.out HB9.out) ST9.out.hb) ST9.out.gl_base⟩⟩, up2m (by have := HOL.out; omega) hin⟩
   ·obtain rfl : i = order.length := by omega
    have hF : foldsL low high cr ⟨#[]⟩ order [] = true := by rw [HF.out, List.drop_length]; rfl
    go_wp2
    go_ret
    rw [hF]
    exact ⟨rfl, HBr.out⟩
 ·go_enter Try.func64, Try.ntmps64
  go_wp2
  go_ret
  exact ⟨rfl, below_alloc (Below.refl _ _) _⟩
end Go.Proofs.Ytiknnpfdpecfdaa.Own
