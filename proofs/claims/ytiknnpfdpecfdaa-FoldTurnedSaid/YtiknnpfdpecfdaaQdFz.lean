/- The declarations of Fz that the claim Qd needs. -/
import Derived.Test.YtiknnpfdpecfdaaQdFy
import Derived.Deep.DeepMust
namespace Go.Proofs.Ytiknnpfdpecfdaa.Own
open Go Go.RowKit Go.Proofs Go.Proofs.YtiknnpfdpecfdaaW.PrintWords Go.Proofs.YtiknnpfdpecfdaaW.PrintLast Go.Proofs.YtiknnpfdpecfdaaW.PrintMore
set_option linter.unusedVariables false
set_option linter.unusedSimpArgs false
def grow10T : Bool × List (List Nat × List Nat) := (true, [([], []), ([], []), ([1], [1]), ([2], [2]), ([3], [3]), ([], []), ([], []), ([], []), ([7], [7]), ([], []), ([], []), ([10], [10]), ([9, 11], [9, 11]), ([0, 0, 4, 6, 12], [0]), ([13, 0, 4, 6, 12], [13]), ([14, 6, 12, 0, 4, 6, 12], [6, 14]), ([4, 5, 0, 1, 2, 3, 4, 5, 6, 7, 8, 12, 13, 14, 15], [4, 5]), ([16, 8, 15, 0, 1, 2, 3, 4, 5, 6, 7, 8, 12, 13, 14, 15], [8, 16]), ([12, 17, 0, 1, 2, 3, 4, 5, 6, 7, 8, 9, 10, 11, 12, 13, 14, 15, 16, 17], [12])])
def grow10B : List Nat := [0, 0, 2, 6, 14, 0, 0, 0, 128, 0, 0, 1024, 3584, 7775, 15967, 32351, 65535, 131071, 262143]
theorem grow10tab : rtab .any (opsOf Try.f74 10) = grow10T := by kernel_rfl
theorem grow10bits : waitsOk grow10T.2 grow10B = true := by kernel_rfl
def grow12T : Bool × List (List Nat × List Nat) := (true, [([], []), ([], []), ([1], [1]), ([2], [2]), ([3], [3]), ([], []), ([], []), ([], []), ([], []), ([8], [8]), ([9], [9]), ([7, 10], [7, 10]), ([0, 0, 4, 6], [0]), ([12, 0, 4, 6], [12]), ([13, 6, 0, 4, 6], [6, 13]), ([4, 5, 0, 1, 2, 3, 4, 5, 6, 12, 13, 14], [4, 5]), ([15, 14, 0, 1, 2, 3, 4, 5, 6, 12, 13, 14], [15]), ([11, 16, 0, 1, 2, 3, 4, 5, 6, 7, 8, 9, 10, 11, 12, 13, 14, 15, 16], [11])])
def grow12B : List Nat := [0, 0, 2, 6, 14, 0, 0, 0, 0, 256, 768, 1920, 95, 4191, 12383, 28799, 61567, 131071]
theorem grow12tab : rtab .any (opsOf Try.f74 12) = grow12T := by kernel_rfl
theorem grow12bits : waitsOk grow12T.2 grow12B = true := by kernel_rfl
/-- What comes of one segment. -/
def growAt (low high : List Int) (cr : List S96) (pat : ByteArray) (d : Nat) (order ws : List Int) (s : Nat) : List (List Int) :=
 if ((s : Int)) ∈ order then [] else match putF low high cr pat (s : Int) ws with
  | none => []
  | some vs => growF low high cr pat d (order ++ [(s : Int)]) vs
theorem growF_succ (low high : List Int) (cr : List S96) (pat : ByteArray) (d : Nat) (order ws : List Int) : growF low high cr pat (d + 1) order ws = (List.range low.length).flatMap (growAt low high cr pat d order ws) := rfl
theorem growTo_succ (f : Nat → List (List Int)) (s : Nat) : (List.range (s + 1)).flatMap f = (List.range s).flatMap f ++ f s := by
  rw [List.range_succ, List.flatMap_append]
  simp
theorem growTo_le (f : Nat → List (List Int)) {s n : Nat} (h : s ≤ n) : ∃ r, (List.range s).flatMap f ++ r = (List.range n).flatMap f := by
 induction n with
 | zero => exact ⟨[], by rw [show s = 0 by omega]; simp⟩
 | succ n ih =>
  by_cases e : s = n + 1
  ·exact ⟨[], by rw [e]; simp⟩
  ·obtain ⟨r, hr⟩ := ih (by omega)
   exact ⟨r ++ f n, by rw [growTo_succ, ← hr, List.append_assoc]⟩
theorem Stay.then {b : Nat → Prop} {c B : Nat} {no no2 : Nat → Prop} {A C D : World} (h : Stay b c B no A C) (k : Stay b c B no2 C D) (hn : ∀ i, no2 i → no i ∨ A.heap.size ≤ i) : Stay b c B no A D :=
  ⟨Nat.le_trans h.size k.size, fun i h1 h2 => (k.keep i h1 h2).trans (h.keep i h1 h2), fun i h1 h2 h3 => (k.above i h1 (Nat.lt_of_lt_of_le h2 h.size) (fun e => (hn i e).elim h3 (by omega))).trans (h.above i h1 h2 h3)⟩
theorem stay_grown {b : Nat → Prop} {c B : Nat} {W W1 : World} {row : Option Nat} (hg : W.grownBy W1 row) (hrow : ∀ k, row = some k → B ≤ k) (hcB : c ≤ B) (hc : c ≤ W.heap.size) : Stay b c B (fun k => some k = row) W W1 :=
  ⟨hg.size, fun k _ hk => hg.block k (by omega) (fun e => by have := hrow k e.symm; omega), fun k _ hk hn => hg.block k hk hn⟩
theorem stay_set {b : Nat → Prop} {c B : Nat} {W : World} {g j : Nat} {v : Value} (hg : B ≤ g) (hcB : c ≤ B) : Stay b c B (fun k => k = g) W (W.setCell ⟨g, j, none⟩ v) :=
  ⟨by simp [World.setCell], fun k _ hk => Below.heap_setCell W ⟨g, j, none⟩ v k (by simp only; omega), fun k _ _ hn => Below.heap_setCell W ⟨g, j, none⟩ v k hn⟩
theorem ownA (A : Option Addr) (n n' c c' : Nat) : Value.ownBlock (.slice A n c) = Value.ownBlock (.slice A n' c') := by cases A <;> rfl
theorem R_blk {W : World} {base : Nat} {ok : Nat → Prop} {v : Value} {xs : List Int} (h : Kd.R (Kd.int .i64) 3 W base ok v xs) : Kd.R (Kd.int .i64) 3 W base (fun k => some k = v.ownBlock) v xs := Kd.R_of_own (Kd.own_of_R h) (fun k hk => hk.symm)
theorem R_ok {W : World} {base : Nat} {ok ok' : Nat → Prop} {v : Value} {xs : List Int} (h : Kd.R (Kd.int .i64) 3 W base ok v xs) (hk : ∀ k, some k = v.ownBlock → ok' k) : Kd.R (Kd.int .i64) 3 W base ok' v xs := Kd.R_mono (R_blk h) hk
section
variable {W W1 : World} {b : Nat → Prop} {c B gs gl capl bo by_ bs bg bc l cl ch cc : Nat} {Al Ah Ac : Option Addr} {low high : List Int} {cr : List S96} {pat : ByteArray} {order lay ws : List Int} {Ao Aw : Option Addr} {co cw : Nat}
/-- The order's row has been written: the rest. -/
theorem Grw.grown (h : Grw W b c B gs gl capl bo by_ bs bg bc l cl ch cc Al Ah Ac low high cr pat order lay ws Ao Aw co cw) (hg : W.grownBy W1 (Value.ownBlock (.slice Ao order.length co))) {A1 : Option Addr} {c1 : Nat} {order1 : List Int}
  (hr : Kd.R (Kd.int .i64) 3 W1 B (fun k => k ≠ gl ∧ some k ≠ Value.ownBlock (.slice Aw ws.length cw)) (.slice A1 order1.length c1) order1) :
  Stk W1 B gs gl capl (.slice Al low.length cl) (.slice Ah high.length ch) (.slice Ac cr.length cc) false pat lay Aw cw ws ∧
  W1.heap[bo]? = some (.cells #[.slice Ao order.length co] 22 (0, 0)) ∧
  (W1.heap[bo]? = some (.cells #[.slice A1 order1.length c1] 22 (0, 0)) → Grw W1 b c B gs gl capl bo by_ bs bg bc l cl ch cc Al Ah Ac low high cr pat order1 lay ws A1 Aw c1 cw) := by
 have hlo : ∀ k, some k = Value.ownBlock (.slice Ao order.length co) → B ≤ k := fun k hk => Kd.R_base h.ro k hk.symm
 have st1 : Stk W1 B gs gl capl (.slice Al low.length cl) (.slice Ah high.length ch) (.slice Ac cr.length cc) false pat lay Aw cw ws :=
  ⟨blk_grown h.st.hs hg (Kd.R_ne h.ro h.st.hs (by decide)), R_ok (Kd.R_grown (R_blk h.st.hl) hg (fun k hk e => (h.ro.1 k e.symm).1 (by simpa [Value.ownBlock] using hk))) (fun k hk => h.st.hl.1 k hk.symm), R_ok (Kd.R_grown (R_blk h.st.hw) hg (fun k hk e => (h.ro.1 k e.symm).2 hk)) (fun k hk => h.st.hw.1 k hk.symm), h.st.hb⟩
 refine ⟨st1, blk_grown h.ho hg (Kd.R_ne h.ro h.ho (by decide)), fun ho1 => ⟨st1, ho1, blk_grown h.hy hg (Kd.R_ne h.ro h.hy (by decide)), blk_grown h.hs hg (Kd.R_ne h.ro h.hs (by decide)), blk_grown h.hg hg (Kd.R_ne h.ro h.hg (by decide)), blk_grown h.hc hg (Kd.R_ne h.ro h.hc (by decide)),
  Kd.R_grown h.rl hg (fun k hk e => by have := hk.1; have := hlo k e; have := h.n2; omega), Kd.R_grown h.rh hg (fun k hk e => by have := hk.1; have := hlo k e; have := h.n2; omega), Kd.R_grown h.rc hg (fun k hk e => by have := hk.1; have := hlo k e; have := h.n2; omega), hr, h.n1, h.n2, h.n3⟩⟩
/-- One more segment: the order's row written anew, another waits, a number of the layer, the order's box. -/
theorem Grw.pushed (h : Grw W b c B gs gl capl bo by_ bs bg bc l cl ch cc Al Ah Ac low high cr pat order lay ws Ao Aw co cw) (hg : W.grownBy W1 (Value.ownBlock (.slice Ao order.length co))) {A1 A9 : Option Addr} {c1 c9 : Nat} {order1 vs : List Int}
  (hr : Kd.R (Kd.int .i64) 3 W1 B (fun k => (k ≠ gl ∧ some k ≠ Value.ownBlock (.slice Aw ws.length cw)) ∧ some k ≠ Value.ownBlock (.slice A9 vs.length c9)) (.slice A1 order1.length c1) order1)
  (hv : Kd.R (Kd.int .i64) 3 W1 B (fun k => k ≠ gs ∧ k ≠ gl) (.slice A9 vs.length c9) vs) (i x : Int) (h0 : 0 ≤ i) (h1 : i < lay.length) :
  Grw (((W1.setCell ⟨gs, 6, none⟩ (.slice A9 vs.length c9)).setCell ⟨gl, i.toNat, none⟩ (.int .i64 x)).setCell ⟨bo, 0, none⟩ (.slice A1 order1.length c1)) b c B gs gl capl bo by_ bs bg bc l cl ch cc Al Ah Ac low high cr pat order1 (lay.set i.toNat x) vs A1 A9 c1 c9 := by
 obtain ⟨st1, hbo, _⟩ := h.grown hg (Kd.R_mono hr (fun k hk => hk.1))
 have hlo : ∀ k, some k = Value.ownBlock (.slice Ao order.length co) → B ≤ k := fun k hk => Kd.R_base h.ro k hk.symm
 have st3 := ((st1.waits hv).1.layer i x h0 h1).1
 have hgl : ∀ {t : TypeId} {cs : Array Value} {g : Nat}, W1.heap[g]? = some (.cells cs t (0, 0)) → t ≠ 3 → g ≠ gl := fun hh ht e => Kd.R_ne st1.hl hh ht.symm (by rw [e]; rfl)
 have far : ∀ {g : Nat} {t : TypeId} {cs : Array Value}, W1.heap[g]? = some (.cells cs t (0, 0)) → t ≠ 3 → t ≠ 101 → ((W1.setCell ⟨gs, 6, none⟩ (.slice A9 vs.length c9)).setCell ⟨gl, i.toNat, none⟩ (.int .i64 x)).heap[g]? = some (.cells cs t (0, 0)) :=
  fun hh h3 h101 => blk_far (blk_far hh (p := ⟨gs, 6, none⟩) (blk_ne hh st1.hs h101) _) (p := ⟨gl, i.toNat, none⟩) (hgl hh h3) _
 have hbo3 := far hbo (by decide) (by decide)
 have far4 : ∀ {g : Nat} {t : TypeId} {cs : Array Value}, W1.heap[g]? = some (.cells cs t (0, 0)) → t ≠ 3 → t ≠ 101 → t ≠ 22 → (((W1.setCell ⟨gs, 6, none⟩ (.slice A9 vs.length c9)).setCell ⟨gl, i.toNat, none⟩ (.int .i64 x)).setCell ⟨bo, 0, none⟩ (.slice A1 order1.length c1)).heap[g]? = some (.cells cs t (0, 0)) :=
  fun hh h3 h101 h22 => blk_far (far hh h3 h101) (p := ⟨bo, 0, none⟩) (blk_ne hh hbo h22) _
 have row : ∀ {base' : Nat} {ok : Nat → Prop} {v : Value} {xs : List Int}, Kd.R (Kd.int .i64) 3 W1 base' ok v xs → (∀ k, some k = v.ownBlock → k ≠ gl) → Kd.R (Kd.int .i64) 3 (((W1.setCell ⟨gs, 6, none⟩ (.slice A9 vs.length c9)).setCell ⟨gl, i.toNat, none⟩ (.int .i64 x)).setCell ⟨bo, 0, none⟩ (.slice A1 order1.length c1)) base' ok v xs :=
  fun hv hn => R_ok (Kd.R_far (Kd.R_far (Kd.R_far (R_blk hv) (p := ⟨gs, 6, none⟩) (fun k hk e => Kd.R_ne hv st1.hs (by decide) (by rw [← hk]; exact congrArg some e.symm)) _) (p := ⟨gl, i.toNat, none⟩) (fun k hk => hn k hk) _) (p := ⟨bo, 0, none⟩) (fun k hk e => Kd.R_ne hv hbo (by decide) (by rw [← hk]; exact congrArg some e.symm)) _) (fun k hk => hv.1 k hk.symm)
 have nb : ∀ {base' : Nat} {ok : Nat → Prop} {v : Value} {xs : List Int} {V : World}, V.heap[bo]? = some (.cells #[.slice Ao order.length co] 22 (0, 0)) → Kd.R (Kd.int .i64) 3 V base' ok v xs → Kd.R (Kd.int .i64) 3 (V.setCell ⟨bo, 0, none⟩ (.slice A1 order1.length c1)) base' ok v xs :=
  fun hh hv => R_ok (Kd.R_far (R_blk hv) (p := ⟨bo, 0, none⟩) (fun k hk e => Kd.R_ne hv hh (by decide) (by rw [← hk]; exact congrArg some e.symm)) _) (fun k hk => hv.1 k hk.symm)
 have hB : ∀ k, (k < c ∧ b k) → k ≠ gs ∧ k ≠ gl ∧ k ≠ bo := fun k hk' => have hk := hk'.1; ⟨fun e => by have := h.n2; have := h.st.hb; omega, fun e => by have := h.n2; have := st1.gl_base; omega, fun e => by have := h.n2; have := h.n3.1; omega⟩
 have hcold : ∀ k, (k < c ∧ b k) → some k ≠ Value.ownBlock (.slice Ao order.length co) := fun k hk' e => have hk := hk'.1; by have := hlo k e; have := h.n2; omega
 refine ⟨⟨blk_far st3.hs (p := ⟨bo, 0, none⟩) (blk_ne st3.hs hbo3 (by decide)) _, nb hbo3 st3.hl, nb hbo3 st3.hw, h.st.hb⟩, blk_set hbo3 0 _, far4 (blk_grown h.hy hg (Kd.R_ne h.ro h.hy (by decide))) (by decide) (by decide) (by decide), far4 (blk_grown h.hs hg (Kd.R_ne h.ro h.hs (by decide))) (by decide) (by decide) (by decide), far4 (blk_grown h.hg hg (Kd.R_ne h.ro h.hg (by decide))) (by decide) (by decide) (by decide), far4 (blk_grown h.hc hg (Kd.R_ne h.ro h.hc (by decide))) (by decide) (by decide) (by decide), ?_, ?_, ?_, row (Kd.R_mono hr (fun k hk => ⟨hk.1.1, hk.2⟩)) (fun k hk => (hr.1 k hk.symm).1.1), h.n1, h.n2, h.n3⟩
 ·exact row (Kd.R_grown h.rl hg hcold) (fun k hk => (hB k (h.rl.1 k hk.symm)).2.1)
 ·exact row (Kd.R_grown h.rh hg hcold) (fun k hk => (hB k (h.rh.1 k hk.symm)).2.1)
 ·exact Kd.R_far (Kd.R_far (Kd.R_far (Kd.R_grown h.rc hg hcold) (p := ⟨gs, 6, none⟩) (fun k hk => (hB k hk).1) _) (p := ⟨gl, i.toNat, none⟩) (fun k hk => (hB k hk).2.1) _) (p := ⟨bo, 0, none⟩) (fun k hk => (hB k hk).2.2) _
/-- A cell of the order's box is written. -/
theorem Grw.box (h : Grw W b c B gs gl capl bo by_ bs bg bc l cl ch cc Al Ah Ac low high cr pat order lay ws Ao Aw co cw) {A1 : Option Addr} {c1 : Nat} {order1 : List Int} (hr : Kd.R (Kd.int .i64) 3 W B (fun k => k ≠ gl ∧ some k ≠ Value.ownBlock (.slice Aw ws.length cw)) (.slice A1 order1.length c1) order1) :
  Grw (W.setCell ⟨bo, 0, none⟩ (.slice A1 order1.length c1)) b c B gs gl capl bo by_ bs bg bc l cl ch cc Al Ah Ac low high cr pat order1 lay ws A1 Aw c1 cw := by
 have far : ∀ {g : Nat} {t : TypeId} {cs : Array Value}, W.heap[g]? = some (.cells cs t (0, 0)) → t ≠ 22 → (W.setCell ⟨bo, 0, none⟩ (.slice A1 order1.length c1)).heap[g]? = some (.cells cs t (0, 0)) := fun hh ht => blk_far hh (p := ⟨bo, 0, none⟩) (blk_ne hh h.ho ht) _
 have nb : ∀ {base' : Nat} {ok : Nat → Prop} {v : Value} {xs : List Int}, Kd.R (Kd.int .i64) 3 W base' ok v xs → Kd.R (Kd.int .i64) 3 (W.setCell ⟨bo, 0, none⟩ (.slice A1 order1.length c1)) base' ok v xs := fun hv => R_ok (Kd.R_far (R_blk hv) (p := ⟨bo, 0, none⟩) (fun k hk e => Kd.R_ne hv h.ho (by decide) (by rw [← hk]; exact congrArg some e.symm)) _) (fun k hk => hv.1 k hk.symm)
 refine ⟨⟨far h.st.hs (by decide), nb h.st.hl, nb h.st.hw, h.st.hb⟩, blk_set h.ho 0 _, far h.hy (by decide), far h.hs (by decide), far h.hg (by decide), far h.hc (by decide), nb h.rl, nb h.rh, Kd.R_far h.rc (p := ⟨bo, 0, none⟩) (fun k hk e => by have := hk.1; have := h.n2; have := h.n3.1; simp only at e; omega) _, nb hr, h.n1, h.n2, h.n3⟩
end
section
variable (b : Nat → Prop) (c B gs gl capl bo by_ bs bg bc l cl ch cc : Nat) (Al Ah Ac : Option Addr) (low high : List Int) (cr : List S96) (pat : ByteArray) (N M : Nat) (J Jx : List Ord → World → Prop)
set_option maxRecDepth 100000 in
set_option maxHeartbeats 8000000 in
theorem grow1 (d : Nat) (order ws : List Int) (Ao Aw : Option Addr) (co cw : Nat) (pre : List Ord) (W : World)
  (hIH : ∀ (order' ws' : List Int) (Ao' Aw' : Option Addr) (co' cw' : Nat) (pre' : List Ord) (W' : World), order'.length = order.length + 1 → (∀ s ∈ order', 0 ≤ s ∧ s < low.length) → order'.Nodup → Okw cr ws' → ws'.length ≤ order'.length * 2 ^ 10 →
   Grw W' b c B gs gl capl bo by_ bs bg bc l cl ch cc Al Ah Ac low high cr pat order' (layerOf low.length order') ws' Ao' Aw' co' cw' → J pre' W' → pre'.length + (growF low high cr pat d order' ws').length ≤ N → M ≤ W'.heap.size →
   Calls Try.prog 74 #[.pointer (some ⟨bo, 0, none⟩), .pointer (some ⟨bc, 0, none⟩), .pointer (some ⟨by_, 0, none⟩), .pointer (some ⟨bs, 0, none⟩), .pointer (some ⟨bg, 0, none⟩)] W' fun e W2 => GrowPost b c B gs gl capl bo by_ bs bg bc l cl ch cc Al Ah Ac low high cr pat J Jx d order' ws' Ao' Aw' co' cw' pre' W' e W2)
  (hJ : ∀ s A C, J s A → Below B A C → J s C) (hJx : ∀ s A C, Jx s A → Rf.Rest M B A C → Jx s C) (hMW : M ≤ W.heap.size) (hMg : B ≤ M ∧ gs < M ∧ gl < M ∧ bo < M) (hG : Grw W b c B gs gl capl bo by_ bs bg bc l cl ch cc Al Ah Ac low high cr pat order (layerOf low.length order) ws Ao Aw co cw)
  (hlen : order.length + (d + 1) = low.length) (hn : low.length < 13) (hhl : high.length = low.length) (hcr : cr.length < 2 ^ 10) (hpat : pat.size = 0 ∨ cr.length ≤ pat.size) (hor : ∀ s ∈ order, 0 ≤ s ∧ s < low.length) (hnd : order.Nodup) (hok : Okw cr ws) (hwl : ws.length ≤ order.length * 2 ^ 10)
  (hp : J pre W) (hN : pre.length + (growF low high cr pat (d + 1) order ws).length ≤ N) :
  Calls Try.prog 74 #[.pointer (some ⟨bo, 0, none⟩), .pointer (some ⟨bc, 0, none⟩), .pointer (some ⟨by_, 0, none⟩), .pointer (some ⟨bs, 0, none⟩), .pointer (some ⟨bg, 0, none⟩)] W fun e W' => GrowPost b c B gs gl capl bo by_ bs bg bc l cl ch cc Al Ah Ac low high cr pat J Jx (d + 1) order ws Ao Aw co cw pre W e W' := by
 have HG := Aside0.mk hG
 have e0 := (heap_cells hG.ho 0 (by simp)).1
 have e1 := (heap_cells hG.hc 0 (by simp)).1
 have HIH := Aside0.mk hIH
 have HJ := Aside0.mk hJ
 have HJX2 := Aside0.mk hJx
 have HMW := Aside0.mk hMW
 have HMG := Aside0.mk hMg
 have HP := Aside0.mk hp
 have HNN := Aside0.mk hN
 have HLE := Aside0.mk (And.intro hlen (And.intro hn (And.intro hhl hcr)))
 have HOR := Aside0.mk (And.intro hor (And.intro hnd (And.intro hok hwl)))
 have HPAT := Aside0.mk hpat
 have hne1 : ¬ (order.length = low.length) := by omega
 have hne2 : ¬ ((order.length : Int) = (low.length : Int)) := by omega
 have hne3 : ((order.length : Int) == (low.length : Int)) = false := by simpa using hne2
 have hne4 : (order.length == low.length) = false := by simpa using hne1
 have HB := Aside0.mk (show B ≤ W.heap.size ∧ c ≤ W.heap.size from by have := hG.n2; have := hG.st.hb; have := hG.st.lt; omega)
 clear hG hIH hJ hJx hMW hMg hp hN hlen hn hhl hcr hor hnd hok hwl hpat
 go_enter Try.func74, Try.ntmps74
 go_wp2
 go_loopw [24] (fun v24 wr => ∃ (s : Nat) (xs : List Ord) (A2 : Option Addr) (c2 : Nat), v24 = .int .i64 (s : Int) ∧ s ≤ low.length ∧ Aside0 (xs.map (·.xs) = (List.range s).flatMap (growAt low high cr pat d order ws)) ∧ Aside0 (J (pre ++ xs) wr) ∧ Aside0 (Grw wr b c B gs gl capl bo by_ bs bg bc l cl ch cc Al Ah Ac low high cr pat order (layerOf low.length order) ws A2 Aw c2 cw) ∧ Aside0 (Stay b c B (fun k => k = gs ∨ k = gl ∨ k = bo ∨ some k = Value.ownBlock (.slice Ao order.length co)) W wr) ∧ Aside0 (Value.ownBlock (.slice A2 order.length c2) = Value.ownBlock (.slice Ao order.length co) ∨ ∃ k, Value.ownBlock (.slice A2 order.length c2) = some k ∧ W.heap.size ≤ k)) (fun v24 _ => low.length - (intOf v24).toNat)
 case atStart => exact ⟨0, [], Ao, co, by first | rfl | simp, Nat.zero_le _, ⟨rfl⟩, ⟨by simpa using HP.out⟩, HG, ⟨Stay.refl _ _ _ _ _⟩, ⟨.inl rfl⟩⟩
 case round =>
  clear HG e0 e1 HP
  obtain ⟨s, xs, A2, c2, rfl, hs, HXS, HJX, HG, HST, HOW⟩ := hrel
  by_cases hsn : s < low.length
  ·have f0 := (heap_cells HG.out.hs 0 (by simp)).1
   have f1 := HG.out.st.read.2.2.2.2.2.1
   have hll := layerOf_len low.length order
   obtain ⟨stl, f2, f3⟩ := HG.out.st.layer (s : Int) 0 (by omega) (by rw [hll]; omega)
   rw [layerOf_rd hsn] at f2
   rw [hll] at f1
   simp only [Int.toNat_natCast] at f2
   clear stl f3 hll
   by_cases hin : ((s : Int)) ∈ order
   ·have hge : 0 ≤ idxI order (s : Int) := idxI_mem.2 hin
    go_wp2
    go_roundw
    case rel => exact ⟨s + 1, xs, A2, c2, up2 (by have := HLE.out; omega) hsn, by omega, ⟨by rw [growTo_succ, HXS.out]; unfold growAt; rw [if_pos hin]; simp⟩, HJX, HG, HST, HOW⟩
    case measure => exact up2m (by have := HLE.out; omega) hsn
   ·have hge : idxI order (s : Int) < 0 := Int.not_le.1 (fun h => hin (idxI_mem.1 h))
    have HPUT := Aside0.mk (put75 gs Al Ah Ac Aw cl ch cc cw low high cr pat ws (s : Int) wr (HG.out.st.stackR (Kd.R_reads' HG.out.rl).2.2 (Kd.R_reads' HG.out.rh).2.2 (Kd.R_reads' HG.out.rc).2.2) (by omega) (by omega) (by have := HLE.out; omega) HOR.out.2.2.1 (by have := HLE.out; omega) (by have := HOR.out.2.2.2; have := HLE.out; omega) HPAT.out)
    obtain ⟨pf, hpf⟩ : ∃ pf, putF low high cr pat (s : Int) ws = pf := ⟨_, rfl⟩
    rw [hpf] at HPUT
    have HPF := Aside0.mk hpf
    clear hpf
    cases pf with
    | none =>
     go_wp2_with (go_at_call 75; refine HPUT.out.mono ?_; rintro e w9 ⟨v9, rfl, hr9, hb9⟩; obtain ⟨A9, c9, rfl⟩ := Kd.R_slice hr9)
     have hs9 : Stay b c B (fun _ => False) wr w9 := Stay.of_below hb9 (by have := HG.out.n2; have := HG.out.st.hb; have := HG.out.st.lt; omega)
     refine ⟨⟨s + 1, xs, A2, c2, up2 (by have := HLE.out; omega) hsn, by omega, ⟨by rw [growTo_succ, HXS.out]; unfold growAt; rw [if_neg hin, HPF.out]; simp⟩, ⟨HJ.out _ _ _ HJX.out (hb9.mono (by have := HG.out.st.hb; have := HG.out.st.lt; omega))⟩, ⟨HG.out.stay hs9 (fun _ h => h)⟩, ⟨HST.out.then hs9 (fun _ h => h.elim)⟩, HOW⟩, up2m (by have := HLE.out; omega) hsn⟩
    | some vs =>
     have f4 := HG.out.st.read.2.2.2.2.2.2
     go_wp2_with (go_at_call 75; refine HPUT.out.mono ?_; rintro e w9 ⟨v9, rfl, hr9, hb9⟩; obtain ⟨A9, c9, rfl⟩ := Kd.R_slice hr9; have f5 := mv hb9 f0; have f6 := mv hb9 f1; have f7 := mv hb9 f4)
     have HG9 := Aside0.mk (HG.out.stay (Stay.of_below hb9 (by have := HG.out.n2; have := HG.out.st.hb; have := HG.out.st.lt; omega)) (no := fun _ => False) (fun _ h => h))
     have HR9 := Aside0.mk (HG.out.st.fresh hr9)
     have HRO := Aside0.mk (R_ok HG9.out.ro (ok' := fun k => (k ≠ gl ∧ some k ≠ Value.ownBlock (.slice Aw ws.length cw)) ∧ some k ≠ Value.ownBlock (.slice A9 vs.length c9)) (fun k hk => ⟨HG9.out.ro.1 k hk.symm, fun e => by have := Kd.R_lt HG.out.ro k hk.symm; have := Kd.R_base hr9 k e.symm; omega⟩))
     have HB9 := Aside0.mk hb9
     have hs0 : 0 ≤ (s : Int) := by omega
     have hll2 : s < (layerOf low.length order).length := by rw [layerOf_len]; exact hsn
     clear hr9 hb9 f0 f1 f2 f4 f5 f6 f7
     have HS : ∀ W', Grw W' b c B gs gl capl bo by_ bs bg bc l cl ch cc Al Ah Ac low high cr pat order (layerOf low.length order) ws A2 Aw c2 cw → (fun w' => w'.cell? ⟨bs, 0, none⟩ = some (.pointer (some ⟨gs, 0, none⟩)) ∧ w'.cell? ⟨gs, 5, none⟩ = some (.slice (some ⟨gl, 0, none⟩) (layerOf low.length order).length capl) ∧ w'.cell? ⟨bo, 0, none⟩ = some (.slice A2 order.length c2)) W' := fun W' h => ⟨(heap_cells h.hs 0 (by simp)).1, h.st.read.2.2.2.2.2.1, (heap_cells h.ho 0 (by simp)).1⟩
     replace HG9 := Aside0.mk (HG9.out.stay (Stay.of_below (below_drew1' (Below.refl w9.heap.size w9)) (by have := HG9.out.n2; have := HG9.out.st.hb; have := HG9.out.st.lt; omega)) (no := fun _ => False) (fun _ h => h))
     replace HR9 := Aside0.mk (Kd.R_drew HR9.out)
     replace HRO := Aside0.mk (Kd.R_drew HRO.out)
     replace HB9 := Aside0.mk (HB9.out.drew)
     refine start_ (n := 19) (S := fun w' => w'.cell? ⟨bs, 0, none⟩ = some (.pointer (some ⟨gs, 0, none⟩)) ∧ w'.cell? ⟨gs, 5, none⟩ = some (.slice (some ⟨gl, 0, none⟩) (layerOf low.length order).length capl) ∧ w'.cell? ⟨bo, 0, none⟩ = some (.slice A2 order.length c2)) (ds := [18]) #[false, false, false, false, false, false, false, false, false, false, false, false, false, false, false, false, false, false, false] (by kernel_rfl) rfl rfl (HS _ HG9.out) (fun hHeld => ?_); refine with_tabW grow10tab grow10bits (fun HT_ HW_ => ?_)
     generalize w9.drew = wa at HG9 HR9 HRO HB9 hHeld ⊢
     refine tr 0 47 HT_ HW_ hHeld ?_
     refine tr 1 48 HT_ HW_ hHeld ?_
     refine pr 2 49 HT_ ?_
     refine pr 3 50 HT_ ?_
     refine tr 4 51 HT_ HW_ hHeld ?_
     refine pr 5 52 HT_ ?_
     refine pr 6 53 HT_ ?_
     refine tr 7 54 HT_ HW_ hHeld ?_
     refine pr 8 55 HT_ ?_
     refine tr 9 56 HT_ HW_ hHeld ?_
     refine pr 10 57 HT_ ?_
     refine on 11 (some 58) HT_ (fun K hK => ?_)
     refine Kd.R_lit_step (Kd.int .i64) (w0 := wa) wa.heap.size 3 (by rfl) (N := 58) (by rfl) (xs := [(s : Int)]) (inner := [.int .i64 (s : Int)]) (ok := fun _ => True) (okp := fun _ => False) ?hr (Reps.one rfl (Reps.none _ _)) (fun _ h => h.elim) trivial (Below.refl _ _) (Nat.le_refl _) (by simp) ?_
     (case hr => first | (go_simp; done) | (go_simp; rfl))
     intro v58 w58 ho58 hb58 hg58 hat58
     obtain ⟨A58, c58, rfl⟩ := Kd.R_slice ho58
     replace HG9 := Aside0.mk (HG9.out.stay (Stay.of_below hb58 (by have := HG9.out.n2; have := HG9.out.st.hb; have := HG9.out.st.lt; omega)) (no := fun _ => False) (fun _ h => h))
     replace HR9 := Aside0.mk (Kd.R_below HR9.out hb58)
     replace HRO := Aside0.mk (Kd.R_below HRO.out hb58)
     replace HB9 := Aside0.mk (below_step HB9.out hb58)
     have HL := Aside0.mk ho58
     clear ho58 hb58 hg58 hat58
     refine hK.out _ _ (HS _ HG9.out) (fun hHeld => ?_)
     clear hK K
     refine nr (some 58) ?_
     refine on 12 (some 59) HT_ (fun K hK => ?_)
     refine Kd.R_append_rows_step (Kd.int .i64) (w0 := w58) B (by rfl) (.tmp 56) (.tmp 58) 22 3 (.int .i64 0) 8 rfl Try.underlying22 info3 rfl (by decide) (by decide) (.slice A2 order.length c2) order [(s : Int)] _ _ _ (fun k => (k ≠ gl ∧ some k ≠ Value.ownBlock (.slice Aw ws.length cw)) ∧ some k ≠ Value.ownBlock (.slice A9 vs.length c9)) (fun _ => False) rfl rfl HRO.out (Kd.R_reads' HL.out).2.2 (fun _ _ h => h) (fun _ h => h.elim) (fun k hk => ⟨⟨fun e => by have := HG9.out.st.gl_lt; omega, fun e => by have := Kd.R_lt HG9.out.st.hw k e.symm; omega⟩, fun e => by have := Kd.R_lt HR9.out k e.symm; omega⟩) (Below.refl _ _) (by have := HG9.out.st.hb; have := HG9.out.st.lt; omega) ?aL ?_
     (case aL => have := HLE.out; simp only [List.length_cons, List.length_nil]; omega)
     intro v59 w59 ho59 hb59 hg59 hat59
     obtain ⟨A59, c59, rfl⟩ := Kd.R_slice ho59
     have HR59 := Aside0.mk ho59
     have HV59 := Aside0.mk (R_ok (ok' := fun k => k ≠ gs ∧ k ≠ gl) (Kd.R_grown (R_blk HR9.out) hg59 (fun k hk e => (HRO.out.1 k e.symm).2 hk)) (fun k hk => HR9.out.1 k hk.symm))
     obtain ⟨st59, bo59, _⟩ := HG9.out.grown hg59 (Kd.R_mono ho59 (fun k hk => hk.1))
     have bs59 := blk_grown HG9.out.hs hg59 (Kd.R_ne HG9.out.ro HG9.out.hs (by decide))
     have ST59 := Aside0.mk st59
     have BO59 := Aside0.mk bo59
     have BS59 := Aside0.mk bs59
     have HG59 := Aside0.mk hg59
     have HAT59 := Aside0.mk hat59
     have HB59 := Aside0.mk hb59
     clear st59 bo59 bs59 hg59 hat59 hb59 ho59
     refine hK.out _ _ ⟨(heap_cells BS59.out 0 (by simp)).1, ST59.out.read.2.2.2.2.2.1, (heap_cells BO59.out 0 (by simp)).1⟩ (fun hHeld => ?_)
     clear hK K
     refine nr (some 59) ?_
     refine pr 13 60 HT_ ?_
     refine pr 14 61 HT_ ?_
     obtain ⟨stw, q1, q2⟩ := ST59.out.waits HV59.out
     have STW := Aside0.mk stw
     clear stw
     refine on 15 none HT_ (fun K hK => ?_)
     refine sk (w1 := (w59.setCell ⟨gs, 6, none⟩ (.slice A9 vs.length c9))) (hrun := by first | (go_simp; done) | (go_simp; rfl)) ?_
     refine hK.out _ _ ⟨(heap_cells (blk_far BS59.out (p := ⟨gs, 6, none⟩) (blk_ne BS59.out ST59.out.hs (by decide)) _) 0 (by simp)).1, STW.out.read.2.2.2.2.2.1, (heap_cells (blk_far BO59.out (p := ⟨gs, 6, none⟩) (blk_ne BO59.out ST59.out.hs (by decide)) _) 0 (by simp)).1⟩ (fun hHeld => ?_)
     clear hK K q1 q2
     refine pr 16 62 HT_ ?_
     obtain ⟨stl, _, _⟩ := STW.out.layer (s : Int) (order.length : Int) hs0 (by rw [layerOf_len]; omega)
     have STL := Aside0.mk stl
     obtain ⟨_, q3, q4⟩ := ST59.out.layer (s : Int) 0 hs0 (by rw [layerOf_len]; omega)
     simp only [Int.toNat_natCast] at STL q3 q4
     have q5 := ST59.out.ne
     have q6 := ST59.out.ne.symm
     clear stl
     have HGL := Aside0.mk (show ∀ {t : TypeId} {cs : Array Value} {g : Nat}, w59.heap[g]? = some (.cells cs t (0, 0)) → t ≠ 3 → g ≠ gl from fun hh ht e => Kd.R_ne ST59.out.hl hh ht.symm (by rw [e]; rfl))
     refine on 17 none HT_ (fun K hK => ?_)
     refine sk (w1 := ((w59.setCell ⟨gs, 6, none⟩ (.slice A9 vs.length c9)).setCell ⟨gl, s, none⟩ (.int .i64 (order.length : Int)))) (hrun := by first | (go_simp; done) | (go_simp; rfl)) ?_
     refine hK.out _ _ ⟨(heap_cells (blk_far (blk_far BS59.out (p := ⟨gs, 6, none⟩) (blk_ne BS59.out ST59.out.hs (by decide)) _) (p := ⟨gl, s, none⟩) (HGL.out BS59.out (by decide)) _) 0 (by simp)).1, by have := STL.out.read.2.2.2.2.2.1; rwa [List.length_set] at this, (heap_cells (blk_far (blk_far BO59.out (p := ⟨gs, 6, none⟩) (blk_ne BO59.out ST59.out.hs (by decide)) _) (p := ⟨gl, s, none⟩) (HGL.out BO59.out (by decide)) _) 0 (by simp)).1⟩ (fun hHeld => ?_)
     clear hK K q3 q4 q5 q6
     have q1 := (heap_cells BO59.out 0 (by simp)).1
     have q2 := (heap_cells BO59.out 0 (by simp)).2
     have q3 := blk_ne BO59.out ST59.out.hs (by decide)
     have q4 := q3.symm
     have q5 := HGL.out BO59.out (by decide)
     have q6 := q5.symm
     refine la 18 none HT_ (fun K hK => ?_)
     refine sk (w1 := (((w59.setCell ⟨gs, 6, none⟩ (.slice A9 vs.length c9)).setCell ⟨gl, s, none⟩ (.int .i64 (order.length : Int))).setCell ⟨bo, 0, none⟩ (.slice A59 (order ++ [(s : Int)]).length c59))) (hrun := by first | (go_simp; done) | (go_simp; rfl)) ?_
     refine hK.out _ _ ?_
     clear hK K q1 q2 q3 q4 q5 q6
     refine dn HT_ ?_
     have HGN := Aside0.mk (HG9.out.pushed HG59.out HR59.out HV59.out (s : Int) (order.length : Int) hs0 (by rw [layerOf_len]; omega))
     simp only [Int.toNat_natCast] at HGN
     rw [layerOf_snoc hsn hin] at HGN
     have HBD := Aside0.mk (show Below B wr (((w59.setCell ⟨gs, 6, none⟩ (.slice A9 vs.length c9)).setCell ⟨gl, s, none⟩ (.int .i64 (order.length : Int))).setCell ⟨bo, 0, none⟩ (.slice A59 (order ++ [(s : Int)]).length c59)) from ((((HB9.out.mono (by have := HG.out.st.hb; have := HG.out.st.lt; omega)).trans HB59.out).setCell HG9.out.st.hb _).setCell HG9.out.st.gl_base _).setCell HG9.out.n3.1 _)
     have HSD := Aside0.mk (show Stay b c B (fun k => k = gs ∨ k = gl ∨ k = bo ∨ some k = Value.ownBlock (.slice A2 order.length c2)) wr (((w59.setCell ⟨gs, 6, none⟩ (.slice A9 vs.length c9)).setCell ⟨gl, s, none⟩ (.int .i64 (order.length : Int))).setCell ⟨bo, 0, none⟩ (.slice A59 (order ++ [(s : Int)]).length c59)) from ((((Stay.of_below HB9.out (by have := HG.out.n2; have := HG.out.st.hb; have := HG.out.st.lt; omega)).trans ((stay_grown HG59.out (fun k hk => Kd.R_base HG9.out.ro k hk) HG9.out.n2 (by have := HG9.out.n2; have := HG9.out.st.hb; have := HG9.out.st.lt; omega)).mono (fun k hk => .inr (.inr (.inr hk))))).trans ((stay_set HG9.out.st.hb HG9.out.n2).mono (fun k hk => .inl hk))).trans ((stay_set HG9.out.st.gl_base HG9.out.n2).mono (fun k hk => .inr (.inl hk)))).trans ((stay_set HG9.out.n3.1 HG9.out.n2).mono (fun k hk => .inr (.inr (.inl hk)))))
     generalize (((w59.setCell ⟨gs, 6, none⟩ (.slice A9 vs.length c9)).setCell ⟨gl, s, none⟩ (.int .i64 (order.length : Int))).setCell ⟨bo, 0, none⟩ (.slice A59 (order ++ [(s : Int)]).length c59)) = wd at HGN HBD HSD ⊢
     have HREC := Aside0.mk (HIH.out (order ++ [(s : Int)]) vs A59 A9 c59 c9 (pre ++ xs) wd (by simp) (fun q hq => by
      rcases List.mem_append.1 hq with h | h
      ·exact HOR.out.1 q h
      ·rw [List.mem_singleton.1 h]; omega) (List.nodup_append.2 ⟨HOR.out.2.1, by simp, fun q hq q2 hq2 => by rw [List.mem_singleton.1 hq2]; exact fun e => hin (e ▸ hq)⟩) (putF_okw HOR.out.2.2.1 HPF.out).1 (by have := (putF_okw HOR.out.2.2.1 HPF.out).2; have := HOR.out.2.2.2; have := HLE.out; simp only [List.length_append, List.length_singleton]; omega) HGN.out (HJ.out _ _ _ HJX.out HBD.out) (by
      obtain ⟨r, hr⟩ := growTo_le (growAt low high cr pat d order ws) (show s + 1 ≤ low.length by omega)
      rw [growTo_succ] at hr
      have h1 := congrArg List.length hr
      have h2 := congrArg List.length HXS.out
      have h3 := HNN.out
      rw [growF_succ] at h3
      have h4 : growAt low high cr pat d order ws s = growF low high cr pat d (order ++ [(s : Int)]) vs := by unfold growAt; rw [if_neg hin, HPF.out]
      rw [h4] at h1
      simp only [List.length_append, List.length_map] at h1 h2 ⊢
      omega) (by have h1 := HMW.out; have h2 := HST.out.size; have h3 := HSD.out.size; omega))
     have g0 := (heap_cells HGN.out.hg 0 (by simp)).1
     go_wp2_with (go_at_call 74; refine HREC.out.mono ?_; rintro e w20 ⟨bv, xs2, A20, c20, rfl, hg20, hs20, ho20, hj20⟩)
     have hd20 : Below w20.heap.size w20 w20.drew := below_drew1' (Below.refl _ _)
     have hc20 : c ≤ w20.heap.size := by have := hg20.n2; have := hg20.st.hb; have := hg20.st.lt; omega
     replace hg20 := hg20.stay (Stay.of_below hd20 hc20) (no := fun _ => False) (fun _ h => h)
     replace hs20 := hs20.trans (Stay.of_below hd20 hc20)
     have HHv : Aside0 (w20.drew.heap = w20.heap) := ⟨rfl⟩
     have HBv := Aside0.mk (hd20.mono (show B ≤ w20.heap.size by have := hg20.st.hb; have : gs < w20.heap.size := hg20.st.lt; omega))
     have hcold : ∀ k, some k = Value.ownBlock (.slice Aw ws.length cw) → B ≤ k ∧ k < wr.heap.size ∧ k ≠ gs ∧ k ≠ gl ∧ k ≠ bo ∧ some k ≠ Value.ownBlock (.slice A2 order.length c2) := fun k hk => ⟨Kd.R_base HG.out.st.hw k hk.symm, Kd.R_lt HG.out.st.hw k hk.symm, (HG.out.st.hw.1 k hk.symm).1, (HG.out.st.hw.1 k hk.symm).2, fun h => Kd.R_ne HG.out.st.hw HG.out.ho (by decide) (by rw [← h]; exact hk), fun h => (HG.out.ro.1 k h.symm).2 hk⟩
     have hw1 := R_ok (ok' := fun k => k ≠ gs ∧ k ≠ gl) (Kd.R_step (R_blk HG.out.st.hw) (fun k hk _ => HSD.out.above k (hcold k hk).1 (hcold k hk).2.1 (fun h => by
      obtain ⟨_, _, h1, h2, h3, h4⟩ := hcold k hk
      rcases h with h | h | h | h
      ·exact h1 h
      ·exact h2 h
      ·exact h3 h
      ·exact h4 h))) (fun k hk => HG.out.st.hw.1 k hk.symm)
     have hw2 := R_ok (ok' := fun k => k ≠ gs ∧ k ≠ gl) (Kd.R_step (R_blk hw1) (fun k hk hlt => hs20.above k (hcold k hk).1 hlt (fun h => by
      obtain ⟨_, _, h1, h2, h3, h4⟩ := hcold k hk
      rcases h with h | h | h | h
      ·exact h1 h
      ·exact h2 h
      ·exact h3 h
      ·exact (HR59.out.1 k h.symm).1.2 hk))) (fun k hk => hw1.1 k hk.symm)
     have hro : Kd.R (Kd.int .i64) 3 w20.drew B (fun k => (k ≠ gl ∧ some k ≠ Value.ownBlock (.slice A9 vs.length c9)) ∧ some k ≠ Value.ownBlock (.slice Aw ws.length cw)) (.slice A20 order.length c20) order := by
      have h := Kd.R_take hg20.ro (m := order.length) (by simp)
      rw [List.take_left] at h
      have hA : ∀ k, some k = Value.ownBlock (.slice A20 order.length c20) → some k = Value.ownBlock (.slice A20 (order ++ [(s : Int)]).length c20) := fun k hk => hk.trans (ownA _ _ _ _ _)
      refine R_ok h (fun k hk => ⟨hg20.ro.1 k (hA k hk).symm, fun e => ?_⟩)
      replace hk := hA k hk
      rcases ho20 with h0 | ⟨q, h0, hq⟩
      ·exact (HR59.out.1 k (h0.symm.trans hk.symm)).1.2 e
      ·have h1 := (hcold k e).2.1
       have h2 : k = q := Option.some.inj (hk.trans h0)
       have h3 := HSD.out.size
       omega
     have HGB := Aside0.mk (hg20.pushed (World.grownBy.refl w20.drew _) hro hw2 (s : Int) (-1) hs0 (by rw [layerOf_len]; omega))
     simp only [Int.toNat_natCast] at HGB
     rw [layerOf_back hsn hin] at HGB
     have HW2 := Aside0.mk hw2
     have HG20 := Aside0.mk hg20
     have HS20 := Aside0.mk hs20
     have HO20 := Aside0.mk ho20
     have HJ20 := Aside0.mk hj20
     clear hcold hw1 hw2 hro hg20 hs20 ho20 hj20 g0 hd20 hc20
     have ho1l : (order ++ [(s : Int)]).length = order.length + 1 := by simp
     obtain ⟨o1, ho1⟩ : ∃ o, order ++ [(s : Int)] = o := ⟨_, rfl⟩
     rw [ho1] at HG20 ho1l
     have HO1 := Aside0.mk ho1
     clear ho1
     obtain ⟨m, hm⟩ : ∃ m : Int, wrap64 ((o1.length : Int) - 1) = m := ⟨_, rfl⟩
     have hmv : m = (order.length : Int) := by
      rw [← hm]
      have := HLE.out
      unfold wrap64
      omega
     obtain ⟨i0, hi0, _, hsz, _⟩ := info_parts info3
     have hcut := cut_to (P := Try.prog) 22 3 .i64 Try.underlying22 hi0 A20 o1.length c20 m (by omega) (by omega) (Kd.R_reads' HG20.out.ro).2.1
     have hmt : m.toNat = order.length := by omega
     rw [hmt] at hcut
     have HM := Aside0.mk (And.intro hmv ho1l)
     clear hmv hmt hi0 hsz ho1l
     have hll3 : s < (layerOf low.length o1).length := by rw [layerOf_len]; exact hsn
     have hS12 : (fun w' => w'.cell? ⟨bs, 0, none⟩ = some (.pointer (some ⟨gs, 0, none⟩)) ∧ w'.cell? ⟨gs, 5, none⟩ = some (.slice (some ⟨gl, 0, none⟩) (layerOf low.length o1).length capl) ∧ w'.cell? ⟨bo, 0, none⟩ = some (.slice A20 o1.length c20)) w20.drew := ⟨(heap_cells HG20.out.hs 0 (by simp)).1, HG20.out.st.read.2.2.2.2.2.1, (heap_cells HG20.out.ho 0 (by simp)).1⟩
     refine start_ (n := 18) (S := fun w' => w'.cell? ⟨bs, 0, none⟩ = some (.pointer (some ⟨gs, 0, none⟩)) ∧ w'.cell? ⟨gs, 5, none⟩ = some (.slice (some ⟨gl, 0, none⟩) (layerOf low.length o1).length capl) ∧ w'.cell? ⟨bo, 0, none⟩ = some (.slice A20 o1.length c20)) (ds := [17]) #[false, false, false, false, false, false, false, false, false, false, false, false, false, false, false, false, false, false] (by kernel_rfl) rfl rfl hS12 (fun hHeld => ?_); refine with_tabW grow12tab grow12bits (fun HT_ HW_ => ?_)
     generalize w20.drew = wv at HGB HG20 HS20 HW2 HBv HHv hS12 hHeld ⊢
     clear hS12
     refine tr 0 65 HT_ HW_ hHeld ?_
     refine tr 1 66 HT_ HW_ hHeld ?_
     refine pr 2 67 HT_ ?_
     refine pr 3 68 HT_ ?_
     refine tr 4 69 HT_ HW_ hHeld ?_
     refine pr 5 70 HT_ ?_
     refine pr 6 71 HT_ ?_
     refine tr 7 72 HT_ HW_ hHeld ?_
     refine tr 8 73 HT_ HW_ hHeld ?_
     refine pr 9 74 HT_ ?_
     refine pr 10 75 HT_ ?_
     refine pr 11 76 HT_ ?_
     refine pr 12 77 HT_ ?_
     refine pr 13 78 HT_ ?_
     obtain ⟨stw, q1, q2⟩ := HG20.out.st.waits HW2.out
     have STW2 := Aside0.mk stw
     clear stw
     refine on 14 none HT_ (fun K hK => ?_)
     refine sk (w1 := (wv.setCell ⟨gs, 6, none⟩ (.slice Aw ws.length cw))) (hrun := by first | (go_simp; done) | (go_simp; rfl)) ?_
     refine hK.out _ _ ⟨(heap_cells (blk_far HG20.out.hs (p := ⟨gs, 6, none⟩) (blk_ne HG20.out.hs HG20.out.st.hs (by decide)) _) 0 (by simp)).1, STW2.out.read.2.2.2.2.2.1, (heap_cells (blk_far HG20.out.ho (p := ⟨gs, 6, none⟩) (blk_ne HG20.out.ho HG20.out.st.hs (by decide)) _) 0 (by simp)).1⟩ (fun hHeld => ?_)
     clear hK K q1 q2
     refine pr 15 79 HT_ ?_
     obtain ⟨stl, _, _⟩ := STW2.out.layer (s : Int) (-1) hs0 (by rw [layerOf_len]; omega)
     have STL2 := Aside0.mk stl
     obtain ⟨_, q3, q4⟩ := HG20.out.st.layer (s : Int) 0 hs0 (by rw [layerOf_len]; omega)
     simp only [Int.toNat_natCast] at STL2 q3 q4
     have q5 := HG20.out.st.ne
     have q6 := HG20.out.st.ne.symm
     clear stl
     have HGL2 := Aside0.mk (show ∀ {t : TypeId} {cs : Array Value} {g : Nat}, wv.heap[g]? = some (.cells cs t (0, 0)) → t ≠ 3 → g ≠ gl from fun hh ht e => Kd.R_ne HG20.out.st.hl hh ht.symm (by rw [e]; rfl))
     refine on 16 none HT_ (fun K hK => ?_)
     refine sk (w1 := ((wv.setCell ⟨gs, 6, none⟩ (.slice Aw ws.length cw)).setCell ⟨gl, s, none⟩ (.int .i64 (-1)))) (hrun := by first | (go_simp; done) | (go_simp; rfl)) ?_
     refine hK.out _ _ ⟨(heap_cells (blk_far (blk_far HG20.out.hs (p := ⟨gs, 6, none⟩) (blk_ne HG20.out.hs HG20.out.st.hs (by decide)) _) (p := ⟨gl, s, none⟩) (HGL2.out HG20.out.hs (by decide)) _) 0 (by simp)).1, by have := STL2.out.read.2.2.2.2.2.1; rwa [List.length_set] at this, (heap_cells (blk_far (blk_far HG20.out.ho (p := ⟨gs, 6, none⟩) (blk_ne HG20.out.ho HG20.out.st.hs (by decide)) _) (p := ⟨gl, s, none⟩) (HGL2.out HG20.out.ho (by decide)) _) 0 (by simp)).1⟩ (fun hHeld => ?_)
     clear hK K q3 q4 q5 q6
     have q1 := (heap_cells HG20.out.ho 0 (by simp)).1
     have q2 := (heap_cells HG20.out.ho 0 (by simp)).2
     have q3 := blk_ne HG20.out.ho HG20.out.st.hs (by decide)
     have q4 := q3.symm
     have q5 := HGL2.out HG20.out.ho (by decide)
     have q6 := q5.symm
     refine la 17 none HT_ (fun K hK => ?_)
     refine sk (w1 := (((wv.setCell ⟨gs, 6, none⟩ (.slice Aw ws.length cw)).setCell ⟨gl, s, none⟩ (.int .i64 (-1))).setCell ⟨bo, 0, none⟩ (.slice A20 order.length c20))) (hrun := by first | (go_simp; done) | (go_simp; rfl)) ?_
     refine hK.out _ _ ?_
     clear hK K q1 q2 q3 q4 q5 q6
     refine dn HT_ ?_
     have HBD2 := Aside0.mk (show Below B w20 (((wv.setCell ⟨gs, 6, none⟩ (.slice Aw ws.length cw)).setCell ⟨gl, s, none⟩ (.int .i64 (-1))).setCell ⟨bo, 0, none⟩ (.slice A20 order.length c20)) from ((HBv.out.setCell HG20.out.st.hb _).setCell HG20.out.st.gl_base _).setCell HG20.out.n3.1 _)
     have HSD2 := Aside0.mk (show Stay b c B (fun k => k = gs ∨ k = gl ∨ k = bo) wv (((wv.setCell ⟨gs, 6, none⟩ (.slice Aw ws.length cw)).setCell ⟨gl, s, none⟩ (.int .i64 (-1))).setCell ⟨bo, 0, none⟩ (.slice A20 order.length c20)) from (((stay_set HG20.out.st.hb HG20.out.n2).mono (fun k hk => .inl hk)).trans ((stay_set HG20.out.st.gl_base HG20.out.n2).mono (fun k hk => .inr (.inl hk)))).trans ((stay_set HG20.out.n3.1 HG20.out.n2).mono (fun k hk => .inr (.inr hk))))
     generalize (((wv.setCell ⟨gs, 6, none⟩ (.slice Aw ws.length cw)).setCell ⟨gl, s, none⟩ (.int .i64 (-1))).setCell ⟨bo, 0, none⟩ (.slice A20 order.length c20)) = we at HGB HBD2 HSD2 ⊢
     have hown : ∀ k, (some k = Value.ownBlock (.slice A59 (order ++ [(s : Int)]).length c59)) → some k = Value.ownBlock (.slice Ao order.length co) ∨ W.heap.size ≤ k := fun k hk => by
      have hs58 := HST.out.size
      have hs9 := HB9.out.size
      rcases HAT59.out with h | ⟨q, h, hq⟩
      ·rcases HOW.out with h1 | ⟨q, h1, hq⟩
       ·exact .inl (hk.trans (h.trans h1))
       ·exact .inr (by have : k = q := Option.some.inj (hk.trans (h.trans h1)); omega)
      ·exact .inr (by have : k = q := Option.some.inj (hk.trans h); omega)
     have HOWN := Aside0.mk (show Value.ownBlock (.slice A20 order.length c20) = Value.ownBlock (.slice Ao order.length co) ∨ ∃ k, Value.ownBlock (.slice A20 order.length c20) = some k ∧ W.heap.size ≤ k from by
      rcases HO20.out with h | ⟨q, h, hq⟩
      ·cases hA : Value.ownBlock (.slice A59 (order ++ [(s : Int)]).length c59) with
       | none =>
        rcases HAT59.out with h1 | ⟨q, h1, _⟩
        ·rcases HOW.out with h2 | ⟨q, h2, _⟩
         ·exact .inl ((ownA _ _ _ _ _).trans (h.trans (h1.trans h2)))
         ·rw [hA] at h1; rw [h2] at h1; cases h1
        ·rw [hA] at h1; cases h1
       | some q =>
        rcases hown q hA.symm with h1 | h1
        ·exact .inl ((ownA _ _ _ _ _).trans (h.trans (hA.trans h1)))
        ·exact .inr ⟨q, (ownA _ _ _ _ _).trans (h.trans hA), h1⟩
      ·exact .inr ⟨q, (ownA _ _ _ _ _).trans h, by have := HST.out.size; have := HSD.out.size; omega⟩)
     have HSALL := Aside0.mk (show Stay b c B (fun k => k = gs ∨ k = gl ∨ k = bo ∨ some k = Value.ownBlock (.slice Ao order.length co)) W we from
      ((HST.out.then HSD.out (fun i hi => by
       rcases hi with h | h | h | h
       ·exact .inl (.inl h)
       ·exact .inl (.inr (.inl h))
       ·exact .inl (.inr (.inr (.inl h)))
       ·rcases HOW.out with h1 | ⟨q, h1, hq⟩
        ·exact .inl (.inr (.inr (.inr (h.trans h1))))
        ·exact .inr (by have : i = q := Option.some.inj (h.trans h1); omega))).then HS20.out (fun i hi => by
       rcases hi with h | h | h | h
       ·exact .inl (.inl h)
       ·exact .inl (.inr (.inl h))
       ·exact .inl (.inr (.inr (.inl h)))
       ·exact (hown i h).imp (fun h => .inr (.inr (.inr h))) id)).then HSD2.out (fun i hi => .inl (hi.imp id (fun h => h.imp id .inl))))
     have HAT : growAt low high cr pat d order ws s = growF low high cr pat d (order ++ [(s : Int)]) vs := by unfold growAt; rw [if_neg hin, HPF.out]
     have HAT := Aside0.mk HAT
     clear hown
     rcases HJ20.out with ⟨rfl, hx20, hj20⟩ | ⟨rfl, hx20, hj20⟩
     ·have HX20 := Aside0.mk hx20
      have HJ21 := Aside0.mk hj20
      clear hx20 hj20 HJ20
      go_wp2
      refine ⟨⟨s + 1, xs ++ xs2, A20, c20, up2 (by have := HLE.out; omega) hsn, by omega, ⟨by rw [growTo_succ, List.map_append, HXS.out, HX20.out, HAT.out]⟩, ⟨HJ.out _ _ _ (by rw [← List.append_assoc]; exact HJ21.out) HBD2.out⟩, HGB, HSALL, HOWN⟩, up2m (by have := HLE.out; omega) hsn⟩
     ·have HX20 := Aside0.mk hx20
      have HJ21 := Aside0.mk hj20
      clear hx20 hj20 HJ20
      go_wp2
      go_ret
      refine ⟨false, xs ++ xs2, A20, c20, rfl, HGB.out, HSALL.out, HOWN.out, .inr ⟨rfl, ?_, HJX2.out _ _ _ (by rw [← List.append_assoc]; exact HJ21.out) ⟨HBD2.out, by have := HSD2.out.size; rw [HHv.out] at this; exact this, fun k hk hl => by rw [← HHv.out]; exact HSD2.out.above k (Nat.le_trans HMG.out.1 hk) (by rw [HHv.out]; exact hl) (fun h => by have := HMG.out; rcases h with h | h | h <;> omega)⟩⟩⟩
      obtain ⟨r, hr⟩ := growTo_le (growAt low high cr pat d order ws) (show s + 1 ≤ low.length by omega)
      obtain ⟨r2, hr2⟩ := HX20.out
      rw [growTo_succ, HAT.out] at hr
      rw [growF_succ, ← hr, List.map_append, HXS.out, ← hr2]
      exact ⟨r2 ++ r, by simp only [List.append_assoc]⟩
  ·obtain rfl : s = low.length := by omega
   go_wp2
   go_ret
   exact ⟨true, xs, A2, c2, rfl, HG.out, HST.out, HOW.out, .inl ⟨rfl, by rw [growF_succ]; exact HXS.out, HJX.out⟩⟩
end
end Go.Proofs.Ytiknnpfdpecfdaa.Own
