/- The declarations of Rf that the claim Qd needs. -/
import Derived.RangeFuncIn
import Derived.RangeFuncLeaves
import Derived.RangeFuncOwn
import Derived.RangeFuncRecord
import Derived.RangeFuncSeq
import Derived.Below
namespace Go.Proofs.Ytiknnpfdpecfdaa.Rf
open Go Go.RowKit
set_option linter.unusedVariables false
/-- From B on what lay lies as it lay. -/
def Above (B : Nat) (W W' : World) : Prop := W.heap.size ≤ W'.heap.size ∧ ∀ k, B ≤ k → k < W.heap.size → W'.heap[k]? = W.heap[k]?
theorem Above.refl (B : Nat) (W : World) : Above B W W := ⟨Nat.le_refl _, fun _ _ _ => rfl⟩
theorem Above.trans {B : Nat} {A C D : World} (h : Above B A C) (k : Above B C D) : Above B A D :=
  ⟨Nat.le_trans h.1 k.1, fun i hi hl => (k.2 i hi (Nat.lt_of_lt_of_le hl h.1)).trans (h.2 i hi hl)⟩
theorem Above.mono {B B' : Nat} {A C : World} (h : Above B A C) (hB : B ≤ B') : Above B' A C := ⟨h.1, fun i hi hl => h.2 i (Nat.le_trans hB hi) hl⟩
theorem Above.of_below {B : Nat} {A C : World} (h : Below A.heap.size A C) : Above B A C := ⟨h.size, fun i _ hl => h.block i hl⟩
theorem Above.setCell {B : Nat} {W : World} {p : Addr} (hp : p.block < B) (v : Value) : Above B W (W.setCell p v) :=
  ⟨by simp [World.setCell], fun k hk _ => Below.heap_setCell W p v k (by omega)⟩
/-- The blocks below c that b tells lie as they lay. -/
def Keep (b : Nat → Prop) (c : Nat) (A C : World) : Prop := ∀ k, b k → k < c → C.heap[k]? = A.heap[k]?
/-- What a round leaves as it lay. -/
def Kept (b : Nat → Prop) (c : Nat) (A C : World) : Prop := Above c A C ∧ Keep b c A C
theorem kept_of {b : Nat} {c : Nat} {A C : World} (h : Above b A C) (hb : b ≤ c) (hc : c ≤ A.heap.size) : Kept (fun k => b ≤ k) c A C := ⟨h.mono hb, fun k h1 h2 => h.2 k h1 (Nat.lt_of_lt_of_le h2 hc)⟩
/-- An iterator's rest behind a round that ended the loop: below B, and from M on, what lay lies as it lay. -/
def Rest (M B : Nat) (A C : World) : Prop := Below B A C ∧ A.heap.size ≤ C.heap.size ∧ ∀ k, M ≤ k → k < A.heap.size → C.heap[k]? = A.heap[k]?
theorem Rest.mono {M B B' : Nat} {A C : World} (h : Rest M B A C) (hB : B' ≤ B) : Rest M B' A C := ⟨h.1.mono hB, h.2⟩
/-- What holds cells lies as it lay. -/
def KeepsCells (W W' : World) : Prop := ∀ (k : Nat) (o : Obj), W.heap[k]? = some o → o.isCells = true → W'.heap[k]? = some o
variable {F : Fence} {P : Program} {α : Type}
/-- What an iterator promises: whatever the loop's invariant J is that stands while what lay below stays, and whatever a round leaves that keeps what the iterator has laid. -/
def Gives (F : Fence) (P : Program) (gf : Nat) (lb : Array Value) (encs : α → Array Value) (Px : Nat → α → World → Prop) (S Sp : List α → Prop) (N : Nat) (b : Nat → Prop) (w : World) : Prop :=
 ∀ (n l : Nat) (J : List α → World → Prop) (Jx : Nat → List α → World → Prop) (W : World), Below w.heap.size w W → (∀ s A C, J s A → Below W.heap.size A C → J s C) → (∀ M s A C, W.heap.size ≤ M → Jx M s A → Rest M W.heap.size A C → Jx M s C) →
  (∀ M m pre x W1, W.heap.size ≤ M → J pre W1 → Px M x W1 → pre.length < N → YieldAt F m P l (encs x) W1 fun e W' =>
   (e = .returned (.bool true) ∧ J (pre ++ [x]) W' ∧ Above W.heap.size W1 W' ∧ Keep b w.heap.size W1 W') ∨ (e = .returned (.bool false) ∧ Jx M (pre ++ [x]) W' ∧ Above W.heap.size W1 W' ∧ Keep b w.heap.size W1 W')) →
  J [] W → CallsIn F n P gf (#[.func (.yield l) #[] #[]] ++ lb) W fun e W' => (∃ v, e = .returned v) ∧ ((∃ xs, S xs ∧ J xs W') ∨ (∃ M pre, W.heap.size ≤ M ∧ Sp pre ∧ Jx M pre W'))
/-- How a round's body may be left. -/
def post (b : Nat → Prop) (B : Nat) (I : List α → World → Prop) (Ix : Code → List α → World → Prop) (xs : List α) (W : World) : Exit → Act → World → Prop
 | .normal, _, W' => Kept b B W W' ∧ I xs W'
 | .ret, _, W' => Kept b B W W' ∧ Ix .ret xs W'
 | .exit id, _, W' => Kept b B W W' ∧ Ix (.exit id) xs W'
 | .goto t, _, W' => Kept b B W W' ∧ Ix (.goto t) xs W'
 | .panic _, _, _ => False
 | .outgrown, _, _ => False
theorem rest_putObj {M B : Nat} {W : World} {l : Nat} {o : Obj} (h : B ≤ l) (hM : l < M) : Rest M B W (W.putObj l o) := ⟨⟨rfl, rfl, rfl, by simp, fun k hk => World.putObj_heap_other (by omega)⟩, by simp, fun k hk _ => World.putObj_heap_other (by omega)⟩
theorem below_putObj {B : Nat} {W : World} {l : Nat} {o : Obj} (h : B ≤ l) : Below B W (W.putObj l o) := ⟨rfl, rfl, rfl, by simp, fun k hk => World.putObj_heap_other (by omega)⟩
/-- The law of the loop. -/
theorem rangeIter {g : Operand} {ps : Array Tmp} {assign body : Code} {Q : Exit → Act → World → Prop} {a : Act} {w : World} {n : Nat}
    (hd : F.depth = none) (hro : F.round = none) {gf : Nat} {lb : Array Value} (hg : a.eval g = .func (.func gf) #[] lb) (hFg : F.fn gf) (eg : ∀ args w, (callFunc gf args).run P w = .ok (.enter gf args) w)
    {encs : α → Array Value} {Px : Nat → α → World → Prop} {S Sp : List α → Prop} {N : Nat} {b : Nat → Prop} (hseq : Gives F P gf lb encs Px S Sp N b w) (hps : ∀ x, (encs x).size = ps.size)
    (hPx : ∀ M x A C, Px M x A → KeepsCells A C → Px M x C)
    (I : List α → World → Prop) (Ix : Code → Nat → List α → World → Prop) (hI : ∀ s A C, I s A → Below w.heap.size A C → I s C) (hIx : ∀ c M s A C, w.heap.size ≤ M → Ix c M s A → Rest M w.heap.size A C → Ix c M s C) (h0 : I [] w) (a₁ : α → Act)
    (hassign : ∀ (m l : Nat) (x : α) (W : World) (K : Act → World → Prop), K (a₁ x) W →
      assign.wpIn (F.inRound l) m P (Exit.then K (fun _ _ _ => False)) { tmps := (ps.zip (encs x)).foldl (fun t (p, v) => t.setIfInBounds p v) a.tmps, defers := [] } W)
    (hbody : ∀ (m l M : Nat) (pre : List α) (x : α) (W : World), w.heap.size ≤ W.heap.size → w.heap.size ≤ M → I pre W → Px M x W → pre.length < N → body.wpIn (F.inRound l) m P (post b w.heap.size I (fun c => Ix c M) (pre ++ [x]) W) (a₁ x) W)
    (hdone : ∀ (D : Nat) (xs : List α) (W : World), w.heap.size ≤ D → S xs → I xs W → W.heap[D]? = some (.deferred (some [])) → Q .normal { a with defers := { target := .collected D, args := #[] } :: a.defers } W)
    (hstop : ∀ (D : Nat) (c : Code) (M : Nat) (pre : List α) (W : World), w.heap.size ≤ D → w.heap.size ≤ M → Sp pre → Ix c M pre W → W.heap[D]? = some (.deferred (some [])) → c.wpIn F n P Q { a with defers := { target := .collected D, args := #[] } :: a.defers } W) :
    (Code.rangeFunc g ps assign body).wpIn F n P Q a w := by
  have hdn : ∀ k : Nat, F.depth.isSome = true → 1 ≤ k := fun k h => by rw [hd] at h; cases h
  refine wpIn_rangeFunc fun fn hfn => ?_
  rw [hro]
  -- the two blocks that the statement lays
  generalize hB : w.heap.size = B at *
  obtain ⟨rec, hrec⟩ : ∃ rec : LoopState → Option Code → Loop, rec = fun st pe => { state := st, pending := pe, fn, tmps := a.tmps, params := ps, assign, body, defers := B } := ⟨_, rfl⟩
  obtain ⟨V, hV⟩ : ∃ V, (w.alloc (.deferred (some []))).alloc (.loop (rec .ready none)) = V := ⟨_, rfl⟩
  have hVs : V.heap.size = B + 2 := by rw [← hV, World.size_alloc, World.size_alloc, hB]
  have hVl : V.heap[B + 1]? = some (.loop (rec .ready none)) := by
    rw [← hV, ← hB]
    have := World.alloc_heap_new (w.alloc (.deferred (some []))) (.loop (rec .ready none))
    rwa [World.size_alloc] at this
  have hVk : V.heap[B]? = some (.deferred (some [])) := by
    rw [← hV, ← hB, Below.heap_alloc _ _ _ (by simp)]
    exact World.alloc_heap_new w _
  have hbV : Below B w V := by
    rw [← hV, ← hB]
    exact ((Below.refl _ w).alloc (Nat.le_refl _) _).alloc (by simp) _
  have henter := run_enterLoop_outer (P := P) (w := w) fn a.tmps ps assign body
  rw [hB] at henter
  have hrr : (Loop.mk .ready none fn a.tmps ps assign body B) = rec .ready none := by rw [hrec]
  refine ⟨B + 1, [{ target := .collected B, args := #[] }], V, { target := .fn (.func gf) lb, args := #[.func (.yield (B + 1)) #[] #[]] }, V, gf, #[.func (.yield (B + 1)) #[] #[]] ++ lb, V, ?_, ?_, ?_, ?_, hdn n, ?_⟩
  · rw [← hV, hrec]; exact henter
  · simp only [resolve, hg]
    simp [go_sem]
  · intro f' hf'
    simp [Target.leads] at hf'
    subst hf'
    exact hFg
  · simp [invoke, go_sem, eg]
  · -- the book-keeping between two rounds
    have rest : ∀ (jump : Option Code) (W W3 : World), W.heap[B + 1]? = some (.loop (rec .ready none)) → W.heap[B]? = some (.deferred (some [])) → Above B (W.putObj (B + 1) (.loop (rec .busy none))) W3 →
        (Instr.endRound (B + 1) jump).run P W3 = .ok (.bool jump.isNone) (W3.putObj (B + 1) (.loop (rec (if jump.isNone then .ready else .done) jump))) ∧
        (W3.putObj (B + 1) (.loop (rec (if jump.isNone then .ready else .done) jump))).heap[B + 1]? = some (.loop (rec (if jump.isNone then .ready else .done) jump)) ∧
        (W3.putObj (B + 1) (.loop (rec (if jump.isNone then .ready else .done) jump))).heap[B]? = some (.deferred (some [])) ∧
        Above (B + 2) W (W3.putObj (B + 1) (.loop (rec (if jump.isNone then .ready else .done) jump))) := by
      intro jump W W3 hl hk hab
      have hlt : B + 1 < W.heap.size := (Array.getElem?_eq_some_iff.1 hl).1
      have hl3 : W3.heap[B + 1]? = some (.loop (rec .busy none)) := by
        rw [hab.2 (B + 1) (by omega) (by simpa using hlt)]
        exact World.putObj_heap_same hlt
      have hk3 : W3.heap[B]? = some (.deferred (some [])) := by
        rw [hab.2 B (Nat.le_refl _) (by simp; omega), World.putObj_heap_other (by omega)]
        exact hk
      have hend := run_endRound (P := P) jump hl3
      refine ⟨by rw [hend, hrec], World.putObj_heap_same (Array.getElem?_eq_some_iff.1 hl3).1, (World.putObj_heap_other (by omega)).trans hk3, ?_, fun k hk2 hkl => ?_⟩
      · have := hab.1
        simpa using this
      · rw [World.putObj_heap_other (by omega), hab.2 k (by omega) (by simpa using hkl), World.putObj_heap_other (by omega)]
    refine (hseq (n - 1) (B + 1)
      (fun pre W => I pre W ∧ W.heap[B + 1]? = some (.loop (rec .ready none)) ∧ W.heap[B]? = some (.deferred (some [])))
      (fun M pre W => ∃ c, Ix c M pre W ∧ W.heap[B + 1]? = some (.loop (rec .done (some c))) ∧ W.heap[B]? = some (.deferred (some [])))
      V (by rw [hB]; exact hbV) ?_ ?_ ?_ ⟨hI [] w V h0 hbV, hVl, hVk⟩).mono ?_
    · rintro s A C ⟨h1, h2, h3⟩ hb
      rw [hVs] at hb
      exact ⟨hI s A C h1 (hb.mono (by omega)), (hb.block _ (by omega)).trans h2, (hb.block _ (by omega)).trans h3⟩
    · rintro M s A C hM ⟨c, h1, h2, h3⟩ hb
      rw [hVs] at hb hM
      exact ⟨c, hIx c M s A C (by omega) h1 (hb.mono (by omega)), (hb.1.block _ (by omega)).trans h2, (hb.1.block _ (by omega)).trans h3⟩
    · -- one round
      rintro M m pre x W hM ⟨hi, hl, hk⟩ hpx hlen
      rw [hVs] at hM ⊢
      have hlt : B + 1 < W.heap.size := (Array.getElem?_eq_some_iff.1 hl).1
      have hy := run_yield (P := P) (args := encs x) hl (by rw [hrec]; exact hps x)
      have hbr := run_beginRound (P := P) hl (by rw [hrec])
      have hbusy : ({ rec .ready none with state := .busy } : Loop) = rec .busy none := by rw [hrec]
      rw [hbusy] at hbr
      rw [hrec] at hy
      refine ⟨fn, _, assign, body, hy, roundIn_of_wpIn hfn (hassign _ _ x W _ ⟨_, hbr, ?_⟩)⟩
      have hbi : Below B W (W.putObj (B + 1) (.loop (rec .busy none))) := below_putObj (by omega)
      have hpx2 : Px M x (W.putObj (B + 1) (.loop (rec .busy none))) := hPx M x W _ hpx (fun k o hk ho => by
        rw [World.putObj_heap_other ?_]
        · exact hk
        · rintro rfl
          rw [hl] at hk
          cases hk
          cases ho)
      refine wpIn_mono (hbody _ _ M pre x _ (by simp; omega) (by omega) (hI pre W _ hi hbi) hpx2 hlen) ?_
      rintro e a3 W3 hp
      cases e with
      | normal =>
        obtain ⟨hab, hi3⟩ := hp
        obtain ⟨hr, h1, h2, h3⟩ := rest none W W3 hl hk hab.1
        exact ⟨_, _, hr, .inl ⟨rfl, ⟨hI _ W3 _ hi3 (below_putObj (by omega)), h1, h2⟩, h3, fun k hk1 hk2 => by rw [World.putObj_heap_other (by omega), hab.2 k hk1 (by omega), World.putObj_heap_other (by omega)]⟩⟩
      | ret =>
        obtain ⟨hab, hi3⟩ := hp
        obtain ⟨hr, h1, h2, h3⟩ := rest (some .ret) W W3 hl hk hab.1
        exact ⟨_, _, hr, .inr ⟨rfl, ⟨.ret, hIx _ M _ W3 _ (by omega) hi3 (rest_putObj (by omega) (by omega)), h1, h2⟩, h3, fun k hk1 hk2 => by rw [World.putObj_heap_other (by omega), hab.2 k hk1 (by omega), World.putObj_heap_other (by omega)]⟩⟩
      | exit id =>
        obtain ⟨hab, hi3⟩ := hp
        obtain ⟨hr, h1, h2, h3⟩ := rest (some (.exit id)) W W3 hl hk hab.1
        exact ⟨_, _, hr, .inr ⟨rfl, ⟨.exit id, hIx _ M _ W3 _ (by omega) hi3 (rest_putObj (by omega) (by omega)), h1, h2⟩, h3, fun k hk1 hk2 => by rw [World.putObj_heap_other (by omega), hab.2 k hk1 (by omega), World.putObj_heap_other (by omega)]⟩⟩
      | goto t =>
        obtain ⟨hab, hi3⟩ := hp
        obtain ⟨hr, h1, h2, h3⟩ := rest (some (.goto t)) W W3 hl hk hab.1
        exact ⟨_, _, hr, .inr ⟨rfl, ⟨.goto t, hIx _ M _ W3 _ (by omega) hi3 (rest_putObj (by omega) (by omega)), h1, h2⟩, h3, fun k hk1 hk2 => by rw [World.putObj_heap_other (by omega), hab.2 k hk1 (by omega), World.putObj_heap_other (by omega)]⟩⟩
      | panic ch => exact hp.elim
      | outgrown => exact hp.elim
    · -- behind the iterator
      rintro e W2 ⟨⟨v, rfl⟩, (⟨xs, hS, hi, hl, hk⟩ | ⟨M, pre, hM, hSp, c, hi, hl, hk⟩)⟩
      · have hend := run_endLoop (P := P) hl (by rw [hrec]; simp)
        refine ⟨none, _, by rw [hend, hrec], hdone B xs _ (Nat.le_refl _) hS (hI xs W2 _ hi (below_putObj (by omega))) ((World.putObj_heap_other (by omega)).trans hk)⟩
      · have hend := run_endLoop (P := P) hl (by rw [hrec]; simp)
        refine ⟨some c, _, by rw [hend, hrec], hstop B c M pre _ (Nat.le_refl _) (by omega) hSp (hIx c M pre W2 _ (by omega) hi (rest_putObj (by omega) (by omega))) ((World.putObj_heap_other (by omega)).trans hk)⟩
end Go.Proofs.Ytiknnpfdpecfdaa.Rf
