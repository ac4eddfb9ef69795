/- The declarations of Bc that the claim Qc needs. -/
import Derived.Test.YtdpolfflemocaaaQcT6
import Derived.Test.YtdpolfflemocaaaQcT1
import Derived.Test.YtdpolfflemocaaaQcRcl
import Derived.Test.YtdpolfflemocaaaQcT3
namespace Go.Proofs.Ytdpolfflemocaaa.Bk
open Go Go.RowKit Go.Shelf Go.Proofs Go.Proofs.Ytdpolfflemocaaa.Own Go.Proofs.Ytdpolfflemocaaa.Rg Go.Proofs.YtdpolfflemocaaaW.PrintWords Go.Proofs.YtdpolfflemocaaaW.PrintLast Go.Proofs.YtdpolfflemocaaaW.PrintMore
set_option linter.unusedVariables false
set_option linter.unusedSimpArgs false
/-- The least number from 0 on that is none of some. -/
def free (cs : List Int) : Nat := ((List.range 33).find? (fun (c : Nat) => !cs.contains (c : Int))).getD 0
theorem pigI : ∀ (s l : List Int), s.Nodup → (∀ x ∈ s, x ∈ l) → s.length ≤ l.length
 | [], _, _, _ => Nat.zero_le _
 | a :: s, l, hn, h => by
  have ha := h a List.mem_cons_self
  have hs := pigI s (l.erase a) (List.nodup_cons.1 hn).2 (fun x hx => (List.mem_erase_of_ne (by rintro rfl; exact (List.nodup_cons.1 hn).1 hx)).2 (h x (List.mem_cons_of_mem _ hx)))
  rw [List.length_erase_of_mem ha] at hs
  have := List.length_pos_of_mem ha
  simp only [List.length_cons]
  omega
theorem free_spec (cs : List Int) (h : cs.length ≤ 32) : free cs < 33 ∧ (free cs : Int) ∉ cs ∧ ∀ j, j < free cs → (j : Int) ∈ cs := by
 unfold free
 cases hf : (List.range 33).find? (fun (c : Nat) => !cs.contains (c : Int)) with
 | none =>
  exfalso
  rw [List.find?_eq_none] at hf
  have hl := pigI ((List.range 33).map fun (i : Nat) => (i : Int)) cs
   (List.Pairwise.map _ (fun a b e => by intro h; exact e (by omega)) List.nodup_range)
   (fun x hx => by
    obtain ⟨i, hi, rfl⟩ := List.mem_map.1 hx
    simpa using hf i hi)
  simp at hl
  omega
 | some c =>
  have h1 := List.find?_some hf
  have h2 := List.mem_of_find?_eq_some hf
  refine ⟨by simpa using h2, by simpa using h1, fun j hj => ?_⟩
  simp only [Option.getD_some] at hj
  obtain ⟨i, hi, e, hp⟩ := (List.find?_eq_some_iff_getElem.1 hf).2
  have hc : c = i := by simpa using e.symm
  subst hc
  have := hp j (by omega)
  simpa using this
/-- One node is coloured. -/
def step (g out : List Int) (i : Int) : List Int := out.set i.toNat (free ((nodes (rd g i)).map fun j => out[j.toNat]!) : Int)
theorem step_len (g out : List Int) (i : Int) : (step g out i).length = out.length := by simp [step]
def colAll (g order : List Int) (n : Nat) : List Int := order.reverse.foldl (step g) (List.replicate n (-1))
structure OkC (g order : List Int) (n : Int) : Prop where
  n1 : 1 ≤ n
  n2 : n < 13
  lo : ∀ i ∈ order, 0 ≤ i ∧ i < n
  lg : (g.length : Int) = n
  le : (order.length : Int) = n
  nb : ∀ i ∈ order, ∀ j ∈ nodes (rd g i), 0 ≤ j ∧ j < n
open Classical in
noncomputable def rib_Colors.f (k : Nat) (a0 : Int) (l1 : List S52) : Option (List Int × Int) :=
  (rib_chordal.f k a0 l1).bind fun b => if b.2.2 = 0 then (if OkC b.1 b.2.1 a0 then some (colAll b.1 b.2.1 a0.toNat, 0) else none) else some ([], b.2.2)
theorem pre_len (g order : List Int) (n : Nat) : ∀ (pre : List (Fin order.length)) (out : List Int), out.length = n → (pre.foldl (fun out x => step g out (order[x.val])) out).length = n
  | [], out, h => h
  | x :: pre, out, h => pre_len g order n pre _ (by rw [step_len]; exact h)
def upC (g order : List Int) (n : Nat) (pre : List (Fin order.length)) : List Int := pre.foldl (fun out x => step g out (order[x.val])) (List.replicate n (-1))
theorem upC_len (g order : List Int) (n : Nat) (pre : List (Fin order.length)) : (upC g order n pre).length = n := pre_len g order n pre _ (by simp)
theorem upC_snoc (g order : List Int) (n : Nat) (pre : List (Fin order.length)) (x : Fin order.length) : upC g order n (pre ++ [x]) = step g (upC g order n pre) (order[x.val]) := by simp [upC]
theorem upC_all (g order : List Int) (n : Nat) : upC g order n (List.finRange order.length).reverse = colAll g order n := by
 unfold upC colAll
 have e : (List.finRange order.length).map (fun x => order[x.val]) = order := by
  apply List.ext_getElem
  ·simp
  ·intro i h1 h2
   simp at h1
   simp [h1]
 conv => rhs; rw [← e]
 rw [← List.map_reverse, List.foldl_map]
theorem row_all {W : World} {base : Nat} {ok : Nat → Prop} {ro rc : Nat} {out : List Int} (h : Kd.R (Kd.int .i64) 3 W base ok (.slice (some ⟨ro, 0, none⟩) out.length rc) out) : ∀ j, j < out.length → W.cell? ⟨ro, j, none⟩ = some (.int .i64 out[j]!) := by
 intro j hj
 have h1 := (Kd.R_cell (enc := Value.int .i64) 0 h (j : Int) (by omega) (by omega)).1
 rw [Int.toNat_natCast] at h1
 rw [h1]
 simp [rdOf, hj]
theorem back_stops (n : Nat) (hn : 1 ≤ n) (B b off cap : Nat) (zs : List Int) (hlen : zs.length < 2 ^ 40) (w : World) (hB : B < w.heap.size) (hb : b < w.heap.size) (hc : w.cell? ⟨B, 0, none⟩ = some (.slice (some ⟨b, off, none⟩) zs.length cap))
  (hz : ∀ j, j < zs.length → w.cell? ⟨b, off + j, none⟩ = some (.int .i64 (zs[j]?.getD 0))) :
  SeqStopsK Fence.wide n Try.prog 96 #[.pointer (some ⟨B, 0, none⟩)] (fun x : Fin zs.length => #[.int .i64 (x.val : Int), .int .i64 zs[x.val]]) (KeepAt [B, b]) (fun ys => ys = (List.finRange zs.length).reverse) (fun _ => True) zs.length w :=
 fun l J Jx W hW hJ hJx hY h0 => by
  refine back1_in Fence.wide n trivial rfl hn l B b off zs.length cap zs hlen J Jx (fun pre x W hj hl => ?_) W ((hW.cell (p := ⟨B, 0, none⟩) hB).trans hc) (fun j hj => (hW.cell (p := ⟨b, off + j, none⟩) hb).trans (hz j hj)) h0
  have e : zs[x.val]?.getD 0 = zs[x.val] := by simp
  rw [e]
  exact hY pre x W hj hl
attribute [local go_sem] Oper.semAt_some
set_option maxRecDepth 100000 in
set_option maxHeartbeats 4000000 in
theorem rib_Colors.calls (k : Nat) (a0 : Int) (A1 : Option Addr) (c1 : Nat) (l1 : List S52) (r1 : List Int) (r2 : Int) (w : World) (hr1 : Kd.C k52 w A1 l1.length l1) (hc1 : l1.length ≤ c1) (h : rib_Colors.f k a0 l1 = some (r1, r2)) :
    Calls Try.prog 33 #[.int .i64 a0, .slice A1 l1.length c1] w fun e w' => ∃ v0_ : Value, e = .returned (.tuple #[v0_, .int .i64 r2]) ∧ Kd.R (Kd.int .i64) 3 w' w.heap.size (fun _ => True) v0_ r1 ∧ Below w.heap.size w w' := by
  unfold rib_Colors.f at h
  replace h := Option.bind_eq_some_iff.mp h
  obtain ⟨⟨g, order, er⟩, hch, h⟩ := h
  dsimp only at h
  have hcc := rib_chordal.calls k a0 A1 c1 l1 g order er w hr1 hc1 hch
  have HB := Aside0.mk (Below.refl w.heap.size w)
  refine (callsIn_wide (n := 9)).1 ?_
  by_cases he : er = 0
  · rw [if_pos he] at h
    subst he
    by_cases hok : OkC g order a0
    · rw [if_pos hok] at h
      simp only [Option.some.injEq, Prod.mk.injEq] at h
      obtain ⟨rfl, rfl⟩ := h
      have OK := Aside0.mk hok
      clear hok hr1 hc1 hch
      refine callsIn_of_wp_marks Try.func33 rfl trivial ?_ rfl
      simp only [Try.ntmps33, List.size_toArray, List.length_cons, List.length_nil, Nat.reduceAdd, Nat.reduceSub, Array.replicate_succ, Array.replicate_zero, List.push_toArray, List.append_toArray, List.nil_append, List.cons_append]
      have hn1 := OK.out.n1
      have hn2 := OK.out.n2
      have hrep := fun (b : Nat) (W : World) hc => (callsIn_wide (n := 8)).2 (rep72 b (-1) a0.toNat (by omega) (by omega) W hc)
      rw [Int.toNat_of_nonneg (by omega)] at hrep
      have HREP := Aside0.mk hrep
      clear hrep hn1 hn2
      gi_wp2_with (first
        | (refine ⟨trivial, ?_⟩; gi_at_call 71; refine (callsIn_wide.2 hcc).mono ?_; rintro e w1 ⟨v0, v1, rfl, hg, ho, hb1⟩;
           obtain ⟨gg, gc, rfl, hgb, hgl, hgx⟩ := Kd.R_form hg (by have := OK.out.lg; have := OK.out.n1; omega); obtain ⟨oo, oc, rfl, hob, hol, hox⟩ := Kd.R_form ho (by have := OK.out.le; have := OK.out.n1; omega);
           have HG := Aside0.mk hg; have HO := Aside0.mk ho; have B1 := Aside0.mk hb1; have GL := Aside0.mk hgl; have OL := Aside0.mk hol; clear hg ho hb1 hcc hgx hox hgb hob hgl hol)
        | (refine ⟨trivial, ?_⟩; gi_at_call 72; go_must (refine (HREP.out _ _ ?hc).mono ?_; (case hc => simp); rintro e w3 ⟨v3, rfl, hr3, hb3⟩; obtain ⟨ro, rc, rfl, hrb, hrl, hrx⟩ := Kd.R_form hr3 (by have := OK.out.n1; rw [List.length_replicate]; omega); rw [List.length_replicate]; have HR3 := Aside0.mk hr3; have B3 := Aside0.mk hb3; have RB := Aside0.mk hrb; have RL := Aside0.mk hrl; clear hr3 hb3 hrb hrl hrx))
        | (refine ⟨trivial, ?_⟩; gi_at_call 73; go_must (refine (back_in _ _ trivial rfl _ _ _ _).mono ?_; rintro e w5 ⟨rfl, hw5⟩)))
      -- what lies at the loop
      rw [← hw5]
      have hn1 := OK.out.n1
      have hn2 := OK.out.n2
      have hlo := OK.out.lo
      have hlg := OK.out.lg
      have hle := OK.out.le
      have hnb := OK.out.nb
      obtain ⟨N, hN⟩ : ∃ N : Nat, N = a0.toNat := ⟨_, rfl⟩
      have hgl := GL.out
      have hol := OL.out
      have hrb := RB.out
      have hrl := RL.out
      simp only [World.size_alloc] at hrb
      have hb3 := B3.out
      have hsz3 : w1.heap.size + 1 + 1 ≤ w3.heap.size := by have := hb3.size; simpa using this
      have hb13 : Below w1.heap.size w1 w3 := below_step (W := (w1.alloc (.cells #[.slice (some ⟨gg, 0, none⟩) g.length gc] 76)).alloc (.cells #[.int .i64 (-1)] 3)) (below_alloc (below_alloc (Below.refl _ _) _) _) hb3
      have hb15 : Below w1.heap.size w1 w5 := by subst hw5; exact below_alloc (below_alloc hb13 _) _
      have hs5 : w5.heap.size = w3.heap.size + 1 + 1 := by subst hw5; simp
      have hb35 : Below w3.heap.size w3 w5 := by subst hw5; exact below_alloc (below_alloc (Below.refl _ _) _) _
      have F6 : w5.cell? ⟨w1.heap.size, 0, none⟩ = some (.slice (some ⟨gg, 0, none⟩) g.length gc) := by
        rw [hb35.cell (p := ⟨w1.heap.size, 0, none⟩) (by show w1.heap.size < _; omega), hb3.cell (p := ⟨w1.heap.size, 0, none⟩) (by show w1.heap.size < _; simp; omega)]
        simp
      have F9 : w5.cell? ⟨w3.heap.size, 0, none⟩ = some (.slice (some ⟨ro, 0, none⟩) N rc) := by subst hw5; rw [hN]; simp
      have FB : w5.cell? ⟨w3.heap.size + 1, 0, none⟩ = some (.slice (some ⟨oo, 0, none⟩) order.length oc) := by subst hw5; simp
      have HO5 := Kd.R_below HO.out hb15
      have HG5 := Kd.R_below HG.out hb15
      have R5 : Kd.R (Kd.int .i64) 3 w5 w.heap.size (fun k => k = ro) (.slice (some ⟨ro, 0, none⟩) (List.replicate N (-1 : Int)).length rc) (List.replicate N (-1)) := by
        have h3 := Kd.R_below HR3.out hb35
        rw [← hN] at h3
        simp only [World.size_alloc] at h3
        exact Kd.R_of_own (Kd.own_of_R (Kd.R_lower h3 (by have := B1.out.size; omega))) (fun k hk => by simpa [Value.ownBlock] using hk.symm)
      have hB5 : Below w.heap.size w w5 := below_step B1.out hb15
      clear hw5 HR3 B3 RB RL HREP
      refine wpIn_rangeFunc_ownF rfl (by decide) (gf := 96) (lb := #[.pointer (some ⟨w3.heap.size + 1, 0, none⟩)]) rfl trivial (enters_of Try.func96 (by kernel_rfl) rfl)
        (back_stops 8 (by decide) (w3.heap.size + 1) oo 0 oc order (by omega) w5 (by omega) (by omega) FB ?rowO) (fun h k => KeepAt.trans h k) (KeepAt.putObj (by intro k hk; simp at hk; omega)) (Below.refl _ _) (fun _ => rfl)
        (fun pre W => Kd.R (Kd.int .i64) 3 W w.heap.size (fun k => k = ro) (.slice (some ⟨ro, 0, none⟩) (upC g order N pre).length rc) (upC g order N pre) ∧ KeepAt [w1.heap.size, gg, w3.heap.size] w5 W ∧ w5.heap.size ≤ W.heap.size ∧ Below w.heap.size w W)
        (fun _ _ _ => False) ?hI (fun _ _ _ _ _ hs _ _ => hs) ⟨R5, KeepAt.refl _ _, Nat.le_refl _, hB5⟩
        (fun x => { tmps :=
          #[Value.int IntKind.i64 a0, Value.slice A1 l1.length c1, undef, undef, Value.slice none 0 0,
            Value.int IntKind.i64 0, Value.pointer (some ⟨w1.heap.size, 0, none⟩),
            Value.slice (some ⟨oo, 0, none⟩) order.length oc, Value.int IntKind.i64 0,
            Value.pointer (some ⟨w3.heap.size, 0, none⟩), undef, Value.int IntKind.i64 order[x.val], undef,
            Value.tuple #[Value.slice (some ⟨gg, 0, none⟩) g.length gc, Value.slice (some ⟨oo, 0, none⟩) order.length oc, Value.int IntKind.i64 0],
            Value.int IntKind.i64 a0, Value.slice A1 l1.length c1,
            Value.tuple #[Value.slice (some ⟨gg, 0, none⟩) g.length gc, Value.slice (some ⟨oo, 0, none⟩) order.length oc, Value.int IntKind.i64 0],
            Value.slice (some ⟨gg, 0, none⟩) g.length gc, Value.slice (some ⟨oo, 0, none⟩) order.length oc, Value.int IntKind.i64 0,
            Value.int IntKind.i64 0, Value.bool false, undef,
            Value.slice (some ⟨w1.heap.size + 1, 0, none⟩) 1 1, Value.int IntKind.i64 a0,
            Value.slice (some ⟨ro, 0, none⟩) a0.toNat rc, Value.slice (some ⟨oo, 0, none⟩) order.length oc,
            Value.func (Fn.func 96) #[] #[Value.pointer (some ⟨w3.heap.size + 1, 0, none⟩)],
            Value.int IntKind.i64 (x.val : Int), Value.int IntKind.i64 order[x.val], undef, undef, undef, undef, undef, undef, undef,
            undef, undef, undef, undef, undef, undef, undef], defers := [] }) ?assign ?body ?done ?stop
      case rowO =>
        intro j hj
        rw [Nat.zero_add]
        have h1 := row_all HO5 j hj
        rw [h1]
        simp [hj]
      case hI =>
        rintro pre W W' row ⟨HR, HKA, hsz, HBW⟩ hg hr
        refine ⟨Kd.R_grown HR hg (fun k hk e => ?_), HKA.grown (fun k hk => ?_) hg (fun r e hm => ?_), Nat.le_trans hsz hg.size, HBW.grown hg HBW.size (fun k e => ?_)⟩
        · have := (hr k e.symm).1
          omega
        · simp at hk
          omega
        · have := (hr r e).1
          simp at hm
          omega
        · have := (hr k e).1
          have := hB5.size
          omega
      case assign =>
        intro l x W K hK
        gi_wp2
        exact hK
      case body =>
        rintro l pre x W ⟨HR, HKA, hsz, HBW⟩ hlen
        obtain ⟨i, hi⟩ : ∃ i, order[x.val] = i := ⟨_, rfl⟩
        have him : i ∈ order := hi ▸ List.getElem_mem _
        obtain ⟨hi0, hi1⟩ := hlo i him
        have hnbi := hnb i him
        have hus := upC_snoc g order N pre x
        have hul := upC_len g order N pre
        rw [hi] at hus
        dsimp only
        rw [hi]
        obtain ⟨out, hout⟩ : ∃ out, upC g order N pre = out := ⟨_, rfl⟩
        rw [hout] at hul HR hus
        obtain ⟨cs, hcs⟩ : ∃ cs, cs = ((nodes (rd g i)).map fun j => out[j.toNat]!) := ⟨_, rfl⟩
        have hcl : cs.length ≤ 32 := by rw [hcs, List.length_map]; exact nodesFrom_len _ _
        obtain ⟨hf1, hf2, hf3⟩ := free_spec cs hcl
        have hstep : step g out i = out.set i.toNat (free cs : Int) := by rw [hcs]; rfl
        have W6 := (HKA.cell (b := w1.heap.size) (o := 0) (by simp)).trans F6
        have W9 := (HKA.cell (b := w3.heap.size) (o := 0) (by simp)).trans F9
        have WG := fun j => (HKA.cell (b := gg) (o := j) (by simp))
        gi_wp2
        have hlW : ∀ p : Addr, p.block < W.heap.size → ∀ (wr : World), Below W.heap.size W wr → wr.cell? p = W.cell? p := fun p hp wr hb => hb.cell hp
        gi_loopw [] (fun wr => ∃ c : Nat, c ≤ free cs ∧ wr.cell? ⟨W.heap.size, 0, none⟩ = some (.int .i64 (c : Int)) ∧ wr.frozen? ⟨W.heap.size, 0, none⟩ = false ∧ Aside0 (Below W.heap.size W wr)) (fun wr => match wr.cell? ⟨W.heap.size, 0, none⟩ with | some (.int _ c) => 33 - c.toNat | _ => 0)
        case atStart =>
          exact ⟨0, Nat.zero_le _, by simp, by first | rfl | simp, ⟨below_alloc (Below.refl _ _) _⟩⟩
        case round =>
          obtain ⟨c, hcf, hC, hF, HBr⟩ := hrel
          have h9W : (⟨w3.heap.size, 0, none⟩ : Addr).block < W.heap.size := by show w3.heap.size < _; omega
          have hroW : ro < W.heap.size := by omega
          have V6 : wr.cell? ⟨w1.heap.size, 0, none⟩ = some (.slice (some ⟨gg, 0, none⟩) g.length gc) := by rw [hlW _ (by show w1.heap.size < _; omega) _ HBr.out]; exact W6
          have VG : wr.cell? ⟨gg, i.toNat, none⟩ = some (.int .u32 (rd g i)) := by
            rw [hlW _ (by show gg < _; omega) _ HBr.out, WG]
            exact (Kd.R_cell (enc := Value.int .u32) 0 HG5 i hi0 (by omega)).1
          have hCl : W.heap.size < wr.heap.size := World.block_lt_of_cell? wr ⟨W.heap.size, 0, none⟩ hC
          obtain ⟨HRc, HRf⟩ := Kd.R_cell (enc := Value.int .i64) 0 HR i hi0 (by omega)
          have HNS : Aside0 (∀ j ∈ nodes (rd g i), 0 ≤ j ∧ j < out.length) := ⟨fun j hj => by have := hnbi j hj; omega⟩
          have hi2 : i < (g.length : Int) := by omega
          by_cases hm : (c : Int) ∈ cs
          · have HANY : Aside0 (decide ((c : Int) ∈ (nodes (rd g i)).map fun j => out[j.toNat]!) = true) := ⟨by rw [← hcs]; exact decide_eq_true hm⟩
            gi_wp2_with (first
              | (refine ⟨trivial, ?_⟩; gi_at_call 74; go_must (refine (CallsIn.inRound l (callsIn_wide.2 (rib_set_list.calls 33 (rd g i) _ _ (list_f _ 33 (by decide))))).mono ?_; rintro e w6 ⟨v6, rfl, hr6, hb6⟩; obtain ⟨A6, c6, rfl, hc6, hz6⟩ := Kd.R_reads hr6; have hC6 := (hb6.cell (p := ⟨W.heap.size, 0, none⟩) hCl).trans hC; have hF6 := (hb6.frozen (p := ⟨W.heap.size, 0, none⟩) hCl).trans hF; have hb06 := below_step HBr.out hb6; have h96 := (hlW _ h9W _ hb06).trans W9; have hr6c := (hlW ⟨ro, i.toNat, none⟩ hroW _ hb06).trans HRc; have hr6f := (hb06.frozen (p := ⟨ro, i.toNat, none⟩) hroW).trans HRf; have HB6 := Aside0.mk hb06; have HZ6 := Aside0.mk hz6; clear hr6 hz6 hc6; clear hb6 hb06))
              | (refine ⟨trivial, ?_⟩; gi_at_call 68; go_must (refine (CallsIn.inRound l (callsIn_wide.2 (colAny out c rc ro w3.heap.size W.heap.size (nodes (rd g i)) A6 c6 _ ?h1 HZ6.out ?h2 ?h3 ?h4 ?h5 ?h6 ?h7 ?h8))).mono ?_; (case h1 => exact HNS.out); (case h2 => rw [hlW _ h9W _ HB6.out, W9, hul]); (case h3 => assumption); (case h4 => intro j hj; rw [hlW ⟨ro, j, none⟩ hroW _ HB6.out]; exact row_all HR j hj); (case h5 => have := HB6.out.size; omega); (case h6 => have := HB6.out.size; have := World.block_lt_of_cell? _ ⟨W.heap.size, 0, none⟩ hC6; omega); (case h7 => have := HB6.out.size; omega); (case h8 => omega); rintro e w7 ⟨rfl, q, rfl⟩; rw [HANY.out])))
            have e1 := World.cell?_setCell_same' (w6.drewN q) ⟨W.heap.size, 0, none⟩ (.int .i64 ((c : Int) + 1)) (by show (w6.cell? _).isSome = true; rw [hC6]; rfl)
            refine ⟨⟨c + 1, by have : c ≠ free cs := (fun e => hf2 (e ▸ hm)); omega, by rw [e1]; simp, by rw [World.frozen?_setCell]; exact hF6, ⟨(pw_below_drewN HB6.out q).setCell (p := ⟨W.heap.size, 0, none⟩) (Nat.le_refl _) _⟩⟩, ?_⟩
            rw [e1, hC]
            show 33 - ((c : Int) + 1).toNat < 33 - (c : Int).toNat
            omega
          · have HANY : Aside0 (decide ((c : Int) ∈ (nodes (rd g i)).map fun j => out[j.toNat]!) = false) := ⟨by rw [← hcs]; exact decide_eq_false hm⟩
            gi_wp2_with (first
              | (refine ⟨trivial, ?_⟩; gi_at_call 74; go_must (refine (CallsIn.inRound l (callsIn_wide.2 (rib_set_list.calls 33 (rd g i) _ _ (list_f _ 33 (by decide))))).mono ?_; rintro e w6 ⟨v6, rfl, hr6, hb6⟩; obtain ⟨A6, c6, rfl, hc6, hz6⟩ := Kd.R_reads hr6; have hC6 := (hb6.cell (p := ⟨W.heap.size, 0, none⟩) hCl).trans hC; have hF6 := (hb6.frozen (p := ⟨W.heap.size, 0, none⟩) hCl).trans hF; have hb06 := below_step HBr.out hb6; have h96 := (hlW _ h9W _ hb06).trans W9; have hr6c := (hlW ⟨ro, i.toNat, none⟩ hroW _ hb06).trans HRc; have hr6f := (hb06.frozen (p := ⟨ro, i.toNat, none⟩) hroW).trans HRf; have HB6 := Aside0.mk hb06; have HZ6 := Aside0.mk hz6; clear hr6 hz6 hc6; clear hb6 hb06))
              | (refine ⟨trivial, ?_⟩; gi_at_call 68; go_must (refine (CallsIn.inRound l (callsIn_wide.2 (colAny out c rc ro w3.heap.size W.heap.size (nodes (rd g i)) A6 c6 _ ?h1 HZ6.out ?h2 ?h3 ?h4 ?h5 ?h6 ?h7 ?h8))).mono ?_; (case h1 => exact HNS.out); (case h2 => rw [hlW _ h9W _ HB6.out, W9, hul]); (case h3 => assumption); (case h4 => intro j hj; rw [hlW ⟨ro, j, none⟩ hroW _ HB6.out]; exact row_all HR j hj); (case h5 => have := HB6.out.size; omega); (case h6 => have := HB6.out.size; have := World.block_lt_of_cell? _ ⟨W.heap.size, 0, none⟩ hC6; omega); (case h7 => have := HB6.out.size; omega); (case h8 => omega); rintro e w7 ⟨rfl, q, rfl⟩; rw [HANY.out])))
            have hcfr : c = free cs := by
              rcases Nat.lt_or_ge c (free cs) with h | h
              · exact absurd (hf3 c h) hm
              · omega
            have hbq := pw_below_drewN HB6.out q
            refine ⟨(KeepsOthers.of_below hbq).trans (KeepsOthers.setCell _ _ _), fun k hk => (Below.heap_setCell _ _ _ k ?_).trans (hbq.block k ?_), ?_, fun k hk => (Below.heap_setCell _ _ _ k ?_).trans ((hbq.block k ?_).trans (HKA k hk)), ?_, ?_⟩
            · show k ≠ ro
              simp at hk
              omega
            · simp at hk
              omega
            · have hR6 : Kd.R (Kd.int .i64) 3 (w6.drewN q) w.heap.size (fun k => k = ro) (.slice (some ⟨ro, 0, none⟩) out.length rc) out := Kd.R_step HR (fun k _ hk => hbq.block k hk)
              have hput := (Kd.R_put (enc := Value.int .i64) hR6 i ((c : Nat) : Int)).1
              rw [hus, step_len, hstep, ← hcfr]
              exact hput
            · show k ≠ ro
              simp at hk
              omega
            · simp at hk
              omega
            · have := hbq.size
              simp at this ⊢
              omega
            · exact (below_step HBW hbq).setCell (p := ⟨ro, i.toNat, none⟩) (by show w.heap.size ≤ ro; have := B1.out.size; omega) _
      case done =>
        rintro D ys W hD rfl ⟨HR, HKA, hsz, HBW⟩ hK
        have W9 := (HKA.cell (b := w3.heap.size) (o := 0) (by simp)).trans F9
        rw [upC_all] at HR
        have hal : (colAll g order N).length = N := by rw [← upC_all]; exact upC_len _ _ _ _
        rw [hal] at HR
        gi_wp2
        have hlow : ∀ k, k ≠ D → (W.putObj D (.deferred none)).heap[k]? = W.heap[k]? := fun k hk => World.putObj_heap_other hk
        refine ⟨by simp, .inl ⟨_, _, rfl, run_takeDeferred hK, ?_⟩⟩
        refine ⟨_, results_tmp2 rfl _ _ _, _, rfl, ?_, ?_⟩
        · rw [← hN]
          exact Kd.R_mono (Kd.R_step HR (fun k hk _ => hlow k (by omega))) (fun _ _ => trivial)
        · exact HBW.trans (belowK_b (w := w) (Nat.le_refl _) W D _ _ (by have := hB5.size; omega) hK rfl rfl)
      case stop =>
        rintro D c pre W _ _ h _
        exact h.elim
    · rw [if_neg hok] at h
      cases h
  · rw [if_neg he] at h
    simp only [Option.some.injEq, Prod.mk.injEq] at h
    obtain ⟨rfl, rfl⟩ := h
    clear hr1 hc1 hch
    refine callsIn_of_wp_marks Try.func33 rfl trivial ?_ rfl
    simp only [Try.ntmps33, List.size_toArray, List.length_cons, List.length_nil, Nat.reduceAdd, Nat.reduceSub, Array.replicate_succ, Array.replicate_zero, List.push_toArray, List.append_toArray, List.nil_append, List.cons_append]
    gi_wp2_with (refine ⟨trivial, ?_⟩; gi_at_call 71; refine (callsIn_wide.2 hcc).mono ?_; rintro e w1 ⟨v0, v1, rfl, hg, ho, hb1⟩; obtain ⟨Ag, cg, rfl⟩ := Kd.R_slice hg; obtain ⟨Ao, co, rfl⟩ := Kd.R_slice ho)
    refine ⟨_, results_tmp2 rfl _ _ _, _, rfl, Kd.R_nil _ _ _ _ _, below_alloc hb1 _⟩
end Go.Proofs.Ytdpolfflemocaaa.Bk
