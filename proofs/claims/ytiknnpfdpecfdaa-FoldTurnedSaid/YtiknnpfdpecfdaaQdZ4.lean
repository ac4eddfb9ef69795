/- The declarations of Z4 that the claim Qd needs. -/
import Derived.Test.YtiknnpfdpecfdaaQdFeyx1
import Derived.Test.YtiknnpfdpecfdaaQdFn
import Derived.Test.YtiknnpfdpecfdaaQdFq
import Derived.Test.YtiknnpfdpecfdaaQdFw
import Derived.Test.YtiknnpfdpecfdaaQdFk
namespace Go.Proofs.Ytiknnpfdpecfdaa.Own
open Go Go.RowKit Go.Proofs Go.Proofs.Ytiknnpfdpecfdaa.Fey Go.Proofs.YtiknnpfdpecfdaaW.PrintWords Go.Proofs.YtiknnpfdpecfdaaW.PrintLast Go.Proofs.YtiknnpfdpecfdaaW.PrintMore
set_option linter.unusedVariables false
set_option linter.unusedSimpArgs false
/-- Each of n numbers once. -/
def permB (o : List Int) (n : Nat) : Bool := decide (o.Nodup ∧ (∀ s ∈ o, 0 ≤ s ∧ s < n) ∧ o.length = n)
theorem perm_l0 (o : List Int) (n : Nat) (ho : o.length < 2 ^ 40) (hn : n < 1000) : ∀ (d i : Nat) (seen : List Bool), i + d = o.length → seen.length = n → (∀ s : Nat, s < n → (seen.getD s false = true ↔ (s : Int) ∈ o.take i)) →
    fold_permutation.l0 (d + 1) o (n : Int) seen o (o.length : Int) (i : Int) = some (decide ((o.drop i).Nodup ∧ (∀ s ∈ o.drop i, 0 ≤ s ∧ s < n ∧ s ∉ o.take i) ∧ o.length = n)) := by
  intro d
  induction d with
  | zero =>
    intro i seen hi hs hm
    simp only [fold_permutation.l0]
    rw [if_neg (by omega), List.drop_eq_nil_of_le (by omega)]
    congr 1
    apply Bool.eq_iff_iff.2
    rw [beq_iff_eq, decide_eq_true_eq]
    constructor
    · intro h; exact ⟨List.nodup_nil, fun s h => (nomatch h), by omega⟩
    · intro h; omega
  | succ d ih =>
    intro i seen hi hs hm
    have hil : i < o.length := by omega
    have hw : wrap64 ((i : Int) + 1) = ((i + 1 : Nat) : Int) := by unfold wrap64; omega
    have hr : rd o (i : Int) = o[i] := by simp [rd, hil]
    rw [fold_permutation.l0]
    rw [if_pos (by omega), if_pos (by omega), if_pos (by omega), hr, hw, List.drop_eq_getElem_cons hil]
    by_cases h0 : o[i] < 0
    · rw [if_pos h0]
      exact congrArg some (decide_eq_false (fun h => by have := (h.2.1 o[i] List.mem_cons_self).1; omega)).symm
    · rw [if_neg h0]
      by_cases h1 : o[i] ≥ (n : Int)
      · rw [if_pos h1]
        exact congrArg some (decide_eq_false (fun h => by have := (h.2.1 o[i] List.mem_cons_self).2.1; omega)).symm
      · rw [if_neg h1, if_pos (by omega), if_pos (by omega)]
        obtain ⟨s, hs2⟩ : ∃ s : Nat, o[i] = (s : Int) := ⟨o[i].toNat, by omega⟩
        have hsn : s < n := by omega
        have hrd : rdOf false seen o[i] = seen.getD s false := by rw [hs2]; simp [rdOf]
        rw [hrd]
        by_cases h2 : seen.getD s false = true
        · rw [if_pos h2]
          exact congrArg some (decide_eq_false (fun h => (h.2.1 o[i] List.mem_cons_self).2.2 (by rw [hs2]; exact (hm s hsn).1 h2))).symm
        · rw [if_neg h2]
          have htk : o.take (i + 1) = o.take i ++ [o[i]] := List.take_succ_eq_append_getElem hil
          rw [hs2] at htk ⊢
          rw [Int.toNat_natCast, ih (i + 1) (seen.set s true) (by omega) (by simpa using hs) (fun t ht => ?_)]
          · congr 1
            apply decide_eq_decide.2
            rw [htk]
            constructor
            · rintro ⟨a1, a2, a3⟩
              refine ⟨List.nodup_cons.2 ⟨fun hmem => (a2 _ hmem).2.2 (List.mem_append_right _ (List.mem_singleton.2 rfl)), a1⟩, fun x hx => ?_, a3⟩
              rcases List.mem_cons.1 hx with hx | hx
              · subst hx
                exact ⟨by omega, by omega, fun hmem => h2 ((hm s hsn).2 hmem)⟩
              · exact ⟨(a2 x hx).1, (a2 x hx).2.1, fun hmem => (a2 x hx).2.2 (List.mem_append_left _ hmem)⟩
            · rintro ⟨a1, a2, a3⟩
              refine ⟨(List.nodup_cons.1 a1).2, fun x hx => ?_, a3⟩
              have h3 := a2 x (List.mem_cons_of_mem _ hx)
              refine ⟨h3.1, h3.2.1, fun hmem => ?_⟩
              rcases List.mem_append.1 hmem with hmem | hmem
              · exact h3.2.2 hmem
              · exact (List.nodup_cons.1 a1).1 (by rw [← List.mem_singleton.1 hmem]; exact hx)
          · rw [htk, List.mem_append, List.mem_singleton, ← hm t ht]
            by_cases e : s = t
            · subst e
              simp [hs, hsn]
            · have e1 : (seen.set s true).getD t false = seen.getD t false := by
                rw [List.getD_eq_getElem?_getD, List.getD_eq_getElem?_getD, List.getElem?_set_ne e]
              rw [e1]
              constructor
              · exact .inl
              · rintro (h | h)
                · exact h
                · exact absurd (by omega) e
theorem perm_f (o : List Int) (n : Nat) (ho : o.length < 2 ^ 40) (hn : n < 1000) : fold_permutation.f (o.length + 1) o (n : Int) = some (permB o n) := by
 unfold fold_permutation.f
 rw [if_pos (by omega), Int.toNat_natCast, if_pos (by omega)]
 have h := perm_l0 o n ho hn o.length 0 (List.replicate n false) (by omega) (by simp) (fun s hs => by simp [hs])
 rw [List.drop_zero] at h
 refine h.trans ?_
 unfold permB
 congr 1
 apply decide_eq_decide.2
 constructor
 ·rintro ⟨a1, a2, a3⟩; exact ⟨a1, fun x hx => ⟨(a2 x hx).1, (a2 x hx).2.1⟩, a3⟩
 ·rintro ⟨a1, a2, a3⟩; exact ⟨a1, fun x hx => ⟨(a2 x hx).1, (a2 x hx).2, by simp⟩, a3⟩
end Go.Proofs.Ytiknnpfdpecfdaa.Own
namespace Go.Proofs.Ytiknnpfdpecfdaa.Own
open Go Go.RowKit Go.Proofs Go.Proofs.Ytiknnpfdpecfdaa.Fey Go.Proofs.YtiknnpfdpecfdaaW.PrintWords Go.Proofs.YtiknnpfdpecfdaaW.PrintLast Go.Proofs.YtiknnpfdpecfdaaW.PrintMore
set_option linter.unusedVariables false
set_option linter.unusedSimpArgs false
/-- What is wrong with a strip and an order: 0, nothing. -/
def stripE (l order : List Int) : Int := if fold_sizes.f l 1 9 = some true then (if permB order l.length = true then 0 else 2) else 1
theorem results_row_tmp {fn : Func} {p u : Tmp} {ty : TypeId} (h : fn.results = #[.cell p ty, .tmp u]) (tmps : Array Value) (w : World) (g : Nat) (v : Value)
  (hp : tmps.getD p undef = .pointer (some ⟨g, 0, none⟩)) (hl : (loadVar ty ⟨g, 0, none⟩).run Try.prog w = .ok v w) :
  (results fn tmps).run Try.prog w = .ok (.tuple #[v, tmps.getD u undef]) w := by
 rw [results_cell_tmp h]
 rw [hp]
 simp [asAddr, hl, Result.andThen]
theorem load76 {w : World} {g : Nat} {a b c d : Value} (hg : w.heap[g]? = some (.cells #[a, b, c, d] 76 (0, 0))) : (loadVar 76 ⟨g, 0, none⟩).run Try.prog w = .ok (.agg #[a, b, c, d]) w :=
  run_loadVar_row w g 76 76 _ (0, 0) _ hg Try.underlying76 rfl (by kernel_rfl)
/-- A cloth is put into a block, field by field. -/
theorem set4 {W : World} {g : Nat} {a b c d a' b' c' d' : Value} {t : TypeId} (h : W.heap[g]? = some (.cells #[a, b, c, d] t (0, 0))) :
    ((((W.setCell ⟨g, 0, none⟩ a').setCell ⟨g, 1, none⟩ b').setCell ⟨g, 2, none⟩ c').setCell ⟨g, 3, none⟩ d').heap[g]? = some (.cells #[a', b', c', d'] t (0, 0)) :=
  blk_set (blk_set (blk_set (blk_set h 0 a') 1 b') 2 c') 3 d'
theorem below_set4 {w W : World} {g : Nat} {a' b' c' d' : Value} (hb : Below w.heap.size w W) (h : w.heap.size ≤ g) : Below w.heap.size w ((((W.setCell ⟨g, 0, none⟩ a').setCell ⟨g, 1, none⟩ b').setCell ⟨g, 2, none⟩ c').setCell ⟨g, 3, none⟩ d') :=
  below_set (below_set (below_set (below_set hb h) h) h) h
set_option maxRecDepth 100000 in
set_option maxHeartbeats 4000000 in
theorem strip55 (A0 : Option Addr) (c0 : Nat) (l0 : List Int) (A1 : Option Addr) (c1 : Nat) (l1 : List Int) (w : World) (hr0 : Kd.C (Kd.int .i64) w A0 l0.length l0) (hc0 : l0.length ≤ c0) (hr1 : Kd.C (Kd.int .i64) w A1 l1.length l1) (hc1 : l1.length ≤ c1) (hl1 : l1.length < 2 ^ 40) :
  Calls Try.prog 55 #[.slice A0 l0.length c0, .slice A1 l1.length c1] w fun e w' => ∃ vl vh vc : Value, e = .returned (.tuple #[.agg #[vl, vh, vc, .bool false], .int .i64 (stripE l0 l1)]) ∧
   (stripE l0 l1 = 0 → Kd.R (Kd.int .i64) 3 w' w.heap.size (fun _ => True) vl (layR l0 l0.length).low ∧ Kd.R (Kd.int .i64) 3 w' w.heap.size (fun _ => True) vh (layR l0 l0.length).high ∧ Kd.R k96 96 w' w.heap.size (fun _ => True) vc (layR l0 l0.length).cr) ∧ (stripE l0 l1 ≠ 0 → vl = .slice none 0 0 ∧ vh = .slice none 0 0 ∧ vc = .slice none 0 0) ∧ Below w.heap.size w w' := by
 obtain ⟨b, hb⟩ : ∃ b, fold_sizes.f l0 1 9 = some b := ⟨_, rfl⟩
 have HCS := Aside0.mk (fun W hW => fold_sizes.calls A0 c0 l0 1 9 b W hW hc0 hb)
 have H0 := Aside0.mk hr0
 have H1 := Aside0.mk hr1
 obtain ⟨er, her⟩ : ∃ er, stripE l0 l1 = er := ⟨_, rfl⟩
 rw [her]
 cases b
 ·have her1 : er = 1 := by rw [← her]; unfold stripE; rw [hb]; rfl
  subst her1
  clear hr0 hc0 hr1 hc1 hb her
  go_enter Try.func55, Try.ntmps55
  go_wp2_with (go_at_call 47; refine (HCS.out _ (Kd.C_alloc H0.out _)).mono ?_; rintro e w1 ⟨rfl, hd1⟩; have b4 := (hd1.below.block w.heap.size (by simp)).trans (Go.Deep.blk_alloc_new _ _); have e0 := (heap_cells b4 0 (by simp)).1; have f0 := (heap_cells b4 0 (by simp)).2; have e1 := (heap_cells b4 1 (by simp)).1; have f1 := (heap_cells b4 1 (by simp)).2; have e2 := (heap_cells b4 2 (by simp)).1; have f2 := (heap_cells b4 2 (by simp)).2; have e3 := (heap_cells b4 3 (by simp)).1; have f3 := (heap_cells b4 3 (by simp)).2; have B4 := Aside0.mk b4; have HD1 := Aside0.mk ((below_alloc (Below.refl w.heap.size w) _).trans (hd1.below.mono (by simp))); clear b4 hd1)
  exact ⟨rfl, _, results_row_tmp rfl _ _ w.heap.size _ rfl (load76 (set4 B4.out)), .slice none 0 0, .slice none 0 0, .slice none 0 0, rfl, fun h => (by cases h), fun _ => ⟨rfl, rfl, rfl⟩, below_set4 HD1.out (Nat.le_refl _)⟩
 ·obtain ⟨pb, hpb⟩ : ∃ pb, permB l1 l0.length = pb := ⟨_, rfl⟩
  have hn : l0.length < 1000 := by
   have h1 := hb
   unfold fold_sizes.f at h1
   simp only [Option.some.injEq, Bool.and_eq_true, decide_eq_true_eq] at h1
   omega
  have HPM := Aside0.mk (fun W hW => fold_permutation.calls (l1.length + 1) A1 c1 l1 (l0.length : Int) pb W hW hc1 (hpb ▸ perm_f l1 l0.length hl1 hn))
  have HLAY := Aside0.mk (fun W hW => lay49 A0 c0 l0 W hW (by omega))
  cases pb
  ·have her1 : er = 2 := by rw [← her]; unfold stripE; rw [hb, hpb]; rfl
   subst her1
   clear hr0 hc0 hr1 hc1 hb her hpb hl1 hn
   go_enter Try.func55, Try.ntmps55
   go_wp2_with (first
    | (go_at_call 47; refine (HCS.out _ (Kd.C_alloc H0.out _)).mono ?_; rintro e w1 ⟨rfl, hd1⟩; have b4 := (hd1.below.block w.heap.size (by simp)).trans (Go.Deep.blk_alloc_new _ _); have hb1 := ((below_alloc (Below.refl w.heap.size w) _).trans (hd1.below.mono (by simp))))
    | (go_at_call 77; refine (HPM.out _ (Kd.C_below H1.out hb1)).mono ?_; rintro e w2 ⟨rfl, hb2⟩; replace b4 := (hb2.block w.heap.size (blk_lt' b4)).trans b4; have e0 := (heap_cells b4 0 (by simp)).1; have f0 := (heap_cells b4 0 (by simp)).2; have e1 := (heap_cells b4 1 (by simp)).1; have f1 := (heap_cells b4 1 (by simp)).2; have e2 := (heap_cells b4 2 (by simp)).1; have f2 := (heap_cells b4 2 (by simp)).2; have e3 := (heap_cells b4 3 (by simp)).1; have f3 := (heap_cells b4 3 (by simp)).2; have B4 := Aside0.mk b4; have HD1 := Aside0.mk (below_step hb1 hb2); clear b4 hd1 hb1 hb2))
   exact ⟨rfl, _, results_row_tmp rfl _ _ w.heap.size _ rfl (load76 (set4 B4.out)), .slice none 0 0, .slice none 0 0, .slice none 0 0, rfl, fun h => (by cases h), fun _ => ⟨rfl, rfl, rfl⟩, below_set4 HD1.out (Nat.le_refl _)⟩
  ·have her1 : er = 0 := by rw [← her]; unfold stripE; rw [hb, hpb]; rfl
   subst her1
   clear hr0 hc0 hr1 hc1 hb her hpb hl1 hn
   go_enter Try.func55, Try.ntmps55
   go_wp2_with (first
    | (go_at_call 47; refine (HCS.out _ (Kd.C_alloc H0.out _)).mono ?_; rintro e w1 ⟨rfl, hd1⟩; have b4 := (hd1.below.block w.heap.size (by simp)).trans (Go.Deep.blk_alloc_new _ _); have hb1 := ((below_alloc (Below.refl w.heap.size w) _).trans (hd1.below.mono (by simp))))
    | (go_at_call 77; refine (HPM.out _ (Kd.C_below H1.out hb1)).mono ?_; rintro e w2 ⟨rfl, hb2⟩; replace b4 := (hb2.block w.heap.size (blk_lt' b4)).trans b4; have hb12 := below_step hb1 hb2)
    | (go_at_call 49; refine (HLAY.out _ (Kd.C_below H0.out hb12)).mono ?_; rintro e w3 ⟨vl, vh, vc, rfl, hl, hh, hc, hb3⟩; obtain ⟨Al, cl, rfl⟩ := Kd.R_slice hl; obtain ⟨Ah, ch, rfl⟩ := Kd.R_slice hh; obtain ⟨Ac, cc, rfl⟩ := Kd.R_slice hc; replace b4 := (hb3.block w.heap.size (blk_lt' b4)).trans b4; have e0 := (heap_cells b4 0 (by simp)).1; have f0 := (heap_cells b4 0 (by simp)).2; have e1 := (heap_cells b4 1 (by simp)).1; have f1 := (heap_cells b4 1 (by simp)).2; have e2 := (heap_cells b4 2 (by simp)).1; have f2 := (heap_cells b4 2 (by simp)).2; have e3 := (heap_cells b4 3 (by simp)).1; have f3 := (heap_cells b4 3 (by simp)).2; have B4 := Aside0.mk b4; have HD1 := Aside0.mk (below_step hb12 hb3); have HR := Aside0.mk (And.intro hl (And.intro hh hc)); have HSZ := Aside0.mk (show w.heap.size < w2.heap.size from Nat.lt_of_lt_of_le (blk_lt' (Go.Deep.blk_alloc_new w (.cells #[Value.slice none 0 0, Value.slice none 0 0, Value.slice none 0 0, Value.bool false] 76))) (Nat.le_trans hd1.below.size hb2.size)); clear b4 hd1 hb1 hb2 hb3 hb12 hl hh hc))
   have hw2 : w.heap.size ≤ w2.heap.size := Nat.le_of_lt HSZ.out
   have HR0 := HR.out
   generalize Value.slice Al (layR l0 l0.length).low.length cl = vl at HR0 ⊢
   generalize Value.slice Ah (layR l0 l0.length).high.length ch = vh at HR0 ⊢
   generalize Value.slice Ac (layR l0 l0.length).cr.length cc = vc at HR0 ⊢
   have key : ∀ {α : Type} {d : Kd α} {e : Nat} {v : Value} {xs : List α}, d.R e w3 w2.heap.size (fun _ => True) v xs → d.R e ((((w3.setCell ⟨w.heap.size, 0, none⟩ vl).setCell ⟨w.heap.size, 1, none⟩ vh).setCell ⟨w.heap.size, 2, none⟩ vc).setCell ⟨w.heap.size, 3, none⟩ (.bool false)) w.heap.size (fun _ => True) v xs := by
    intro α d e v xs h
    have hne : ∀ k, (True ∧ w2.heap.size ≤ k ∧ k < w3.heap.size ∧ ∃ q, q ∈ e :: d.E ∧ ∃ cells, w3.heap[k]? = some (.cells cells q (0, 0))) → k ≠ w.heap.size := fun k hk => by have := HSZ.out; omega
    exact Kd.R_mono (Kd.R_lower (Kd.R_far (Kd.R_far (Kd.R_far (Kd.R_far (Kd.R_bound h) (p := ⟨w.heap.size, 0, none⟩) hne _) (p := ⟨w.heap.size, 1, none⟩) hne _) (p := ⟨w.heap.size, 2, none⟩) hne _) (p := ⟨w.heap.size, 3, none⟩) hne _) hw2) (fun _ _ => trivial)
   exact ⟨rfl, _, results_row_tmp rfl _ _ w.heap.size _ rfl (load76 (set4 B4.out)), vl, vh, vc, rfl, fun _ => ⟨key HR0.1, key HR0.2.1, key HR0.2.2⟩, fun h => absurd rfl h, below_set4 HD1.out (Nat.le_refl _)⟩
end Go.Proofs.Ytiknnpfdpecfdaa.Own
namespace Go.Proofs.Ytiknnpfdpecfdaa.Own
open Go Go.RowKit Go.Proofs Go.Proofs.Ytiknnpfdpecfdaa.Fey Go.Proofs.YtiknnpfdpecfdaaW.PrintWords Go.Proofs.YtiknnpfdpecfdaaW.PrintLast Go.Proofs.YtiknnpfdpecfdaaW.PrintMore
set_option linter.unusedVariables false
set_option linter.unusedSimpArgs false
def foldsO (l o : List Int) : Bool := foldsL (layR l l.length).low (layR l l.length).high (layR l l.length).cr ⟨#[]⟩ o []
theorem stripE_ok {l o : List Int} (h : stripE l o = 0) : 1 ≤ l.length ∧ l.length ≤ 9 ∧ (∀ s ∈ o, 0 ≤ s ∧ s < l.length) ∧ o.length = l.length := by
 unfold stripE at h
 split at h
 ·rename_i h1
  split at h
  ·rename_i h2
   unfold fold_sizes.f at h1
   simp only [Option.some.injEq, Bool.and_eq_true, decide_eq_true_eq] at h1
   unfold permB at h2
   have h3 := of_decide_eq_true h2
   exact ⟨by omega, by omega, h3.2.1, h3.2.2⟩
  ·cases h
 ·cases h
end Go.Proofs.Ytiknnpfdpecfdaa.Own
namespace Go.Proofs.Ytiknnpfdpecfdaa.Own
open Go Go.RowKit Go.Proofs Go.Proofs.Ytiknnpfdpecfdaa.Fe Go.Proofs.YtiknnpfdpecfdaaW.PrintWords Go.Proofs.YtiknnpfdpecfdaaW.PrintLast Go.Proofs.YtiknnpfdpecfdaaW.PrintMore
set_option linter.unusedVariables false
set_option linter.unusedSimpArgs false
def let1T : Bool × List (List Nat × List Nat) := (true, [([], []), ([0], [0]), ([], []), ([], []), ([3], [3]), ([2, 4], [2, 4]), ([5], [5]), ([], []), ([], []), ([8], [8]), ([7, 9], [7, 9]), ([10], [10]), ([6, 11], [6, 11]), ([1, 12], [1, 12])])
def let1B : List Nat := [0, 1, 0, 0, 8, 28, 60, 0, 0, 256, 896, 1920, 4092, 8191]
theorem let1tab : rtab .any (opsOf Try.f79 1) = let1T := by kernel_rfl
theorem let1bits : waitsOk let1T.2 let1B = true := by kernel_rfl
set_option maxRecDepth 100000 in
set_option maxHeartbeats 4000000 in
theorem letter79 (a b c : Int) (d : Bool) (A1 : Option Addr) (c1 : Nat) (l1 : List Int) (u : Bool) (w : World) (hr1 : Kd.C (Kd.int .i64) w A1 l1.length l1) (hu : fold_crease_under.f a b c d 86 = some u) (ha0 : 0 ≤ a) (ha1 : a < l1.length) (hb0 : 0 ≤ b) (hb1 : b < l1.length) :
  Calls Try.prog 79 #[.agg #[.int .i64 a, .int .i64 b, .int .i64 c, .bool d], .slice A1 l1.length c1] w fun e w' => e = .returned (.int .u8 (if (u == decide (rd l1 a < rd l1 b)) = true then 86 else 77)) ∧ Below w.heap.size w w' := by
 have HU := Aside0.mk (fun W => fold_crease_under.calls a b c d 86 u W hu)
 obtain ⟨ad, rfl, hx1⟩ := Kd.at_int hr1 a ha0 ha1
 obtain ⟨ad2, e2, hx2⟩ := Kd.at_int hr1 b hb0 hb1
 obtain rfl := Option.some.inj e2
 have HB0 := Aside0.mk (And.intro (And.intro ha0 ha1) (And.intro hb0 hb1))
 obtain ⟨u2, hu2⟩ : ∃ u2, decide (rd l1 a < rd l1 b) = u2 := ⟨_, rfl⟩
 rw [hu2]
 clear hu hr1 e2
 go_enter Try.func79, Try.ntmps79
 go_wp2
 obtain ⟨w7, hw7⟩ : ∃ w7, w.alloc (.cells #[.int .i64 a, .int .i64 b, .int .i64 c, .bool d] 96) = w7 := ⟨_, rfl⟩
 obtain ⟨bx, hbxe⟩ : ∃ bx, w.heap.size = bx := ⟨_, rfl⟩
 have hb7 : Below w.heap.size w w7 := hw7 ▸ below_alloc (Below.refl _ _) _
 have hx : ∀ j v, #[Value.int .i64 a, .int .i64 b, .int .i64 c, .bool d][j]? = some v → w7.cell? ⟨bx, j, none⟩ = some v := by
  intro j v hj
  rw [← hw7, ← hbxe, World.cell?_alloc_mark]
  exact hj
 rw [hw7, hbxe]
 have HS : ∀ W, Below w7.heap.size w7 W → ((W.cell? ⟨bx, 0, none⟩ = some (.int .i64 a) ∧ W.cell? ⟨bx, 1, none⟩ = some (.int .i64 b) ∧ W.cell? ⟨bx, 2, none⟩ = some (.int .i64 c) ∧ W.cell? ⟨bx, 3, none⟩ = some (.bool d) ∧ W.cell? (ad.add a.toNat) = some (.int .i64 (rd l1 a)) ∧ W.cell? (ad.add b.toNat) = some (.int .i64 (rd l1 b)))) :=
  fun W hW => ⟨mv hW (hx 0 _ rfl), mv hW (hx 1 _ rfl), mv hW (hx 2 _ rfl), mv hW (hx 3 _ rfl), mv hW (mv hb7 hx1), mv hW (mv hb7 hx2)⟩
 have ha0 := HB0.out.1.1
 have ha1 := HB0.out.1.2
 have hb0 := HB0.out.2.1
 have hb1 := HB0.out.2.2
 refine start_ (n := 14) (S := fun w' => (w'.cell? ⟨bx, 0, none⟩ = some (.int .i64 a) ∧ w'.cell? ⟨bx, 1, none⟩ = some (.int .i64 b) ∧ w'.cell? ⟨bx, 2, none⟩ = some (.int .i64 c) ∧ w'.cell? ⟨bx, 3, none⟩ = some (.bool d) ∧ w'.cell? (ad.add a.toNat) = some (.int .i64 (rd l1 a)) ∧ w'.cell? (ad.add b.toNat) = some (.int .i64 (rd l1 b)))) (ds := []) #[false, false, false, false, false, false, false, false, false, false, false, false, false, false] (by kernel_rfl) rfl rfl (HS _ (below_drew1' (Below.refl _ _))) (fun hHeld => ?_); refine with_tabW let1tab let1bits (fun HT_ HW_ => ?_)
 refine tr 0 5 HT_ HW_ hHeld ?_
 refine pr 2 7 HT_ ?_
 refine pr 3 8 HT_ ?_
 refine tr 4 9 HT_ HW_ hHeld ?_
 refine pr 5 10 HT_ ?_
 refine tr 6 11 HT_ HW_ hHeld ?_
 refine pr 7 12 HT_ ?_
 refine pr 8 13 HT_ ?_
 refine tr 9 14 HT_ HW_ hHeld ?_
 refine pr 10 15 HT_ ?_
 refine tr 11 16 HT_ HW_ hHeld ?_
 refine pr 12 17 HT_ ?_
 refine on 1 (some 6) HT_ (fun K hK => ?_)
 refine gS Try.func89 #[.agg #[.int .i64 a, .int .i64 b, .int .i64 c, .bool d], .int .u8 86] ?_
 refine (HU.out _).mono ?_
 rintro e w9 ⟨rfl, hd9⟩
 refine ⟨_, rfl, ?_⟩
 have hb79 : Below w7.heap.size w7 w9 := below_step (below_drew1' (Below.refl _ _)) hd9
 refine hK.out _ _ (HS w9 hb79) (fun hHeld => ?_)
 clear hK K
 refine nr (some 6) ?_
 refine pr 13 18 HT_ ?_
 refine dn HT_ ?_
 have HB9 := Aside0.mk (below_step hb7 hb79)
 have HBX := Aside0.mk hbxe
 clear hHeld HS hx hx1 hx2 hb79 hb7 hw7 hbxe
 cases u <;> cases u2
 all_goals
  go_wp2
  go_ret
  exact ⟨by simp, HBX.out ▸ HB9.out⟩
end Go.Proofs.Ytiknnpfdpecfdaa.Own
