/- The declarations of Fcr that the claim Qd needs. -/
import Derived.Test.YtiknnpfdpecfdaaQdZ4
import Derived.Test.YtiknnpfdpecfdaaQdHxx1
namespace Go.Proofs.Ytiknnpfdpecfdaa.Own
open Go Go.RowKit Go.Proofs Go.Proofs.Ytiknnpfdpecfdaa.Fey Go.Proofs.Ytiknnpfdpecfdaa.Hx Go.Proofs.YtiknnpfdpecfdaaW.PrintWords Go.Proofs.YtiknnpfdpecfdaaW.PrintLast Go.Proofs.YtiknnpfdpecfdaaW.PrintMore
set_option linter.unusedVariables false
set_option linter.unusedSimpArgs false
/-- What answer tells of a cloth. -/
def ansF (k : Nat) (low high : List Int) (cr : List S96) (rdd : Bool) (o : List Int) (er : Int) : Option (ByteArray × Int) :=
  if er = 0 then (if (!rdd && foldsL low high cr ⟨#[]⟩ o []) = true then (fold_cloth_letters.f k low high cr rdd o).bind fun s => some (s, 0) else some (⟨#[]⟩, 5)) else some (⟨#[]⟩, er)
set_option maxRecDepth 100000 in
set_option maxHeartbeats 4000000 in
theorem answer65 (k : Nat) (Al Ah Ac Ao : Option Addr) (cl ch cc co : Nat) (low high : List Int) (cr : List S96) (rdd : Bool) (o : List Int) (er : Int) (s : ByteArray) (e2 : Int) (w : World) (h : ansF k low high cr rdd o er = some (s, e2))
  (hF : er = 0 → ∀ V, Kd.C (Kd.int .i64) V Al low.length low → Kd.C (Kd.int .i64) V Ah high.length high → Kd.C k96 V Ac cr.length cr → Kd.C (Kd.int .i64) V Ao o.length o → Calls Try.prog 64 #[.agg #[.slice Al low.length cl, .slice Ah high.length ch, .slice Ac cr.length cc, .bool rdd], .slice Ao o.length co] V fun e w' => e = .returned (.bool (!rdd && foldsL low high cr ⟨#[]⟩ o [])) ∧ Below V.heap.size V w')
  (hR : er = 0 → Kd.C (Kd.int .i64) w Al low.length low ∧ Kd.C (Kd.int .i64) w Ah high.length high ∧ Kd.C k96 w Ac cr.length cr ∧ Kd.C (Kd.int .i64) w Ao o.length o ∧ low.length ≤ cl ∧ high.length ≤ ch ∧ cr.length ≤ cc ∧ o.length ≤ co) :
  Calls Try.prog 65 #[.agg #[.slice Al low.length cl, .slice Ah high.length ch, .slice Ac cr.length cc, .bool rdd], .slice Ao o.length co, .int .i64 er] w fun e w' => e = .returned (.tuple #[.string s, .int .i64 e2]) ∧ Below w.heap.size w w' := by
 unfold ansF at h
 have HF := Aside0.mk hF
 have HR := Aside0.mk hR
 clear hF hR
 by_cases he : er = 0
 ·subst he
  rw [if_pos rfl] at h
  have HF2 := Aside0.mk (HF.out rfl)
  have HR2 := Aside0.mk (HR.out rfl)
  clear HF HR
  by_cases hfo : (!rdd && foldsL low high cr ⟨#[]⟩ o []) = true
  ·rw [if_pos hfo] at h
   rw [hfo] at HF2
   obtain ⟨t, ht, h⟩ := Option.bind_eq_some_iff.mp h
   obtain ⟨rfl, rfl⟩ := Prod.mk.inj (Option.some.inj h)
   have HL := Aside0.mk (fun V h1 h2 h3 h4 => fold_cloth_letters.calls k Al cl low Ah ch high Ac cc cr rdd Ao co o t V h1 HR2.out.2.2.2.2.1 h2 HR2.out.2.2.2.2.2.1 h3 HR2.out.2.2.2.2.2.2.1 h4 HR2.out.2.2.2.2.2.2.2 ht)
   clear h ht hfo
   go_enter Try.func65, Try.ntmps65
   go_wp2_with (first
    | (go_at_call 64; refine (HF2.out _ (Kd.C_alloc HR2.out.1 _) (Kd.C_alloc HR2.out.2.1 _) (Kd.C_alloc HR2.out.2.2.1 _) (Kd.C_alloc HR2.out.2.2.2.1 _)).mono ?_; rintro e w2 ⟨rfl, hb2⟩; have HB2 := Aside0.mk (below_alloc (Below.refl w.heap.size w) (.cells #[Value.slice Al low.length cl, .slice Ah high.length ch, .slice Ac cr.length cc, .bool rdd] 76)); have HB3 := Aside0.mk (below_step HB2.out hb2); have hx : ∀ j u, #[Value.slice Al low.length cl, .slice Ah high.length ch, .slice Ac cr.length cc, .bool rdd][j]? = some u → w2.cell? ⟨w.heap.size, j, none⟩ = some u := (fun j u hj => mv hb2 (by rw [World.cell?_alloc_mark]; exact hj)); have hx0 := hx 0 _ rfl; have hx1 := hx 1 _ rfl; have hx2 := hx 2 _ rfl; have hx3 := hx 3 _ rfl; clear hx hb2)
    | (go_at_call 66; refine (HL.out _ (Kd.C_below HR2.out.1 HB3.out) (Kd.C_below HR2.out.2.1 HB3.out) (Kd.C_below HR2.out.2.2.1 HB3.out) (Kd.C_below HR2.out.2.2.2.1 HB3.out)).mono ?_; rintro e w4 ⟨rfl, hb4⟩; have HB4 := Aside0.mk (below_step HB3.out hb4); clear hb4))
   go_ret2
   exact ⟨rfl, HB4.out⟩
  ·rw [if_neg hfo] at h
   obtain ⟨rfl, rfl⟩ := Prod.mk.inj (Option.some.inj h)
   rw [Bool.not_eq_true] at hfo
   rw [hfo] at HF2
   clear h hfo
   go_enter Try.func65, Try.ntmps65
   go_wp2_with (go_at_call 64; refine (HF2.out _ (Kd.C_alloc HR2.out.1 _) (Kd.C_alloc HR2.out.2.1 _) (Kd.C_alloc HR2.out.2.2.1 _) (Kd.C_alloc HR2.out.2.2.2.1 _)).mono ?_; rintro e w2 ⟨rfl, hb2⟩; have HB3 := Aside0.mk (below_step (below_alloc (Below.refl w.heap.size w) (.cells #[Value.slice Al low.length cl, .slice Ah high.length ch, .slice Ac cr.length cc, .bool rdd] 76)) hb2); clear hb2)
   go_ret2
   exact ⟨rfl, HB3.out⟩
 ·rw [if_neg he] at h
  obtain ⟨rfl, rfl⟩ := Prod.mk.inj (Option.some.inj h)
  have hne : (er == 0) = false := by simpa using he
  clear h
  go_enter Try.func65, Try.ntmps65
  go_wp2
  go_ret2
  exact ⟨rfl, below_alloc (Below.refl _ _) _⟩
def fold_Creases.f (k : Nat) (l o : List Int) : Option (ByteArray × Int) := if o.length < 512 then ansF k (layR l l.length).low (layR l l.length).high (layR l l.length).cr false o (stripE l o) else none
set_option maxRecDepth 100000 in
set_option maxHeartbeats 4000000 in
theorem fold_Creases.calls (k : Nat) (A0 : Option Addr) (c0 : Nat) (l0 : List Int) (A1 : Option Addr) (c1 : Nat) (l1 : List Int) (r1 : ByteArray) (r2 : Int) (w : World) (hr0 : Kd.C (Kd.int .i64) w A0 l0.length l0) (hc0 : l0.length ≤ c0) (hr1 : Kd.C (Kd.int .i64) w A1 l1.length l1) (hc1 : l1.length ≤ c1) (h : fold_Creases.f k l0 l1 = some (r1, r2)) :
  Calls Try.prog 38 #[.slice A0 l0.length c0, .slice A1 l1.length c1] w fun e w' => e = .returned (.tuple #[.string r1, .int .i64 r2]) ∧ Below w.heap.size w w' := by
 unfold fold_Creases.f at h
 split at h
 ·rename_i hl1
  have HST := Aside0.mk (strip55 A0 c0 l0 A1 c1 l1 w hr0 hc0 hr1 hc1 (by omega))
  have H1 := Aside0.mk hr1
  have HC1 := Aside0.mk hc1
  have HL1 := Aside0.mk hl1
  have HH := Aside0.mk h
  clear h hr0 hc0 hr1 hc1 hl1
  by_cases he : stripE l0 l1 = 0
  ·have HOK := Aside0.mk (stripE_ok he)
   rw [he] at HST HH
   clear he
   go_enter Try.func38, Try.ntmps38
   go_wp2_with (first
    | (go_at_call 55; refine HST.out.mono ?_; rintro e w1 ⟨vl, vh, vc, rfl, hR, _, hb1⟩; obtain ⟨hl, hh, hc⟩ := hR rfl; obtain ⟨Al, cl, rfl⟩ := Kd.R_slice hl; obtain ⟨Ah, ch, rfl⟩ := Kd.R_slice hh; obtain ⟨Ac, cc, rfl⟩ := Kd.R_slice hc; have HR := Aside0.mk (And.intro hl (And.intro hh hc)); have HB1 := Aside0.mk hb1; clear hR hl hh hc hb1)
    | (go_at_call 65; refine (answer65 k Al Ah Ac A1 cl ch cc c1 _ _ _ false l1 0 r1 r2 _ HH.out ?hF ?hR).mono ?_; (case hF => exact fun _ V h1 h2 h3 h4 => folds64 Al Ah Ac A1 cl ch cc c1 (layR l0 l0.length).low (layR l0 l0.length).high (layR l0 l0.length).cr false l1 V h1 h2 h3 h4 (by rw [(layR_len l0 l0.length).1]; exact HOK.out.1) (by rw [(layR_len l0 l0.length).1]; have := HOK.out.2.1; omega) (by rw [(layR_len l0 l0.length).1, (layR_len l0 l0.length).2.1]) (by have := (layR_len l0 l0.length).2.2; have := HOK.out.2.1; omega) (by rw [(layR_len l0 l0.length).1]; exact HOK.out.2.2.1) HL1.out); (case hR => exact fun _ => ⟨Kd.C_alloc (Kd.R_reads' HR.out.1).2.2 _, Kd.C_alloc (Kd.R_reads' HR.out.2.1).2.2 _, Kd.C_alloc (Kd.R_reads' HR.out.2.2).2.2 _, Kd.C_alloc (Kd.C_below H1.out HB1.out) _, (Kd.R_reads' HR.out.1).2.1, (Kd.R_reads' HR.out.2.1).2.1, (Kd.R_reads' HR.out.2.2).2.1, HC1.out⟩); rintro e w2 ⟨rfl, hb2⟩; have HB2 := Aside0.mk (below_step (below_alloc HB1.out _) hb2); clear hb2))
   go_ret2
   exact ⟨rfl, HB2.out⟩
  ·obtain ⟨er, her⟩ : ∃ er, stripE l0 l1 = er := ⟨_, rfl⟩
   rw [her] at HST he
   have HE := Aside0.mk he
   have hh := HH.out
   unfold ansF at hh
   rw [her, if_neg he] at hh
   obtain ⟨rfl, rfl⟩ := Prod.mk.inj (Option.some.inj hh)
   clear hh HH her he
   go_enter Try.func38, Try.ntmps38
   go_wp2_with (first
    | (go_at_call 55; refine HST.out.mono ?_; rintro e w1 ⟨vl, vh, vc, rfl, _, hN, hb1⟩; obtain ⟨rfl, rfl, rfl⟩ := hN HE.out; have HB1 := Aside0.mk hb1; clear hN hb1)
    | (go_at_call 65; refine (answer65 0 none none none A1 0 0 0 c1 [] [] [] false l1 er ⟨#[]⟩ er _ (by unfold ansF; rw [if_neg HE.out]) (fun h => absurd h HE.out) (fun h => absurd h HE.out)).mono ?_; rintro e w2 ⟨rfl, hb2⟩; have HB2 := Aside0.mk (below_step (below_alloc HB1.out _) hb2); clear hb2))
   go_ret2
   exact ⟨rfl, HB2.out⟩
 ·cases h
end Go.Proofs.Ytiknnpfdpecfdaa.Own
