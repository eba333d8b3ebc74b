/- A nominal world at rest: frames with and without oil. -/
import Derived.Test.YtlagmebnjagoaaaGreatWRst
namespace Go.Proofs.YtlagmebnjagoaaaGreat
open Go.ChangeShapes Go.WideShapes Go.ChangeAt Go.RowKit
set_option linter.unusedVariables false

/-- a world in which nothing moves -/
structure Rst (D : Dyn) : Prop where
  ok : ∀ j, j < 4 → OkS (D.team j)
  tf : ∀ j, j < 4 → (D.team j).2.1 = false
  dv : ∀ j, j < 4 → (D.team j).1 = 1 → ∃ l, D.drv j = (0, 0, l, 0)
  off : ∀ j, j < 4 → D.off j = 0
  cn : ∀ j k, j < 4 → (D.team j).1 = 1 → D.cnts j k = (0, false)
  pos : D.pos = 0
  track : D.track = 0
  want : D.want = 0
theorem in_zero : In 0 := by unfold In; omega
theorem mul_zero8 (n : Int) : mulI n 0 = 0 := by unfold mulI nearI; rw [Int.mul_zero]; decide
theorem shift_zero (n : Int) : shiftI 0 n = 0 := by
  unfold shiftI; split
  · exact Int.zero_ediv _
  · rw [Int.zero_mul]; decide
theorem force_zero (ms : Nat → Int) : ∀ k, k ≤ 4 → forceK ms (sel 0 0 0 0) 0 k = 0
  | 0, _ => by show sat32 (-0) = 0; decide
  | k + 1, h => by
    have e : sel 0 0 0 0 k = 0 := by rcases (by omega : k = 0 ∨ k = 1 ∨ k = 2 ∨ k = 3) with rfl | rfl | rfl | rfl <;> rfl
    unfold forceK pushI; rw [force_zero ms k (by omega), e]; split <;> decide
theorem ram_zero (ms : Nat → Int) : ramPos 8192 0 (-6553600) 6553600 0 0 ms (sel 0 0 0 0) = 0 := by
  unfold ramPos wayI; rw [force_zero ms 4 (by omega), mul_zero8, shift_zero]; decide
theorem act_zero (m : Int) : actI m 0 = 0 := by unfold actI; split <;> rfl
theorem fight_zero (a b c d m : Int) : fightI a b c d 0 0 0 0 m 0 = 0 := by
  unfold fightI; split
  · simp only [fSum, act_zero, Int.add_zero, Int.zero_tdiv]; decide
  · rfl
/-- one frame of operating at rest, whatever oil there is -/
structure RstPost (D D' : Dyn) (I : Inp) : Prop where
  rst : Rst D'
  team : D'.team = planT D.team (four4 (opF nomS D I)) (four4 (supH D.oa D.ob))
  fl : ∀ j, j < 4 → four4 (opF nomS D I) j = false
  log : D'.log = D.log
  mode : D'.mm = D.mm ∧ D'.mp = D.mp ∧ D'.mg = D.mg ∧ D'.oa = D.oa ∧ D'.ob = D.ob
  link : D'.ws = D.ws ∧ D'.lh = D.lh ∧ D'.lg = D.lg ∧ D'.lq = D.lq
set_option maxHeartbeats 2000000 in
theorem op_rest {D : Dyn} {I : Inp} (h : Rst D) (hl : I.load = 0) (hf : ∀ j, j < 4 → I.f j = 0) : RstPost D (opD6 nomS D I) I := by
  have hM : opMid nomS D I = 0 := by unfold opMid; rw [h.pos, mid_nom in_zero hf]; decide
  have hst : ∀ l, stepD nomS 0 0 (0, 0, l, 0) = (0, 0, 0, 0) := fun l => by
    have := step_nom (g := 0) (v := 0) (W := 0) (x := 0) (l := l) in_zero in_zero in_zero
    rw [show seen 0 = 0 from by decide] at this
    rw [this]; decide
  have hdrv : ∀ j, j < 4 → drvN nomS D 0 j = (0, 0, 0, 0) := fun j hj => by
    unfold drvN
    by_cases hm : (D.team j).1 = 1
    · obtain ⟨l, e⟩ := h.dv j hj hm
      rw [if_pos hm, h.want, e, hst]
    · rw [if_neg hm]
  have hval : ∀ j, j < 4 → valN nomS D 0 j = 0 := fun j hj => by
    unfold valN
    by_cases hm : (D.team j).1 = 1
    · obtain ⟨l, e⟩ := h.dv j hj hm
      rw [if_pos hm, h.want, e, hst]
    · rw [if_neg hm]
  have hvlv : ∀ j, j < 4 → vlvN nomS D 0 j = 0 := fun j hj => by
    unfold vlvN trimI
    rw [hval j hj, h.off j hj]; decide
  have hspo : ∀ j, j < 4 → spoN nomS D 0 I.f j = 0 := fun j hj => by
    unfold spoN; rw [hf j hj, stuck0]; exact hvlv j hj
  have hpush : ∀ j, j < 4 → opPush nomS D I j = 0 := fun j hj => by
    unfold opPush pushedI; rw [hM, hspo j hj]; split
    · exact mulI_zero _
    · rfl
  have p0 := hpush 0 (by omega); have p1 := hpush 1 (by omega); have p2 := hpush 2 (by omega); have p3 := hpush 3 (by omega)
  have hfight : ∀ j, j < 4 → opFight nomS D I j = 0 := fun j hj => by
    unfold opFight; rw [p0, p1, p2, p3, hpush j hj]; exact fight_zero _ _ _ _ _
  have hX : opX nomS D I = 0 := by
    unfold opX; rw [p0, p1, p2, p3, h.pos, hl]; exact ram_zero _
  have hT : clampI (rateI D.track D.want nomS.rate) nomS.low nomS.high = 0 := by rw [h.track, h.want]; decide
  obtain ⟨f1, f2, f3, f4, f5⟩ := opD3_fields nomS D I
  have hm3 : midS nomS (opD3 nomS D I).pos I.f = 0 := by rw [f1, hX, mid_nom in_zero hf]; decide
  have hsg : ∀ j, j < 4 → ∀ k, signs nomS (opD3 nomS D I) I (vlvN nomS D (opMid nomS D I)) (opFight nomS D I) j k = false := fun j hj k => by
    have hs := sense_nom in_zero
    have hso : snoF nomS (opD3 nomS D I) I j = true := by unfold snoF; rw [f1, hX, hf j hj]; exact hs.2
    have hsf : snsF nomS (opD3 nomS D I) I j = 0 := by unfold snsF; rw [f1, hX, hf j hj]; exact hs.1.trans (by decide)
    match k with
    | 0 =>
      show offB (vlvN nomS D (opMid nomS D I) j) ((opD3 nomS D I).spool j) 65536 = false
      rw [f4, hM, hvlv j hj, hspo j hj]; decide
    | 1 =>
      show offB (if snoF nomS (opD3 nomS D I) I j then snsF nomS (opD3 nomS D I) I j else midS nomS (opD3 nomS D I).pos I.f) (midS nomS (opD3 nomS D I).pos I.f) 65536 = false
      rw [hso, hsf, hm3]; decide
    | 2 =>
      show offB (if snoF nomS (opD3 nomS D I) I j then snsF nomS (opD3 nomS D I) I j else midS nomS (opD3 nomS D I).pos I.f) (opD3 nomS D I).track 2621440 = false
      rw [hso, hsf, f5, hT, if_pos rfl]; decide
    | 3 =>
      show forceB (opFight nomS D I j) 786432 = false
      rw [hfight j hj]; decide
    | k + 4 =>
      show (!snoF nomS (opD3 nomS D I) I j) = false
      rw [hso]; rfl
  have hC : ∀ j, j < 4 → ∀ k, fltC nomS (opD3 nomS D I) I (vlvN nomS D (opMid nomS D I)) (opFight nomS D I) j k = (0, false) := fun j hj k => by
    unfold fltC
    rw [f2, f3]
    by_cases hm : (D.team j).1 = 1
    · rw [if_pos hm]
      unfold cntsN
      rw [hsg j hj k, h.cn j k hj hm]
      rfl
    · rw [if_neg hm]; rfl
  have hF : ∀ j, j < 4 → four4 (opF nomS D I) j = false := fun j hj => by
    rw [four4_at _ hj]
    unfold opF fltB
    exact anyI_no 5 (fun i _ => by rw [hC j hj i])
  have hpl := fun j hj => planT_lane D.team (four4 (opF nomS D I)) (four4 (supH D.oa D.ob)) h.ok j hj
  refine ⟨⟨?_, ?_, ?_, ?_, ?_, ?_, ?_, ?_⟩, opD6_team nomS D I, hF, ?_, opD6_mode nomS D I, opD6_link nomS D I⟩
  · intro j hj; rw [opD6_team]; exact (hpl j hj).2.2.1
  · intro j hj; rw [opD6_team, (hpl j hj).2.1]; unfold failP; rw [h.tf j hj, hF j hj]; rfl
  · intro j hj _; rw [opD6_drv, hM]; exact ⟨0, hdrv j hj⟩
  · intro j hj; rw [opD6_off]
    show evenI (D.team j).1 (D.off j) (opFight nomS D I j) 3 131072 = 0
    rw [h.off j hj, hfight j hj]; exact even_nom
  · intro j k hj _; rw [opD6_cnts]; exact hC j hj k
  · rw [opD6_pos, hX]
  · rw [opD6_track, hT]
  · rw [opD6_want, h.want]
  · rw [opD6_log]; exact logF_no 4 (fun j hj i _ => by rw [hC j hj i])
/-- nothing is handed in but oil -/
structure Qui (I : Inp) : Prop where
  load : I.load = 0
  f : ∀ j, j < 4 → I.f j = 0
  ground : I.ground = false
  ask : I.ask = 0
  tries : I.tries = false
  cmd : I.cmd.toList.isEmpty = true
/-- at rest, in the air -/
structure Air (D : Dyn) : Prop where
  rst : Rst D
  mm : D.mm = 2
  ws : D.lh = true → 0 < D.ws.length → D.ws.getD 0 0 = 0
theorem frame_qui {D : Dyn} {I : Inp} (h : Air D) (hI : Qui I) :
    frameL nomS D I = opD nomS { ({ tickD (tickF D) with mm := 2, mg := false } : Dyn) with oa := tripB D.oa I.p0 32768 16384, ob := tripB D.ob I.p1 32768 16384 } I := by
  have e1 : wantD (cmdD (tickD (tickF D)) I.cmd) = tickD (tickF D) := by
    rw [cmdD_none _ hI.cmd]
    exact want_same (X := tickD (tickF D)) (W := 0) h.rst.want h.ws
  have e2 : hearD (tickF D) I = { tickD (tickF D) with mm := 2, mg := false } := by
    unfold hearD askD
    rw [e1, hI.ask, if_pos rfl, hI.ground]
    unfold groundD groundI
    show ({ tickD (tickF D) with mm := if D.mm = 3 ∧ false = false then 1 else D.mm, mg := false } : Dyn) = _
    rw [h.mm]; rfl
  unfold frameL
  rw [e2]
  unfold oilD triedD
  rw [if_neg (by rw [hI.tries]; decide)]
  unfold movedD
  rw [if_pos rfl]
  rfl
structure AirPost (D D' : Dyn) (I : Inp) (a b : Bool) : Prop where
  air : Air D'
  us : D'.us = (rankU (fun _ => false) (supH a b) 4 : Int)
  ac : D'.ac = actN (fun j => (endM (rankU (fun _ => false) (supH a b) 4) (supH a b j) (rankU (fun _ => false) (supH a b) j) false, false, 0)) 4
  lost : D'.lost = ((rankU (fun _ => false) (supH a b) 4 : Int) == 0)
  oa : D'.oa = a
  ob : D'.ob = b
  log : D'.log = if D'.lost = true ∧ D.lost = false then putL D.log D'.frame 4 3 else D.log
theorem rankU_ext {fs gs os ps : Nat → Bool} : ∀ k, (∀ j, j < k → fs j = gs j ∧ os j = ps j) → rankU fs os k = rankU gs ps k
  | 0, _ => rfl
  | k + 1, h => by unfold rankU; rw [rankU_ext k (fun j hj => h j (by omega)), (h k (by omega)).1, (h k (by omega)).2]
theorem air_frame {D : Dyn} {I : Inp} (h : Air D) (hI : Qui I) {a b : Bool} (ha : tripB D.oa I.p0 32768 16384 = a) (hb : tripB D.ob I.p1 32768 16384 = b) : AirPost D (frameL nomS D I) I a b := by
  rw [frame_qui h hI, ha, hb]
  obtain ⟨X, hX⟩ : ∃ X, ({ ({ tickD (tickF D) with mm := 2, mg := false } : Dyn) with oa := a, ob := b } : Dyn) = X := ⟨_, rfl⟩
  have hr : Rst X := by rw [← hX]; exact { h.rst with }
  have xa : X.oa = a := by rw [← hX]
  have xb : X.ob = b := by rw [← hX]
  have xm : X.mm = 2 := by rw [← hX]
  have xw : X.lh = true → 0 < X.ws.length → X.ws.getD 0 0 = 0 := by rw [← hX]; exact h.ws
  have xl : X.log = D.log := by rw [← hX]; rfl
  have xo : X.lost = D.lost := by rw [← hX]; rfl
  rw [hX]
  have hp := op_rest hr hI.load hI.f
  obtain ⟨u1, u2, u3⟩ := opD6_us nomS X I
  have ho : ∀ j, j < 4 → failP X.team (four4 (opF nomS X I)) j = (fun _ => false) j ∧ four4 (supH X.oa X.ob) j = supH a b j := fun j hj => ⟨by unfold failP; rw [hr.tf j hj, hp.fl j hj]; rfl, by rw [four4_at _ hj, xa, xb]⟩
  have hk : ∀ k, k ≤ 4 → rankU (failP X.team (four4 (opF nomS X I))) (four4 (supH X.oa X.ob)) k = rankU (fun _ => false) (supH a b) k := fun k hk => rankU_ext k (fun j hj => ho j (by omega))
  have hmany : manyP X.team (four4 (opF nomS X I)) (four4 (supH X.oa X.ob)) = rankU (fun _ => false) (supH a b) 4 := hk 4 (by omega)
  have hN : opN nomS X I = (rankU (fun _ => false) (supH a b) 4 : Int) := by unfold opN; rw [planU_len _ _ _ hr.ok, hmany]
  have hfr : (opD6 nomS X I).frame = X.frame := by simp only [opD6, opD5, opD4, opD3, opD2, opD1]
  have hac : (opD6 nomS X I).ac = actN (fun j => (endM (rankU (fun _ => false) (supH a b) 4) (supH a b j) (rankU (fun _ => false) (supH a b) j) false, false, 0)) 4 := by
    rw [u2]
    have e : ∀ k, k ≤ 4 → actN (planC X.team (four4 (opF nomS X I)) (four4 (supH X.oa X.ob))) k = actN (fun j => (endM (rankU (fun _ => false) (supH a b) 4) (supH a b j) (rankU (fun _ => false) (supH a b) j) false, false, 0)) k := by
      intro k
      induction k with
      | zero => intro _; rfl
      | succ k ih =>
        intro hk4
        have h1 := (planC_lane X.team (four4 (opF nomS X I)) (four4 (supH X.oa X.ob)) hr.ok k (by omega)).1
        rw [hmany, hk k (by omega), (ho k (by omega)).1, (ho k (by omega)).2] at h1
        simp only [actN]
        rw [ih (by omega), h1]
        rfl
    exact e 4 (by omega)
  have hlo : (opD6 nomS X I).lost = ((rankU (fun _ => false) (supH a b) 4 : Int) == 0) := by rw [u3, hN]
  have hair : Air (opD6 nomS X I) := ⟨hp.rst, hp.mode.1.trans xm, fun hl => by rw [hp.link.1]; exact xw (hp.link.2.1 ▸ hl)⟩
  unfold opD
  split
  · rename_i hc
    exact ⟨⟨{ hair.rst with }, hair.mm, hair.ws⟩, u1.trans hN, hac, hlo, hp.mode.2.2.2.1.trans xa, hp.mode.2.2.2.2.trans xb, by
      rw [if_pos (by rw [← xo]; exact hc)]
      show putL (opD6 nomS X I).log X.frame 4 3 = putL D.log (opD6 nomS X I).frame 4 3
      rw [hp.log, xl, hfr]⟩
  · rename_i hc
    exact ⟨hair, u1.trans hN, hac, hlo, hp.mode.2.2.2.1.trans xa, hp.mode.2.2.2.2.trans xb, by
      rw [if_neg (by rw [← xo]; exact hc), hp.log, xl]⟩
theorem fly_air {D : Dyn} {q : Int} (h : FlyM D ⟨0, 0, 0, 0⟩ 0 q) : Air D ∧ D.log = [] ∧ D.oa = true ∧ D.ob = true ∧ D.lost = false := by
  have hh := h.heal
  refine ⟨⟨⟨hh.ok, hh.tf, fun j hj hm => ?_, hh.off, fun j k hj hm => ?_, hh.pos, hh.track, hh.want⟩, h.mm, h.ws⟩, h.log, hh.oa, hh.ob, hh.lost⟩
  · have h2 : j < 2 := by
      have := hh.tm j hj
      by_cases h2 : j < 2
      · exact h2
      · rw [if_neg h2, hm] at this; omega
    exact hh.dv j h2
  · have h2 : j < 2 := by
      have := hh.tm j hj
      by_cases h2 : j < 2
      · exact h2
      · rw [if_neg h2, hm] at this; omega
    exact hh.cn j k h2
theorem zero_run : ∀ k, (⟨0, 0, 0, 0⟩ : Mo).run 0 k = ⟨0, 0, 0, 0⟩
  | 0 => rfl
  | k + 1 => by
    show ((⟨0, 0, 0, 0⟩ : Mo).run 0 k).next 0 = _
    rw [zero_run k]
    show (⟨gS 0 0, vS 0 0 0 0, xS 0 (vS 0 0 0 0), tS 0 0⟩ : Mo) = _
    rw [show gS 0 0 = 0 from by decide, show vS 0 0 0 0 = 0 from by decide +kernel, show xS 0 0 = 0 from by decide, show tS 0 0 = 0 from by decide]
theorem rest_fly (k : Nat) : FlyM (itD flyD k) ⟨0, 0, 0, 0⟩ 0 0 := by
  have h0 : FlyM flyD ⟨0, 0, 0, 0⟩ 0 0 := fly_start.1
  have h := (fly_run h0 k (fun j _ => by rw [zero_run j]; decide +kernel)).1
  rw [zero_run k] at h; exact h
def dryI (p q : Int) : Inp := { quI with p0 := p, p1 := q }
theorem dry_qui (p q : Int) : Qui (dryI p q) := ⟨rfl, fun _ _ => rfl, rfl, rfl, rfl, by show quI.cmd.toList.isEmpty = true; decide +kernel⟩
theorem trip_dry (o : Bool) {p : Int} (h : p ≤ 16383) : tripB o p 32768 16384 = false := by
  cases o
  · show decide (max 32768 16384 < p) = false
    simp only [decide_eq_false_iff_not]; omega
  · show decide (min 32768 16384 ≤ p) = false
    simp only [decide_eq_false_iff_not]; omega
/-- without oil, and with oil again -/
theorem lost_law (k : Nat) {p q : Int} (hp : p ≤ 16383) (hq : q ≤ 16383) {D1 D2 D3 : Dyn} (h1 : frameL nomS (itD flyD k) (dryI p q) = D1) (h2 : frameL nomS D1 (dryI p q) = D2) (h3 : frameL nomS D2 (dryI 65536 0) = D3) :
    D1.lost = true ∧ D1.log = [(D1.frame, 4, 3, 1)] ∧ D2.lost = true ∧ D2.log = D1.log ∧ D3.lost = false ∧ D3.ac = 2 ∧ D3.us = 3 := by
  obtain ⟨a0, l0, o1, o2, o3⟩ := fly_air (rest_fly k)
  have p1 := air_frame a0 (dry_qui p q) (a := false) (b := false) (trip_dry _ hp) (trip_dry _ hq)
  rw [h1] at p1
  have p2 := air_frame p1.air (dry_qui p q) (a := false) (b := false) (trip_dry _ hp) (trip_dry _ hq)
  rw [h2] at p2
  have p3 := air_frame p2.air (dry_qui 65536 0) (a := true) (b := false) (by show tripB _ 65536 32768 16384 = true; exact trip_oil _) (trip_dry _ (by show (0 : Int) ≤ 16383; omega))
  rw [h3] at p3
  have e1 : D1.lost = true := p1.lost.trans (by decide)
  have e2 : D2.lost = true := p2.lost.trans (by decide)
  have g1 := p1.log
  rw [if_pos ⟨e1, o3⟩, l0] at g1
  have g2 := p2.log
  rw [if_neg (by rw [e1]; simp)] at g2
  exact ⟨e1, g1, e2, g2, p3.lost.trans (by decide), p3.ac.trans (by decide), p3.us.trans (by decide)⟩

end Go.Proofs.YtlagmebnjagoaaaGreat
