/- A part of a proof. -/
import Derived.LoopN
import Derived.Test.YtlagmebnjagoaaaGreatPtA
import Derived.Test.YtlagmebnjagoaaaGreatPtT
import Derived.Test.YtlagmebnjagoaaaGreatPtZf
import Derived.Test.YtlagmebnjagoaaaGreatPtZg
set_option maxHeartbeats 16000000
set_option maxRecDepth 100000
namespace Go.Proofs.YtlagmebnjagoaaaGreat
open Go.ChangeShapes Go.WideShapes Go.ChangeAt Go.RowKit
set_option linter.unusedVariables false
structure Own (w w' : World) (b : Nat) (S : Stp) (D : Dyn) (vp vl vg : Value) : Prop where
  below : Below w.heap.size w w'
  hb : w.heap.size ≤ b
  wat : WAt w' b S D vp vl vg
theorem Own.call {w w1 w2 : World} {b : Nat} {S : Stp} {D : Dyn} {vp vl vg : Value} (h : Own w w1 b S D vp vl vg) (hb : Below w1.heap.size w1 w2) : Own w w2 b S D vp vl vg :=
  ⟨h.below.trans (hb.mono h.below.size),h.hb,h.wat.call hb⟩
theorem Own.frame {w w1 w2 : World} {b : Nat} {S : Stp} {D D' : Dyn} {vp vl vg vl' vg' : Value} (h : Own w w1 b S D vp vl vg) (hg : w1.grownBy w2 (some b)) (hw : WAt w2 b S D' vp vl' vg') : Own w w2 b S D' vp vl' vg' :=
  ⟨below_of_grown h.below hg h.hb h.below.size,h.hb,hw⟩
theorem Own.side {w w1 w2 : World} {b c : Nat} {S : Stp} {D : Dyn} {vp vl vg : Value} (h : Own w w1 b S D vp vl vg) (hg : w1.grownBy w2 (some c)) (hc : w.heap.size ≤ c) (hne : b ≠ c) (ha : S.av c) : Own w w2 b S D vp vl vg :=
  ⟨h.below.grown hg h.below.size (fun k e => by cases e;exact hc),h.hb,h.wat.far hg hne ha⟩
theorem calm_ok : InpOk calmI:=⟨by decide,by decide,by decide,by decide,fun _ _ => by show -9223372036854775808 ≤ (0 : Int) ∧ (0 : Int) ≤ 9223372036854775807;omega,by decide,by decide⟩
theorem try_ok : InpOk tryI:=⟨by decide,by decide,by decide,by decide,fun _ _ => by show -9223372036854775808 ≤ (0 : Int) ∧ (0 : Int) ≤ 9223372036854775807;omega,by decide,by decide⟩
theorem go_ok : InpOk goI:=⟨by decide,by decide,by decide,by decide,fun _ _ => by show -9223372036854775808 ≤ (0 : Int) ∧ (0 : Int) ≤ 9223372036854775807;omega,by decide,by decide⟩
theorem nom0 : DynOk nomS newD:=newD_good nom_ok (by show (-6553600 : Int) ≤ 0 ∧ (0 : Int) ≤ 6553600;omega)
def FlyPost (w : World) (e : Ending) (w' : World) : Prop:=∃ b vp vl vg,e = .returned (.tuple #[ptr b,.bool true]) ∧ Own w w' b nomS flyD vp vl vg
theorem flying_is {vp : Value} {w : World} (hp : RecsAt 3 pointLay w vp nomS.prof) :
    Calls Tryz.prog 13 #[stpV nomS vp] w (FlyPost w):=by
  obtain ⟨ap,cp,hvp⟩:=hp.len
  subst hvp
  obtain ⟨w3,hw3⟩ : ∃ x,w.alloc (.cells #[.int .i32 nomS.gain,.int .i64 nomS.drag,.int .i32 nomS.low,.int .i32 nomS.high,.int .i32 nomS.rate,.int .i64 nomS.soft,.int .i32 nomS.P,.int .i32 nomS.I,.int .i32 nomS.D,.int .i32 nomS.lo,.int .i32 nomS.hi,.int .i32 nomS.m0,.int .i32 nomS.m1,.int .i32 nomS.m2,.int .i32 nomS.m3,.int .i32 nomS.m4,.int .i64 nomS.up,.int .i64 nomS.down,.int .i64 nomS.most,.int .i32 nomS.sum,.int .i32 nomS.wide,.int .i32 nomS.full,.slice ap nomS.prof.length cp,.int .i32 nomS.oh,.int .i32 nomS.ol,.int .i64 nomS.bits,.int .i32 nomS.trim] 37) = x:=⟨_,rfl⟩
  have b3 : Below w.heap.size w w3:=hw3 ▸ (Below.refl _ _).alloc (Nat.le_refl _) _
  have C3 : CellsAt w3 w.heap.size [.int .i32 nomS.gain,.int .i64 nomS.drag,.int .i32 nomS.low,.int .i32 nomS.high,.int .i32 nomS.rate,.int .i64 nomS.soft,.int .i32 nomS.P,.int .i32 nomS.I,.int .i32 nomS.D,.int .i32 nomS.lo,.int .i32 nomS.hi,.int .i32 nomS.m0,.int .i32 nomS.m1,.int .i32 nomS.m2,.int .i32 nomS.m3,.int .i32 nomS.m4,.int .i64 nomS.up,.int .i64 nomS.down,.int .i64 nomS.most,.int .i32 nomS.sum,.int .i32 nomS.wide,.int .i32 nomS.full,.slice ap nomS.prof.length cp,.int .i32 nomS.oh,.int .i32 nomS.ol,.int .i64 nomS.bits,.int .i32 nomS.trim]:=hw3 ▸ CellsAt.new' rfl rfl
  have RNG:=Lib.hid C3.range
  have HNW:=Lib.hid (new_yes (hp.later pointLay_len b3 (Nat.le_refl _)) nom_ok (fun c hc => hc.elim))
  have HI12 : Hid ((Tryz.prog.info? 48).map (·.size) = some 12):=Lib.hid (by kernel_rfl)
  have HI27 : Hid ((Tryz.prog.info? 62).map (·.size) = some 27):=Lib.hid (by kernel_rfl)
  have HIS : Hid ((Tryz.prog.info? 37).map (·.size) = some 27):=Lib.hid (by kernel_rfl)
  have HW3:=Lib.hid hw3
  have B3:=Lib.hid b3
  clear b3 C3 hw3 hp
  go_enter Tryz.func13,Tryz.ntmps13
  go_upto_region 1 with (fail)
  rw [HW3.out]
  clear HW3
  go_wp2_with (refine wpList_load_mid rfl 37 (.tmp 1) rfl w.heap.size 0 rfl _ _ RNG.out Tryz.underlying37 rfl HIS.out ?_)
  refine HNW.out.mono ?_
  rintro e4 w4 ⟨b,vp,rfl,hb,hW4,hb4,-⟩
  have O4 : Own w w4 b nomS newD vp (.slice none 0 0) (.slice none 0 0):=⟨B3.out.trans (hb4.mono B3.out.size),Nat.le_trans B3.out.size hb,hW4⟩
  have HO4:=Lib.hid O4
  clear hb hW4 hb4 O4 HNW RNG B3
  go_upto_region 4 with (fail)
  go_wp2_with fail
  refine (calm_is _).mono ?_
  rintro e5 w5 ⟨rfl,hb5⟩
  have O5:=HO4.out.call hb5
  obtain ⟨w6,hw6⟩ : ∃ x,w5.alloc (.cells #[.string ⟨#[]⟩,.int .i32 0,.int .i32 0,.int .i32 0,.int .i64 0,.int .i64 0,.int .i64 0,.int .i64 0,.bool false,.int .i64 0,.bool false,.int .i64 0] 48) = x:=⟨_,rfl⟩
  have b56 : Below w5.heap.size w5 w6:=hw6 ▸ (Below.refl _ _).alloc (Nat.le_refl _) _
  have z56 : w5.heap.size < w6.heap.size:=by rw [← hw6];simp
  have Z6 : CellsAt w6 w5.heap.size [.string ⟨#[]⟩,.int .i32 0,.int .i32 0,.int .i32 0,.int .i64 0,.int .i64 0,.int .i64 0,.int .i64 0,.bool false,.int .i64 0,.bool false,.int .i64 0]:=hw6 ▸ CellsAt.new' rfl rfl
  have hbg : b ≠ w5.heap.size:=by have:=O5.wat.lt;omega
  have hwg : w.heap.size ≤ w5.heap.size:=O5.below.size
  have O6 : Own w w6 b (nomS.more w5.heap.size) newD vp (.slice none 0 0) (.slice none 0 0):=⟨O5.below.trans (b56.mono O5.below.size),O5.hb,O5.wat.more b56 (Nat.le_refl _) z56⟩
  have HTH : Hid (w6.there w5.heap.size 0 (inL calmI).toArray.size):=Lib.hid (Z6.there (n:=12) (Nat.le_refl _))
  have HON : Hid ((inL calmI).toArray.all (·.oneCell') = true):=Lib.hid (by kernel_rfl)
  have HW6:=Lib.hid hw6
  obtain ⟨w7,hw7⟩ : ∃ x,w6.setCells w5.heap.size 0 (inL calmI).toArray.toList = x:=⟨_,rfl⟩
  have C7 : CellsAt w7 w5.heap.size (inL calmI):=by rw [← hw7];exact Z6.row (inL calmI) rfl
  have hself : ∀ x : World,x.grownBy x (some w5.heap.size):=fun _ => ⟨rfl,rfl,rfl,Nat.le_refl _,fun _ _ _ => rfl⟩
  have O7 : Own w w7 b (nomS.more w5.heap.size) newD vp (.slice none 0 0) (.slice none 0 0):=by rw [← hw7];exact O6.side (grown_setCells _ _ _ _ _ (hself w6)) hwg hbg (.inr rfl)
  have HW7:=Lib.hid hw7
  have y10:=C7.at_ 10 rfl;have f10:=C7.2.1 10;have yz:=C7.lt
  have C8 : CellsAt (w7.setCell ⟨w5.heap.size,10,none⟩ (.bool true)) w5.heap.size (inL tryI):=C7.set_ 10 (by decide) (.bool true)
  have O8:=O7.side (grown_setW w7 w5.heap.size 10 (.bool true)) hwg hbg (.inr rfl)
  have HC8:=Lib.hid C8
  have HO8:=Lib.hid O8
  have Hbg:=Lib.hid hbg
  have Hwg:=Lib.hid hwg
  have Hself:=Lib.hid hself
  clear O5 hb5 HO4 hw6 b56 z56 Z6 hbg hwg O6 hw7 C7 hself O7 C8 O8
  go_upto_region 5 with (refine wpList_store_mid rfl 48 (.tmp 6) (.tmp 19) rfl w5.heap.size 0 (inL calmI).toArray rfl rfl (by rw [HW6.out];exact HTH.out) HI12.out HON.out ?_)
  rw [HW6.out,HW7.out]
  go_upto_region 6 with (fail)
  obtain ⟨w8,hw8⟩ : ∃ x,w7.setCell ⟨w5.heap.size,10,none⟩ (.bool true) = x:=⟨_,rfl⟩
  rw [hw8] at HC8 HO8 ⊢
  clear hw8 y10 f10 yz HW6 HW7 HTH
  go_wp2_with (refine wpList_load_mid rfl 48 (.tmp 6) rfl w5.heap.size 0 rfl _ _ HC8.out.range Tryz.underlying48 rfl HI12.out ?_)
  refine (wframe_is (I:=tryI) HO8.out.wat (nom_ok.withAv _) (nom0.withAv _) try_ok).mono ?_
  rintro e9 w9 ⟨v9,vl9,vg9,rfl,hW9,hg9,-,-⟩
  have e9 : frameL (nomS.more w5.heap.size) newD tryI = frameL nomS newD tryI:=frameL_av nomS _ _ _
  rw [e9] at hW9
  obtain ⟨D1,hD1⟩ : ∃ x,frameL nomS newD tryI = x:=⟨_,rfl⟩
  have HG1 : Hid (DynOk nomS D1):=Lib.hid (by rw [← hD1];exact frameL_good nom_ok tryI nom0)
  rw [hD1] at hW9
  have O9:=HO8.out.frame hg9 hW9
  have C9:=far_cells HC8.out hg9 (Ne.symm Hbg.out)
  have HO9:=Lib.hid O9
  have HC9:=Lib.hid C9
  have HD1:=Lib.hid hD1
  clear e9 hW9 hg9 hD1 O9 C9 HO8 HC8
  go_upto_region 7 with (fail)
  go_wp2_with fail
  refine (calm_is _).mono ?_
  rintro e10 w10 ⟨rfl,hb10⟩
  have O10:=HO9.out.call hb10
  have C10:=HC9.out.call hb10
  have HTH : Hid (w10.there w5.heap.size 0 (inL calmI).toArray.size):=Lib.hid (C10.there (n:=12) (Nat.le_refl _))
  obtain ⟨w11,hw11⟩ : ∃ x,w10.setCells w5.heap.size 0 (inL calmI).toArray.toList = x:=⟨_,rfl⟩
  have C11 : CellsAt w11 w5.heap.size (inL calmI):=by rw [← hw11];exact C10.row (inL calmI) rfl
  have O11 : Own w w11 b (nomS.more w5.heap.size) D1 vp vl9 vg9:=by rw [← hw11];exact O10.side (grown_setCells _ _ _ _ _ (Hself.out w10)) Hwg.out Hbg.out (.inr rfl)
  have HW11:=Lib.hid hw11
  have y9:=C11.at_ 9 rfl;have f9:=C11.2.1 9;have yz:=C11.lt
  have C12:=C11.set_ 9 (by decide) (.int .i64 2)
  have O12:=O11.side (grown_setW w11 w5.heap.size 9 (.int .i64 2)) Hwg.out Hbg.out (.inr rfl)
  obtain ⟨w12,hw12⟩ : ∃ x,w11.setCell ⟨w5.heap.size,9,none⟩ (.int .i64 2) = x:=⟨_,rfl⟩
  rw [hw12] at C12 O12
  have y8:=C12.at_ 8 rfl;have f8:=C12.2.1 8;have xz:=C12.lt
  have C13 : CellsAt (w12.setCell ⟨w5.heap.size,8,none⟩ (.bool false)) w5.heap.size (inL goI):=C12.set_ 8 (by decide) (.bool false)
  have O13:=O12.side (grown_setW w12 w5.heap.size 8 (.bool false)) Hwg.out Hbg.out (.inr rfl)
  have HC13:=Lib.hid C13
  have HO13:=Lib.hid O13
  have HW12:=Lib.hid hw12
  clear O10 C10 hw11 C11 O11 C12 O12 C13 O13 hb10 HO9 HC9 hw12
  go_upto_region 8 with (refine wpList_store_mid rfl 48 (.tmp 6) (.tmp 24) rfl w5.heap.size 0 (inL calmI).toArray rfl rfl HTH.out HI12.out HON.out ?_)
  rw [HW11.out]
  go_upto_region 9 with (fail)
  rw [HW12.out]
  go_upto_region 10 with (fail)
  obtain ⟨w13,hw13⟩ : ∃ x,w12.setCell ⟨w5.heap.size,8,none⟩ (.bool false) = x:=⟨_,rfl⟩
  rw [hw13] at HC13 HO13 ⊢
  clear hw13 HW11 HW12 HTH HON y9 f9 yz y8 f8 xz
  go_wp2_with (refine wpList_load_mid rfl 48 (.tmp 6) rfl w5.heap.size 0 rfl _ _ HC13.out.range Tryz.underlying48 rfl HI12.out ?_)
  refine (wframe_is (I:=goI) HO13.out.wat (nom_ok.withAv _) (HG1.out.withAv _) go_ok).mono ?_
  rintro e14 w14 ⟨v14,vl14,vg14,rfl,hW14,hg14,hO14,-⟩
  have e15 : frameL (nomS.more w5.heap.size) D1 goI = flyD:=by unfold flyD;rw [HD1.out];exact frameL_av nomS _ _ _
  rw [e15] at hW14 hO14 ⊢
  have O14:=HO13.out.frame hg14 hW14
  have O14 : Own w w14 b nomS flyD vp vl14 vg14:=⟨O14.below,O14.hb,O14.wat.less (a:=nomS.av) (fun x hx => hx.elim)⟩
  obtain ⟨w15,hw15⟩ : ∃ x,w14.alloc (.cells #[.int .i64 0,.int .i64 0,.bool false,.bool false,.int .i64 0,.bool false,.int .i64 0,.int .i64 0,.bool false,.int .i64 0,.int .i64 0,.bool false,.int .i64 0,.int .i64 0,.bool false,.int .i64 0,.int .i64 0,.int .i64 0,.bool false,.int .i32 0,.int .i32 0,.int .i32 0,.int .i32 0,.int .i32 0,.int .i32 0,.int .i32 0,.slice none 0 0] 62) = x:=⟨_,rfl⟩
  have Z15 : CellsAt w15 w14.heap.size [.int .i64 0,.int .i64 0,.bool false,.bool false,.int .i64 0,.bool false,.int .i64 0,.int .i64 0,.bool false,.int .i64 0,.int .i64 0,.bool false,.int .i64 0,.int .i64 0,.bool false,.int .i64 0,.int .i64 0,.int .i64 0,.bool false,.int .i32 0,.int .i32 0,.int .i32 0,.int .i32 0,.int .i32 0,.int .i32 0,.int .i32 0,.slice none 0 0]:=hw15 ▸ CellsAt.new' rfl rfl
  have O15 : Own w w15 b nomS flyD vp vl14 vg14:=hw15 ▸ O14.call ((Below.refl _ _).alloc (Nat.le_refl _) _)
  obtain ⟨a14,c14,hv14⟩:=own_sliceW hO14
  subst hv14
  have HTH : Hid (w15.there w14.heap.size 0 (statL flyD (.slice a14 flyD.log.length c14)).toArray.size):=Lib.hid (Z15.there (n:=27) (Nat.le_refl _))
  have HON : Hid ((statL flyD (.slice a14 flyD.log.length c14)).toArray.all (·.oneCell') = true):=Lib.hid (by kernel_rfl)
  obtain ⟨w16,hw16⟩ : ∃ x,w15.setCells w14.heap.size 0 (statL flyD (.slice a14 flyD.log.length c14)).toArray.toList = x:=⟨_,rfl⟩
  have C16 : CellsAt w16 w14.heap.size (statL flyD (.slice a14 flyD.log.length c14)):=by rw [← hw16];exact Z15.row _ rfl
  have O16 : Own w w16 b nomS flyD vp vl14 vg14:=by
    rw [← hw16,← hw15]
    exact O14.call (below_setCells (Nat.le_refl _) _ 0 _ ((Below.refl _ _).alloc (Nat.le_refl _) _))
  have HW15:=Lib.hid hw15
  have HW16:=Lib.hid hw16
  have HO16:=Lib.hid O16
  have q1 : w16.cell? ⟨w14.heap.size,1,none⟩ = some (.int .i64 2):=by rw [C16.at_ 1 rfl,fly_start.1.mm]
  have qz:=C16.lt
  clear e15 hW14 hg14 hO14 O14 Z15 O15 C16 O16 hw15 hw16 HO13 HC13 HG1 HD1
  go_upto_region 11 with (refine wpList_store_mid rfl 62 (.tmp 7) (.tmp 29) rfl w14.heap.size 0 (statL flyD (.slice a14 flyD.log.length c14)).toArray rfl rfl (by rw [HW15.out];exact HTH.out) HI27.out HON.out ?_)
  rw [HW15.out,HW16.out]
  go_quiet (fail)
  go_wp2_with fail
  refine bodyPost_ret (v:=.tuple #[ptr b,.bool true]) (by simp [results,Tryz.results13,go_sem]) rfl ⟨b,vp,vl14,vg14,rfl,HO16.out.call ?_⟩
  repeat (first | with_reducible exact Below.refl _ _ | (with_reducible refine bLs ?_ ?_ _;· first | omega | (simp <;> omega)) | with_reducible first | refine below_drewN ?_ _ | refine Below.drew ?_ | (with_reducible refine bLa ?_ ?_ _;· first | omega | (simp <;> omega)))
theorem qu_ok : InpOk quI:=⟨by decide,by decide,by decide,by decide,fun _ _ => by show -9223372036854775808 ≤ (0 : Int) ∧ (0 : Int) ≤ 9223372036854775807;omega,by decide,by decide⟩
theorem cmd_ok (q x : Int) : InpOk { calmI with ground:=false,cmd:=packS 2 0 q [x] }:=⟨by show (packS 2 0 q [x]).size ≤ _;rw [pack_size];simp,calm_ok.p0,calm_ok.p1,calm_ok.load,calm_ok.f,calm_ok.ask,calm_ok.reset⟩
theorem fly_good : DynOk nomS flyD:=frameL_good nom_ok goI (frameL_good nom_ok tryI nom0)
def WkRel (w : World) (b g s : Nat) (S : Stp) (vp i : Value) (wr : World) : Prop:=∃ k : Nat,k ≤ 100 ∧ i = .int .i64 k ∧ (∃ vl vg,Own w wr b S (itD wkD k) vp vl vg) ∧ CellsAt wr g (inL quI) ∧ ∃ v,(∃ a c,v = .slice a (itD wkD k).log.length c) ∧ CellsAt wr s (statL (itD wkD k) v)
theorem works_is (w : World) : Calls Tryz.prog 9 #[] w fun e w' => e = .returned (.bool true) ∧ Below w.heap.size w w':=by
  have HI12 : Hid ((Tryz.prog.info? 48).map (·.size) = some 12):=Lib.hid (by kernel_rfl)
  have HI27 : Hid ((Tryz.prog.info? 62).map (·.size) = some 27):=Lib.hid (by kernel_rfl)
  go_enter Tryz.func9,Tryz.ntmps9
  go_wp2_with fail
  refine (nominal_is _).mono ?_
  rintro e1 w1 ⟨g1,rfl,ho1,hb1⟩
  have HR1:=Lib.hid (own_recs (xs:=nomS.prof) ho1 pointLay_len)
  have HB1:=Lib.hid hb1
  clear ho1 hb1
  go_wp2_with fail
  refine (flying_is HR1.out).mono ?_
  rintro e4 w4 ⟨b,vp,vl,vg,rfl,O4⟩
  have O4 : Own w w4 b nomS flyD vp vl vg:=⟨HB1.out.trans (O4.below.mono HB1.out.size),Nat.le_trans HB1.out.size O4.hb,O4.wat⟩
  have HO4:=Lib.hid O4
  clear O4 HR1 HB1
  go_upto_region 4 with (fail)
  go_wp2_with fail
  refine (calm_is _).mono ?_
  rintro e5 w5 ⟨rfl,hb5⟩
  have O5:=HO4.out.call hb5
  obtain ⟨w6,hw6⟩ : ∃ x,w5.alloc (.cells #[.string ⟨#[]⟩,.int .i32 0,.int .i32 0,.int .i32 0,.int .i64 0,.int .i64 0,.int .i64 0,.int .i64 0,.bool false,.int .i64 0,.bool false,.int .i64 0] 48) = x:=⟨_,rfl⟩
  have b56 : Below w5.heap.size w5 w6:=hw6 ▸ (Below.refl _ _).alloc (Nat.le_refl _) _
  have z56 : w5.heap.size < w6.heap.size:=by rw [← hw6];simp
  have Z6 : CellsAt w6 w5.heap.size [.string ⟨#[]⟩,.int .i32 0,.int .i32 0,.int .i32 0,.int .i64 0,.int .i64 0,.int .i64 0,.int .i64 0,.bool false,.int .i64 0,.bool false,.int .i64 0]:=hw6 ▸ CellsAt.new' rfl rfl
  have hbg : b ≠ w5.heap.size:=by have:=O5.wat.lt;omega
  have hwg : w.heap.size ≤ w5.heap.size:=O5.below.size
  have O6 : Own w w6 b (nomS.more w5.heap.size) flyD vp vl vg:=⟨O5.below.trans (b56.mono O5.below.size),O5.hb,O5.wat.more b56 (Nat.le_refl _) z56⟩
  have HTH : Hid (w6.there w5.heap.size 0 (inL calmI).toArray.size):=Lib.hid (Z6.there (n:=12) (Nat.le_refl _))
  have HON : Hid ((inL calmI).toArray.all (·.oneCell') = true):=Lib.hid (by kernel_rfl)
  have HW6:=Lib.hid hw6
  obtain ⟨w7,hw7⟩ : ∃ x,w6.setCells w5.heap.size 0 (inL calmI).toArray.toList = x:=⟨_,rfl⟩
  have C7 : CellsAt w7 w5.heap.size (inL calmI):=by rw [← hw7];exact Z6.row (inL calmI) rfl
  have hself : ∀ (x : World) (c : Nat),x.grownBy x (some c):=fun _ _ => ⟨rfl,rfl,rfl,Nat.le_refl _,fun _ _ _ => rfl⟩
  have O7 : Own w w7 b (nomS.more w5.heap.size) flyD vp vl vg:=by rw [← hw7];exact O6.side (grown_setCells _ _ _ _ _ (hself w6 _)) hwg hbg (.inr rfl)
  have HW7:=Lib.hid hw7
  have y8:=C7.at_ 8 rfl;have f8:=C7.2.1 8;have yz:=C7.lt
  have C8 : CellsAt (w7.setCell ⟨w5.heap.size,8,none⟩ (.bool false)) w5.heap.size (inL quI):=C7.set_ 8 (by decide) (.bool false)
  have O8:=O7.side (grown_setW w7 w5.heap.size 8 (.bool false)) hwg hbg (.inr rfl)
  have HC8:=Lib.hid C8
  have HO8:=Lib.hid O8
  have Hbg:=Lib.hid hbg
  have Hwg:=Lib.hid hwg
  have Hself:=Lib.hid hself
  clear O5 hb5 HO4 hw6 b56 z56 Z6 hbg hwg O6 hw7 C7 hself O7 C8 O8
  go_upto_region 5 with (refine wpList_store_mid rfl 48 (.tmp 3) (.tmp 12) rfl w5.heap.size 0 (inL calmI).toArray rfl rfl (by rw [HW6.out];exact HTH.out) HI12.out HON.out ?_)
  rw [HW6.out,HW7.out]
  go_upto_region 6 with (fail)
  obtain ⟨w8,hw8⟩ : ∃ x,w7.setCell ⟨w5.heap.size,8,none⟩ (.bool false) = x:=⟨_,rfl⟩
  rw [hw8] at HC8 HO8 ⊢
  clear hw8 y8 f8 yz HW6 HW7 HTH HON
  go_wp2_with fail
  refine (command_is 1 327680 _ (by omega) (by omega)).mono ?_
  rintro e9 w9 ⟨rfl,hb9⟩
  have O9:=HO8.out.call hb9
  have C9:=HC8.out.call hb9
  have y0:=C9.at_ 0 rfl;have f0:=C9.2.1 0;have yz:=C9.lt
  have C10 : CellsAt (w9.setCell ⟨w5.heap.size,0,none⟩ (.string (packS 2 0 1 [327680]))) w5.heap.size (inL wkI):=C9.set_ 0 (by decide) _
  have O10:=O9.side (grown_setW w9 w5.heap.size 0 (.string (packS 2 0 1 [327680]))) Hwg.out Hbg.out (.inr rfl)
  have HC10:=Lib.hid C10
  have HO10:=Lib.hid O10
  clear hb9 O9 C9 C10 O10 HO8 HC8
  go_upto_region 7 with (fail)
  obtain ⟨w10,hw10⟩ : ∃ x,w9.setCell ⟨w5.heap.size,0,none⟩ (.string (packS 2 0 1 [327680])) = x:=⟨_,rfl⟩
  rw [hw10] at HC10 HO10 ⊢
  clear hw10 y0 f0 yz
  go_wp2_with (refine wpList_load_mid rfl 48 (.tmp 3) rfl w5.heap.size 0 rfl _ _ HC10.out.range Tryz.underlying48 rfl HI12.out ?_)
  refine (wframe_is (I:=wkI) HO10.out.wat (nom_ok.withAv _) (fly_good.withAv _) (cmd_ok 1 327680)).mono ?_
  rintro e14 w14 ⟨v14,vl14,vg14,rfl,hW14,hg14,hO14,-⟩
  have e15 : frameL (nomS.more w5.heap.size) flyD wkI = itD wkD 0:=frameL_av nomS _ _ _
  rw [e15] at hW14 hO14 ⊢
  have O14:=HO10.out.frame hg14 hW14
  have C14:=far_cells HC10.out hg14 (Ne.symm Hbg.out)
  obtain ⟨w15,hw15⟩ : ∃ x,w14.alloc (.cells #[.int .i64 0,.int .i64 0,.bool false,.bool false,.int .i64 0,.bool false,.int .i64 0,.int .i64 0,.bool false,.int .i64 0,.int .i64 0,.bool false,.int .i64 0,.int .i64 0,.bool false,.int .i64 0,.int .i64 0,.int .i64 0,.bool false,.int .i32 0,.int .i32 0,.int .i32 0,.int .i32 0,.int .i32 0,.int .i32 0,.int .i32 0,.slice none 0 0] 62) = x:=⟨_,rfl⟩
  have b15 : Below w14.heap.size w14 w15:=hw15 ▸ (Below.refl _ _).alloc (Nat.le_refl _) _
  have z15 : w14.heap.size < w15.heap.size:=by rw [← hw15];simp
  have Z15 : CellsAt w15 w14.heap.size [.int .i64 0,.int .i64 0,.bool false,.bool false,.int .i64 0,.bool false,.int .i64 0,.int .i64 0,.bool false,.int .i64 0,.int .i64 0,.bool false,.int .i64 0,.int .i64 0,.bool false,.int .i64 0,.int .i64 0,.int .i64 0,.bool false,.int .i32 0,.int .i32 0,.int .i32 0,.int .i32 0,.int .i32 0,.int .i32 0,.int .i32 0,.slice none 0 0]:=hw15 ▸ CellsAt.new' rfl rfl
  obtain ⟨a14,c14,hv14⟩:=own_sliceW hO14
  subst hv14
  obtain ⟨S2,hS2⟩ : ∃ x,(nomS.more w5.heap.size).more w14.heap.size = x:=⟨_,rfl⟩
  have hSav : S2 = nomS.withAv S2.av:=by rw [← hS2];rfl
  have hbs : b ≠ w14.heap.size:=by have:=O14.wat.lt;omega
  have hws : w.heap.size ≤ w14.heap.size:=O14.below.size
  have hgs : w5.heap.size < w14.heap.size:=C14.lt
  have O15 : Own w w15 b S2 (itD wkD 0) vp vl14 vg14:=⟨O14.below.trans (b15.mono O14.below.size),O14.hb,by rw [← hS2];exact O14.wat.more b15 (Nat.le_refl _) z15⟩
  have ag : S2.av w5.heap.size:=by rw [← hS2];exact .inl (.inr rfl)
  have as0 : S2.av w14.heap.size:=by rw [← hS2];exact .inr rfl
  have HTH : Hid (w15.there w14.heap.size 0 (statL (itD wkD 0) (.slice a14 (itD wkD 0).log.length c14)).toArray.size):=Lib.hid (Z15.there (n:=27) (Nat.le_refl _))
  have HON : Hid ((statL (itD wkD 0) (.slice a14 (itD wkD 0).log.length c14)).toArray.all (·.oneCell') = true):=Lib.hid (by kernel_rfl)
  obtain ⟨w16,hw16⟩ : ∃ x,w15.setCells w14.heap.size 0 (statL (itD wkD 0) (.slice a14 (itD wkD 0).log.length c14)).toArray.toList = x:=⟨_,rfl⟩
  have C16 : CellsAt w16 w14.heap.size (statL (itD wkD 0) (.slice a14 (itD wkD 0).log.length c14)):=by rw [← hw16];exact Z15.row _ rfl
  have G16:=grown_setCells w14.heap.size (statL (itD wkD 0) (.slice a14 (itD wkD 0).log.length c14)).toArray.toList 0 w15 w15 (Hself.out w15 w14.heap.size)
  rw [hw16] at G16
  have O16:=O15.side G16 hws hbs as0
  have D16:=far_cells (C14.call b15) G16 (by omega)
  have y0:=D16.at_ 0 rfl;have f0:=D16.2.1 0;have yz:=D16.lt
  have D17 : CellsAt (w16.setCell ⟨w5.heap.size,0,none⟩ (.string ⟨#[]⟩)) w5.heap.size (inL quI):=D16.set_ 0 (by decide) _
  have C17:=C16.other (c:=w5.heap.size) (by omega) 0 (.string ⟨#[]⟩)
  have O17:=O16.side (grown_setW w16 w5.heap.size 0 (.string ⟨#[]⟩)) Hwg.out Hbg.out ag
  have HW15:=Lib.hid hw15
  have HW16:=Lib.hid hw16
  have HC17:=Lib.hid C17
  have HD17:=Lib.hid D17
  have HO17:=Lib.hid O17
  have HSav:=Lib.hid hSav
  have Hbs:=Lib.hid hbs
  have Hws:=Lib.hid hws
  have Hgs:=Lib.hid hgs
  have Hag:=Lib.hid ag
  have Has:=Lib.hid as0
  clear e15 hW14 hg14 hO14 O14 C14 b15 z15 Z15 hS2 hSav hbs hws hgs O15 ag as0 C16 G16 O16 D16 D17 C17 O17 hw15 hw16 HO10 HC10
  go_upto_region 8 with (refine wpList_store_mid rfl 62 (.tmp 4) (.tmp 18) rfl w14.heap.size 0 (statL (itD wkD 0) (.slice a14 (itD wkD 0).log.length c14)).toArray rfl rfl (by rw [HW15.out];exact HTH.out) HI27.out HON.out ?_)
  rw [HW15.out,HW16.out]
  go_upto_region 9 with (fail)
  obtain ⟨w17,hw17⟩ : ∃ x,w16.setCell ⟨w5.heap.size,0,none⟩ (.string ⟨#[]⟩) = x:=⟨_,rfl⟩
  rw [hw17] at HC17 HD17 HO17 ⊢
  clear hw17 y0 f0 yz HW15 HW16 HTH HON
  go_wp2_with fail
  go_loopw [20] (fun i wr => WkRel w b w5.heap.size w14.heap.size S2 vp i wr) (fun i _ => 100 - (intOf i).toNat)
  case atStart => exact ⟨0,by omega,rfl,⟨_,_,HO17.out⟩,HD17.out,_,⟨_,_,rfl⟩,HC17.out⟩
  case round =>
    clear HC17 HD17 HO17
    obtain ⟨k,hk,rfl,⟨vl,vg,hO⟩,hD,v,⟨av,cv,hv⟩,hC⟩:=hrel
    subst hv
    have HO:=Lib.hid hO;have HDC:=Lib.hid hD;have HC:=Lib.hid hC
    by_cases hk1 : k < 100
    · have hk2 : (k : Int) < 100:=by omega
      clear hO hD hC
      go_upto_region 11 with (fail)
      go_wp2_with (refine wpList_load_mid rfl 48 (.tmp 3) rfl w5.heap.size 0 rfl _ _ HDC.out.range Tryz.underlying48 rfl HI12.out ?_)
      have hfr:=wframe_is (I:=quI) HO.out.wat (by rw [HSav.out];exact nom_ok.withAv _) (by rw [HSav.out];exact (it_good (frameL_good nom_ok wkI fly_good) k).withAv _) qu_ok
      have e20 : frameL S2 (itD wkD k) quI = itD wkD (k + 1):=by rw [HSav.out];exact frameL_av nomS _ _ _
      rw [e20] at hfr
      refine hfr.mono ?_
      clear hfr e20
      rintro e20 w20 ⟨v20,vl20,vg20,rfl,hW20,hg20,hO20,-⟩
      obtain ⟨a20,c20,hv20⟩:=own_sliceW hO20
      subst hv20
      have O20:=HO.out.frame hg20 hW20
      have D20:=far_cells HDC.out hg20 (Ne.symm Hbg.out)
      have C20:=far_cells HC.out hg20 (Ne.symm Hbs.out)
      have HTH : Hid (w20.there w14.heap.size 0 (statL (itD wkD (k + 1)) (.slice a20 (itD wkD (k + 1)).log.length c20)).toArray.size):=Lib.hid (C20.there (n:=27) (Nat.le_refl _))
      have HON : Hid ((statL (itD wkD (k + 1)) (.slice a20 (itD wkD (k + 1)).log.length c20)).toArray.all (·.oneCell') = true):=Lib.hid (by kernel_rfl)
      have G20:=grown_setCells w14.heap.size (statL (itD wkD (k + 1)) (.slice a20 (itD wkD (k + 1)).log.length c20)).toArray.toList 0 w20 w20 (Hself.out w20 w14.heap.size)
      have HC21:=Lib.hid (C20.row (statL (itD wkD (k + 1)) (.slice a20 (itD wkD (k + 1)).log.length c20)) rfl)
      have HD21:=Lib.hid (far_cells D20 G20 (by have:=Hgs.out;omega))
      have HO21:=Lib.hid (O20.side G20 Hws.out Hbs.out Has.out)
      clear hW20 hg20 hO20 O20 D20 C20 G20 HO HDC HC
      go_upto_region 12 with (refine wpList_store_mid rfl 62 (.tmp 4) (.tmp 24) rfl w14.heap.size 0 (statL (itD wkD (k + 1)) (.slice a20 (itD wkD (k + 1)).log.length c20)).toArray rfl rfl HTH.out HI27.out HON.out ?_)
      simp only [Act.put]
      go_wp2_with fail
      go_roundw
      case rel => exact ⟨k + 1,by omega,by go_num,⟨_,_,HO21.out⟩,HD21.out,_,⟨_,_,rfl⟩,HC21.out⟩
      case measure => simp [intOf];omega
    · obtain rfl : k = 100:=by omega
      rw [show ((100 : Nat) : Int) = 100 from rfl]
      obtain ⟨n1,n2,n3,n4,n5⟩:=wk_end
      have q0 : wr.cell? ⟨w14.heap.size,17,none⟩ = some (.int .i64 2):=by rw [hC.at_ 17 rfl,n1]
      have q1 : wr.cell? ⟨w14.heap.size,21,none⟩ = some (.int .i32 327680):=by rw [hC.at_ 21 rfl,n2]
      have q2 : wr.cell? ⟨w14.heap.size,19,none⟩ = some (.int .i32 (itD wkD 100).pos):=hC.at_ 19 rfl
      have q3 : wr.cell? ⟨w14.heap.size,26,none⟩ = some (.slice av 0 cv):=by rw [hC.at_ 26 rfl,n5];rfl
      have qz:=hC.lt
      obtain ⟨P,hP⟩ : ∃ x,(itD wkD 100).pos = x:=⟨_,rfl⟩
      rw [hP] at q2 n3 n4
      have n6 : P > 262144:=n3
      have HB:=Lib.hid hO.below
      have d1 : decide (262144 < P) = true:=decide_eq_true n3
      have d2 : decide (P < 393216) = true:=decide_eq_true n4
      clear hO hD hC n1 n2 n5 hP HDC HC HO n6 n3 n4
      go_wp2_with fail
      go_ret
      exact ⟨rfl,HB.out⟩
namespace Open
def flatE (P : Program) (e : TypeId) : Bool:=match P.underlying e with | some (.int _) => true | some .bool => true | _ => false
theorem flatE_no {P : Program} {e : TypeId} (h : flatE P e = true) : P.underlying e ≠ some .string:=fun h2 => by unfold flatE at h;rw [h2] at h;cases h
def flatW (P : Program) : Nat → TypeId → Option (List TypeId)
  | 0,_ => none
  | n + 1,t =>
    match P.underlying t with
    | some (.struct fs) => flatFields (flatW P n) P.cellsOf 0 (fs.toList.map fun f => (f.type,f.offset))
    | some (.array k e) => if flatE P e = true ∧ P.cellsOf e = 1 then some (List.replicate k e) else none
    | some .bool => some [t]
    | some (.int _) => some [t]
    | some .string => some [t]
    | _ => none
section
variable {H : Type} {enc : TypeId × Value → H} {P : Program} {w : World} {base : Nat} {spare : Nat → Bool} {held : Bool}
def LeafW (enc : TypeId × Value → H) (P : Program) (w : World) (base : Nat) (spare : Nat → Bool) (held : Bool) (t : TypeId) (cs : List Value) : Prop :=
  ∃ m y,DataW.trod enc P w base spare held m t cs = some y ∧ (P.underlying t = some .string → ∀ n ∈ y.1.weights P t,n ≤ reachBytes)
def LeafsW (enc : TypeId × Value → H) (P : Program) (w : World) (base : Nat) (spare : Nat → Bool) (held : Bool) : List TypeId → List Value → Prop
  | [],[] => True
  | t :: ts,c :: cs => LeafW enc P w base spare held t [c] ∧ LeafsW enc P w base spare held ts cs
  | _,_ => False
theorem leafsW_nil {cs : List Value} (h : LeafsW enc P w base spare held [] cs) : cs = []:=by
  cases cs with
  | nil => rfl
  | cons c cs => exact absurd h (by simp [LeafsW])
theorem leafsW_cons {t : TypeId} {ts : List TypeId} {cs : List Value} (h : LeafsW enc P w base spare held (t :: ts) cs) :
    ∃ c r,cs = c :: r ∧ LeafW enc P w base spare held t [c] ∧ LeafsW enc P w base spare held ts r:=by
  cases cs with
  | nil => exact absurd h (by simp [LeafsW])
  | cons c cs => exact ⟨c,cs,rfl,h.1,h.2⟩
theorem LeafW.plain {t : TypeId} {cs : List Value} (h : LeafW enc P w base spare held t cs) : ∃ m y,DataW.trod enc P w base spare held m t cs = some y:=by
  obtain ⟨m,y,h,-⟩:=h;exact ⟨m,y,h⟩
theorem leafsW_append {ts us : List TypeId} {cs ds : List Value} (h : LeafsW enc P w base spare held ts cs) (k : LeafsW enc P w base spare held us ds) :
    LeafsW enc P w base spare held (ts ++ us) (cs ++ ds):=by
  induction ts generalizing cs with
  | nil => obtain rfl:=leafsW_nil h;simpa using k
  | cons t ts ih => obtain ⟨c,r,rfl,hc,hr⟩:=leafsW_cons h;exact ⟨hc,ih hr⟩
theorem leafsW_fields {g : TypeId → Option (List TypeId)} {size : TypeId → Nat} {cs : List Value} (all : List (TypeId × Nat)) (o : Nat) (ts : List TypeId)
    (hg : ∀ t l sub,g t = some l → sub.length = l.length → LeafS enc P w base spare held t sub → LeafsW enc P w base spare held l sub)
    (hf : flatFields g size o all = some ts) (hlen : cs.length = o + ts.length)
    (hr : ∀ x,x ∈ all → LeafS enc P w base spare held x.1 ((cs.drop x.2).take (size x.1))) :
    LeafsW enc P w base spare held ts (cs.drop o):=by
  induction all generalizing o ts with
  | nil =>
    simp only [flatFields,Option.some.injEq] at hf
    subst hf
    simp only [List.length_nil,Nat.add_zero] at hlen
    rw [List.drop_of_length_le (by omega)]
    trivial
  | cons x all ih =>
    obtain ⟨t,off⟩:=x
    simp only [flatFields] at hf
    by_cases h1 : off = o
    · rw [if_pos h1] at hf
      subst h1
      cases h2 : g t with
      | none => rw [h2] at hf;simp at hf
      | some l =>
        rw [h2] at hf
        simp only at hf
        by_cases h3 : l.length = size t
        · rw [if_pos h3] at hf
          obtain ⟨us,h4,rfl⟩:=Option.map_eq_some_iff.1 hf
          simp only [List.length_append] at hlen
          have h5:=hr (t,off) (List.mem_cons_self)
          have h6:=hg t l ((cs.drop off).take (size t)) h2 (by simp;omega) h5
          have h7:=ih (off + l.length) us h4 (by omega) (fun x hx => hr x (List.mem_cons_of_mem _ hx))
          have h8:=leafsW_append h6 h7
          rwa [← h3,← List.drop_drop,List.take_append_drop] at h8
        · rw [if_neg h3] at hf;simp at hf
    · rw [if_neg h1] at hf;simp at hf
theorem leafsW_row {e : TypeId} (he : P.underlying e ≠ some .string) : ∀ (k : Nat) (cs : List Value),cs.length = k → (∀ i,i < k → ∃ m y,DataW.trod enc P w base spare held m e ((cs.drop i).take 1) = some y) → LeafsW enc P w base spare held (List.replicate k e) cs
  | 0,cs,hl,_ => by obtain rfl:=List.length_eq_zero_iff.1 hl;trivial
  | k + 1,[],hl,_ => by simp at hl
  | k + 1,c :: cs,hl,h => by
    obtain ⟨m,y,h0⟩:=h 0 (by omega)
    refine ⟨⟨m,y,by simpa using h0,fun h => absurd h he⟩,leafsW_row he k cs (by simpa using hl) (fun i hi => ?_)⟩
    have:=h (i + 1) (by omega)
    simpa using this
theorem leafsW_of (n : Nat) : ∀ (t : TypeId) (ts : List TypeId) (cs : List Value),
    flatW P n t = some ts → cs.length = ts.length → LeafS enc P w base spare held t cs → LeafsW enc P w base spare held ts cs:=by
  induction n with
  | zero => intro t ts cs h;simp [flatW] at h
  | succ n ih =>
    intro t ts cs h hlen hlf
    have leaf : some [t] = some ts → LeafsW enc P w base spare held ts cs:=by
      intro h2
      simp only [Option.some.injEq] at h2
      subst h2
      obtain ⟨m,y,h3,h4⟩:=hlf
      match cs,hlen with
      | [c],_ => exact ⟨⟨m,y,h3,fun _ => h4⟩,trivial⟩
    simp only [flatW] at h
    split at h
    · rename_i fs hu
      obtain ⟨m,y,ht,hw⟩:=hlf
      obtain ⟨xs,m',rfl,rfl,hl,hsz,hx⟩:=DataW.trod_struct hu ht
      have:=leafsW_fields (cs:=cs) _ 0 ts (fun t' l sub hl' hs h2 => ih t' l sub hl' hs h2) h (by omega) (by
        intro x hx'
        obtain ⟨f,hf,rfl⟩:=List.mem_map.1 hx'
        obtain ⟨i,hi,hfi⟩:=List.getElem_of_mem hf
        have hfi' : fs[i]? = some f:=by simp at hi hfi;simp [hi,hfi]
        have h3:=hx i f hfi'
        have h4 : i < xs.length:=by simp at hi;omega
        rw [List.getElem?_eq_getElem h4] at h3
        refine ⟨_,_,h3,fun k hk => hw k ?_⟩
        simp only [DataW.weights,hu]
        exact DataW.weights_mem_each (j:=i) (t:=f.type) (d:=xs[i].1) (by rw [List.getElem?_map,List.getElem?_eq_getElem hi,hfi];rfl) (by rw [List.getElem?_map,List.getElem?_eq_getElem h4];rfl) k hk)
      simpa using this
    · rename_i k e hu
      by_cases hc : flatE P e = true ∧ P.cellsOf e = 1
      · rw [if_pos hc] at h
        simp only [Option.some.injEq] at h
        subst h
        obtain ⟨m,y,ht,-⟩:=hlf
        obtain ⟨xs,m',rfl,rfl,hl,hsz,hx⟩:=DataW.trod_array hu ht
        refine leafsW_row (flatE_no hc.1) k cs (by simpa using hlen) (fun i hi => ?_)
        have h4:=hx i hi
        rw [List.getElem?_eq_getElem (by omega),hc.2,Nat.mul_one] at h4
        exact ⟨_,_,h4⟩
      · rw [if_neg hc] at h;cases h
    · exact leaf h
    · exact leaf h
    · exact leaf h
    · simp at h
theorem leafW_string {t : TypeId} {c : Value} (ht : P.underlying t = some .string) (h : LeafW enc P w base spare held t [c]) : ∃ s : ByteArray,c = .string s ∧ s.size ≤ 140737488351232:=by
  obtain ⟨m,y,h,hw⟩:=h
  obtain ⟨s,h1,h2,h3⟩:=DataW.trod_string ht h
  simp only [List.cons.injEq,and_true] at h1
  refine ⟨s,h1,?_⟩
  have h4:=hw ht s.data.toList.length (by rw [h2];simp [DataW.weights])
  simpa [reachBytes] using h4
end
section
variable {H : Type} {enc : TypeId × Value → H} {P : Program} {w : World} {base : Nat} {held : Bool}
theorem weights_mem_all {e : TypeId} : ∀ {ds : List (DataW H)} {j : Nat} {d : DataW H},ds[j]? = some d → ∀ n ∈ d.weights P e,n ∈ DataW.weightsAll P e ds
  | [],j,d,hd,n,hn => by simp at hd
  | d0 :: ds,0,d,hd,n,hn => by
    simp only [List.getElem?_cons_zero,Option.some.injEq] at hd
    subst hd
    simp only [DataW.weightsAll,List.mem_append]
    exact .inl hn
  | d0 :: ds,j + 1,d,hd,n,hn => by
    simp only [List.getElem?_cons_succ] at hd
    simp only [DataW.weightsAll,List.mem_append]
    exact .inr (weights_mem_all hd n hn)
theorem leaf_recsW {α : Type} [Inhabited α] {t e : TypeId} {c : Value} {ts : List TypeId} (k : Nat) (lay : α → List Value) (ok : α → Prop) (n : Nat) (ht : P.underlying t = some (.slice e)) (hfl : flatW P n e = some ts) (hc : P.cellsOf e = ts.length) (hk : ts.length = k)
    (dec : ∀ r,LeafsW enc P w base (fun _ => true) held ts r → ∃ x,r = lay x ∧ ok x)
    (h : LeafS enc P w base (fun _ => true) held t [c]) :
    ∃ a len cap xs,c = .slice a len cap ∧ IsRecs k lay ok w a len cap xs:=by
  obtain ⟨m,y,h,hw⟩:=h
  rcases DataW.trod_slice ht h with ⟨hcs,_⟩ | ⟨a,len,cap,elems,rest,m',_,hcs,hx,hb,hl,hm,hlen,hel,hsp,_⟩
  · simp only [List.cons.injEq,and_true] at hcs
    exact ⟨_,_,_,[],hcs,.inl ⟨rfl,rfl,rfl,rfl⟩⟩
  · simp only [List.cons.injEq,and_true] at hcs
    obtain ⟨hrl,hr⟩:=hsp rfl
    have hy1 : y.1 = .slice (elems.map (·.1)) (rest.map (·.1)):=congrArg Prod.fst hx
    rw [hy1] at hw
    simp only [DataW.weights,ht] at hw
    have each0 : ∀ i,i < cap → ∃ r,(w.cells? base (a.add (i * ts.length)) ts.length = some r) ∧ LeafS enc P w base (fun _ => true) held e r:=by
      intro i hi
      have h1 : ∃ z,(w.cells? base (a.add (i * P.cellsOf e)) (P.cellsOf e)).bind (DataW.trod enc P w base (fun _ => true) held m' e) = some z ∧ ∀ k ∈ z.1.weights P e,k ≤ reachBytes:=by
        by_cases h2 : i < len
        · refine ⟨elems[i]'(by omega),by rw [hel i h2,List.getElem?_eq_getElem (by omega)],fun q hq => hw q ?_⟩
          refine List.mem_cons_of_mem _ (List.mem_append_left _ (weights_mem_all (j:=i) (d:=(elems[i]'(by omega)).1) ?_ q hq))
          rw [List.getElem?_map,List.getElem?_eq_getElem (by omega)];rfl
        · have h3:=hr (i - len) (by omega)
          rw [show len + (i - len) = i by omega,List.getElem?_eq_getElem (by omega)] at h3
          refine ⟨_,h3,fun q hq => hw q ?_⟩
          refine List.mem_cons_of_mem _ (List.mem_append_right _ (weights_mem_all (j:=i - len) (d:=(rest[i - len]'(by omega)).1) ?_ q hq))
          rw [List.getElem?_map,List.getElem?_eq_getElem (by omega)];rfl
      obtain ⟨z,h1,hz⟩:=h1
      rw [hc,Option.bind_eq_some_iff] at h1
      obtain ⟨r,h2,h3⟩:=h1
      exact ⟨r,h2,m',z,h3,hz⟩
    have each : ∀ i : Nat,∃ y : α,i < cap → ok y ∧ ∀ j,j < k → w.cell? ((a.add (i * k)).add j) = (lay y)[j]?:=by
      intro i
      by_cases hi : i < cap
      · obtain ⟨r,h2,h3⟩:=each0 i hi
        have h4:=World.cells?_some h2
        obtain ⟨z,rfl,h5⟩:=dec r (leafsW_of n e ts r hfl h4.2.1 h3)
        refine ⟨z,fun _ => ⟨h5,fun j hj => ?_⟩⟩
        rw [← hk] at hj ⊢
        exact h4.2.2 j hj
      · exact ⟨default,fun h => absurd h hi⟩
    refine ⟨_,_,_,(List.range cap).map (fun i => Classical.choose (each i)),hcs,.inr ⟨a,rfl,hl,hm,by simp,fun i y hy => ?_⟩⟩
    rw [List.getElem?_map] at hy
    by_cases hi : i < cap
    · rw [List.getElem?_range hi] at hy
      simp only [Option.map_some,Option.some.injEq] at hy
      subst hy
      exact Classical.choose_spec (each i) hi
    · rw [List.getElem?_eq_none (by simp;omega)] at hy
      simp at hy
end
end Open
instance : Inhabited Inp:=⟨⟨⟨#[]⟩,0,0,0,fun _ => 0,false,0,false,0⟩⟩
theorem inp_dec {H : Type} {enc : TypeId × Value → H} {w : World} {base : Nat} {held : Bool} (r : List Value) (h : Open.LeafsW enc Tryz.prog w base (fun _ => true) held [9,21,21,21,3,3,3,3,4,3,4,3] r) : ∃ x,r = inL x ∧ InpOk x:=by
  obtain ⟨c0,r0,rfl,y0,h0⟩:=Open.leafsW_cons h
  obtain ⟨c1,r1,rfl,y1,h1⟩:=Open.leafsW_cons h0
  obtain ⟨c2,r2,rfl,y2,h2⟩:=Open.leafsW_cons h1
  obtain ⟨c3,r3,rfl,y3,h3⟩:=Open.leafsW_cons h2
  obtain ⟨c4,r4,rfl,y4,h4⟩:=Open.leafsW_cons h3
  obtain ⟨c5,r5,rfl,y5,h5⟩:=Open.leafsW_cons h4
  obtain ⟨c6,r6,rfl,y6,h6⟩:=Open.leafsW_cons h5
  obtain ⟨c7,r7,rfl,y7,h7⟩:=Open.leafsW_cons h6
  obtain ⟨c8,r8,rfl,y8,h8⟩:=Open.leafsW_cons h7
  obtain ⟨c9,r9,rfl,y9,h9⟩:=Open.leafsW_cons h8
  obtain ⟨c10,r10,rfl,y10,h10⟩:=Open.leafsW_cons h9
  obtain ⟨c11,r11,rfl,y11,h11⟩:=Open.leafsW_cons h10
  obtain rfl:=Open.leafsW_nil h11
  obtain ⟨s,rfl,hs⟩:=Open.leafW_string Tryz.underlying9 y0
  obtain ⟨p0,rfl,q0⟩:=Open.leaf_int Tryz.underlying21 y1.plain
  obtain ⟨p1,rfl,q1⟩:=Open.leaf_int Tryz.underlying21 y2.plain
  obtain ⟨ld,rfl,q2⟩:=Open.leaf_int Tryz.underlying21 y3.plain
  obtain ⟨f0,rfl,q3⟩:=Open.leaf_int Tryz.underlying3 y4.plain
  obtain ⟨f1,rfl,q4⟩:=Open.leaf_int Tryz.underlying3 y5.plain
  obtain ⟨f2,rfl,q5⟩:=Open.leaf_int Tryz.underlying3 y6.plain
  obtain ⟨f3,rfl,q6⟩:=Open.leaf_int Tryz.underlying3 y7.plain
  obtain ⟨gr,rfl⟩:=Open.leaf_bool Tryz.underlying4 y8.plain
  obtain ⟨ak,rfl,q7⟩:=Open.leaf_int Tryz.underlying3 y9.plain
  obtain ⟨tr,rfl⟩:=Open.leaf_bool Tryz.underlying4 y10.plain
  obtain ⟨rs,rfl,q8⟩:=Open.leaf_int Tryz.underlying3 y11.plain
  refine ⟨⟨s,p0,p1,ld,sel f0 f1 f2 f3,gr,ak,tr,rs⟩,rfl,⟨hs,bounds_i32 q0,bounds_i32 q1,bounds_i32 q2,fun k hk => ?_,bounds_i64 q7,bounds_i64 q8⟩⟩
  rcases (by omega : k = 0 ∨ k = 1 ∨ k = 2 ∨ k = 3) with rfl | rfl | rfl | rfl
  · exact bounds_i64 q3
  · exact bounds_i64 q4
  · exact bounds_i64 q5
  · exact bounds_i64 q6
theorem inL_len (x : Inp) : (inL x).length = 12:=rfl
noncomputable def runD (S : Stp) (xs : List Inp) : Nat → Dyn
  | 0 => newD
  | k + 1 => frameL S (runD S xs k) (xs.getD k default)
theorem stp_zero {S : Stp} (h : StpOk S) : S.low ≤ 0 ∧ 0 ≤ S.high:=by have:=h.ram;unfold ramBad at this;omega
theorem runD_good {S : Stp} (h : StpOk S) (xs : List Inp) : ∀ k,DynOk S (runD S xs k)
  | 0 => newD_good h (stp_zero h)
  | k + 1 => frameL_good h _ (runD_good h xs k)
theorem recs_row {xs : List Inp} {la : Option Addr} {lc k : Nat} {w : World} (h : RecsAt 12 inL w (.slice la xs.length lc) xs) (hk : k < xs.length) : ∃ b o,la = some ⟨b,o,none⟩ ∧ w.rangeAt b (o + k * 12) (inL (xs.getD k default)) ∧ b < w.heap.size:=by
  rcases h with ⟨h,-⟩ | ⟨-,b,o,c,h1,h2,h3,h4⟩
  · rw [h] at hk;simp at hk
  · cases h1
    have hx : xs[k]? = some (xs.getD k default):=by rw [List.getD_eq_getElem?_getD,List.getElem?_eq_getElem hk];rfl
    refine ⟨b,o,rfl,fun j v hj => ?_,?_⟩
    · have hj2 : j < 12:=(List.getElem?_eq_some_iff.1 hj).1
      rw [h4 k _ hx j hj2];exact hj
    · have h5:=h4 k _ hx 0 (by omega)
      exact World.block_lt_of_cell? _ _ (h5.trans (rfl : (inL (xs.getD k default))[0]? = some (.string (xs.getD k default).cmd)))
end Go.Proofs.YtlagmebnjagoaaaGreat
