/- world.Frame, put together. -/
import Derived.Test.YtpkiepjmcepnoaaGreatDoorPtX
import Derived.Test.YtpkiepjmcepnoaaGreatDoorPtY
import Derived.Test.YtpkiepjmcepnoaaGreatDoorPtZa
import Derived.Test.YtpkiepjmcepnoaaGreatDoorPtZb
import Derived.Test.YtpkiepjmcepnoaaGreatDoorPtZd
import Derived.Test.YtpkiepjmcepnoaaGreatDoorPtZc
import Derived.Test.YtpkiepjmcepnoaaGreatDoorPtZe
set_option maxHeartbeats 16000000
set_option maxRecDepth 100000
namespace Go.Proofs.YtpkiepjmcepnoaaGreatDoor
open Go.ChangeShapes Go.WideShapes Go.ChangeAt Go.RowKit
set_option linter.unusedVariables false
/-- what operate does (shown in another text) -/
def OpIs:Prop:=∀(b:Nat) (S:Stp) (D:Dyn) (I:Inp) (vp vl vg:Value) (w:World),WAt w b S D vp vl vg→StpOk S→DynOk S D→InpOk I→
    Calls Tryz.prog 82 #[ptr b,inV I] w (OpPost b S D I vp vl w)
def stz:List Value:=[.int .i64 0,.int .i64 0,.bool false,.bool false,.int .i64 0,.bool false,.int .i64 0,.int .i64 0,.bool false,.int .i64 0,.int .i64 0,.bool false,.int .i64 0,.int .i64 0,.bool false,.int .i64 0,.int .i64 0,.int .i64 0,.bool false,.int .i32 0,.int .i32 0,.int .i32 0,.int .i32 0,.int .i32 0,.int .i32 0,.int .i32 0,.slice none 0 0]
/-- behind a frame: the state, and a list of what was noted that is new memory -/
def FrmPost (b:Nat) (S:Stp) (D:Dyn) (vp:Value) (w:World) (e:Ending) (w':World):Prop:=∃v vl' vg',e=.returned (statV D v)∧WAt w' b S D vp vl' vg'∧w.grownBy w' (some b)∧w'.ownsRow w.heap.size 143 4 v D.log.length (D.log.flatMap entLay)∧∀c,v.ownBlock=some c→WAt w' b (S.more c) D vp vl' vg'
theorem frm_post {w w7 w9:World} {b:Nat} {S:Stp} {D:Dyn} {vp vl vg v:Value} {I:Inp} {L:List Value} (h:OpAt w7 w b (S.more (w.heap.size+1)) D vp vl vg I [(w.heap.size+1,L)]) (hb:b<w.heap.size) (hz:w.heap.size≤w7.heap.size) (hb9:Below w7.heap.size w7 w9) (hO:w9.ownsRow w7.heap.size 143 4 v D.log.length (D.log.flatMap entLay)):
  FrmPost b S D vp w (.returned (statV D v)) (w9.setCells (w.heap.size+1) 0 (statL D v)):=by
 have hs:w.heap.size+1<w7.heap.size:=(h.o _ (.head _)).2.lt
 have G:∀x:World,x.grownBy (x.setCells (w.heap.size+1) 0 (statL D v)) (some (w.heap.size+1)):=fun x=>grown_setCells _ _ _ x x ⟨rfl,rfl,rfl,Nat.le_refl _,fun _ _ _=>rfl⟩
 have hne:b≠w.heap.size+1:=by omega
 have G9:w.grownBy (w9.setCells (w.heap.size+1) 0 (statL D v)) (some b):=by
  have h9:=grownBy_two h.r.gr (grown_of_below hb9 (some b))
  refine⟨(G w9).os.trans h9.os,(G w9).tape.trans h9.tape,(G w9).output.trans h9.output,Nat.le_trans h9.size (G w9).size,fun k hk hr=>?_⟩
  rw[(G w9).block k (Nat.lt_of_lt_of_le hk h9.size) (by simp;omega)]
  exact h9.block k hk hr
 refine⟨v,vl,vg,rfl,?_,G9,own_mono4 (own_setCells hO hs 0 _) hz,fun c hc=>?_⟩
 ·exact(((h.r.wat.call hb9).far (G w9) hne (.inr rfl)).less (a:=S.av) (fun x hx=>.inl hx))
 ·have hlt:=hO.lt c hc
  have k:=(h.r.wat.more (c:=c) hb9 hlt.1 hlt.2).far (G w9) hne (.inl (.inr rfl))
  exact k.less (a:=fun x=>S.av x∨x=c) (fun x hx=>hx.elim (fun e=>.inl (.inl e)) .inr)
theorem frame_of (hop:OpIs) {b:Nat} {S:Stp} {D:Dyn} {I:Inp} {vp vl vg:Value} {w:World} (h:WAt w b S D vp vl vg) (hS:StpOk S) (hD:DynOk S D) (hI:InpOk I):
  Calls Tryz.prog 60 #[ptr b,inV I] w (FrmPost b S (frameL S D I) vp w):=by
 have HOP:=qh hop
 have HI:=qh hI
 obtain⟨w3,hw3⟩:∃x,(w.alloc (.cells #[.string I.cmd,.int .i32 I.p0,.int .i32 I.p1,.int .i32 I.load,.int .i64 (I.f 0),.int .i64 (I.f 1),.int .i64 (I.f 2),.int .i64 (I.f 3),.bool I.ground,.int .i64 I.ask,.bool I.tries,.int .i64 I.reset] 55)).alloc (.cells #[.int .i64 0,.int .i64 0,.bool false,.bool false,.int .i64 0,.bool false,.int .i64 0,.int .i64 0,.bool false,.int .i64 0,.int .i64 0,.bool false,.int .i64 0,.int .i64 0,.bool false,.int .i64 0,.int .i64 0,.int .i64 0,.bool false,.int .i32 0,.int .i32 0,.int .i32 0,.int .i32 0,.int .i32 0,.int .i32 0,.int .i32 0,.slice none 0 0] 119)=x:=⟨_,rfl⟩
 have b3:Below w.heap.size w w3:=hw3▸(((bLr).alloc (Nat.le_refl _) _).alloc (by simp) _)
 have z3:w3.heap.size=w.heap.size+1+1:=by rw[←hw3];simp
 obtain⟨S2,hS2⟩:∃x,S.more (w.heap.size+1)=x:=⟨_,rfl⟩
 have HS2e:Hid (S.withAv (fun x=>S.av x∨x=w.heap.size+1)=S2):=qh hS2
 have HS2f:Hid (S.more (w.heap.size+1)=S2):=qh hS2
 have HS2:Hid (StpOk S2):=qh (by rw[←hS2];exact hS.withAv _)
 have HD2:Hid (DynOk S2 D):=qh (by rw[←hS2];exact hD.withAv _)
 have R3:OpAt w3 w b S2 D vp vl vg I [(w.heap.size+1,stz)]:=⟨⟨by rw[←hS2];exact h.more b3 (by omega) (by omega),hw3▸(CellsAt.new w (inL I) _ _ rfl).alloc _,grown_of_below b3 (some b)⟩,fun p hp=>by
  rcases List.mem_cons.1 hp with rfl|hp
  ·exact⟨by show w.heap.size≤_;omega,hw3▸CellsAt.new' (by simp) rfl⟩
  ·cases hp⟩
 have hbw:=h.lt
 have HR3:=qh R3
 have HW3:=qh hw3
 have HI12:Hid ((Tryz.prog.info? 55).map (·.size)=some 12):=qh (by kernel_rfl)
 have HI27:Hid ((Tryz.prog.info? 119).map (·.size)=some 27):=qh (by kernel_rfl)
 have y0:w3.cell? ⟨b,27,none⟩=some (.int .i64 D.frame):=R3.r.wat.c.at_ 27 rfl
 have f0:=R3.r.wat.c.2.1 27;have yz:=R3.r.wat.lt
 have hfr:=hD.frame
 have hwr:IntKind.i64.wrap (D.frame+1)=D.frame+1:=IntWalk.i64_in _ (by omega)
 obtain⟨DD,hDD⟩:∃x,frameL S D I=x:=⟨_,rfl⟩
 have HDD:=qh hDD
 have HGD:Hid (DynOk S2 DD):=qh (by rw[←hDD,←hS2];exact(frameL_good hS I hD).withAv _)
 have HT0:Hid (frameL S D I=movedD S (triedD S (oilD S (hearD (tickF D) I) I) I) I):=qh rfl
 rw[hDD]
 clear h hS hD hI hw3 b3 R3 hop hDD hS2
 go_enter Tryz.func60,Tryz.ntmps60
 go_upto_region 1 with(fail)
 rw[HW3.out]
 clear HW3
 obtain⟨fr,hfe⟩:∃x,min 1073741824 (D.frame+1)=x:=⟨_,rfl⟩
 have hmin:(if D.frame+1<1073741824 then D.frame+1 else 1073741824)=fr:=by rw[←hfe];omega
 go_upto_region 2 with(fail)
 have A4:=HR3.out.grow hbw (grown_setW w3 b 27 (.int .i64 fr)) (HR3.out.r.wat.set (D':=tickF D) (by decide) (by rw[←hfe];rfl) rfl rfl)
 obtain⟨w4,hw4⟩:∃x,w3.setCell ⟨b,27,none⟩ (.int .i64 fr)=x:=⟨_,rfl⟩
 rw[hw4]at A4⊢
 have HA4:=qh A4
 clear A4 hw4 hmin hfe HR3 y0 f0 yz hwr hfr
 go_wp2_with (refine wpList_load_mid rfl 55 (.tmp 3) rfl w.heap.size 0 rfl [.string I.cmd,.int .i32 I.p0,.int .i32 I.p1,.int .i32 I.load,.int .i64 (I.f 0),.int .i64 (I.f 1),.int .i64 (I.f 2),.int .i64 (I.f 3),.bool I.ground,.int .i64 I.ask,.bool I.tries,.int .i64 I.reset] _ HA4.out.r.ci.range Tryz.underlying55 rfl HI12.out ?_)
 refine(hear_is HA4.out.r.wat (tickF_good HD2.out) HI.out).mono ?_
 rintro e5 w5 ⟨rfl,vl5,vg5,hW5,hg5⟩
 have A5:=HA4.out.grow hbw hg5 hW5
 obtain⟨D5,hD5⟩:∃x,hearD (tickF D) I=x:=⟨_,rfl⟩
 have HG5:Hid (DynOk S2 D5):=qh (by rw[←hD5];exact hearD_good I (tickF_good HD2.out))
 rw[hD5]at A5 HT0
 have HA5:=qh A5
 have o0:w5.cell? ⟨b,39,none⟩=some (.bool D5.oa):=A5.r.wat.c.at_ 39 rfl
 have o1:w5.cell? ⟨b,40,none⟩=some (.bool D5.ob):=A5.r.wat.c.at_ 40 rfl
 have t0:=A5.r.wat.c.at_ 23 rfl;have t1:=A5.r.wat.c.at_ 24 rfl
 have tz:=A5.r.wat.lt
 have i1:w5.cell? ⟨w.heap.size,1,none⟩=some (.int .i32 I.p0):=A5.r.ci.at_ 1 rfl
 have i2:w5.cell? ⟨w.heap.size,2,none⟩=some (.int .i32 I.p1):=A5.r.ci.at_ 2 rfl
 have iz:=A5.r.ci.lt
 obtain⟨xa,hxa⟩:∃x,tripB D5.oa I.p0 S2.oh S2.ol=x:=⟨_,rfl⟩
 obtain⟨xb,hxb⟩:∃x,tripB D5.ob I.p1 S2.oh S2.ol=x:=⟨_,rfl⟩
 have HOI:Hid (∀W,Calls Tryz.prog 30 #[.agg #[.bool D5.oa,.bool D5.ob],.agg #[.int .i32 I.p0,.int .i32 I.p1],.int .i32 S2.oh,.int .i32 S2.ol] W fun e w'=>e=.returned (.tuple #[.agg #[.bool xa,.bool xb],.int .i64 0])∧Below W.heap.size W w'):=qh (fun W=>by rw[←hxa,←hxb];exact oilStep_is _ _ _ _ _ _ W HS2.out.oil)
 have HXA:=qh hxa;have HXB:=qh hxb
 clear hW5 hg5 A5 HA4 hD5 hxa hxb HD2
 go_upto_region 3 with(fail)
 refine wp_region_any (by kernel_rfl) ?_
 change wpAny _ _ _ _ _ _ _ (World.drew _)
 refine wpAny_take (i:=0) (v:=ptr b) rfl (by kernel_rfl) (by kernel_rfl) (by kernel_rfl) (fun _ _ _ h=>h) (Or.inl ⟨by rfl,by intro W;go_simp⟩) ?_
 refine wpAny_head 1 17 7 (by kernel_rfl) rfl ?_
 simp only[List.drop_succ_cons,List.drop_zero,List.take_succ_cons,List.take_zero]
 repeat still_step
 refine wpStill_nil ?_
 refine wpAny_ready (rs:=[17]) (by kernel_rfl) (by simp) (AllReady.cons rfl (fun K hK=>?_) AllReady.nil)
 go_simp
 refine(HOI.out _).mono ?_
 rintro e6 w6 ⟨rfl,hb6⟩
 have hbb6:Below w5.heap.size w5 w6:=((Below.refl w5.heap.size w5).drew).trans (hb6.mono (by simp))
 have A6:=HA5.out.call hbw hbb6
 have x0:w6.cell? ⟨b,39,none⟩=some (.bool D5.oa):=A6.r.wat.c.at_ 39 rfl
 have x1:w6.cell? ⟨b,40,none⟩=some (.bool D5.ob):=A6.r.wat.c.at_ 40 rfl
 have xf0:=A6.r.wat.c.2.1 39;have xf1:=A6.r.wat.c.2.1 40;have xz:=A6.r.wat.lt
 have HA6:=qh A6
 clear A6 hb6 hbb6 HOI HA5 o0 o1 t0 t1 tz i1 i2 iz
 refine hK _ _ ?_
 clear hK K
 refine wpAny_ready (rs:=[18]) (by kernel_rfl) (by simp) (AllReady.cons rfl (fun K hK=>?_) AllReady.nil)
 go_simp
 refine hK _ _ ?_
 clear hK K
 refine wpAny_take (i:=19) (v:=.agg #[.bool xa,.bool xb]) rfl (by kernel_rfl) (by kernel_rfl) (by kernel_rfl) (fun _ _ _ h=>h) (Or.inl ⟨by rfl,by intro W;go_simp⟩) ?_
 refine wpAny_take (i:=20) (v:=.int .i64 0) rfl (by kernel_rfl) (by kernel_rfl) (by kernel_rfl) (fun _ _ _ h=>h) (Or.inl ⟨by rfl,by intro W;go_simp⟩) ?_
 refine wpAny_ready (rs:=[21]) (by kernel_rfl) (by simp) (AllReady.cons rfl (fun K hK=>?_) AllReady.nil)
 go_simp
 refine hK _ _ ?_
 clear hK K
 refine wpAny_ready (rs:=[22]) (by kernel_rfl) (by simp) (AllReady.cons rfl (fun K hK=>?_) AllReady.nil)
 go_simp
 refine hK _ _ ?_
 clear hK K
 refine wpAny_ready (rs:=[23]) (by kernel_rfl) (by simp) (AllReady.cons rfl (fun K hK=>?_) AllReady.nil)
 go_simp
 refine hK _ _ ?_
 clear hK K
 refine⟨by kernel_rfl,?_⟩
 have A7:=HA6.out.grow hbw (grown_setOil w6 b xa xb) (HA6.out.r.wat.oilSet xa xb)
 obtain⟨w7,hw7⟩:∃x,setOil w6 b xa xb=x:=⟨_,rfl⟩
 rw[hw7]at A7
 dsimp only[setOil]at hw7
 rw[hw7]
 obtain⟨D7,hD7⟩:∃x,oilD S D5 I=x:=⟨_,rfl⟩
 have e7:({D5 with oa:=xa,ob:=xb}:Dyn)=D7:=by rw[←hD7,←oilD_av S (fun x=>S.av x∨x=w.heap.size+1),HS2e.out,←HXA.out,←HXB.out];rfl
 rw[e7]at A7
 rw[hD7]at HT0
 have HG7:Hid (DynOk S2 D7):=qh (by rw[←hD7,←oilD_av S (fun x=>S.av x∨x=w.heap.size+1),HS2e.out];exact oilD_good I HG5.out)
 have HA7:=qh A7
 have i10:w7.cell? ⟨w.heap.size,10,none⟩=some (.bool I.tries):=A7.r.ci.at_ 10 rfl
 have iz:=A7.r.ci.lt
 clear A7 hw7 HA6 x0 x1 xf0 xf1 xz e7 hD7 HG5 HXA HXB
 obtain⟨tr,htr⟩:∃x,I.tries=x:=⟨_,rfl⟩
 rw[htr]at i10
 cases tr
 ·have HT:Hid (frameL S D I=movedD S D7 I):=qh (by rw[HT0.out];unfold triedD;rw[if_neg (by rw[htr];decide)])
  have HG:=HG7
  clear HT0 HG7 htr
  go_upto_region 6 with(fail)
  clear i10 iz
  by_cases hmm:D7.mm=2
  ·have d2:(D7.mm==2)=true:=by simpa using hmm
   have g0:w7.cell? ⟨b,36,none⟩=some (.int .i64 D7.mm):=HA7.out.r.wat.c.at_ 36 rfl
   have gz:=HA7.out.r.wat.lt
   go_upto_region 7 with(fail)
   clear g0
   go_wp2_with (refine wpList_load_mid rfl 55 (.tmp 3) rfl w.heap.size 0 rfl [.string I.cmd,.int .i32 I.p0,.int .i32 I.p1,.int .i32 I.load,.int .i64 (I.f 0),.int .i64 (I.f 1),.int .i64 (I.f 2),.int .i64 (I.f 3),.bool I.ground,.int .i64 I.ask,.bool I.tries,.int .i64 I.reset] _ HA7.out.r.ci.range Tryz.underlying55 rfl HI12.out ?_)
   refine(HOP.out _ _ _ _ _ _ _ _ HA7.out.r.wat HS2.out HG.out HI.out).mono ?_
   rintro e7 w7 ⟨rfl,vg7,hW7,hg7⟩
   have A9:=HA7.out.grow hbw hg7 hW7
   have hDD:opD S2 D7 I=DD:=by rw[←HS2e.out,opD_av,←HDD.out,HT.out];unfold movedD;rw[if_pos hmm]
   rw[hDD]at A9
   have HA9:=qh A9
   clear gz hW7 hg7 A9 hDD hmm d2
   have SZ9:=(HA9.out.o _ (.head _)).2
   have hsz9:w.heap.size+1<w7.heap.size:=SZ9.lt
   have HSZ9:=qh SZ9
   clear SZ9
   go_upto_region 9 with(fail)
   go_wp2_with fail
   refine(status_is HA9.out.r.wat HGD.out).mono ?_
   rintro e9 w9 ⟨v9,rfl,hO9,hb9⟩
   obtain⟨a9,c9,hv9⟩:=own_sliceW hO9
   subst hv9
   have Z9:=HSZ9.out.call hb9
   have HZ9:=qh (Z9.row (statL DD (.slice a9 DD.log.length c9)) rfl)
   have HTH:Hid (w9.there (w.heap.size+1) 0 (statL DD (.slice a9 DD.log.length c9)).toArray.size):=qh (Z9.there (n:=27) (Nat.le_refl _))
   have HO9:=qh (own_setCells hO9 hsz9 0 (statL DD (.slice a9 DD.log.length c9)))
   have HON:Hid ((statL DD (.slice a9 DD.log.length c9)).toArray.all (·.oneCell')=true):=qh (by kernel_rfl)
   have HPO:Hid (FrmPost b S DD vp w (.returned (statV DD (.slice a9 DD.log.length c9))) (w9.setCells (w.heap.size+1) 0 (statL DD (.slice a9 DD.log.length c9)))):=qh (by rw[←HS2f.out]at HA9;exact frm_post HA9.out hbw (by omega) hb9 hO9)
   clear Z9 hb9 hO9
   go_wp2_with (refine wpList_store_mid rfl 119 (.tmp 4) (.tmp 58) rfl (w.heap.size+1) 0 (statL DD (.slice a9 DD.log.length c9)).toArray rfl rfl HTH.out HI27.out HON.out ?_)
   exact bodyPost_ret (v:=statV DD (.slice a9 DD.log.length c9)) (results_cell_mid rfl _ _ (w.heap.size+1) (statL DD (.slice a9 DD.log.length c9)) _ rfl HZ9.out.range Tryz.underlying119 rfl HI27.out) rfl HPO.out
  ·have d2:(D7.mm==2)=false:=by simpa using hmm
   have g0:w7.cell? ⟨b,36,none⟩=some (.int .i64 D7.mm):=HA7.out.r.wat.c.at_ 36 rfl
   have gz:=HA7.out.r.wat.lt
   go_upto_region 8 with(fail)
   clear g0
   go_wp2_with (refine wpList_load_mid rfl 55 (.tmp 3) rfl w.heap.size 0 rfl [.string I.cmd,.int .i32 I.p0,.int .i32 I.p1,.int .i32 I.load,.int .i64 (I.f 0),.int .i64 (I.f 1),.int .i64 (I.f 2),.int .i64 (I.f 3),.bool I.ground,.int .i64 I.ask,.bool I.tries,.int .i64 I.reset] _ HA7.out.r.ci.range Tryz.underlying55 rfl HI12.out ?_)
   refine(rest_is HA7.out.r.wat HS2.out HG.out HI.out).mono ?_
   rintro e7 w7 ⟨rfl,hW7,hg7⟩
   have A9:=HA7.out.grow hbw hg7 hW7
   have hDD:restD S2 D7 I=DD:=by rw[←HS2e.out,restD_av,←HDD.out,HT.out];unfold movedD;rw[if_neg hmm]
   rw[hDD]at A9
   have HA9:=qh A9
   clear gz hW7 hg7 A9 hDD hmm d2
   have SZ9:=(HA9.out.o _ (.head _)).2
   have hsz9:w.heap.size+1<w7.heap.size:=SZ9.lt
   have HSZ9:=qh SZ9
   clear SZ9
   go_upto_region 9 with(fail)
   go_wp2_with fail
   refine(status_is HA9.out.r.wat HGD.out).mono ?_
   rintro e9 w9 ⟨v9,rfl,hO9,hb9⟩
   obtain⟨a9,c9,hv9⟩:=own_sliceW hO9
   subst hv9
   have Z9:=HSZ9.out.call hb9
   have HZ9:=qh (Z9.row (statL DD (.slice a9 DD.log.length c9)) rfl)
   have HTH:Hid (w9.there (w.heap.size+1) 0 (statL DD (.slice a9 DD.log.length c9)).toArray.size):=qh (Z9.there (n:=27) (Nat.le_refl _))
   have HO9:=qh (own_setCells hO9 hsz9 0 (statL DD (.slice a9 DD.log.length c9)))
   have HON:Hid ((statL DD (.slice a9 DD.log.length c9)).toArray.all (·.oneCell')=true):=qh (by kernel_rfl)
   have HPO:Hid (FrmPost b S DD vp w (.returned (statV DD (.slice a9 DD.log.length c9))) (w9.setCells (w.heap.size+1) 0 (statL DD (.slice a9 DD.log.length c9)))):=qh (by rw[←HS2f.out]at HA9;exact frm_post HA9.out hbw (by omega) hb9 hO9)
   clear Z9 hb9 hO9
   go_wp2_with (refine wpList_store_mid rfl 119 (.tmp 4) (.tmp 58) rfl (w.heap.size+1) 0 (statL DD (.slice a9 DD.log.length c9)).toArray rfl rfl HTH.out HI27.out HON.out ?_)
   exact bodyPost_ret (v:=statV DD (.slice a9 DD.log.length c9)) (results_cell_mid rfl _ _ (w.heap.size+1) (statL DD (.slice a9 DD.log.length c9)) _ rfl HZ9.out.range Tryz.underlying119 rfl HI27.out) rfl HPO.out
 ·have HT:Hid (frameL S D I=movedD S (tryD S D7 I) I):=qh (by rw[HT0.out];unfold triedD;rw[if_pos htr])
  clear HT0 htr
  go_upto_region 5 with(fail)
  clear i10 iz
  go_wp2_with (refine wpList_load_mid rfl 55 (.tmp 3) rfl w.heap.size 0 rfl [.string I.cmd,.int .i32 I.p0,.int .i32 I.p1,.int .i32 I.load,.int .i64 (I.f 0),.int .i64 (I.f 1),.int .i64 (I.f 2),.int .i64 (I.f 3),.bool I.ground,.int .i64 I.ask,.bool I.tries,.int .i64 I.reset] _ HA7.out.r.ci.range Tryz.underlying55 rfl HI12.out ?_)
  refine(try_is HA7.out.r.wat HS2.out HG7.out HI.out).mono ?_
  rintro e8 w8 ⟨rfl,vg8,hW8,hg8⟩
  have A8:=HA7.out.grow hbw hg8 hW8
  have hD8:tryD S2 D7 I=tryD S D7 I:=by rw[←HS2e.out,tryD_av]
  rw[hD8]at A8
  have HG8:DynOk S2 (tryD S D7 I):=by rw[←hD8];exact tryD_good I HG7.out
  obtain⟨D8,hD8e⟩:∃x,tryD S D7 I=x:=⟨_,rfl⟩
  rw[hD8e]at A8 HT HG8
  have HG:=qh HG8
  have HA8:=qh A8
  clear hW8 hg8 A8 HA7 HG7 hD8 hD8e HG8
  go_upto_region 6 with(fail)
  by_cases hmm:D8.mm=2
  ·have d2:(D8.mm==2)=true:=by simpa using hmm
   have g0:w8.cell? ⟨b,36,none⟩=some (.int .i64 D8.mm):=HA8.out.r.wat.c.at_ 36 rfl
   have gz:=HA8.out.r.wat.lt
   go_upto_region 7 with(fail)
   clear g0
   go_wp2_with (refine wpList_load_mid rfl 55 (.tmp 3) rfl w.heap.size 0 rfl [.string I.cmd,.int .i32 I.p0,.int .i32 I.p1,.int .i32 I.load,.int .i64 (I.f 0),.int .i64 (I.f 1),.int .i64 (I.f 2),.int .i64 (I.f 3),.bool I.ground,.int .i64 I.ask,.bool I.tries,.int .i64 I.reset] _ HA8.out.r.ci.range Tryz.underlying55 rfl HI12.out ?_)
   refine(HOP.out _ _ _ _ _ _ _ _ HA8.out.r.wat HS2.out HG.out HI.out).mono ?_
   rintro e7 w7 ⟨rfl,vg7,hW7,hg7⟩
   have A9:=HA8.out.grow hbw hg7 hW7
   have hDD:opD S2 D8 I=DD:=by rw[←HS2e.out,opD_av,←HDD.out,HT.out];unfold movedD;rw[if_pos hmm]
   rw[hDD]at A9
   have HA9:=qh A9
   clear gz hW7 hg7 A9 hDD hmm d2
   have SZ9:=(HA9.out.o _ (.head _)).2
   have hsz9:w.heap.size+1<w7.heap.size:=SZ9.lt
   have HSZ9:=qh SZ9
   clear SZ9
   go_upto_region 9 with(fail)
   go_wp2_with fail
   refine(status_is HA9.out.r.wat HGD.out).mono ?_
   rintro e9 w9 ⟨v9,rfl,hO9,hb9⟩
   obtain⟨a9,c9,hv9⟩:=own_sliceW hO9
   subst hv9
   have Z9:=HSZ9.out.call hb9
   have HZ9:=qh (Z9.row (statL DD (.slice a9 DD.log.length c9)) rfl)
   have HTH:Hid (w9.there (w.heap.size+1) 0 (statL DD (.slice a9 DD.log.length c9)).toArray.size):=qh (Z9.there (n:=27) (Nat.le_refl _))
   have HO9:=qh (own_setCells hO9 hsz9 0 (statL DD (.slice a9 DD.log.length c9)))
   have HON:Hid ((statL DD (.slice a9 DD.log.length c9)).toArray.all (·.oneCell')=true):=qh (by kernel_rfl)
   have HPO:Hid (FrmPost b S DD vp w (.returned (statV DD (.slice a9 DD.log.length c9))) (w9.setCells (w.heap.size+1) 0 (statL DD (.slice a9 DD.log.length c9)))):=qh (by rw[←HS2f.out]at HA9;exact frm_post HA9.out hbw (by omega) hb9 hO9)
   clear Z9 hb9 hO9
   go_wp2_with (refine wpList_store_mid rfl 119 (.tmp 4) (.tmp 58) rfl (w.heap.size+1) 0 (statL DD (.slice a9 DD.log.length c9)).toArray rfl rfl HTH.out HI27.out HON.out ?_)
   exact bodyPost_ret (v:=statV DD (.slice a9 DD.log.length c9)) (results_cell_mid rfl _ _ (w.heap.size+1) (statL DD (.slice a9 DD.log.length c9)) _ rfl HZ9.out.range Tryz.underlying119 rfl HI27.out) rfl HPO.out
  ·have d2:(D8.mm==2)=false:=by simpa using hmm
   have g0:w8.cell? ⟨b,36,none⟩=some (.int .i64 D8.mm):=HA8.out.r.wat.c.at_ 36 rfl
   have gz:=HA8.out.r.wat.lt
   go_upto_region 8 with(fail)
   clear g0
   go_wp2_with (refine wpList_load_mid rfl 55 (.tmp 3) rfl w.heap.size 0 rfl [.string I.cmd,.int .i32 I.p0,.int .i32 I.p1,.int .i32 I.load,.int .i64 (I.f 0),.int .i64 (I.f 1),.int .i64 (I.f 2),.int .i64 (I.f 3),.bool I.ground,.int .i64 I.ask,.bool I.tries,.int .i64 I.reset] _ HA8.out.r.ci.range Tryz.underlying55 rfl HI12.out ?_)
   refine(rest_is HA8.out.r.wat HS2.out HG.out HI.out).mono ?_
   rintro e7 w7 ⟨rfl,hW7,hg7⟩
   have A9:=HA8.out.grow hbw hg7 hW7
   have hDD:restD S2 D8 I=DD:=by rw[←HS2e.out,restD_av,←HDD.out,HT.out];unfold movedD;rw[if_neg hmm]
   rw[hDD]at A9
   have HA9:=qh A9
   clear gz hW7 hg7 A9 hDD hmm d2
   have SZ9:=(HA9.out.o _ (.head _)).2
   have hsz9:w.heap.size+1<w7.heap.size:=SZ9.lt
   have HSZ9:=qh SZ9
   clear SZ9
   go_upto_region 9 with(fail)
   go_wp2_with fail
   refine(status_is HA9.out.r.wat HGD.out).mono ?_
   rintro e9 w9 ⟨v9,rfl,hO9,hb9⟩
   obtain⟨a9,c9,hv9⟩:=own_sliceW hO9
   subst hv9
   have Z9:=HSZ9.out.call hb9
   have HZ9:=qh (Z9.row (statL DD (.slice a9 DD.log.length c9)) rfl)
   have HTH:Hid (w9.there (w.heap.size+1) 0 (statL DD (.slice a9 DD.log.length c9)).toArray.size):=qh (Z9.there (n:=27) (Nat.le_refl _))
   have HO9:=qh (own_setCells hO9 hsz9 0 (statL DD (.slice a9 DD.log.length c9)))
   have HON:Hid ((statL DD (.slice a9 DD.log.length c9)).toArray.all (·.oneCell')=true):=qh (by kernel_rfl)
   have HPO:Hid (FrmPost b S DD vp w (.returned (statV DD (.slice a9 DD.log.length c9))) (w9.setCells (w.heap.size+1) 0 (statL DD (.slice a9 DD.log.length c9)))):=qh (by rw[←HS2f.out]at HA9;exact frm_post HA9.out hbw (by omega) hb9 hO9)
   clear Z9 hb9 hO9
   go_wp2_with (refine wpList_store_mid rfl 119 (.tmp 4) (.tmp 58) rfl (w.heap.size+1) 0 (statL DD (.slice a9 DD.log.length c9)).toArray rfl rfl HTH.out HI27.out HON.out ?_)
   exact bodyPost_ret (v:=statV DD (.slice a9 DD.log.length c9)) (results_cell_mid rfl _ _ (w.heap.size+1) (statL DD (.slice a9 DD.log.length c9)) _ rfl HZ9.out.range Tryz.underlying119 rfl HI27.out) rfl HPO.out
theorem operate_is {b:Nat} {S:Stp} {D:Dyn} {I:Inp} {vp vl vg:Value} {w:World} (h:WAt w b S D vp vl vg) (hS:StpOk S) (hD:DynOk S D) (hI:InpOk I):
  Calls Tryz.prog 82 #[ptr b,inV I] w (OpPost b S D I vp vl w):=by
 have HS:=qh hS;have HD:=qh hD;have HI:=qh hI;have HW0:=qh h
 obtain⟨w3,hw3⟩:∃x,w.alloc (.cells #[.string I.cmd,.int .i32 I.p0,.int .i32 I.p1,.int .i32 I.load,.int .i64 (I.f 0),.int .i64 (I.f 1),.int .i64 (I.f 2),.int .i64 (I.f 3),.bool I.ground,.int .i64 I.ask,.bool I.tries,.int .i64 I.reset] 55)=x:=⟨_,rfl⟩
 have b3:Below w.heap.size w w3:=hw3▸(bLr).alloc (Nat.le_refl _) _
 have R3:OpAt w3 w b S D vp vl vg I []:=⟨⟨h.call b3,hw3▸CellsAt.new w (inL I) _ _ rfl,grown_of_below b3 (some b)⟩,fun p hp=>by cases hp⟩
 have z3:w.heap.size<w3.heap.size:=by rw[←hw3];simp
 have hbw:=h.lt
 have HR3:=qh R3
 have HW3:=qh hw3
 have HSP:Hid (∀w',Calls Tryz.prog 110 #[.agg #[.bool D.oa,.bool D.ob],.agg #[.int .i32 I.p0,.int .i32 I.p1]] w' fun e' w''=>e'=.returned (.tuple #[i32A (supP D.oa D.ob I.p0 I.p1),boolA (supH D.oa D.ob)])∧Below w'.heap.size w' w''):=qh (fun w'=>supply_is D.oa D.ob I.p0 I.p1 w')
 have HOE:=qh (opE (opC (opB opA)))
 clear h hS hD hI hw3 b3 R3
 go_enter Tryz.func82,Tryz.ntmps82
 go_upto_region 1 with(fail)
 rw[HW3.out]
 clear HW3
 refine op1 _ _ _ _ _ _ _ _ _ _ _ _ _ hbw z3 HR3.out HSP.out ?_
 intro b4 b5 wx x15 x16 x17 x18 x19 x20 x21 x22 x23 x24 h4 n45 hA
 have HA:=qh hA
 clear hA HR3 HSP
 go_upto_region 2 with(fail)
 exact HOE.out _ _ _ _ _ _ _ _ _ _ _ _ _ _ _ _ _ _ _ _ _ _ _ _ _ _ _ _ _ _ _ _ _ _ _ _ _ _ _ _ _ _ _ _ _ _ _ _ _ _ _ _ _ _ _ _ _ _ _ _ _ _ _ _ _ _ _ _ _ _ _ _ _ _ _ _ _ _ _ _ _ _ _ _ _ _ _ _ _ _ _ _ _ _ _ _ _ _ _ _ _ _ _ _ _ _ _ _ _ _ _ _ _ _ _ _ _ _ _ _ _ _ _ _ _ _ _ _ _ _ _ _ _ _ _ _ _ _ _ _ _ _ _ _ _ _ _ _ _ _ _ _ _ _ _ _ _ _ _ _ _ _ _ _ _ _ _ _ _ _ _ _ _ _ _ _ HW0.out HS.out HD.out HI.out rfl rfl h4 n45 HA.out (by assumption)
theorem wframe_is {b:Nat} {S:Stp} {D:Dyn} {I:Inp} {vp vl vg:Value} {w:World} (h:WAt w b S D vp vl vg) (hS:StpOk S) (hD:DynOk S D) (hI:InpOk I):
  Calls Tryz.prog 60 #[ptr b,inV I] w (FrmPost b S (frameL S D I) vp w):=
 frame_of (fun _ _ _ _ _ _ _ _ h1 h2 h3 h4=>operate_is h1 h2 h3 h4) h hS hD hI
end Go.Proofs.YtpkiepjmcepnoaaGreatDoor
