/- A part of a proof. -/
import Derived.Deep.RegionHeld3
import Derived.Deep.DeepCutAuto
import Derived.Test.YtpkiepjmcepnoaaGreatDoorPtA
import Derived.Test.YtpkiepjmcepnoaaGreatDoorPtE
set_option maxHeartbeats 16000000
set_option maxRecDepth 100000
namespace Go.Proofs.YtpkiepjmcepnoaaGreatDoor
open Go.ChangeShapes Go.WideShapes Go.ChangeAt Go.RowKit
set_option linter.unusedVariables false
structure Trl where
 (gain drag low high rate soft P I D lo hi oil load:Int)
 stuck:Bool
structure Rig where
 (pos vel g s l v:Int)
def trialLay (T:Trl) (pos vel:Int):List Value:=
 [.int .i32 T.gain,.int .i64 T.drag,.int .i32 T.low,.int .i32 T.high,.int .i32 pos,.int .i32 vel,.int .i32 T.rate,.int .i64 T.soft,.int .i32 T.P,.int .i32 T.I,.int .i32 T.D,.int .i32 T.lo,.int .i32 T.hi,.int .i32 T.oil,.int .i32 T.load,.bool T.stuck]
structure TrlOk (T:Trl):Prop where
 gain: -2147483648≤T.gain∧T.gain≤2147483647
 low: -2147483648≤T.low∧T.low≤2147483647
 high: -2147483648≤T.high∧T.high≤2147483647
 rate: -2147483648≤T.rate∧T.rate≤2147483647
 P: -2147483648≤T.P∧T.P≤2147483647
 I: -2147483648≤T.I∧T.I≤2147483647
 D: -2147483648≤T.D∧T.D≤2147483647
 lo: -2147483648≤T.lo∧T.lo≤2147483647
 hi: -2147483648≤T.hi∧T.hi≤2147483647
 oil: -2147483648≤T.oil∧T.oil≤2147483647
 load: -2147483648≤T.load∧T.load≤2147483647
def frG (T:Trl) (want:Int) (a:Rig):Int:=rateI a.g want T.rate
def frL (T:Trl) (want:Int) (a:Rig):Int:=sat32 (frG T want a-a.pos)
def frS (T:Trl) (want:Int) (a:Rig):Int:=pidNext T.P T.I T.D T.lo T.hi a.s a.l (frL T want a)
def frV (T:Trl) (want:Int) (a:Rig):Int:=towardI a.v (pidTold T.P T.I T.D T.lo T.hi a.s a.l (frL T want a)) (2^T.soft.toNat)
def frU (T:Trl) (want:Int) (a:Rig):Int:=pushedI 1 (if T.stuck then 0 else frV T want a) T.oil
def frX (T:Trl) (want:Int) (a:Rig):Int:=ramPos T.gain T.drag T.low T.high a.pos T.load (sel 1 0 0 0) (sel (frU T want a) 0 0 0)
def frameS (T:Trl) (want:Int) (a:Rig):Rig:=⟨frX T want a,sat32 (frX T want a-a.pos),frG T want a,frS T want a,frL T want a,frV T want a⟩
def framesS (T:Trl) (want:Int):Nat→Rig→Rig
 |0,a=>a
 |n+1,a=>framesS T want n (frameS T want a)
def offS (p:PointR) (a:Rig):Prop:=p.2.2<a.pos-p.1∨p.2.2< -(a.pos-p.1)
open Classical in
noncomputable def testS (T:Trl):List PointR→Nat→Rig→Nat×Rig
 |[],i,a=>(i,a)
 |p::ps,i,a=>if offS p (framesS T p.1 p.2.1.toNat a)then(i,framesS T p.1 p.2.1.toNat a)else testS T ps (i+1) (framesS T p.1 p.2.1.toNat a)
theorem testS_off {T:Trl} {p:PointR} {ps:List PointR} {i:Nat} {a:Rig} (h:offS p (framesS T p.1 p.2.1.toNat a)):testS T (p::ps) i a=(i,framesS T p.1 p.2.1.toNat a):=by
 simp only[testS,if_pos h]
theorem testS_on {T:Trl} {p:PointR} {ps:List PointR} {i:Nat} {a:Rig} (h:¬offS p (framesS T p.1 p.2.1.toNat a)):testS T (p::ps) i a=testS T ps (i+1) (framesS T p.1 p.2.1.toNat a):=by
 simp only[testS,if_neg h]
structure RigOk (T:Trl) (a:Rig):Prop where
 pos:T.low≤a.pos∧a.pos≤T.high
 g: -2147483648≤a.g∧a.g≤2147483647
 s:T.lo≤a.s∧a.s≤T.hi
 l: -2147483648≤a.l∧a.l≤2147483647
 v: -2147483648≤a.v∧a.v≤2147483647
theorem clampI_in (x a b:Int) (h:a≤b):a≤clampI x a b∧clampI x a b≤b:=by unfold clampI;omega
theorem rig_next {T:Trl} {a:Rig} {want:Int} (hT:TrlOk T) (h:RigOk T a) (hp:¬pidBad T.lo T.hi 0) (hr:T.low≤T.high) (hw: -2147483648≤want∧want≤2147483647):RigOk T (frameS T want a):=by
 have hp':¬pidBad T.lo T.hi a.s:=by unfold pidBad at *;have:=h.s;omega
 have h1:=pidTold_bd T.P T.I T.D T.lo T.hi a.s a.l (frL T want a) hp'
 have h2:=towardI_bd a.v (pidTold T.P T.I T.D T.lo T.hi a.s a.l (frL T want a)) (2^T.soft.toNat) (by
  have:0<2^T.soft.toNat:=Nat.pow_pos (by omega)
  have e:((2^T.soft.toNat:Nat):Int)=(2:Int)^T.soft.toNat:=by simp
  omega)
 have:=h.v;have:=hT.lo;have:=hT.hi
 exact⟨clampI_in _ _ _ (by omega),rateI_bd _ _ _ hw,pidNext_bd _ _ _ _ _ _ _ _ hp',sat32_bd _,by show _≤frV T want a∧frV T want a≤_;unfold frV;omega⟩
structure StAt (T:Trl) (p0 q0:Int) (B:Nat) (w wr:World) (b8 b9 b10:Nat) (a:Rig):Prop where
 bel:Below B w wr
 tri:CellsAt wr B (trialLay T p0 q0)
 res:CellsAt wr (B+1) [.int .i32 0,.int .i32 0]
 ram:CellsAt wr b8 [.int .i32 a.pos,.int .i32 a.vel]
 drv:CellsAt wr b9 [.int .i32 a.g,.int .i32 a.s,.int .i32 a.l,.int .i32 a.v]
 mod:CellsAt wr b10 [.int .i64 1,.int .i64 0,.int .i64 0,.int .i64 0]
 h8:B+1<b8
 h9:B+1<b9
 hm:B+1<b10
 n89:b8≠b9
 n8:b8≠b10
 n9:b9≠b10
section
variable {T:Trl} {p0 q0:Int} {B:Nat} {w wr w':World} {b8 b9 b10:Nat} {a:Rig}
theorem StAt.call (h:StAt T p0 q0 B w wr b8 b9 b10 a) (hb:Below wr.heap.size wr w'):StAt T p0 q0 B w w' b8 b9 b10 a:=
 ⟨h.bel.trans (hb.mono (Nat.le_of_lt h.tri.lt)),h.tri.call hb,h.res.call hb,h.ram.call hb,h.drv.call hb,h.mod.call hb,h.h8,h.h9,h.hm,h.n89,h.n8,h.n9⟩
theorem StAt.alloc (h:StAt T p0 q0 B w wr b8 b9 b10 a) (o:Obj):StAt T p0 q0 B w (wr.alloc o) b8 b9 b10 a:=h.call ((bLr).alloc (Nat.le_refl _) o)
theorem StAt.setDrv (h:StAt T p0 q0 B w wr b8 b9 b10 a) (g s l v:Int):
  StAt T p0 q0 B w ((((wr.setCell ⟨b9,0,none⟩ (.int .i32 g)).setCell ⟨b9,1,none⟩ (.int .i32 s)).setCell ⟨b9,2,none⟩ (.int .i32 l)).setCell ⟨b9,3,none⟩ (.int .i32 v)) b8 b9 b10 {a with g:=g,s:=s,l:=l,v:=v}:=by
 have k9:=h.h9
 have go:∀{b:Nat} {vs:List Value},CellsAt wr b vs→b≠b9→CellsAt ((((wr.setCell ⟨b9,0,none⟩ (.int .i32 g)).setCell ⟨b9,1,none⟩ (.int .i32 s)).setCell ⟨b9,2,none⟩ (.int .i32 l)).setCell ⟨b9,3,none⟩ (.int .i32 v)) b vs:=
  fun h e=>(((h.other e _ _).other e _ _).other e _ _).other e _ _
 have hB:∀j,B≤(⟨b9,j,none⟩:Addr).block:=fun j=>by simp;omega
 exact⟨(((h.bel.setCell (hB 0) _).setCell (hB 1) _).setCell (hB 2) _).setCell (hB 3) _,go h.tri (by omega),go h.res (by omega),go h.ram h.n89,
  (((h.drv.set_ 0 (by simp) _).set_ 1 (by simp) _).set_ 2 (by simp) _).set_ 3 (by simp) _,go h.mod (Ne.symm h.n9),h.h8,h.h9,h.hm,h.n89,h.n8,h.n9⟩
theorem StAt.setRam (h:StAt T p0 q0 B w wr b8 b9 b10 a) (x v:Int):
  StAt T p0 q0 B w ((wr.setCell ⟨b8,0,none⟩ (.int .i32 x)).setCell ⟨b8,1,none⟩ (.int .i32 v)) b8 b9 b10 {a with pos:=x,vel:=v}:=by
 have k8:=h.h8
 have go:∀{b:Nat} {vs:List Value},CellsAt wr b vs→b≠b8→CellsAt ((wr.setCell ⟨b8,0,none⟩ (.int .i32 x)).setCell ⟨b8,1,none⟩ (.int .i32 v)) b vs:=
  fun h e=>(h.other e _ _).other e _ _
 have hB:∀j,B≤(⟨b8,j,none⟩:Addr).block:=fun j=>by simp;omega
 exact⟨(h.bel.setCell (hB 0) _).setCell (hB 1) _,go h.tri (by omega),go h.res (by omega),(h.ram.set_ 0 (by simp) _).set_ 1 (by simp) _,go h.drv (Ne.symm h.n89),go h.mod (Ne.symm h.n8),h.h8,h.h9,h.hm,h.n89,h.n8,h.n9⟩
end
abbrev trialV (T:Trl) (pos vel:Int):Value:=
 .agg #[.int .i32 T.gain,.int .i64 T.drag,.int .i32 T.low,.int .i32 T.high,.int .i32 pos,.int .i32 vel,.int .i32 T.rate,.int .i64 T.soft,.int .i32 T.P,.int .i32 T.I,.int .i32 T.D,.int .i32 T.lo,.int .i32 T.hi,.int .i32 T.oil,.int .i32 T.load,.bool T.stuck]
def SRel (T:Trl) (xs:List PointR) (R:Nat×Rig) (p0 q0:Int) (w:World) (b8 b9 b10:Nat) (i:Value) (wr:World):Prop:=
 ∃(k:Nat) (a:Rig),k≤xs.length∧i=.int .i64 k∧testS T (xs.drop k) k a=R∧RigOk T a∧StAt T p0 q0 w.heap.size w wr b8 b9 b10 a
def FRel (T:Trl) (p:PointR) (F:Rig) (p0 q0:Int) (w:World) (bp b8 b9 b10:Nat) (i:Value) (wr:World):Prop:=
 ∃(k:Nat) (a:Rig),k≤p.2.1.toNat∧i=.int .i64 k∧framesS T p.1 (p.2.1.toNat-k) a=F∧RigOk T a∧StAt T p0 q0 w.heap.size w wr b8 b9 b10 a∧CellsAt wr bp (pointLay p)
theorem strokeTest_yes (T:Trl) (p0 q0:Int) (xs:List PointR) (v:Value) (w:World) (hT:TrlOk T) (hv:RecsAt 3 pointLay w v xs) (hfit:∀y∈xs,pointFit y) (hok:PointsOk xs) (hram:¬ramBad T.gain T.drag T.low T.high p0) (hsv:ServoOk T.rate T.soft T.lo T.hi 0):
  Calls Tryz.prog 108 #[trialV T p0 q0,v] w
   fun e w'=>e=.returned (.tuple #[.int .i64 (testS T xs 0 ⟨p0,q0,p0,0,0,0⟩).1,.agg #[.int .i32 (testS T xs 0 ⟨p0,q0,p0,0,0,0⟩).2.pos,.int .i32 (testS T xs 0 ⟨p0,q0,p0,0,0,0⟩).2.vel],.int .i64 0])∧Below w.heap.size w w':=by
 obtain⟨a0,cap,rfl⟩:=hv.len
 have h16:=hok.2.1
 have HV:=qh hv;have HOK:=qh hok;have HR:=qh hram;have HS:=qh hsv;have HFIT:=qh hfit;have HT:=qh hT
 have hp0:T.low≤p0∧p0≤T.high:=by unfold ramBad at hram;omega
 have hpi:¬pidBad T.lo T.hi 0:=hsv.2.2.2
 have hlh:T.low≤T.high:=by omega
 have HPI:=qh hpi;have HLH:=qh hlh
 have hRO:RigOk T ⟨p0,q0,p0,0,0,0⟩:=⟨hp0,by have:=hT.low;have:=hT.high;show _≤p0∧p0≤_;omega,by unfold pidBad at hpi;show T.lo≤0∧0≤T.hi;omega,⟨by show(-2147483648:Int)≤0;omega,by show(0:Int)≤2147483647;omega⟩,⟨by show(-2147483648:Int)≤0;omega,by show(0:Int)≤2147483647;omega⟩⟩
 have HRO:=qh hRO
 obtain⟨R,hR⟩:∃R,testS T xs 0 ⟨p0,q0,p0,0,0,0⟩=R:=⟨_,rfl⟩
 rw[hR]
 have HRR:=qh hR
 clear hv hok hram hsv hfit hT hpi hlh hRO hR hp0
 go_enter Tryz.func108,Tryz.ntmps108
 go_wp2_with fail
 refine(strokeCheck_any xs _ _ (HV.out.later pointLay_len (by repeat(first|(with_reducible first|exact bLr)|((with_reducible first|refine bLs ?_ ?_ _|refine bLa ?_ ?_ _);·first|omega|(simp<;>omega))|with_reducible first|refine bLn ?_ _|refine bLd ?_)) (Nat.le_refl _)) (by omega)).mono ?_
 rintro e w1 ⟨he,-,hb⟩
 obtain rfl:=he HOK.out
 clear he
 have B1:Below w.heap.size w w1:=by repeat(first|(with_reducible first|exact bLr)|((with_reducible first|refine bLs ?_ ?_ _|refine bLt hb ?_ ?_|refine bLa ?_ ?_ _);·first|omega|(simp<;>omega))|with_reducible first|refine bLn ?_ _|refine bLd ?_)
 have T1:CellsAt w1 w.heap.size (trialLay T p0 q0):=((CellsAt.new w (trialLay T p0 q0) #[.int .i32 T.gain,.int .i64 T.drag,.int .i32 T.low,.int .i32 T.high,.int .i32 p0,.int .i32 q0,.int .i32 T.rate,.int .i64 T.soft,.int .i32 T.P,.int .i32 T.I,.int .i32 T.D,.int .i32 T.lo,.int .i32 T.hi,.int .i32 T.oil,.int .i32 T.load,.bool T.stuck] 194 rfl).alloc _).call hb
 have R1:CellsAt w1 (w.heap.size+1) [.int .i32 0,.int .i32 0]:=by
  have:=CellsAt.new (w.alloc (.cells #[.int .i32 T.gain,.int .i64 T.drag,.int .i32 T.low,.int .i32 T.high,.int .i32 p0,.int .i32 q0,.int .i32 T.rate,.int .i64 T.soft,.int .i32 T.P,.int .i32 T.I,.int .i32 T.D,.int .i32 T.lo,.int .i32 T.hi,.int .i32 T.oil,.int .i32 T.load,.bool T.stuck] 194)) [.int .i32 0,.int .i32 0] #[.int .i32 0,.int .i32 0] 89 rfl
  simp only[World.size_alloc]at this
  exact this.call hb
 have HB1:=qh B1;have HT1:=qh T1;have HR1:=qh R1
 have c0:=T1.at_ 0 rfl
 have c1:=T1.at_ 1 rfl
 have c2:=T1.at_ 2 rfl
 have c3:=T1.at_ 3 rfl
 have c4:=T1.at_ 4 rfl
 have c5:=T1.at_ 5 rfl
 clear hb B1 T1 R1
 go_wp2_with fail
 refine(ramCheck_yes _ _ _ _ _ _ _ HR.out).mono ?_
 rintro e w2 ⟨rfl,hb⟩
 have B2:=qh (HB1.out.trans (hb.mono HB1.out.size));have T2:=qh (HT1.out.call hb);have R2:=qh (HR1.out.call hb)
 clear hb HB1 HT1 HR1 c0 c1 c2 c3 c4 c5
 have c6:=T2.out.at_ 6 rfl
 have c7:=T2.out.at_ 7 rfl
 have c8:=T2.out.at_ 8 rfl
 have c9:=T2.out.at_ 9 rfl
 have c10:=T2.out.at_ 10 rfl
 have c11:=T2.out.at_ 11 rfl
 have c12:=T2.out.at_ 12 rfl
 go_wp2_with fail
 refine(servoCheck_yes _ _ _ _ _ _ _ _ _ _ _ _ HS.out).mono ?_
 rintro e w3 ⟨rfl,hb⟩
 have B3:=qh (B2.out.trans (hb.mono B2.out.size));have T3:=qh (T2.out.call hb);have R3:=qh (R2.out.call hb)
 clear hb B2 T2 R2 c6 c7 c8 c9 c10 c11 c12
 have c4:=T3.out.at_ 4 rfl
 have c5:=T3.out.at_ 5 rfl
 have z3:=R3.out.lt
 go_upto_region 8 with(fail)
 go_cut [8,9] (fun s8 s9 wx=>∃b8 b9:Nat,s8=.pointer (some ⟨b8,0,none⟩)∧s9=.pointer (some ⟨b9,0,none⟩)∧Below w.heap.size w wx∧CellsAt wx w.heap.size (trialLay T p0 q0)∧CellsAt wx (w.heap.size+1) [.int .i32 0,.int .i32 0]∧
  CellsAt wx b8 [.int .i32 p0,.int .i32 q0]∧CellsAt wx b9 [.int .i32 p0,.int .i32 0,.int .i32 0,.int .i32 0]∧w.heap.size+1<b8∧w.heap.size+1<b9∧b8≠b9)
 case first=>
  go_region_held3 (fun w'=>w'.cell? ⟨w.heap.size,4,none⟩=some (.int .i32 p0)∧w'.cell? ⟨w.heap.size,5,none⟩=some (.int .i32 q0)) (first|go_keep|(refine⟨?_,?_⟩<;>repeat(first|with_reducible exact c0|with_reducible exact c1|with_reducible refine cell_off (by omega) ?_|with_reducible refine cell_new' ?_))) ((go_at_call 124;refine(servoRest_any 0 0 0 0 p0 _).mono ?_;rintro e4 w4 ⟨rfl,hb4⟩;have c0:w4.cell? ⟨w.heap.size,4,none⟩=some (.int .i32 p0):=cell_later hb4 (by go_simp);have c1:w4.cell? ⟨w.heap.size,5,none⟩=some (.int .i32 q0):=cell_later hb4 (by go_simp);obtain⟨chb4,fhb4⟩:=Open.bcell hb4;have zhb4:=hb4.size;try(simp at zhb4);try(have y4:w3.heap.size<w4.heap.size:=by omega);try(have y5:w3.heap.size+1<w4.heap.size:=by omega);try(have k00:w4.cell? ⟨w3.heap.size,0,none⟩=some (.int .i32 0):=by(rw[chb4 _ _ (by first|omega|(simp<;>omega))];go_simp;done));try(have k01:w4.cell? ⟨w3.heap.size,1,none⟩=some (.int .i32 0):=by(rw[chb4 _ _ (by first|omega|(simp<;>omega))];go_simp;done));try(have k02:w4.cell? ⟨w3.heap.size,2,none⟩=some (.int .i32 0):=by(rw[chb4 _ _ (by first|omega|(simp<;>omega))];go_simp;done));try(have k03:w4.cell? ⟨w3.heap.size,3,none⟩=some (.int .i32 0):=by(rw[chb4 _ _ (by first|omega|(simp<;>omega))];go_simp;done));try(have k10:w4.cell? ⟨w3.heap.size+1,0,none⟩=some (.int .i32 0):=by(rw[chb4 _ _ (by first|omega|(simp<;>omega))];go_simp;done));try(have k11:w4.cell? ⟨w3.heap.size+1,1,none⟩=some (.int .i32 0):=by(rw[chb4 _ _ (by first|omega|(simp<;>omega))];go_simp;done));try(have k12:w4.cell? ⟨w3.heap.size+1,2,none⟩=some (.int .i32 0):=by(rw[chb4 _ _ (by first|omega|(simp<;>omega))];go_simp;done));try(have k13:w4.cell? ⟨w3.heap.size+1,3,none⟩=some (.int .i32 0):=by(rw[chb4 _ _ (by first|omega|(simp<;>omega))];go_simp;done))))
  all_goals
   go_wp2_with fail
   go_meet
   refine⟨_,_,rfl,rfl,?_,?_,?_,?_,?_,?_,?_,?_⟩
   ·repeat(first|(with_reducible first|exact bLr|exact B3.out)|((with_reducible first|refine bLs ?_ ?_ _|refine bLt hb4 ?_ ?_|refine bLa ?_ ?_ _);·first|omega|(simp<;>omega))|with_reducible first|refine bLn ?_ _|refine bLd ?_)
   ·repeat(first|with_reducible exact T3.out|with_reducible refine CellsAt.set2_0 ?_|with_reducible refine CellsAt.set2_1 ?_|with_reducible refine CellsAt.set4_0 ?_|with_reducible refine CellsAt.set4_1 ?_|with_reducible refine CellsAt.set4_2 ?_|with_reducible refine CellsAt.set4_3 ?_|(with_reducible refine CellsAt.new' ?_ ?_;focus (first|(with_reducible rfl)|(simp;done));rfl)|(with_reducible refine CellsAt.other ?_ ?_ _ _;rotate_left;focus omega)|with_reducible refine CellsAt.alloc ?_ _|with_reducible refine CellsAt.drewN ?_ _|with_reducible refine CellsAt.drew ?_|with_reducible refine CellsAt.call ?_ hb4)
   ·repeat(first|with_reducible exact R3.out|with_reducible refine CellsAt.set2_0 ?_|with_reducible refine CellsAt.set2_1 ?_|with_reducible refine CellsAt.set4_0 ?_|with_reducible refine CellsAt.set4_1 ?_|with_reducible refine CellsAt.set4_2 ?_|with_reducible refine CellsAt.set4_3 ?_|(with_reducible refine CellsAt.new' ?_ ?_;focus (first|(with_reducible rfl)|(simp;done));rfl)|(with_reducible refine CellsAt.other ?_ ?_ _ _;rotate_left;focus omega)|with_reducible refine CellsAt.alloc ?_ _|with_reducible refine CellsAt.drewN ?_ _|with_reducible refine CellsAt.drew ?_|with_reducible refine CellsAt.call ?_ hb4)
   ·refine CellsAt.mk2 ?_ ?_ (fun o=>?_) ?_
    ·go_simp
    ·go_simp
    ·go_simp
    ·simp;try omega
   ·refine CellsAt.mk4 ?_ ?_ ?_ ?_ (fun o=>?_) ?_
    ·go_simp
    ·go_simp
    ·go_simp
    ·go_simp
    ·go_simp
    ·simp;try omega
   ·omega
   ·omega
   ·omega
 case rest=>
  obtain⟨b8,b9,rfl,rfl,B4,T4,R4,M4,D4,l8,l9,n89⟩:=hcut
  go_wp2
  have S5:StAt T p0 q0 w.heap.size w (wc.alloc (.cells #[.int .i64 1,.int .i64 0,.int .i64 0,.int .i64 0] 53)) b8 b9 wc.heap.size ⟨p0,q0,p0,0,0,0⟩:=
   ⟨B4.alloc B4.size _,T4.alloc _,R4.alloc _,M4.alloc _,D4.alloc _,CellsAt.new wc _ _ _ rfl,l8,l9,R4.lt,n89,Nat.ne_of_lt M4.lt,Nat.ne_of_lt D4.lt⟩
  have HS5:=qh S5
  clear B4 T4 R4 M4 D4 S5 T3 R3 B3 c4 c5 z3 l8 l9 n89
  generalize wc.heap.size=b10 at *
  generalize wc.alloc (.cells #[.int .i64 1,.int .i64 0,.int .i64 0,.int .i64 0] 53)=w5 at *
  go_loopw [46] (fun i wr=>SRel T xs R p0 q0 w b8 b9 b10 i wr) (fun i _=>xs.length-(intOf i).toNat)
  case atStart=>exact⟨0,_,Nat.zero_le _,rfl,HRR.out,HRO.out,HS5.out⟩
  case round=>
   clear HS5
   obtain⟨k,a,hk,rfl,hR,ha,hS⟩:=hrel
   have HR2:=qh hR;have HA:=qh ha;have HST:=qh hS
   have zB:=hS.bel.size
   by_cases hlt:k<xs.length
   ·obtain⟨p,hp⟩:∃p,xs[k]?=some p:=⟨_,List.getElem?_eq_getElem hlt⟩
    obtain⟨bb,off,cap',hv',hl1,hl2,hc⟩:=HV.out.at_ hp
    cases hv'
    have hpo:=HOK.out.2.2 k p hp
    have hpf:=HFIT.out p (List.mem_of_getElem? hp)
    have hdrop:xs.drop k=p::xs.drop (k+1):=by
     rw[List.drop_eq_getElem_cons hlt]
     congr 1
     rw[List.getElem?_eq_getElem hlt]at hp
     exact Option.some.inj hp
    have HD:=qh hdrop;have HPO:=qh hpo;have HPF:=qh hpf
    obtain⟨A,N,C⟩:=p
    have c0:=cell_later hS.bel (hc 0 (by omega))
    have c1:=cell_later hS.bel (hc 1 (by omega))
    have c2:=cell_later hS.bel (hc 2 (by omega))
    change wr.cell? ⟨bb,off+k*3,none⟩=some (.int .i32 A)at c0
    change wr.cell? ⟨bb,off+k*3+1,none⟩=some (.int .i64 N)at c1
    change wr.cell? ⟨bb,off+k*3+2,none⟩=some (.int .i32 C)at c2
    clear hc hp hdrop hpo hpf hR ha hS
    go_wp2
    have hS6:=HST.out.alloc (.cells #[.int .i32 A,.int .i64 N,.int .i32 C] 65)
    have hP6:=CellsAt.new wr (pointLay (A,N,C)) #[.int .i32 A,.int .i64 N,.int .i32 C] 65 rfl
    have l6:w.heap.size+1<wr.heap.size:=HST.out.res.lt
    have e8:wr.heap.size≠b8:=Ne.symm (Nat.ne_of_lt HST.out.ram.lt)
    have e9:wr.heap.size≠b9:=Ne.symm (Nat.ne_of_lt HST.out.drv.lt)
    have HS6:=qh hS6;have HP6:=qh hP6
    clear c0 c1 c2 hS6 hP6 HST zB
    generalize wr.heap.size=bp at *
    generalize wr.alloc (.cells #[.int .i32 A,.int .i64 N,.int .i32 C] 65)=w6 at *
    obtain⟨F,hF⟩:∃F,framesS T A N.toNat a=F:=⟨_,rfl⟩
    have HF:=qh hF
    clear hF
    have hN:1≤N∧N≤200:=⟨HPO.out.1,HPO.out.2.1⟩
    have hA: -2147483648≤A∧A≤2147483647:=HPF.out.1
    obtain⟨n,rfl⟩:=Int.eq_ofNat_of_zero_le (by omega:0≤N)
    go_loopw [53] (fun i wr=>FRel T (A,(n:Int),C) F p0 q0 w bp b8 b9 b10 i wr) (fun i _=>n-(intOf i).toNat)
    case atStart=>exact⟨0,a,Nat.zero_le _,rfl,HF.out,HA.out,HS6.out,HP6.out⟩
    case round=>
     clear HS6 HP6
     obtain⟨j,a',hj,rfl,hF2,ha,hS,hP⟩:=hrel
     rw[Int.toNat_natCast]at hj hF2
     have HF2:=qh hF2;have HA2:=qh ha;have HST:=qh hS;have HP:=qh hP
     clear hF2 ha hS hP
     by_cases hlt2:j<n
     ·have hsk:True:=trivial
      have c6:=HST.out.tri.at_ 6 rfl
      have c7:=HST.out.tri.at_ 7 rfl
      have c8:=HST.out.tri.at_ 8 rfl
      have c9:=HST.out.tri.at_ 9 rfl
      have c10:=HST.out.tri.at_ 10 rfl
      have c11:=HST.out.tri.at_ 11 rfl
      have c12:=HST.out.tri.at_ 12 rfl
      have d0:=HST.out.drv.at_ 0 rfl
      have d1:=HST.out.drv.at_ 1 rfl
      have d2:=HST.out.drv.at_ 2 rfl
      have d3:=HST.out.drv.at_ 3 rfl
      have m0:=HST.out.ram.at_ 0 rfl
      have e0:=HP.out.at_ 0 rfl
      have hsv':ServoOk T.rate T.soft T.lo T.hi a'.s:=by have:=HS.out;have:=HA2.out.s;unfold ServoOk pidBad at *;omega
      have hposb: -2147483648≤a'.pos∧a'.pos≤2147483647:=by have:=HA2.out.pos;have:=HT.out.low;have:=HT.out.high;omega
      have hsb: -2147483648≤a'.s∧a'.s≤2147483647:=by have:=HA2.out.s;have:=HT.out.lo;have:=HT.out.hi;omega
      have HSV:=qh hsv'
      have HNX:=qh (rig_next (want:=A) HT.out HA2.out HPI.out HLH.out hA)
      clear hsv'
      go_wp2_with fail
      refine(servoStep_yes T.rate T.soft T.P T.I T.D T.lo T.hi a'.g a'.s a'.l a'.v A a'.pos (frG T A a') (frS T A a') (frL T A a') (frV T A a') _ HT.out.rate HT.out.P HT.out.I HT.out.D HT.out.lo HT.out.hi HA2.out.g hsb HA2.out.l HA2.out.v hA hposb HSV.out ⟨rfl,rfl,rfl,rfl⟩).mono ?_
      rintro e7 w7 ⟨rfl,hb7⟩
      have S7:=HST.out.call hb7
      have P7:=HP.out.call hb7
      replace d0:=S7.drv.at_ 0 rfl
      replace d1:=S7.drv.at_ 1 rfl
      replace d2:=S7.drv.at_ 2 rfl
      replace d3:=S7.drv.at_ 3 rfl
      have f9:=S7.drv.2.1
      have HS7:=qh S7;have HP7:=qh P7
      clear c6 c7 c8 c9 c10 c11 c12 m0 e0 hb7 S7 P7 HST HP
      go_upto_region 17 with(fail)
      have S8:=HS7.out.setDrv (frG T A a') (frS T A a') (frL T A a') (frV T A a')
      have P8:=(((HP7.out.other e9 0 (.int .i32 (frG T A a'))).other e9 1 (.int .i32 (frS T A a'))).other e9 2 (.int .i32 (frL T A a'))).other e9 3 (.int .i32 (frV T A a'))
      clear d0 d1 d2 d3 f9 HS7 HP7
      generalize(((w7.setCell ⟨b9,0,none⟩ (.int .i32 (frG T A a'))).setCell ⟨b9,1,none⟩ (.int .i32 (frS T A a'))).setCell ⟨b9,2,none⟩ (.int .i32 (frL T A a'))).setCell ⟨b9,3,none⟩ (.int .i32 (frV T A a'))=w8 at *
      have c15:=S8.tri.at_ 15 rfl
      have c13:=S8.tri.at_ 13 rfl
      have y0:=S8.mod.at_ 0 rfl
      have y1:=S8.mod.at_ 1 rfl
      have y2:=S8.mod.at_ 2 rfl
      have y3:=S8.mod.at_ 3 rfl
      have HS8:=qh S8;have HP8:=qh P8
      have HUF:Hid (T.stuck=false→pushedI 1 (frV T A a') T.oil=frU T A a'):=fun h=>by unfold frU;rw[h];rfl
      have HUT:Hid (T.stuck=true→pushedI 1 0 T.oil=frU T A a'):=fun h=>by unfold frU;rw[h];rfl
      have hoil:=HT.out.oil
      have hvb: -2147483648≤frV T A a'∧frV T A a'≤2147483647:=HNX.out.v
      obtain⟨sb,hsb2⟩:∃b,T.stuck=b:=⟨_,rfl⟩
      rw[hsb2]at c15
      have HSB:=qh hsb2
      clear S8 P8 hsb2
      cases sb
      all_goals
       go_wp2_with fail
       refine(push_yes _ 0 0 0 1 0 0 0 T.oil 0 0 0 _ (by unfold ModesOk;omega) (by omega) (by omega) (by omega) (by omega) hoil (by omega) (by omega) (by omega)).mono ?_
       rintro e9 w9 ⟨he,hb9⟩
       rw[show pushedI 0 0 0=0 from rfl]at he
       first|rw[HUF.out HSB.out]at he|rw[HUT.out HSB.out]at he
       subst he
       have S9:=HS8.out.call hb9
       have P9:=HP8.out.call hb9
       have HS9:=qh S9;have HP9:=qh P9
       clear c13 c15 y0 y1 y2 y3 hb9 HS8 HP8 S9 P9
       have hub: -2147483648≤frU T A a'∧frU T A a'≤2147483647:=pushedI_bd _ _ _
       go_upto_region 20 with(fail)
       have S10:=HS9.out.alloc (.cells #[.int .i32 (frU T A a'),.int .i32 0,.int .i32 0,.int .i32 0] 83)
       have P10:=HP9.out.alloc (.cells #[.int .i32 (frU T A a'),.int .i32 0,.int .i32 0,.int .i32 0] 83)
       have U10:=CellsAt.new w9 [.int .i32 (frU T A a'),.int .i32 0,.int .i32 0,.int .i32 0] #[.int .i32 (frU T A a'),.int .i32 0,.int .i32 0,.int .i32 0] 83 rfl
       clear HS9 HP9
       generalize w9.heap.size=b14 at *
       generalize w9.alloc (.cells #[.int .i32 (frU T A a'),.int .i32 0,.int .i32 0,.int .i32 0] 83)=w10 at *
       have c0:=S10.tri.at_ 0 rfl
       have c1:=S10.tri.at_ 1 rfl
       have c2:=S10.tri.at_ 2 rfl
       have c3:=S10.tri.at_ 3 rfl
       have c14:=S10.tri.at_ 14 rfl
       have y0:=S10.mod.at_ 0 rfl
       have u0:=U10.at_ 0 rfl
       have y1:=S10.mod.at_ 1 rfl
       have u1:=U10.at_ 1 rfl
       have y2:=S10.mod.at_ 2 rfl
       have u2:=U10.at_ 2 rfl
       have y3:=S10.mod.at_ 3 rfl
       have u3:=U10.at_ 3 rfl
       have m0:=S10.ram.at_ 0 rfl
       have m1:=S10.ram.at_ 1 rfl
       have HS10:=qh S10;have HP10:=qh P10
       have hrb:¬ramBad T.gain T.drag T.low T.high a'.pos:=by have:=HR.out;have:=HA2.out.pos;unfold ramBad at *;omega
       have HRB:=qh hrb
       clear S10 P10 U10 hrb
       go_wp2_with fail
       refine(ramStep_yes T.gain T.drag T.low T.high a'.pos a'.vel (frU T A a') 0 0 0 1 0 0 0 T.load (frX T A a') (sat32 (frX T A a'-a'.pos)) _ HT.out.gain HT.out.low HT.out.high hposb hub (by omega) (by omega) (by omega) HT.out.load HRB.out (by unfold ModesOk;omega) rfl rfl).mono ?_
       rintro e11 w11 ⟨rfl,hb11⟩
       have S11:=HS10.out.call hb11
       have P11:=HP10.out.call hb11
       replace m0:=S11.ram.at_ 0 rfl
       replace m1:=S11.ram.at_ 1 rfl
       have f8:=S11.ram.2.1
       have HS11:=qh S11;have HP11:=qh P11
       clear c0 c1 c2 c3 c14 y0 y1 y2 y3 u0 u1 u2 u3 hb11 HS10 HP10 S11 P11
       go_upto_region 21 with(fail)
       have S12:=HS11.out.setRam (frX T A a') (sat32 (frX T A a'-a'.pos))
       have P12:=(HP11.out.other e8 0 (.int .i32 (frX T A a'))).other e8 1 (.int .i32 (sat32 (frX T A a'-a'.pos)))
       have HS12:=qh S12;have HP12:=qh P12
       clear m0 m1 f8 HS11 HP11 S12 P12
       generalize(w11.setCell ⟨b8,0,none⟩ (.int .i32 (frX T A a'))).setCell ⟨b8,1,none⟩ (.int .i32 (sat32 (frX T A a'-a'.pos)))=w12 at *
       go_wp2
       go_roundw
       case rel=>
        refine⟨j+1,frameS T A a',by simp;omega,by go_num,?_,HNX.out,HS12.out,HP12.out⟩
        rw[←HF2.out,show n-j=(n-(j+1))+1 from by omega]
        simp[framesS]
       case measure=>simp[intOf];omega
     ·obtain rfl:j=n:=by omega
      have hFe:framesS T A j a=a':=by
       have h1:=HF.out;have h2:=HF2.out
       rw[Nat.sub_self]at h2
       rw[Int.toNat_natCast]at h1
       exact h1.trans h2.symm
      have hposb: -2147483648≤a'.pos∧a'.pos≤2147483647:=by have:=HA2.out.pos;have:=HT.out.low;have:=HT.out.high;omega
      have hC: -2147483648≤C∧C≤2147483647:=HPF.out.2
      have m0:=HST.out.ram.at_ 0 rfl
      have m1:=HST.out.ram.at_ 1 rfl
      have x0:=HP.out.at_ 0 rfl
      have x2:=HP.out.at_ 2 rfl
      have r0:=HST.out.res.at_ 0 rfl
      have r1:=HST.out.res.at_ 1 rfl
      have rf:=HST.out.res.2.1
      have hBel:=HST.out.bel
      have HB:=qh hBel
      have zr:=HST.out.res.lt
      have ne8:w.heap.size+1≠b8:=Nat.ne_of_lt HST.out.h8
      have stop:offS (A,(j:Int),C) a'→R=(k,a'):=fun h=>by
       have h1:=HR2.out
       rw[HD.out]at h1
       have h2:framesS T (A,(j:Int),C).1 (A,(j:Int),C).2.1.toNat a=a':=hFe
       rw[testS_off (by rw[h2];exact h),h2]at h1
       exact h1.symm
      have go:¬offS (A,(j:Int),C) a'→testS T (xs.drop (k+1)) (k+1) a'=R:=fun h=>by
       have h1:=HR2.out
       rw[HD.out]at h1
       have h2:framesS T (A,(j:Int),C).1 (A,(j:Int),C).2.1.toNat a=a':=hFe
       rw[testS_on (by rw[h2];exact h),h2]at h1
       exact h1
      have GO:=qh go
      clear go hBel hFe
      by_cases g1:C<a'.pos-A
      ·have hR3:=stop (.inl g1)
       have t1:decide (C<a'.pos-A)=true:=by simpa using g1
       subst hR3
       clear g1 stop HR2 GO
       go_wp2
       go_region
       all_goals
        go_wp2
        refine bodyPost_ret (v:=.tuple #[.int .i64 k,.agg #[.int .i32 a'.pos,.int .i32 a'.vel],.int .i64 0]) (by simp[results,Tryz.results108,go_sem,r0,r1]) rfl ⟨rfl,?_⟩
        repeat(first|(with_reducible first|exact bLr|exact HB.out)|((with_reducible first|refine bLs ?_ ?_ _|refine bLa ?_ ?_ _);·first|omega|(simp<;>omega))|with_reducible first|refine bLn ?_ _|refine bLd ?_)
      ·by_cases g2:C< -(a'.pos-A)
       ·have hR3:=stop (.inr g2)
        have t1:decide (C<a'.pos-A)=false:=by simpa using g1
        have t2:decide (C< -(a'.pos-A))=true:=by simpa using g2
        have t3:decide (C<A-a'.pos)=true:=by simp;omega
        subst hR3
        clear g1 g2 stop HR2 GO
        go_wp2
        go_region
        all_goals
         go_wp2
         refine bodyPost_ret (v:=.tuple #[.int .i64 k,.agg #[.int .i32 a'.pos,.int .i32 a'.vel],.int .i64 0]) (by simp[results,Tryz.results108,go_sem,r0,r1]) rfl ⟨rfl,?_⟩
         repeat(first|(with_reducible first|exact bLr|exact HB.out)|((with_reducible first|refine bLs ?_ ?_ _|refine bLa ?_ ?_ _);·first|omega|(simp<;>omega))|with_reducible first|refine bLn ?_ _|refine bLd ?_)
       ·have HGO:=qh (GO.out (fun h=>by unfold offS at h;rcases h with h|h;exact g1 h;exact g2 h))
        have t1:decide (C<a'.pos-A)=false:=by simpa using g1
        have t2:decide (C< -(a'.pos-A))=false:=by simp;omega
        have t3:decide (C<A-a'.pos)=false:=by simp;omega
        clear g1 g2 stop GO HR2
        go_wp2
        go_roundw
        case rel=>exact⟨k+1,a',by omega,by go_num,HGO.out,HA2.out,HST.out⟩
        case measure=>simp[intOf];omega
   ·obtain rfl:k=xs.length:=by omega
    have hfin:R=(xs.length,a):=by
     have:=HR2.out
     rw[List.drop_length]at this
     exact this.symm
    have m0:=hS.ram.at_ 0 rfl
    have m1:=hS.ram.at_ 1 rfl
    have r0:=hS.res.at_ 0 rfl
    have r1:=hS.res.at_ 1 rfl
    have rf:=hS.res.2.1
    have zr:=hS.res.lt
    have HB:=qh hS.bel
    have ne8:w.heap.size+1≠b8:=Nat.ne_of_lt hS.h8
    subst hfin
    clear hR ha hS HST HR2
    go_wp2
    go_region
    all_goals
     go_wp2
     refine bodyPost_ret (v:=.tuple #[.int .i64 xs.length,.agg #[.int .i32 a.pos,.int .i32 a.vel],.int .i64 0]) (by simp[results,Tryz.results108,go_sem,r0,r1]) rfl ⟨rfl,?_⟩
     repeat(first|(with_reducible first|exact bLr|exact HB.out)|((with_reducible first|refine bLs ?_ ?_ _|refine bLa ?_ ?_ _);·first|omega|(simp<;>omega))|with_reducible first|refine bLn ?_ _|refine bLd ?_)
end Go.Proofs.YtpkiepjmcepnoaaGreatDoor
