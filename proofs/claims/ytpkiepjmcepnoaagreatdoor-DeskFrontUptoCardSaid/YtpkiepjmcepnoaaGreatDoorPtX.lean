/- A part of a proof. -/
import Derived.Deep.RegionHeld3
import Derived.Test.YtpkiepjmcepnoaaGreatDoorPtB
import Derived.Test.YtpkiepjmcepnoaaGreatDoorPtC
import Derived.Test.YtpkiepjmcepnoaaGreatDoorPtD
import Derived.Test.YtpkiepjmcepnoaaGreatDoorPtN
import Derived.Test.YtpkiepjmcepnoaaGreatDoorPtT
import Derived.Test.YtpkiepjmcepnoaaGreatDoorPtU
import Derived.Test.YtpkiepjmcepnoaaGreatDoorPtW
import Derived.Test.YtpkiepjmcepnoaaGreatDoorPtS
set_option maxHeartbeats 16000000
set_option maxRecDepth 100000
namespace Go.Proofs.YtpkiepjmcepnoaaGreatDoor
open Go.ChangeShapes Go.WideShapes Go.ChangeAt Go.RowKit
set_option linter.unusedVariables false
def supP (a b:Bool) (p q:Int):Nat→Int:=match a,b with
 |false,false=>sel 0 0 0 0
 |true,false=>sel p p 0 p
 |false,true=>sel 0 q q q
 |true,true=>sel p p q q
def supH (a b:Bool):Nat→Bool:=match a,b with
 |false,false=>sel4 false false false false
 |true,false=>sel4 true true false true
 |false,true=>sel4 false true true true
 |true,true=>sel4 true true true true
theorem supply_is (a b:Bool) (p q:Int) (w:World):
  Calls Tryz.prog 110 #[.agg #[.bool a,.bool b],.agg #[.int .i32 p,.int .i32 q]] w fun e' w'=>e'=.returned (.tuple #[i32A (supP a b p q),boolA (supH a b)])∧Below w.heap.size w w':=by
 cases a<;>cases b
 ·exact supply_00 p q w
 ·exact supply_01 p q w
 ·exact supply_10 p q w
 ·exact supply_11 p q w
theorem supP_bd (a b:Bool) {p q:Int} (hp: -2147483648≤p∧p≤2147483647) (hq: -2147483648≤q∧q≤2147483647) (j:Nat): -2147483648≤supP a b p q j∧supP a b p q j≤2147483647:=by
 cases a<;>cases b<;>(rcases j with _|_|_|j)<;>simp only[supP,sel]<;>omega
structure OpAt (wr w0:World) (b:Nat) (S:Stp) (D:Dyn) (vp vl vg:Value) (I:Inp) (L:List (Nat×List Value)):Prop where
 r:RstAt wr w0 b S D vp vl vg I
 o:∀p∈L,w0.heap.size≤p.1∧CellsAt wr p.1 p.2
theorem OpAt.grow {wr w' w0:World} {b:Nat} {S:Stp} {D D':Dyn} {vp vl vg vl' vg':Value} {I:Inp} {L:List (Nat×List Value)} (h:OpAt wr w0 b S D vp vl vg I L) (hb:b<w0.heap.size) (hg:wr.grownBy w' (some b)) (hw:WAt w' b S D' vp vl' vg'):OpAt w' w0 b S D' vp vl' vg' I L:=
 ⟨h.r.grow hb hg hw,fun p hp=>⟨(h.o p hp).1,far_cells (h.o p hp).2 hg (by have:=(h.o p hp).1;omega)⟩⟩
theorem OpAt.call {wr w' w0:World} {b:Nat} {S:Stp} {D:Dyn} {vp vl vg:Value} {I:Inp} {L:List (Nat×List Value)} (h:OpAt wr w0 b S D vp vl vg I L) (hb:b<w0.heap.size) (hg:Below wr.heap.size wr w'):OpAt w' w0 b S D vp vl vg I L:=
 h.grow hb (grown_of_below hg (some b)) (h.r.wat.call hg)
theorem OpAt.new {wr w0:World} {b:Nat} {S:Stp} {D:Dyn} {vp vl vg:Value} {I:Inp} {L:List (Nat×List Value)} (h:OpAt wr w0 b S D vp vl vg I L) (hb:b<w0.heap.size) (cs:List Value) (arr:Array Value) (E:TypeId) (ha:arr=cs.toArray):OpAt (wr.alloc (.cells arr E)) w0 b S D vp vl vg I ((wr.heap.size,cs)::L):=by
 have h1:=h.call hb ((Below.refl wr.heap.size wr).alloc (Nat.le_refl _) (.cells arr E))
 refine⟨h1.r,fun p hp=>?_⟩
 rcases List.mem_cons.1 hp with rfl|hp
 ·refine⟨h.r.gr.size,?_⟩
  subst ha
  exact CellsAt.new' rfl rfl
 ·exact h1.o p hp
theorem OpAt.put4 {wr w0:World} {b c:Nat} {S:Stp} {D D0:Dyn} {vp vl vg:Value} {I:Inp} {L L':List (Nat×List Value)} (h:OpAt wr w0 b S D vp vl vg I L) (hw:WAt w0 b S D0 vp vl vg) (hws:D.ws=D0.ws) (hl:D.log=D0.log) (hc:w0.heap.size<c) {a0 a1 a2 a3:Value} (hv:CellsAt wr c [a0,a1,a2,a3]) (v0 v1 v2 v3:Value) (hL:∀p∈L',p∈L∧p.1≠c):OpAt (set4 wr c v0 v1 v2 v3) w0 b S D vp vl vg I ((c,[v0,v1,v2,v3])::L'):=by
 have hbl:=hw.lt
 have G:w0.grownBy (set4 wr c v0 v1 v2 v3) (some b):=grown_own (grown_own (grown_own (grown_own h.r.gr (by omega)) (by omega)) (by omega)) (by omega)
 refine⟨⟨hw.turn G (h.r.wat.c.other4 (by omega) v0 v1 v2 v3) rfl hws hl,h.r.ci.other4 (by omega) v0 v1 v2 v3,G⟩,fun p hp=>?_⟩
 rcases List.mem_cons.1 hp with rfl|hp
 ·exact⟨by omega,hv.four v0 v1 v2 v3⟩
 ·obtain⟨h1,h2⟩:=hL p hp
  exact⟨(h.o p h1).1,(h.o p h1).2.other4 h2 v0 v1 v2 v3⟩
def four4 {α:Type} (f:Nat→α):Nat→α:=sel4 (f 0) (f 1) (f 2) (f 3)
def opMid (S:Stp) (D:Dyn) (I:Inp):Int:=midS S D.pos I.f
def opD1 (S:Stp) (D:Dyn) (I:Inp):Dyn:={D with drv:=drvN S D (opMid S D I),spool:=spoN S D (opMid S D I) I.f}
def opPush (S:Stp) (D:Dyn) (I:Inp):Nat→Int:=fun j=>pushedI (D.team j).1 (spoN S D (opMid S D I) I.f j) (supP D.oa D.ob I.p0 I.p1 j)
def opFight (S:Stp) (D:Dyn) (I:Inp):Nat→Int:=fun j=>fightI (D.team 0).1 (D.team 1).1 (D.team 2).1 (D.team 3).1 (opPush S D I 0) (opPush S D I 1) (opPush S D I 2) (opPush S D I 3) (D.team j).1 (opPush S D I j)
def opX (S:Stp) (D:Dyn) (I:Inp):Int:=ramPos S.gain S.drag S.low S.high D.pos I.load (sel (D.team 0).1 (D.team 1).1 (D.team 2).1 (D.team 3).1) (sel (opPush S D I 0) (opPush S D I 1) (opPush S D I 2) (opPush S D I 3))
def opD2 (S:Stp) (D:Dyn) (I:Inp):Dyn:={opD1 S D I with pos:=opX S D I,vel:=sat32 (opX S D I-D.pos)}
def opD3 (S:Stp) (D:Dyn) (I:Inp):Dyn:={opD2 S D I with track:=clampI (rateI D.track D.want S.rate) S.low S.high}
def opF (S:Stp) (D:Dyn) (I:Inp):Nat→Bool:=fltB S (opD3 S D I) I (vlvN S D (opMid S D I)) (opFight S D I)
def opD4 (S:Stp) (D:Dyn) (I:Inp):Dyn:={opD3 S D I with cnts:=fltC S (opD3 S D I) I (vlvN S D (opMid S D I)) (opFight S D I),log:=logF D.frame (fltC S (opD3 S D I) I (vlvN S D (opMid S D I)) (opFight S D I)) D.log 4}
def opD5 (S:Stp) (D:Dyn) (I:Inp):Dyn:={opD4 S D I with off:=fun j=>evenI (D.team j).1 (D.off j) (opFight S D I j) S.bits S.trim}
def opN (S:Stp) (D:Dyn) (I:Inp):Int:=((planU D.team (four4 (opF S D I)) (four4 (supH D.oa D.ob))).length:Int)
def opD6 (S:Stp) (D:Dyn) (I:Inp):Dyn:={opD5 S D I with team:=planT D.team (four4 (opF S D I)) (four4 (supH D.oa D.ob)),us:=opN S D I,ac:=actN (planC D.team (four4 (opF S D I)) (four4 (supH D.oa D.ob))) 4,lost:=opN S D I==0}
def opD (S:Stp) (D:Dyn) (I:Inp):Dyn:=if(opD6 S D I).lost=true∧D.lost=false then {opD6 S D I with log:=putL (opD6 S D I).log D.frame 4 3}else opD6 S D I
theorem opD1_good {S:Stp} {D:Dyn} (hS:StpOk S) (I:Inp) (h:DynOk S D):DynOk S (opD1 S D I):=by
 refine {h with drv:=fun j hj=>?_,spool:=fun j hj=>?_}
 ·by_cases hT:(D.team j).1=1
  ·have e:(opD1 S D I).drv j=stepD S D.want (opMid S D I) (D.drv j):=by show drvN S D (opMid S D I) j=_;unfold drvN;rw[if_pos hT]
   rw[e]
   exact stepD_bd hS h (opMid S D I) hj
  ·have e:(opD1 S D I).drv j=(opMid S D I,0,0,0):=by show drvN S D (opMid S D I) j=_;unfold drvN;rw[if_neg hT]
   rw[e]
   have hq:=hS.srv.2.2.2
   have hm:=midS_bd S D.pos I.f
   unfold pidBad at hq
   have hp:=h.pos;have hl:=hS.inn.low;have hh:=hS.inn.high
   exact⟨hm ⟨by omega,by omega⟩,⟨by show S.lo≤0;omega,by show(0:Int)≤S.hi;omega⟩,by show(-2147483648:Int)≤0∧(0:Int)≤2147483647;omega,by show(-2147483648:Int)≤0∧(0:Int)≤2147483647;omega⟩
 ·by_cases hT:stuckB (I.f j)=true
  ·have e:(opD1 S D I).spool j=D.spool j:=by show spoN S D (opMid S D I) I.f j=_;unfold spoN;rw[if_pos hT]
   rw[e];exact h.spool j hj
  ·have e:(opD1 S D I).spool j=vlvN S D (opMid S D I) j:=by show spoN S D (opMid S D I) I.f j=_;unfold spoN;rw[if_neg hT]
   rw[e];exact sat32_bd _
theorem opX_bd {S:Stp} (hS:StpOk S) (D:Dyn) (I:Inp):S.low≤opX S D I∧opX S D I≤S.high:=by
 have hr:=hS.ram
 exact clampI_in _ _ _ (by unfold ramBad at hr;omega)
theorem opD2_good {S:Stp} {D:Dyn} (hS:StpOk S) (I:Inp) (h:DynOk S D):DynOk S (opD2 S D I):=
 {opD1_good hS I h with pos:=opX_bd hS D I,vel:=sat32_bd _}
theorem opD3_good {S:Stp} {D:Dyn} (hS:StpOk S) (I:Inp) (h:DynOk S D):DynOk S (opD3 S D I):=by
 refine {opD2_good hS I h with track:=?_}
 have hr:=hS.ram
 have:=clampI_in (rateI D.track D.want S.rate) S.low S.high (by unfold ramBad at hr;omega)
 have hl:=hS.inn.low;have hh:=hS.inn.high
 show-2147483648≤clampI _ _ _∧clampI _ _ _≤2147483647
 omega
theorem team_ms {S:Stp} {D:Dyn} (h:DynOk S D):ModesOk (D.team 0).1 (D.team 1).1 (D.team 2).1 (D.team 3).1:=modes_ok h.team
abbrev teamM (D:Dyn):Value:=.agg #[.int .i64 (D.team 0).1,.int .i64 (D.team 1).1,.int .i64 (D.team 2).1,.int .i64 (D.team 3).1]
theorem opPush_bd (S:Stp) (D:Dyn) (I:Inp) (j:Nat): -2147483648≤opPush S D I j∧opPush S D I j≤2147483647:=pushedI_bd _ _ _
theorem opPush_is {S:Stp} {D:Dyn} {I:Inp} (hS:StpOk S) (h:DynOk S D) (hI:InpOk I) (w:World):
  Calls Tryz.prog 114 #[i32A (spoN S D (opMid S D I) I.f),teamM D,i32A (supP D.oa D.ob I.p0 I.p1)] w fun e w'=>e=.returned (.tuple #[i32A (opPush S D I),.int .i64 0])∧Below w.heap.size w w':=
 push_yes _ _ _ _ _ _ _ _ _ _ _ _ w (team_ms h) ((opD1_good hS I h).spool 0 (by omega)) ((opD1_good hS I h).spool 1 (by omega)) ((opD1_good hS I h).spool 2 (by omega)) ((opD1_good hS I h).spool 3 (by omega)) (supP_bd _ _ hI.p0 hI.p1 0) (supP_bd _ _ hI.p0 hI.p1 1) (supP_bd _ _ hI.p0 hI.p1 2) (supP_bd _ _ hI.p0 hI.p1 3)
theorem opFight_is {S:Stp} {D:Dyn} {I:Inp} (h:DynOk S D) (w:World):
  Calls Tryz.prog 115 #[i32A (opPush S D I),teamM D] w fun e w'=>e=.returned (.tuple #[i32A (opFight S D I),.int .i64 0])∧Below w.heap.size w w':=
 fight_yes _ _ _ _ _ _ _ _ w (team_ms h) (opPush_bd S D I 0) (opPush_bd S D I 1) (opPush_bd S D I 2) (opPush_bd S D I 3)
theorem opFight_bd (S:Stp) (D:Dyn) (I:Inp) (j:Nat): -2147483648≤opFight S D I j∧opFight S D I j≤2147483647:=by
 unfold opFight fightI;split
 ·exact sat32_bd _
 ·omega
theorem opStep_is {S:Stp} {D:Dyn} {I:Inp} (hS:StpOk S) (h:DynOk S D) (hI:InpOk I) (w:World):
  Calls Tryz.prog 116 #[.agg #[.int .i32 S.gain,.int .i64 S.drag,.int .i32 S.low,.int .i32 S.high],.agg #[.int .i32 D.pos,.int .i32 D.vel],i32A (opPush S D I),teamM D,.int .i32 I.load] w
   fun e w'=>e=.returned (.tuple #[.agg #[.int .i32 (opX S D I),.int .i32 (sat32 (opX S D I-D.pos))],.int .i64 0])∧Below w.heap.size w w':=by
 have hp:=h.pos;have hl:=hS.inn.low;have hh:=hS.inn.high
 exact ramStep_yes S.gain S.drag S.low S.high D.pos D.vel _ _ _ _ _ _ _ _ I.load _ _ w hS.inn.gain hS.inn.low hS.inn.high ⟨by omega,by omega⟩ (opPush_bd S D I 0) (opPush_bd S D I 1) (opPush_bd S D I 2) (opPush_bd S D I 3) hI.load (ram_ok hS h.pos) (team_ms h) rfl rfl
theorem evenO {S:Stp} {D:Dyn} (hS:StpOk S) (h:DynOk S D):evenOk (D.off 0) (D.off 1) (D.off 2) (D.off 3) (D.team 0).1 (D.team 1).1 (D.team 2).1 (D.team 3).1 S.bits S.trim:=by
 have hm:=team_ms h
 have h0:=h.off 0 (by omega);have h1:=h.off 1 (by omega);have h2:=h.off 2 (by omega);have h3:=h.off 3 (by omega)
 have he:=hS.evn
 unfold ModesOk at hm;unfold evenOk
 omega
theorem opEven_is {S:Stp} {D:Dyn} {I:Inp} (hS:StpOk S) (h:DynOk S D) (w:World):
  Calls Tryz.prog 120 #[i32A D.off,i32A (opFight S D I),teamM D,.int .i64 S.bits,.int .i32 S.trim] w fun e w'=>e=.returned (.tuple #[i32A (fun j=>evenI (D.team j).1 (D.off j) (opFight S D I j) S.bits S.trim),.int .i64 0])∧Below w.heap.size w w':=by
 have ht:=hS.inn.trim
 have h0:=h.off 0 (by omega);have h1:=h.off 1 (by omega);have h2:=h.off 2 (by omega);have h3:=h.off 3 (by omega)
 have he:=hS.evn
 exact evenStep_yes _ _ _ _ _ _ _ _ _ _ _ _ _ _ _ _ _ _ w ⟨by omega,by omega⟩ ⟨by omega,by omega⟩ ⟨by omega,by omega⟩ ⟨by omega,by omega⟩ (opFight_bd S D I 0) (opFight_bd S D I 1) (opFight_bd S D I 2) (opFight_bd S D I 3) ht (evenO hS h) rfl rfl rfl rfl
theorem opPlan_is {S:Stp} {D:Dyn} (h:DynOk S D) (F H:Nat→Bool) (w:World):
  Calls Tryz.prog 121 #[teamV D.team,boolA H,boolA F] w fun e w'=>e=.returned (.tuple #[teamV (planT D.team (four4 F) (four4 H)),.agg #[.int .i64 ((planU D.team (four4 F) (four4 H)).length:Int),.int .i64 (actN (planC D.team (four4 F) (four4 H)) 4),.bool (((planU D.team (four4 F) (four4 H)).length:Int)==0)],.int .i64 0])∧Below w.heap.size w w':=
 plan_is D.team _ _ _ _ _ _ _ _ w h.team _ _ _ _ ⟨rfl,rfl,rfl,rfl⟩
def restTm (D:Dyn) (I:Inp):Team:=if(0≤I.reset∧I.reset<4)∧D.mm=3 then resetT (restT D.team) I.reset.toNat else restT D.team
def modeS (T:Team):Nat→Int:=sel (T 0).1 (T 1).1 (T 2).1 (T 3).1
def restX (S:Stp) (D:Dyn) (I:Inp):Int:=ramPos S.gain S.drag S.low S.high D.pos I.load (modeS (restTm D I)) (sel 0 0 0 0)
def restK (D:Dyn) (T:Team) (k:Nat):Dyn:={D with team:=T,drv:=upTo (fun _=>(D.pos,0,0,0)) D.drv k,spool:=upTo (fun _=>0) D.spool k,off:=upTo (fun _=>0) D.off k,cnts:=upTo (fun _=>zeroC) D.cnts k}
def restD (S:Stp) (D:Dyn) (I:Inp):Dyn:={D with team:=restTm D I,drv:=fun _=>(D.pos,0,0,0),spool:=fun _=>0,off:=fun _=>0,cnts:=fun _=>zeroC,pos:=restX S D I,vel:=sat32 (restX S D I-D.pos),track:=restX S D I,want:=restX S D I,us:=0,ac:=0,lost:=false}
theorem restT_ok {T:Team} (h:∀j,j<4→OkS (T j)):∀j,j<4→OkS (restT T j):=fun j hj=>by
 unfold restT tk;rw[if_pos hj];exact nx_ok (h j hj) (.inr (.inl rfl))
theorem restTm_ok {D:Dyn} {I:Inp} (h:∀j,j<4→OkS (D.team j)):∀j,j<4→OkS (restTm D I j):=fun j hj=>by
 unfold restTm;split
 ·unfold resetT upd;split
  ·exact nx_ok (restT_ok h _ (by omega)) (.inr (.inr (.inr (.inr (.inr (.inr rfl))))))
  ·exact restT_ok h j hj
 ·exact restT_ok h j hj
theorem RstAt.spo {wr w0:World} {b k:Nat} {S:Stp} {D:Dyn} {vp vl vg:Value} {I:Inp} (h:RstAt wr w0 b S D vp vl vg I) (hb:b<w0.heap.size) (hk:k<4) (x:Int):RstAt (wr.setCell ⟨b,113+k,none⟩ (.int .i32 x)) w0 b S {D with spool:=fun j=>if j=k then x else D.spool j} vp vl vg I:=
 h.grow hb (grown_setW _ _ _ _) (h.wat.set (by omega) (lay_spool_set S D vp vl vg hk x) rfl rfl)
theorem RstAt.offs {wr w0:World} {b k:Nat} {S:Stp} {D:Dyn} {vp vl vg:Value} {I:Inp} (h:RstAt wr w0 b S D vp vl vg I) (hb:b<w0.heap.size) (hk:k<4) (x:Int):RstAt (wr.setCell ⟨b,69+k,none⟩ (.int .i32 x)) w0 b S {D with off:=fun j=>if j=k then x else D.off j} vp vl vg I:=
 h.grow hb (grown_setW _ _ _ _) (h.wat.set (by omega) (lay_off_set S D vp vl vg hk x) rfl rfl)
def RstRelW (w0:World) (b:Nat) (S:Stp) (D:Dyn) (T:Team) (vp vl vg:Value) (I:Inp) (i:Value) (wr:World):Prop:=
 ∃k:Nat,k≤4∧i=.int .i64 k∧RstAt wr w0 b S (restK D T k) vp vl vg I
theorem restK_0 (D:Dyn) (T:Team):restK D T 0={D with team:=T}:=by unfold restK;simp only[upTo_0]
theorem restK_next (D:Dyn) (T:Team) (k:Nat):restK D T (k+1)={restK D T k with drv:=fun j=>if j=k then(D.pos,0,0,0)else(restK D T k).drv j,spool:=fun j=>if j=k then 0 else(restK D T k).spool j,off:=fun j=>if j=k then 0 else(restK D T k).off j,cnts:=fun j=>if j=k then zeroC else(restK D T k).cnts j}:=by
 unfold restK;simp only[upTo_step (fun _=>((D.pos,0,0,0):Drv)) D.drv k rfl,upTo_step (fun _=>(0:Int)) D.spool k rfl,upTo_step (fun _=>(0:Int)) D.off k rfl,upTo_step (fun _=>zeroC) D.cnts k rfl]
theorem rest_is {b:Nat} {S:Stp} {D:Dyn} {I:Inp} {vp vl vg:Value} {w:World} (h:WAt w b S D vp vl vg) (hS:StpOk S) (hD:DynOk S D) (hI:InpOk I):
  Calls Tryz.prog 83 #[ptr b,inV I] w fun e w'=>e=.returned (.tuple #[])∧WAt w' b S (restD S D I) vp vl vg∧w.grownBy w' (some b):=by
 have HS:=qh hS;have HD:=qh hD;have HI:=qh hI
 obtain⟨w3,hw3⟩:∃x,w.alloc (.cells #[.string I.cmd,.int .i32 I.p0,.int .i32 I.p1,.int .i32 I.load,.int .i64 (I.f 0),.int .i64 (I.f 1),.int .i64 (I.f 2),.int .i64 (I.f 3),.bool I.ground,.int .i64 I.ask,.bool I.tries,.int .i64 I.reset] 55)=x:=⟨_,rfl⟩
 have b3:Below w.heap.size w w3:=hw3▸(bLr).alloc (Nat.le_refl _) _
 have R3:RstAt w3 w b S D vp vl vg I:=⟨h.call b3,hw3▸CellsAt.new w (inL I) _ _ rfl,grown_of_below b3 (some b)⟩
 have hbw:=h.lt
 have HR3:=qh R3
 have HW3:=qh hw3
 have t0:=R3.wat.c.at_ 41 rfl;have t1:=R3.wat.c.at_ 42 rfl;have t2:=R3.wat.c.at_ 43 rfl;have t3:=R3.wat.c.at_ 44 rfl;have t4:=R3.wat.c.at_ 45 rfl;have t5:=R3.wat.c.at_ 46 rfl;have t6:=R3.wat.c.at_ 47 rfl;have t7:=R3.wat.c.at_ 48 rfl;have t8:=R3.wat.c.at_ 49 rfl;have t9:=R3.wat.c.at_ 50 rfl;have t10:=R3.wat.c.at_ 51 rfl;have t11:=R3.wat.c.at_ 52 rfl
 have tz:=R3.wat.lt
 clear h hS hD hI hw3 b3 R3
 go_enter Tryz.func83,Tryz.ntmps83
 go_upto_region 1 with(fail)
 rw[HW3.out]
 go_wp2_with fail
 refine(redRest_is D.team _ HD.out.team).mono ?_
 rintro e1 w1 ⟨rfl,hb1⟩
 have R1:=HR3.out.call hbw hb1
 have HR1:=qh R1
 have HT1:=qh (restT_ok HD.out.team)
 have f0:=R1.wat.c.2.1 41;have fa0:=R1.wat.c.at_ 41 rfl;have f1:=R1.wat.c.2.1 42;have fa1:=R1.wat.c.at_ 42 rfl;have f2:=R1.wat.c.2.1 43;have fa2:=R1.wat.c.at_ 43 rfl;have f3:=R1.wat.c.2.1 44;have fa3:=R1.wat.c.at_ 44 rfl;have f4:=R1.wat.c.2.1 45;have fa4:=R1.wat.c.at_ 45 rfl;have f5:=R1.wat.c.2.1 46;have fa5:=R1.wat.c.at_ 46 rfl;have f6:=R1.wat.c.2.1 47;have fa6:=R1.wat.c.at_ 47 rfl;have f7:=R1.wat.c.2.1 48;have fa7:=R1.wat.c.at_ 48 rfl;have f8:=R1.wat.c.2.1 49;have fa8:=R1.wat.c.at_ 49 rfl;have f9:=R1.wat.c.2.1 50;have fa9:=R1.wat.c.at_ 50 rfl;have f10:=R1.wat.c.2.1 51;have fa10:=R1.wat.c.at_ 51 rfl;have f11:=R1.wat.c.2.1 52;have fa11:=R1.wat.c.at_ 52 rfl
 have tz1:=R1.wat.lt
 have HMK:Hid (restTm D I=if(0≤I.reset∧I.reset<4)∧D.mm=3 then resetT (restT D.team) I.reset.toNat else restT D.team):=qh rfl
 obtain⟨T1,hT1⟩:∃T,restT D.team=T:=⟨_,rfl⟩
 obtain⟨TZ,hTZ⟩:∃T,restTm D I=T:=⟨_,rfl⟩
 have HTZ:=qh hTZ
 rw[hT1]at HT1 HMK⊢
 rw[hTZ]at HMK
 clear R1 hb1 t0 t1 t2 t3 t4 t5 t6 t7 t8 t9 t10 t11 tz hT1 hTZ HR3 HW3
 go_upto_region 2 with(fail)
 have R2:RstAt (setT w1 b T1) w b S {D with team:=T1} vp vl vg I:=HR1.out.grow hbw (grown_setT w1 b T1) (HR1.out.wat.teamSet T1 rfl)
 obtain⟨w2,hw2⟩:∃x,setT w1 b T1=x:=⟨_,rfl⟩
 rw[hw2]at R2
 dsimp only[setT]at hw2
 rw[hw2]
 clear hw2
 have HR2:=qh R2
 have i11:w2.cell? ⟨w.heap.size,11,none⟩=some (.int .i64 I.reset):=R2.ci.at_ 11 rfl
 have iz:=R2.ci.lt
 have m36:w2.cell? ⟨b,36,none⟩=some (.int .i64 D.mm):=R2.wat.c.at_ 36 rfl
 have mz:=R2.wat.lt
 clear R2 f0 f1 f2 f3 f4 f5 f6 f7 f8 f9 f10 f11 fa0 fa1 fa2 fa3 fa4 fa5 fa6 fa7 fa8 fa9 fa10 fa11 tz1 HR1
 go_cut [32] (fun s wx=>s=.bool (decide ((0≤I.reset∧I.reset<4)∧D.mm=3))∧w2=wx)
 case first=>
  by_cases h1:0≤I.reset
  ·by_cases h2:I.reset<4
   ·by_cases h3:D.mm=3
    ·have h3b:(D.mm==3)=true:=by rw[h3];rfl
     have hdc:=qh (decide_eq_true (⟨⟨h1,h2⟩,h3⟩:(0≤I.reset∧I.reset<4)∧D.mm=3))
     go_wp2_with fail
     go_meet
     exact⟨by rw[hdc.out],rfl⟩
    ·have h3b:(D.mm==3)=false:=by rw[beq_eq_false_iff_ne];exact h3
     have hdc:=qh (decide_eq_false (fun h:(0≤I.reset∧I.reset<4)∧D.mm=3=>h3 h.2))
     go_wp2_with fail
     go_meet
     exact⟨by rw[hdc.out],rfl⟩
   ·have hdc:=qh (decide_eq_false (fun h:(0≤I.reset∧I.reset<4)∧D.mm=3=>h2 h.1.2))
    go_wp2_with fail
    go_meet
    exact⟨by rw[hdc.out],rfl⟩
  ·have hdc:=qh (decide_eq_false (fun h:(0≤I.reset∧I.reset<4)∧D.mm=3=>h1 h.1.1))
   go_wp2_with fail
   go_meet
   exact⟨by rw[hdc.out],rfl⟩
 case rest=>
 obtain⟨rfl,rfl⟩:=hcut
 go_upto_if 32 with(fail)
 go_cut [] (fun wx=>RstAt wx w b S {D with team:=TZ} vp vl vg I)
 case first=>
  by_cases hr:(0≤I.reset∧I.reset<4)∧D.mm=3
  ·have hz:resetT T1 I.reset.toNat=TZ:=by have h:=HMK.out;rw[if_pos hr]at h;exact h.symm
   have HZ:=qh hz
   obtain⟨r,hrr⟩:∃r:Nat,I.reset=r:=⟨I.reset.toNat,by omega⟩
   have hr4:r<4:=by omega
   have hg:D.mg=true:=by
    have hm:=HD.out.mode;unfold ModeOk at hm
    rcases hm with h|⟨h,-⟩|⟨-,h⟩
    ·omega
    ·omega
    ·exact h
   rw[hrr]at i11 HZ
   rw[show((r:Int)).toNat=r from rfl]at HZ
   have m38:w2.cell? ⟨b,38,none⟩=some (.bool true):=by rw[←hg];exact HR2.out.wat.c.at_ 38 rfl
   have R2:=HR2.out
   have t0:=R2.wat.c.at_ 41 rfl;have t1:=R2.wat.c.at_ 42 rfl;have t2:=R2.wat.c.at_ 43 rfl;have t3:=R2.wat.c.at_ 44 rfl;have t4:=R2.wat.c.at_ 45 rfl;have t5:=R2.wat.c.at_ 46 rfl;have t6:=R2.wat.c.at_ 47 rfl;have t7:=R2.wat.c.at_ 48 rfl;have t8:=R2.wat.c.at_ 49 rfl;have t9:=R2.wat.c.at_ 50 rfl;have t10:=R2.wat.c.at_ 51 rfl;have t11:=R2.wat.c.at_ 52 rfl
   clear R2 HMK hz hg
   rw[decide_eq_true hr]
   clear hr hrr
   go_wp2_with fail
   go_region_law (first
    |(go_simp;go_at_call 123;refine(redReset_is T1 r hr4 _ HT1.out).mono ?_;rintro e3 w4 ⟨rfl,hb4⟩;have hbb:Below w2.heap.size w2 w4:=((Below.refl w2.heap.size w2).drew).trans (hb4.mono (by simp));have R4:=HR2.out.call hbw hbb;have f0:=R4.wat.c.2.1 41;have fa0:=R4.wat.c.at_ 41 rfl;have f1:=R4.wat.c.2.1 42;have fa1:=R4.wat.c.at_ 42 rfl;have f2:=R4.wat.c.2.1 43;have fa2:=R4.wat.c.at_ 43 rfl;have f3:=R4.wat.c.2.1 44;have fa3:=R4.wat.c.at_ 44 rfl;have f4:=R4.wat.c.2.1 45;have fa4:=R4.wat.c.at_ 45 rfl;have f5:=R4.wat.c.2.1 46;have fa5:=R4.wat.c.at_ 46 rfl;have f6:=R4.wat.c.2.1 47;have fa6:=R4.wat.c.at_ 47 rfl;have f7:=R4.wat.c.2.1 48;have fa7:=R4.wat.c.at_ 48 rfl;have f8:=R4.wat.c.2.1 49;have fa8:=R4.wat.c.at_ 49 rfl;have f9:=R4.wat.c.2.1 50;have fa9:=R4.wat.c.at_ 50 rfl;have f10:=R4.wat.c.2.1 51;have fa10:=R4.wat.c.at_ 51 rfl;have f11:=R4.wat.c.2.1 52;have fa11:=R4.wat.c.at_ 52 rfl;have tz1:=R4.wat.lt)
    |fail)
   all_goals
    go_wp2_with fail
    go_meet
    rw[HZ.out]
    exact R4.grow hbw (grown_setT w4 b TZ) (R4.wat.teamSet TZ rfl)
  ·have hz:T1=TZ:=by have h:=HMK.out;rw[if_neg hr]at h;exact h.symm
   rw[decide_eq_false hr]
   go_wp2_with fail
   go_meet
   rw[←hz];exact HR2.out
 case rest=>
 have HR5:=qh hcut
 clear hcut i11 iz m36 mz HR2 HMK HT1
 go_wp2_with fail
 go_loopw [51] (fun i wr=>RstRelW w b S D TZ vp vl vg I i wr) (fun i _=>4-(intOf i).toNat)
 case atStart=>exact⟨0,by omega,rfl,by rw[restK_0];exact HR5.out⟩
 case round=>
  clear HR5
  obtain⟨k,hk,rfl,hR⟩:=hrel
  have HR:=qh hR
  by_cases hlt:k<4
  ·have e5:(k:Int)<4:=by omega
   obtain⟨l0,l1,l2,l3⟩:=lay_drv S (restK D TZ k) vp vl vg hlt
   have p0:=hR.wat.c.at_ _ l0;have p1:=hR.wat.c.at_ _ l1;have p2:=hR.wat.c.at_ _ l2;have p3:=hR.wat.c.at_ _ l3
   have s0:wr.cell? ⟨b,118,none⟩=some (.int .i32 D.pos):=hR.wat.c.at_ 118 rfl
   have pz:=hR.wat.lt
   generalize(restK D TZ k).drv k=d at p0 p1 p2 p3
   clear hR l0 l1 l2 l3
   go_upto_region 7 with(fail)
   go_cut [51]from 51 to 87 (fun v wx=>v=.int .i64 (k:Int)∧RstAt wx w b S {restK D TZ k with drv:=fun j=>if j=k then(D.pos,0,0,0)else(restK D TZ k).drv j} vp vl vg I)
   case first=>
    go_region_law (first
     |(go_simp;go_at_call 124;refine(servoRest_any _ _ _ _ _ _).mono ?_;rintro e3 w4 ⟨rfl,hb4⟩;have hbb:Below wr.heap.size wr w4:=((Below.refl wr.heap.size wr).drew).trans (hb4.mono (by simp));have R4:=HR.out.call hbw hbb;have q0:=R4.wat.c.2.1 (53+k*4);have q1:=R4.wat.c.2.1 (53+k*4+1);have q2:=R4.wat.c.2.1 (53+k*4+2);have q3:=R4.wat.c.2.1 (53+k*4+3);have qz:=R4.wat.lt;obtain⟨l0,l1,l2,l3⟩:=lay_drv S (restK D TZ k) vp vl vg hlt;have u0:=R4.wat.c.at_ _ l0;have u1:=R4.wat.c.at_ _ l1;have u2:=R4.wat.c.at_ _ l2;have u3:=R4.wat.c.at_ _ l3;clear l0 l1 l2 l3)
     |fail)
    all_goals
     go_wp2_with fail
     go_meet
     exact⟨rfl,R4.grow hbw (grown_setD w4 b k (D.pos,0,0,0)) (R4.wat.drvSet hlt (D.pos,0,0,0) rfl)⟩
   case rest=>
   obtain⟨rfl,hR7⟩:=hcut
   have HR7:=qh hR7
   have a0:=hR7.wat.c.at_ _ (lay_spool S _ vp vl vg hlt);have a1:=hR7.wat.c.at_ _ (lay_off S _ vp vl vg hlt)
   have a2:=hR7.wat.c.2.1 (113+k);have a3:=hR7.wat.c.2.1 (69+k)
   have az:=hR7.wat.lt
   clear hR7 p0 p1 p2 p3 s0 pz HR
   go_upto_region 8 with(fail)
   go_cut [51]from 51 to 87 (fun v wx=>v=.int .i64 (k:Int)∧RstAt wx w b S {restK D TZ k with drv:=fun j=>if j=k then(D.pos,0,0,0)else(restK D TZ k).drv j,spool:=fun j=>if j=k then 0 else(restK D TZ k).spool j,off:=fun j=>if j=k then 0 else(restK D TZ k).off j} vp vl vg I)
   case first=>
    go_region
    all_goals
     go_wp2_with fail
     go_meet
     first
      |exact⟨rfl,((HR7.out.spo hbw hlt 0).offs hbw hlt 0).drew⟩
      |exact⟨rfl,((HR7.out.offs hbw hlt 0).spo hbw hlt 0).drew⟩
   case rest=>
   obtain⟨rfl,hR8⟩:=hcut
   have HR8:=qh hR8
   have c0:=hR8.wat.c.2.1 (73+k*10);have c1:=hR8.wat.c.2.1 (73+k*10+1);have c2:=hR8.wat.c.2.1 (73+k*10+2);have c3:=hR8.wat.c.2.1 (73+k*10+3);have c4:=hR8.wat.c.2.1 (73+k*10+4);have c5:=hR8.wat.c.2.1 (73+k*10+5);have c6:=hR8.wat.c.2.1 (73+k*10+6);have c7:=hR8.wat.c.2.1 (73+k*10+7);have c8:=hR8.wat.c.2.1 (73+k*10+8);have c9:=hR8.wat.c.2.1 (73+k*10+9)
   have cz:=hR8.wat.lt
   obtain⟨l0,l1,l2,l3,l4,l5,l6,l7,l8,l9⟩:=lay_cnt S {restK D TZ k with drv:=fun j=>if j=k then(D.pos,0,0,0)else(restK D TZ k).drv j,spool:=fun j=>if j=k then 0 else(restK D TZ k).spool j,off:=fun j=>if j=k then 0 else(restK D TZ k).off j} vp vl vg hlt
   have d0:=hR8.wat.c.at_ _ l0;have d1:=hR8.wat.c.at_ _ l1;have d2:=hR8.wat.c.at_ _ l2;have d3:=hR8.wat.c.at_ _ l3;have d4:=hR8.wat.c.at_ _ l4;have d5:=hR8.wat.c.at_ _ l5;have d6:=hR8.wat.c.at_ _ l6;have d7:=hR8.wat.c.at_ _ l7;have d8:=hR8.wat.c.at_ _ l8;have d9:=hR8.wat.c.at_ _ l9
   clear hR8 l0 l1 l2 l3 l4 l5 l6 l7 l8 l9 a0 a1 a2 a3 az HR7
   go_wp2_with fail
   go_roundw
   case rel=>
    refine⟨k+1,by omega,by go_num,?_⟩
    rw[restK_next]
    exact HR8.out.grow hbw (grown_setC wc b k zeroC) (HR8.out.wat.cntSet hlt zeroC rfl)
   case measure=>simp[intOf];omega
  ·obtain rfl:k=4:=by omega
   rw[show((4:Nat):Int)=4 from rfl]
   clear hR
   go_wp2_with fail
   obtain⟨m0,hm0⟩:∃m,(TZ 0).1=m:=⟨_,rfl⟩
   obtain⟨m1,hm1⟩:∃m,(TZ 1).1=m:=⟨_,rfl⟩
   obtain⟨m2,hm2⟩:∃m,(TZ 2).1=m:=⟨_,rfl⟩
   obtain⟨m3,hm3⟩:∃m,(TZ 3).1=m:=⟨_,rfl⟩
   have hmod:=modes_is HR.out.wat
   change Calls Tryz.prog 113 #[ptr b] wr (fun e w'=>e=.returned (.agg #[.int .i64 (TZ 0).1,.int .i64 (TZ 1).1,.int .i64 (TZ 2).1,.int .i64 (TZ 3).1])∧Below wr.heap.size wr w')at hmod
   rw[hm0,hm1,hm2,hm3]at hmod
   refine hmod.mono ?_
   clear hmod
   rintro e5 w5 ⟨rfl,hb5⟩
   have HOKM:Hid (ModesOk m0 m1 m2 m3):=qh (by rw[←hm0,←hm1,←hm2,←hm3,←HTZ.out];exact modes_ok (restTm_ok HD.out.team))
   have HX:Hid (ramPos S.gain S.drag S.low S.high D.pos I.load (sel m0 m1 m2 m3) (sel 0 0 0 0)=restX S D I):=qh (by rw[←hm0,←hm1,←hm2,←hm3,←HTZ.out];rfl)
   have hpb:=HD.out.pos;have hlo:=HS.out.inn.low;have hhi:=HS.out.inn.high
   have HPB:Hid (-2147483648≤D.pos∧D.pos≤2147483647):=qh ⟨by omega,by omega⟩
   obtain⟨X,hX⟩:∃X,restX S D I=X:=⟨_,rfl⟩
   rw[hX]at HX
   obtain⟨V,hV⟩:∃V,sat32 (X-D.pos)=V:=⟨_,rfl⟩
   have HV:=qh hV
   have HEND:Hid (∀wz,RstAt wz w b S {restK D TZ 4 with pos:=X,vel:=V,track:=X,want:=X,us:=0,ac:=0,lost:=false} vp vl vg I→WAt wz b S (restD S D I) vp vl vg):=qh (by
    intro wz hz
    refine hz.wat.conv ?_ rfl rfl
    rw[←hV,←hX,←HTZ.out];rfl)
   obtain⟨w6,hw6⟩:∃x,w5.alloc (.cells #[.int .i64 m0,.int .i64 m1,.int .i64 m2,.int .i64 m3] 53)=x:=⟨_,rfl⟩
   have R6:RstAt w6 w b S (restK D TZ 4) vp vl vg I:=(HR.out.call hbw hb5).call hbw (hw6▸(bLr).alloc (Nat.le_refl _) _)
   have C6:CellsAt w6 w5.heap.size (i64c (sel m0 m1 m2 m3)):=hw6▸CellsAt.new' rfl rfl
   have HC6:=qh C6
   have HW6:=qh hw6
   have HR6:=qh R6
   have hz5:w.heap.size≤w5.heap.size:=Nat.le_trans HR.out.gr.size hb5.size
   have g0:=R6.wat.c.at_ 0 rfl;have g1:=R6.wat.c.at_ 1 rfl;have g2:=R6.wat.c.at_ 2 rfl;have g3:=R6.wat.c.at_ 3 rfl
   have r0:w6.cell? ⟨b,118,none⟩=some (.int .i32 D.pos):=R6.wat.c.at_ 118 rfl
   have r1:w6.cell? ⟨b,119,none⟩=some (.int .i32 D.vel):=R6.wat.c.at_ 119 rfl
   have rz:=R6.wat.lt
   have i3:w6.cell? ⟨w.heap.size,3,none⟩=some (.int .i32 I.load):=R6.ci.at_ 3 rfl
   have iz:=R6.ci.lt
   have c0:w6.cell? ⟨w5.heap.size,0,none⟩=some (.int .i64 m0):=C6.at_ 0 rfl
   have c1:w6.cell? ⟨w5.heap.size,1,none⟩=some (.int .i64 m1):=C6.at_ 1 rfl
   have c2:w6.cell? ⟨w5.heap.size,2,none⟩=some (.int .i64 m2):=C6.at_ 2 rfl
   have c3:w6.cell? ⟨w5.heap.size,3,none⟩=some (.int .i64 m3):=C6.at_ 3 rfl
   have cz:=C6.lt
   clear hX hV hb5 hw6 R6 C6 HR hm0 hm1 hm2 hm3
   go_upto_region 12 with(fail)
   rw[HW6.out]
   clear HW6
   have hbld:∀w:World,(Instr.build 83 #[]).run Tryz.prog w=.ok (.agg #[.int .i32 0,.int .i32 0,.int .i32 0,.int .i32 0]) w:=fun w=>run_build w _ #[] _ (by kernel_rfl)
   refine wp_region_any (by kernel_rfl) ?_
   change wpAny _ _ _ _ _ _ _ (World.drew _)
   refine wpAny_take (i:=0) (v:=ptr b) rfl (by kernel_rfl) (by kernel_rfl) (by kernel_rfl) (fun _ _ _ h=>h) (Or.inl ⟨by rfl,by intro W;go_simp⟩) ?_
   refine wpAny_head 1 14 7 (by kernel_rfl) rfl ?_
   simp only[List.drop_succ_cons,List.drop_zero,List.take_succ_cons,List.take_zero]
   repeat still_step
   refine wpStill_nil ?_
   refine wpAny_ready (rs:=[14]) (by kernel_rfl) (by simp) (AllReady.cons rfl (fun K hK=>?_) AllReady.nil)
   go_simp
   refine(ramStep_yes S.gain S.drag S.low S.high D.pos D.vel 0 0 0 0 m0 m1 m2 m3 I.load X V _ HS.out.inn.gain hlo hhi HPB.out (by omega) (by omega) (by omega) (by omega) HI.out.load (ram_ok HS.out HD.out.pos) HOKM.out HX.out HV.out).mono ?_
   rintro e7 w7 ⟨rfl,hb7⟩
   have hbb:Below w6.heap.size w6 w7:=((Below.refl w6.heap.size w6).drew).trans (hb7.mono (by simp))
   have R7:=qh (HR6.out.call hbw hbb)
   have f0:=R7.out.wat.c.2.1 118;have f1:=R7.out.wat.c.2.1 119
   have fa0:w7.cell? ⟨b,118,none⟩=some (.int .i32 D.pos):=R7.out.wat.c.at_ 118 rfl
   have fa1:w7.cell? ⟨b,119,none⟩=some (.int .i32 D.vel):=R7.out.wat.c.at_ 119 rfl
   have tz1:=R7.out.wat.lt
   clear hb7 hbb g0 g1 g2 g3 r0 r1 rz i3 iz c0 c1 c2 c3 cz hpb hlo hhi
   refine hK _ _ ?_
   clear hK K
   refine wpAny_ready (rs:=[15]) (by kernel_rfl) (by simp) (AllReady.cons rfl (fun K hK=>?_) AllReady.nil)
   go_simp
   refine hK _ _ ?_
   clear hK K
   refine wpAny_take (i:=16) (v:=.agg #[.int .i32 X,.int .i32 V]) rfl (by kernel_rfl) (by kernel_rfl) (by kernel_rfl) (fun _ _ _ h=>h) (Or.inl ⟨by rfl,by intro W;go_simp⟩) ?_
   refine wpAny_take (i:=17) (v:=.int .i64 0) rfl (by kernel_rfl) (by kernel_rfl) (by kernel_rfl) (fun _ _ _ h=>h) (Or.inl ⟨by rfl,by intro W;go_simp⟩) ?_
   refine wpAny_ready (rs:=[18]) (by kernel_rfl) (by simp) (AllReady.cons rfl (fun K hK=>?_) AllReady.nil)
   go_simp
   refine hK _ _ ?_
   clear hK K
   refine wpAny_ready (rs:=[19]) (by kernel_rfl) (by simp) (AllReady.cons rfl (fun K hK=>?_) AllReady.nil)
   go_simp
   refine hK _ _ ?_
   clear hK K
   refine wpAny_ready (rs:=[20]) (by kernel_rfl) (by simp) (AllReady.cons rfl (fun K hK=>?_) AllReady.nil)
   go_simp
   refine hK _ _ ?_
   clear hK K
   refine⟨by kernel_rfl,?_⟩
   all_goals
    have R8:=R7.out.grow hbw (grown_setV w7 b X V) (R7.out.wat.ramSet X V)
    obtain⟨w8,hw8⟩:∃x,setV w7 b X V=x:=⟨_,rfl⟩
    rw[hw8]at R8
    dsimp only[setV]at hw8
    have HW8:=qh hw8
    clear hw8
    go_upto_region 13 with(fail)
    rw[HW8.out]
    clear HW8 R7 tz1 f0 f1 fa0 fa1
    have HR7:=qh R8
    have q0:w8.cell? ⟨b,118,none⟩=some (.int .i32 X):=R8.wat.c.at_ 118 rfl
    have q1:=R8.wat.c.at_ 117 rfl;have q2:=R8.wat.c.at_ 35 rfl
    have f0:=R8.wat.c.2.1 117;have f1:=R8.wat.c.2.1 35
    have qz:=R8.wat.lt
    clear R8
    go_cut [] (fun wx=>RstAt wx w b S {restK D TZ 4 with pos:=X,vel:=V,track:=X,want:=X} vp vl vg I)
    case first=>
     go_region
     all_goals
      go_wp2_with fail
      go_meet
      first
       |exact((HR7.out.trk hbw X).wnt hbw X).drew
       |exact((HR7.out.wnt hbw X).trk hbw X).drew
    case rest=>
    have HR8:=qh hcut
    have f2:=hcut.wat.c.2.1 120;have f3:=hcut.wat.c.2.1 121;have f4:=hcut.wat.c.2.1 122
    have q3:=hcut.wat.c.at_ 120 rfl;have q4:=hcut.wat.c.at_ 121 rfl;have q5:=hcut.wat.c.at_ 122 rfl
    have qz:=hcut.wat.lt
    clear hcut HR7 q0 q1 q2 f0 f1
    go_wp2_with fail
    have R9:=HR8.out.grow hbw (grown_setP wc b 0 0 false) (HR8.out.wat.repSet 0 0 false)
    exact bodyPost_end (v:=.tuple #[]) (by simp[results,Tryz.results83,go_sem]) rfl ⟨rfl,HEND.out _ R9,R9.gr⟩
theorem restX_bd {S:Stp} (hS:StpOk S) (D:Dyn) (I:Inp):S.low≤restX S D I∧restX S D I≤S.high:=by
 have hr:=hS.ram
 exact clampI_in _ _ _ (by unfold ramBad at hr;omega)
theorem restD_good {S:Stp} {D:Dyn} (hS:StpOk S) (I:Inp) (h:DynOk S D):DynOk S (restD S D I):=by
 have hx:=restX_bd hS D I
 have hl:=hS.inn.low;have hh:=hS.inn.high
 have hp:=h.pos
 have hq:=hS.srv.2.2.2
 have he:=hS.evn.2.2
 unfold pidBad at hq
 exact {h with
  want:=⟨by show-2147483648≤restX S D I;omega,by show restX S D I≤2147483647;omega⟩
  team:=restTm_ok h.team
  drv:=fun j hj=>⟨⟨by show-2147483648≤D.pos;omega,by show D.pos≤2147483647;omega⟩,⟨by show S.lo≤0;omega,by show(0:Int)≤S.hi;omega⟩,by show(-2147483648:Int)≤0∧(0:Int)≤2147483647;omega,by show(-2147483648:Int)≤0∧(0:Int)≤2147483647;omega⟩
  off:=fun j hj=>⟨by show-S.trim≤0;omega,by show(0:Int)≤S.trim;omega⟩
  cnts:=fun j k hj hk=>hS.cnt
  spool:=fun j hj=>by show(-2147483648:Int)≤0∧(0:Int)≤2147483647;omega
  track:=⟨by show-2147483648≤restX S D I;omega,by show restX S D I≤2147483647;omega⟩
  pos:=hx
  vel:=sat32_bd _}
theorem evenI_bd (m o f bits most:Int) (hb:0≤bits∧bits≤30) (hm:0≤most) (ho: -most≤o∧o≤most): -most≤evenI m o f bits most∧evenI m o f bits most≤most:=by
 by_cases h:m=1
 ·rw[evenI_yes m o f bits most _ rfl h]
  exact clampI_in _ _ _ (by omega)
 ·rw[evenI_no m o f bits most h,lowI_yes o 0 bits hb]
  have:=towardI_bd o 0 (2^bits.toNat) (two_pow_bd bits hb).1
  omega
theorem cntN_ok (up down most n:Int) (bad:Bool) (h:CountOk up down most n):CountOk up down most (cntN up down most n bad):=by
 unfold CountOk at *;unfold cntN;cases bad<;>simp<;>omega
theorem opD4_good {S:Stp} {D:Dyn} (hS:StpOk S) (I:Inp) (h:DynOk S D):DynOk S (opD4 S D I):=by
 have h3:=opD3_good hS I h
 have hlog:NoteOk D.frame (logF D.frame (fltC S (opD3 S D I) I (vlvN S D (opMid S D I)) (opFight S D I)) D.log 4):=logF_ok h.noteOk 4 (by omega)
 refine {h3 with cnts:=fun j k hj hk=>?_,log:=hlog.log,last:=hlog.last}
 show CountOk S.up S.down S.most (fltC S (opD3 S D I) I (vlvN S D (opMid S D I)) (opFight S D I) j k).1
 unfold fltC
 split
 ·exact cntN_ok _ _ _ _ _ (h3.cnts j k hj hk)
 ·exact hS.cnt
theorem opD5_good {S:Stp} {D:Dyn} (hS:StpOk S) (I:Inp) (h:DynOk S D):DynOk S (opD5 S D I):=
 {opD4_good hS I h with off:=fun j hj=>evenI_bd _ _ _ _ _ ⟨hS.evn.1,hS.evn.2.1⟩ hS.evn.2.2 (h.off j hj)}
theorem opD6_good {S:Stp} {D:Dyn} (hS:StpOk S) (I:Inp) (h:DynOk S D):DynOk S (opD6 S D I):=
 {opD5_good hS I h with team:=fun j hj=>(planT_lane D.team _ _ h.team j hj).2.2.1}
theorem noted_good {S:Stp} {D6:Dyn} {f:Int} (hf:D6.frame=f) (h:DynOk S D6) {lane code:Int} (hl:0≤lane∧lane≤4) (hc:1≤code∧code≤20):DynOk S {D6 with log:=putL D6.log f lane code}:=by
 subst hf
 have hn:=h.noteOk.put hl hc
 exact {h with log:=hn.log,last:=hn.last}
theorem opD_good {S:Stp} {D:Dyn} (hS:StpOk S) (I:Inp) (h:DynOk S D):DynOk S (opD S D I):=by
 have h6:=opD6_good hS I h
 have hf:(opD6 S D I).frame=D.frame:=by simp only[opD6,opD5,opD4,opD3,opD2,opD1]
 unfold opD
 split
 ·exact noted_good hf h6 (by omega) (by omega)
 ·exact h6
end Go.Proofs.YtpkiepjmcepnoaaGreatDoor
