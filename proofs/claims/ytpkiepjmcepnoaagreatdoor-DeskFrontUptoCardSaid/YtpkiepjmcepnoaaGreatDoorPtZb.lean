/- A part of a proof. -/
import Derived.Deep.MidRow
import Derived.Test.YtpkiepjmcepnoaaGreatDoorPtT
import Derived.Test.YtpkiepjmcepnoaaGreatDoorPtX
import Derived.Test.YtpkiepjmcepnoaaGreatDoorPtZa
set_option maxHeartbeats 16000000
set_option maxRecDepth 100000
namespace Go.Proofs.YtpkiepjmcepnoaaGreatDoor
open Go.ChangeShapes Go.WideShapes Go.ChangeAt Go.RowKit
set_option linter.unusedVariables false
def tickF (D:Dyn):Dyn:={D with frame:=min 1073741824 (D.frame+1)}
def oilD (S:Stp) (D:Dyn) (I:Inp):Dyn:={D with oa:=tripB D.oa I.p0 S.oh S.ol,ob:=tripB D.ob I.p1 S.oh S.ol}
noncomputable def triedD (S:Stp) (D:Dyn) (I:Inp):Dyn:=if I.tries=true then tryD S D I else D
noncomputable def movedD (S:Stp) (D:Dyn) (I:Inp):Dyn:=if D.mm=2 then opD S D I else restD S D I
noncomputable def frameL (S:Stp) (D:Dyn) (I:Inp):Dyn:=movedD S (triedD S (oilD S (hearD (tickF D) I) I) I) I
theorem tickF_good {S:Stp} {D:Dyn} (h:DynOk S D):DynOk S (tickF D):=by
 have hf:=h.frame
 refine {h with frame:=⟨by show 0≤min 1073741824 (D.frame+1);omega,by show min 1073741824 (D.frame+1)≤1073741824;omega⟩,last:=fun hl=>?_}
 have:=h.last hl
 show _≤min 1073741824 (D.frame+1)
 exact Int.le_trans this (by omega)
theorem oilD_good {S:Stp} {D:Dyn} (I:Inp) (h:DynOk S D):DynOk S (oilD S D I):={h with}
theorem triedD_good {S:Stp} {D:Dyn} (I:Inp) (h:DynOk S D):DynOk S (triedD S D I):=by
 unfold triedD;split
 ·exact tryD_good I h
 ·exact h
theorem movedD_good {S:Stp} {D:Dyn} (hS:StpOk S) (I:Inp) (h:DynOk S D):DynOk S (movedD S D I):=by
 unfold movedD;split
 ·exact opD_good hS I h
 ·exact restD_good hS I h
theorem frameL_good {S:Stp} {D:Dyn} (hS:StpOk S) (I:Inp) (h:DynOk S D):DynOk S (frameL S D I):=movedD_good hS I (triedD_good I (oilD_good I (hearD_good I (tickF_good h))))
def newD:Dyn:={frame:=0,lk:=0,ll:=0,lq:=0,ws:=[],lh:=false,lg:=0,ld:=0,want:=0,mm:=1,mp:=false,mg:=true,oa:=false,ob:=false,team:=fun _=>(0,false,0),drv:=fun _=>(0,0,0,0),off:=fun _=>0,cnts:=fun _=>zeroC,spool:=fun _=>0,track:=0,pos:=0,vel:=0,us:=0,ac:=0,lost:=false,log:=[]}
theorem newD_good {S:Stp} (hS:StpOk S) (hz:S.low≤0∧0≤S.high):DynOk S newD:=by
 have hq:=hS.srv.2.2.2
 have he:=hS.evn.2.2
 unfold pidBad at hq
 exact {
  frame:=by show(0:Int)≤0∧(0:Int)≤1073741824;omega
  link:=rfl
  lkb:=by show(-9223372036854775808≤(0:Int)∧(0:Int)≤9223372036854775807)∧(-9223372036854775808≤(0:Int)∧(0:Int)≤9223372036854775807);omega
  lqb:=by show(0:Int)≤0∧(0:Int)≤255;omega
  ws:=fun x hx=>by cases hx
  want:=by show(-2147483648:Int)≤0∧(0:Int)≤2147483647;omega
  mode:=.inl rfl
  team:=zero_ok
  drv:=fun j hj=>⟨by show(-2147483648:Int)≤0∧(0:Int)≤2147483647;omega,⟨by show S.lo≤0;omega,by show(0:Int)≤S.hi;omega⟩,by show(-2147483648:Int)≤0∧(0:Int)≤2147483647;omega,by show(-2147483648:Int)≤0∧(0:Int)≤2147483647;omega⟩
  off:=fun j hj=>⟨by show-S.trim≤0;omega,by show(0:Int)≤S.trim;omega⟩
  cnts:=fun j k hj hk=>hS.cnt
  spool:=fun j hj=>by show(-2147483648:Int)≤0∧(0:Int)≤2147483647;omega
  track:=by show(-2147483648:Int)≤0∧(0:Int)≤2147483647;omega
  pos:=hz
  vel:=by show(-2147483648:Int)≤0∧(0:Int)≤2147483647;omega
  log:=⟨by decide,fun i hi=>absurd hi (by show ¬i<0;omega)⟩
  last:=fun h=>absurd h (by decide)}
section
variable {P:Program} {w w0:World} {b c B:Nat} {vs us L:List Value}
theorem CellsAt.range (h:CellsAt w b vs):w.rangeAt b 0 vs:=fun j v hj=>by rw[Nat.zero_add];exact h.1 j v hj
theorem CellsAt.there (h:CellsAt w b vs) {n:Nat} (hn:n≤vs.length):w.there b 0 n:=fun j hj=>by
 rw[Nat.zero_add]
 exact⟨by rw[h.1 j _ (List.getElem?_eq_getElem (by omega))];rfl,h.2.1 j⟩
theorem size_setCells (b:Nat):∀(vs:List Value) (o:Nat) (w:World),(w.setCells b o vs).heap.size=w.heap.size
 |[],_,_=>rfl
 |v::r,o,w=>by rw[World.setCells,size_setCells b r (o+1)];simp[World.setCell]
theorem CellsAt.rowOther (h:CellsAt w b vs) (e:b≠c) (o:Nat) (us:List Value):CellsAt (w.setCells c o us) b vs:=
 ⟨fun j v hj=>by rw[World.cell?_setCells_out c us o w ⟨b,j,none⟩ (fun h1 _=>absurd h1 e)];exact h.1 j v hj,fun j=>by rw[World.frozen?_setCells];exact h.2.1 j,by rw[size_setCells];exact h.2.2⟩
theorem CellsAt.row (h:CellsAt w b vs) (us:List Value) (hl:us.length=vs.length):CellsAt (w.setCells b 0 us) b us:=by
 have ht:=h.there (n:=us.length) (by omega)
 refine⟨fun j v hj=>?_,fun j=>by rw[World.frozen?_setCells];exact h.2.1 j,by rw[size_setCells];exact h.2.2⟩
 have:=World.rangeAt_setCells_same w b 0 us ht j v hj
 rwa [Nat.zero_add]at this
theorem below_setCells (hc:B≤c):∀(us:List Value) (o:Nat) (w:World),Below B w0 w→Below B w0 (w.setCells c o us)
 |[],_,_,h=>h
 |v::r,o,w,h=>by rw[World.setCells];exact below_setCells hc r (o+1) _ (h.setCell (p:=⟨c,o,none⟩) hc v)
theorem grown_setCells (c:Nat):∀(us:List Value) (o:Nat) (w0 w:World),w0.grownBy w (some c)→w0.grownBy (w.setCells c o us) (some c)
 |[],_,_,_,h=>h
 |v::r,o,w0,w,h=>by rw[World.setCells];exact grown_setCells c r (o+1) w0 _ (grownBy_two h (grown_setW _ _ _ _))
theorem own_setCells {k n:Nat} {e:TypeId} {v:Value} {xs:List Value} (h:w.ownsRow B e k v n xs) (hc:c<B) (o:Nat) (us:List Value):(w.setCells c o us).ownsRow B e k v n xs:=by
 refine h.kept (grown_setCells c us o w w ⟨rfl,rfl,rfl,Nat.le_refl _,fun _ _ _=>rfl⟩) (.inr fun e0=>?_)
 have:=(h.lt c e0).1
 omega
theorem results_cell_mid {fn:Func} {p:Tmp} {ty:TypeId} (h:fn.results=#[.cell p ty]) (tmps:Array Value) (w:World) (g:Nat) (cs:List Value) (d:TypeDesc)
  (hp:tmps.getD p undef=.pointer (some ⟨g,0,none⟩)) (hc:w.rangeAt g 0 cs)
  (hu:P.underlying ty=some d) (hd:d.isRow=true) (hi:(P.info? ty).map (·.size)=some cs.length):
  (results fn tmps).run P w=.ok (.agg cs.toArray) w:=by
 have hp':tmps[p]?.getD undef=.pointer (some ⟨g,0,none⟩):=by simpa using hp
 simp[results,h,hp',asAddr,run_loadVar_mid w g 0 ty cs d hc hu hd hi]
end
def Stp.withAv (S:Stp) (a:Nat→Prop):Stp:={S with av:=a}
def Stp.more (S:Stp) (c:Nat):Stp:=S.withAv (fun x=>S.av x∨x=c)
section
variable {w w':World} {b c:Nat} {S:Stp} {D:Dyn} {vp vl vg v:Value} {a:Nat→Prop}
theorem OffA.less (h:OffA w b S.av v) (ha:∀x,a x→S.av x):OffA w b a v:=⟨h.1,fun x hx=>h.2.1 x (ha x hx),h.2.2⟩
theorem WAt.less (h:WAt w b S D vp vl vg) (ha:∀x,a x→S.av x):WAt w b (S.withAv a) D vp vl vg:=
 ⟨h.c,h.p,h.l,h.g,h.np.less ha,h.nl.less ha,h.ng.less ha,fun x hx=>h.hv x (ha x hx)⟩
theorem OffA.more (h:OffA w b S.av v) (hs:w.heap.size≤w'.heap.size) (h1:w.heap.size≤c):OffA w' b (S.more c).av v:=
 ⟨h.1,fun x hx=>hx.elim (h.2.1 x) (fun e b' o n l c' e'=>by have:=h.2.2 b' o n l c' e';omega),(h.later hs).2.2⟩
theorem WAt.more (h:WAt w b S D vp vl vg) (hb:Below w.heap.size w w') (h1:w.heap.size≤c) (h2:c<w'.heap.size):WAt w' b (S.more c) D vp vl vg:=
 have k:=h.call hb
 ⟨k.c,k.p,k.l,k.g,h.np.more hb.size h1,h.nl.more hb.size h1,h.ng.more hb.size h1,fun x hx=>hx.elim (k.hv x) (fun e=>by omega)⟩
theorem WAt.far (h:WAt w b S D vp vl vg) (hg:w.grownBy w' (some c)) (hne:b≠c) (hc:S.av c):WAt w' b S D vp vl vg:=
 ⟨far_cells h.c hg hne,recs_off pointLay_len (by decide) h.p (h.np.2.1 c hc) hg,ints_off h.l (h.nl.2.1 c hc) hg,recs_off entLay_len (by decide) h.g (h.ng.2.1 c hc) hg,h.np.later hg.size,h.nl.later hg.size,h.ng.later hg.size,fun x hx=>Nat.lt_of_lt_of_le (h.hv x hx) hg.size⟩
theorem StpOk.withAv (h:StpOk S) (a:Nat→Prop):StpOk (S.withAv a):=
 {inn:=⟨h.inn.gain,h.inn.drag,h.inn.low,h.inn.high,h.inn.rate,h.inn.soft,h.inn.P,h.inn.I,h.inn.D,h.inn.lo,h.inn.hi,h.inn.m0,h.inn.m1,h.inn.m2,h.inn.m3,h.inn.m4,h.inn.up,h.inn.down,h.inn.most,h.inn.sum,h.inn.wide,h.inn.full,h.inn.oh,h.inn.ol,h.inn.bits,h.inn.trim,h.inn.prof⟩
  ram:=h.ram,srv:=h.srv,wat:=h.wat,cnt:=h.cnt,pts:=h.pts,sns:=h.sns,oil:=h.oil,evn:=h.evn}
theorem DynOk.withAv (h:DynOk S D) (a:Nat→Prop):DynOk (S.withAv a) D:=
 {frame:=h.frame,link:=h.link,lkb:=h.lkb,lqb:=h.lqb,ws:=h.ws,want:=h.want,mode:=h.mode,team:=h.team,drv:=h.drv,off:=h.off,cnts:=h.cnts,spool:=h.spool,track:=h.track,pos:=h.pos,vel:=h.vel,log:=h.log,last:=h.last}
end
section
variable (S:Stp) (a:Nat→Prop) (D:Dyn) (I:Inp)
theorem oilD_av:oilD (S.withAv a) D I=oilD S D I:=rfl
theorem restX_av:restX (S.withAv a) D I=restX S D I:=rfl
theorem restD_av:restD (S.withAv a) D I=restD S D I:=by unfold restD;simp only[restX_av]
theorem trlJ_av (j:Nat):trlJ (S.withAv a) I j=trlJ S I j:=rfl
theorem tstJ_av (j:Nat):tstJ (S.withAv a) D I j=tstJ S D I j:=by unfold tstJ;rw[trlJ_av];rfl
theorem badJ_av (j:Nat):badJ (S.withAv a) D I j=badJ S D I j:=by unfold badJ;rw[tstJ_av];rfl
theorem tryLog_av (k:Nat):tryLog (S.withAv a) D I k=tryLog S D I k:=by
 induction k with
 |zero=>rfl
 |succ k ih=>simp only[tryLog,ih,badJ_av]
theorem tryPass_av (k:Nat):tryPass (S.withAv a) D I k=tryPass S D I k:=by
 induction k with
 |zero=>rfl
 |succ k ih=>simp only[tryPass,ih,badJ_av]
theorem tryD_av:tryD (S.withAv a) D I=tryD S D I:=by unfold tryD;simp only[tryLog_av,tryPass_av]
theorem opMid_av:opMid (S.withAv a) D I=opMid S D I:=rfl
theorem stepD_av (x y:Int) (d:Drv):stepD (S.withAv a) x y d=stepD S x y d:=rfl
theorem drvN_av (m:Int):drvN (S.withAv a) D m=drvN S D m:=by unfold drvN;simp only[stepD_av]
theorem vlvN_av (m:Int):vlvN (S.withAv a) D m=vlvN S D m:=by unfold vlvN valN;simp only[stepD_av]
theorem spoN_av (m:Int) (F:Nat→Int):spoN (S.withAv a) D m F=spoN S D m F:=by unfold spoN;simp only[vlvN_av]
theorem opD1_av:opD1 (S.withAv a) D I=opD1 S D I:=by unfold opD1;simp only[drvN_av,spoN_av,opMid_av]
theorem opPush_av:opPush (S.withAv a) D I=opPush S D I:=by unfold opPush;simp only[spoN_av,opMid_av]
theorem opFight_av:opFight (S.withAv a) D I=opFight S D I:=by unfold opFight;simp only[opPush_av]
theorem opX_av:opX (S.withAv a) D I=opX S D I:=by unfold opX;simp only[opPush_av];rfl
theorem opD2_av:opD2 (S.withAv a) D I=opD2 S D I:=by unfold opD2;simp only[opD1_av,opX_av]
theorem opD3_av:opD3 (S.withAv a) D I=opD3 S D I:=by unfold opD3;simp only[opD2_av];rfl
theorem signs_av (vv ff:Nat→Int):signs (S.withAv a) D I vv ff=signs S D I vv ff:=by
 funext j k;unfold signs snsF snoF;rfl
theorem fltC_av (vv ff:Nat→Int):fltC (S.withAv a) D I vv ff=fltC S D I vv ff:=by unfold fltC;simp only[signs_av];rfl
theorem fltB_av (vv ff:Nat→Int):fltB (S.withAv a) D I vv ff=fltB S D I vv ff:=by unfold fltB;simp only[fltC_av]
theorem opF_av:opF (S.withAv a) D I=opF S D I:=by unfold opF;simp only[fltB_av,opD3_av,vlvN_av,opMid_av,opFight_av]
theorem opD4_av:opD4 (S.withAv a) D I=opD4 S D I:=by unfold opD4;simp only[fltC_av,opD3_av,vlvN_av,opMid_av,opFight_av]
theorem opD5_av:opD5 (S.withAv a) D I=opD5 S D I:=by unfold opD5;simp only[opD4_av,opFight_av];rfl
theorem opN_av:opN (S.withAv a) D I=opN S D I:=by unfold opN;simp only[opF_av]
theorem opD6_av:opD6 (S.withAv a) D I=opD6 S D I:=by unfold opD6;simp only[opD5_av,opF_av,opN_av]
theorem opD_av:opD (S.withAv a) D I=opD S D I:=by unfold opD;simp only[opD6_av]
theorem triedD_av:triedD (S.withAv a) D I=triedD S D I:=by unfold triedD;rw[tryD_av]
theorem movedD_av:movedD (S.withAv a) D I=movedD S D I:=by unfold movedD;rw[opD_av,restD_av]
theorem frameL_av:frameL (S.withAv a) D I=frameL S D I:=by unfold frameL;rw[movedD_av,triedD_av,oilD_av]
end
end Go.Proofs.YtpkiepjmcepnoaaGreatDoor
