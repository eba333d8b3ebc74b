/- A part of a proof. -/
import Derived.Deep.RegionHeld3
import Derived.Test.YtpkiepjmcepnoaaGreatDoorPtB
import Derived.Test.YtpkiepjmcepnoaaGreatDoorPtF
import Derived.Test.YtpkiepjmcepnoaaGreatDoorPtV
set_option maxHeartbeats 16000000
set_option maxRecDepth 100000
namespace Go.Proofs.YtpkiepjmcepnoaaGreatDoor
open Go.ChangeShapes Go.WideShapes Go.ChangeAt Go.RowKit
set_option linter.unusedVariables false
theorem NoteOk.put {f:Int} {L:List EntR} (h:NoteOk f L) {lane code:Int} (hl:0≤lane∧lane≤4) (hc:1≤code∧code≤20):NoteOk f (putL L f lane code):=by
 have hs:=(sumM_nonneg h.log.2 L.length (Nat.le_refl _)).1
 rw[List.take_length]at hs
 have hn:=inv_next (O:=L) (p:=(sumM L).toNat) (f:=f) (l:=lane) (c:=code) ⟨h.log,by omega,.inr (.inl (by omega))⟩ ⟨h.log,⟨h.frame,hl,hc,by show(1:Int)≤1∧(1:Int)≤9999;decide⟩,h.last⟩
 exact⟨h.frame,hn.inv.ok,fun _=>hn.frame⟩
def snsF (S:Stp) (D:Dyn) (I:Inp):Nat→Int:=fun j=>snsP S D.pos (I.f j)
def snoF (S:Stp) (D:Dyn) (I:Inp):Nat→Bool:=fun j=>snsO S D.pos (I.f j)
def signs (S:Stp) (D:Dyn) (I:Inp) (vv ff:Nat→Int) (j:Nat):Nat→Bool
 |0=>offB (vv j) (D.spool j) S.m0
 |1=>offB (if snoF S D I j then snsF S D I j else midS S D.pos I.f) (midS S D.pos I.f) S.m1
 |2=>offB (if snoF S D I j then snsF S D I j else midS S D.pos I.f) D.track S.m2
 |3=>forceB (ff j) S.m3
 |_=> !snoF S D I j
def cntsN (S:Stp) (C:Cnts) (r:Nat→Bool):Cnts:=fun k=>(cntN S.up S.down S.most (C k).1 (r k),cntS S.up S.down S.most (C k).1 (C k).2 (r k))
def fltC (S:Stp) (D:Dyn) (I:Inp) (vv ff:Nat→Int):Nat→Cnts:=fun j=>if(D.team j).1=1 then cntsN S (D.cnts j) (signs S D I vv ff j)else zeroC
def fltB (S:Stp) (D:Dyn) (I:Inp) (vv ff:Nat→Int):Nat→Bool:=fun j=>anyI (fltC S D I vv ff j) 5
def logI (f:Int) (lane:Int) (C:Cnts) (L:List EntR):Nat→List EntR
 |0=>L
 |m+1=>if(C m).2 then putL (logI f lane C L m) f lane (5+(m:Int))else logI f lane C L m
def logF (f:Int) (C:Nat→Cnts) (L:List EntR):Nat→List EntR
 |0=>L
 |k+1=>logI f k (C k) (logF f C L k) 5
theorem logI_ok {f lane:Int} {C:Cnts} {L:List EntR} (h:NoteOk f L) (hl:0≤lane∧lane≤4):∀m,m≤5→NoteOk f (logI f lane C L m)
 |0,_=>h
 |m+1,hm=>by
  have ih:=logI_ok (C:=C) h hl m (by omega)
  unfold logI;split
  ·exact ih.put hl (by omega)
  ·exact ih
theorem logF_ok {f:Int} {C:Nat→Cnts} {L:List EntR} (h:NoteOk f L):∀k,k≤4→NoteOk f (logF f C L k)
 |0,_=>h
 |k+1,hk=>logI_ok (logF_ok h k (by omega)) (by omega) 5 (by omega)
theorem logI_none {f lane:Int} {C:Cnts} {L:List EntR}:∀m,anyI C m=false→logI f lane C L m=L
 |0,_=>rfl
 |m+1,h=>by
  simp only[anyI,Bool.or_eq_false_iff]at h
  unfold logI;rw[h.2];exact logI_none m h.1
theorem cnts_index (C:Cnts) {k:Nat} (h:k<5) (w:World):(Instr.index 86 (cntsV C) (.int .i64 (k:Int))).run Tryz.prog w=.ok (.agg #[.int .i64 (C k).1,.bool (C k).2]) w:=by
 rcases(by omega:k=0∨k=1∨k=2∨k=3∨k=4)with rfl|rfl|rfl|rfl|rfl<;>kernel_rfl
theorem lay_cnt (S:Stp) (D:Dyn) (vp vl vg:Value) {k:Nat} (h:k<4):(lay S D vp vl vg)[73+k*10]?=some (.int .i64 (D.cnts k 0).1)∧(lay S D vp vl vg)[73+k*10+1]?=some (.bool (D.cnts k 0).2)∧(lay S D vp vl vg)[73+k*10+2]?=some (.int .i64 (D.cnts k 1).1)∧(lay S D vp vl vg)[73+k*10+3]?=some (.bool (D.cnts k 1).2)∧(lay S D vp vl vg)[73+k*10+4]?=some (.int .i64 (D.cnts k 2).1)∧(lay S D vp vl vg)[73+k*10+5]?=some (.bool (D.cnts k 2).2)∧(lay S D vp vl vg)[73+k*10+6]?=some (.int .i64 (D.cnts k 3).1)∧(lay S D vp vl vg)[73+k*10+7]?=some (.bool (D.cnts k 3).2)∧(lay S D vp vl vg)[73+k*10+8]?=some (.int .i64 (D.cnts k 4).1)∧(lay S D vp vl vg)[73+k*10+9]?=some (.bool (D.cnts k 4).2):=by
 rcases(by omega:k=0∨k=1∨k=2∨k=3)with rfl|rfl|rfl|rfl<;>exact⟨rfl,rfl,rfl,rfl,rfl,rfl,rfl,rfl,rfl,rfl⟩
theorem lay_cnt_set (S:Stp) (D:Dyn) (vp vl vg:Value) {k:Nat} (h:k<4) (C:Cnts):((((((((((lay S D vp vl vg).set (73+k*10) (.int .i64 (C 0).1)).set (73+k*10+1) (.bool (C 0).2)).set (73+k*10+2) (.int .i64 (C 1).1)).set (73+k*10+3) (.bool (C 1).2)).set (73+k*10+4) (.int .i64 (C 2).1)).set (73+k*10+5) (.bool (C 2).2)).set (73+k*10+6) (.int .i64 (C 3).1)).set (73+k*10+7) (.bool (C 3).2)).set (73+k*10+8) (.int .i64 (C 4).1)).set (73+k*10+9) (.bool (C 4).2)=lay S {D with cnts:=fun j=>if j=k then C else D.cnts j} vp vl vg:=by
 rcases(by omega:k=0∨k=1∨k=2∨k=3)with rfl|rfl|rfl|rfl<;>rfl
theorem grown_setC (w:World) (b k:Nat) (C:Cnts):w.grownBy ((((((((((w.setCell ⟨b,73+k*10,none⟩ (.int .i64 (C 0).1)).setCell ⟨b,73+k*10+1,none⟩ (.bool (C 0).2)).setCell ⟨b,73+k*10+2,none⟩ (.int .i64 (C 1).1)).setCell ⟨b,73+k*10+3,none⟩ (.bool (C 1).2)).setCell ⟨b,73+k*10+4,none⟩ (.int .i64 (C 2).1)).setCell ⟨b,73+k*10+5,none⟩ (.bool (C 2).2)).setCell ⟨b,73+k*10+6,none⟩ (.int .i64 (C 3).1)).setCell ⟨b,73+k*10+7,none⟩ (.bool (C 3).2)).setCell ⟨b,73+k*10+8,none⟩ (.int .i64 (C 4).1)).setCell ⟨b,73+k*10+9,none⟩ (.bool (C 4).2)) (some b):=
 (grownBy_two (grownBy_two (grownBy_two (grownBy_two (grownBy_two (grownBy_two (grownBy_two (grownBy_two (grownBy_two (grown_setW _ _ _ _) (grown_setW _ _ _ _)) (grown_setW _ _ _ _)) (grown_setW _ _ _ _)) (grown_setW _ _ _ _)) (grown_setW _ _ _ _)) (grown_setW _ _ _ _)) (grown_setW _ _ _ _)) (grown_setW _ _ _ _)) (grown_setW _ _ _ _))
theorem WAt.cntSet {w:World} {b k:Nat} {S:Stp} {D D':Dyn} {vp vl vg:Value} (h:WAt w b S D vp vl vg) (hk:k<4) (C:Cnts) (hD:D'={D with cnts:=fun j=>if j=k then C else D.cnts j}):WAt ((((((((((w.setCell ⟨b,73+k*10,none⟩ (.int .i64 (C 0).1)).setCell ⟨b,73+k*10+1,none⟩ (.bool (C 0).2)).setCell ⟨b,73+k*10+2,none⟩ (.int .i64 (C 1).1)).setCell ⟨b,73+k*10+3,none⟩ (.bool (C 1).2)).setCell ⟨b,73+k*10+4,none⟩ (.int .i64 (C 2).1)).setCell ⟨b,73+k*10+5,none⟩ (.bool (C 2).2)).setCell ⟨b,73+k*10+6,none⟩ (.int .i64 (C 3).1)).setCell ⟨b,73+k*10+7,none⟩ (.bool (C 3).2)).setCell ⟨b,73+k*10+8,none⟩ (.int .i64 (C 4).1)).setCell ⟨b,73+k*10+9,none⟩ (.bool (C 4).2)) b S D' vp vl vg:=by
 subst hD
 exact h.turn (grown_setC w b k C) ((((((((((h.c.set_ (73+k*10) (by(try simp only[List.length_set]);rw[lay_len];omega) (.int .i64 (C 0).1)).set_ (73+k*10+1) (by(try simp only[List.length_set]);rw[lay_len];omega) (.bool (C 0).2)).set_ (73+k*10+2) (by(try simp only[List.length_set]);rw[lay_len];omega) (.int .i64 (C 1).1)).set_ (73+k*10+3) (by(try simp only[List.length_set]);rw[lay_len];omega) (.bool (C 1).2)).set_ (73+k*10+4) (by(try simp only[List.length_set]);rw[lay_len];omega) (.int .i64 (C 2).1)).set_ (73+k*10+5) (by(try simp only[List.length_set]);rw[lay_len];omega) (.bool (C 2).2)).set_ (73+k*10+6) (by(try simp only[List.length_set]);rw[lay_len];omega) (.int .i64 (C 3).1)).set_ (73+k*10+7) (by(try simp only[List.length_set]);rw[lay_len];omega) (.bool (C 3).2)).set_ (73+k*10+8) (by(try simp only[List.length_set]);rw[lay_len];omega) (.int .i64 (C 4).1)).set_ (73+k*10+9) (by(try simp only[List.length_set]);rw[lay_len];omega) (.bool (C 4).2)) (lay_cnt_set S D vp vl vg hk C) rfl rfl
structure FltAt (wr w0:World) (b g:Nat) (S:Stp) (D:Dyn) (vp vl:Value) (vv ff P:Nat→Int) (O ob:Nat→Bool):Prop where
 wat:∃vg,WAt wr b S D vp vl vg∧((∀c,c<g→OffB c vg)∨RecsAt 4 entLay w0 vg D.log)
 wp:RecsAt 3 pointLay w0 vp S.prof
 wl:IntsAt .i32 w0 vl D.ws
 cv:CellsAt wr (w0.heap.size+1) (i32c vv)
 cf:CellsAt wr (w0.heap.size+1+1) (i32c ff)
 cr:CellsAt wr (w0.heap.size+1+1+1) (boolc fun _=>false)
 co:CellsAt wr (w0.heap.size+1+1+1+1) (boolc ob)
 cp:CellsAt wr g (i32c P)
 cq:CellsAt wr (g+1) (boolc O)
 gr:w0.grownBy wr (some b)
 zz:w0.heap.size+1+1+1+1<g
theorem FltAt.grow {wr w' w0:World} {b g:Nat} {S:Stp} {D D':Dyn} {vp vl:Value} {vv ff P:Nat→Int} {O ob:Nat→Bool} (h:FltAt wr w0 b g S D vp vl vv ff P O ob) (hb:b<w0.heap.size) (hg:wr.grownBy w' (some b)) (hw:∃vg,WAt w' b S D' vp vl vg∧((∀c,c<g→OffB c vg)∨RecsAt 4 entLay w0 vg D'.log)) (hs:D'.ws=D.ws):FltAt w' w0 b g S D' vp vl vv ff P O ob:=by
 have hz:=h.zz
 exact⟨hw,h.wp,by rw[hs];exact h.wl,far_cells h.cv hg (by omega),far_cells h.cf hg (by omega),far_cells h.cr hg (by omega),far_cells h.co hg (by omega),far_cells h.cp hg (by omega),far_cells h.cq hg (by omega),grownBy_two h.gr hg,hz⟩
theorem FltAt.call {wr w' w0:World} {b g:Nat} {S:Stp} {D:Dyn} {vp vl:Value} {vv ff P:Nat→Int} {O ob:Nat→Bool} (h:FltAt wr w0 b g S D vp vl vv ff P O ob) (hb:b<w0.heap.size) (hg:Below wr.heap.size wr w'):FltAt w' w0 b g S D vp vl vv ff P O ob:=by
 obtain⟨vg,hw,hv⟩:=h.wat
 exact h.grow hb (grown_of_below hg (some b)) ⟨vg,hw.call hg,hv⟩ rfl
theorem FltAt.put {wr w0:World} {b g k:Nat} {S:Stp} {D:Dyn} {vp vl:Value} {vv ff P:Nat→Int} {O ob ob':Nat→Bool} (h:FltAt wr w0 b g S D vp vl vv ff P O ob) (hb:b<w0.heap.size) (hk:k<4) (x:Bool) (ho:(fun j=>if j=k then x else ob j)=ob'):FltAt (wr.setCell ⟨w0.heap.size+1+1+1+1,k,none⟩ (.bool x)) w0 b g S D vp vl vv ff P O ob':=by
 have hz:=h.zz
 obtain⟨vg,hw,hv⟩:=h.wat
 subst ho
 have hgz:=h.gr.size
 have hgo:w0.grownBy (wr.setCell ⟨w0.heap.size+1+1+1+1,k,none⟩ (.bool x)) (some b):=grown_own h.gr (by omega)
 refine⟨⟨vg,⟨hw.c.other (by omega) _ _,recs_off pointLay_len (by decide) h.wp hw.np.1 hgo,ints_off h.wl hw.nl.1 hgo,?_,hw.np.later (grown_setW wr (w0.heap.size+1+1+1+1) k (.bool x)).size,hw.nl.later (grown_setW wr (w0.heap.size+1+1+1+1) k (.bool x)).size,hw.ng.later (grown_setW wr (w0.heap.size+1+1+1+1) k (.bool x)).size,fun c hc=>Nat.lt_of_lt_of_le (hw.hv c hc) (grown_setW wr (w0.heap.size+1+1+1+1) k (.bool x)).size⟩,hv⟩,h.wp,h.wl,h.cv.other (by omega) _ _,h.cf.other (by omega) _ _,h.cr.other (by omega) _ _,?_,h.cp.other (by omega) _ _,h.cq.other (by omega) _ _,hgo,hz⟩
 ·rcases hv with hv|hv
  ·exact recs_off entLay_len (by decide) hw.g (hv _ (by omega)) (grown_setW _ _ _ _)
  ·exact recs_off entLay_len (by decide) hv hw.ng.1 hgo
 ·have h9:=h.co.set_ k (by exact hk) (.bool x)
  rw[boolc_set _ hk]at h9
  exact h9
theorem FltAt.out4 {wr w0:World} {b g:Nat} {S:Stp} {D:Dyn} {vp vl:Value} {vv ff P:Nat→Int} {O ob:Nat→Bool} (h:FltAt wr w0 b g S D vp vl vv ff P O ob) (hb:b<w0.heap.size) (v0 v1 v2 v3:Value):∃vg,WAt (set4 wr (w0.heap.size+1+1+1) v0 v1 v2 v3) b S D vp vl vg:=by
 have hz:=h.zz
 obtain⟨vg,hw,hv⟩:=h.wat
 have hgo:w0.grownBy (set4 wr (w0.heap.size+1+1+1) v0 v1 v2 v3) (some b):=grown_own (grown_own (grown_own (grown_own h.gr (by omega)) (by omega)) (by omega)) (by omega)
 have hg4:wr.grownBy (set4 wr (w0.heap.size+1+1+1) v0 v1 v2 v3) (some (w0.heap.size+1+1+1)):=grownBy_two (grownBy_two (grownBy_two (grown_setW _ _ _ _) (grown_setW _ _ _ _)) (grown_setW _ _ _ _)) (grown_setW _ _ _ _)
 refine⟨vg,⟨hw.c.other4 (by omega) _ _ _ _,recs_off pointLay_len (by decide) h.wp hw.np.1 hgo,ints_off h.wl hw.nl.1 hgo,?_,hw.np.later hg4.size,hw.nl.later hg4.size,hw.ng.later hg4.size,fun c hc=>Nat.lt_of_lt_of_le (hw.hv c hc) hg4.size⟩⟩
 rcases hv with hv|hv
 ·exact recs_off entLay_len (by decide) hw.g (hv _ (by omega)) hg4
 ·exact recs_off entLay_len (by decide) hv hw.ng.1 hgo
theorem fltStep {S:Stp} {D:Dyn} {I:Inp} (hS:StpOk S) (hD:DynOk S D) {vv ff:Nat→Int} (hv:∀j,j<4→ -2147483648≤vv j∧vv j≤2147483647) (hf:∀j,j<4→ -2147483648≤ff j∧ff j≤2147483647) (hm: -2147483648≤midS S D.pos I.f∧midS S D.pos I.f≤2147483647) {k:Nat} (hk:k<4) (hT:(D.team k).1=1) (w:World):
  Calls Tryz.prog 152 #[watchV S.m0 S.m1 S.m2 S.m3 S.m4 S.up S.down S.most,cntsV (D.cnts k),laneV (vv k) (D.spool k) (if snoF S D I k then snsF S D I k else midS S D.pos I.f) (midS S D.pos I.f) D.track (ff k) (snoF S D I k)] w fun e w'=>e=.returned (.tuple #[cntsV (fltC S D I vv ff k),.bool (fltB S D I vv ff k),.int .i64 0])∧Below w.heap.size w w':=by
 have hC:fltC S D I vv ff k=cntsN S (D.cnts k) (signs S D I vv ff k):=by unfold fltC;rw[if_pos hT]
 have hp: -2147483648≤(if snoF S D I k then snsF S D I k else midS S D.pos I.f)∧(if snoF S D I k then snsF S D I k else midS S D.pos I.f)≤2147483647:=by
  split
  ·exact sensP_bd _ _ _ _ _
  ·exact hm
 have hs:∀j,stepsTo S.up S.down S.most (D.cnts k) (fltC S D I vv ff k) j (signs S D I vv ff k j):=fun j=>by rw[hC];rfl
 exact watchStep_yes S.m0 S.m1 S.m2 S.m3 S.m4 S.up S.down S.most (vv k) (D.spool k) _ _ D.track (ff k) _ _ _ _ _ _ (D.cnts k) (fltC S D I vv ff k) w hS.inn.m0 hS.inn.m1 hS.inn.m2 hS.inn.m3 hS.inn.m4 (hv k hk) (hD.spool k hk) hp hm hD.track (hf k hk) rfl rfl rfl rfl rfl hS.wat (fun j hj=>hD.cnts k j hk hj) (hs 0) (hs 1) (hs 2) (hs 3) (hs 4)
def FltRel (w0:World) (b g:Nat) (S:Stp) (D:Dyn) (vp vl:Value) (I:Inp) (vv ff P:Nat→Int) (O:Nat→Bool) (i:Value) (wr:World):Prop:=
 ∃k:Nat,k≤4∧i=.int .i64 k∧FltAt wr w0 b g S {D with cnts:=upTo (fltC S D I vv ff) D.cnts k,log:=logF D.frame (fltC S D I vv ff) D.log k} vp vl vv ff P O (upTo (fltB S D I vv ff) (fun _=>false) k)
def FltInn (w0:World) (b g k:Nat) (C:Cnts) (S:Stp) (D:Dyn) (vp vl:Value) (I:Inp) (vv ff P:Nat→Int) (O:Nat→Bool) (i:Value) (wr:World):Prop:=
 ∃m:Nat,m≤5∧i=.int .i64 m∧FltAt wr w0 b g S {D with cnts:=upTo (fltC S D I vv ff) D.cnts (k+1),log:=logI D.frame k C (logF D.frame (fltC S D I vv ff) D.log k) m} vp vl vv ff P O (upTo (fltB S D I vv ff) (fun _=>false) (k+1))
theorem faults_is {b:Nat} {S:Stp} {D:Dyn} {I:Inp} {vp vl vg:Value} {w:World} (h:WAt w b S D vp vl vg) (hS:StpOk S) (hD:DynOk S D) (vv ff:Nat→Int) (hv:∀j,j<4→ -2147483648≤vv j∧vv j≤2147483647) (hf:∀j,j<4→ -2147483648≤ff j∧ff j≤2147483647) (hm: -2147483648≤midS S D.pos I.f∧midS S D.pos I.f≤2147483647):
  Calls Tryz.prog 119 #[ptr b,inV I,i32A vv,i32A ff] w fun e w'=>e=.returned (boolA (fltB S D I vv ff))∧∃vg',WAt w' b S {D with cnts:=fltC S D I vv ff,log:=logF D.frame (fltC S D I vv ff) D.log 4} vp vl vg'∧w.grownBy w' (some b):=by
 have HS:=qh hS;have HD:=qh hD;have HW0:=qh h;have HV:=qh hv;have HF:=qh hf
 obtain⟨w3,hw3⟩:∃x,(((((w.alloc (.cells #[.string I.cmd,.int .i32 I.p0,.int .i32 I.p1,.int .i32 I.load,.int .i64 (I.f 0),.int .i64 (I.f 1),.int .i64 (I.f 2),.int .i64 (I.f 3),.bool I.ground,.int .i64 I.ask,.bool I.tries,.int .i64 I.reset] 55)).alloc (.cells #[.int .i32 (vv 0),.int .i32 (vv 1),.int .i32 (vv 2),.int .i32 (vv 3)] 83)).alloc (.cells #[.int .i32 (ff 0),.int .i32 (ff 1),.int .i32 (ff 2),.int .i32 (ff 3)] 83)).alloc (.cells #[.bool false,.bool false,.bool false,.bool false] 197)).alloc (.cells #[.bool false,.bool false,.bool false,.bool false] 197))=x:=⟨_,rfl⟩
 have CV:Hid (CellsAt w3 (w.heap.size+1) (i32c vv)):=qh (hw3▸(((CellsAt.new' (by simp) rfl).alloc _).alloc _).alloc _)
 have CF:Hid (CellsAt w3 (w.heap.size+1+1) (i32c ff)):=qh (hw3▸((CellsAt.new' (by simp) rfl).alloc _).alloc _)
 have CR:Hid (CellsAt w3 (w.heap.size+1+1+1) (boolc fun _=>false)):=qh (hw3▸(CellsAt.new' (by simp) rfl).alloc _)
 have CO:Hid (CellsAt w3 (w.heap.size+1+1+1+1) (boolc fun _=>false)):=qh (hw3▸CellsAt.new' (by simp) rfl)
 have CI:Hid (CellsAt w3 w.heap.size (inL I)):=qh (hw3▸(((((CellsAt.new w (inL I) _ _ rfl).alloc _).alloc _).alloc _).alloc _))
 have b3:Below w.heap.size w w3:=hw3▸((((((bLr).alloc (Nat.le_refl _) _).alloc (by simp) _).alloc (by simp;omega) _).alloc (by simp;omega) _).alloc (by simp;omega) _)
 have z3:w3.heap.size=w.heap.size+1+1+1+1+1:=by rw[←hw3];simp
 have B3:=qh b3
 have h3:=h.call b3
 have HW3':=qh h3
 have hbw:=h.lt
 have HW3:=qh hw3
 have HSN:Hid (Calls Tryz.prog 111 #[ptr b,inV I] w3 fun e w'=>e=.returned (.tuple #[i32A (snsF S D I),boolA (snoF S D I),.int .i32 (midS S D.pos I.f)])∧Below w3.heap.size w3 w'):=qh (sense_is h3 hS hD)
 have HST:=qh (fun(k:Nat) (hk:k<4) (hT:(D.team k).1=1) (w':World)=>fltStep (I:=I) hS hD hv hf hm hk hT w')
 obtain⟨P,hP⟩:∃P,snsF S D I=P:=⟨_,rfl⟩
 obtain⟨O,hO⟩:∃O,snoF S D I=O:=⟨_,rfl⟩
 obtain⟨mid,hmid⟩:∃x,midS S D.pos I.f=x:=⟨_,rfl⟩
 rw[hP,hO,hmid]at HSN HST
 have HP:=qh hP;have HO:=qh hO;have HM:=qh hmid
 have i0:=CI.out.at_ 0 rfl;have i1:=CI.out.at_ 1 rfl;have i2:=CI.out.at_ 2 rfl;have i3:=CI.out.at_ 3 rfl;have i4:=CI.out.at_ 4 rfl;have i5:=CI.out.at_ 5 rfl;have i6:=CI.out.at_ 6 rfl;have i7:=CI.out.at_ 7 rfl;have i8:=CI.out.at_ 8 rfl;have i9:=CI.out.at_ 9 rfl;have i10:=CI.out.at_ 10 rfl;have i11:=CI.out.at_ 11 rfl
 have iz:=CI.out.lt
 clear h hS hD hw3 h3 b3 hP hO hmid hv hf hm
 go_enter Tryz.func119,Tryz.ntmps119
 go_upto_region 2 with(fail)
 rw[HW3.out]
 go_wp2_with fail
 refine HSN.out.mono ?_
 rintro e w4 ⟨rfl,hb4⟩
 obtain⟨w5,hw5⟩:∃x,((w4.alloc (.cells #[.int .i32 (P 0),.int .i32 (P 1),.int .i32 (P 2),.int .i32 (P 3)] 83)).alloc (.cells #[.bool (O 0),.bool (O 1),.bool (O 2),.bool (O 3)] 197))=x:=⟨_,rfl⟩
 have hz4:=hb4.size
 have K5:FltAt w5 w b w4.heap.size S D vp vl vv ff P O (fun _=>false):=by
  have b5:Below w3.heap.size w3 w5:=hw5▸((hb4.alloc (by omega) _).alloc (by simp;omega) _)
  have cp:CellsAt w5 w4.heap.size (i32c P):=hw5▸((CellsAt.new' rfl rfl).alloc _)
  have cq:CellsAt w5 (w4.heap.size+1) (boolc O):=hw5▸(CellsAt.new' (by simp) rfl)
  exact⟨⟨vg,HW3'.out.call b5,.inr HW0.out.g⟩,HW0.out.p,HW0.out.l,CV.out.call b5,CF.out.call b5,CR.out.call b5,CO.out.call b5,cp,cq,grown_of_below (B3.out.trans (b5.mono (by omega))) (some b),by omega⟩
 have HK5:=qh K5
 have HW5:=qh hw5
 obtain⟨vg5,hv5,-⟩:=K5.wat
 have t0:=hv5.c.at_ 41 rfl;have t1:=hv5.c.at_ 42 rfl;have t2:=hv5.c.at_ 43 rfl;have t3:=hv5.c.at_ 44 rfl;have t4:=hv5.c.at_ 45 rfl;have t5:=hv5.c.at_ 46 rfl;have t6:=hv5.c.at_ 47 rfl;have t7:=hv5.c.at_ 48 rfl;have t8:=hv5.c.at_ 49 rfl;have t9:=hv5.c.at_ 50 rfl;have t10:=hv5.c.at_ 51 rfl;have t11:=hv5.c.at_ 52 rfl
 have tz:=hv5.lt
 clear hw5 hb4 K5 hz4 z3 i0 i1 i2 i3 i4 i5 i6 i7 i8 i9 i10 i11 iz CI
 go_upto_region 3 with(fail)
 rw[HW5.out]
 go_wp2_with fail
 clear t0 t1 t2 t3 t4 t5 t6 t7 t8 t9 t10 t11 tz hv5 HW5 HSN HW3 HW3' CV CF CR CO B3
 go_loopw [29] (fun i wr=>FltRel w b w4.heap.size S D vp vl I vv ff P O i wr) (fun i _=>4-(intOf i).toNat)
 case atStart=>exact⟨0,by omega,rfl,by rw[upTo_0,upTo_0];exact HK5.out⟩
 case round=>
  clear HK5
  obtain⟨k,hk,rfl,hF⟩:=hrel
  have F:=qh hF
  have zg:=hF.gr.size
  have hgz:=hF.zz
  by_cases hlt:k<4
  ·have e5:(k:Int)<4:=by omega
   have hix:=team_index D.team hlt
   by_cases hmode:(D.team k).1=1
   ·have hm2:((D.team k).1 != 1)=false:=by rw[bne_eq_false_iff_eq];exact hmode
    have HSK:=qh (HST.out k hlt hmode)
    obtain⟨ok,hok⟩:∃x,O k=x:=⟨_,rfl⟩
    obtain⟨pk,hpk⟩:∃x,(if O k then P k else mid)=x:=⟨_,rfl⟩
    obtain⟨C',hC'⟩:∃x,fltC S D I vv ff k=x:=⟨_,rfl⟩
    obtain⟨any,hany⟩:∃x,fltB S D I vv ff k=x:=⟨_,rfl⟩
    rw[hpk,hok,hC',hany]at HSK
    have HCC:=qh hC';have HANY:=qh hany
    clear hC' hany
    rw[hok]at hpk
    have HOK:=qh hok;have HPK:=qh hpk
    obtain⟨wA,hwA⟩:∃x,wr.alloc (.cells #[.int .i64 1,.bool (D.team k).2.1,.int .i64 (D.team k).2.2] 75)=x:=⟨_,rfl⟩
    have FA':FltAt wA w b w4.heap.size S {D with cnts:=upTo (fltC S D I vv ff) D.cnts k,log:=logF D.frame (fltC S D I vv ff) D.log k} vp vl vv ff P O (upTo (fltB S D I vv ff) (fun _=>false) k):=F.out.call hbw (hwA▸(bLr).alloc (Nat.le_refl _) _)
    have FA:=qh FA'
    have HWA:=qh hwA
    obtain⟨vgA,hWA,-⟩:=FA'.wat
    have HA:=qh hWA
    have a0:=FA'.cv.at_ k (i32c_at vv hlt);have az:=FA'.cv.lt
    have b0:=FA'.cf.at_ k (i32c_at ff hlt);have bz:=FA'.cf.lt
    have c0:=FA'.cp.at_ k (i32c_at P hlt);have cz:=FA'.cp.lt
    have d0:=FA'.cq.at_ k (boolc_at O hlt);have dz:=FA'.cq.lt
    have s0:=hWA.c.at_ _ (lay_spool S {D with cnts:=upTo (fltC S D I vv ff) D.cnts k,log:=logF D.frame (fltC S D I vv ff) D.log k} vp vl vgA hlt)
    have s1:=hWA.c.at_ 117 rfl
    have sz:=hWA.lt
    rw[hok]at d0
    clear hF FA' hWA hwA hok hpk F
    obtain⟨wC,hwC⟩:∃x,(wA.alloc (.cells #[.int .i32 (vv k),.int .i32 (D.spool k),.int .i32 pk,.int .i32 mid,.int .i32 D.track,.int .i32 (ff k),.bool ok] 247)).drew=x:=⟨_,rfl⟩
    have FC':FltAt wC w b w4.heap.size S {D with cnts:=upTo (fltC S D I vv ff) D.cnts k,log:=logF D.frame (fltC S D I vv ff) D.log k} vp vl vv ff P O (upTo (fltB S D I vv ff) (fun _=>false) k):=FA.out.call hbw (hwC▸((bLr).alloc (Nat.le_refl _) _).drew)
    have FC:=qh FC'
    have HWC:=qh hwC
    have LC:Hid (CellsAt wC wA.heap.size [.int .i32 (vv k),.int .i32 (D.spool k),.int .i32 pk,.int .i32 mid,.int .i32 D.track,.int .i32 (ff k),.bool ok]):=qh (hwC▸(CellsAt.new' rfl rfl).drew)
    clear FC' hwC
    have hend:True:=trivial
    go_upto_region 8 with(fail)
    rw[HWA.out]
    have k0:=fun o=>(FA.out.cv.alloc o).at_ k (i32c_at vv hlt)
    have k1:=fun o=>(FA.out.cf.alloc o).at_ k (i32c_at ff hlt)
    have k2:=fun o=>(FA.out.cp.alloc o).at_ k (i32c_at P hlt)
    have k3:=fun o=>(FA.out.cq.alloc o).at_ k (boolc_at O hlt)
    have k4:=fun o=>(HA.out.c.alloc o).at_ _ (lay_spool S {D with cnts:=upTo (fltC S D I vv ff) D.cnts k,log:=logF D.frame (fltC S D I vv ff) D.log k} vp vl vgA hlt)
    have k5:=fun o=>(HA.out.c.alloc o).at_ 117 rfl
    rw[HOK.out]at k3
    go_region_held3 (fun w'=>w'.cell? ⟨w.heap.size+1,k,none⟩=some (.int .i32 (vv k))∧w'.cell? ⟨w.heap.size+1+1,k,none⟩=some (.int .i32 (ff k))∧w'.cell? ⟨w4.heap.size,k,none⟩=some (.int .i32 (P k))∧w'.cell? ⟨w4.heap.size+1,k,none⟩=some (.bool ok)∧w'.cell? ⟨b,113+k,none⟩=some (.int .i32 (D.spool k))∧w'.cell? ⟨b,117,none⟩=some (.int .i32 D.track)) (first|exact⟨a0,b0,c0,d0,s0,s1⟩|exact⟨k0 _,k1 _,k2 _,k3 _,k4 _,k5 _⟩) (fail)
    clear k0 k1 k2 k3 k4 k5 FA HA HWA
    cases ok
    all_goals first
     |obtain rfl:pk=mid:=HPK.out.symm
     |obtain rfl:pk=P k:=HPK.out.symm
    all_goals
     go_upto_region 11 with(fail)
     rw[HWC.out]
     clear a0 b0 c0 d0 s0 s1 az bz cz dz sz HWC
     obtain⟨vgC,hWC,-⟩:=FC.out.wat
     obtain⟨l0,l1,l2,l3,l4,l5,l6,l7,l8,l9⟩:=lay_cnt S {D with cnts:=upTo (fltC S D I vv ff) D.cnts k,log:=logF D.frame (fltC S D I vv ff) D.log k} vp vl vgC hlt
     have p0:=hWC.c.at_ _ l0;have p1:=hWC.c.at_ _ l1;have p2:=hWC.c.at_ _ l2;have p3:=hWC.c.at_ _ l3;have p4:=hWC.c.at_ _ l4;have p5:=hWC.c.at_ _ l5;have p6:=hWC.c.at_ _ l6;have p7:=hWC.c.at_ _ l7;have p8:=hWC.c.at_ _ l8;have p9:=hWC.c.at_ _ l9
     simp only[upTo_at]at p0 p1 p2 p3 p4 p5 p6 p7 p8 p9
     have pz:=hWC.lt
     have m0:=hWC.c.at_ 11 rfl;have m1:=hWC.c.at_ 12 rfl;have m2:=hWC.c.at_ 13 rfl;have m3:=hWC.c.at_ 14 rfl;have m4:=hWC.c.at_ 15 rfl;have m5:=hWC.c.at_ 16 rfl;have m6:=hWC.c.at_ 17 rfl;have m7:=hWC.c.at_ 18 rfl
     have e0:=LC.out.at_ 0 rfl;have e1:=LC.out.at_ 1 rfl;have e2:=LC.out.at_ 2 rfl;have e3:=LC.out.at_ 3 rfl;have e4:=LC.out.at_ 4 rfl;have e5':=LC.out.at_ 5 rfl;have e6:=LC.out.at_ 6 rfl
     have ez:=LC.out.lt
     clear hWC l0 l1 l2 l3 l4 l5 l6 l7 l8 l9
     go_cut [29]from 29 to 117 (fun v wx=>v=.int .i64 (k:Int)∧FltAt wx w b w4.heap.size S {D with cnts:=upTo (fltC S D I vv ff) D.cnts (k+1),log:=logF D.frame (fltC S D I vv ff) D.log k} vp vl vv ff P O (upTo (fltB S D I vv ff) (fun _=>false) (k+1)))
     case first=>
      go_region_law (first
       |(go_simp;go_at_call 152;refine(HSK.out _).mono ?_;rintro e1 w1 ⟨rfl,hb1⟩;have hbb:Below wC.heap.size wC w1:=((bLr).drew).trans hb1;have FD':=FC.out.call hbw hbb;obtain⟨vgD,hWD,hvgD⟩:=FD'.wat;obtain⟨r0,r1,r2,r3,r4,r5,r6,r7,r8,r9⟩:=lay_cnt S {D with cnts:=upTo (fltC S D I vv ff) D.cnts k,log:=logF D.frame (fltC S D I vv ff) D.log k} vp vl vgD hlt;have q0:=hWD.c.at_ _ r0;have q1:=hWD.c.at_ _ r1;have q2:=hWD.c.at_ _ r2;have q3:=hWD.c.at_ _ r3;have q4:=hWD.c.at_ _ r4;have q5:=hWD.c.at_ _ r5;have q6:=hWD.c.at_ _ r6;have q7:=hWD.c.at_ _ r7;have q8:=hWD.c.at_ _ r8;have q9:=hWD.c.at_ _ r9;have qf0:=hWD.c.2.1 (73+k*10);have qf1:=hWD.c.2.1 (73+k*10+1);have qf2:=hWD.c.2.1 (73+k*10+2);have qf3:=hWD.c.2.1 (73+k*10+3);have qf4:=hWD.c.2.1 (73+k*10+4);have qf5:=hWD.c.2.1 (73+k*10+5);have qf6:=hWD.c.2.1 (73+k*10+6);have qf7:=hWD.c.2.1 (73+k*10+7);have qf8:=hWD.c.2.1 (73+k*10+8);have qf9:=hWD.c.2.1 (73+k*10+9);have qz:=hWD.lt;have u0:=FD'.co.at_ k (boolc_at _ hlt);have uf:=FD'.co.2.1 k;have uz:=FD'.co.lt)
       |fail)
      all_goals
       go_wp2_with fail
       go_meet
       have K2:=(FD'.grow hbw (grown_setC w1 b k C') ⟨vgD,hWD.cntSet hlt C' rfl,hvgD⟩ rfl).put hbw hlt any (upTo_step (fltB S D I vv ff) (fun _=>false) k HANY.out)
       rw[upTo_step (fltC S D I vv ff) D.cnts k HCC.out]at K2
       exact⟨rfl,K2⟩
     case rest=>
      obtain⟨rfl,hK⟩:=hcut
      have K:=qh hK
      have u0:=hK.co.at_ k (boolc_at _ hlt);have uz:=hK.co.lt
      rw[show upTo (fltB S D I vv ff) (fun _=>false) (k+1) k=any by simp[upTo];exact HANY.out]at u0
      have hlg:logF D.frame (fltC S D I vv ff) D.log (k+1)=logI D.frame k C' (logF D.frame (fltC S D I vv ff) D.log k) 5:=by
       show logI _ _ (fltC S D I vv ff k) _ 5=_
       rw[HCC.out]
      have hac:anyI C' 5=any:=by rw[←HANY.out,←HCC.out];rfl
      have HLG:=qh hlg;have HAC:=qh hac
      clear hK hlg hac p0 p1 p2 p3 p4 p5 p6 p7 p8 p9 pz m0 m1 m2 m3 m4 m5 m6 m7 e0 e1 e2 e3 e4 e5' e6 ez LC FC HSK
      cases any
      ·go_wp2_with fail
       go_roundw
       case rel=>
        refine⟨k+1,by omega,by go_num,?_⟩
        rw[HLG.out,logI_none 5 HAC.out]
        exact K.out
       case measure=>simp[intOf];omega
      ·obtain⟨vg9,hW9,-⟩:=K.out.wat
       obtain⟨l0,l1,l2,l3,l4,l5,l6,l7,l8,l9⟩:=lay_cnt S {D with cnts:=upTo (fltC S D I vv ff) D.cnts (k+1),log:=logF D.frame (fltC S D I vv ff) D.log k} vp vl vg9 hlt
       have p0:=hW9.c.at_ _ l0;have p1:=hW9.c.at_ _ l1;have p2:=hW9.c.at_ _ l2;have p3:=hW9.c.at_ _ l3;have p4:=hW9.c.at_ _ l4;have p5:=hW9.c.at_ _ l5;have p6:=hW9.c.at_ _ l6;have p7:=hW9.c.at_ _ l7;have p8:=hW9.c.at_ _ l8;have p9:=hW9.c.at_ _ l9
       have hcc:upTo (fltC S D I vv ff) D.cnts (k+1) k=C':=by simp[upTo];exact HCC.out
       simp only[hcc]at p0 p1 p2 p3 p4 p5 p6 p7 p8 p9
       have pz:=hW9.lt
       clear hW9 l0 l1 l2 l3 l4 l5 l6 l7 l8 l9 hcc
       go_wp2_with fail
       clear p0 p1 p2 p3 p4 p5 p6 p7 p8 p9 pz u0 uz
       go_loopw [105] (fun i wr=>FltInn w b w4.heap.size k C' S D vp vl I vv ff P O i wr) (fun i _=>5-(intOf i).toNat)
       case atStart=>exact⟨0,by omega,rfl,K.out⟩
       case round=>
        clear K
        obtain⟨m,hm5,rfl,hG⟩:=hrel
        have G:=qh hG
        have zm:=hG.gr.size
        by_cases hlt5:m<5
        ·have e9:(m:Int)<5:=by omega
         have hix5:=cnts_index C' hlt5
         obtain⟨sg,hsg⟩:∃x,(C' m).2=x:=⟨_,rfl⟩
         have HSG:=qh hsg
         obtain⟨cn,hcn⟩:∃x,(C' m).1=x:=⟨_,rfl⟩
         rw[hsg,hcn]at hix5
         clear hsg hcn
         obtain⟨wE,hwE⟩:∃x,wr.alloc (.cells #[.int .i64 cn,.bool sg] 85)=x:=⟨_,rfl⟩
         have GE:FltAt wE w b w4.heap.size S {D with cnts:=upTo (fltC S D I vv ff) D.cnts (k+1),log:=logI D.frame k C' (logF D.frame (fltC S D I vv ff) D.log k) m} vp vl vv ff P O (upTo (fltB S D I vv ff) (fun _=>false) (k+1)):=hG.call hbw (hwE▸(bLr).alloc (Nat.le_refl _) _)
         obtain⟨vgE,hWE,-⟩:=GE.wat
         have hzE:=GE.cp.lt
         have HGE:=qh GE;have HWE:=qh hWE;have HwE:=qh hwE
         have hNE:NoteOk D.frame (logI D.frame k C' (logF D.frame (fltC S D I vv ff) D.log k) m):=logI_ok (logF_ok HD.out.noteOk k (by omega)) (by omega) m (by omega)
         have HNE:=qh hNE
         clear hG GE hWE hwE hNE
         cases sg
         ·go_wp2_with fail
          rw[HwE.out]
          go_roundw
          case rel=>
           refine⟨m+1,by omega,by go_num,?_⟩
           rw[show logI D.frame k C' (logF D.frame (fltC S D I vv ff) D.log k) (m+1)=logI D.frame k C' (logF D.frame (fltC S D I vv ff) D.log k) m by show(if(C' m).2 then _ else _)=_;rw[HSG.out];rfl]
           exact HGE.out
          case measure=>simp[intOf];omega
         ·go_wp2_with fail
          rw[HwE.out]
          refine(note_is HWE.out HNE.out (k:Int) (5+(m:Int)) (by omega) (by omega)).mono ?_
          rintro e7 w7 ⟨rfl,vg7,hW7,hg7,hof⟩
          have G7:=qh (HGE.out.grow hbw hg7 ⟨vg7,hW7,.inl (fun c hc=>hof c (by omega))⟩ rfl)
          clear hW7 hg7 hof
          go_wp2_with fail
          go_roundw
          case rel=>
           refine⟨m+1,by omega,by go_num,?_⟩
           rw[show logI D.frame k C' (logF D.frame (fltC S D I vv ff) D.log k) (m+1)=putL (logI D.frame k C' (logF D.frame (fltC S D I vv ff) D.log k) m) D.frame k (5+(m:Int)) by show(if(C' m).2 then _ else _)=_;rw[HSG.out];rfl]
           exact G7.out
          case measure=>simp[intOf];omega
        ·obtain rfl:m=5:=by omega
         rw[show((5:Nat):Int)=5 from rfl]
         clear hG
         go_wp2_with fail
         go_roundw
         case rel=>
          refine⟨k+1,by omega,by go_num,?_⟩
          rw[HLG.out]
          exact G.out
         case measure=>simp[intOf];omega
   ·have hm2:((D.team k).1 != 1)=true:=by rw[bne_iff_ne];exact hmode
    obtain⟨wA,hwA⟩:∃x,wr.alloc (.cells #[.int .i64 (D.team k).1,.bool (D.team k).2.1,.int .i64 (D.team k).2.2] 75)=x:=⟨_,rfl⟩
    have FA':FltAt wA w b w4.heap.size S {D with cnts:=upTo (fltC S D I vv ff) D.cnts k,log:=logF D.frame (fltC S D I vv ff) D.log k} vp vl vv ff P O (upTo (fltB S D I vv ff) (fun _=>false) k):=F.out.call hbw (hwA▸(bLr).alloc (Nat.le_refl _) _)
    have FA:=qh FA'
    have HWA:=qh hwA
    obtain⟨vgA,hWA,hvgA⟩:=FA'.wat
    have HA:=qh hWA
    have HVA:=qh hvgA
    obtain⟨l0,l1,l2,l3,l4,l5,l6,l7,l8,l9⟩:=lay_cnt S {D with cnts:=upTo (fltC S D I vv ff) D.cnts k,log:=logF D.frame (fltC S D I vv ff) D.log k} vp vl vgA hlt
    have p0:=hWA.c.at_ _ l0;have p1:=hWA.c.at_ _ l1;have p2:=hWA.c.at_ _ l2;have p3:=hWA.c.at_ _ l3;have p4:=hWA.c.at_ _ l4;have p5:=hWA.c.at_ _ l5;have p6:=hWA.c.at_ _ l6;have p7:=hWA.c.at_ _ l7;have p8:=hWA.c.at_ _ l8;have p9:=hWA.c.at_ _ l9
    have f0:=hWA.c.2.1 (73+k*10);have f1:=hWA.c.2.1 (73+k*10+1);have f2:=hWA.c.2.1 (73+k*10+2);have f3:=hWA.c.2.1 (73+k*10+3);have f4:=hWA.c.2.1 (73+k*10+4);have f5:=hWA.c.2.1 (73+k*10+5);have f6:=hWA.c.2.1 (73+k*10+6);have f7:=hWA.c.2.1 (73+k*10+7);have f8:=hWA.c.2.1 (73+k*10+8);have f9:=hWA.c.2.1 (73+k*10+9)
    have pz:=hWA.lt
    clear hF FA' hWA hwA hvgA F l0 l1 l2 l3 l4 l5 l6 l7 l8 l9
    go_upto_region 7 with(fail)
    rw[HWA.out]
    go_wp2_with fail
    go_roundw
    case rel=>
     have K:=FA.out.grow hbw (grown_setC wA b k zeroC) ⟨vgA,HA.out.cntSet hlt zeroC rfl,HVA.out⟩ rfl
     have hz:fltC S D I vv ff k=zeroC:=by unfold fltC;rw[if_neg hmode]
     have hlog:logF D.frame (fltC S D I vv ff) D.log (k+1)=logF D.frame (fltC S D I vv ff) D.log k:=by
      show logI _ _ (fltC S D I vv ff k) _ 5=_
      rw[hz];exact logI_none 5 rfl
     have hfb:fltB S D I vv ff k=false:=by unfold fltB;rw[hz];rfl
     have hob:upTo (fltB S D I vv ff) (fun _=>false) (k+1)=upTo (fltB S D I vv ff) (fun _=>false) k:=by
      rw[←upTo_step (fltB S D I vv ff) (fun _=>false) k hfb]
      funext j;by_cases e:j=k
      ·subst e;rw[if_pos rfl,upTo_at]
      ·rw[if_neg e]
     refine⟨k+1,by omega,by go_num,?_⟩
     rw[hob,hlog,←upTo_step (fltC S D I vv ff) D.cnts k hz]
     exact K
    case measure=>simp[intOf];omega
  ·obtain rfl:k=4:=by omega
   rw[show((4:Nat):Int)=4 from rfl]
   obtain⟨vg9,hW9,-⟩:=hF.wat
   have HW9:=qh hW9
   have p0:=hF.co.at_ 0 rfl;have p1:=hF.co.at_ 1 rfl;have p2:=hF.co.at_ 2 rfl;have p3:=hF.co.at_ 3 rfl;have pz:=hF.co.lt
   have q0:=hF.cr.at_ 0 rfl;have q1:=hF.cr.at_ 1 rfl;have q2:=hF.cr.at_ 2 rfl;have q3:=hF.cr.at_ 3 rfl;have qz:=hF.cr.lt
   have g0:=hF.cr.2.1 0;have g1:=hF.cr.2.1 1;have g2:=hF.cr.2.1 2;have g3:=hF.cr.2.1 3
   change wr.cell? _=some (.bool (fltB S D I vv ff 0))at p0
   change wr.cell? _=some (.bool (fltB S D I vv ff 1))at p1
   change wr.cell? _=some (.bool (fltB S D I vv ff 2))at p2
   change wr.cell? _=some (.bool (fltB S D I vv ff 3))at p3
   clear hF hW9
   go_wp2_with fail
   have E1:CellsAt ((((wr.setCell ⟨w.heap.size+1+1+1,0,none⟩ (.bool (fltB S D I vv ff 0))).setCell ⟨w.heap.size+1+1+1,1,none⟩ (.bool (fltB S D I vv ff 1))).setCell ⟨w.heap.size+1+1+1,2,none⟩ (.bool (fltB S D I vv ff 2))).setCell ⟨w.heap.size+1+1+1,3,none⟩ (.bool (fltB S D I vv ff 3))) (w.heap.size+1+1+1) (boolc (fltB S D I vv ff)):=F.out.cr.four (.bool (fltB S D I vv ff 0)) (.bool (fltB S D I vv ff 1)) (.bool (fltB S D I vv ff 2)) (.bool (fltB S D I vv ff 3))
   have G7:w.grownBy ((((wr.setCell ⟨w.heap.size+1+1+1,0,none⟩ (.bool (fltB S D I vv ff 0))).setCell ⟨w.heap.size+1+1+1,1,none⟩ (.bool (fltB S D I vv ff 1))).setCell ⟨w.heap.size+1+1+1,2,none⟩ (.bool (fltB S D I vv ff 2))).setCell ⟨w.heap.size+1+1+1,3,none⟩ (.bool (fltB S D I vv ff 3))) (some b):=grown_own (grown_own (grown_own (grown_own F.out.gr (by omega)) (by omega)) (by omega)) (by omega)
   obtain⟨vg7,W7⟩:=F.out.out4 hbw (.bool (fltB S D I vv ff 0)) (.bool (fltB S D I vv ff 1)) (.bool (fltB S D I vv ff 2)) (.bool (fltB S D I vv ff 3))
   have W7:WAt ((((wr.setCell ⟨w.heap.size+1+1+1,0,none⟩ (.bool (fltB S D I vv ff 0))).setCell ⟨w.heap.size+1+1+1,1,none⟩ (.bool (fltB S D I vv ff 1))).setCell ⟨w.heap.size+1+1+1,2,none⟩ (.bool (fltB S D I vv ff 2))).setCell ⟨w.heap.size+1+1+1,3,none⟩ (.bool (fltB S D I vv ff 3))) b S {D with cnts:=fltC S D I vv ff,log:=logF D.frame (fltC S D I vv ff) D.log 4} vp vl vg7:=⟨W7.c,W7.p,W7.l,W7.g,W7.np,W7.nl,W7.ng,W7.hv⟩
   obtain⟨w9,hw9⟩:∃x,((((wr.setCell ⟨w.heap.size+1+1+1,0,none⟩ (.bool (fltB S D I vv ff 0))).setCell ⟨w.heap.size+1+1+1,1,none⟩ (.bool (fltB S D I vv ff 1))).setCell ⟨w.heap.size+1+1+1,2,none⟩ (.bool (fltB S D I vv ff 2))).setCell ⟨w.heap.size+1+1+1,3,none⟩ (.bool (fltB S D I vv ff 3)))=x:=⟨_,rfl⟩
   rw[hw9]at E1 G7 W7⊢
   clear hw9
   have e0:=E1.at_ 0 rfl;have e1:=E1.at_ 1 rfl;have e2:=E1.at_ 2 rfl;have e3:=E1.at_ 3 rfl
   exact bodyPost_ret (v:=boolA (fltB S D I vv ff)) (by simp[results,Tryz.results119,go_sem,e0,e1,e2,e3]) rfl ⟨rfl,⟨vg7,W7⟩,G7⟩
end Go.Proofs.YtpkiepjmcepnoaaGreatDoor
