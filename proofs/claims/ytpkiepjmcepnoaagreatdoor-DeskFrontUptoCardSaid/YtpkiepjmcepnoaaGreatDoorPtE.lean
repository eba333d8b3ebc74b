/- A part of a proof. -/
import Derived.Lib.Hide
import Derived.Lib.AppendZeros
import Derived.Laws.AppendOwn
import Derived.Laws.AppendOwnNone
import Derived.OwnWalk
import Derived.Test.YtpkiepjmcepnoaaGreatDoorPtA
import Derived.Test.YtpkiepjmcepnoaaGreatDoorPtC
import Derived.Test.YtpkiepjmcepnoaaGreatDoorPtD
set_option maxHeartbeats 16000000
set_option maxRecDepth 100000
namespace Go.Proofs.YtpkiepjmcepnoaaGreatDoor
open Go.ChangeShapes Go.WideShapes Go.ChangeAt Go.RowKit
set_option linter.unusedVariables false
theorem servoRest_any (g s l v pos:Int) (w:World):
  Calls Tryz.prog 124 #[driveV g s l v,.int .i32 pos] w fun e w'=>e=.returned (driveV pos 0 0 0)∧Below w.heap.size w w':=by
 go_enter Tryz.func124,Tryz.ntmps124
 go_wp2
 refine bodyPost_ret (v:=driveV pos 0 0 0) (by simp[results,Tryz.results124,go_sem]) rfl ⟨rfl,?_⟩
 repeat(first|(with_reducible first|exact bLr)|((with_reducible first|refine bLs ?_ ?_ _|refine bLa ?_ ?_ _);·first|omega|(simp<;>omega))|with_reducible first|refine bLn ?_ _|refine bLd ?_)
def pushedI (m v o:Int):Int:=if m=1 then mulI v (max 0 o)else 0
theorem pushedI_bd (m v o:Int): -2147483648≤pushedI m v o∧pushedI m v o≤2147483647:=by
 unfold pushedI;split
 ·exact mulI_bd _ _
 ·omega
theorem push_yes (v0 v1 v2 v3 m0 m1 m2 m3 q0 q1 q2 q3:Int) (w:World) (h:ModesOk m0 m1 m2 m3) (hv0: -2147483648≤v0∧v0≤2147483647) (hv1: -2147483648≤v1∧v1≤2147483647) (hv2: -2147483648≤v2∧v2≤2147483647) (hv3: -2147483648≤v3∧v3≤2147483647) (hq0: -2147483648≤q0∧q0≤2147483647) (hq1: -2147483648≤q1∧q1≤2147483647) (hq2: -2147483648≤q2∧q2≤2147483647) (hq3: -2147483648≤q3∧q3≤2147483647):
  Calls Tryz.prog 114 #[.agg #[.int .i32 v0,.int .i32 v1,.int .i32 v2,.int .i32 v3],.agg #[.int .i64 m0,.int .i64 m1,.int .i64 m2,.int .i64 m3],.agg #[.int .i32 q0,.int .i32 q1,.int .i32 q2,.int .i32 q3]] w
   fun e w'=>e=.returned (.tuple #[.agg #[.int .i32 (pushedI m0 v0 q0),.int .i32 (pushedI m1 v1 q1),.int .i32 (pushedI m2 v2 q2),.int .i32 (pushedI m3 v3 q3)],.int .i64 0])∧Below w.heap.size w w':=by
 have ix0:∀w:World,(Instr.index 53 (.agg #[.int .i64 m0,.int .i64 m1,.int .i64 m2,.int .i64 m3]) (.int .i64 0)).run Tryz.prog w=.ok (.int .i64 m0) w:=fun _=>by kernel_rfl
 have ix1:∀w:World,(Instr.index 53 (.agg #[.int .i64 m0,.int .i64 m1,.int .i64 m2,.int .i64 m3]) (.int .i64 1)).run Tryz.prog w=.ok (.int .i64 m1) w:=fun _=>by kernel_rfl
 have ix2:∀w:World,(Instr.index 53 (.agg #[.int .i64 m0,.int .i64 m1,.int .i64 m2,.int .i64 m3]) (.int .i64 2)).run Tryz.prog w=.ok (.int .i64 m2) w:=fun _=>by kernel_rfl
 have ix3:∀w:World,(Instr.index 53 (.agg #[.int .i64 m0,.int .i64 m1,.int .i64 m2,.int .i64 m3]) (.int .i64 3)).run Tryz.prog w=.ok (.int .i64 m3) w:=fun _=>by kernel_rfl
 have H:=qh h
 obtain⟨o0,O0⟩:∃o,o=pushedI m0 v0 q0:=⟨_,rfl⟩
 obtain⟨o1,O1⟩:∃o,o=pushedI m1 v1 q1:=⟨_,rfl⟩
 obtain⟨o2,O2⟩:∃o,o=pushedI m2 v2 q2:=⟨_,rfl⟩
 obtain⟨o3,O3⟩:∃o,o=pushedI m3 v3 q3:=⟨_,rfl⟩
 rw[←O0,←O1,←O2,←O3]
 unfold pushedI at O0 O1 O2 O3
 have P0:=qh O0;have P1:=qh O1;have P2:=qh O2;have P3:=qh O3
 clear h O0 O1 O2 O3
 go_enter Tryz.func114,Tryz.ntmps114
 go_wp2_with fail
 refine(ramRight_yes _ _ _ _ _ H.out).mono ?_
 rintro e_w1 w1 ⟨rfl,hb⟩
 have zhb:=hb.size
 obtain⟨chb,fhb⟩:=Open.bcell hb
 try(simp at zhb)
 go_wp2
 go_loopw [19] (fun i wr=>∃k:Nat,k≤4∧i=.int .i64 k∧Below w.heap.size w wr∧w.heap.size+1+1+1+1<wr.heap.size∧
  wr.cell? ⟨w.heap.size,0,none⟩=some (.int .i32 v0)∧wr.cell? ⟨w.heap.size,1,none⟩=some (.int .i32 v1)∧wr.cell? ⟨w.heap.size,2,none⟩=some (.int .i32 v2)∧wr.cell? ⟨w.heap.size,3,none⟩=some (.int .i32 v3)∧
  wr.cell? ⟨w.heap.size+1+1,0,none⟩=some (.int .i32 q0)∧wr.cell? ⟨w.heap.size+1+1,1,none⟩=some (.int .i32 q1)∧wr.cell? ⟨w.heap.size+1+1,2,none⟩=some (.int .i32 q2)∧wr.cell? ⟨w.heap.size+1+1,3,none⟩=some (.int .i32 q3)∧
  wr.cell? ⟨w.heap.size+1+1+1+1,0,none⟩=some (.int .i32 (if 0<k then o0 else 0))∧wr.cell? ⟨w.heap.size+1+1+1+1,1,none⟩=some (.int .i32 (if 1<k then o1 else 0))∧wr.cell? ⟨w.heap.size+1+1+1+1,2,none⟩=some (.int .i32 (if 2<k then o2 else 0))∧wr.cell? ⟨w.heap.size+1+1+1+1,3,none⟩=some (.int .i32 (if 3<k then o3 else 0))∧
  wr.cell? ⟨w.heap.size+1+1+1,0,none⟩=some (.int .i32 0)∧wr.cell? ⟨w.heap.size+1+1+1,1,none⟩=some (.int .i32 0)∧wr.cell? ⟨w.heap.size+1+1+1,2,none⟩=some (.int .i32 0)∧wr.cell? ⟨w.heap.size+1+1+1,3,none⟩=some (.int .i32 0)∧
  (∀o,wr.frozen? ⟨w.heap.size+1+1+1+1,o,none⟩=false)∧(∀o,wr.frozen? ⟨w.heap.size+1+1+1,o,none⟩=false)) (fun i _=>4-(intOf i).toNat)
 case atStart=>
  refine⟨0,by omega,rfl,?_,by omega,?_,?_,?_,?_,?_,?_,?_,?_,?_,?_,?_,?_,?_,?_,?_,?_,?_,?_⟩
  ·repeat(first|(with_reducible first|exact bLr)|((with_reducible first|refine bLs ?_ ?_ _|refine bLt hb ?_ ?_|refine bLa ?_ ?_ _);·first|omega|(simp<;>omega))|with_reducible first|refine bLn ?_ _|refine bLd ?_)
  iterate 16 (rw[chb _ _ (by simp;try omega)];go_simp)
  ·intro o;rw[fhb _ _ (by simp;try omega)];go_simp
  ·intro o;rw[fhb _ _ (by simp;try omega)];go_simp
 case round=>
  clear hb chb fhb zhb
  obtain⟨k,hk,rfl,hB,hsz,a0,a1,a2,a3,b0,b1,b2,b3,c0,c1,c2,c3,r0,r1,r2,r3,f1,f2⟩:=hrel
  rcases(by omega:k=0∨k=1∨k=2∨k=3∨k=4)with rfl|rfl|rfl|rfl|rfl
  ·change wr.cell? _=some (.int .i32 0)at c0
   change wr.cell? _=some (.int .i32 0)at c1
   change wr.cell? _=some (.int .i32 0)at c2
   change wr.cell? _=some (.int .i32 0)at c3
   cases hm:(m0==1)
   ·obtain rfl:o0=0:=by rw[P0.out,if_neg (by simpa using hm)]
    go_wp2
    go_roundw
    case rel=>exact⟨1,by omega,rfl,hB,hsz,a0,a1,a2,a3,b0,b1,b2,b3,c0,c1,c2,c3,r0,r1,r2,r3,f1,f2⟩
    case measure=>simp[intOf]
   ·have E:=qh (show mulI v0 (max 0 q0)=o0 by rw[P0.out,if_pos (by simpa using hm)])
    have hmx: -2147483648≤max 0 q0∧max 0 q0≤2147483647:=by omega
    have M:Hid ((if 0<q0 then q0 else 0)=max 0 q0):=(by split<;>omega:(if 0<q0 then q0 else 0)=max 0 q0)
    go_wp2
    refine wp_region_still_tail 10 (by kernel_rfl) (by kernel_rfl) ?_
    simp only[List.take_succ_cons,List.take_zero,List.drop_succ_cons,List.drop_zero]
    repeat still_step
    still_call (stillL (mul_any _ _ (by omega) (by omega) _))
    repeat still_step
    refine wpStill_nil ?_
    go_wp2
    rw[M.out,E.out]
    go_roundw
    case rel=>
     refine⟨1,by omega,rfl,?_,by simpa using hsz,?_,?_,?_,?_,?_,?_,?_,?_,?_,?_,?_,?_,?_,?_,?_,?_,?_,?_⟩
     ·repeat(first|(with_reducible first|exact bLr|exact hB)|((with_reducible first|refine bLs ?_ ?_ _|refine bLa ?_ ?_ _);·first|omega|(simp<;>omega))|with_reducible first|refine bLn ?_ _|refine bLd ?_)
     iterate 8 (go_simp)
     ·change _=some (Value.int .i32 o0);go_simp
     ·change _=some (Value.int .i32 0);go_simp
     ·change _=some (Value.int .i32 0);go_simp
     ·change _=some (Value.int .i32 0);go_simp
     iterate 4 (go_simp)
     ·intro o;go_simp
     ·intro o;go_simp
    case measure=>simp[intOf]
  ·change wr.cell? _=some (.int .i32 o0)at c0
   change wr.cell? _=some (.int .i32 0)at c1
   change wr.cell? _=some (.int .i32 0)at c2
   change wr.cell? _=some (.int .i32 0)at c3
   cases hm:(m1==1)
   ·obtain rfl:o1=0:=by rw[P1.out,if_neg (by simpa using hm)]
    go_wp2
    go_roundw
    case rel=>exact⟨2,by omega,rfl,hB,hsz,a0,a1,a2,a3,b0,b1,b2,b3,c0,c1,c2,c3,r0,r1,r2,r3,f1,f2⟩
    case measure=>simp[intOf]
   ·have E:=qh (show mulI v1 (max 0 q1)=o1 by rw[P1.out,if_pos (by simpa using hm)])
    have hmx: -2147483648≤max 0 q1∧max 0 q1≤2147483647:=by omega
    have M:Hid ((if 0<q1 then q1 else 0)=max 0 q1):=(by split<;>omega:(if 0<q1 then q1 else 0)=max 0 q1)
    go_wp2
    refine wp_region_still_tail 10 (by kernel_rfl) (by kernel_rfl) ?_
    simp only[List.take_succ_cons,List.take_zero,List.drop_succ_cons,List.drop_zero]
    repeat still_step
    still_call (stillL (mul_any _ _ (by omega) (by omega) _))
    repeat still_step
    refine wpStill_nil ?_
    go_wp2
    rw[M.out,E.out]
    go_roundw
    case rel=>
     refine⟨2,by omega,rfl,?_,by simpa using hsz,?_,?_,?_,?_,?_,?_,?_,?_,?_,?_,?_,?_,?_,?_,?_,?_,?_,?_⟩
     ·repeat(first|(with_reducible first|exact bLr|exact hB)|((with_reducible first|refine bLs ?_ ?_ _|refine bLa ?_ ?_ _);·first|omega|(simp<;>omega))|with_reducible first|refine bLn ?_ _|refine bLd ?_)
     iterate 8 (go_simp)
     ·change _=some (Value.int .i32 o0);go_simp
     ·change _=some (Value.int .i32 o1);go_simp
     ·change _=some (Value.int .i32 0);go_simp
     ·change _=some (Value.int .i32 0);go_simp
     iterate 4 (go_simp)
     ·intro o;go_simp
     ·intro o;go_simp
    case measure=>simp[intOf]
  ·change wr.cell? _=some (.int .i32 o0)at c0
   change wr.cell? _=some (.int .i32 o1)at c1
   change wr.cell? _=some (.int .i32 0)at c2
   change wr.cell? _=some (.int .i32 0)at c3
   cases hm:(m2==1)
   ·obtain rfl:o2=0:=by rw[P2.out,if_neg (by simpa using hm)]
    go_wp2
    go_roundw
    case rel=>exact⟨3,by omega,rfl,hB,hsz,a0,a1,a2,a3,b0,b1,b2,b3,c0,c1,c2,c3,r0,r1,r2,r3,f1,f2⟩
    case measure=>simp[intOf]
   ·have E:=qh (show mulI v2 (max 0 q2)=o2 by rw[P2.out,if_pos (by simpa using hm)])
    have hmx: -2147483648≤max 0 q2∧max 0 q2≤2147483647:=by omega
    have M:Hid ((if 0<q2 then q2 else 0)=max 0 q2):=(by split<;>omega:(if 0<q2 then q2 else 0)=max 0 q2)
    go_wp2
    refine wp_region_still_tail 10 (by kernel_rfl) (by kernel_rfl) ?_
    simp only[List.take_succ_cons,List.take_zero,List.drop_succ_cons,List.drop_zero]
    repeat still_step
    still_call (stillL (mul_any _ _ (by omega) (by omega) _))
    repeat still_step
    refine wpStill_nil ?_
    go_wp2
    rw[M.out,E.out]
    go_roundw
    case rel=>
     refine⟨3,by omega,rfl,?_,by simpa using hsz,?_,?_,?_,?_,?_,?_,?_,?_,?_,?_,?_,?_,?_,?_,?_,?_,?_,?_⟩
     ·repeat(first|(with_reducible first|exact bLr|exact hB)|((with_reducible first|refine bLs ?_ ?_ _|refine bLa ?_ ?_ _);·first|omega|(simp<;>omega))|with_reducible first|refine bLn ?_ _|refine bLd ?_)
     iterate 8 (go_simp)
     ·change _=some (Value.int .i32 o0);go_simp
     ·change _=some (Value.int .i32 o1);go_simp
     ·change _=some (Value.int .i32 o2);go_simp
     ·change _=some (Value.int .i32 0);go_simp
     iterate 4 (go_simp)
     ·intro o;go_simp
     ·intro o;go_simp
    case measure=>simp[intOf]
  ·change wr.cell? _=some (.int .i32 o0)at c0
   change wr.cell? _=some (.int .i32 o1)at c1
   change wr.cell? _=some (.int .i32 o2)at c2
   change wr.cell? _=some (.int .i32 0)at c3
   cases hm:(m3==1)
   ·obtain rfl:o3=0:=by rw[P3.out,if_neg (by simpa using hm)]
    go_wp2
    go_roundw
    case rel=>exact⟨4,by omega,rfl,hB,hsz,a0,a1,a2,a3,b0,b1,b2,b3,c0,c1,c2,c3,r0,r1,r2,r3,f1,f2⟩
    case measure=>simp[intOf]
   ·have E:=qh (show mulI v3 (max 0 q3)=o3 by rw[P3.out,if_pos (by simpa using hm)])
    have hmx: -2147483648≤max 0 q3∧max 0 q3≤2147483647:=by omega
    have M:Hid ((if 0<q3 then q3 else 0)=max 0 q3):=(by split<;>omega:(if 0<q3 then q3 else 0)=max 0 q3)
    go_wp2
    refine wp_region_still_tail 10 (by kernel_rfl) (by kernel_rfl) ?_
    simp only[List.take_succ_cons,List.take_zero,List.drop_succ_cons,List.drop_zero]
    repeat still_step
    still_call (stillL (mul_any _ _ (by omega) (by omega) _))
    repeat still_step
    refine wpStill_nil ?_
    go_wp2
    rw[M.out,E.out]
    go_roundw
    case rel=>
     refine⟨4,by omega,rfl,?_,by simpa using hsz,?_,?_,?_,?_,?_,?_,?_,?_,?_,?_,?_,?_,?_,?_,?_,?_,?_,?_⟩
     ·repeat(first|(with_reducible first|exact bLr|exact hB)|((with_reducible first|refine bLs ?_ ?_ _|refine bLa ?_ ?_ _);·first|omega|(simp<;>omega))|with_reducible first|refine bLn ?_ _|refine bLd ?_)
     iterate 8 (go_simp)
     ·change _=some (Value.int .i32 o0);go_simp
     ·change _=some (Value.int .i32 o1);go_simp
     ·change _=some (Value.int .i32 o2);go_simp
     ·change _=some (Value.int .i32 o3);go_simp
     iterate 4 (go_simp)
     ·intro o;go_simp
     ·intro o;go_simp
    case measure=>simp[intOf]
  ·change wr.cell? _=some (.int .i32 o0)at c0
   change wr.cell? _=some (.int .i32 o1)at c1
   change wr.cell? _=some (.int .i32 o2)at c2
   change wr.cell? _=some (.int .i32 o3)at c3
   go_wp2
   refine bodyPost_ret (v:=.tuple #[.agg #[.int .i32 o0,.int .i32 o1,.int .i32 o2,.int .i32 o3],.int .i64 0]) (by simp[results,Tryz.results114,go_sem,r0,r1,r2,r3]) rfl ⟨rfl,?_⟩
   repeat(first|(with_reducible first|exact bLr|exact hB)|((with_reducible first|refine bLs ?_ ?_ _|refine bLa ?_ ?_ _);·first|omega|(simp<;>omega))|with_reducible first|refine bLn ?_ _|refine bLd ?_)
abbrev PointR:=Int×Int×Int
def pointLay (x:PointR):List Value:=[.int .i32 x.1,.int .i64 x.2.1,.int .i32 x.2.2]
theorem pointLay_len (x:PointR):(pointLay x).length=3:=rfl
def pointFit (x:PointR):Prop:=(-2147483648≤x.1∧x.1≤2147483647)∧(-2147483648≤x.2.2∧x.2.2≤2147483647)
theorem point_dec {H:Type} {enc:TypeId×Value→H} {w:World} {base:Nat} {held:Bool} (r:List Value) (h:Open.Leafs enc Tryz.prog w base (fun _=>true) held [21,3,21] r):∃x,r=pointLay x∧pointFit x:=by
 obtain⟨c0,r0,rfl,y0,h0⟩:=Open.leafs_cons h
 obtain⟨c1,r1,rfl,y1,h1⟩:=Open.leafs_cons h0
 obtain⟨c2,r2,rfl,y2,h2⟩:=Open.leafs_cons h1
 obtain rfl:=Open.leafs_nil h2
 obtain⟨a,rfl,wa⟩:=Open.leaf_int Tryz.underlying21 y0
 obtain⟨b,rfl,-⟩:=Open.leaf_int Tryz.underlying3 y1
 obtain⟨c,rfl,wc⟩:=Open.leaf_int Tryz.underlying21 y2
 exact⟨(a,b,c),rfl,bounds_i32 wa,bounds_i32 wc⟩
def ptOk (x:PointR):Prop:=1≤x.2.1∧x.2.1≤200∧0≤x.2.2
def PointsOk (xs:List PointR):Prop:=1≤xs.length∧xs.length≤16∧∀(i:Nat) x,xs[i]?=some x→ptOk x
def pointsE (xs:List PointR):Int:=if xs.length<1∨16<xs.length then 2 else 1
theorem pointsE_ne (xs:List PointR):pointsE xs≠0:=by unfold pointsE;split<;>decide
def PtFront (xs:List PointR) (k:Nat):Prop:=∀(i:Nat) x,i<k→xs[i]?=some x→ptOk x
theorem PtFront.step {xs:List PointR} {k:Nat} {x:PointR} (h:PtFront xs k) (hx:xs[k]?=some x) (hk:ptOk x):PtFront xs (k+1):=fun i y hi hy=>by
 by_cases e:i=k
 ·subst e;rw[hx]at hy;cases hy;exact hk
 ·exact h i y (by omega) hy
theorem PtFront.all {xs:List PointR} (h:PtFront xs xs.length) (i:Nat) (x:PointR) (hx:xs[i]?=some x):ptOk x:=by
 refine h i x ?_ hx
 rcases Nat.lt_or_ge i xs.length with h|h
 ·exact h
 ·rw[List.getElem?_eq_none h]at hx;cases hx
def PtRel (xs:List PointR) (w:World) (i:Value) (wr:World):Prop:=∃k:Nat,k≤xs.length∧i=.int .i64 k∧PtFront xs k∧Below w.heap.size w wr
def PtPost (xs:List PointR) (w:World) (e:Ending) (w':World):Prop:=(PointsOk xs→e=.returned (.int .i64 0))∧(¬PointsOk xs→e=.returned (.int .i64 (pointsE xs)))∧Below w.heap.size w w'
theorem pts_no {xs:List PointR} {k:Nat} {x:PointR} (hx:xs[k]?=some x) (h:¬ptOk x):¬PointsOk xs:=fun⟨_,_,g⟩=>h (g k x hx)
theorem strokeCheck_any (xs:List PointR) (v:Value) (w:World) (hv:RecsAt 3 pointLay w v xs) (hm:xs.length≤9223372036854775807):
  Calls Tryz.prog 28 #[v] w (PtPost xs w):=by
 obtain⟨a,cap,rfl⟩:=hv.len
 have HV:=qh hv
 clear hv
 by_cases h1:xs.length<1
 ·have HN:Hid (¬PointsOk xs):=fun h=>absurd h.1 (by omega)
  have P:Hid (pointsE xs=2):=if_pos (.inl h1)
  have d1:decide ((xs.length:Int)<1)=true:=by simp;omega
  clear h1
  go_enter Tryz.func28,Tryz.ntmps28
  go_wp2
  go_ret
  exact⟨fun h=>absurd h HN.out,fun _=>by rw[P.out];rfl,bLr⟩
 by_cases h2:16<xs.length
 ·have HN:Hid (¬PointsOk xs):=fun h=>absurd h.2.1 (by omega)
  have P:Hid (pointsE xs=2):=if_pos (.inr h2)
  have d1:decide ((xs.length:Int)<1)=false:=by simp;omega
  have d2:decide (16<(xs.length:Int))=true:=by simp;omega
  clear h1 h2
  go_enter Tryz.func28,Tryz.ntmps28
  go_wp2
  go_ret
  exact⟨fun h=>absurd h HN.out,fun _=>by rw[P.out];rfl,bLr⟩
 have P:Hid (pointsE xs=1):=if_neg (by omega)
 have d1:decide ((xs.length:Int)<1)=false:=by simp;omega
 have d2:decide (16<(xs.length:Int))=false:=by simp;omega
 have h3:1≤xs.length:=by omega
 have h4:xs.length≤16:=by omega
 clear h1 h2
 go_enter Tryz.func28,Tryz.ntmps28
 go_wp2
 clear d1 d2
 go_loopw [15] (fun i wr=>PtRel xs w i wr) (fun i _=>xs.length-(intOf i).toNat)
 case atStart=>exact⟨0,Nat.zero_le _,rfl,fun i x hi=>absurd hi (by omega),bLr⟩
 case round=>
  obtain⟨k,hk,rfl,hfr,hB⟩:=hrel
  have HF:=qh hfr
  have zB:=hB.size
  clear hfr
  by_cases hlt:k<xs.length
  ·obtain⟨x,hx⟩:∃x,xs[k]?=some x:=⟨_,List.getElem?_eq_getElem hlt⟩
   obtain⟨b,off,cap',hv',hl1,hl2,hc⟩:=HV.out.at_ hx
   cases hv'
   obtain⟨A,B,C⟩:=x
   have HX:=qh hx
   have c0:=cell_later hB (hc 0 (by omega))
   have c1:=cell_later hB (hc 1 (by omega))
   have c2:=cell_later hB (hc 2 (by omega))
   change wr.cell? ⟨b,off+k*3,none⟩=some (.int .i32 A)at c0
   change wr.cell? ⟨b,off+k*3+1,none⟩=some (.int .i64 B)at c1
   change wr.cell? ⟨b,off+k*3+2,none⟩=some (.int .i32 C)at c2
   clear hc hx
   by_cases hp:ptOk (A,B,C)
   ·have HP:=qh hp
    simp only[ptOk]at hp
    have t1:decide (B<1)=false:=by simp;omega
    have t2:decide (200<B)=false:=by simp;omega
    have t3:decide (C<0)=false:=by simp;omega
    clear hp
    go_wp2
    go_roundw
    case rel=>exact⟨k+1,by omega,by go_num,HF.out.step HX.out HP.out,by repeat(first|(with_reducible first|exact bLr|exact hB)|((with_reducible first|refine bLs ?_ ?_ _|refine bLa ?_ ?_ _);·first|omega|(simp<;>omega))|with_reducible first|refine bLn ?_ _|refine bLd ?_)⟩
    case measure=>simp[intOf];omega
   ·have HS:Hid (¬PointsOk xs):=pts_no HX.out hp
    simp only[ptOk]at hp
    rcases(by omega:B<1∨(1≤B∧200<B)∨(1≤B∧B≤200∧C<0))with g1|⟨g1,g2⟩|⟨g1,g2,g3⟩
    ·have t1:decide (B<1)=true:=by simp;omega
     clear hp
     go_wp2
     go_ret
     exact⟨fun h=>absurd h HS.out,fun _=>by rw[P.out];rfl,by repeat(first|(with_reducible first|exact bLr|exact hB)|((with_reducible first|refine bLs ?_ ?_ _|refine bLa ?_ ?_ _);·first|omega|(simp<;>omega))|with_reducible first|refine bLn ?_ _|refine bLd ?_)⟩
    ·have t1:decide (B<1)=false:=by simp;omega
     have t2:decide (200<B)=true:=by simp;omega
     clear hp
     go_wp2
     go_ret
     exact⟨fun h=>absurd h HS.out,fun _=>by rw[P.out];rfl,by repeat(first|(with_reducible first|exact bLr|exact hB)|((with_reducible first|refine bLs ?_ ?_ _|refine bLa ?_ ?_ _);·first|omega|(simp<;>omega))|with_reducible first|refine bLn ?_ _|refine bLd ?_)⟩
    ·have t1:decide (B<1)=false:=by simp;omega
     have t2:decide (200<B)=false:=by simp;omega
     have t3:decide (C<0)=true:=by simp;omega
     clear hp
     go_wp2
     go_ret
     exact⟨fun h=>absurd h HS.out,fun _=>by rw[P.out];rfl,by repeat(first|(with_reducible first|exact bLr|exact hB)|((with_reducible first|refine bLs ?_ ?_ _|refine bLa ?_ ?_ _);·first|omega|(simp<;>omega))|with_reducible first|refine bLn ?_ _|refine bLd ?_)⟩
  ·obtain rfl:k=xs.length:=by omega
   have HO:Hid (PointsOk xs):=⟨h3,h4,HF.out.all⟩
   go_wp2
   go_ret
   exact⟨fun _=>rfl,fun h=>absurd HO.out h,hB⟩
def SrcAt (w:World) (s:Value) (size m:Nat) (news:List Value):Prop:=
 (∃c,s=.slice none 0 c∧c=0∧m=0∧news=[])∨∃ad c,s=.slice (some ad) m c∧news.length=m*size∧∀j u,news[j]?=some u→w.cell? (ad.add j)=some u
theorem src_recs {α:Type} {k:Nat} {lay:α→List Value} {w:World} {v:Value} {xs:List α} (h:RecsAt k lay w v xs) (hk:0<k) (hl:∀y,(lay y).length=k):SrcAt w v k xs.length (xs.flatMap lay):=by
 have hlen:∀l:List α,(l.flatMap lay).length=l.length*k:=by
  intro l
  induction l with
  |nil=>simp
  |cons x l ih=>simp[List.flatMap_cons,hl,ih,Nat.succ_mul];omega
 rcases h with⟨rfl,rfl|⟨a,cap,rfl⟩⟩|⟨h0,b,off,cap,rfl,h1,h2,h3⟩
 ·exact .inl ⟨0,rfl,rfl,rfl,rfl⟩
 ·exact .inr ⟨a,cap,rfl,by simp,by simp⟩
 ·refine .inr ⟨_,cap,rfl,hlen xs,fun j u hj=>?_⟩
  have hj2:j<xs.length*k:=by
   rcases Nat.lt_or_ge j (xs.flatMap lay).length with h|h
   ·rw[hlen]at h;exact h
   ·rw[List.getElem?_eq_none h]at hj;simp at hj
  have hi:j/k<xs.length:=Nat.div_lt_of_lt_mul (by rw[Nat.mul_comm];exact hj2)
  have e:j/k*k+j%k=j:=Nat.div_add_mod' j k
  have h4:=flatMap_at hl (List.getElem?_eq_getElem hi) (Nat.mod_lt j hk)
  rw[e,hj]at h4
  have h5:=h3 _ _ (List.getElem?_eq_getElem hi) _ (Nat.mod_lt j hk)
  rw[Nat.add_assoc,e,←h4]at h5
  rw[←h5]
  congr 1
  simp only[Addr.add]
  by_cases ha:j=0<;>simp[ha]
theorem SrcAt.below {w w':World} {s:Value} {size m B:Nat} {news:List Value} (h:SrcAt w s size m news) (hb:Below B w w') (hB:w.heap.size≤B):SrcAt w' s size m news:=by
 rcases h with h|⟨ad,c,e,hl,hc⟩
 ·exact .inl h
 ·refine .inr ⟨ad,c,e,hl,fun j u hj=>?_⟩
  have:=hc j u hj
  rw[hb.cell (Nat.lt_of_lt_of_le (World.block_lt_of_cell? _ _ this) hB)]
  exact this
theorem wpList_append_src {P:Program} {w:World} {ops:Array Oper} {rest:List Oper} {o:Oper} {a:Act} {Q:Exit→Act→World→Prop} (hgd:o.guard=none) (s x:Operand) (t:TypeId)
  (ho:o.op=.call {callee:=.builtin .append,args:=#[s,x],argTypes:=#[t,t]})
  (base:Nat) (e:TypeId) (i:TypeInfo) (z:Value) (size bytes:Nat) (ht:P.underlying t=some (.slice e)) (hi:P.info? e=some i) (hz:i.zero=some z)
  (hsize:i.size=size) (hby:i.bytes=bytes) (hzs:z.cells.size=size) (hsz:0<size)
  (v:Value) (n:Nat) (xs:List Value) (hs:a.eval s=v) (hown:w.ownsRow base e size v n xs)
  (sv:Value) (m:Nat) (news:List Value) (hx:a.eval x=sv) (hsrc:SrcAt w sv size m news) (h1:∀u∈news,u.oneCell'=true)
  (h63:n+m≤maxLen) (hbytes:(n+m)*bytes≤140737488355328) (hbase:base≤w.heap.size)
  (h:∀v' w',w'.ownsRow base e size v' (n+m) (xs++news)→w.grownBy w' v.ownBlock→wpList P ops Q rest (a.put o.dst v') w'):wpList P ops Q (o::rest) a w:=by
 rcases hsrc with⟨c,rfl,rfl,rfl,rfl⟩|⟨ad,c,rfl,hl,hc⟩
 ·exact wpList_append_own_none hgd s x t ho base e i size ht hi v n xs hs hown hx (h v w (by simpa using hown) (World.grownBy.refl w _))
 ·exact wpList_append_own w hgd s x t ho base e i z size bytes ht hi hz hsize hby hzs hsz v n xs hs hown ad m c news hx hl hc h1 h63 hbytes hbase (fun v' w' a b _=>h v' w' a b)
def CatPost (w:World) (E:TypeId) (k n:Nat) (cs:List Value) (e:Ending) (w':World):Prop:=∃v,e=.returned v∧w'.ownsRow w.heap.size E k v n cs∧Below w.heap.size w w'
end Go.Proofs.YtpkiepjmcepnoaaGreatDoor
