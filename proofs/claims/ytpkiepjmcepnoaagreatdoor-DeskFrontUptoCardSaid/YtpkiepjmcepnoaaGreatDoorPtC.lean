/- A part of a proof. -/
import Derived.Deep.DeepCutAuto
import Derived.Lib.Hide
import Derived.LoopN
import Derived.BigQuiet
import Derived.Deep.QuietTactic
import Derived.StillTailTactics
import Derived.WalkLawsBesides
import Derived.Test.YtpkiepjmcepnoaaGreatDoorPtB
set_option maxHeartbeats 16000000
set_option maxRecDepth 100000
namespace Go.Proofs.YtpkiepjmcepnoaaGreatDoor
open Go.ChangeShapes Go.WideShapes Go.ChangeAt Go.RowKit
set_option linter.unusedVariables false
def ModesOk (m0 m1 m2 m3:Int):Prop:=0≤m0∧m0≤3∧0≤m1∧m1≤3∧0≤m2∧m2≤3∧0≤m3∧m3≤3
theorem ramRight_yes (m0 m1 m2 m3:Int) (w:World) (h:ModesOk m0 m1 m2 m3):
  Calls Tryz.prog 147 #[.agg #[.int .i64 m0,.int .i64 m1,.int .i64 m2,.int .i64 m3]] w fun e w'=>e=.returned (.int .i64 0)∧Below w.heap.size w w':=by
 have ix0:∀w:World,(Instr.index 53 (.agg #[.int .i64 m0,.int .i64 m1,.int .i64 m2,.int .i64 m3]) (.int .i64 0)).run Tryz.prog w=.ok (.int .i64 m0) w:=fun _=>by kernel_rfl
 have ix1:∀w:World,(Instr.index 53 (.agg #[.int .i64 m0,.int .i64 m1,.int .i64 m2,.int .i64 m3]) (.int .i64 1)).run Tryz.prog w=.ok (.int .i64 m1) w:=fun _=>by kernel_rfl
 have ix2:∀w:World,(Instr.index 53 (.agg #[.int .i64 m0,.int .i64 m1,.int .i64 m2,.int .i64 m3]) (.int .i64 2)).run Tryz.prog w=.ok (.int .i64 m2) w:=fun _=>by kernel_rfl
 have ix3:∀w:World,(Instr.index 53 (.agg #[.int .i64 m0,.int .i64 m1,.int .i64 m2,.int .i64 m3]) (.int .i64 3)).run Tryz.prog w=.ok (.int .i64 m3) w:=fun _=>by kernel_rfl
 obtain⟨d0,e0,d1,e1,d2,e2,d3,e3⟩:decide (m0<0)=false∧decide (3<m0)=false∧decide (m1<0)=false∧decide (3<m1)=false∧decide (m2<0)=false∧decide (3<m2)=false∧decide (m3<0)=false∧decide (3<m3)=false:=by
  simp only[decide_eq_false_iff_not];unfold ModesOk at h;omega
 clear h
 go_enter Tryz.func147,Tryz.ntmps147
 go_wp2
 refine wp_loop_rounds 5 ?_
 rw[rounds_succ];go_wp2
 rw[rounds_succ];go_wp2
 rw[rounds_succ];go_wp2
 rw[rounds_succ];go_wp2
 rw[rounds_succ];go_wp2
 go_ret
 exact⟨rfl,(bLr).alloc (Nat.le_refl _) _⟩
def actI (m p:Int):Int:=if m=1 then p else 0
def fSum (m0 m1 m2 m3 p0 p1 p2 p3:Int):Nat→Int
 |0=>0
 |1=>actI m0 p0
 |2=>actI m0 p0+actI m1 p1
 |3=>actI m0 p0+actI m1 p1+actI m2 p2
 |_=>actI m0 p0+actI m1 p1+actI m2 p2+actI m3 p3
def fMany (m0 m1 m2 m3:Int) (k:Nat):Int:=fSum m0 m1 m2 m3 1 1 1 1 k
def fightI (m0 m1 m2 m3 p0 p1 p2 p3 m p:Int):Int:=if m=1 then sat32 (p-(fSum m0 m1 m2 m3 p0 p1 p2 p3 4).tdiv (fMany m0 m1 m2 m3 4))else 0
theorem act_yes (m p:Int) (h:m=1):actI m p=p:=if_pos h
theorem act_no (m p:Int) (h:m≠1):actI m p=0:=if_neg h
theorem act_bd (m p:Int) (hp: -2147483648≤p∧p≤2147483647): -2147483648≤actI m p∧actI m p≤2147483647:=by unfold actI;split<;>omega
theorem fSum_bd (m0 m1 m2 m3 p0 p1 p2 p3:Int) (h0: -2147483648≤p0∧p0≤2147483647) (h1: -2147483648≤p1∧p1≤2147483647) (h2: -2147483648≤p2∧p2≤2147483647) (h3: -2147483648≤p3∧p3≤2147483647) (k:Nat):
  -8589934592≤fSum m0 m1 m2 m3 p0 p1 p2 p3 k∧fSum m0 m1 m2 m3 p0 p1 p2 p3 k≤8589934592:=by
 have a0:=act_bd m0 p0 h0;have a1:=act_bd m1 p1 h1;have a2:=act_bd m2 p2 h2;have a3:=act_bd m3 p3 h3
 unfold fSum;split<;>omega
theorem act_one (m:Int):0≤actI m 1∧actI m 1≤1∧(m=1→actI m 1=1):=by unfold actI;split<;>omega
theorem fMany_bd (m0 m1 m2 m3:Int) (k:Nat):0≤fMany m0 m1 m2 m3 k∧fMany m0 m1 m2 m3 k≤4:=by
 have a0:=act_one m0;have a1:=act_one m1;have a2:=act_one m2;have a3:=act_one m3
 unfold fMany fSum;split<;>omega
theorem fMany_pos (m0 m1 m2 m3:Int):(m0=1∨m1=1∨m2=1∨m3=1)→1≤fMany m0 m1 m2 m3 4:=by
 have a0:=act_one m0;have a1:=act_one m1;have a2:=act_one m2;have a3:=act_one m3
 simp only[fMany,fSum];omega
theorem fight_yes (p0 p1 p2 p3 m0 m1 m2 m3:Int) (w:World) (h:ModesOk m0 m1 m2 m3)
  (h0: -2147483648≤p0∧p0≤2147483647) (h1: -2147483648≤p1∧p1≤2147483647) (h2: -2147483648≤p2∧p2≤2147483647) (h3: -2147483648≤p3∧p3≤2147483647):
  Calls Tryz.prog 115 #[.agg #[.int .i32 p0,.int .i32 p1,.int .i32 p2,.int .i32 p3],.agg #[.int .i64 m0,.int .i64 m1,.int .i64 m2,.int .i64 m3]] w
   fun e w'=>e=.returned (.tuple #[.agg #[.int .i32 (fightI m0 m1 m2 m3 p0 p1 p2 p3 m0 p0),.int .i32 (fightI m0 m1 m2 m3 p0 p1 p2 p3 m1 p1),.int .i32 (fightI m0 m1 m2 m3 p0 p1 p2 p3 m2 p2),.int .i32 (fightI m0 m1 m2 m3 p0 p1 p2 p3 m3 p3)],.int .i64 0])∧Below w.heap.size w w':=by
 have ix0:∀w:World,(Instr.index 53 (.agg #[.int .i64 m0,.int .i64 m1,.int .i64 m2,.int .i64 m3]) (.int .i64 0)).run Tryz.prog w=.ok (.int .i64 m0) w:=fun _=>by kernel_rfl
 have ix1:∀w:World,(Instr.index 53 (.agg #[.int .i64 m0,.int .i64 m1,.int .i64 m2,.int .i64 m3]) (.int .i64 1)).run Tryz.prog w=.ok (.int .i64 m1) w:=fun _=>by kernel_rfl
 have ix2:∀w:World,(Instr.index 53 (.agg #[.int .i64 m0,.int .i64 m1,.int .i64 m2,.int .i64 m3]) (.int .i64 2)).run Tryz.prog w=.ok (.int .i64 m2) w:=fun _=>by kernel_rfl
 have ix3:∀w:World,(Instr.index 53 (.agg #[.int .i64 m0,.int .i64 m1,.int .i64 m2,.int .i64 m3]) (.int .i64 3)).run Tryz.prog w=.ok (.int .i64 m3) w:=fun _=>by kernel_rfl
 have H:=qh h
 have a0:=act_bd m0 p0 h0;have a1:=act_bd m1 p1 h1;have a2:=act_bd m2 p2 h2;have a3:=act_bd m3 p3 h3
 have b0:=act_bd m0 1 (by omega);have b1:=act_bd m1 1 (by omega);have b2:=act_bd m2 1 (by omega);have b3:=act_bd m3 1 (by omega)
 obtain⟨o0,O0⟩:∃o,o=fightI m0 m1 m2 m3 p0 p1 p2 p3 m0 p0:=⟨_,rfl⟩
 obtain⟨o1,O1⟩:∃o,o=fightI m0 m1 m2 m3 p0 p1 p2 p3 m1 p1:=⟨_,rfl⟩
 obtain⟨o2,O2⟩:∃o,o=fightI m0 m1 m2 m3 p0 p1 p2 p3 m2 p2:=⟨_,rfl⟩
 obtain⟨o3,O3⟩:∃o,o=fightI m0 m1 m2 m3 p0 p1 p2 p3 m3 p3:=⟨_,rfl⟩
 rw[←O0,←O1,←O2,←O3]
 unfold fightI at O0 O1 O2 O3
 have P0:=qh O0;have P1:=qh O1;have P2:=qh O2;have P3:=qh O3
 clear h O0 O1 O2 O3
 go_enter Tryz.func115,Tryz.ntmps115
 go_wp2_with fail
 refine(ramRight_yes _ _ _ _ _ H.out).mono ?_
 rintro e w1 ⟨rfl,hb⟩
 have hz:=hb.size
 obtain⟨hc,hf⟩:=Open.bcell hb
 simp at hz
 go_wp2
 go_loop [8,9,21] (fun s n i=>∃k:Nat,k≤4∧i=.int .i64 k∧s=.int .i64 (fSum m0 m1 m2 m3 p0 p1 p2 p3 k)∧n=.int .i64 (fMany m0 m1 m2 m3 k)) (fun _ _ i=>4-(intOf i).toNat)
 case atStart=>exact⟨0,by omega,rfl,rfl,rfl⟩
 case round=>
  obtain⟨k,hk,rfl,rfl,rfl⟩:=hrel
  rcases(by omega:k=0∨k=1∨k=2∨k=3∨k=4)with rfl|rfl|rfl|rfl|rfl
  ·cases hm:(m0==1)
   ·have A:=qh (act_no m0 p0 (by simpa using hm));have B:=qh (act_no m0 1 (by simpa using hm))
    go_wp2
    go_round
    case rel=>exact⟨1,by omega,rfl,by simp[fSum,A.out],by simp[fMany,fSum,B.out]⟩
    case measure=>simp[intOf]
   ·have A:=qh (act_yes m0 p0 (by simpa using hm));have B:=qh (act_yes m0 1 (by simpa using hm))
    have C:=fSum_bd m0 m1 m2 m3 p0 p1 p2 p3 h0 h1 h2 h3 0
    have D:=fMany_bd m0 m1 m2 m3 0
    go_wp2
    go_round
    case rel=>exact⟨1,by omega,rfl,by simp[fSum,A.out],by simp[fMany,fSum,B.out]⟩
    case measure=>simp[intOf]
  ·cases hm:(m1==1)
   ·have A:=qh (act_no m1 p1 (by simpa using hm));have B:=qh (act_no m1 1 (by simpa using hm))
    go_wp2
    go_round
    case rel=>exact⟨2,by omega,rfl,by simp[fSum,A.out],by simp[fMany,fSum,B.out]⟩
    case measure=>simp[intOf]
   ·have A:=qh (act_yes m1 p1 (by simpa using hm));have B:=qh (act_yes m1 1 (by simpa using hm))
    have C:=fSum_bd m0 m1 m2 m3 p0 p1 p2 p3 h0 h1 h2 h3 1
    have D:=fMany_bd m0 m1 m2 m3 1
    go_wp2
    go_round
    case rel=>exact⟨2,by omega,rfl,by simp[fSum,A.out],by simp[fMany,fSum,B.out]⟩
    case measure=>simp[intOf]
  ·cases hm:(m2==1)
   ·have A:=qh (act_no m2 p2 (by simpa using hm));have B:=qh (act_no m2 1 (by simpa using hm))
    go_wp2
    go_round
    case rel=>exact⟨3,by omega,rfl,by simp[fSum,A.out],by simp[fMany,fSum,B.out]⟩
    case measure=>simp[intOf]
   ·have A:=qh (act_yes m2 p2 (by simpa using hm));have B:=qh (act_yes m2 1 (by simpa using hm))
    have C:=fSum_bd m0 m1 m2 m3 p0 p1 p2 p3 h0 h1 h2 h3 2
    have D:=fMany_bd m0 m1 m2 m3 2
    go_wp2
    go_round
    case rel=>exact⟨3,by omega,rfl,by simp[fSum,A.out],by simp[fMany,fSum,B.out]⟩
    case measure=>simp[intOf]
  ·cases hm:(m3==1)
   ·have A:=qh (act_no m3 p3 (by simpa using hm));have B:=qh (act_no m3 1 (by simpa using hm))
    go_wp2
    go_round
    case rel=>exact⟨4,by omega,rfl,by simp[fSum,A.out],by simp[fMany,fSum,B.out]⟩
    case measure=>simp[intOf]
   ·have A:=qh (act_yes m3 p3 (by simpa using hm));have B:=qh (act_yes m3 1 (by simpa using hm))
    have C:=fSum_bd m0 m1 m2 m3 p0 p1 p2 p3 h0 h1 h2 h3 3
    have D:=fMany_bd m0 m1 m2 m3 3
    go_wp2
    go_round
    case rel=>exact⟨4,by omega,rfl,by simp[fSum,A.out],by simp[fMany,fSum,B.out]⟩
    case measure=>simp[intOf]
  ·have C:=fSum_bd m0 m1 m2 m3 p0 p1 p2 p3 h0 h1 h2 h3 4
   have D:=fMany_bd m0 m1 m2 m3 4
   have G:=qh (fMany_pos m0 m1 m2 m3)
   generalize hS:fSum m0 m1 m2 m3 p0 p1 p2 p3 4=S at C
   generalize hN:fMany m0 m1 m2 m3 4=N at D G
   have HS:=qh hS;have HN:=qh hN
   rw[hS,hN]at P0 P1 P2 P3
   clear hS hN HS HN
   go_wp2
   go_loopw [37] (fun i wr=>∃k:Nat,k≤4∧i=.int .i64 k∧Below w.heap.size w wr∧w.heap.size+1+1+1<wr.heap.size∧
    wr.cell? ⟨w.heap.size,0,none⟩=some (.int .i32 p0)∧wr.cell? ⟨w.heap.size,1,none⟩=some (.int .i32 p1)∧wr.cell? ⟨w.heap.size,2,none⟩=some (.int .i32 p2)∧wr.cell? ⟨w.heap.size,3,none⟩=some (.int .i32 p3)∧
    wr.cell? ⟨w.heap.size+1+1+1,0,none⟩=some (.int .i32 (if 0<k then o0 else 0))∧wr.cell? ⟨w.heap.size+1+1+1,1,none⟩=some (.int .i32 (if 1<k then o1 else 0))∧wr.cell? ⟨w.heap.size+1+1+1,2,none⟩=some (.int .i32 (if 2<k then o2 else 0))∧wr.cell? ⟨w.heap.size+1+1+1,3,none⟩=some (.int .i32 (if 3<k then o3 else 0))∧
    wr.cell? ⟨w.heap.size+1+1,0,none⟩=some (.int .i32 0)∧wr.cell? ⟨w.heap.size+1+1,1,none⟩=some (.int .i32 0)∧wr.cell? ⟨w.heap.size+1+1,2,none⟩=some (.int .i32 0)∧wr.cell? ⟨w.heap.size+1+1,3,none⟩=some (.int .i32 0)∧
    (∀o,wr.frozen? ⟨w.heap.size+1+1+1,o,none⟩=false)∧(∀o,wr.frozen? ⟨w.heap.size+1+1,o,none⟩=false)) (fun i _=>4-(intOf i).toNat)
   case atStart=>
    refine⟨0,by omega,rfl,?_,by omega,?_,?_,?_,?_,?_,?_,?_,?_,?_,?_,?_,?_,?_,?_⟩
    ·repeat(first|(with_reducible first|exact bLr)|((with_reducible first|refine bLs ?_ ?_ _|refine bLt hb ?_ ?_|refine bLa ?_ ?_ _);·first|omega|(simp<;>omega))|with_reducible first|refine bLn ?_ _|refine bLd ?_)
    iterate 12 (rw[hc _ _ (by simp;try omega)];go_simp)
    ·intro o;rw[hf _ _ (by simp;try omega)];go_simp
    ·intro o;rw[hf _ _ (by simp;try omega)];go_simp
   case round=>
    clear hb hc hf hz
    obtain⟨k,hk,rfl,hB,hsz,q0,q1,q2,q3,c0,c1,c2,c3,r0,r1,r2,r3,f1,f2⟩:=hrel
    rcases(by omega:k=0∨k=1∨k=2∨k=3∨k=4)with rfl|rfl|rfl|rfl|rfl
    ·change wr.cell? _=some (.int .i32 0)at c0
     change wr.cell? _=some (.int .i32 0)at c1
     change wr.cell? _=some (.int .i32 0)at c2
     change wr.cell? _=some (.int .i32 0)at c3
     cases hm:(m0==1)
     ·obtain rfl:o0=0:=by rw[P0.out,if_neg (by simpa using hm)]
      go_wp2
      go_roundw
      case rel=>exact⟨1,by omega,rfl,hB,hsz,q0,q1,q2,q3,c0,c1,c2,c3,r0,r1,r2,r3,f1,f2⟩
      case measure=>simp[intOf]
     ·have hpos:=G.out (by have:=eq_of_beq hm;omega)
      have E:=qh (show sat32 (p0-S.tdiv N)=o0 by rw[P0.out,if_pos (by simpa using hm)])
      have hd:=tdiv_bd S N
      unfold absI at hd
      go_wp2
      have hne:N≠0:=by omega
      have hw1:=IntWalk.i64_in (S.tdiv N) (by omega)
      have hw0:=IntWalk.i64_in p0 (by omega)
      have hw2:=IntWalk.i64_in (p0-S.tdiv N) (by omega)
      refine wp_region_still_tail 11 (by kernel_rfl) (by kernel_rfl) ?_
      simp only[List.take_succ_cons,List.take_zero,List.drop_succ_cons,List.drop_zero]
      repeat still_step
      still_call (stillL (to32_any _ _))
      repeat still_step
      refine wpStill_nil ?_
      change wpList _ _ _ _ _ wr.drew
      clear hw0 hw1 hw2 hne
      go_wp2
      go_roundw
      case rel=>
       refine⟨1,by omega,rfl,?_,by simpa using hsz,?_,?_,?_,?_,?_,?_,?_,?_,?_,?_,?_,?_,?_,?_⟩
       ·repeat(first|(with_reducible first|exact bLr|exact hB)|((with_reducible first|refine bLs ?_ ?_ _|refine bLa ?_ ?_ _);·first|omega|(simp<;>omega))|with_reducible first|refine bLn ?_ _|refine bLd ?_)
       iterate 4 (go_simp)
       ·change _=some (Value.int .i32 o0);rw[E.out];go_simp
       ·change _=some (Value.int .i32 0);rw[E.out];go_simp
       ·change _=some (Value.int .i32 0);rw[E.out];go_simp
       ·change _=some (Value.int .i32 0);rw[E.out];go_simp
       iterate 4 (go_simp)
       ·intro o;go_simp
       ·intro o;go_simp
      case measure=>simp[intOf]
    ·change wr.cell? _=some (.int .i32 o0)at c0
     change wr.cell? _=some (.int .i32 0)at c1
     change wr.cell? _=some (.int .i32 0)at c2
     change wr.cell? _=some (.int .i32 0)at c3
     cases hm:(m1==1)
     ·obtain rfl:o1=0:=by rw[P1.out,if_neg (by simpa using hm)]
      go_wp2
      go_roundw
      case rel=>exact⟨2,by omega,rfl,hB,hsz,q0,q1,q2,q3,c0,c1,c2,c3,r0,r1,r2,r3,f1,f2⟩
      case measure=>simp[intOf]
     ·have hpos:=G.out (by have:=eq_of_beq hm;omega)
      have E:=qh (show sat32 (p1-S.tdiv N)=o1 by rw[P1.out,if_pos (by simpa using hm)])
      have hd:=tdiv_bd S N
      unfold absI at hd
      go_wp2
      have hne:N≠0:=by omega
      have hw1:=IntWalk.i64_in (S.tdiv N) (by omega)
      have hw0:=IntWalk.i64_in p1 (by omega)
      have hw2:=IntWalk.i64_in (p1-S.tdiv N) (by omega)
      refine wp_region_still_tail 11 (by kernel_rfl) (by kernel_rfl) ?_
      simp only[List.take_succ_cons,List.take_zero,List.drop_succ_cons,List.drop_zero]
      repeat still_step
      still_call (stillL (to32_any _ _))
      repeat still_step
      refine wpStill_nil ?_
      change wpList _ _ _ _ _ wr.drew
      clear hw0 hw1 hw2 hne
      go_wp2
      go_roundw
      case rel=>
       refine⟨2,by omega,rfl,?_,by simpa using hsz,?_,?_,?_,?_,?_,?_,?_,?_,?_,?_,?_,?_,?_,?_⟩
       ·repeat(first|(with_reducible first|exact bLr|exact hB)|((with_reducible first|refine bLs ?_ ?_ _|refine bLa ?_ ?_ _);·first|omega|(simp<;>omega))|with_reducible first|refine bLn ?_ _|refine bLd ?_)
       iterate 4 (go_simp)
       ·change _=some (Value.int .i32 o0);rw[E.out];go_simp
       ·change _=some (Value.int .i32 o1);rw[E.out];go_simp
       ·change _=some (Value.int .i32 0);rw[E.out];go_simp
       ·change _=some (Value.int .i32 0);rw[E.out];go_simp
       iterate 4 (go_simp)
       ·intro o;go_simp
       ·intro o;go_simp
      case measure=>simp[intOf]
    ·change wr.cell? _=some (.int .i32 o0)at c0
     change wr.cell? _=some (.int .i32 o1)at c1
     change wr.cell? _=some (.int .i32 0)at c2
     change wr.cell? _=some (.int .i32 0)at c3
     cases hm:(m2==1)
     ·obtain rfl:o2=0:=by rw[P2.out,if_neg (by simpa using hm)]
      go_wp2
      go_roundw
      case rel=>exact⟨3,by omega,rfl,hB,hsz,q0,q1,q2,q3,c0,c1,c2,c3,r0,r1,r2,r3,f1,f2⟩
      case measure=>simp[intOf]
     ·have hpos:=G.out (by have:=eq_of_beq hm;omega)
      have E:=qh (show sat32 (p2-S.tdiv N)=o2 by rw[P2.out,if_pos (by simpa using hm)])
      have hd:=tdiv_bd S N
      unfold absI at hd
      go_wp2
      have hne:N≠0:=by omega
      have hw1:=IntWalk.i64_in (S.tdiv N) (by omega)
      have hw0:=IntWalk.i64_in p2 (by omega)
      have hw2:=IntWalk.i64_in (p2-S.tdiv N) (by omega)
      refine wp_region_still_tail 11 (by kernel_rfl) (by kernel_rfl) ?_
      simp only[List.take_succ_cons,List.take_zero,List.drop_succ_cons,List.drop_zero]
      repeat still_step
      still_call (stillL (to32_any _ _))
      repeat still_step
      refine wpStill_nil ?_
      change wpList _ _ _ _ _ wr.drew
      clear hw0 hw1 hw2 hne
      go_wp2
      go_roundw
      case rel=>
       refine⟨3,by omega,rfl,?_,by simpa using hsz,?_,?_,?_,?_,?_,?_,?_,?_,?_,?_,?_,?_,?_,?_⟩
       ·repeat(first|(with_reducible first|exact bLr|exact hB)|((with_reducible first|refine bLs ?_ ?_ _|refine bLa ?_ ?_ _);·first|omega|(simp<;>omega))|with_reducible first|refine bLn ?_ _|refine bLd ?_)
       iterate 4 (go_simp)
       ·change _=some (Value.int .i32 o0);rw[E.out];go_simp
       ·change _=some (Value.int .i32 o1);rw[E.out];go_simp
       ·change _=some (Value.int .i32 o2);rw[E.out];go_simp
       ·change _=some (Value.int .i32 0);rw[E.out];go_simp
       iterate 4 (go_simp)
       ·intro o;go_simp
       ·intro o;go_simp
      case measure=>simp[intOf]
    ·change wr.cell? _=some (.int .i32 o0)at c0
     change wr.cell? _=some (.int .i32 o1)at c1
     change wr.cell? _=some (.int .i32 o2)at c2
     change wr.cell? _=some (.int .i32 0)at c3
     cases hm:(m3==1)
     ·obtain rfl:o3=0:=by rw[P3.out,if_neg (by simpa using hm)]
      go_wp2
      go_roundw
      case rel=>exact⟨4,by omega,rfl,hB,hsz,q0,q1,q2,q3,c0,c1,c2,c3,r0,r1,r2,r3,f1,f2⟩
      case measure=>simp[intOf]
     ·have hpos:=G.out (by have:=eq_of_beq hm;omega)
      have E:=qh (show sat32 (p3-S.tdiv N)=o3 by rw[P3.out,if_pos (by simpa using hm)])
      have hd:=tdiv_bd S N
      unfold absI at hd
      go_wp2
      have hne:N≠0:=by omega
      have hw1:=IntWalk.i64_in (S.tdiv N) (by omega)
      have hw0:=IntWalk.i64_in p3 (by omega)
      have hw2:=IntWalk.i64_in (p3-S.tdiv N) (by omega)
      refine wp_region_still_tail 11 (by kernel_rfl) (by kernel_rfl) ?_
      simp only[List.take_succ_cons,List.take_zero,List.drop_succ_cons,List.drop_zero]
      repeat still_step
      still_call (stillL (to32_any _ _))
      repeat still_step
      refine wpStill_nil ?_
      change wpList _ _ _ _ _ wr.drew
      clear hw0 hw1 hw2 hne
      go_wp2
      go_roundw
      case rel=>
       refine⟨4,by omega,rfl,?_,by simpa using hsz,?_,?_,?_,?_,?_,?_,?_,?_,?_,?_,?_,?_,?_,?_⟩
       ·repeat(first|(with_reducible first|exact bLr|exact hB)|((with_reducible first|refine bLs ?_ ?_ _|refine bLa ?_ ?_ _);·first|omega|(simp<;>omega))|with_reducible first|refine bLn ?_ _|refine bLd ?_)
       iterate 4 (go_simp)
       ·change _=some (Value.int .i32 o0);rw[E.out];go_simp
       ·change _=some (Value.int .i32 o1);rw[E.out];go_simp
       ·change _=some (Value.int .i32 o2);rw[E.out];go_simp
       ·change _=some (Value.int .i32 o3);rw[E.out];go_simp
       iterate 4 (go_simp)
       ·intro o;go_simp
       ·intro o;go_simp
      case measure=>simp[intOf]
    ·change wr.cell? _=some (.int .i32 o0)at c0
     change wr.cell? _=some (.int .i32 o1)at c1
     change wr.cell? _=some (.int .i32 o2)at c2
     change wr.cell? _=some (.int .i32 o3)at c3
     go_wp2
     refine bodyPost_ret (v:=.tuple #[.agg #[.int .i32 o0,.int .i32 o1,.int .i32 o2,.int .i32 o3],.int .i64 0]) (by simp[results,Tryz.results115,go_sem,r0,r1,r2,r3]) rfl ⟨rfl,?_⟩
     repeat(first|(with_reducible first|exact bLr|exact hB)|((with_reducible first|refine bLs ?_ ?_ _|refine bLa ?_ ?_ _);·first|omega|(simp<;>omega))|with_reducible first|refine bLn ?_ _|refine bLd ?_)
def ramBad (gain drag low high pos:Int):Prop:=high<low∨pos<low∨high<pos∨gain<0∨drag<0∨8<drag
theorem ramCheck_yes (gain drag low high pos vel:Int) (w:World) (h:¬ramBad gain drag low high pos):
  Calls Tryz.prog 25 #[.agg #[.int .i32 gain,.int .i64 drag,.int .i32 low,.int .i32 high],.agg #[.int .i32 pos,.int .i32 vel]] w fun e w'=>e=.returned (.int .i64 0)∧Below w.heap.size w w':=by
 obtain⟨d0,d1,d2,d3,d4,d5⟩:decide (high<low)=false∧decide (pos<low)=false∧decide (high<pos)=false∧decide (gain<0)=false∧decide (drag<0)=false∧decide (8<drag)=false:=by
  simp only[decide_eq_false_iff_not];unfold ramBad at h;omega
 clear h
 go_enter Tryz.func25,Tryz.ntmps25
 go_wp2
 go_ret
 refine⟨rfl,?_⟩
 repeat(first|(with_reducible first|exact bLr)|((with_reducible first|refine bLs ?_ ?_ _|refine bLa ?_ ?_ _);·first|omega|(simp<;>omega))|with_reducible first|refine bLn ?_ _|refine bLd ?_)
theorem ramCheck_no (gain drag low high pos vel:Int) (w:World) (h:ramBad gain drag low high pos):
  Calls Tryz.prog 25 #[.agg #[.int .i32 gain,.int .i64 drag,.int .i32 low,.int .i32 high],.agg #[.int .i32 pos,.int .i32 vel]] w fun e w'=>e=.returned (.int .i64 1)∧Below w.heap.size w w':=by
 have hsome:(decide (high<low)=true)∨(decide (high<low)=false∧decide (pos<low)=true)∨(decide (high<low)=false∧decide (pos<low)=false∧decide (high<pos)=true)∨(decide (high<low)=false∧decide (pos<low)=false∧decide (high<pos)=false∧decide (gain<0)=true)∨(decide (high<low)=false∧decide (pos<low)=false∧decide (high<pos)=false∧decide (gain<0)=false∧decide (drag<0)=true)∨(decide (high<low)=false∧decide (pos<low)=false∧decide (high<pos)=false∧decide (gain<0)=false∧decide (drag<0)=false∧decide (8<drag)=true):=by
  simp only[decide_eq_false_iff_not,decide_eq_true_eq];unfold ramBad at h;omega
 clear h
 rcases hsome with d0|⟨d0,d1⟩|⟨d0,d1,d2⟩|⟨d0,d1,d2,d3⟩|⟨d0,d1,d2,d3,d4⟩|⟨d0,d1,d2,d3,d4,d5⟩
 all_goals
  go_enter Tryz.func25,Tryz.ntmps25
  go_wp2
  go_ret
  refine⟨rfl,?_⟩
  repeat(first|(with_reducible first|exact bLr)|((with_reducible first|refine bLs ?_ ?_ _|refine bLa ?_ ?_ _);·first|omega|(simp<;>omega))|with_reducible first|refine bLn ?_ _|refine bLd ?_)
def sel (a b c d:Int):Nat→Int
 |0=>a
 |1=>b
 |2=>c
 |_=>d
def pushI (m p f:Int):Int:=if m=1 then sat32 (f+p)else f
def slowI (m:Int):Int:=if m=3 then 1 else 0
def forceK (ms ps:Nat→Int) (load:Int):Nat→Int
 |0=>sat32 (-load)
 |k+1=>pushI (ms k) (ps k) (forceK ms ps load k)
def dragK (ms:Nat→Int) (drag:Int):Nat→Int
 |0=>drag
 |k+1=>dragK ms drag k+slowI (ms k)
theorem forceK_bd (ms ps:Nat→Int) (load:Int) (k:Nat): -2147483648≤forceK ms ps load k∧forceK ms ps load k≤2147483647:=by
 induction k with
 |zero=>exact sat32_bd _
 |succ k ih=>unfold forceK pushI;split;exact sat32_bd _;exact ih
theorem dragK_bd (ms:Nat→Int) (drag:Int) (k:Nat):drag≤dragK ms drag k∧dragK ms drag k≤drag+k:=by
 induction k with
 |zero=>simp[dragK]
 |succ k ih=>unfold dragK slowI;split<;>omega
def wayI (gain drag load:Int) (ms ps:Nat→Int):Int:=shiftI (mulI gain (forceK ms ps load 4)) (-(dragK ms drag 4))
def ramPos (gain drag low high pos load:Int) (ms ps:Nat→Int):Int:=clampI (sat32 (pos+wayI gain drag load ms ps)) low high
theorem ramStep_yes (gain drag low high pos vel p0 p1 p2 p3 m0 m1 m2 m3 load x v:Int) (w:World) (hgain: -2147483648≤gain∧gain≤2147483647) (hlow: -2147483648≤low∧low≤2147483647) (hhigh: -2147483648≤high∧high≤2147483647) (hpos: -2147483648≤pos∧pos≤2147483647) (hp0: -2147483648≤p0∧p0≤2147483647) (hp1: -2147483648≤p1∧p1≤2147483647) (hp2: -2147483648≤p2∧p2≤2147483647) (hp3: -2147483648≤p3∧p3≤2147483647) (hload: -2147483648≤load∧load≤2147483647)
  (hok:¬ramBad gain drag low high pos) (hm:ModesOk m0 m1 m2 m3) (hx:ramPos gain drag low high pos load (sel m0 m1 m2 m3) (sel p0 p1 p2 p3)=x) (hv:sat32 (x-pos)=v):
  Calls Tryz.prog 116 #[.agg #[.int .i32 gain,.int .i64 drag,.int .i32 low,.int .i32 high],.agg #[.int .i32 pos,.int .i32 vel],.agg #[.int .i32 p0,.int .i32 p1,.int .i32 p2,.int .i32 p3],.agg #[.int .i64 m0,.int .i64 m1,.int .i64 m2,.int .i64 m3],.int .i32 load] w
   fun e w'=>e=.returned (.tuple #[.agg #[.int .i32 x,.int .i32 v],.int .i64 0])∧Below w.heap.size w w':=by
 have ix0:∀w:World,(Instr.index 53 (.agg #[.int .i64 m0,.int .i64 m1,.int .i64 m2,.int .i64 m3]) (.int .i64 0)).run Tryz.prog w=.ok (.int .i64 m0) w:=fun _=>by kernel_rfl
 have ix1:∀w:World,(Instr.index 53 (.agg #[.int .i64 m0,.int .i64 m1,.int .i64 m2,.int .i64 m3]) (.int .i64 1)).run Tryz.prog w=.ok (.int .i64 m1) w:=fun _=>by kernel_rfl
 have ix2:∀w:World,(Instr.index 53 (.agg #[.int .i64 m0,.int .i64 m1,.int .i64 m2,.int .i64 m3]) (.int .i64 2)).run Tryz.prog w=.ok (.int .i64 m2) w:=fun _=>by kernel_rfl
 have ix3:∀w:World,(Instr.index 53 (.agg #[.int .i64 m0,.int .i64 m1,.int .i64 m2,.int .i64 m3]) (.int .i64 3)).run Tryz.prog w=.ok (.int .i64 m3) w:=fun _=>by kernel_rfl
 have H:=qh hok;have HM:=qh hm;have HX:=qh hx;have HV:=qh hv
 have hdrag:0≤drag∧drag≤8:=by unfold ramBad at hok;omega
 have hxb: -2147483648≤x∧x≤2147483647:=by rw[←hx];exact clampI_bd _ _ _ (sat32_bd _) hlow hhigh
 have hms:sel m0 m1 m2 m3 0=m0∧sel m0 m1 m2 m3 1=m1∧sel m0 m1 m2 m3 2=m2∧sel m0 m1 m2 m3 3=m3:=⟨rfl,rfl,rfl,rfl⟩
 have hps:sel p0 p1 p2 p3 0=p0∧sel p0 p1 p2 p3 1=p1∧sel p0 p1 p2 p3 2=p2∧sel p0 p1 p2 p3 3=p3:=⟨rfl,rfl,rfl,rfl⟩
 have HMS:=qh hms;have HPS:=qh hps
 clear hok hm hx hv hms hps
 generalize sel m0 m1 m2 m3=ms at HX HMS
 generalize sel p0 p1 p2 p3=ps at HX HPS
 go_enter Tryz.func116,Tryz.ntmps116
 go_wp2_with fail
 refine(ramCheck_yes _ _ _ _ _ _ _ H.out).mono ?_
 rintro e_w1 w1 ⟨rfl,hb⟩
 have zhb:=hb.size
 obtain⟨chb,fhb⟩:=Open.bcell hb
 try(simp at zhb)
 go_wp2_with fail
 refine(ramRight_yes _ _ _ _ _ HM.out).mono ?_
 rintro e_w2 w2 ⟨rfl,hb2⟩
 have zhb2:=hb2.size
 obtain⟨chb2,fhb2⟩:=Open.bcell hb2
 try(simp at zhb2)
 have sw1_0_0:w.heap.size<w1.heap.size:=by omega
 have sw1_1_0:w.heap.size+1<w1.heap.size:=by omega
 have sw1_2_0:w.heap.size+1+1<w1.heap.size:=by omega
 have sw1_3_0:w.heap.size+1+1+1<w1.heap.size:=by omega
 have sw1_4_0:w.heap.size+1+1+1+1<w1.heap.size:=by omega
 go_wp2_with (go_at_call 148;refine(neg_any _ (by omega) _).mono ?_;rintro e w' ⟨rfl,rfl⟩)
 go_loop [14,15,38] (fun f s i=>∃k:Nat,k≤4∧i=.int .i64 k∧f=.int .i32 (forceK ms ps load k)∧s=.int .i64 (dragK ms drag k)) (fun _ _ i=>4-(intOf i).toNat)
 case atStart=>exact⟨0,by omega,rfl,rfl,rfl⟩
 case round=>
  obtain⟨k,hk,rfl,rfl,rfl⟩:=hrel
  have hF:=forceK_bd ms ps load k
  have hD:=dragK_bd ms drag k
  have F1:Hid (forceK ms ps load (k+1)=pushI (ms k) (ps k) (forceK ms ps load k)):=rfl
  have D1:Hid (dragK ms drag (k+1)=dragK ms drag k+slowI (ms k)):=rfl
  by_cases h4:k<4
  ·generalize forceK ms ps load k=f at *
   generalize dragK ms drag k=d at *
   rcases(by omega:k=0∨k=1∨k=2∨k=3)with rfl|rfl|rfl|rfl
   ·have F2:=qh (F1.out.trans (by rw[HMS.out.1,HPS.out.1]));have D2:=qh (D1.out.trans (by rw[HMS.out.1]))
    clear F1 D1
    rcases(by omega:m0=1∨m0=3∨(m0≠1∧m0≠3))with g|g|⟨g,g'⟩
    ·have F3:=qh (F2.out.trans (if_pos g));have D3:Hid (dragK ms drag 1=d):=D2.out.trans (by unfold slowI;rw[if_neg (by omega)];exact Int.add_zero d)
     have t1:(m0==1)=true:=by simpa using g
     clear F2 D2 g
     go_wp2_with (go_at_call 149;refine(add_any _ _ (by omega) (by omega) _).mono ?_;rintro e w' ⟨rfl,rfl⟩)
     go_round
     case rel=>exact⟨1,by omega,rfl,by rw[F3.out],by rw[D3.out]⟩
     case measure=>simp[intOf]
    ·have F3:=qh (F2.out.trans (if_neg (by omega)));have D3:Hid (dragK ms drag 1=d+1):=D2.out.trans (by unfold slowI;rw[if_pos g])
     have t1:(m0==1)=false:=by simp;omega
     have t2:(m0==3)=true:=by simpa using g
     clear F2 D2 g
     go_wp2_with fail
     go_round
     case rel=>exact⟨1,by omega,rfl,by rw[F3.out],by rw[D3.out]⟩
     case measure=>simp[intOf]
    ·have F3:=qh (F2.out.trans (if_neg g));have D3:Hid (dragK ms drag 1=d):=D2.out.trans (by unfold slowI;rw[if_neg g'];exact Int.add_zero d)
     have t1:(m0==1)=false:=by simpa using g
     have t2:(m0==3)=false:=by simpa using g'
     clear F2 D2 g g'
     go_wp2_with fail
     go_round
     case rel=>exact⟨1,by omega,rfl,by rw[F3.out],by rw[D3.out]⟩
     case measure=>simp[intOf]
   ·have F2:=qh (F1.out.trans (by rw[HMS.out.2.1,HPS.out.2.1]));have D2:=qh (D1.out.trans (by rw[HMS.out.2.1]))
    clear F1 D1
    rcases(by omega:m1=1∨m1=3∨(m1≠1∧m1≠3))with g|g|⟨g,g'⟩
    ·have F3:=qh (F2.out.trans (if_pos g));have D3:Hid (dragK ms drag 2=d):=D2.out.trans (by unfold slowI;rw[if_neg (by omega)];exact Int.add_zero d)
     have t1:(m1==1)=true:=by simpa using g
     clear F2 D2 g
     go_wp2_with (go_at_call 149;refine(add_any _ _ (by omega) (by omega) _).mono ?_;rintro e w' ⟨rfl,rfl⟩)
     go_round
     case rel=>exact⟨2,by omega,rfl,by rw[F3.out],by rw[D3.out]⟩
     case measure=>simp[intOf]
    ·have F3:=qh (F2.out.trans (if_neg (by omega)));have D3:Hid (dragK ms drag 2=d+1):=D2.out.trans (by unfold slowI;rw[if_pos g])
     have t1:(m1==1)=false:=by simp;omega
     have t2:(m1==3)=true:=by simpa using g
     clear F2 D2 g
     go_wp2_with fail
     go_round
     case rel=>exact⟨2,by omega,rfl,by rw[F3.out],by rw[D3.out]⟩
     case measure=>simp[intOf]
    ·have F3:=qh (F2.out.trans (if_neg g));have D3:Hid (dragK ms drag 2=d):=D2.out.trans (by unfold slowI;rw[if_neg g'];exact Int.add_zero d)
     have t1:(m1==1)=false:=by simpa using g
     have t2:(m1==3)=false:=by simpa using g'
     clear F2 D2 g g'
     go_wp2_with fail
     go_round
     case rel=>exact⟨2,by omega,rfl,by rw[F3.out],by rw[D3.out]⟩
     case measure=>simp[intOf]
   ·have F2:=qh (F1.out.trans (by rw[HMS.out.2.2.1,HPS.out.2.2.1]));have D2:=qh (D1.out.trans (by rw[HMS.out.2.2.1]))
    clear F1 D1
    rcases(by omega:m2=1∨m2=3∨(m2≠1∧m2≠3))with g|g|⟨g,g'⟩
    ·have F3:=qh (F2.out.trans (if_pos g));have D3:Hid (dragK ms drag 3=d):=D2.out.trans (by unfold slowI;rw[if_neg (by omega)];exact Int.add_zero d)
     have t1:(m2==1)=true:=by simpa using g
     clear F2 D2 g
     go_wp2_with (go_at_call 149;refine(add_any _ _ (by omega) (by omega) _).mono ?_;rintro e w' ⟨rfl,rfl⟩)
     go_round
     case rel=>exact⟨3,by omega,rfl,by rw[F3.out],by rw[D3.out]⟩
     case measure=>simp[intOf]
    ·have F3:=qh (F2.out.trans (if_neg (by omega)));have D3:Hid (dragK ms drag 3=d+1):=D2.out.trans (by unfold slowI;rw[if_pos g])
     have t1:(m2==1)=false:=by simp;omega
     have t2:(m2==3)=true:=by simpa using g
     clear F2 D2 g
     go_wp2_with fail
     go_round
     case rel=>exact⟨3,by omega,rfl,by rw[F3.out],by rw[D3.out]⟩
     case measure=>simp[intOf]
    ·have F3:=qh (F2.out.trans (if_neg g));have D3:Hid (dragK ms drag 3=d):=D2.out.trans (by unfold slowI;rw[if_neg g'];exact Int.add_zero d)
     have t1:(m2==1)=false:=by simpa using g
     have t2:(m2==3)=false:=by simpa using g'
     clear F2 D2 g g'
     go_wp2_with fail
     go_round
     case rel=>exact⟨3,by omega,rfl,by rw[F3.out],by rw[D3.out]⟩
     case measure=>simp[intOf]
   ·have F2:=qh (F1.out.trans (by rw[HMS.out.2.2.2,HPS.out.2.2.2]));have D2:=qh (D1.out.trans (by rw[HMS.out.2.2.2]))
    clear F1 D1
    rcases(by omega:m3=1∨m3=3∨(m3≠1∧m3≠3))with g|g|⟨g,g'⟩
    ·have F3:=qh (F2.out.trans (if_pos g));have D3:Hid (dragK ms drag 4=d):=D2.out.trans (by unfold slowI;rw[if_neg (by omega)];exact Int.add_zero d)
     have t1:(m3==1)=true:=by simpa using g
     clear F2 D2 g
     go_wp2_with (go_at_call 149;refine(add_any _ _ (by omega) (by omega) _).mono ?_;rintro e w' ⟨rfl,rfl⟩)
     go_round
     case rel=>exact⟨4,by omega,rfl,by rw[F3.out],by rw[D3.out]⟩
     case measure=>simp[intOf]
    ·have F3:=qh (F2.out.trans (if_neg (by omega)));have D3:Hid (dragK ms drag 4=d+1):=D2.out.trans (by unfold slowI;rw[if_pos g])
     have t1:(m3==1)=false:=by simp;omega
     have t2:(m3==3)=true:=by simpa using g
     clear F2 D2 g
     go_wp2_with fail
     go_round
     case rel=>exact⟨4,by omega,rfl,by rw[F3.out],by rw[D3.out]⟩
     case measure=>simp[intOf]
    ·have F3:=qh (F2.out.trans (if_neg g));have D3:Hid (dragK ms drag 4=d):=D2.out.trans (by unfold slowI;rw[if_neg g'];exact Int.add_zero d)
     have t1:(m3==1)=false:=by simpa using g
     have t2:(m3==3)=false:=by simpa using g'
     clear F2 D2 g g'
     go_wp2_with fail
     go_round
     case rel=>exact⟨4,by omega,rfl,by rw[F3.out],by rw[D3.out]⟩
     case measure=>simp[intOf]
  ·obtain rfl:k=4:=by omega
   clear F1 D1
   have E1:shiftI (mulI gain (forceK ms ps load 4)) (-(dragK ms drag 4))=wayI gain drag load ms ps:=rfl
   have E2:clampI (sat32 (pos+wayI gain drag load ms ps)) low high=x:=HX.out
   have b1:=mulI_bd gain (forceK ms ps load 4)
   have b2:=shiftI_bd (mulI gain (forceK ms ps load 4)) (-(dragK ms drag 4)) b1
   rw[E1]at b2
   have b3:=sat32_bd (pos+wayI gain drag load ms ps)
   generalize forceK ms ps load 4=f at *
   generalize dragK ms drag 4=d at *
   generalize wayI gain drag load ms ps=way at *
   go_wp2_with (first|(go_at_call 56;refine(mul_any _ _ (by omega) (by omega) _).mono ?_;rintro e w' ⟨rfl,rfl⟩)|(go_at_call 150;refine(shift_any _ _ (by omega) _).mono ?_;rintro e w' ⟨rfl,rfl⟩))
   go_quiet ((first|(go_at_call 149;exact quietL (add_any _ _ (by omega) (by omega) _))|(go_at_call 117;exact quietL (clamp_any _ _ _ _))))
   go_wp2_with (go_at_call 54;refine(sub_any _ _ (by omega) (by omega) _).mono ?_;rintro e w' ⟨rfl,rfl⟩)
   have r0:w2.cell? ⟨w.heap.size+1+1+1+1,0,none⟩=some (.int .i32 0):=by rw[chb2 _ _ (by first|omega|(simp<;>omega)),chb _ _ (by first|omega|(simp<;>omega))];go_simp
   have r1:w2.cell? ⟨w.heap.size+1+1+1+1,1,none⟩=some (.int .i32 0):=by rw[chb2 _ _ (by first|omega|(simp<;>omega)),chb _ _ (by first|omega|(simp<;>omega))];go_simp
   refine bodyPost_ret (v:=.tuple #[.agg #[.int .i32 x,.int .i32 v],.int .i64 0]) (by simp[results,Tryz.results116,go_sem,r0,r1,HV.out]) rfl ⟨rfl,?_⟩
   repeat(first|(with_reducible first|exact bLr)|((with_reducible first|refine bLs ?_ ?_ _|refine bLt hb ?_ ?_|refine bLt hb2 ?_ ?_|refine bLa ?_ ?_ _);·first|omega|(simp<;>omega))|with_reducible first|refine bLn ?_ _|refine bLd ?_)
def pidBad (low high sum:Int):Prop:=high<low∨sum<low∨high<sum
theorem pidCheck_yes (P I D low high sum last:Int) (w:World) (h:¬pidBad low high sum):
  Calls Tryz.prog 51 #[.agg #[.int .i32 P,.int .i32 I,.int .i32 D,.int .i32 low,.int .i32 high],.agg #[.int .i32 sum,.int .i32 last]] w fun e w'=>e=.returned (.int .i64 0)∧Below w.heap.size w w':=by
 obtain⟨h1,h2,h3⟩:decide (high<low)=false∧decide (sum<low)=false∧decide (high<sum)=false:=by
  simp only[decide_eq_false_iff_not];unfold pidBad at h;omega
 clear h
 go_enter Tryz.func51,Tryz.ntmps51
 go_wp2
 go_ret
 exact⟨rfl,(((bLr).alloc (Nat.le_refl _) _).alloc (by simp) _)⟩
theorem pidCheck_no (P I D low high sum last:Int) (w:World) (h:pidBad low high sum):
  Calls Tryz.prog 51 #[.agg #[.int .i32 P,.int .i32 I,.int .i32 D,.int .i32 low,.int .i32 high],.agg #[.int .i32 sum,.int .i32 last]] w fun e w'=>e=.returned (.int .i64 1)∧Below w.heap.size w w':=by
 have h':decide (high<low)=true∨(decide (high<low)=false∧decide (sum<low)=true)∨(decide (high<low)=false∧decide (sum<low)=false∧decide (high<sum)=true):=by
  simp only[decide_eq_false_iff_not,decide_eq_true_eq];unfold pidBad at h;omega
 clear h
 rcases h' with h|⟨h,h'⟩|⟨h,h',h''⟩
 all_goals
  go_enter Tryz.func51,Tryz.ntmps51
  go_wp2
  go_ret
  exact⟨rfl,(((bLr).alloc (Nat.le_refl _) _).alloc (by simp) _)⟩
def pidSum (I low high sum err:Int):Int:=clampI (sat32 (sum+mulI I err)) low high
def pidOut (P I D low high sum last err:Int):Int:=sat32 (sat32 (mulI P err+pidSum I low high sum err)+mulI D (sat32 (err-last)))
def pidKeeps (P I D low high sum last err:Int):Bool:=
 (decide (high<pidOut P I D low high sum last err)&&decide (sum<pidSum I low high sum err))||(decide (pidOut P I D low high sum last err<low)&&decide (pidSum I low high sum err<sum))
def pidNext (P I D low high sum last err:Int):Int:=if pidKeeps P I D low high sum last err then sum else pidSum I low high sum err
def pidTold (P I D low high sum last err:Int):Int:=clampI (pidOut P I D low high sum last err) low high
theorem pidSum_bd (I low high sum err:Int) (h:¬pidBad low high sum):low≤pidSum I low high sum err∧pidSum I low high sum err≤high:=by
 unfold pidBad at h;unfold pidSum clampI;omega
theorem pidTold_bd (P I D low high sum last err:Int) (h:¬pidBad low high sum):low≤pidTold P I D low high sum last err∧pidTold P I D low high sum last err≤high:=by
 unfold pidBad at h;unfold pidTold clampI;omega
theorem pidNext_bd (P I D low high sum last err:Int) (h:¬pidBad low high sum):low≤pidNext P I D low high sum last err∧pidNext P I D low high sum last err≤high:=by
 have:=pidSum_bd I low high sum err h
 unfold pidBad at h;unfold pidNext;split<;>omega
theorem pidStep_yes (P I D low high sum last err:Int) (w:World) (hP: -2147483648≤P∧P≤2147483647) (hI: -2147483648≤I∧I≤2147483647) (hD: -2147483648≤D∧D≤2147483647)
  (hl: -2147483648≤low∧low≤2147483647) (hh: -2147483648≤high∧high≤2147483647) (hs: -2147483648≤sum∧sum≤2147483647) (hla: -2147483648≤last∧last≤2147483647) (he: -2147483648≤err∧err≤2147483647)
  (h:¬pidBad low high sum):
  Calls Tryz.prog 167 #[.agg #[.int .i32 P,.int .i32 I,.int .i32 D,.int .i32 low,.int .i32 high],.agg #[.int .i32 sum,.int .i32 last],.int .i32 err] w
   fun e w'=>e=.returned (.tuple #[.agg #[.int .i32 (pidNext P I D low high sum last err),.int .i32 err],.int .i32 (pidTold P I D low high sum last err),.int .i64 0])∧Below w.heap.size w w':=by
 have H:=qh h
 have b1:=mulI_bd I err
 have b2:=sat32_bd (sum+mulI I err)
 have b3:=pidSum_bd I low high sum err h
 have b4:=mulI_bd P err
 have b5:=sat32_bd (mulI P err+pidSum I low high sum err)
 have b6:=sat32_bd (err-last)
 have b7:=mulI_bd D (sat32 (err-last))
 have e1:clampI (sat32 (sum+mulI I err)) low high=pidSum I low high sum err:=rfl
 have e2:sat32 (sat32 (mulI P err+pidSum I low high sum err)+mulI D (sat32 (err-last)))=pidOut P I D low high sum last err:=rfl
 have b8: -2147483648≤pidOut P I D low high sum last err∧pidOut P I D low high sum last err≤2147483647:=sat32_bd _
 have e3:clampI (pidOut P I D low high sum last err) low high=pidTold P I D low high sum last err:=rfl
 have e4:pidNext P I D low high sum last err=if pidKeeps P I D low high sum last err then sum else pidSum I low high sum err:=rfl
 have e5:pidKeeps P I D low high sum last err=((decide (high<pidOut P I D low high sum last err)&&decide (sum<pidSum I low high sum err))||(decide (pidOut P I D low high sum last err<low)&&decide (pidSum I low high sum err<sum))):=rfl
 have E4:=qh e4;have E5:=qh e5
 clear h e4 e5
 generalize pidNext P I D low high sum last err=nx at E4⊢
 generalize pidKeeps P I D low high sum last err=kp at E4 E5
 generalize pidTold P I D low high sum last err=tl at e3⊢
 generalize pidOut P I D low high sum last err=ou at e2 e3 b8 E5
 generalize pidSum I low high sum err=su at e1 e2 b3 b5 E4 E5
 go_enter Tryz.func167,Tryz.ntmps167
 go_wp2_with fail
 refine(pidCheck_yes _ _ _ _ _ _ _ _ H.out).mono ?_
 rintro e w1 ⟨rfl,hb⟩
 have hz:=hb.size
 obtain⟨hc,hf⟩:=Open.bcell hb
 simp at hz
 go_wp2_with fail
 go_quiet ((first|(go_at_call 56;exact quietL (mul_any _ _ (by omega) (by omega) _))|(go_at_call 149;exact quietL (add_any _ _ (by omega) (by omega) _))|(go_at_call 117;exact quietL (clamp_any _ _ _ _))))
 go_wp2_with fail
 go_quiet ((first|(go_at_call 56;exact quietL2 (mul_any _ _ (by omega) (by omega) _))|(go_at_call 149;exact quietL2 (add_any _ _ (by omega) (by omega) _))|(go_at_call 54;exact quietL2 (sub_any _ _ (by omega) (by omega) _))))
 have hk:(kp=true∧decide (high<ou)=true∧decide (sum<su)=true)∨(kp=true∧decide (high<ou)=true∧decide (sum<su)=false∧decide (ou<low)=true∧decide (su<sum)=true)∨
   (kp=true∧decide (high<ou)=false∧decide (ou<low)=true∧decide (su<sum)=true)∨(kp=false∧decide (high<ou)=true∧decide (sum<su)=false∧decide (ou<low)=true∧decide (su<sum)=false)∨
   (kp=false∧decide (high<ou)=true∧decide (sum<su)=false∧decide (ou<low)=false)∨(kp=false∧decide (high<ou)=false∧decide (ou<low)=true∧decide (su<sum)=false)∨
   (kp=false∧decide (high<ou)=false∧decide (ou<low)=false):=by
  rw[E5.out]
  generalize decide (high<ou)=p
  generalize decide (sum<su)=q
  generalize decide (ou<low)=r
  generalize decide (su<sum)=t
  revert p q r t
  decide
 rcases hk with⟨rfl,c1,c2⟩|⟨rfl,c1,c2,c3,c4⟩|⟨rfl,c1,c2,c3⟩|⟨rfl,c1,c2,c3,c4⟩|⟨rfl,c1,c2,c3⟩|⟨rfl,c1,c2,c3⟩|⟨rfl,c1,c2⟩
 all_goals
  have E6:=E4.out
  simp only[if_true,Bool.false_eq_true,if_false]at E6
  subst E6
  clear E4 E5
  go_wp2_with (go_at_call 117;refine(clamp_any _ _ _ _).mono ?_;rintro e w' ⟨rfl,rfl⟩)
  refine bodyPost_ret (v:=.tuple #[.agg #[.int .i32 _,.int .i32 err],.int .i32 tl,.int .i64 0]) (by simp[results,Tryz.results167,go_sem,hc]) rfl ⟨rfl,?_⟩
  repeat(first|exact bLr|refine Below.setCell ?_ (by simp;try omega) _|refine below_drewN ?_ _|refine Below.trans ?_ (Below.mono hb (by simp;try omega))|refine Below.alloc ?_ (by simp;try omega) _)
def evenOk (o0 o1 o2 o3 m0 m1 m2 m3 bits most:Int):Prop:=0≤bits∧bits≤30∧0≤most∧(0≤m0∧m0≤3∧ -most≤o0∧o0≤most)∧(0≤m1∧m1≤3∧ -most≤o1∧o1≤most)∧(0≤m2∧m2≤3∧ -most≤o2∧o2≤most)∧(0≤m3∧m3≤3∧ -most≤o3∧o3≤most)
theorem evenCheck_yes (o0 o1 o2 o3 m0 m1 m2 m3 bits most:Int) (w:World) (ho0: -2147483648≤o0∧o0≤2147483647) (ho1: -2147483648≤o1∧o1≤2147483647) (ho2: -2147483648≤o2∧o2≤2147483647) (ho3: -2147483648≤o3∧o3≤2147483647) (hmost: -2147483648≤most∧most≤2147483647) (h:evenOk o0 o1 o2 o3 m0 m1 m2 m3 bits most):
  Calls Tryz.prog 31 #[.agg #[.int .i32 o0,.int .i32 o1,.int .i32 o2,.int .i32 o3],.agg #[.int .i64 m0,.int .i64 m1,.int .i64 m2,.int .i64 m3],.int .i64 bits,.int .i32 most] w fun e w'=>e=.returned (.int .i64 0)∧Below w.heap.size w w':=by
 have ix0:∀w:World,(Instr.index 53 (.agg #[.int .i64 m0,.int .i64 m1,.int .i64 m2,.int .i64 m3]) (.int .i64 0)).run Tryz.prog w=.ok (.int .i64 m0) w:=fun _=>by kernel_rfl
 have ix1:∀w:World,(Instr.index 53 (.agg #[.int .i64 m0,.int .i64 m1,.int .i64 m2,.int .i64 m3]) (.int .i64 1)).run Tryz.prog w=.ok (.int .i64 m1) w:=fun _=>by kernel_rfl
 have ix2:∀w:World,(Instr.index 53 (.agg #[.int .i64 m0,.int .i64 m1,.int .i64 m2,.int .i64 m3]) (.int .i64 2)).run Tryz.prog w=.ok (.int .i64 m2) w:=fun _=>by kernel_rfl
 have ix3:∀w:World,(Instr.index 53 (.agg #[.int .i64 m0,.int .i64 m1,.int .i64 m2,.int .i64 m3]) (.int .i64 3)).run Tryz.prog w=.ok (.int .i64 m3) w:=fun _=>by kernel_rfl
 obtain⟨d0,d1,d2,d3,d4,d5,d6,d7,d8,d9,d10,d11,d12,d13,d14,d15,d16,d17,d18⟩:decide (bits<0)=false∧decide (30<bits)=false∧decide (most<0)=false∧decide (m0<0)=false∧decide (3<m0)=false∧decide (o0< -most)=false∧decide (most<o0)=false∧decide (m1<0)=false∧decide (3<m1)=false∧decide (o1< -most)=false∧decide (most<o1)=false∧decide (m2<0)=false∧decide (3<m2)=false∧decide (o2< -most)=false∧decide (most<o2)=false∧decide (m3<0)=false∧decide (3<m3)=false∧decide (o3< -most)=false∧decide (most<o3)=false:=by
  simp only[decide_eq_false_iff_not];unfold evenOk at h;omega
 have hm:0≤most:=h.2.2.1
 clear h
 go_enter Tryz.func31,Tryz.ntmps31
 go_wp2
 refine wp_loop_rounds 5 ?_
 rw[rounds_succ];go_wp2
 rw[rounds_succ];go_wp2
 rw[rounds_succ];go_wp2
 rw[rounds_succ];go_wp2
 rw[rounds_succ];go_wp2
 go_ret
 refine⟨rfl,?_⟩
 repeat(first|(with_reducible first|exact bLr)|((with_reducible first|refine bLs ?_ ?_ _|refine bLa ?_ ?_ _);·first|omega|(simp<;>omega))|with_reducible first|refine bLn ?_ _|refine bLd ?_)
theorem evenCheck_no (o0 o1 o2 o3 m0 m1 m2 m3 bits most:Int) (w:World) (ho0: -2147483648≤o0∧o0≤2147483647) (ho1: -2147483648≤o1∧o1≤2147483647) (ho2: -2147483648≤o2∧o2≤2147483647) (ho3: -2147483648≤o3∧o3≤2147483647) (hmost: -2147483648≤most∧most≤2147483647) (h:¬evenOk o0 o1 o2 o3 m0 m1 m2 m3 bits most):
  Calls Tryz.prog 31 #[.agg #[.int .i32 o0,.int .i32 o1,.int .i32 o2,.int .i32 o3],.agg #[.int .i64 m0,.int .i64 m1,.int .i64 m2,.int .i64 m3],.int .i64 bits,.int .i32 most] w fun e w'=>e=.returned (.int .i64 1)∧Below w.heap.size w w':=by
 have ix0:∀w:World,(Instr.index 53 (.agg #[.int .i64 m0,.int .i64 m1,.int .i64 m2,.int .i64 m3]) (.int .i64 0)).run Tryz.prog w=.ok (.int .i64 m0) w:=fun _=>by kernel_rfl
 have ix1:∀w:World,(Instr.index 53 (.agg #[.int .i64 m0,.int .i64 m1,.int .i64 m2,.int .i64 m3]) (.int .i64 1)).run Tryz.prog w=.ok (.int .i64 m1) w:=fun _=>by kernel_rfl
 have ix2:∀w:World,(Instr.index 53 (.agg #[.int .i64 m0,.int .i64 m1,.int .i64 m2,.int .i64 m3]) (.int .i64 2)).run Tryz.prog w=.ok (.int .i64 m2) w:=fun _=>by kernel_rfl
 have ix3:∀w:World,(Instr.index 53 (.agg #[.int .i64 m0,.int .i64 m1,.int .i64 m2,.int .i64 m3]) (.int .i64 3)).run Tryz.prog w=.ok (.int .i64 m3) w:=fun _=>by kernel_rfl
 have H:=qh h
 clear h
 by_cases hg:bits<0∨30<bits∨most<0
 ·clear H
  have hsome:(decide (bits<0)=true)∨(decide (bits<0)=false∧decide (30<bits)=true)∨(decide (bits<0)=false∧decide (30<bits)=false∧decide (most<0)=true):=by
   simp only[decide_eq_false_iff_not,decide_eq_true_eq];omega
  clear hg
  rcases hsome with d0|⟨d0,d1⟩|⟨d0,d1,d2⟩
  all_goals
   go_enter Tryz.func31,Tryz.ntmps31
   go_wp2
   go_ret
   refine⟨rfl,?_⟩
   repeat(first|(with_reducible first|exact bLr)|((with_reducible first|refine bLs ?_ ?_ _|refine bLa ?_ ?_ _);·first|omega|(simp<;>omega))|with_reducible first|refine bLn ?_ _|refine bLd ?_)
 ·obtain⟨d0,d1,d2⟩:decide (bits<0)=false∧decide (30<bits)=false∧decide (most<0)=false:=by simp only[decide_eq_false_iff_not];omega
  have hb0:0≤bits∧bits≤30∧0≤most:=by omega
  clear hg
  have K:∀m o:Int,decide (m<0)=true∨(decide (m<0)=false∧decide (3<m)=true)∨(decide (m<0)=false∧decide (3<m)=false∧decide (o< -most)=true)∨(decide (m<0)=false∧decide (3<m)=false∧decide (o< -most)=false∧decide (most<o)=true)∨
    (decide (m<0)=false∧decide (3<m)=false∧decide (o< -most)=false∧decide (most<o)=false):=by
   intro m o;simp only[decide_eq_false_iff_not,decide_eq_true_eq];omega
  have HK:=qh K
  have k0:=K m0 o0;have k1:=K m1 o1;have k2:=K m2 o2;have k3:=K m3 o3
  have K0:=qh k0;have K1:=qh k1;have K2:=qh k2;have K3:=qh k3
  clear K k0 k1 k2 k3 HK
  go_enter Tryz.func31,Tryz.ntmps31
  go_wp2
  go_loop [22] (fun i=>∃k:Nat,k≤4∧i=.int .i64 k∧Hid ((0<k→0≤m0∧m0≤3∧ -most≤o0∧o0≤most)∧(1<k→0≤m1∧m1≤3∧ -most≤o1∧o1≤most)∧(2<k→0≤m2∧m2≤3∧ -most≤o2∧o2≤most)∧(3<k→0≤m3∧m3≤3∧ -most≤o3∧o3≤most))) (fun i=>4-(intOf i).toNat)
  case atStart=>exact⟨0,by omega,rfl,by unfold Hid;omega⟩
  case round=>
   obtain⟨k,hk,rfl,hr⟩:=hrel
   rcases(by omega:k=0∨k=1∨k=2∨k=3∨k=4)with rfl|rfl|rfl|rfl|rfl
   ·rcases K0.out with g|⟨g,g'⟩|⟨g,g',g''⟩|⟨g,g',g'',g3⟩|⟨g,g',g'',g3⟩
    ·go_wp2
     go_ret
     refine⟨rfl,?_⟩
     repeat(first|(with_reducible first|exact bLr)|((with_reducible first|refine bLs ?_ ?_ _|refine bLa ?_ ?_ _);·first|omega|(simp<;>omega))|with_reducible first|refine bLn ?_ _|refine bLd ?_)
    ·go_wp2
     go_ret
     refine⟨rfl,?_⟩
     repeat(first|(with_reducible first|exact bLr)|((with_reducible first|refine bLs ?_ ?_ _|refine bLa ?_ ?_ _);·first|omega|(simp<;>omega))|with_reducible first|refine bLn ?_ _|refine bLd ?_)
    ·go_wp2
     go_ret
     refine⟨rfl,?_⟩
     repeat(first|(with_reducible first|exact bLr)|((with_reducible first|refine bLs ?_ ?_ _|refine bLa ?_ ?_ _);·first|omega|(simp<;>omega))|with_reducible first|refine bLn ?_ _|refine bLd ?_)
    ·go_wp2
     go_ret
     refine⟨rfl,?_⟩
     repeat(first|(with_reducible first|exact bLr)|((with_reducible first|refine bLs ?_ ?_ _|refine bLa ?_ ?_ _);·first|omega|(simp<;>omega))|with_reducible first|refine bLn ?_ _|refine bLd ?_)
    ·go_wp2
     go_round
     case rel=>exact⟨1,by omega,rfl,by have:=hr.out;simp only[decide_eq_false_iff_not]at g g' g'' g3;unfold Hid;omega⟩
     case measure=>simp[intOf]
   ·rcases K1.out with g|⟨g,g'⟩|⟨g,g',g''⟩|⟨g,g',g'',g3⟩|⟨g,g',g'',g3⟩
    ·go_wp2
     go_ret
     refine⟨rfl,?_⟩
     repeat(first|(with_reducible first|exact bLr)|((with_reducible first|refine bLs ?_ ?_ _|refine bLa ?_ ?_ _);·first|omega|(simp<;>omega))|with_reducible first|refine bLn ?_ _|refine bLd ?_)
    ·go_wp2
     go_ret
     refine⟨rfl,?_⟩
     repeat(first|(with_reducible first|exact bLr)|((with_reducible first|refine bLs ?_ ?_ _|refine bLa ?_ ?_ _);·first|omega|(simp<;>omega))|with_reducible first|refine bLn ?_ _|refine bLd ?_)
    ·go_wp2
     go_ret
     refine⟨rfl,?_⟩
     repeat(first|(with_reducible first|exact bLr)|((with_reducible first|refine bLs ?_ ?_ _|refine bLa ?_ ?_ _);·first|omega|(simp<;>omega))|with_reducible first|refine bLn ?_ _|refine bLd ?_)
    ·go_wp2
     go_ret
     refine⟨rfl,?_⟩
     repeat(first|(with_reducible first|exact bLr)|((with_reducible first|refine bLs ?_ ?_ _|refine bLa ?_ ?_ _);·first|omega|(simp<;>omega))|with_reducible first|refine bLn ?_ _|refine bLd ?_)
    ·go_wp2
     go_round
     case rel=>exact⟨2,by omega,rfl,by have:=hr.out;simp only[decide_eq_false_iff_not]at g g' g'' g3;unfold Hid;omega⟩
     case measure=>simp[intOf]
   ·rcases K2.out with g|⟨g,g'⟩|⟨g,g',g''⟩|⟨g,g',g'',g3⟩|⟨g,g',g'',g3⟩
    ·go_wp2
     go_ret
     refine⟨rfl,?_⟩
     repeat(first|(with_reducible first|exact bLr)|((with_reducible first|refine bLs ?_ ?_ _|refine bLa ?_ ?_ _);·first|omega|(simp<;>omega))|with_reducible first|refine bLn ?_ _|refine bLd ?_)
    ·go_wp2
     go_ret
     refine⟨rfl,?_⟩
     repeat(first|(with_reducible first|exact bLr)|((with_reducible first|refine bLs ?_ ?_ _|refine bLa ?_ ?_ _);·first|omega|(simp<;>omega))|with_reducible first|refine bLn ?_ _|refine bLd ?_)
    ·go_wp2
     go_ret
     refine⟨rfl,?_⟩
     repeat(first|(with_reducible first|exact bLr)|((with_reducible first|refine bLs ?_ ?_ _|refine bLa ?_ ?_ _);·first|omega|(simp<;>omega))|with_reducible first|refine bLn ?_ _|refine bLd ?_)
    ·go_wp2
     go_ret
     refine⟨rfl,?_⟩
     repeat(first|(with_reducible first|exact bLr)|((with_reducible first|refine bLs ?_ ?_ _|refine bLa ?_ ?_ _);·first|omega|(simp<;>omega))|with_reducible first|refine bLn ?_ _|refine bLd ?_)
    ·go_wp2
     go_round
     case rel=>exact⟨3,by omega,rfl,by have:=hr.out;simp only[decide_eq_false_iff_not]at g g' g'' g3;unfold Hid;omega⟩
     case measure=>simp[intOf]
   ·rcases K3.out with g|⟨g,g'⟩|⟨g,g',g''⟩|⟨g,g',g'',g3⟩|⟨g,g',g'',g3⟩
    ·go_wp2
     go_ret
     refine⟨rfl,?_⟩
     repeat(first|(with_reducible first|exact bLr)|((with_reducible first|refine bLs ?_ ?_ _|refine bLa ?_ ?_ _);·first|omega|(simp<;>omega))|with_reducible first|refine bLn ?_ _|refine bLd ?_)
    ·go_wp2
     go_ret
     refine⟨rfl,?_⟩
     repeat(first|(with_reducible first|exact bLr)|((with_reducible first|refine bLs ?_ ?_ _|refine bLa ?_ ?_ _);·first|omega|(simp<;>omega))|with_reducible first|refine bLn ?_ _|refine bLd ?_)
    ·go_wp2
     go_ret
     refine⟨rfl,?_⟩
     repeat(first|(with_reducible first|exact bLr)|((with_reducible first|refine bLs ?_ ?_ _|refine bLa ?_ ?_ _);·first|omega|(simp<;>omega))|with_reducible first|refine bLn ?_ _|refine bLd ?_)
    ·go_wp2
     go_ret
     refine⟨rfl,?_⟩
     repeat(first|(with_reducible first|exact bLr)|((with_reducible first|refine bLs ?_ ?_ _|refine bLa ?_ ?_ _);·first|omega|(simp<;>omega))|with_reducible first|refine bLn ?_ _|refine bLd ?_)
    ·go_wp2
     go_round
     case rel=>exact⟨4,by omega,rfl,by have:=hr.out;simp only[decide_eq_false_iff_not]at g g' g'' g3;unfold Hid;omega⟩
     case measure=>simp[intOf]
   ·exact absurd (by have:=hr.out;unfold evenOk;omega) H.out
def offB (a b m:Int):Bool:=decide (m<a-b)||decide (m<b-a)
theorem off_any (a b m:Int) (w:World) (ha: -2147483648≤a∧a≤2147483647) (hb: -2147483648≤b∧b≤2147483647) (hm: -2147483648≤m∧m≤2147483647):
  Calls Tryz.prog 186 #[.int .i32 a,.int .i32 b,.int .i32 m] w fun e w'=>e=.returned (.bool (offB a b m))∧w=w':=by
 have hcase:(decide (m<a-b)=true∧offB a b m=true)∨((decide (m<a-b)=false∧decide (m< -(a-b))=true)∧offB a b m=true)∨((decide (m<a-b)=false∧decide (m< -(a-b))=false)∧offB a b m=false):=by
  unfold offB
  by_cases h1:m<a-b
  ·exact .inl ⟨decide_eq_true h1,by simp[h1]⟩
  ·by_cases h2:m<b-a
   ·exact .inr (.inl ⟨⟨decide_eq_false h1,decide_eq_true (by omega)⟩,by simp[h2]⟩)
   ·exact .inr (.inr ⟨⟨decide_eq_false h1,decide_eq_false (by omega)⟩,by simp[h1,h2]⟩)
 rcases hcase with⟨d1,hv⟩|⟨⟨d1,d2⟩,hv⟩|⟨⟨d1,d2⟩,hv⟩
 all_goals
  rw[hv];clear hv
  have hb: -4294967295≤a-b∧a-b≤4294967295:=by omega
  go_enter Tryz.func186,Tryz.ntmps186
  go_wp2
  go_ret
  exact⟨rfl,rfl⟩
abbrev watchV (m0 m1 m2 m3 m4 up down most:Int):Value:=.agg #[.int .i32 m0,.int .i32 m1,.int .i32 m2,.int .i32 m3,.int .i32 m4,.int .i64 up,.int .i64 down,.int .i64 most]
abbrev laneV (a b p m t f:Int) (v:Bool):Value:=.agg #[.int .i32 a,.int .i32 b,.int .i32 p,.int .i32 m,.int .i32 t,.int .i32 f,.bool v]
def forceB (f m:Int):Bool:=decide (m<sat32 (absI f))
def FiveAt (w:World) (b:Nat) (r0 r1 r2 r3 r4:Bool):Prop:=
 w.cell? ⟨b,0,none⟩=some (.bool r0)∧w.cell? ⟨b,1,none⟩=some (.bool r1)∧w.cell? ⟨b,2,none⟩=some (.bool r2)∧w.cell? ⟨b,3,none⟩=some (.bool r3)∧w.cell? ⟨b,4,none⟩=some (.bool r4)
theorem five_write {w:World} {b:Nat} {s0 s1 s2 s3 s4:Bool} (h:FiveAt w b s0 s1 s2 s3 s4) (r0 r1 r2 r3 r4:Bool):FiveAt (((((w.setCell ⟨b,0,none⟩ (.bool r0)).setCell ⟨b,1,none⟩ (.bool r1)).setCell ⟨b,2,none⟩ (.bool r2)).setCell ⟨b,3,none⟩ (.bool r3)).setCell ⟨b,4,none⟩ (.bool r4)) b r0 r1 r2 r3 r4:=by
 have ne:∀{x y:Nat},x≠y→(⟨b,x,none⟩:Addr)≠⟨b,y,none⟩:=fun hxy e=>hxy (congrArg Addr.off e)
 obtain⟨h0,h1,h2,h3,h4⟩:=h
 refine⟨?_,?_,?_,?_,?_⟩
 ·rw[World.cell?_setCell_other _ _ _ _ (ne (by omega)),World.cell?_setCell_other _ _ _ _ (ne (by omega)),World.cell?_setCell_other _ _ _ _ (ne (by omega)),World.cell?_setCell_other _ _ _ _ (ne (by omega))]
  exact World.cell?_setCell_same _ _ _ h0
 ·rw[World.cell?_setCell_other _ _ _ _ (ne (by omega)),World.cell?_setCell_other _ _ _ _ (ne (by omega)),World.cell?_setCell_other _ _ _ _ (ne (by omega))]
  exact World.cell?_setCell_same _ _ _ ((World.cell?_setCell_other _ _ _ _ (ne (by omega))).trans h1)
 ·rw[World.cell?_setCell_other _ _ _ _ (ne (by omega)),World.cell?_setCell_other _ _ _ _ (ne (by omega))]
  exact World.cell?_setCell_same _ _ _ ((World.cell?_setCell_other _ _ _ _ (ne (by omega))).trans ((World.cell?_setCell_other _ _ _ _ (ne (by omega))).trans h2))
 ·rw[World.cell?_setCell_other _ _ _ _ (ne (by omega))]
  exact World.cell?_setCell_same _ _ _ ((World.cell?_setCell_other _ _ _ _ (ne (by omega))).trans ((World.cell?_setCell_other _ _ _ _ (ne (by omega))).trans ((World.cell?_setCell_other _ _ _ _ (ne (by omega))).trans h3)))
 ·exact World.cell?_setCell_same _ _ _ ((World.cell?_setCell_other _ _ _ _ (ne (by omega))).trans ((World.cell?_setCell_other _ _ _ _ (ne (by omega))).trans ((World.cell?_setCell_other _ _ _ _ (ne (by omega))).trans ((World.cell?_setCell_other _ _ _ _ (ne (by omega))).trans h4))))
theorem five_below {w w0:World} {B b:Nat} (hB:Below B w0 w) (hb:B≤b) (r0 r1 r2 r3 r4:Bool):Below B w0 (((((w.setCell ⟨b,0,none⟩ (.bool r0)).setCell ⟨b,1,none⟩ (.bool r1)).setCell ⟨b,2,none⟩ (.bool r2)).setCell ⟨b,3,none⟩ (.bool r3)).setCell ⟨b,4,none⟩ (.bool r4)):=
 ((((hB.setCell hb _).setCell hb _).setCell hb _).setCell hb _).setCell hb _
def LookAt (w:World) (b0:Nat) (m0 m1 m2 m3 m4 a b p m t f:Int) (v:Bool):Prop:=
 w.cell? ⟨b0,0,none⟩=some (.int .i32 m0)∧w.cell? ⟨b0,1,none⟩=some (.int .i32 m1)∧w.cell? ⟨b0,2,none⟩=some (.int .i32 m2)∧w.cell? ⟨b0,3,none⟩=some (.int .i32 m3)∧
 w.cell? ⟨b0+1,0,none⟩=some (.int .i32 a)∧w.cell? ⟨b0+1,1,none⟩=some (.int .i32 b)∧w.cell? ⟨b0+1,2,none⟩=some (.int .i32 p)∧w.cell? ⟨b0+1,3,none⟩=some (.int .i32 m)∧
 w.cell? ⟨b0+1,4,none⟩=some (.int .i32 t)∧w.cell? ⟨b0+1,5,none⟩=some (.int .i32 f)∧w.cell? ⟨b0+1,6,none⟩=some (.bool v)∧
 w.cell? ⟨b0+1+1,0,none⟩=some (.bool false)∧w.cell? ⟨b0+1+1,1,none⟩=some (.bool false)∧w.cell? ⟨b0+1+1,2,none⟩=some (.bool false)∧w.cell? ⟨b0+1+1,3,none⟩=some (.bool false)∧w.cell? ⟨b0+1+1,4,none⟩=some (.bool false)∧
 b0+1+1<w.heap.size∧(∀o,w.frozen? ⟨b0+1+1,o,none⟩=false)
theorem abs_is (a g:Int) (w:World) (h:sat32 (absI a)=g) (ha: -2147483648≤a∧a≤2147483647):
  Calls Tryz.prog 151 #[.int .i32 a] w fun e w'=>e=.returned (.int .i32 g)∧w=w':=by rw[←h];exact abs_any a ha w
theorem look_is (m0 m1 m2 m3 m4 up down most a b p m t f:Int) (v r0 r1 r2 r3 r4:Bool) (w:World) (hm0: -2147483648≤m0∧m0≤2147483647) (hm1: -2147483648≤m1∧m1≤2147483647) (hm2: -2147483648≤m2∧m2≤2147483647) (hm3: -2147483648≤m3∧m3≤2147483647) (hm4: -2147483648≤m4∧m4≤2147483647) (ha: -2147483648≤a∧a≤2147483647) (hb: -2147483648≤b∧b≤2147483647) (hp: -2147483648≤p∧p≤2147483647) (hm: -2147483648≤m∧m≤2147483647) (ht: -2147483648≤t∧t≤2147483647) (hf: -2147483648≤f∧f≤2147483647) (e0:offB a b m0=r0) (e1:offB p m m1=r1) (e2:offB p t m2=r2) (e3:forceB f m3=r3) (e4:(!v)=r4):
  Calls Tryz.prog 168 #[watchV m0 m1 m2 m3 m4 up down most,laneV a b p m t f v] w fun e w'=>e=.returned (.agg #[.bool r0,.bool r1,.bool r2,.bool r3,.bool r4])∧Below w.heap.size w w':=by
 have E0:=qh e0;have E1:=qh e1;have E2:=qh e2;have E3:=qh e3;have E4:=qh e4
 obtain⟨g,hg⟩:∃g,sat32 (absI f)=g:=⟨_,rfl⟩
 have hgb: -2147483648≤g∧g≤2147483647:=by rw[←hg];exact sat32_bd _
 have HG:=qh hg
 have hr3:decide (m3<g)=r3:=by rw[←e3,←hg];rfl
 have HR3:=qh hr3
 clear e0 e1 e2 e3 e4 hg hr3
 have hcells:LookAt (((w.alloc (.cells #[.int .i32 m0,.int .i32 m1,.int .i32 m2,.int .i32 m3,.int .i32 m4,.int .i64 up,.int .i64 down,.int .i64 most] 44)).alloc (.cells #[.int .i32 a,.int .i32 b,.int .i32 p,.int .i32 m,.int .i32 t,.int .i32 f,.bool v] 247)).alloc (.cells #[.bool false,.bool false,.bool false,.bool false,.bool false] 270)) w.heap.size m0 m1 m2 m3 m4 a b p m t f v:=⟨by go_simp,by go_simp,by go_simp,by go_simp,by go_simp,by go_simp,by go_simp,by go_simp,by go_simp,by go_simp,by go_simp,by go_simp,by go_simp,by go_simp,by go_simp,by go_simp,by go_simp,fun o=>by go_simp⟩
 have hB:Below w.heap.size w (((w.alloc (.cells #[.int .i32 m0,.int .i32 m1,.int .i32 m2,.int .i32 m3,.int .i32 m4,.int .i64 up,.int .i64 down,.int .i64 most] 44)).alloc (.cells #[.int .i32 a,.int .i32 b,.int .i32 p,.int .i32 m,.int .i32 t,.int .i32 f,.bool v] 247)).alloc (.cells #[.bool false,.bool false,.bool false,.bool false,.bool false] 270)):=by repeat(first|(with_reducible first|exact bLr)|((with_reducible first|refine bLs ?_ ?_ _|refine bLa ?_ ?_ _);·first|omega|(simp<;>omega))|with_reducible first|refine bLn ?_ _|refine bLd ?_)
 have HB:=qh hB;have HC:=qh hcells
 clear hB hcells
 go_enter Tryz.func168,Tryz.ntmps168
 go_wp2
 generalize((w.alloc (.cells #[.int .i32 m0,.int .i32 m1,.int .i32 m2,.int .i32 m3,.int .i32 m4,.int .i64 up,.int .i64 down,.int .i64 most] 44)).alloc (.cells #[.int .i32 a,.int .i32 b,.int .i32 p,.int .i32 m,.int .i32 t,.int .i32 f,.bool v] 247)).alloc (.cells #[.bool false,.bool false,.bool false,.bool false,.bool false] 270)=W0 at *
 obtain⟨c0,c1,c2,c3,d0,d1,d2,d3,d4,d5,d6,g0,g1,g2,g3,g4,gz,gf⟩:=HC.out
 refine wp_region_still_tail 35 (by kernel_rfl) (by kernel_rfl) ?_
 simp only[List.take_succ_cons,List.take_zero,List.drop_succ_cons,List.drop_zero]
 repeat still_step
 still_call (stillL (off_any _ _ _ _ ha hb hm0))
 repeat still_step
 still_call (stillL (off_any _ _ _ _ hp hm hm1))
 repeat still_step
 still_call (stillL (off_any _ _ _ _ hp ht hm2))
 repeat still_step
 still_call (stillL (abs_is _ _ _ HG.out hf))
 repeat still_step
 refine wpStill_nil ?_
 change wpList _ _ _ _ _ W0.drew
 rw[E0.out,E1.out,E2.out,HR3.out,E4.out]
 go_wp2
 have hW:=five_write (w:=W0) ⟨g0,g1,g2,g3,g4⟩ r0 r1 r2 r3 r4
 have hB9:=five_below (w:=W0) HB.out (show w.heap.size≤w.heap.size+1+1 by omega) r0 r1 r2 r3 r4
 obtain⟨x0,x1,x2,x3,x4⟩:=hW
 clear c0 c1 c2 c3 d0 d1 d2 d3 d4 d5 d6 g0 g1 g2 g3 g4 gf
 generalize((((W0.setCell _ _).setCell _ _).setCell _ _).setCell _ _).setCell _ _=w9 at x0 x1 x2 x3 x4 hB9⊢
 exact bodyPost_ret (v:=.agg #[.bool r0,.bool r1,.bool r2,.bool r3,.bool r4]) (by simp[results,Tryz.results168,go_sem,x0,x1,x2,x3,x4]) rfl ⟨rfl,hB9.drew⟩
end Go.Proofs.YtpkiepjmcepnoaaGreatDoor
