/- A part of a proof. -/
import Derived.RegionTactic
import Derived.Deep.RegionHeld3
import Derived.Deep.RegionLaw
import Derived.Deep.DeepCutAuto
import Derived.Test.YtpkiepjmcepnoaaGreatDoorPtC
set_option maxHeartbeats 16000000
set_option maxRecDepth 100000
namespace Go.Proofs.YtpkiepjmcepnoaaGreatDoor
open Go.ChangeShapes Go.WideShapes Go.ChangeAt Go.RowKit
set_option linter.unusedVariables false
abbrev Cnts:=Nat→Int×Bool
abbrev cntsV (C:Cnts):Value:=.agg #[.int .i64 (C 0).1,.bool (C 0).2,.int .i64 (C 1).1,.bool (C 1).2,.int .i64 (C 2).1,.bool (C 2).2,.int .i64 (C 3).1,.bool (C 3).2,.int .i64 (C 4).1,.bool (C 4).2]
def CntsAt (w:World) (b:Nat) (C:Cnts):Prop:=
 (∀k,k<5→w.cell? ⟨b,2*k,none⟩=some (.int .i64 (C k).1)∧w.cell? ⟨b,2*k+1,none⟩=some (.bool (C k).2))∧∀o,w.frozen? ⟨b,o,none⟩=false
theorem CntsAt.lt {w:World} {b:Nat} {C:Cnts} (h:CntsAt w b C):b<w.heap.size:=by
 have:=World.block_lt_of_cell? _ _ (h.1 0 (by omega)).1
 simpa using this
theorem CntsAt.later {w w':World} {b B:Nat} {C:Cnts} (h:CntsAt w b C) (hB:Below B w w') (hb:b<B):CntsAt w' b C:=
 ⟨fun k hk=>⟨(hB.cell hb).trans (h.1 k hk).1,(hB.cell hb).trans (h.1 k hk).2⟩,fun o=>(hB.frozen hb).trans (h.2 o)⟩
def PerAt (w:World) (b:Nat) (up down most:Int):Prop:=w.cell? ⟨b,5,none⟩=some (.int .i64 up)∧w.cell? ⟨b,6,none⟩=some (.int .i64 down)∧w.cell? ⟨b,7,none⟩=some (.int .i64 most)
theorem PerAt.lt {w:World} {b:Nat} {x y z:Int} (h:PerAt w b x y z):b<w.heap.size:=by
 have:=World.block_lt_of_cell? _ _ h.1
 simpa using this
theorem PerAt.later {w w':World} {b B:Nat} {x y z:Int} (h:PerAt w b x y z) (hB:Below B w w') (hb:b<B):PerAt w' b x y z:=
 ⟨(hB.cell hb).trans h.1,(hB.cell hb).trans h.2.1,(hB.cell hb).trans h.2.2⟩
def WatchRel (w:World) (C:Cnts) (up down most:Int) (i:Value) (wr:World):Prop:=
 ∃k:Nat,k≤5∧i=.int .i64 k∧PerAt wr w.heap.size up down most∧CntsAt wr (w.heap.size+1) C∧Below w.heap.size w wr
def sel5 (m0 m1 m2 m3 m4:Int):Nat→Int|0=>m0|1=>m1|2=>m2|3=>m3|_=>m4
def Lapse (m0 m1 m2 m3 m4 up down most:Int) (C:Cnts) (j:Nat):Prop:=¬(0≤sel5 m0 m1 m2 m3 m4 j∧CountOk up down most (C j).1)
def NotCnt (up down most n:Int):Prop:=¬CountOk up down most n
theorem Lapse.ways {m0 m1 m2 m3 m4 up down most:Int} {C:Cnts} {j:Nat} (h:Lapse m0 m1 m2 m3 m4 up down most C j):sel5 m0 m1 m2 m3 m4 j<0∨(0≤sel5 m0 m1 m2 m3 m4 j∧NotCnt up down most (C j).1):=by
 by_cases h1:sel5 m0 m1 m2 m3 m4 j<0
 ·exact .inl h1
 ·exact .inr ⟨by omega,fun hc=>h ⟨by omega,hc⟩⟩
def CheckRel (w:World) (C:Cnts) (up down most:Int) (j:Nat) (i:Value) (wr:World):Prop:=
 ∃k:Nat,k≤j∧i=.int .i64 k∧PerAt wr w.heap.size up down most∧CntsAt wr (w.heap.size+1) C∧Below w.heap.size w wr
theorem watchCheck_yes (m0 m1 m2 m3 m4 up down most:Int) (C:Cnts) (w:World) (hm:0≤m0∧0≤m1∧0≤m2∧0≤m3∧0≤m4) (hC:∀k,k<5→CountOk up down most (C k).1):
  Calls Tryz.prog 27 #[watchV m0 m1 m2 m3 m4 up down most,cntsV C] w fun e w'=>e=.returned (.int .i64 0)∧Below w.heap.size w w':=by
 have HC:=qh hC
 obtain⟨hm0,hm1,hm2,hm3,hm4⟩:=hm
 have d0:decide (m0<0)=false:=decide_eq_false (by omega)
 have d1:decide (m1<0)=false:=decide_eq_false (by omega)
 have d2:decide (m2<0)=false:=decide_eq_false (by omega)
 have d3:decide (m3<0)=false:=decide_eq_false (by omega)
 have d4:decide (m4<0)=false:=decide_eq_false (by omega)
 have ix0:∀w:World,(Instr.index 40 (.agg #[.int .i32 m0,.int .i32 m1,.int .i32 m2,.int .i32 m3,.int .i32 m4]) (.int .i64 0)).run Tryz.prog w=.ok (.int .i32 m0) w:=fun _=>by kernel_rfl
 have ix1:∀w:World,(Instr.index 40 (.agg #[.int .i32 m0,.int .i32 m1,.int .i32 m2,.int .i32 m3,.int .i32 m4]) (.int .i64 1)).run Tryz.prog w=.ok (.int .i32 m1) w:=fun _=>by kernel_rfl
 have ix2:∀w:World,(Instr.index 40 (.agg #[.int .i32 m0,.int .i32 m1,.int .i32 m2,.int .i32 m3,.int .i32 m4]) (.int .i64 2)).run Tryz.prog w=.ok (.int .i32 m2) w:=fun _=>by kernel_rfl
 have ix3:∀w:World,(Instr.index 40 (.agg #[.int .i32 m0,.int .i32 m1,.int .i32 m2,.int .i32 m3,.int .i32 m4]) (.int .i64 3)).run Tryz.prog w=.ok (.int .i32 m3) w:=fun _=>by kernel_rfl
 have ix4:∀w:World,(Instr.index 40 (.agg #[.int .i32 m0,.int .i32 m1,.int .i32 m2,.int .i32 m3,.int .i32 m4]) (.int .i64 4)).run Tryz.prog w=.ok (.int .i32 m4) w:=fun _=>by kernel_rfl
 clear hC hm0 hm1 hm2 hm3 hm4
 go_enter Tryz.func27,Tryz.ntmps27
 go_wp2
 have W0:PerAt ((w.alloc (.cells #[.int .i32 m0,.int .i32 m1,.int .i32 m2,.int .i32 m3,.int .i32 m4,.int .i64 up,.int .i64 down,.int .i64 most] 44)).alloc (.cells #[.int .i64 (C 0).1,.bool (C 0).2,.int .i64 (C 1).1,.bool (C 1).2,.int .i64 (C 2).1,.bool (C 2).2,.int .i64 (C 3).1,.bool (C 3).2,.int .i64 (C 4).1,.bool (C 4).2] 86)) w.heap.size up down most:=⟨by go_simp,by go_simp,by go_simp⟩
 have C0:CntsAt ((w.alloc (.cells #[.int .i32 m0,.int .i32 m1,.int .i32 m2,.int .i32 m3,.int .i32 m4,.int .i64 up,.int .i64 down,.int .i64 most] 44)).alloc (.cells #[.int .i64 (C 0).1,.bool (C 0).2,.int .i64 (C 1).1,.bool (C 1).2,.int .i64 (C 2).1,.bool (C 2).2,.int .i64 (C 3).1,.bool (C 3).2,.int .i64 (C 4).1,.bool (C 4).2] 86)) (w.heap.size+1) C:=⟨fun k hk=>(by rcases(by omega:k=0∨k=1∨k=2∨k=3∨k=4)with rfl|rfl|rfl|rfl|rfl<;>exact⟨by go_simp,by go_simp⟩),fun o=>by go_simp⟩
 have B0:Below w.heap.size w ((w.alloc (.cells #[.int .i32 m0,.int .i32 m1,.int .i32 m2,.int .i32 m3,.int .i32 m4,.int .i64 up,.int .i64 down,.int .i64 most] 44)).alloc (.cells #[.int .i64 (C 0).1,.bool (C 0).2,.int .i64 (C 1).1,.bool (C 1).2,.int .i64 (C 2).1,.bool (C 2).2,.int .i64 (C 3).1,.bool (C 3).2,.int .i64 (C 4).1,.bool (C 4).2] 86)):=by repeat(first|(with_reducible first|exact bLr)|((with_reducible first|refine bLs ?_ ?_ _|refine bLa ?_ ?_ _);·first|omega|(simp<;>omega))|with_reducible first|refine bLn ?_ _|refine bLd ?_)
 have HW0:=qh W0;have HC0:=qh C0;have HB0:=qh B0
 clear W0 C0 B0
 go_loopw [10] (fun i wr=>WatchRel w C up down most i wr) (fun i _=>5-(intOf i).toNat)
 case atStart=>exact⟨0,by omega,rfl,HW0.out,HC0.out,HB0.out⟩
 case round=>
  obtain⟨k,hk,rfl,hP,hS,hB⟩:=hrel
  have HP:=qh hP;have HS:=qh hS;have HB:=qh hB
  have y0:=hP.lt;have y1:=hS.lt
  obtain⟨p0,p1,p2⟩:=hP
  rcases(by omega:k=0∨k=1∨k=2∨k=3∨k=4∨k=5)with rfl|rfl|rfl|rfl|rfl|rfl
  ·have OK:=qh (HC.out 0 (by omega))
   obtain⟨s0,s1⟩:=hS.1 0 (by omega)
   change wr.cell? ⟨w.heap.size+1,0,none⟩=_ at s0
   change wr.cell? ⟨w.heap.size+1,1,none⟩=_ at s1
   rw[show((0:Nat):Int)=0 from rfl]
   clear hS hB
   generalize hcn:(C 0).1=n at *
   generalize hcs:(C 0).2=s at *
   go_wp2
   go_region_held3 (fun w'=>w'.cell? ⟨w.heap.size,5,none⟩=some (.int .i64 up)∧w'.cell? ⟨w.heap.size,6,none⟩=some (.int .i64 down)∧w'.cell? ⟨w.heap.size,7,none⟩=some (.int .i64 most)∧w'.cell? ⟨w.heap.size+1,0,none⟩=some (.int .i64 n)∧w'.cell? ⟨w.heap.size+1,1,none⟩=some (.bool s)) (first|exact⟨p0,p1,p2,s0,s1⟩|exact⟨q0,q1,q2,q3,q4⟩) ((go_at_call 52;refine(countCheck_yes _ _ _ _ _ _ OK.out).mono ?_;rintro e5 w5 ⟨rfl,hb5⟩;have q0:=cell_later hb5 p0;have q1:=cell_later hb5 p1;have q2:=cell_later hb5 p2;have q3:=cell_later hb5 s0;have q4:=cell_later hb5 s1))
   have A5:Below wr.heap.size wr w5:=⟨hb5.os,hb5.tape,hb5.output,hb5.size,hb5.block⟩
   clear q0 q1 q2 q3 q4 p0 p1 p2 s0 s1 hb5
   go_wp2
   go_roundw
   case rel=>exact⟨1,by omega,rfl,HP.out.later A5 y0,HS.out.later A5 y1,HB.out.trans (A5.mono HB.out.size)⟩
   case measure=>simp[intOf]
  ·have OK:=qh (HC.out 1 (by omega))
   obtain⟨s0,s1⟩:=hS.1 1 (by omega)
   change wr.cell? ⟨w.heap.size+1,2,none⟩=_ at s0
   change wr.cell? ⟨w.heap.size+1,3,none⟩=_ at s1
   rw[show((1:Nat):Int)=1 from rfl]
   clear hS hB
   generalize hcn:(C 1).1=n at *
   generalize hcs:(C 1).2=s at *
   go_wp2
   go_region_held3 (fun w'=>w'.cell? ⟨w.heap.size,5,none⟩=some (.int .i64 up)∧w'.cell? ⟨w.heap.size,6,none⟩=some (.int .i64 down)∧w'.cell? ⟨w.heap.size,7,none⟩=some (.int .i64 most)∧w'.cell? ⟨w.heap.size+1,2,none⟩=some (.int .i64 n)∧w'.cell? ⟨w.heap.size+1,3,none⟩=some (.bool s)) (first|exact⟨p0,p1,p2,s0,s1⟩|exact⟨q0,q1,q2,q3,q4⟩) ((go_at_call 52;refine(countCheck_yes _ _ _ _ _ _ OK.out).mono ?_;rintro e5 w5 ⟨rfl,hb5⟩;have q0:=cell_later hb5 p0;have q1:=cell_later hb5 p1;have q2:=cell_later hb5 p2;have q3:=cell_later hb5 s0;have q4:=cell_later hb5 s1))
   have A5:Below wr.heap.size wr w5:=⟨hb5.os,hb5.tape,hb5.output,hb5.size,hb5.block⟩
   clear q0 q1 q2 q3 q4 p0 p1 p2 s0 s1 hb5
   go_wp2
   go_roundw
   case rel=>exact⟨2,by omega,rfl,HP.out.later A5 y0,HS.out.later A5 y1,HB.out.trans (A5.mono HB.out.size)⟩
   case measure=>simp[intOf]
  ·have OK:=qh (HC.out 2 (by omega))
   obtain⟨s0,s1⟩:=hS.1 2 (by omega)
   change wr.cell? ⟨w.heap.size+1,4,none⟩=_ at s0
   change wr.cell? ⟨w.heap.size+1,5,none⟩=_ at s1
   rw[show((2:Nat):Int)=2 from rfl]
   clear hS hB
   generalize hcn:(C 2).1=n at *
   generalize hcs:(C 2).2=s at *
   go_wp2
   go_region_held3 (fun w'=>w'.cell? ⟨w.heap.size,5,none⟩=some (.int .i64 up)∧w'.cell? ⟨w.heap.size,6,none⟩=some (.int .i64 down)∧w'.cell? ⟨w.heap.size,7,none⟩=some (.int .i64 most)∧w'.cell? ⟨w.heap.size+1,4,none⟩=some (.int .i64 n)∧w'.cell? ⟨w.heap.size+1,5,none⟩=some (.bool s)) (first|exact⟨p0,p1,p2,s0,s1⟩|exact⟨q0,q1,q2,q3,q4⟩) ((go_at_call 52;refine(countCheck_yes _ _ _ _ _ _ OK.out).mono ?_;rintro e5 w5 ⟨rfl,hb5⟩;have q0:=cell_later hb5 p0;have q1:=cell_later hb5 p1;have q2:=cell_later hb5 p2;have q3:=cell_later hb5 s0;have q4:=cell_later hb5 s1))
   have A5:Below wr.heap.size wr w5:=⟨hb5.os,hb5.tape,hb5.output,hb5.size,hb5.block⟩
   clear q0 q1 q2 q3 q4 p0 p1 p2 s0 s1 hb5
   go_wp2
   go_roundw
   case rel=>exact⟨3,by omega,rfl,HP.out.later A5 y0,HS.out.later A5 y1,HB.out.trans (A5.mono HB.out.size)⟩
   case measure=>simp[intOf]
  ·have OK:=qh (HC.out 3 (by omega))
   obtain⟨s0,s1⟩:=hS.1 3 (by omega)
   change wr.cell? ⟨w.heap.size+1,6,none⟩=_ at s0
   change wr.cell? ⟨w.heap.size+1,7,none⟩=_ at s1
   rw[show((3:Nat):Int)=3 from rfl]
   clear hS hB
   generalize hcn:(C 3).1=n at *
   generalize hcs:(C 3).2=s at *
   go_wp2
   go_region_held3 (fun w'=>w'.cell? ⟨w.heap.size,5,none⟩=some (.int .i64 up)∧w'.cell? ⟨w.heap.size,6,none⟩=some (.int .i64 down)∧w'.cell? ⟨w.heap.size,7,none⟩=some (.int .i64 most)∧w'.cell? ⟨w.heap.size+1,6,none⟩=some (.int .i64 n)∧w'.cell? ⟨w.heap.size+1,7,none⟩=some (.bool s)) (first|exact⟨p0,p1,p2,s0,s1⟩|exact⟨q0,q1,q2,q3,q4⟩) ((go_at_call 52;refine(countCheck_yes _ _ _ _ _ _ OK.out).mono ?_;rintro e5 w5 ⟨rfl,hb5⟩;have q0:=cell_later hb5 p0;have q1:=cell_later hb5 p1;have q2:=cell_later hb5 p2;have q3:=cell_later hb5 s0;have q4:=cell_later hb5 s1))
   have A5:Below wr.heap.size wr w5:=⟨hb5.os,hb5.tape,hb5.output,hb5.size,hb5.block⟩
   clear q0 q1 q2 q3 q4 p0 p1 p2 s0 s1 hb5
   go_wp2
   go_roundw
   case rel=>exact⟨4,by omega,rfl,HP.out.later A5 y0,HS.out.later A5 y1,HB.out.trans (A5.mono HB.out.size)⟩
   case measure=>simp[intOf]
  ·have OK:=qh (HC.out 4 (by omega))
   obtain⟨s0,s1⟩:=hS.1 4 (by omega)
   change wr.cell? ⟨w.heap.size+1,8,none⟩=_ at s0
   change wr.cell? ⟨w.heap.size+1,9,none⟩=_ at s1
   rw[show((4:Nat):Int)=4 from rfl]
   clear hS hB
   generalize hcn:(C 4).1=n at *
   generalize hcs:(C 4).2=s at *
   go_wp2
   go_region_held3 (fun w'=>w'.cell? ⟨w.heap.size,5,none⟩=some (.int .i64 up)∧w'.cell? ⟨w.heap.size,6,none⟩=some (.int .i64 down)∧w'.cell? ⟨w.heap.size,7,none⟩=some (.int .i64 most)∧w'.cell? ⟨w.heap.size+1,8,none⟩=some (.int .i64 n)∧w'.cell? ⟨w.heap.size+1,9,none⟩=some (.bool s)) (first|exact⟨p0,p1,p2,s0,s1⟩|exact⟨q0,q1,q2,q3,q4⟩) ((go_at_call 52;refine(countCheck_yes _ _ _ _ _ _ OK.out).mono ?_;rintro e5 w5 ⟨rfl,hb5⟩;have q0:=cell_later hb5 p0;have q1:=cell_later hb5 p1;have q2:=cell_later hb5 p2;have q3:=cell_later hb5 s0;have q4:=cell_later hb5 s1))
   have A5:Below wr.heap.size wr w5:=⟨hb5.os,hb5.tape,hb5.output,hb5.size,hb5.block⟩
   clear q0 q1 q2 q3 q4 p0 p1 p2 s0 s1 hb5
   go_wp2
   go_roundw
   case rel=>exact⟨5,by omega,rfl,HP.out.later A5 y0,HS.out.later A5 y1,HB.out.trans (A5.mono HB.out.size)⟩
   case measure=>simp[intOf]
  ·rw[show((5:Nat):Int)=5 from rfl]
   go_wp2
   go_ret
   exact⟨rfl,hB⟩
theorem watchCheck_no (m0 m1 m2 m3 m4 up down most:Int) (C:Cnts) (w:World) (j:Nat) (hj:j<5) (hC:∀k,k<j→0≤sel5 m0 m1 m2 m3 m4 k∧CountOk up down most (C k).1) (hN:¬(0≤sel5 m0 m1 m2 m3 m4 j∧CountOk up down most (C j).1)):
  Calls Tryz.prog 27 #[watchV m0 m1 m2 m3 m4 up down most,cntsV C] w fun e w'=>e=.returned (.int .i64 1)∧Below w.heap.size w w':=by
 have HC:=qh hC
 have HN:Lapse m0 m1 m2 m3 m4 up down most C j:=hN
 have ix0:∀w:World,(Instr.index 40 (.agg #[.int .i32 m0,.int .i32 m1,.int .i32 m2,.int .i32 m3,.int .i32 m4]) (.int .i64 0)).run Tryz.prog w=.ok (.int .i32 m0) w:=fun _=>by kernel_rfl
 have ix1:∀w:World,(Instr.index 40 (.agg #[.int .i32 m0,.int .i32 m1,.int .i32 m2,.int .i32 m3,.int .i32 m4]) (.int .i64 1)).run Tryz.prog w=.ok (.int .i32 m1) w:=fun _=>by kernel_rfl
 have ix2:∀w:World,(Instr.index 40 (.agg #[.int .i32 m0,.int .i32 m1,.int .i32 m2,.int .i32 m3,.int .i32 m4]) (.int .i64 2)).run Tryz.prog w=.ok (.int .i32 m2) w:=fun _=>by kernel_rfl
 have ix3:∀w:World,(Instr.index 40 (.agg #[.int .i32 m0,.int .i32 m1,.int .i32 m2,.int .i32 m3,.int .i32 m4]) (.int .i64 3)).run Tryz.prog w=.ok (.int .i32 m3) w:=fun _=>by kernel_rfl
 have ix4:∀w:World,(Instr.index 40 (.agg #[.int .i32 m0,.int .i32 m1,.int .i32 m2,.int .i32 m3,.int .i32 m4]) (.int .i64 4)).run Tryz.prog w=.ok (.int .i32 m4) w:=fun _=>by kernel_rfl
 clear hC hN
 go_enter Tryz.func27,Tryz.ntmps27
 go_wp2
 have W0:PerAt ((w.alloc (.cells #[.int .i32 m0,.int .i32 m1,.int .i32 m2,.int .i32 m3,.int .i32 m4,.int .i64 up,.int .i64 down,.int .i64 most] 44)).alloc (.cells #[.int .i64 (C 0).1,.bool (C 0).2,.int .i64 (C 1).1,.bool (C 1).2,.int .i64 (C 2).1,.bool (C 2).2,.int .i64 (C 3).1,.bool (C 3).2,.int .i64 (C 4).1,.bool (C 4).2] 86)) w.heap.size up down most:=⟨by go_simp,by go_simp,by go_simp⟩
 have C0:CntsAt ((w.alloc (.cells #[.int .i32 m0,.int .i32 m1,.int .i32 m2,.int .i32 m3,.int .i32 m4,.int .i64 up,.int .i64 down,.int .i64 most] 44)).alloc (.cells #[.int .i64 (C 0).1,.bool (C 0).2,.int .i64 (C 1).1,.bool (C 1).2,.int .i64 (C 2).1,.bool (C 2).2,.int .i64 (C 3).1,.bool (C 3).2,.int .i64 (C 4).1,.bool (C 4).2] 86)) (w.heap.size+1) C:=⟨fun k hk=>(by rcases(by omega:k=0∨k=1∨k=2∨k=3∨k=4)with rfl|rfl|rfl|rfl|rfl<;>exact⟨by go_simp,by go_simp⟩),fun o=>by go_simp⟩
 have B0:Below w.heap.size w ((w.alloc (.cells #[.int .i32 m0,.int .i32 m1,.int .i32 m2,.int .i32 m3,.int .i32 m4,.int .i64 up,.int .i64 down,.int .i64 most] 44)).alloc (.cells #[.int .i64 (C 0).1,.bool (C 0).2,.int .i64 (C 1).1,.bool (C 1).2,.int .i64 (C 2).1,.bool (C 2).2,.int .i64 (C 3).1,.bool (C 3).2,.int .i64 (C 4).1,.bool (C 4).2] 86)):=by repeat(first|(with_reducible first|exact bLr)|((with_reducible first|refine bLs ?_ ?_ _|refine bLa ?_ ?_ _);·first|omega|(simp<;>omega))|with_reducible first|refine bLn ?_ _|refine bLd ?_)
 have HW0:=qh W0;have HC0:=qh C0;have HB0:=qh B0
 clear W0 C0 B0
 go_loopw [10] (fun i wr=>CheckRel w C up down most j i wr) (fun i _=>5-(intOf i).toNat)
 case atStart=>exact⟨0,by omega,rfl,HW0.out,HC0.out,HB0.out⟩
 case round=>
  obtain⟨k,hk,rfl,hP,hS,hB⟩:=hrel
  have HP:=qh hP;have HS:=qh hS;have HB:=qh hB
  have y0:=hP.lt;have y1:=hS.lt
  obtain⟨p0,p1,p2⟩:=hP
  rcases(by omega:k=0∨k=1∨k=2∨k=3∨k=4)with rfl|rfl|rfl|rfl|rfl
  ·rcases(by omega:0<j∨j=0)with hlt|rfl
   ·have hok:=HC.out 0 hlt
    have hmk:0≤m0:=hok.1
    have dk:decide (m0<0)=false:=decide_eq_false (by omega)
    have OK:=qh hok.2
    clear hok hmk
    obtain⟨s0,s1⟩:=hS.1 0 (by omega)
    change wr.cell? ⟨w.heap.size+1,0,none⟩=_ at s0
    change wr.cell? ⟨w.heap.size+1,1,none⟩=_ at s1
    rw[show((0:Nat):Int)=0 from rfl]
    clear hS hB hk
    generalize hcn:(C 0).1=n at *
    generalize hcs:(C 0).2=s at *
    go_wp2
    go_region_held3 (fun w'=>w'.cell? ⟨w.heap.size,5,none⟩=some (.int .i64 up)∧w'.cell? ⟨w.heap.size,6,none⟩=some (.int .i64 down)∧w'.cell? ⟨w.heap.size,7,none⟩=some (.int .i64 most)∧w'.cell? ⟨w.heap.size+1,0,none⟩=some (.int .i64 n)∧w'.cell? ⟨w.heap.size+1,1,none⟩=some (.bool s)) (first|exact⟨p0,p1,p2,s0,s1⟩|exact⟨q0,q1,q2,q3,q4⟩) ((go_at_call 52;refine(countCheck_yes _ _ _ _ _ _ OK.out).mono ?_;rintro e5 w5 ⟨rfl,hb5⟩;have q0:=cell_later hb5 p0;have q1:=cell_later hb5 p1;have q2:=cell_later hb5 p2;have q3:=cell_later hb5 s0;have q4:=cell_later hb5 s1))
    have A5:Below wr.heap.size wr w5:=⟨hb5.os,hb5.tape,hb5.output,hb5.size,hb5.block⟩
    clear q0 q1 q2 q3 q4 p0 p1 p2 s0 s1 hb5
    go_wp2
    go_roundw
    case rel=>exact⟨1,by omega,rfl,HP.out.later A5 y0,HS.out.later A5 y1,HB.out.trans (A5.mono HB.out.size)⟩
    case measure=>simp[intOf]
   ·rcases HN.ways with hmk|⟨hmk,hno⟩
    ·have dk:decide (m0<0)=true:=decide_eq_true (show m0<0 from hmk)
     clear hmk
     obtain⟨s0,s1⟩:=hS.1 0 (by omega)
     change wr.cell? ⟨w.heap.size+1,0,none⟩=_ at s0
     change wr.cell? ⟨w.heap.size+1,1,none⟩=_ at s1
     rw[show((0:Nat):Int)=0 from rfl]
     clear hS hB hk
     generalize hcn:(C 0).1=n at *
     generalize hcs:(C 0).2=s at *
     go_wp2
     go_ret
     exact⟨rfl,HB.out⟩
    ·have hmk':0≤m0:=hmk
     have dk:decide (m0<0)=false:=decide_eq_false (by omega)
     have OK:NotCnt up down most (C 0).1:=hno
     clear hmk hmk' hno
     obtain⟨s0,s1⟩:=hS.1 0 (by omega)
     change wr.cell? ⟨w.heap.size+1,0,none⟩=_ at s0
     change wr.cell? ⟨w.heap.size+1,1,none⟩=_ at s1
     rw[show((0:Nat):Int)=0 from rfl]
     clear hS hB hk
     generalize hcn:(C 0).1=n at *
     generalize hcs:(C 0).2=s at *
     go_wp2
     go_region_held3 (fun w'=>w'.cell? ⟨w.heap.size,5,none⟩=some (.int .i64 up)∧w'.cell? ⟨w.heap.size,6,none⟩=some (.int .i64 down)∧w'.cell? ⟨w.heap.size,7,none⟩=some (.int .i64 most)∧w'.cell? ⟨w.heap.size+1,0,none⟩=some (.int .i64 n)∧w'.cell? ⟨w.heap.size+1,1,none⟩=some (.bool s)) (first|exact⟨p0,p1,p2,s0,s1⟩|exact⟨q0,q1,q2,q3,q4⟩) ((go_at_call 52;refine(countCheck_no _ _ _ _ _ _ OK).mono ?_;rintro e5 w5 ⟨rfl,hb5⟩;have q0:=cell_later hb5 p0;have q1:=cell_later hb5 p1;have q2:=cell_later hb5 p2;have q3:=cell_later hb5 s0;have q4:=cell_later hb5 s1))
     have A5:Below wr.heap.size wr w5:=⟨hb5.os,hb5.tape,hb5.output,hb5.size,hb5.block⟩
     clear q0 q1 q2 q3 q4 p0 p1 p2 s0 s1 hb5
     go_wp2
     go_ret
     exact⟨rfl,HB.out.trans (A5.mono HB.out.size)⟩
  ·rcases(by omega:1<j∨j=1)with hlt|rfl
   ·have hok:=HC.out 1 hlt
    have hmk:0≤m1:=hok.1
    have dk:decide (m1<0)=false:=decide_eq_false (by omega)
    have OK:=qh hok.2
    clear hok hmk
    obtain⟨s0,s1⟩:=hS.1 1 (by omega)
    change wr.cell? ⟨w.heap.size+1,2,none⟩=_ at s0
    change wr.cell? ⟨w.heap.size+1,3,none⟩=_ at s1
    rw[show((1:Nat):Int)=1 from rfl]
    clear hS hB hk
    generalize hcn:(C 1).1=n at *
    generalize hcs:(C 1).2=s at *
    go_wp2
    go_region_held3 (fun w'=>w'.cell? ⟨w.heap.size,5,none⟩=some (.int .i64 up)∧w'.cell? ⟨w.heap.size,6,none⟩=some (.int .i64 down)∧w'.cell? ⟨w.heap.size,7,none⟩=some (.int .i64 most)∧w'.cell? ⟨w.heap.size+1,2,none⟩=some (.int .i64 n)∧w'.cell? ⟨w.heap.size+1,3,none⟩=some (.bool s)) (first|exact⟨p0,p1,p2,s0,s1⟩|exact⟨q0,q1,q2,q3,q4⟩) ((go_at_call 52;refine(countCheck_yes _ _ _ _ _ _ OK.out).mono ?_;rintro e5 w5 ⟨rfl,hb5⟩;have q0:=cell_later hb5 p0;have q1:=cell_later hb5 p1;have q2:=cell_later hb5 p2;have q3:=cell_later hb5 s0;have q4:=cell_later hb5 s1))
    have A5:Below wr.heap.size wr w5:=⟨hb5.os,hb5.tape,hb5.output,hb5.size,hb5.block⟩
    clear q0 q1 q2 q3 q4 p0 p1 p2 s0 s1 hb5
    go_wp2
    go_roundw
    case rel=>exact⟨2,by omega,rfl,HP.out.later A5 y0,HS.out.later A5 y1,HB.out.trans (A5.mono HB.out.size)⟩
    case measure=>simp[intOf]
   ·rcases HN.ways with hmk|⟨hmk,hno⟩
    ·have dk:decide (m1<0)=true:=decide_eq_true (show m1<0 from hmk)
     clear hmk
     obtain⟨s0,s1⟩:=hS.1 1 (by omega)
     change wr.cell? ⟨w.heap.size+1,2,none⟩=_ at s0
     change wr.cell? ⟨w.heap.size+1,3,none⟩=_ at s1
     rw[show((1:Nat):Int)=1 from rfl]
     clear hS hB hk
     generalize hcn:(C 1).1=n at *
     generalize hcs:(C 1).2=s at *
     go_wp2
     go_ret
     exact⟨rfl,HB.out⟩
    ·have hmk':0≤m1:=hmk
     have dk:decide (m1<0)=false:=decide_eq_false (by omega)
     have OK:NotCnt up down most (C 1).1:=hno
     clear hmk hmk' hno
     obtain⟨s0,s1⟩:=hS.1 1 (by omega)
     change wr.cell? ⟨w.heap.size+1,2,none⟩=_ at s0
     change wr.cell? ⟨w.heap.size+1,3,none⟩=_ at s1
     rw[show((1:Nat):Int)=1 from rfl]
     clear hS hB hk
     generalize hcn:(C 1).1=n at *
     generalize hcs:(C 1).2=s at *
     go_wp2
     go_region_held3 (fun w'=>w'.cell? ⟨w.heap.size,5,none⟩=some (.int .i64 up)∧w'.cell? ⟨w.heap.size,6,none⟩=some (.int .i64 down)∧w'.cell? ⟨w.heap.size,7,none⟩=some (.int .i64 most)∧w'.cell? ⟨w.heap.size+1,2,none⟩=some (.int .i64 n)∧w'.cell? ⟨w.heap.size+1,3,none⟩=some (.bool s)) (first|exact⟨p0,p1,p2,s0,s1⟩|exact⟨q0,q1,q2,q3,q4⟩) ((go_at_call 52;refine(countCheck_no _ _ _ _ _ _ OK).mono ?_;rintro e5 w5 ⟨rfl,hb5⟩;have q0:=cell_later hb5 p0;have q1:=cell_later hb5 p1;have q2:=cell_later hb5 p2;have q3:=cell_later hb5 s0;have q4:=cell_later hb5 s1))
     have A5:Below wr.heap.size wr w5:=⟨hb5.os,hb5.tape,hb5.output,hb5.size,hb5.block⟩
     clear q0 q1 q2 q3 q4 p0 p1 p2 s0 s1 hb5
     go_wp2
     go_ret
     exact⟨rfl,HB.out.trans (A5.mono HB.out.size)⟩
  ·rcases(by omega:2<j∨j=2)with hlt|rfl
   ·have hok:=HC.out 2 hlt
    have hmk:0≤m2:=hok.1
    have dk:decide (m2<0)=false:=decide_eq_false (by omega)
    have OK:=qh hok.2
    clear hok hmk
    obtain⟨s0,s1⟩:=hS.1 2 (by omega)
    change wr.cell? ⟨w.heap.size+1,4,none⟩=_ at s0
    change wr.cell? ⟨w.heap.size+1,5,none⟩=_ at s1
    rw[show((2:Nat):Int)=2 from rfl]
    clear hS hB hk
    generalize hcn:(C 2).1=n at *
    generalize hcs:(C 2).2=s at *
    go_wp2
    go_region_held3 (fun w'=>w'.cell? ⟨w.heap.size,5,none⟩=some (.int .i64 up)∧w'.cell? ⟨w.heap.size,6,none⟩=some (.int .i64 down)∧w'.cell? ⟨w.heap.size,7,none⟩=some (.int .i64 most)∧w'.cell? ⟨w.heap.size+1,4,none⟩=some (.int .i64 n)∧w'.cell? ⟨w.heap.size+1,5,none⟩=some (.bool s)) (first|exact⟨p0,p1,p2,s0,s1⟩|exact⟨q0,q1,q2,q3,q4⟩) ((go_at_call 52;refine(countCheck_yes _ _ _ _ _ _ OK.out).mono ?_;rintro e5 w5 ⟨rfl,hb5⟩;have q0:=cell_later hb5 p0;have q1:=cell_later hb5 p1;have q2:=cell_later hb5 p2;have q3:=cell_later hb5 s0;have q4:=cell_later hb5 s1))
    have A5:Below wr.heap.size wr w5:=⟨hb5.os,hb5.tape,hb5.output,hb5.size,hb5.block⟩
    clear q0 q1 q2 q3 q4 p0 p1 p2 s0 s1 hb5
    go_wp2
    go_roundw
    case rel=>exact⟨3,by omega,rfl,HP.out.later A5 y0,HS.out.later A5 y1,HB.out.trans (A5.mono HB.out.size)⟩
    case measure=>simp[intOf]
   ·rcases HN.ways with hmk|⟨hmk,hno⟩
    ·have dk:decide (m2<0)=true:=decide_eq_true (show m2<0 from hmk)
     clear hmk
     obtain⟨s0,s1⟩:=hS.1 2 (by omega)
     change wr.cell? ⟨w.heap.size+1,4,none⟩=_ at s0
     change wr.cell? ⟨w.heap.size+1,5,none⟩=_ at s1
     rw[show((2:Nat):Int)=2 from rfl]
     clear hS hB hk
     generalize hcn:(C 2).1=n at *
     generalize hcs:(C 2).2=s at *
     go_wp2
     go_ret
     exact⟨rfl,HB.out⟩
    ·have hmk':0≤m2:=hmk
     have dk:decide (m2<0)=false:=decide_eq_false (by omega)
     have OK:NotCnt up down most (C 2).1:=hno
     clear hmk hmk' hno
     obtain⟨s0,s1⟩:=hS.1 2 (by omega)
     change wr.cell? ⟨w.heap.size+1,4,none⟩=_ at s0
     change wr.cell? ⟨w.heap.size+1,5,none⟩=_ at s1
     rw[show((2:Nat):Int)=2 from rfl]
     clear hS hB hk
     generalize hcn:(C 2).1=n at *
     generalize hcs:(C 2).2=s at *
     go_wp2
     go_region_held3 (fun w'=>w'.cell? ⟨w.heap.size,5,none⟩=some (.int .i64 up)∧w'.cell? ⟨w.heap.size,6,none⟩=some (.int .i64 down)∧w'.cell? ⟨w.heap.size,7,none⟩=some (.int .i64 most)∧w'.cell? ⟨w.heap.size+1,4,none⟩=some (.int .i64 n)∧w'.cell? ⟨w.heap.size+1,5,none⟩=some (.bool s)) (first|exact⟨p0,p1,p2,s0,s1⟩|exact⟨q0,q1,q2,q3,q4⟩) ((go_at_call 52;refine(countCheck_no _ _ _ _ _ _ OK).mono ?_;rintro e5 w5 ⟨rfl,hb5⟩;have q0:=cell_later hb5 p0;have q1:=cell_later hb5 p1;have q2:=cell_later hb5 p2;have q3:=cell_later hb5 s0;have q4:=cell_later hb5 s1))
     have A5:Below wr.heap.size wr w5:=⟨hb5.os,hb5.tape,hb5.output,hb5.size,hb5.block⟩
     clear q0 q1 q2 q3 q4 p0 p1 p2 s0 s1 hb5
     go_wp2
     go_ret
     exact⟨rfl,HB.out.trans (A5.mono HB.out.size)⟩
  ·rcases(by omega:3<j∨j=3)with hlt|rfl
   ·have hok:=HC.out 3 hlt
    have hmk:0≤m3:=hok.1
    have dk:decide (m3<0)=false:=decide_eq_false (by omega)
    have OK:=qh hok.2
    clear hok hmk
    obtain⟨s0,s1⟩:=hS.1 3 (by omega)
    change wr.cell? ⟨w.heap.size+1,6,none⟩=_ at s0
    change wr.cell? ⟨w.heap.size+1,7,none⟩=_ at s1
    rw[show((3:Nat):Int)=3 from rfl]
    clear hS hB hk
    generalize hcn:(C 3).1=n at *
    generalize hcs:(C 3).2=s at *
    go_wp2
    go_region_held3 (fun w'=>w'.cell? ⟨w.heap.size,5,none⟩=some (.int .i64 up)∧w'.cell? ⟨w.heap.size,6,none⟩=some (.int .i64 down)∧w'.cell? ⟨w.heap.size,7,none⟩=some (.int .i64 most)∧w'.cell? ⟨w.heap.size+1,6,none⟩=some (.int .i64 n)∧w'.cell? ⟨w.heap.size+1,7,none⟩=some (.bool s)) (first|exact⟨p0,p1,p2,s0,s1⟩|exact⟨q0,q1,q2,q3,q4⟩) ((go_at_call 52;refine(countCheck_yes _ _ _ _ _ _ OK.out).mono ?_;rintro e5 w5 ⟨rfl,hb5⟩;have q0:=cell_later hb5 p0;have q1:=cell_later hb5 p1;have q2:=cell_later hb5 p2;have q3:=cell_later hb5 s0;have q4:=cell_later hb5 s1))
    have A5:Below wr.heap.size wr w5:=⟨hb5.os,hb5.tape,hb5.output,hb5.size,hb5.block⟩
    clear q0 q1 q2 q3 q4 p0 p1 p2 s0 s1 hb5
    go_wp2
    go_roundw
    case rel=>exact⟨4,by omega,rfl,HP.out.later A5 y0,HS.out.later A5 y1,HB.out.trans (A5.mono HB.out.size)⟩
    case measure=>simp[intOf]
   ·rcases HN.ways with hmk|⟨hmk,hno⟩
    ·have dk:decide (m3<0)=true:=decide_eq_true (show m3<0 from hmk)
     clear hmk
     obtain⟨s0,s1⟩:=hS.1 3 (by omega)
     change wr.cell? ⟨w.heap.size+1,6,none⟩=_ at s0
     change wr.cell? ⟨w.heap.size+1,7,none⟩=_ at s1
     rw[show((3:Nat):Int)=3 from rfl]
     clear hS hB hk
     generalize hcn:(C 3).1=n at *
     generalize hcs:(C 3).2=s at *
     go_wp2
     go_ret
     exact⟨rfl,HB.out⟩
    ·have hmk':0≤m3:=hmk
     have dk:decide (m3<0)=false:=decide_eq_false (by omega)
     have OK:NotCnt up down most (C 3).1:=hno
     clear hmk hmk' hno
     obtain⟨s0,s1⟩:=hS.1 3 (by omega)
     change wr.cell? ⟨w.heap.size+1,6,none⟩=_ at s0
     change wr.cell? ⟨w.heap.size+1,7,none⟩=_ at s1
     rw[show((3:Nat):Int)=3 from rfl]
     clear hS hB hk
     generalize hcn:(C 3).1=n at *
     generalize hcs:(C 3).2=s at *
     go_wp2
     go_region_held3 (fun w'=>w'.cell? ⟨w.heap.size,5,none⟩=some (.int .i64 up)∧w'.cell? ⟨w.heap.size,6,none⟩=some (.int .i64 down)∧w'.cell? ⟨w.heap.size,7,none⟩=some (.int .i64 most)∧w'.cell? ⟨w.heap.size+1,6,none⟩=some (.int .i64 n)∧w'.cell? ⟨w.heap.size+1,7,none⟩=some (.bool s)) (first|exact⟨p0,p1,p2,s0,s1⟩|exact⟨q0,q1,q2,q3,q4⟩) ((go_at_call 52;refine(countCheck_no _ _ _ _ _ _ OK).mono ?_;rintro e5 w5 ⟨rfl,hb5⟩;have q0:=cell_later hb5 p0;have q1:=cell_later hb5 p1;have q2:=cell_later hb5 p2;have q3:=cell_later hb5 s0;have q4:=cell_later hb5 s1))
     have A5:Below wr.heap.size wr w5:=⟨hb5.os,hb5.tape,hb5.output,hb5.size,hb5.block⟩
     clear q0 q1 q2 q3 q4 p0 p1 p2 s0 s1 hb5
     go_wp2
     go_ret
     exact⟨rfl,HB.out.trans (A5.mono HB.out.size)⟩
  ·rcases(by omega:4<j∨j=4)with hlt|rfl
   ·have hok:=HC.out 4 hlt
    have hmk:0≤m4:=hok.1
    have dk:decide (m4<0)=false:=decide_eq_false (by omega)
    have OK:=qh hok.2
    clear hok hmk
    obtain⟨s0,s1⟩:=hS.1 4 (by omega)
    change wr.cell? ⟨w.heap.size+1,8,none⟩=_ at s0
    change wr.cell? ⟨w.heap.size+1,9,none⟩=_ at s1
    rw[show((4:Nat):Int)=4 from rfl]
    clear hS hB hk
    generalize hcn:(C 4).1=n at *
    generalize hcs:(C 4).2=s at *
    go_wp2
    go_region_held3 (fun w'=>w'.cell? ⟨w.heap.size,5,none⟩=some (.int .i64 up)∧w'.cell? ⟨w.heap.size,6,none⟩=some (.int .i64 down)∧w'.cell? ⟨w.heap.size,7,none⟩=some (.int .i64 most)∧w'.cell? ⟨w.heap.size+1,8,none⟩=some (.int .i64 n)∧w'.cell? ⟨w.heap.size+1,9,none⟩=some (.bool s)) (first|exact⟨p0,p1,p2,s0,s1⟩|exact⟨q0,q1,q2,q3,q4⟩) ((go_at_call 52;refine(countCheck_yes _ _ _ _ _ _ OK.out).mono ?_;rintro e5 w5 ⟨rfl,hb5⟩;have q0:=cell_later hb5 p0;have q1:=cell_later hb5 p1;have q2:=cell_later hb5 p2;have q3:=cell_later hb5 s0;have q4:=cell_later hb5 s1))
    have A5:Below wr.heap.size wr w5:=⟨hb5.os,hb5.tape,hb5.output,hb5.size,hb5.block⟩
    clear q0 q1 q2 q3 q4 p0 p1 p2 s0 s1 hb5
    go_wp2
    go_roundw
    case rel=>exact⟨5,by omega,rfl,HP.out.later A5 y0,HS.out.later A5 y1,HB.out.trans (A5.mono HB.out.size)⟩
    case measure=>simp[intOf]
   ·rcases HN.ways with hmk|⟨hmk,hno⟩
    ·have dk:decide (m4<0)=true:=decide_eq_true (show m4<0 from hmk)
     clear hmk
     obtain⟨s0,s1⟩:=hS.1 4 (by omega)
     change wr.cell? ⟨w.heap.size+1,8,none⟩=_ at s0
     change wr.cell? ⟨w.heap.size+1,9,none⟩=_ at s1
     rw[show((4:Nat):Int)=4 from rfl]
     clear hS hB hk
     generalize hcn:(C 4).1=n at *
     generalize hcs:(C 4).2=s at *
     go_wp2
     go_ret
     exact⟨rfl,HB.out⟩
    ·have hmk':0≤m4:=hmk
     have dk:decide (m4<0)=false:=decide_eq_false (by omega)
     have OK:NotCnt up down most (C 4).1:=hno
     clear hmk hmk' hno
     obtain⟨s0,s1⟩:=hS.1 4 (by omega)
     change wr.cell? ⟨w.heap.size+1,8,none⟩=_ at s0
     change wr.cell? ⟨w.heap.size+1,9,none⟩=_ at s1
     rw[show((4:Nat):Int)=4 from rfl]
     clear hS hB hk
     generalize hcn:(C 4).1=n at *
     generalize hcs:(C 4).2=s at *
     go_wp2
     go_region_held3 (fun w'=>w'.cell? ⟨w.heap.size,5,none⟩=some (.int .i64 up)∧w'.cell? ⟨w.heap.size,6,none⟩=some (.int .i64 down)∧w'.cell? ⟨w.heap.size,7,none⟩=some (.int .i64 most)∧w'.cell? ⟨w.heap.size+1,8,none⟩=some (.int .i64 n)∧w'.cell? ⟨w.heap.size+1,9,none⟩=some (.bool s)) (first|exact⟨p0,p1,p2,s0,s1⟩|exact⟨q0,q1,q2,q3,q4⟩) ((go_at_call 52;refine(countCheck_no _ _ _ _ _ _ OK).mono ?_;rintro e5 w5 ⟨rfl,hb5⟩;have q0:=cell_later hb5 p0;have q1:=cell_later hb5 p1;have q2:=cell_later hb5 p2;have q3:=cell_later hb5 s0;have q4:=cell_later hb5 s1))
     have A5:Below wr.heap.size wr w5:=⟨hb5.os,hb5.tape,hb5.output,hb5.size,hb5.block⟩
     clear q0 q1 q2 q3 q4 p0 p1 p2 s0 s1 hb5
     go_wp2
     go_ret
     exact⟨rfl,HB.out.trans (A5.mono HB.out.size)⟩
def tkC (C C':Cnts) (k:Nat):Cnts:=fun j=>if j<k then C' j else C j
def anyI (C:Cnts):Nat→Bool|0=>false|k+1=>anyI C k||(C k).2
def zeroC:Cnts:=fun _=>(0,false)
theorem tkC_zero (C C':Cnts):tkC C C' 0=C:=by funext j;simp[tkC]
theorem tkC_at (C C':Cnts) (k:Nat):tkC C C' k k=C k:=by simp[tkC]
theorem tkC_now {C C':Cnts} {k:Nat} {x:Int} {y:Bool} (e:C' k=(x,y)):(tkC C C' (k+1) k).2=y:=by simp[tkC,e]
theorem cnts_all {w:World} {b:Nat} {C C':Cnts} (h:CntsAt w b (tkC C C' 5)):CntsAt w b C':=
 ⟨fun k hk=>by have:=h.1 k hk;simp only[tkC,if_pos hk]at this;exact this,h.2⟩
theorem cnts_set {w:World} {b k:Nat} {C C':Cnts} (h:CntsAt w b (tkC C C' k)) (hk:k<5) {x:Int} {y:Bool} (e:C' k=(x,y)):
  CntsAt ((w.setCell ⟨b,2*k,none⟩ (.int .i64 x)).setCell ⟨b,2*k+1,none⟩ (.bool y)) b (tkC C C' (k+1)):=by
 have ne:∀{x y:Nat},x≠y→(⟨b,x,none⟩:Addr)≠⟨b,y,none⟩:=fun hxy e=>hxy (congrArg Addr.off e)
 refine⟨fun j hj=>?_,fun o=>by simp only[World.frozen?_setCell];exact h.2 o⟩
 have hj':=h.1 j hj
 by_cases hjk:j=k
 ·subst hjk
  have e1:tkC C C' (j+1) j=(x,y):=by simp[tkC,e]
  rw[e1]
  exact⟨by rw[World.cell?_setCell_other _ _ _ _ (ne (by omega))];exact World.cell?_setCell_same _ _ _ hj'.1,World.cell?_setCell_same _ _ _ ((World.cell?_setCell_other _ _ _ _ (ne (by omega))).trans hj'.2)⟩
 ·have e1:tkC C C' (k+1) j=tkC C C' k j:=by
   unfold tkC
   by_cases h1:j<k
   ·rw[if_pos h1,if_pos (by omega)]
   ·rw[if_neg h1,if_neg (by omega)]
  rw[e1]
  exact⟨by rw[World.cell?_setCell_other _ _ _ _ (ne (by omega)),World.cell?_setCell_other _ _ _ _ (ne (by omega))];exact hj'.1,by rw[World.cell?_setCell_other _ _ _ _ (ne (by omega)),World.cell?_setCell_other _ _ _ _ (ne (by omega))];exact hj'.2⟩
theorem cnts_fill {w:World} {b:Nat} {C:Cnts} (h:CntsAt w b C) (C':Cnts):
  CntsAt ((((((((((w.setCell ⟨b,0,none⟩ (.int .i64 (C' 0).1)).setCell ⟨b,1,none⟩ (.bool (C' 0).2)).setCell ⟨b,2,none⟩ (.int .i64 (C' 1).1)).setCell ⟨b,3,none⟩ (.bool (C' 1).2)).setCell ⟨b,4,none⟩ (.int .i64 (C' 2).1)).setCell ⟨b,5,none⟩ (.bool (C' 2).2)).setCell ⟨b,6,none⟩ (.int .i64 (C' 3).1)).setCell ⟨b,7,none⟩ (.bool (C' 3).2)).setCell ⟨b,8,none⟩ (.int .i64 (C' 4).1)).setCell ⟨b,9,none⟩ (.bool (C' 4).2)) b C':=by
 have h0:CntsAt w b (tkC C C' 0):=by rw[tkC_zero];exact h
 have h1:=cnts_set (C':=C') h0 (by omega) (x:=(C' 0).1) (y:=(C' 0).2) rfl
 have h2:=cnts_set (C':=C') h1 (by omega) (x:=(C' 1).1) (y:=(C' 1).2) rfl
 have h3:=cnts_set (C':=C') h2 (by omega) (x:=(C' 2).1) (y:=(C' 2).2) rfl
 have h4:=cnts_set (C':=C') h3 (by omega) (x:=(C' 3).1) (y:=(C' 3).2) rfl
 have h5:=cnts_set (C':=C') h4 (by omega) (x:=(C' 4).1) (y:=(C' 4).2) rfl
 exact cnts_all h5
theorem fill_below {w w0:World} {B b:Nat} (hB:Below B w0 w) (hb:B≤b) (v0 v1 v2 v3 v4 v5 v6 v7 v8 v9:Value):
  Below B w0 ((((((((((w.setCell ⟨b,0,none⟩ v0).setCell ⟨b,1,none⟩ v1).setCell ⟨b,2,none⟩ v2).setCell ⟨b,3,none⟩ v3).setCell ⟨b,4,none⟩ v4).setCell ⟨b,5,none⟩ v5).setCell ⟨b,6,none⟩ v6).setCell ⟨b,7,none⟩ v7).setCell ⟨b,8,none⟩ v8).setCell ⟨b,9,none⟩ v9):=
 (((((((((hB.setCell hb _).setCell hb _).setCell hb _).setCell hb _).setCell hb _).setCell hb _).setCell hb _).setCell hb _).setCell hb _).setCell hb _
def StepRel (w:World) (C C':Cnts) (up down most:Int) (y i:Value) (wr:World):Prop:=
 ∃k:Nat,k≤5∧y=.bool (anyI C' k)∧i=.int .i64 k∧PerAt wr w.heap.size up down most∧CntsAt wr (w.heap.size+1) (tkC C C' k)∧CntsAt wr (w.heap.size+1+1+1) zeroC∧Below w.heap.size w wr
theorem CntsAt.other2 {w:World} {b c:Nat} {C:Cnts} (h:CntsAt w b C) (e:b≠c) (x y:Nat) (u v:Value):CntsAt ((w.setCell ⟨c,x,none⟩ u).setCell ⟨c,y,none⟩ v) b C:=by
 have nb:∀(x z:Nat),(⟨c,x,none⟩:Addr)≠⟨b,z,none⟩:=fun x z h=>e (congrArg Addr.block h).symm
 refine⟨fun k hk=>⟨?_,?_⟩,fun o=>by simp only[World.frozen?_setCell];exact h.2 o⟩
 ·rw[World.cell?_setCell_other _ _ _ _ (nb _ _),World.cell?_setCell_other _ _ _ _ (nb _ _)];exact(h.1 k hk).1
 ·rw[World.cell?_setCell_other _ _ _ _ (nb _ _),World.cell?_setCell_other _ _ _ _ (nb _ _)];exact(h.1 k hk).2
theorem PerAt.other2 {w:World} {b c:Nat} {p q r:Int} (h:PerAt w b p q r) (e:b≠c) (x y:Nat) (u v:Value):PerAt ((w.setCell ⟨c,x,none⟩ u).setCell ⟨c,y,none⟩ v) b p q r:=by
 have nb:∀(x z:Nat),(⟨c,x,none⟩:Addr)≠⟨b,z,none⟩:=fun x z h=>e (congrArg Addr.block h).symm
 refine⟨?_,?_,?_⟩
 ·rw[World.cell?_setCell_other _ _ _ _ (nb _ _),World.cell?_setCell_other _ _ _ _ (nb _ _)];exact h.1
 ·rw[World.cell?_setCell_other _ _ _ _ (nb _ _),World.cell?_setCell_other _ _ _ _ (nb _ _)];exact h.2.1
 ·rw[World.cell?_setCell_other _ _ _ _ (nb _ _),World.cell?_setCell_other _ _ _ _ (nb _ _)];exact h.2.2
def stepsTo (up down most:Int) (C C':Cnts) (k:Nat) (r:Bool):Prop:=C' k=(cntN up down most (C k).1 r,cntS up down most (C k).1 (C k).2 r)
theorem watchStep_yes (m0 m1 m2 m3 m4 up down most a b p m t f:Int) (v r0 r1 r2 r3 r4:Bool) (C C':Cnts) (w:World) (hm0: -2147483648≤m0∧m0≤2147483647) (hm1: -2147483648≤m1∧m1≤2147483647) (hm2: -2147483648≤m2∧m2≤2147483647) (hm3: -2147483648≤m3∧m3≤2147483647) (hm4: -2147483648≤m4∧m4≤2147483647) (ha: -2147483648≤a∧a≤2147483647) (hb: -2147483648≤b∧b≤2147483647) (hp: -2147483648≤p∧p≤2147483647) (hm: -2147483648≤m∧m≤2147483647) (ht: -2147483648≤t∧t≤2147483647) (hf: -2147483648≤f∧f≤2147483647) (e0:offB a b m0=r0) (e1:offB p m m1=r1) (e2:offB p t m2=r2) (e3:forceB f m3=r3) (e4:(!v)=r4)
  (hm:0≤m0∧0≤m1∧0≤m2∧0≤m3∧0≤m4) (hC:∀k,k<5→CountOk up down most (C k).1) (k0:stepsTo up down most C C' 0 r0) (k1:stepsTo up down most C C' 1 r1) (k2:stepsTo up down most C C' 2 r2) (k3:stepsTo up down most C C' 3 r3) (k4:stepsTo up down most C C' 4 r4):
  Calls Tryz.prog 152 #[watchV m0 m1 m2 m3 m4 up down most,cntsV C,laneV a b p m t f v] w fun e w'=>e=.returned (.tuple #[cntsV C',.bool (anyI C' 5),.int .i64 0])∧Below w.heap.size w w':=by
 have HC:=qh hC;have HM:=qh hm
 have E0:=qh e0;have E1:=qh e1;have E2:=qh e2;have E3:=qh e3;have E4:=qh e4
 have K0:=qh k0;have K1:=qh k1;have K2:=qh k2;have K3:=qh k3;have K4:=qh k4
 clear hC hm e0 e1 e2 e3 e4 k0 k1 k2 k3 k4
 have ix0:∀w:World,(Instr.index 270 (.agg #[.bool r0,.bool r1,.bool r2,.bool r3,.bool r4]) (.int .i64 0)).run Tryz.prog w=.ok (.bool r0) w:=fun _=>by kernel_rfl
 have ix1:∀w:World,(Instr.index 270 (.agg #[.bool r0,.bool r1,.bool r2,.bool r3,.bool r4]) (.int .i64 1)).run Tryz.prog w=.ok (.bool r1) w:=fun _=>by kernel_rfl
 have ix2:∀w:World,(Instr.index 270 (.agg #[.bool r0,.bool r1,.bool r2,.bool r3,.bool r4]) (.int .i64 2)).run Tryz.prog w=.ok (.bool r2) w:=fun _=>by kernel_rfl
 have ix3:∀w:World,(Instr.index 270 (.agg #[.bool r0,.bool r1,.bool r2,.bool r3,.bool r4]) (.int .i64 3)).run Tryz.prog w=.ok (.bool r3) w:=fun _=>by kernel_rfl
 have ix4:∀w:World,(Instr.index 270 (.agg #[.bool r0,.bool r1,.bool r2,.bool r3,.bool r4]) (.int .i64 4)).run Tryz.prog w=.ok (.bool r4) w:=fun _=>by kernel_rfl
 go_enter Tryz.func152,Tryz.ntmps152
 go_wp2_with fail
 refine(watchCheck_yes _ _ _ _ _ _ _ _ _ _ HM.out HC.out).mono ?_
 rintro e1 w1 ⟨rfl,hb1⟩
 have zb:=hb1.size
 try(simp at zb)
 have a0:w1.cell? ⟨w.heap.size,0,none⟩=some (.int .i32 m0):=cell_later hb1 (by go_simp)
 have a1:w1.cell? ⟨w.heap.size,1,none⟩=some (.int .i32 m1):=cell_later hb1 (by go_simp)
 have a2:w1.cell? ⟨w.heap.size,2,none⟩=some (.int .i32 m2):=cell_later hb1 (by go_simp)
 have a3:w1.cell? ⟨w.heap.size,3,none⟩=some (.int .i32 m3):=cell_later hb1 (by go_simp)
 have a4:w1.cell? ⟨w.heap.size,4,none⟩=some (.int .i32 m4):=cell_later hb1 (by go_simp)
 have P1:PerAt w1 w.heap.size up down most:=⟨cell_later hb1 (by go_simp),cell_later hb1 (by go_simp),cell_later hb1 (by go_simp)⟩
 have S1:CntsAt w1 (w.heap.size+1) C:=⟨fun k hk=>(by rcases(by omega:k=0∨k=1∨k=2∨k=3∨k=4)with rfl|rfl|rfl|rfl|rfl<;>exact⟨cell_later hb1 (by go_simp),cell_later hb1 (by go_simp)⟩),fun o=>by rw[hb1.frozen (by first|omega|(simp<;>omega))];go_simp⟩
 have l0:w1.cell? ⟨w.heap.size+1+1,0,none⟩=some (.int .i32 a):=cell_later hb1 (by go_simp)
 have l1:w1.cell? ⟨w.heap.size+1+1,1,none⟩=some (.int .i32 b):=cell_later hb1 (by go_simp)
 have l2:w1.cell? ⟨w.heap.size+1+1,2,none⟩=some (.int .i32 p):=cell_later hb1 (by go_simp)
 have l3:w1.cell? ⟨w.heap.size+1+1,3,none⟩=some (.int .i32 m):=cell_later hb1 (by go_simp)
 have l4:w1.cell? ⟨w.heap.size+1+1,4,none⟩=some (.int .i32 t):=cell_later hb1 (by go_simp)
 have l5:w1.cell? ⟨w.heap.size+1+1,5,none⟩=some (.int .i32 f):=cell_later hb1 (by go_simp)
 have l6:w1.cell? ⟨w.heap.size+1+1,6,none⟩=some (.bool v):=cell_later hb1 (by go_simp)
 have Z1:CntsAt w1 (w.heap.size+1+1+1) zeroC:=⟨fun k hk=>(by rcases(by omega:k=0∨k=1∨k=2∨k=3∨k=4)with rfl|rfl|rfl|rfl|rfl<;>exact⟨cell_later hb1 (by go_simp;rfl),cell_later hb1 (by go_simp;rfl)⟩),fun o=>by rw[hb1.frozen (by first|omega|(simp<;>omega))];go_simp⟩
 have B1:Below w.heap.size w w1:=by repeat(first|(with_reducible first|exact bLr)|((with_reducible first|refine bLs ?_ ?_ _|refine bLt hb1 ?_ ?_|refine bLa ?_ ?_ _);·first|omega|(simp<;>omega))|with_reducible first|refine bLn ?_ _|refine bLd ?_)
 have HP1:=qh P1;have HS1:=qh S1;have HZ1:=qh Z1;have HB1:=qh B1
 have y3:=Z1.lt
 have y0:w.heap.size<w1.heap.size:=by omega
 have y1:w.heap.size+1<w1.heap.size:=by omega
 have y2:w.heap.size+1+1<w1.heap.size:=by omega
 obtain⟨a5,a6,a7⟩:=P1
 clear hb1 S1 Z1 B1 zb
 go_wp2_with fail
 refine(look_is m0 m1 m2 m3 m4 up down most a b p m t f v r0 r1 r2 r3 r4 _ hm0 hm1 hm2 hm3 hm4 ha hb hp hm ht hf E0.out E1.out E2.out E3.out E4.out).mono ?_
 rintro e2 w2 ⟨rfl,hb2⟩
 have A2:Below w1.heap.size w1 w2:=⟨hb2.os,hb2.tape,hb2.output,hb2.size,hb2.block⟩
 have HP2:=qh (HP1.out.later A2 y0);have HS2:=qh (HS1.out.later A2 y1);have HZ2:=qh (HZ1.out.later A2 y3);have HB2:=qh (HB1.out.trans (A2.mono HB1.out.size))
 clear hb2 A2 a0 a1 a2 a3 a4 a5 a6 a7 l0 l1 l2 l3 l4 l5 l6 HP1 HS1 HZ1 HB1 y0 y1 y2 y3
 go_wp2
 go_loopw [10,23] (fun y i wr=>StepRel w C C' up down most y i wr) (fun _ i _=>5-(intOf i).toNat)
 case atStart=>exact⟨0,by omega,rfl,rfl,HP2.out,by rw[tkC_zero];exact HS2.out,HZ2.out,HB2.out⟩
 case round=>
  obtain⟨k,hk,rfl,rfl,hP,hS,hZ,hB⟩:=hrel
  have HP:=qh hP;have HS:=qh hS;have HZ:=qh hZ;have HB:=qh hB
  have y0:=hP.lt;have y1:=hS.lt;have y3:=hZ.lt
  obtain⟨p0,p1,p2⟩:=hP
  clear hB
  rcases(by omega:k=0∨k=1∨k=2∨k=3∨k=4∨k=5)with rfl|rfl|rfl|rfl|rfl|rfl
  ·have OK:=qh (HC.out 0 (by omega))
   have hst:=K0.out
   unfold stepsTo at hst
   obtain⟨s0,s1⟩:=hS.1 0 (by omega)
   rw[tkC_at]at s0 s1
   have sf:=hS.2
   change wr.cell? ⟨w.heap.size+1,0,none⟩=_ at s0
   change wr.cell? ⟨w.heap.size+1,1,none⟩=_ at s1
   rw[show((0:Nat):Int)=0 from rfl]
   have HY:Hid (anyI C' 1=(anyI C' 0||(C' 0).2)):=(rfl:anyI C' 1=(anyI C' 0||(C' 0).2))
   clear hS hZ hk
   generalize hcn:(C 0).1=n at *
   generalize hcs:(C 0).2=s at *
   obtain⟨n',hn'⟩:∃n',cntN up down most n r0=n':=⟨_,rfl⟩
   obtain⟨s',hs'⟩:∃s',cntS up down most n s r0=s':=⟨_,rfl⟩
   rw[hn',hs']at hst
   rw[hst]at HY
   have HN:=qh hn';have HSS:=qh hs';have HST:=qh hst
   clear hn' hs' hst hcn hcs
   generalize anyI C' 0=y at *
   go_wp2
   go_region_law (first|(go_simp;go_at_call 169;refine(countStep_yes up down most n n' s s' r0 _ OK.out HN.out HSS.out).mono ?_;rintro e5 w5 ⟨rfl,hb5⟩;have q3:=cell_later hb5 s0;have q4:=cell_later hb5 s1;have qf:∀o,w5.frozen? ⟨w.heap.size+1,o,none⟩=false:=fun o=>(hb5.frozen (by simp;omega)).trans (sf o);have qz:w.heap.size+1<w5.heap.size:=by(have:=World.block_lt_of_cell? _ _ q3;simpa using this))|fail)
   all_goals
    have A5:Below wr.heap.size wr w5:=⟨hb5.os,hb5.tape,hb5.output,hb5.size,hb5.block⟩
    have S6:=cnts_set (HS.out.later A5 y1) (by omega) HST.out
    change CntsAt ((w5.setCell ⟨w.heap.size+1,0,none⟩ (.int .i64 n')).setCell ⟨w.heap.size+1,1,none⟩ (.bool s')) _ (tkC C C' 1)at S6
    have P6:=(HP.out.later A5 y0).other2 (c:=w.heap.size+1) (by omega) 0 1 (.int .i64 n') (.bool s')
    have Z6:=(HZ.out.later A5 y3).other2 (c:=w.heap.size+1) (by omega) 0 1 (.int .i64 n') (.bool s')
    have B6:Below w.heap.size w ((w5.setCell ⟨w.heap.size+1,0,none⟩ (.int .i64 n')).setCell ⟨w.heap.size+1,1,none⟩ (.bool s')):=((HB.out.trans (A5.mono HB.out.size)).setCell (Nat.le_add_right _ 1) _).setCell (Nat.le_add_right _ 1) _
    clear q3 q4 qf qz p0 p1 p2 s0 s1 sf hb5 A5
    generalize((w5.setCell ⟨w.heap.size+1,0,none⟩ (.int .i64 n')).setCell ⟨w.heap.size+1,1,none⟩ (.bool s'))=w6 at *
    have g0:=(S6.1 0 (by omega)).2
    rw[tkC_now HST.out]at g0
    change w6.cell? ⟨w.heap.size+1,1,none⟩=_ at g0
    have g1:=S6.lt
    cases y
    ·go_wp2
     go_roundw
     case rel=>exact⟨1,by omega,by rw[HY.out]<;>rfl,rfl,P6,S6,Z6,B6⟩
     case measure=>simp[intOf]
    ·go_wp2
     go_roundw
     case rel=>exact⟨1,by omega,by rw[HY.out]<;>rfl,rfl,P6,S6,Z6,B6⟩
     case measure=>simp[intOf]
  ·have OK:=qh (HC.out 1 (by omega))
   have hst:=K1.out
   unfold stepsTo at hst
   obtain⟨s0,s1⟩:=hS.1 1 (by omega)
   rw[tkC_at]at s0 s1
   have sf:=hS.2
   change wr.cell? ⟨w.heap.size+1,2,none⟩=_ at s0
   change wr.cell? ⟨w.heap.size+1,3,none⟩=_ at s1
   rw[show((1:Nat):Int)=1 from rfl]
   have HY:Hid (anyI C' 2=(anyI C' 1||(C' 1).2)):=(rfl:anyI C' 2=(anyI C' 1||(C' 1).2))
   clear hS hZ hk
   generalize hcn:(C 1).1=n at *
   generalize hcs:(C 1).2=s at *
   obtain⟨n',hn'⟩:∃n',cntN up down most n r1=n':=⟨_,rfl⟩
   obtain⟨s',hs'⟩:∃s',cntS up down most n s r1=s':=⟨_,rfl⟩
   rw[hn',hs']at hst
   rw[hst]at HY
   have HN:=qh hn';have HSS:=qh hs';have HST:=qh hst
   clear hn' hs' hst hcn hcs
   generalize anyI C' 1=y at *
   go_wp2
   go_region_law (first|(go_simp;go_at_call 169;refine(countStep_yes up down most n n' s s' r1 _ OK.out HN.out HSS.out).mono ?_;rintro e5 w5 ⟨rfl,hb5⟩;have q3:=cell_later hb5 s0;have q4:=cell_later hb5 s1;have qf:∀o,w5.frozen? ⟨w.heap.size+1,o,none⟩=false:=fun o=>(hb5.frozen (by simp;omega)).trans (sf o);have qz:w.heap.size+1<w5.heap.size:=by(have:=World.block_lt_of_cell? _ _ q3;simpa using this))|fail)
   all_goals
    have A5:Below wr.heap.size wr w5:=⟨hb5.os,hb5.tape,hb5.output,hb5.size,hb5.block⟩
    have S6:=cnts_set (HS.out.later A5 y1) (by omega) HST.out
    change CntsAt ((w5.setCell ⟨w.heap.size+1,2,none⟩ (.int .i64 n')).setCell ⟨w.heap.size+1,3,none⟩ (.bool s')) _ (tkC C C' 2)at S6
    have P6:=(HP.out.later A5 y0).other2 (c:=w.heap.size+1) (by omega) 2 3 (.int .i64 n') (.bool s')
    have Z6:=(HZ.out.later A5 y3).other2 (c:=w.heap.size+1) (by omega) 2 3 (.int .i64 n') (.bool s')
    have B6:Below w.heap.size w ((w5.setCell ⟨w.heap.size+1,2,none⟩ (.int .i64 n')).setCell ⟨w.heap.size+1,3,none⟩ (.bool s')):=((HB.out.trans (A5.mono HB.out.size)).setCell (Nat.le_add_right _ 1) _).setCell (Nat.le_add_right _ 1) _
    clear q3 q4 qf qz p0 p1 p2 s0 s1 sf hb5 A5
    generalize((w5.setCell ⟨w.heap.size+1,2,none⟩ (.int .i64 n')).setCell ⟨w.heap.size+1,3,none⟩ (.bool s'))=w6 at *
    have g0:=(S6.1 1 (by omega)).2
    rw[tkC_now HST.out]at g0
    change w6.cell? ⟨w.heap.size+1,3,none⟩=_ at g0
    have g1:=S6.lt
    cases y
    ·go_wp2
     go_roundw
     case rel=>exact⟨2,by omega,by rw[HY.out]<;>rfl,rfl,P6,S6,Z6,B6⟩
     case measure=>simp[intOf]
    ·go_wp2
     go_roundw
     case rel=>exact⟨2,by omega,by rw[HY.out]<;>rfl,rfl,P6,S6,Z6,B6⟩
     case measure=>simp[intOf]
  ·have OK:=qh (HC.out 2 (by omega))
   have hst:=K2.out
   unfold stepsTo at hst
   obtain⟨s0,s1⟩:=hS.1 2 (by omega)
   rw[tkC_at]at s0 s1
   have sf:=hS.2
   change wr.cell? ⟨w.heap.size+1,4,none⟩=_ at s0
   change wr.cell? ⟨w.heap.size+1,5,none⟩=_ at s1
   rw[show((2:Nat):Int)=2 from rfl]
   have HY:Hid (anyI C' 3=(anyI C' 2||(C' 2).2)):=(rfl:anyI C' 3=(anyI C' 2||(C' 2).2))
   clear hS hZ hk
   generalize hcn:(C 2).1=n at *
   generalize hcs:(C 2).2=s at *
   obtain⟨n',hn'⟩:∃n',cntN up down most n r2=n':=⟨_,rfl⟩
   obtain⟨s',hs'⟩:∃s',cntS up down most n s r2=s':=⟨_,rfl⟩
   rw[hn',hs']at hst
   rw[hst]at HY
   have HN:=qh hn';have HSS:=qh hs';have HST:=qh hst
   clear hn' hs' hst hcn hcs
   generalize anyI C' 2=y at *
   go_wp2
   go_region_law (first|(go_simp;go_at_call 169;refine(countStep_yes up down most n n' s s' r2 _ OK.out HN.out HSS.out).mono ?_;rintro e5 w5 ⟨rfl,hb5⟩;have q3:=cell_later hb5 s0;have q4:=cell_later hb5 s1;have qf:∀o,w5.frozen? ⟨w.heap.size+1,o,none⟩=false:=fun o=>(hb5.frozen (by simp;omega)).trans (sf o);have qz:w.heap.size+1<w5.heap.size:=by(have:=World.block_lt_of_cell? _ _ q3;simpa using this))|fail)
   all_goals
    have A5:Below wr.heap.size wr w5:=⟨hb5.os,hb5.tape,hb5.output,hb5.size,hb5.block⟩
    have S6:=cnts_set (HS.out.later A5 y1) (by omega) HST.out
    change CntsAt ((w5.setCell ⟨w.heap.size+1,4,none⟩ (.int .i64 n')).setCell ⟨w.heap.size+1,5,none⟩ (.bool s')) _ (tkC C C' 3)at S6
    have P6:=(HP.out.later A5 y0).other2 (c:=w.heap.size+1) (by omega) 4 5 (.int .i64 n') (.bool s')
    have Z6:=(HZ.out.later A5 y3).other2 (c:=w.heap.size+1) (by omega) 4 5 (.int .i64 n') (.bool s')
    have B6:Below w.heap.size w ((w5.setCell ⟨w.heap.size+1,4,none⟩ (.int .i64 n')).setCell ⟨w.heap.size+1,5,none⟩ (.bool s')):=((HB.out.trans (A5.mono HB.out.size)).setCell (Nat.le_add_right _ 1) _).setCell (Nat.le_add_right _ 1) _
    clear q3 q4 qf qz p0 p1 p2 s0 s1 sf hb5 A5
    generalize((w5.setCell ⟨w.heap.size+1,4,none⟩ (.int .i64 n')).setCell ⟨w.heap.size+1,5,none⟩ (.bool s'))=w6 at *
    have g0:=(S6.1 2 (by omega)).2
    rw[tkC_now HST.out]at g0
    change w6.cell? ⟨w.heap.size+1,5,none⟩=_ at g0
    have g1:=S6.lt
    cases y
    ·go_wp2
     go_roundw
     case rel=>exact⟨3,by omega,by rw[HY.out]<;>rfl,rfl,P6,S6,Z6,B6⟩
     case measure=>simp[intOf]
    ·go_wp2
     go_roundw
     case rel=>exact⟨3,by omega,by rw[HY.out]<;>rfl,rfl,P6,S6,Z6,B6⟩
     case measure=>simp[intOf]
  ·have OK:=qh (HC.out 3 (by omega))
   have hst:=K3.out
   unfold stepsTo at hst
   obtain⟨s0,s1⟩:=hS.1 3 (by omega)
   rw[tkC_at]at s0 s1
   have sf:=hS.2
   change wr.cell? ⟨w.heap.size+1,6,none⟩=_ at s0
   change wr.cell? ⟨w.heap.size+1,7,none⟩=_ at s1
   rw[show((3:Nat):Int)=3 from rfl]
   have HY:Hid (anyI C' 4=(anyI C' 3||(C' 3).2)):=(rfl:anyI C' 4=(anyI C' 3||(C' 3).2))
   clear hS hZ hk
   generalize hcn:(C 3).1=n at *
   generalize hcs:(C 3).2=s at *
   obtain⟨n',hn'⟩:∃n',cntN up down most n r3=n':=⟨_,rfl⟩
   obtain⟨s',hs'⟩:∃s',cntS up down most n s r3=s':=⟨_,rfl⟩
   rw[hn',hs']at hst
   rw[hst]at HY
   have HN:=qh hn';have HSS:=qh hs';have HST:=qh hst
   clear hn' hs' hst hcn hcs
   generalize anyI C' 3=y at *
   go_wp2
   go_region_law (first|(go_simp;go_at_call 169;refine(countStep_yes up down most n n' s s' r3 _ OK.out HN.out HSS.out).mono ?_;rintro e5 w5 ⟨rfl,hb5⟩;have q3:=cell_later hb5 s0;have q4:=cell_later hb5 s1;have qf:∀o,w5.frozen? ⟨w.heap.size+1,o,none⟩=false:=fun o=>(hb5.frozen (by simp;omega)).trans (sf o);have qz:w.heap.size+1<w5.heap.size:=by(have:=World.block_lt_of_cell? _ _ q3;simpa using this))|fail)
   all_goals
    have A5:Below wr.heap.size wr w5:=⟨hb5.os,hb5.tape,hb5.output,hb5.size,hb5.block⟩
    have S6:=cnts_set (HS.out.later A5 y1) (by omega) HST.out
    change CntsAt ((w5.setCell ⟨w.heap.size+1,6,none⟩ (.int .i64 n')).setCell ⟨w.heap.size+1,7,none⟩ (.bool s')) _ (tkC C C' 4)at S6
    have P6:=(HP.out.later A5 y0).other2 (c:=w.heap.size+1) (by omega) 6 7 (.int .i64 n') (.bool s')
    have Z6:=(HZ.out.later A5 y3).other2 (c:=w.heap.size+1) (by omega) 6 7 (.int .i64 n') (.bool s')
    have B6:Below w.heap.size w ((w5.setCell ⟨w.heap.size+1,6,none⟩ (.int .i64 n')).setCell ⟨w.heap.size+1,7,none⟩ (.bool s')):=((HB.out.trans (A5.mono HB.out.size)).setCell (Nat.le_add_right _ 1) _).setCell (Nat.le_add_right _ 1) _
    clear q3 q4 qf qz p0 p1 p2 s0 s1 sf hb5 A5
    generalize((w5.setCell ⟨w.heap.size+1,6,none⟩ (.int .i64 n')).setCell ⟨w.heap.size+1,7,none⟩ (.bool s'))=w6 at *
    have g0:=(S6.1 3 (by omega)).2
    rw[tkC_now HST.out]at g0
    change w6.cell? ⟨w.heap.size+1,7,none⟩=_ at g0
    have g1:=S6.lt
    cases y
    ·go_wp2
     go_roundw
     case rel=>exact⟨4,by omega,by rw[HY.out]<;>rfl,rfl,P6,S6,Z6,B6⟩
     case measure=>simp[intOf]
    ·go_wp2
     go_roundw
     case rel=>exact⟨4,by omega,by rw[HY.out]<;>rfl,rfl,P6,S6,Z6,B6⟩
     case measure=>simp[intOf]
  ·have OK:=qh (HC.out 4 (by omega))
   have hst:=K4.out
   unfold stepsTo at hst
   obtain⟨s0,s1⟩:=hS.1 4 (by omega)
   rw[tkC_at]at s0 s1
   have sf:=hS.2
   change wr.cell? ⟨w.heap.size+1,8,none⟩=_ at s0
   change wr.cell? ⟨w.heap.size+1,9,none⟩=_ at s1
   rw[show((4:Nat):Int)=4 from rfl]
   have HY:Hid (anyI C' 5=(anyI C' 4||(C' 4).2)):=(rfl:anyI C' 5=(anyI C' 4||(C' 4).2))
   clear hS hZ hk
   generalize hcn:(C 4).1=n at *
   generalize hcs:(C 4).2=s at *
   obtain⟨n',hn'⟩:∃n',cntN up down most n r4=n':=⟨_,rfl⟩
   obtain⟨s',hs'⟩:∃s',cntS up down most n s r4=s':=⟨_,rfl⟩
   rw[hn',hs']at hst
   rw[hst]at HY
   have HN:=qh hn';have HSS:=qh hs';have HST:=qh hst
   clear hn' hs' hst hcn hcs
   generalize anyI C' 4=y at *
   go_wp2
   go_region_law (first|(go_simp;go_at_call 169;refine(countStep_yes up down most n n' s s' r4 _ OK.out HN.out HSS.out).mono ?_;rintro e5 w5 ⟨rfl,hb5⟩;have q3:=cell_later hb5 s0;have q4:=cell_later hb5 s1;have qf:∀o,w5.frozen? ⟨w.heap.size+1,o,none⟩=false:=fun o=>(hb5.frozen (by simp;omega)).trans (sf o);have qz:w.heap.size+1<w5.heap.size:=by(have:=World.block_lt_of_cell? _ _ q3;simpa using this))|fail)
   all_goals
    have A5:Below wr.heap.size wr w5:=⟨hb5.os,hb5.tape,hb5.output,hb5.size,hb5.block⟩
    have S6:=cnts_set (HS.out.later A5 y1) (by omega) HST.out
    change CntsAt ((w5.setCell ⟨w.heap.size+1,8,none⟩ (.int .i64 n')).setCell ⟨w.heap.size+1,9,none⟩ (.bool s')) _ (tkC C C' 5)at S6
    have P6:=(HP.out.later A5 y0).other2 (c:=w.heap.size+1) (by omega) 8 9 (.int .i64 n') (.bool s')
    have Z6:=(HZ.out.later A5 y3).other2 (c:=w.heap.size+1) (by omega) 8 9 (.int .i64 n') (.bool s')
    have B6:Below w.heap.size w ((w5.setCell ⟨w.heap.size+1,8,none⟩ (.int .i64 n')).setCell ⟨w.heap.size+1,9,none⟩ (.bool s')):=((HB.out.trans (A5.mono HB.out.size)).setCell (Nat.le_add_right _ 1) _).setCell (Nat.le_add_right _ 1) _
    clear q3 q4 qf qz p0 p1 p2 s0 s1 sf hb5 A5
    generalize((w5.setCell ⟨w.heap.size+1,8,none⟩ (.int .i64 n')).setCell ⟨w.heap.size+1,9,none⟩ (.bool s'))=w6 at *
    have g0:=(S6.1 4 (by omega)).2
    rw[tkC_now HST.out]at g0
    change w6.cell? ⟨w.heap.size+1,9,none⟩=_ at g0
    have g1:=S6.lt
    cases y
    ·go_wp2
     go_roundw
     case rel=>exact⟨5,by omega,by rw[HY.out]<;>rfl,rfl,P6,S6,Z6,B6⟩
     case measure=>simp[intOf]
    ·go_wp2
     go_roundw
     case rel=>exact⟨5,by omega,by rw[HY.out]<;>rfl,rfl,P6,S6,Z6,B6⟩
     case measure=>simp[intOf]
  ·rw[show((5:Nat):Int)=5 from rfl]
   have S5:=cnts_all HS.out
   obtain⟨s0,s1⟩:=S5.1 0 (by omega)
   obtain⟨z0,z1⟩:=hZ.1 0 (by omega)
   change wr.cell? ⟨w.heap.size+1,0,none⟩=_ at s0
   change wr.cell? ⟨w.heap.size+1,1,none⟩=_ at s1
   change wr.cell? ⟨w.heap.size+1+1+1,0,none⟩=_ at z0
   change wr.cell? ⟨w.heap.size+1+1+1,1,none⟩=_ at z1
   obtain⟨s2,s3⟩:=S5.1 1 (by omega)
   obtain⟨z2,z3⟩:=hZ.1 1 (by omega)
   change wr.cell? ⟨w.heap.size+1,2,none⟩=_ at s2
   change wr.cell? ⟨w.heap.size+1,3,none⟩=_ at s3
   change wr.cell? ⟨w.heap.size+1+1+1,2,none⟩=_ at z2
   change wr.cell? ⟨w.heap.size+1+1+1,3,none⟩=_ at z3
   obtain⟨s4,s5⟩:=S5.1 2 (by omega)
   obtain⟨z4,z5⟩:=hZ.1 2 (by omega)
   change wr.cell? ⟨w.heap.size+1,4,none⟩=_ at s4
   change wr.cell? ⟨w.heap.size+1,5,none⟩=_ at s5
   change wr.cell? ⟨w.heap.size+1+1+1,4,none⟩=_ at z4
   change wr.cell? ⟨w.heap.size+1+1+1,5,none⟩=_ at z5
   obtain⟨s6,s7⟩:=S5.1 3 (by omega)
   obtain⟨z6,z7⟩:=hZ.1 3 (by omega)
   change wr.cell? ⟨w.heap.size+1,6,none⟩=_ at s6
   change wr.cell? ⟨w.heap.size+1,7,none⟩=_ at s7
   change wr.cell? ⟨w.heap.size+1+1+1,6,none⟩=_ at z6
   change wr.cell? ⟨w.heap.size+1+1+1,7,none⟩=_ at z7
   obtain⟨s8,s9⟩:=S5.1 4 (by omega)
   obtain⟨z8,z9⟩:=hZ.1 4 (by omega)
   change wr.cell? ⟨w.heap.size+1,8,none⟩=_ at s8
   change wr.cell? ⟨w.heap.size+1,9,none⟩=_ at s9
   change wr.cell? ⟨w.heap.size+1+1+1,8,none⟩=_ at z8
   change wr.cell? ⟨w.heap.size+1+1+1,9,none⟩=_ at z9
   have zf:=hZ.2
   clear hS hZ S5 p0 p1 p2 hk
   obtain⟨y,hy⟩:∃y,anyI C' 5=y:=⟨_,rfl⟩
   rw[hy]
   have HYY:=qh hy
   clear hy
   go_wp2
   have Z6:=cnts_fill HZ.out C'
   have B6:=fill_below HB.out (b:=w.heap.size+1+1+1) (by omega) (.int .i64 (C' 0).1) (.bool (C' 0).2) (.int .i64 (C' 1).1) (.bool (C' 1).2) (.int .i64 (C' 2).1) (.bool (C' 2).2) (.int .i64 (C' 3).1) (.bool (C' 3).2) (.int .i64 (C' 4).1) (.bool (C' 4).2)
   generalize((((((((((wr.setCell ⟨w.heap.size+1+1+1,0,none⟩ (.int .i64 (C' 0).1)).setCell ⟨w.heap.size+1+1+1,1,none⟩ (.bool (C' 0).2)).setCell ⟨w.heap.size+1+1+1,2,none⟩ (.int .i64 (C' 1).1)).setCell ⟨w.heap.size+1+1+1,3,none⟩ (.bool (C' 1).2)).setCell ⟨w.heap.size+1+1+1,4,none⟩ (.int .i64 (C' 2).1)).setCell ⟨w.heap.size+1+1+1,5,none⟩ (.bool (C' 2).2)).setCell ⟨w.heap.size+1+1+1,6,none⟩ (.int .i64 (C' 3).1)).setCell ⟨w.heap.size+1+1+1,7,none⟩ (.bool (C' 3).2)).setCell ⟨w.heap.size+1+1+1,8,none⟩ (.int .i64 (C' 4).1)).setCell ⟨w.heap.size+1+1+1,9,none⟩ (.bool (C' 4).2))=w7 at *
   obtain⟨r0,r1⟩:=Z6.1 0 (by omega)
   change w7.cell? ⟨w.heap.size+1+1+1,0,none⟩=_ at r0
   change w7.cell? ⟨w.heap.size+1+1+1,1,none⟩=_ at r1
   obtain⟨r2,r3⟩:=Z6.1 1 (by omega)
   change w7.cell? ⟨w.heap.size+1+1+1,2,none⟩=_ at r2
   change w7.cell? ⟨w.heap.size+1+1+1,3,none⟩=_ at r3
   obtain⟨r4,r5⟩:=Z6.1 2 (by omega)
   change w7.cell? ⟨w.heap.size+1+1+1,4,none⟩=_ at r4
   change w7.cell? ⟨w.heap.size+1+1+1,5,none⟩=_ at r5
   obtain⟨r6,r7⟩:=Z6.1 3 (by omega)
   change w7.cell? ⟨w.heap.size+1+1+1,6,none⟩=_ at r6
   change w7.cell? ⟨w.heap.size+1+1+1,7,none⟩=_ at r7
   obtain⟨r8,r9⟩:=Z6.1 4 (by omega)
   change w7.cell? ⟨w.heap.size+1+1+1,8,none⟩=_ at r8
   change w7.cell? ⟨w.heap.size+1+1+1,9,none⟩=_ at r9
   refine bodyPost_ret (v:=.tuple #[cntsV C',.bool y,.int .i64 0]) (by simp[results,Tryz.results152,go_sem,r0,r1,r2,r3,r4,r5,r6,r7,r8,r9]) rfl ⟨by rw[HYY.out],B6⟩
end Go.Proofs.YtpkiepjmcepnoaaGreatDoor
