/- A part of a proof. -/
import Derived.Deep.RegionWith
import Derived.OwnWalk
import Derived.RegionTactic
import Derived.StillTailTactics
import Derived.Test.YtpkiepjmcepnoaaGreatDoorPtK
import Derived.Test.YtpkiepjmcepnoaaGreatDoorPtL
set_option maxHeartbeats 16000000
set_option maxRecDepth 100000
namespace Go.Proofs.YtpkiepjmcepnoaaGreatDoor
open Go.ChangeShapes Go.WideShapes Go.ChangeAt Go.RowKit
set_option linter.unusedVariables false
theorem next_any (m:Int) (f:Bool) (r e:Int) (w:World) (h:LaneOk m f r) (he:e=1∨e=2∨e=3∨e=4∨e=5∨e=6∨e=7) (m':Int) (f':Bool) (r':Int) (hr:nextI m f r e=(m',f',r')):
  Calls Tryz.prog 172 #[.agg #[.int .i64 m,.bool f,.int .i64 r],.int .i64 e] w fun e' w'=>e'=.returned (.tuple #[.agg #[.int .i64 m',.bool f',.int .i64 r'],.int .i64 0])∧Below w.heap.size w w':=by
 obtain⟨hm,h1⟩:=h
 rcases hm with⟨rfl,rfl⟩|⟨rfl,rfl⟩|⟨rfl,rfl⟩|⟨rfl,rfl⟩|⟨rfl,rfl⟩
 ·exact next_0f r e w h1 he m' f' r' hr
 ·exact next_1f r e w h1 he m' f' r' hr
 ·exact next_2t r e w h1 he m' f' r' hr
 ·exact next_3f r e w h1 he m' f' r' hr
 ·exact next_3t r e w h1 he m' f' r' hr
theorem next_ok {m r e:Int} {f:Bool} (h:LaneOk m f r) (he:e=1∨e=2∨e=3∨e=4∨e=5∨e=6∨e=7) {m' r':Int} {f':Bool} (hr:nextI m f r e=(m',f',r')):
  LaneOk m' f' r'∧f'=((f&&e != 7)||e==3):=by
 obtain⟨hm,h1,h2⟩:=h
 have h00:(0:Int)≤0∧(0:Int)≤10000:=by decide
 rcases hm with⟨rfl,rfl⟩|⟨rfl,rfl⟩|⟨rfl,rfl⟩|⟨rfl,rfl⟩|⟨rfl,rfl⟩<;>rcases he with rfl|rfl|rfl|rfl|rfl|rfl|rfl<;>simp[nextI,turnB,turnV,turnI]at hr<;>
  (obtain⟨rfl,rfl,rfl⟩:=hr;exact⟨⟨by decide,by omega⟩,rfl⟩)
theorem next_bad (m:Int) (f:Bool) (r e:Int) (w:World) (h:LaneOk m f r) (he:e<1∨7<e):
  Calls Tryz.prog 172 #[.agg #[.int .i64 m,.bool f,.int .i64 r],.int .i64 e] w fun e' w'=>e'=.returned (.tuple #[.agg #[.int .i64 0,.bool false,.int .i64 0],.int .i64 1])∧Below w.heap.size w w':=by
 have H:=qh h
 clear h
 rcases he with he|he
 ·have d0:decide (e<1)=true:=decide_eq_true he
  go_enter Tryz.func172,Tryz.ntmps172
  go_wp2_with fail
  refine(laneCheck_yes _ _ _ _ H.out).mono ?_
  rintro e1 w1 ⟨rfl,rfl⟩
  go_wp2
  refine bodyPost_ret (v:=.tuple #[.agg #[_,_,_],_]) (by simp[results,Tryz.results172,go_sem]) rfl ⟨rfl,?_⟩
  repeat(first|(with_reducible first|exact bLr)|((with_reducible first|refine bLs ?_ ?_ _|refine bLa ?_ ?_ _);·first|omega|(simp<;>omega))|with_reducible first|refine bLn ?_ _|refine bLd ?_)
 ·have d0:decide (e<1)=false:=decide_eq_false (by omega)
  have d1:decide (7<e)=true:=decide_eq_true he
  go_enter Tryz.func172,Tryz.ntmps172
  go_wp2_with fail
  refine(laneCheck_yes _ _ _ _ H.out).mono ?_
  rintro e1 w1 ⟨rfl,rfl⟩
  go_wp2
  refine bodyPost_ret (v:=.tuple #[.agg #[_,_,_],_]) (by simp[results,Tryz.results172,go_sem]) rfl ⟨rfl,?_⟩
  repeat(first|(with_reducible first|exact bLr)|((with_reducible first|refine bLs ?_ ?_ _|refine bLa ?_ ?_ _);·first|omega|(simp<;>omega))|with_reducible first|refine bLn ?_ _|refine bLd ?_)
theorem tick_any (m:Int) (f:Bool) (r:Int) (w:World) (h:LaneOk m f r) (r':Int) (hr:min 10000 (r+1)=r'):
  Calls Tryz.prog 158 #[.agg #[.int .i64 m,.bool f,.int .i64 r]] w fun e' w'=>e'=.returned (.tuple #[.agg #[.int .i64 m,.bool f,.int .i64 r'],.int .i64 0])∧Below w.heap.size w w':=by
 have H:=qh h
 have h2:0≤r∧r≤10000:=h.2
 clear h
 rcases(by omega:r+1<10000∨r=9999∨r=10000)with hlt|rfl|rfl
 ·obtain rfl:r+1=r':=by omega
  clear hr
  go_enter Tryz.func158,Tryz.ntmps158
  go_wp2_with fail
  refine(laneCheck_yes _ _ _ _ H.out).mono ?_
  rintro e1 w1 ⟨rfl,rfl⟩
  have hge:¬10000<r+1:=by omega
  go_wp2
  refine bodyPost_ret (v:=.tuple #[.agg #[_,_,_],_]) (by simp[results,Tryz.results158,go_sem]) rfl ⟨rfl,?_⟩
  repeat(first|(with_reducible first|exact bLr)|((with_reducible first|refine bLs ?_ ?_ _|refine bLa ?_ ?_ _);·first|omega|(simp<;>omega))|with_reducible first|refine bLn ?_ _|refine bLd ?_)
 ·obtain rfl:10000=r':=by omega
  clear hr
  go_enter Tryz.func158,Tryz.ntmps158
  go_wp2_with fail
  refine(laneCheck_yes _ _ _ _ H.out).mono ?_
  rintro e1 w1 ⟨rfl,rfl⟩
  go_wp2
  refine bodyPost_ret (v:=.tuple #[.agg #[_,_,_],_]) (by simp[results,Tryz.results158,go_sem]) rfl ⟨rfl,?_⟩
  repeat(first|(with_reducible first|exact bLr)|((with_reducible first|refine bLs ?_ ?_ _|refine bLa ?_ ?_ _);·first|omega|(simp<;>omega))|with_reducible first|refine bLn ?_ _|refine bLd ?_)
 ·obtain rfl:10000=r':=by omega
  clear hr
  go_enter Tryz.func158,Tryz.ntmps158
  go_wp2_with fail
  refine(laneCheck_yes _ _ _ _ H.out).mono ?_
  rintro e1 w1 ⟨rfl,rfl⟩
  go_wp2
  refine bodyPost_ret (v:=.tuple #[.agg #[_,_,_],_]) (by simp[results,Tryz.results158,go_sem]) rfl ⟨rfl,?_⟩
  repeat(first|(with_reducible first|exact bLr)|((with_reducible first|refine bLs ?_ ?_ _|refine bLa ?_ ?_ _);·first|omega|(simp<;>omega))|with_reducible first|refine bLn ?_ _|refine bLd ?_)
abbrev Team:=Nat→Int×Bool×Int
def upd (T:Team) (i:Nat) (s:Int×Bool×Int):Team:=fun j=>if j=i then s else T j
def nx (s:Int×Bool×Int) (e:Int):Int×Bool×Int:=nextI s.1 s.2.1 s.2.2 e
def OkS (s:Int×Bool×Int):Prop:=LaneOk s.1 s.2.1 s.2.2
theorem nx_ok {s:Int×Bool×Int} {e:Int} (h:OkS s) (he:e=1∨e=2∨e=3∨e=4∨e=5∨e=6∨e=7):OkS (nx s e):=(next_ok h he rfl).1
def TeamAt (w:World) (b:Nat) (T:Team):Prop:=
 (∀i,i<4→w.cell? ⟨b,3*i,none⟩=some (.int .i64 (T i).1)∧w.cell? ⟨b,3*i+1,none⟩=some (.bool (T i).2.1)∧w.cell? ⟨b,3*i+2,none⟩=some (.int .i64 (T i).2.2))∧(∀o,w.frozen? ⟨b,o,none⟩=false)
theorem TeamAt.lt {w:World} {b:Nat} {T:Team} (h:TeamAt w b T):b<w.heap.size:=by
 have:=World.block_lt_of_cell? _ _ (h.1 0 (by omega)).1
 simpa using this
theorem TeamAt.kept {w w':World} {b c:Nat} {T:Team} (h:TeamAt w b T) (hg:w.grownBy w' (some c)) (hne:b≠c):TeamAt w' b T:=by
 have hb:=hg.block b h.lt (fun e=>hne (by cases e;rfl))
 refine⟨fun i hi=>?_,fun o=>?_⟩
 ·obtain⟨h1,h2,h3⟩:=h.1 i hi
  exact⟨(World.cell?_of_block (w:=w) hb).trans h1,(World.cell?_of_block (w:=w) hb).trans h2,(World.cell?_of_block (w:=w) hb).trans h3⟩
 ·have:=h.2 o
  unfold World.frozen? at *
  simpa[hb]using this
theorem TeamAt.later {w w':World} {b B:Nat} {T:Team} (h:TeamAt w b T) (hB:Below B w w') (hb:b<B):TeamAt w' b T:=
 ⟨fun i hi=>by obtain⟨h1,h2,h3⟩:=h.1 i hi;exact⟨(hB.cell hb).trans h1,(hB.cell hb).trans h2,(hB.cell hb).trans h3⟩,fun o=>(hB.frozen hb).trans (h.2 o)⟩
theorem grown_three {w w2:World} {b:Nat} (h:Below w.heap.size w w2) (o1 o2 o3:Nat) (v1 v2 v3:Value):
  w.grownBy (((w2.setCell ⟨b,o1,none⟩ v1).setCell ⟨b,o2,none⟩ v2).setCell ⟨b,o3,none⟩ v3) (some b):=
 ⟨h.os,h.tape,h.output,by simpa[World.setCell]using h.size,fun k hk hne=>by
  have e:k≠b:=fun e=>hne (by rw[e])
  rw[Below.heap_setCell _ _ _ k e,Below.heap_setCell _ _ _ k e,Below.heap_setCell _ _ _ k e];exact h.block k hk⟩
theorem team_set {w:World} {b:Nat} {T:Team} (h:TeamAt w b T) (i:Nat) (hi:i<4) (s:Int×Bool×Int):
  TeamAt (((w.setCell ⟨b,3*i,none⟩ (.int .i64 s.1)).setCell ⟨b,3*i+1,none⟩ (.bool s.2.1)).setCell ⟨b,3*i+2,none⟩ (.int .i64 s.2.2)) b (upd T i s):=by
 have ne:∀{x y:Nat},x≠y→(⟨b,x,none⟩:Addr)≠⟨b,y,none⟩:=fun hxy e=>hxy (congrArg Addr.off e)
 refine⟨fun j hj=>?_,fun o=>by rw[World.frozen?_setCell,World.frozen?_setCell,World.frozen?_setCell];exact h.2 o⟩
 obtain⟨a1,a2,a3⟩:=h.1 i hi
 obtain⟨h1,h2,h3⟩:=h.1 j hj
 by_cases hji:j=i
 ·subst hji
  simp only[upd,if_pos]
  refine⟨?_,?_,?_⟩
  ·rw[World.cell?_setCell_other _ _ _ _ (ne (by omega)),World.cell?_setCell_other _ _ _ _ (ne (by omega))]
   exact World.cell?_setCell_same _ _ _ a1
  ·rw[World.cell?_setCell_other _ _ _ _ (ne (by omega))]
   exact World.cell?_setCell_same _ _ _ ((World.cell?_setCell_other _ _ _ _ (ne (by omega))).trans a2)
  ·exact World.cell?_setCell_same _ _ _ ((World.cell?_setCell_other _ _ _ _ (ne (by omega))).trans ((World.cell?_setCell_other _ _ _ _ (ne (by omega))).trans a3))
 ·simp only[upd,if_neg hji]
  refine⟨?_,?_,?_⟩
  ·rw[World.cell?_setCell_other _ _ _ _ (ne (by omega)),World.cell?_setCell_other _ _ _ _ (ne (by omega)),World.cell?_setCell_other _ _ _ _ (ne (by omega))];exact h1
  ·rw[World.cell?_setCell_other _ _ _ _ (ne (by omega)),World.cell?_setCell_other _ _ _ _ (ne (by omega)),World.cell?_setCell_other _ _ _ _ (ne (by omega))];exact h2
  ·rw[World.cell?_setCell_other _ _ _ _ (ne (by omega)),World.cell?_setCell_other _ _ _ _ (ne (by omega)),World.cell?_setCell_other _ _ _ _ (ne (by omega))];exact h3
def OnPost (b:Nat) (T:Team) (w:World) (e:Ending) (w':World):Prop:=e=.returned (.tuple #[])∧TeamAt w' b T∧w.grownBy w' (some b)
theorem on_any (b:Nat) (T:Team) (i:Nat) (hi:i<4) (e:Int) (he:e=1∨e=2∨e=3∨e=4∨e=5∨e=6∨e=7) (w:World) (hT:TeamAt w b T) (hok:OkS (T i)):
  Calls Tryz.prog 155 #[.pointer (some ⟨b,0,none⟩),.int .i64 i,.int .i64 e] w (OnPost b (upd T i (nx (T i) e)) w):=by
 have HT:=qh hT
 have hb:=hT.lt
 have HE:=qh he
 obtain⟨⟨m',f',r'⟩,hy⟩:∃y,nextI (T i).1 (T i).2.1 (T i).2.2 e=y:=⟨_,rfl⟩
 have HY:=qh hy
 have HOK:Hid (LaneOk (T i).1 (T i).2.1 (T i).2.2):=(hok:LaneOk (T i).1 (T i).2.1 (T i).2.2)
 obtain⟨c0,c1,c2⟩:=hT.1 i hi
 have hf:=hT.2
 clear hT he hy hok
 rcases(by omega:i=0∨i=1∨i=2∨i=3)with rfl|rfl|rfl|rfl
 ·change w.cell? ⟨b,0,none⟩=_ at c0
  change w.cell? ⟨b,1,none⟩=_ at c1
  change w.cell? ⟨b,2,none⟩=_ at c2
  go_enter Tryz.func155,Tryz.ntmps155
  go_wp2
  go_region_with ((go_at_call 172;refine(next_any _ _ _ _ _ HOK.out HE.out m' f' r' HY.out).mono ?_;rintro e1 w1 ⟨rfl,hb1⟩;have c0':=cell_later hb1 c0;have c1':=cell_later hb1 c1;have c2':=cell_later hb1 c2;have hf':∀o,w1.frozen? ⟨b,o,none⟩=false:=fun o=>(hb1.frozen (by simp;omega)).trans (hf o)))
  have hT1:TeamAt w1 b T:=TeamAt.later (w:=w.drew) HT.out hb1 hb
  have hs:=team_set hT1 0 (by omega) (m',f',r')
  have hg:w.grownBy (((w1.setCell ⟨b,0,none⟩ (.int .i64 m')).setCell ⟨b,1,none⟩ (.bool f')).setCell ⟨b,2,none⟩ (.int .i64 r')) (some b):=grown_three (w:=w) ⟨hb1.os,hb1.tape,hb1.output,hb1.size,hb1.block⟩ _ _ _ _ _ _
  have hn:nx (T 0) e=(m',f',r'):=HY.out
  go_end0
  exact⟨rfl,by rw[hn];exact hs,hg⟩
 ·change w.cell? ⟨b,3,none⟩=_ at c0
  change w.cell? ⟨b,4,none⟩=_ at c1
  change w.cell? ⟨b,5,none⟩=_ at c2
  go_enter Tryz.func155,Tryz.ntmps155
  go_wp2
  go_region_with ((go_at_call 172;refine(next_any _ _ _ _ _ HOK.out HE.out m' f' r' HY.out).mono ?_;rintro e1 w1 ⟨rfl,hb1⟩;have c0':=cell_later hb1 c0;have c1':=cell_later hb1 c1;have c2':=cell_later hb1 c2;have hf':∀o,w1.frozen? ⟨b,o,none⟩=false:=fun o=>(hb1.frozen (by simp;omega)).trans (hf o)))
  have hT1:TeamAt w1 b T:=TeamAt.later (w:=w.drew) HT.out hb1 hb
  have hs:=team_set hT1 1 (by omega) (m',f',r')
  have hg:w.grownBy (((w1.setCell ⟨b,3,none⟩ (.int .i64 m')).setCell ⟨b,4,none⟩ (.bool f')).setCell ⟨b,5,none⟩ (.int .i64 r')) (some b):=grown_three (w:=w) ⟨hb1.os,hb1.tape,hb1.output,hb1.size,hb1.block⟩ _ _ _ _ _ _
  have hn:nx (T 1) e=(m',f',r'):=HY.out
  go_end0
  exact⟨rfl,by rw[hn];exact hs,hg⟩
 ·change w.cell? ⟨b,6,none⟩=_ at c0
  change w.cell? ⟨b,7,none⟩=_ at c1
  change w.cell? ⟨b,8,none⟩=_ at c2
  go_enter Tryz.func155,Tryz.ntmps155
  go_wp2
  go_region_with ((go_at_call 172;refine(next_any _ _ _ _ _ HOK.out HE.out m' f' r' HY.out).mono ?_;rintro e1 w1 ⟨rfl,hb1⟩;have c0':=cell_later hb1 c0;have c1':=cell_later hb1 c1;have c2':=cell_later hb1 c2;have hf':∀o,w1.frozen? ⟨b,o,none⟩=false:=fun o=>(hb1.frozen (by simp;omega)).trans (hf o)))
  have hT1:TeamAt w1 b T:=TeamAt.later (w:=w.drew) HT.out hb1 hb
  have hs:=team_set hT1 2 (by omega) (m',f',r')
  have hg:w.grownBy (((w1.setCell ⟨b,6,none⟩ (.int .i64 m')).setCell ⟨b,7,none⟩ (.bool f')).setCell ⟨b,8,none⟩ (.int .i64 r')) (some b):=grown_three (w:=w) ⟨hb1.os,hb1.tape,hb1.output,hb1.size,hb1.block⟩ _ _ _ _ _ _
  have hn:nx (T 2) e=(m',f',r'):=HY.out
  go_end0
  exact⟨rfl,by rw[hn];exact hs,hg⟩
 ·change w.cell? ⟨b,9,none⟩=_ at c0
  change w.cell? ⟨b,10,none⟩=_ at c1
  change w.cell? ⟨b,11,none⟩=_ at c2
  go_enter Tryz.func155,Tryz.ntmps155
  go_wp2
  go_region_with ((go_at_call 172;refine(next_any _ _ _ _ _ HOK.out HE.out m' f' r' HY.out).mono ?_;rintro e1 w1 ⟨rfl,hb1⟩;have c0':=cell_later hb1 c0;have c1':=cell_later hb1 c1;have c2':=cell_later hb1 c2;have hf':∀o,w1.frozen? ⟨b,o,none⟩=false:=fun o=>(hb1.frozen (by simp;omega)).trans (hf o)))
  have hT1:TeamAt w1 b T:=TeamAt.later (w:=w.drew) HT.out hb1 hb
  have hs:=team_set hT1 3 (by omega) (m',f',r')
  have hg:w.grownBy (((w1.setCell ⟨b,9,none⟩ (.int .i64 m')).setCell ⟨b,10,none⟩ (.bool f')).setCell ⟨b,11,none⟩ (.int .i64 r')) (some b):=grown_three (w:=w) ⟨hb1.os,hb1.tape,hb1.output,hb1.size,hb1.block⟩ _ _ _ _ _ _
  have hn:nx (T 3) e=(m',f',r'):=HY.out
  go_end0
  exact⟨rfl,by rw[hn];exact hs,hg⟩
abbrev teamV (T:Team):Value:=.agg #[.int .i64 (T 0).1,.bool (T 0).2.1,.int .i64 (T 0).2.2,.int .i64 (T 1).1,.bool (T 1).2.1,.int .i64 (T 1).2.2,.int .i64 (T 2).1,.bool (T 2).2.1,.int .i64 (T 2).2.2,.int .i64 (T 3).1,.bool (T 3).2.1,.int .i64 (T 3).2.2]
theorem redCheck_yes (m0 r0 m1 r1 m2 r2 m3 r3:Int) (f0 f1 f2 f3:Bool) (w:World) (h0:LaneOk m0 f0 r0) (h1:LaneOk m1 f1 r1) (h2:LaneOk m2 f2 r2) (h3:LaneOk m3 f3 r3):
  Calls Tryz.prog 154 #[.agg #[.int .i64 m0,.bool f0,.int .i64 r0,.int .i64 m1,.bool f1,.int .i64 r1,.int .i64 m2,.bool f2,.int .i64 r2,.int .i64 m3,.bool f3,.int .i64 r3]] w
   fun e w'=>e=.returned (.int .i64 0)∧Below w.heap.size w w':=by
 have H0:=qh h0;have H1:=qh h1;have H2:=qh h2;have H3:=qh h3
 clear h0 h1 h2 h3
 have ix0:∀w:World,(Instr.index 77 (.agg #[.int .i64 m0,.bool f0,.int .i64 r0,.int .i64 m1,.bool f1,.int .i64 r1,.int .i64 m2,.bool f2,.int .i64 r2,.int .i64 m3,.bool f3,.int .i64 r3]) (.int .i64 0)).run Tryz.prog w=.ok (.agg #[.int .i64 m0,.bool f0,.int .i64 r0]) w:=fun _=>by kernel_rfl
 have ix1:∀w:World,(Instr.index 77 (.agg #[.int .i64 m0,.bool f0,.int .i64 r0,.int .i64 m1,.bool f1,.int .i64 r1,.int .i64 m2,.bool f2,.int .i64 r2,.int .i64 m3,.bool f3,.int .i64 r3]) (.int .i64 1)).run Tryz.prog w=.ok (.agg #[.int .i64 m1,.bool f1,.int .i64 r1]) w:=fun _=>by kernel_rfl
 have ix2:∀w:World,(Instr.index 77 (.agg #[.int .i64 m0,.bool f0,.int .i64 r0,.int .i64 m1,.bool f1,.int .i64 r1,.int .i64 m2,.bool f2,.int .i64 r2,.int .i64 m3,.bool f3,.int .i64 r3]) (.int .i64 2)).run Tryz.prog w=.ok (.agg #[.int .i64 m2,.bool f2,.int .i64 r2]) w:=fun _=>by kernel_rfl
 have ix3:∀w:World,(Instr.index 77 (.agg #[.int .i64 m0,.bool f0,.int .i64 r0,.int .i64 m1,.bool f1,.int .i64 r1,.int .i64 m2,.bool f2,.int .i64 r2,.int .i64 m3,.bool f3,.int .i64 r3]) (.int .i64 3)).run Tryz.prog w=.ok (.agg #[.int .i64 m3,.bool f3,.int .i64 r3]) w:=fun _=>by kernel_rfl
 go_enter Tryz.func154,Tryz.ntmps154
 go_wp2
 refine wp_loop_rounds 5 ?_
 rw[rounds_succ]
 go_wp2_with fail
 refine(laneCheck_yes _ _ _ _ H0.out).mono ?_
 rintro e0 w0 ⟨rfl,rfl⟩
 go_wp2_with fail
 rw[rounds_succ]
 go_wp2_with fail
 refine(laneCheck_yes _ _ _ _ H1.out).mono ?_
 rintro e1 w1 ⟨rfl,rfl⟩
 go_wp2_with fail
 rw[rounds_succ]
 go_wp2_with fail
 refine(laneCheck_yes _ _ _ _ H2.out).mono ?_
 rintro e2 w2 ⟨rfl,rfl⟩
 go_wp2_with fail
 rw[rounds_succ]
 go_wp2_with fail
 refine(laneCheck_yes _ _ _ _ H3.out).mono ?_
 rintro e3 w3 ⟨rfl,rfl⟩
 go_wp2_with fail
 rw[rounds_succ]
 go_wp2
 go_ret
 refine⟨rfl,?_⟩
 repeat(first|(with_reducible first|exact bLr)|((with_reducible first|refine bLs ?_ ?_ _|refine bLa ?_ ?_ _);·first|omega|(simp<;>omega))|with_reducible first|refine bLn ?_ _|refine bLd ?_)
def usl (fs os:Nat→Bool):Nat→List Nat
 |0=>[]
 |k+1=>if !fs k&&os k then usl fs os k++[k]else usl fs os k
def sel4 {α:Type} (a b c d:α):Nat→α:=fun j=>match j with|0=>a|1=>b|2=>c|_=>d
abbrev intsV (U:List Nat):List Value:=U.map fun(i:Nat)=>Value.int .i64 (i:Int)
def URel (w:World) (fs os:Nat→Bool) (v i:Value) (wr:World):Prop:=∃k:Nat,k≤4∧i=.int .i64 k∧wr.ownsRow (w.heap.size+2) 3 1 v (usl fs os k).length (intsV (usl fs os k))∧Below w.heap.size w wr∧w.heap.size+1<wr.heap.size∧
 wr.cell? ⟨w.heap.size+1,0,none⟩=some (.bool (os 0))∧wr.cell? ⟨w.heap.size+1,1,none⟩=some (.bool (os 1))∧wr.cell? ⟨w.heap.size+1,2,none⟩=some (.bool (os 2))∧wr.cell? ⟨w.heap.size+1,3,none⟩=some (.bool (os 3))
theorem usl_len (fs os:Nat→Bool) (k:Nat):(usl fs os k).length≤k:=by
 induction k with
 |zero=>simp[usl]
 |succ k ih=>
  simp only[usl]
  split
  ·simp;omega
  ·omega
theorem usl_keep {fs os:Nat→Bool} {k:Nat} (h:(!fs k&&os k)=false):usl fs os (k+1)=usl fs os k:=by simp[usl,h]
theorem usl_take {fs os:Nat→Bool} {k:Nat} (h:(!fs k&&os k)=true):usl fs os (k+1)=usl fs os k++[k]:=by simp[usl,h]
theorem infoInt:(Tryz.prog.info? 3).map (fun i=>(i.zero,i.size,i.bytes))=some (some (.int .i64 0),1,8):=by kernel_rfl
theorem usable_any (m0 r0 m1 r1 m2 r2 m3 r3:Int) (f0 f1 f2 f3 o0 o1 o2 o3:Bool) (w:World):
  Calls Tryz.prog 156 #[.agg #[.int .i64 m0,.bool f0,.int .i64 r0,.int .i64 m1,.bool f1,.int .i64 r1,.int .i64 m2,.bool f2,.int .i64 r2,.int .i64 m3,.bool f3,.int .i64 r3],.agg #[.bool o0,.bool o1,.bool o2,.bool o3]] w
   fun e w'=>∃v,e=.returned v∧w'.ownsRow (w.heap.size+2) 3 1 v (usl (sel4 f0 f1 f2 f3) (sel4 o0 o1 o2 o3) 4).length (intsV (usl (sel4 f0 f1 f2 f3) (sel4 o0 o1 o2 o3) 4))∧Below w.heap.size w w':=by
 obtain⟨i0,hi,hz0,hz1,hz2⟩:=info_parts infoInt
 have ix0:∀w:World,(Instr.index 77 (.agg #[.int .i64 m0,.bool f0,.int .i64 r0,.int .i64 m1,.bool f1,.int .i64 r1,.int .i64 m2,.bool f2,.int .i64 r2,.int .i64 m3,.bool f3,.int .i64 r3]) (.int .i64 0)).run Tryz.prog w=.ok (.agg #[.int .i64 m0,.bool f0,.int .i64 r0]) w:=fun _=>by kernel_rfl
 have ix1:∀w:World,(Instr.index 77 (.agg #[.int .i64 m0,.bool f0,.int .i64 r0,.int .i64 m1,.bool f1,.int .i64 r1,.int .i64 m2,.bool f2,.int .i64 r2,.int .i64 m3,.bool f3,.int .i64 r3]) (.int .i64 1)).run Tryz.prog w=.ok (.agg #[.int .i64 m1,.bool f1,.int .i64 r1]) w:=fun _=>by kernel_rfl
 have ix2:∀w:World,(Instr.index 77 (.agg #[.int .i64 m0,.bool f0,.int .i64 r0,.int .i64 m1,.bool f1,.int .i64 r1,.int .i64 m2,.bool f2,.int .i64 r2,.int .i64 m3,.bool f3,.int .i64 r3]) (.int .i64 2)).run Tryz.prog w=.ok (.agg #[.int .i64 m2,.bool f2,.int .i64 r2]) w:=fun _=>by kernel_rfl
 have ix3:∀w:World,(Instr.index 77 (.agg #[.int .i64 m0,.bool f0,.int .i64 r0,.int .i64 m1,.bool f1,.int .i64 r1,.int .i64 m2,.bool f2,.int .i64 r2,.int .i64 m3,.bool f3,.int .i64 r3]) (.int .i64 3)).run Tryz.prog w=.ok (.agg #[.int .i64 m3,.bool f3,.int .i64 r3]) w:=fun _=>by kernel_rfl
 go_enter Tryz.func156,Tryz.ntmps156
 go_wp2
 go_loopw [5,9] (fun v i wr=>URel w (sel4 f0 f1 f2 f3) (sel4 o0 o1 o2 o3) v i wr) (fun _ i _=>4-(intOf i).toNat)
 case atStart=>exact⟨0,by omega,rfl,World.ownsRow_nil _ _ _ _,by repeat(first|(with_reducible first|exact bLr)|((with_reducible first|refine bLs ?_ ?_ _|refine bLa ?_ ?_ _);·first|omega|(simp<;>omega))|with_reducible first|refine bLn ?_ _|refine bLd ?_),by simp,by rw[show sel4 o0 o1 o2 o3 0=o0 from rfl];go_simp,by rw[show sel4 o0 o1 o2 o3 1=o1 from rfl];go_simp,by rw[show sel4 o0 o1 o2 o3 2=o2 from rfl];go_simp,by rw[show sel4 o0 o1 o2 o3 3=o3 from rfl];go_simp⟩
 case round=>
  obtain⟨k,hk,rfl,hown,hB,hsz,c0,c1,c2,c3⟩:=hrel
  change wr.cell? _=some (.bool o0)at c0
  change wr.cell? _=some (.bool o1)at c1
  change wr.cell? _=some (.bool o2)at c2
  change wr.cell? _=some (.bool o3)at c3
  rcases(by omega:k=0∨k=1∨k=2∨k=3∨k=4)with rfl|rfl|rfl|rfl|rfl
  ·have hl:=usl_len (sel4 f0 f1 f2 f3) (sel4 o0 o1 o2 o3) 0
   have HO:=qh hown
   cases f0<;>cases o0
   ·clear hown
    go_wp2
    refine⟨⟨1,by omega,rfl,?_,by repeat(first|(with_reducible first|exact bLr|exact hB)|((with_reducible first|refine bLs ?_ ?_ _|refine bLa ?_ ?_ _);·first|omega|(simp<;>omega))|with_reducible first|refine bLn ?_ _|refine bLd ?_),by simp;omega,?_,?_,?_,?_⟩,by simp[intOf]⟩
    ·rw[usl_keep (k:=0) rfl];exact HO.out.alloc _
    ·change World.cell? _ _=some (.bool false);go_simp
    ·change World.cell? _ _=some (.bool o1);go_simp
    ·change World.cell? _ _=some (.bool o2);go_simp
    ·change World.cell? _ _=some (.bool o3);go_simp
   ·go_wp2_with (at_builtin;refine wpList_append_own _ rfl _ _ 254 rfl (w.heap.size+2) 3 i0 (.int .i64 0) 1 8 Tryz.underlying254 hi hz0 hz1 hz2 rfl (by decide) _ _ _ rfl ((hown.alloc _).alloc _) ⟨wr.heap.size+1,0,none⟩ 1 1 [.int .i64 0] rfl rfl (by intro j u h;cases j<;>simp at h;subst h;first|(simp[Addr.add];done)|(simp[Addr.add];go_simp)) (by simp[Value.oneCell']) (by unfold maxLen;omega) (by omega) (by first|omega|(simp<;>omega)) ?_;intro v' w1 hown' hgrow _)
    have BG:Below (w.heap.size+2) wr w1:=(((bLr).alloc (by omega) _).alloc (by simp;omega) _).grown hgrow (by simp;omega) (fun j e=>(HO.out.lt j e).1)
    refine⟨⟨1,by omega,rfl,?_,hB.trans (BG.mono (by omega)),by have:=BG.size;omega,?_,?_,?_,?_⟩,by simp[intOf]⟩
    ·rw[usl_take (k:=0) rfl];simpa[intsV]using hown'
    ·change World.cell? _ _=some (.bool true);exact(BG.cell (p:=⟨w.heap.size+1,0,none⟩) (by simp)).trans c0
    ·change World.cell? _ _=some (.bool o1);exact(BG.cell (p:=⟨w.heap.size+1,1,none⟩) (by simp)).trans c1
    ·change World.cell? _ _=some (.bool o2);exact(BG.cell (p:=⟨w.heap.size+1,2,none⟩) (by simp)).trans c2
    ·change World.cell? _ _=some (.bool o3);exact(BG.cell (p:=⟨w.heap.size+1,3,none⟩) (by simp)).trans c3
   ·clear hown
    go_wp2
    refine⟨⟨1,by omega,rfl,?_,by repeat(first|(with_reducible first|exact bLr|exact hB)|((with_reducible first|refine bLs ?_ ?_ _|refine bLa ?_ ?_ _);·first|omega|(simp<;>omega))|with_reducible first|refine bLn ?_ _|refine bLd ?_),by simp;omega,?_,?_,?_,?_⟩,by simp[intOf]⟩
    ·rw[usl_keep (k:=0) rfl];exact HO.out.alloc _
    ·change World.cell? _ _=some (.bool false);go_simp
    ·change World.cell? _ _=some (.bool o1);go_simp
    ·change World.cell? _ _=some (.bool o2);go_simp
    ·change World.cell? _ _=some (.bool o3);go_simp
   ·clear hown
    go_wp2
    refine⟨⟨1,by omega,rfl,?_,by repeat(first|(with_reducible first|exact bLr|exact hB)|((with_reducible first|refine bLs ?_ ?_ _|refine bLa ?_ ?_ _);·first|omega|(simp<;>omega))|with_reducible first|refine bLn ?_ _|refine bLd ?_),by simp;omega,?_,?_,?_,?_⟩,by simp[intOf]⟩
    ·rw[usl_keep (k:=0) rfl];exact HO.out.alloc _
    ·change World.cell? _ _=some (.bool true);go_simp
    ·change World.cell? _ _=some (.bool o1);go_simp
    ·change World.cell? _ _=some (.bool o2);go_simp
    ·change World.cell? _ _=some (.bool o3);go_simp
  ·have hl:=usl_len (sel4 f0 f1 f2 f3) (sel4 o0 o1 o2 o3) 1
   have HO:=qh hown
   cases f1<;>cases o1
   ·clear hown
    go_wp2
    refine⟨⟨2,by omega,rfl,?_,by repeat(first|(with_reducible first|exact bLr|exact hB)|((with_reducible first|refine bLs ?_ ?_ _|refine bLa ?_ ?_ _);·first|omega|(simp<;>omega))|with_reducible first|refine bLn ?_ _|refine bLd ?_),by simp;omega,?_,?_,?_,?_⟩,by simp[intOf]⟩
    ·rw[usl_keep (k:=1) rfl];exact HO.out.alloc _
    ·change World.cell? _ _=some (.bool o0);go_simp
    ·change World.cell? _ _=some (.bool false);go_simp
    ·change World.cell? _ _=some (.bool o2);go_simp
    ·change World.cell? _ _=some (.bool o3);go_simp
   ·go_wp2_with (at_builtin;refine wpList_append_own _ rfl _ _ 254 rfl (w.heap.size+2) 3 i0 (.int .i64 0) 1 8 Tryz.underlying254 hi hz0 hz1 hz2 rfl (by decide) _ _ _ rfl ((hown.alloc _).alloc _) ⟨wr.heap.size+1,0,none⟩ 1 1 [.int .i64 1] rfl rfl (by intro j u h;cases j<;>simp at h;subst h;first|(simp[Addr.add];done)|(simp[Addr.add];go_simp)) (by simp[Value.oneCell']) (by unfold maxLen;omega) (by omega) (by first|omega|(simp<;>omega)) ?_;intro v' w1 hown' hgrow _)
    have BG:Below (w.heap.size+2) wr w1:=(((bLr).alloc (by omega) _).alloc (by simp;omega) _).grown hgrow (by simp;omega) (fun j e=>(HO.out.lt j e).1)
    refine⟨⟨2,by omega,rfl,?_,hB.trans (BG.mono (by omega)),by have:=BG.size;omega,?_,?_,?_,?_⟩,by simp[intOf]⟩
    ·rw[usl_take (k:=1) rfl];simpa[intsV]using hown'
    ·change World.cell? _ _=some (.bool o0);exact(BG.cell (p:=⟨w.heap.size+1,0,none⟩) (by simp)).trans c0
    ·change World.cell? _ _=some (.bool true);exact(BG.cell (p:=⟨w.heap.size+1,1,none⟩) (by simp)).trans c1
    ·change World.cell? _ _=some (.bool o2);exact(BG.cell (p:=⟨w.heap.size+1,2,none⟩) (by simp)).trans c2
    ·change World.cell? _ _=some (.bool o3);exact(BG.cell (p:=⟨w.heap.size+1,3,none⟩) (by simp)).trans c3
   ·clear hown
    go_wp2
    refine⟨⟨2,by omega,rfl,?_,by repeat(first|(with_reducible first|exact bLr|exact hB)|((with_reducible first|refine bLs ?_ ?_ _|refine bLa ?_ ?_ _);·first|omega|(simp<;>omega))|with_reducible first|refine bLn ?_ _|refine bLd ?_),by simp;omega,?_,?_,?_,?_⟩,by simp[intOf]⟩
    ·rw[usl_keep (k:=1) rfl];exact HO.out.alloc _
    ·change World.cell? _ _=some (.bool o0);go_simp
    ·change World.cell? _ _=some (.bool false);go_simp
    ·change World.cell? _ _=some (.bool o2);go_simp
    ·change World.cell? _ _=some (.bool o3);go_simp
   ·clear hown
    go_wp2
    refine⟨⟨2,by omega,rfl,?_,by repeat(first|(with_reducible first|exact bLr|exact hB)|((with_reducible first|refine bLs ?_ ?_ _|refine bLa ?_ ?_ _);·first|omega|(simp<;>omega))|with_reducible first|refine bLn ?_ _|refine bLd ?_),by simp;omega,?_,?_,?_,?_⟩,by simp[intOf]⟩
    ·rw[usl_keep (k:=1) rfl];exact HO.out.alloc _
    ·change World.cell? _ _=some (.bool o0);go_simp
    ·change World.cell? _ _=some (.bool true);go_simp
    ·change World.cell? _ _=some (.bool o2);go_simp
    ·change World.cell? _ _=some (.bool o3);go_simp
  ·have hl:=usl_len (sel4 f0 f1 f2 f3) (sel4 o0 o1 o2 o3) 2
   have HO:=qh hown
   cases f2<;>cases o2
   ·clear hown
    go_wp2
    refine⟨⟨3,by omega,rfl,?_,by repeat(first|(with_reducible first|exact bLr|exact hB)|((with_reducible first|refine bLs ?_ ?_ _|refine bLa ?_ ?_ _);·first|omega|(simp<;>omega))|with_reducible first|refine bLn ?_ _|refine bLd ?_),by simp;omega,?_,?_,?_,?_⟩,by simp[intOf]⟩
    ·rw[usl_keep (k:=2) rfl];exact HO.out.alloc _
    ·change World.cell? _ _=some (.bool o0);go_simp
    ·change World.cell? _ _=some (.bool o1);go_simp
    ·change World.cell? _ _=some (.bool false);go_simp
    ·change World.cell? _ _=some (.bool o3);go_simp
   ·go_wp2_with (at_builtin;refine wpList_append_own _ rfl _ _ 254 rfl (w.heap.size+2) 3 i0 (.int .i64 0) 1 8 Tryz.underlying254 hi hz0 hz1 hz2 rfl (by decide) _ _ _ rfl ((hown.alloc _).alloc _) ⟨wr.heap.size+1,0,none⟩ 1 1 [.int .i64 2] rfl rfl (by intro j u h;cases j<;>simp at h;subst h;first|(simp[Addr.add];done)|(simp[Addr.add];go_simp)) (by simp[Value.oneCell']) (by unfold maxLen;omega) (by omega) (by first|omega|(simp<;>omega)) ?_;intro v' w1 hown' hgrow _)
    have BG:Below (w.heap.size+2) wr w1:=(((bLr).alloc (by omega) _).alloc (by simp;omega) _).grown hgrow (by simp;omega) (fun j e=>(HO.out.lt j e).1)
    refine⟨⟨3,by omega,rfl,?_,hB.trans (BG.mono (by omega)),by have:=BG.size;omega,?_,?_,?_,?_⟩,by simp[intOf]⟩
    ·rw[usl_take (k:=2) rfl];simpa[intsV]using hown'
    ·change World.cell? _ _=some (.bool o0);exact(BG.cell (p:=⟨w.heap.size+1,0,none⟩) (by simp)).trans c0
    ·change World.cell? _ _=some (.bool o1);exact(BG.cell (p:=⟨w.heap.size+1,1,none⟩) (by simp)).trans c1
    ·change World.cell? _ _=some (.bool true);exact(BG.cell (p:=⟨w.heap.size+1,2,none⟩) (by simp)).trans c2
    ·change World.cell? _ _=some (.bool o3);exact(BG.cell (p:=⟨w.heap.size+1,3,none⟩) (by simp)).trans c3
   ·clear hown
    go_wp2
    refine⟨⟨3,by omega,rfl,?_,by repeat(first|(with_reducible first|exact bLr|exact hB)|((with_reducible first|refine bLs ?_ ?_ _|refine bLa ?_ ?_ _);·first|omega|(simp<;>omega))|with_reducible first|refine bLn ?_ _|refine bLd ?_),by simp;omega,?_,?_,?_,?_⟩,by simp[intOf]⟩
    ·rw[usl_keep (k:=2) rfl];exact HO.out.alloc _
    ·change World.cell? _ _=some (.bool o0);go_simp
    ·change World.cell? _ _=some (.bool o1);go_simp
    ·change World.cell? _ _=some (.bool false);go_simp
    ·change World.cell? _ _=some (.bool o3);go_simp
   ·clear hown
    go_wp2
    refine⟨⟨3,by omega,rfl,?_,by repeat(first|(with_reducible first|exact bLr|exact hB)|((with_reducible first|refine bLs ?_ ?_ _|refine bLa ?_ ?_ _);·first|omega|(simp<;>omega))|with_reducible first|refine bLn ?_ _|refine bLd ?_),by simp;omega,?_,?_,?_,?_⟩,by simp[intOf]⟩
    ·rw[usl_keep (k:=2) rfl];exact HO.out.alloc _
    ·change World.cell? _ _=some (.bool o0);go_simp
    ·change World.cell? _ _=some (.bool o1);go_simp
    ·change World.cell? _ _=some (.bool true);go_simp
    ·change World.cell? _ _=some (.bool o3);go_simp
  ·have hl:=usl_len (sel4 f0 f1 f2 f3) (sel4 o0 o1 o2 o3) 3
   have HO:=qh hown
   cases f3<;>cases o3
   ·clear hown
    go_wp2
    refine⟨⟨4,by omega,rfl,?_,by repeat(first|(with_reducible first|exact bLr|exact hB)|((with_reducible first|refine bLs ?_ ?_ _|refine bLa ?_ ?_ _);·first|omega|(simp<;>omega))|with_reducible first|refine bLn ?_ _|refine bLd ?_),by simp;omega,?_,?_,?_,?_⟩,by simp[intOf]⟩
    ·rw[usl_keep (k:=3) rfl];exact HO.out.alloc _
    ·change World.cell? _ _=some (.bool o0);go_simp
    ·change World.cell? _ _=some (.bool o1);go_simp
    ·change World.cell? _ _=some (.bool o2);go_simp
    ·change World.cell? _ _=some (.bool false);go_simp
   ·go_wp2_with (at_builtin;refine wpList_append_own _ rfl _ _ 254 rfl (w.heap.size+2) 3 i0 (.int .i64 0) 1 8 Tryz.underlying254 hi hz0 hz1 hz2 rfl (by decide) _ _ _ rfl ((hown.alloc _).alloc _) ⟨wr.heap.size+1,0,none⟩ 1 1 [.int .i64 3] rfl rfl (by intro j u h;cases j<;>simp at h;subst h;first|(simp[Addr.add];done)|(simp[Addr.add];go_simp)) (by simp[Value.oneCell']) (by unfold maxLen;omega) (by omega) (by first|omega|(simp<;>omega)) ?_;intro v' w1 hown' hgrow _)
    have BG:Below (w.heap.size+2) wr w1:=(((bLr).alloc (by omega) _).alloc (by simp;omega) _).grown hgrow (by simp;omega) (fun j e=>(HO.out.lt j e).1)
    refine⟨⟨4,by omega,rfl,?_,hB.trans (BG.mono (by omega)),by have:=BG.size;omega,?_,?_,?_,?_⟩,by simp[intOf]⟩
    ·rw[usl_take (k:=3) rfl];simpa[intsV]using hown'
    ·change World.cell? _ _=some (.bool o0);exact(BG.cell (p:=⟨w.heap.size+1,0,none⟩) (by simp)).trans c0
    ·change World.cell? _ _=some (.bool o1);exact(BG.cell (p:=⟨w.heap.size+1,1,none⟩) (by simp)).trans c1
    ·change World.cell? _ _=some (.bool o2);exact(BG.cell (p:=⟨w.heap.size+1,2,none⟩) (by simp)).trans c2
    ·change World.cell? _ _=some (.bool true);exact(BG.cell (p:=⟨w.heap.size+1,3,none⟩) (by simp)).trans c3
   ·clear hown
    go_wp2
    refine⟨⟨4,by omega,rfl,?_,by repeat(first|(with_reducible first|exact bLr|exact hB)|((with_reducible first|refine bLs ?_ ?_ _|refine bLa ?_ ?_ _);·first|omega|(simp<;>omega))|with_reducible first|refine bLn ?_ _|refine bLd ?_),by simp;omega,?_,?_,?_,?_⟩,by simp[intOf]⟩
    ·rw[usl_keep (k:=3) rfl];exact HO.out.alloc _
    ·change World.cell? _ _=some (.bool o0);go_simp
    ·change World.cell? _ _=some (.bool o1);go_simp
    ·change World.cell? _ _=some (.bool o2);go_simp
    ·change World.cell? _ _=some (.bool false);go_simp
   ·clear hown
    go_wp2
    refine⟨⟨4,by omega,rfl,?_,by repeat(first|(with_reducible first|exact bLr|exact hB)|((with_reducible first|refine bLs ?_ ?_ _|refine bLa ?_ ?_ _);·first|omega|(simp<;>omega))|with_reducible first|refine bLn ?_ _|refine bLd ?_),by simp;omega,?_,?_,?_,?_⟩,by simp[intOf]⟩
    ·rw[usl_keep (k:=3) rfl];exact HO.out.alloc _
    ·change World.cell? _ _=some (.bool o0);go_simp
    ·change World.cell? _ _=some (.bool o1);go_simp
    ·change World.cell? _ _=some (.bool o2);go_simp
    ·change World.cell? _ _=some (.bool true);go_simp
  ·go_wp2
   go_ret
   exact⟨_,rfl,hown,hB⟩
theorem grownBy_two {w w1 w2:World} {r:Option Nat} (h:w.grownBy w1 r) (k:w1.grownBy w2 r):w.grownBy w2 r:=
 ⟨k.os.trans h.os,k.tape.trans h.tape,k.output.trans h.output,Nat.le_trans h.size k.size,fun i hi hne=>(k.block i (Nat.lt_of_lt_of_le hi h.size) hne).trans (h.block i hi hne)⟩
theorem grownBy_refl (w:World) (r:Option Nat):w.grownBy w r:=⟨rfl,rfl,rfl,Nat.le_refl _,fun _ _ _=>rfl⟩
theorem grown_alloc_drew (w:World) (o:Obj) (r:Option Nat):w.grownBy (w.alloc o).drew r:=
 let h:=World.grownBy_alloc w o r
 ⟨h.os,h.tape,h.output,h.size,h.block⟩
theorem TeamAt.alloc_drew {w:World} {b:Nat} {T:Team} (h:TeamAt w b T) (o:Obj):TeamAt (w.alloc o).drew b T:=h.later (((Below.refl w.heap.size w).alloc (Nat.le_refl _) o).drew) h.lt
def tk (g:Nat→Int×Bool×Int→Int×Bool×Int) (T:Team) (k:Nat):Team:=fun j=>if j<k then g j (T j)else T j
theorem tk_zero (g:Nat→Int×Bool×Int→Int×Bool×Int) (T:Team):tk g T 0=T:=by funext j;simp[tk]
theorem tk_at (g:Nat→Int×Bool×Int→Int×Bool×Int) (T:Team) (k:Nat):tk g T k k=T k:=by simp[tk]
theorem tk_succ (g:Nat→Int×Bool×Int→Int×Bool×Int) (T:Team) (k:Nat):upd (tk g T k) k (g k (T k))=tk g T (k+1):=by
 funext j
 unfold upd tk
 by_cases h:j=k
 ·subst h;simp
 ·rw[if_neg h]
  by_cases h2:j<k
  ·rw[if_pos h2,if_pos (by omega)]
  ·rw[if_neg h2,if_neg (by omega)]
theorem tk_same {g:Nat→Int×Bool×Int→Int×Bool×Int} {T:Team} {k:Nat} (h:g k (T k)=T k):tk g T (k+1)=tk g T k:=by
 rw[←tk_succ,h]
 funext j
 unfold upd
 by_cases hj:j=k
 ·rw[if_pos hj,hj,tk_at]
 ·rw[if_neg hj]
def dampS (_:Nat) (s:Int×Bool×Int):Int×Bool×Int:=nx s 5
def freeS (_:Nat) (s:Int×Bool×Int):Int×Bool×Int:=if s.1=3 then nx s 6 else s
def armT (T:Team) (U:List Nat):Nat→Team
 |0=>T
 |n+1=>upd (armT T U n) (U.getD n 0) (nx (armT T U n (U.getD n 0)) (if n<2 then 1 else 2))
theorem armT_ok {T:Team} {U:List Nat} (h:∀j,j<4→OkS (T j)) (n:Nat):∀j,j<4→OkS (armT T U n j):=by
 induction n with
 |zero=>exact h
 |succ n ih=>
  intro j hj
  simp only[armT,upd]
  split
  ·rename_i hj2
   subst hj2
   exact nx_ok (ih _ hj) (by split<;>omega)
  ·exact ih j hj
def ChRel (w:World) (b:Nat) (g:Nat→Int×Bool×Int→Int×Bool×Int) (T:Team) (i:Value) (wr:World):Prop:=∃k:Nat,k≤4∧i=.int .i64 k∧TeamAt wr b (tk g T k)∧w.grownBy wr (some b)
def ArmRel (w:World) (b:Nat) (T:Team) (U:List Nat) (i:Value) (wr:World):Prop:=∃n:Nat,n≤U.length∧i=.int .i64 n∧TeamAt wr b (armT T U n)∧w.grownBy wr (some b)
theorem choose_none (b:Nat) (T:Team) (a:Option Addr) (cap:Nat) (w:World) (hT:TeamAt w b T) (hok:∀j,j<4→OkS (T j)):
  Calls Tryz.prog 157 #[.pointer (some ⟨b,0,none⟩),.slice a 0 cap] w (OnPost b (tk dampS T 4) w):=by
 have HT:=qh hT;have HOK:=qh hok
 clear hT hok
 go_enter Tryz.func157,Tryz.ntmps157
 go_wp2
 go_loopw [12] (fun i wr=>ChRel w b dampS T i wr) (fun i _=>4-(intOf i).toNat)
 case atStart=>exact⟨0,by omega,rfl,by rw[tk_zero];exact HT.out,grownBy_refl _ _⟩
 case round=>
  obtain⟨k,hk,rfl,hTk,hg⟩:=hrel
  have HTK:=qh hTk;have HG:=qh hg
  clear hTk hg
  by_cases hlt:k<4
  ·have hd:(k:Int)<4:=by omega
   go_wp2_with fail
   refine(on_any b _ k hlt 5 (by omega) _ HTK.out (by rw[tk_at];exact HOK.out k hlt)).mono ?_
   rintro e1 w1 ⟨rfl,hT1,hg1⟩
   have HT1:=qh hT1;have HG1:=qh hg1
   clear hT1 hg1
   go_wp2
   go_roundw
   case rel=>exact⟨k+1,by omega,by go_num,by have:=HT1.out;rw[tk_at]at this;rw[←tk_succ];exact this,grownBy_two HG.out HG1.out⟩
   case measure=>simp[intOf];omega
  ·obtain rfl:k=4:=by omega
   go_wp2
   exact bodyPost_ret (v:=.tuple #[]) (by simp[results,Tryz.results157,go_sem]) rfl ⟨rfl,HTK.out,HG.out⟩
theorem choose_some (b:Nat) (T:Team) (g cap:Nat) (U:List Nat) (w:World) (hT:TeamAt w b T) (hok:∀j,j<4→OkS (T j)) (hU:0<U.length∧U.length≤4) (hU4:∀i,i<U.length→U.getD i 0<4) (hg:g≠b∧g<w.heap.size) (hc:U.length≤cap∧cap≤9223372036854775807)
  (hcell:∀i,i<U.length→w.cell? ⟨g,i,none⟩=some (.int .i64 (U.getD i 0:Nat))):
  Calls Tryz.prog 157 #[.pointer (some ⟨b,0,none⟩),.slice (some ⟨g,0,none⟩) U.length cap] w (OnPost b (armT (tk freeS T 4) U U.length) w):=by
 have HT:=qh hT;have HOK:=qh hok;have HC:=qh hcell;have HU4:=qh hU4
 obtain⟨hg1,hg2⟩:=hg
 have hUn:¬U.length=0:=by omega
 have hU0:((U.length:Int)==0)=false:=beq_eq_false_iff_ne.2 (by omega)
 have hbb:=HT.out.lt
 clear hT hok hcell hU4
 go_enter Tryz.func157,Tryz.ntmps157
 go_wp2
 go_loopw [21] (fun i wr=>ChRel w b freeS T i wr) (fun i _=>4-(intOf i).toNat)
 case atStart=>exact⟨0,by omega,rfl,by rw[tk_zero];exact HT.out,grownBy_refl _ _⟩
 case round=>
  obtain⟨k,hk,rfl,hTk,hgw⟩:=hrel
  have HTK:=qh hTk;have HG:=qh hgw
  clear hTk hgw
  by_cases hlt:k<4
  ·rcases(by omega:k=0∨k=1∨k=2∨k=3)with rfl|rfl|rfl|rfl
   ·have hd:((0:Nat):Int)<4:=by omega
    obtain⟨c0,c1,c2⟩:=HTK.out.1 0 (by omega)
    rw[tk_at]at c0 c1 c2
    change wr.cell? ⟨b,0,none⟩=_ at c0
    change wr.cell? ⟨b,1,none⟩=_ at c1
    change wr.cell? ⟨b,2,none⟩=_ at c2
    have hok:=HOK.out 0 (by omega)
    have hbw:b<wr.heap.size:=HTK.out.lt
    have HO:=qh hok
    clear hok
    by_cases h3:(T 0).1=3
    ·have d3:((T 0).1==3)=true:=by simpa using h3
     have HF:Hid (freeS 0 (T 0)=nx (T 0) 6):=(by unfold freeS;rw[if_pos h3]:freeS 0 (T 0)=nx (T 0) 6)
     clear h3
     go_wp2
     go_region
     go_wp2_with fail
     refine(on_any b _ 0 (by omega) 6 (by omega) _ (HTK.out.alloc_drew _) (by rw[tk_at];exact HO.out)).mono ?_
     rintro e1 w1 ⟨rfl,hT1,hg1⟩
     have HT1:=qh hT1;have HG1:=qh hg1
     clear hT1 hg1 c0 c1 c2
     go_wp2
     go_roundw
     case rel=>exact⟨1,by omega,rfl,by have:=HT1.out;rw[tk_at,←HF.out]at this;rw[←tk_succ];exact this,grownBy_two HG.out (grownBy_two (grown_alloc_drew _ _ _) HG1.out)⟩
     case measure=>simp[intOf]
    ·have d3:((T 0).1==3)=false:=by simpa using h3
     have HF:Hid (freeS 0 (T 0)=T 0):=(by unfold freeS;rw[if_neg h3]:freeS 0 (T 0)=T 0)
     clear h3
     go_wp2
     go_region
     go_wp2
     go_roundw
     case rel=>exact⟨1,by omega,rfl,by rw[tk_same HF.out];exact HTK.out.alloc_drew _,grownBy_two HG.out (grown_alloc_drew _ _ _)⟩
     case measure=>simp[intOf]
   ·have hd:((1:Nat):Int)<4:=by omega
    obtain⟨c0,c1,c2⟩:=HTK.out.1 1 (by omega)
    rw[tk_at]at c0 c1 c2
    change wr.cell? ⟨b,3,none⟩=_ at c0
    change wr.cell? ⟨b,4,none⟩=_ at c1
    change wr.cell? ⟨b,5,none⟩=_ at c2
    have hok:=HOK.out 1 (by omega)
    have hbw:b<wr.heap.size:=HTK.out.lt
    have HO:=qh hok
    clear hok
    by_cases h3:(T 1).1=3
    ·have d3:((T 1).1==3)=true:=by simpa using h3
     have HF:Hid (freeS 1 (T 1)=nx (T 1) 6):=(by unfold freeS;rw[if_pos h3]:freeS 1 (T 1)=nx (T 1) 6)
     clear h3
     go_wp2
     go_region
     go_wp2_with fail
     refine(on_any b _ 1 (by omega) 6 (by omega) _ (HTK.out.alloc_drew _) (by rw[tk_at];exact HO.out)).mono ?_
     rintro e1 w1 ⟨rfl,hT1,hg1⟩
     have HT1:=qh hT1;have HG1:=qh hg1
     clear hT1 hg1 c0 c1 c2
     go_wp2
     go_roundw
     case rel=>exact⟨2,by omega,rfl,by have:=HT1.out;rw[tk_at,←HF.out]at this;rw[←tk_succ];exact this,grownBy_two HG.out (grownBy_two (grown_alloc_drew _ _ _) HG1.out)⟩
     case measure=>simp[intOf]
    ·have d3:((T 1).1==3)=false:=by simpa using h3
     have HF:Hid (freeS 1 (T 1)=T 1):=(by unfold freeS;rw[if_neg h3]:freeS 1 (T 1)=T 1)
     clear h3
     go_wp2
     go_region
     go_wp2
     go_roundw
     case rel=>exact⟨2,by omega,rfl,by rw[tk_same HF.out];exact HTK.out.alloc_drew _,grownBy_two HG.out (grown_alloc_drew _ _ _)⟩
     case measure=>simp[intOf]
   ·have hd:((2:Nat):Int)<4:=by omega
    obtain⟨c0,c1,c2⟩:=HTK.out.1 2 (by omega)
    rw[tk_at]at c0 c1 c2
    change wr.cell? ⟨b,6,none⟩=_ at c0
    change wr.cell? ⟨b,7,none⟩=_ at c1
    change wr.cell? ⟨b,8,none⟩=_ at c2
    have hok:=HOK.out 2 (by omega)
    have hbw:b<wr.heap.size:=HTK.out.lt
    have HO:=qh hok
    clear hok
    by_cases h3:(T 2).1=3
    ·have d3:((T 2).1==3)=true:=by simpa using h3
     have HF:Hid (freeS 2 (T 2)=nx (T 2) 6):=(by unfold freeS;rw[if_pos h3]:freeS 2 (T 2)=nx (T 2) 6)
     clear h3
     go_wp2
     go_region
     go_wp2_with fail
     refine(on_any b _ 2 (by omega) 6 (by omega) _ (HTK.out.alloc_drew _) (by rw[tk_at];exact HO.out)).mono ?_
     rintro e1 w1 ⟨rfl,hT1,hg1⟩
     have HT1:=qh hT1;have HG1:=qh hg1
     clear hT1 hg1 c0 c1 c2
     go_wp2
     go_roundw
     case rel=>exact⟨3,by omega,rfl,by have:=HT1.out;rw[tk_at,←HF.out]at this;rw[←tk_succ];exact this,grownBy_two HG.out (grownBy_two (grown_alloc_drew _ _ _) HG1.out)⟩
     case measure=>simp[intOf]
    ·have d3:((T 2).1==3)=false:=by simpa using h3
     have HF:Hid (freeS 2 (T 2)=T 2):=(by unfold freeS;rw[if_neg h3]:freeS 2 (T 2)=T 2)
     clear h3
     go_wp2
     go_region
     go_wp2
     go_roundw
     case rel=>exact⟨3,by omega,rfl,by rw[tk_same HF.out];exact HTK.out.alloc_drew _,grownBy_two HG.out (grown_alloc_drew _ _ _)⟩
     case measure=>simp[intOf]
   ·have hd:((3:Nat):Int)<4:=by omega
    obtain⟨c0,c1,c2⟩:=HTK.out.1 3 (by omega)
    rw[tk_at]at c0 c1 c2
    change wr.cell? ⟨b,9,none⟩=_ at c0
    change wr.cell? ⟨b,10,none⟩=_ at c1
    change wr.cell? ⟨b,11,none⟩=_ at c2
    have hok:=HOK.out 3 (by omega)
    have hbw:b<wr.heap.size:=HTK.out.lt
    have HO:=qh hok
    clear hok
    by_cases h3:(T 3).1=3
    ·have d3:((T 3).1==3)=true:=by simpa using h3
     have HF:Hid (freeS 3 (T 3)=nx (T 3) 6):=(by unfold freeS;rw[if_pos h3]:freeS 3 (T 3)=nx (T 3) 6)
     clear h3
     go_wp2
     go_region
     go_wp2_with fail
     refine(on_any b _ 3 (by omega) 6 (by omega) _ (HTK.out.alloc_drew _) (by rw[tk_at];exact HO.out)).mono ?_
     rintro e1 w1 ⟨rfl,hT1,hg1⟩
     have HT1:=qh hT1;have HG1:=qh hg1
     clear hT1 hg1 c0 c1 c2
     go_wp2
     go_roundw
     case rel=>exact⟨4,by omega,rfl,by have:=HT1.out;rw[tk_at,←HF.out]at this;rw[←tk_succ];exact this,grownBy_two HG.out (grownBy_two (grown_alloc_drew _ _ _) HG1.out)⟩
     case measure=>simp[intOf]
    ·have d3:((T 3).1==3)=false:=by simpa using h3
     have HF:Hid (freeS 3 (T 3)=T 3):=(by unfold freeS;rw[if_neg h3]:freeS 3 (T 3)=T 3)
     clear h3
     go_wp2
     go_region
     go_wp2
     go_roundw
     case rel=>exact⟨4,by omega,rfl,by rw[tk_same HF.out];exact HTK.out.alloc_drew _,grownBy_two HG.out (grown_alloc_drew _ _ _)⟩
     case measure=>simp[intOf]
  ·obtain rfl:k=4:=by omega
   have HOK2:Hid (∀j,j<4→OkS (tk freeS T 4 j)):=(fun j hj=>by
    unfold tk;rw[if_pos hj];unfold freeS
    split
    ·exact nx_ok (HOK.out j hj) (by omega)
    ·exact HOK.out j hj:∀j,j<4→OkS (tk freeS T 4 j))
   generalize tk freeS T 4=T2 at *
   rw[show((4:Nat):Int)=4 from rfl]
   go_wp2
   go_loopw [36] (fun i wr=>ArmRel w b T2 U i wr) (fun i _=>U.length-(intOf i).toNat)
   case atStart=>exact⟨0,by omega,rfl,HTK.out,HG.out⟩
   case round=>
    obtain⟨n,hn,rfl,hTk,hgw⟩:=hrel
    have HTA:=qh hTk;have HGA:=qh hgw
    by_cases hlt:n<U.length
    ·have cu:=hgw.cell (HC.out n hlt) (by simpa using hg1)
     have hgl:g<wr.heap.size:=Nat.lt_of_lt_of_le hg2 hgw.size
     have hil:(n:Int)<U.length:=by omega
     obtain⟨u,hu⟩:∃u,U.getD n 0=u:=⟨_,rfl⟩
     have hu4:=HU4.out n hlt
     rw[hu]at cu hu4
     have HUU:=qh hu
     clear hTk hgw hu
     by_cases h2:n<2
     ·have d2:decide ((n:Int)<2)=true:=decide_eq_true (by omega)
      go_wp2_with fail
      refine(on_any b _ u hu4 1 (by omega) _ HTA.out (armT_ok HOK2.out n _ hu4)).mono ?_
      rintro e1 w1 ⟨rfl,hT1,hg1⟩
      have HT1:=qh hT1;have HG1:=qh hg1
      clear hT1 hg1 cu
      go_wp2
      go_roundw
      case rel=>exact⟨n+1,by omega,by go_num,by have:=HT1.out;simp only[armT];rw[if_pos h2,HUU.out];exact this,grownBy_two HGA.out HG1.out⟩
      case measure=>simp[intOf];omega
     ·have d2:decide ((n:Int)<2)=false:=decide_eq_false (by omega)
      go_wp2_with fail
      refine(on_any b _ u hu4 2 (by omega) _ HTA.out (armT_ok HOK2.out n _ hu4)).mono ?_
      rintro e1 w1 ⟨rfl,hT1,hg1⟩
      have HT1:=qh hT1;have HG1:=qh hg1
      clear hT1 hg1 cu
      go_wp2
      go_roundw
      case rel=>exact⟨n+1,by omega,by go_num,by have:=HT1.out;simp only[armT];rw[if_neg h2,HUU.out];exact this,grownBy_two HGA.out HG1.out⟩
      case measure=>simp[intOf];omega
    ·obtain rfl:n=U.length:=by omega
     clear hTk hgw
     go_wp2
     exact bodyPost_ret (v:=.tuple #[]) (by simp[results,Tryz.results157,go_sem]) rfl ⟨rfl,HTA.out,HGA.out⟩
end Go.Proofs.YtpkiepjmcepnoaaGreatDoor
