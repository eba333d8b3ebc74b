/- A part of a proof. -/
import Derived.Deep.RegionHeld3
import Derived.Test.YtpkiepjmcepnoaaGreatDoorPtM
set_option maxHeartbeats 16000000
set_option maxRecDepth 100000
namespace Go.Proofs.YtpkiepjmcepnoaaGreatDoor
open Go.ChangeShapes Go.WideShapes Go.ChangeAt Go.RowKit
set_option linter.unusedVariables false
theorem own_slice {w:World} {base:Nat} {U:List Nat} {v:Value} (h:w.ownsRow base 3 1 v U.length (intsV U)):
  (U.length=0∧∃a cap,v=.slice a 0 cap)∨(0<U.length∧∃g cap,v=.slice (some ⟨g,0,none⟩) U.length cap∧base≤g∧g<w.heap.size∧U.length≤cap∧cap≤9223372036854775807∧∀i,i<U.length→w.cell? ⟨g,i,none⟩=some (.int .i64 (U.getD i 0:Nat))):=by
 by_cases h0:U.length=0
 ·left
  refine⟨h0,?_⟩
  rcases h.2 with⟨hv,-⟩|⟨g,cap,cur,hv,-⟩
  ·exact⟨_,_,hv⟩
  ·rw[h0]at hv;exact⟨_,_,hv⟩
 ·right
  refine⟨by omega,?_⟩
  rcases h.2 with⟨-,hn⟩|⟨g,cap,cur,hv,hb,hblk,hl,hm,-,-⟩
  ·exact absurd hn h0
  ·subst hv
   refine⟨g,cap,rfl,hb,(Array.getElem?_eq_some_iff.1 hblk).1,hl,by unfold maxLen at hm;exact hm,fun i hi=>?_⟩
   rw[h.cellAt i (by omega)]
   simp[hi]
theorem usl_lt (fs os:Nat→Bool) (k:Nat):∀i,i<(usl fs os k).length→(usl fs os k).getD i 0<k:=by
 induction k with
 |zero=>intro i hi;simp[usl]at hi
 |succ k ih=>
  intro i hi
  by_cases h:(!fs k&&os k)=true
  ·rw[usl_take h]at hi⊢
   simp at hi
   by_cases hi2:i<(usl fs os k).length
   ·have:=ih i hi2
    simp[List.getElem?_append,hi2]at this⊢
    omega
   ·obtain rfl:i=(usl fs os k).length:=by omega
    simp
  ·rw[usl_keep (by simpa using h)]at hi⊢
   have:=ih i hi
   omega
def hitS (fl os:Nat→Bool) (j:Nat) (s:Int×Bool×Int):Int×Bool×Int:=
 let a:=if fl j=true then nx s 3 else s
 if os j=true then a else nx a 4
theorem hit_ok {fl os:Nat→Bool} {j:Nat} {s:Int×Bool×Int} (h:OkS s):OkS (hitS fl os j s):=by
 unfold hitS
 have h1:OkS (if fl j=true then nx s 3 else s):=by
  split
  ·exact nx_ok h (by omega)
  ·exact h
 simp only[]
 split
 ·exact h1
 ·exact nx_ok h1 (by omega)
theorem upd_upd (T:Team) (k:Nat) (a b:Int×Bool×Int):upd (upd T k a) k b=upd T k b:=by
 funext j;unfold upd;split<;>rfl
theorem upd_at (T:Team) (k:Nat) (a:Int×Bool×Int):upd T k a k=a:=by simp[upd]
theorem cell4 {w:World} {b:Nat} {a0 a1 a2 a3:Bool} (c0:w.cell? ⟨b,0,none⟩=some (.bool a0)) (c1:w.cell? ⟨b,1,none⟩=some (.bool a1)) (c2:w.cell? ⟨b,2,none⟩=some (.bool a2)) (c3:w.cell? ⟨b,3,none⟩=some (.bool a3)):
  ∀k,k<4→w.cell? ⟨b,k,none⟩=some (.bool (sel4 a0 a1 a2 a3 k)):=by
 intro k hk
 rcases(by omega:k=0∨k=1∨k=2∨k=3)with rfl|rfl|rfl|rfl
 ·exact c0
 ·exact c1
 ·exact c2
 ·exact c3
theorem team12 {w:World} {b:Nat} {T:Team} (hf:∀o,w.frozen? ⟨b,o,none⟩=false)
  (c0:w.cell? ⟨b,0,none⟩=some (.int .i64 (T 0).1)) (c1:w.cell? ⟨b,1,none⟩=some (.bool (T 0).2.1)) (c2:w.cell? ⟨b,2,none⟩=some (.int .i64 (T 0).2.2))
  (c3:w.cell? ⟨b,3,none⟩=some (.int .i64 (T 1).1)) (c4:w.cell? ⟨b,4,none⟩=some (.bool (T 1).2.1)) (c5:w.cell? ⟨b,5,none⟩=some (.int .i64 (T 1).2.2))
  (c6:w.cell? ⟨b,6,none⟩=some (.int .i64 (T 2).1)) (c7:w.cell? ⟨b,7,none⟩=some (.bool (T 2).2.1)) (c8:w.cell? ⟨b,8,none⟩=some (.int .i64 (T 2).2.2))
  (c9:w.cell? ⟨b,9,none⟩=some (.int .i64 (T 3).1)) (c10:w.cell? ⟨b,10,none⟩=some (.bool (T 3).2.1)) (c11:w.cell? ⟨b,11,none⟩=some (.int .i64 (T 3).2.2)):TeamAt w b T:=by
 refine⟨fun i hi=>?_,hf⟩
 rcases(by omega:i=0∨i=1∨i=2∨i=3)with rfl|rfl|rfl|rfl
 ·exact⟨c0,c1,c2⟩
 ·exact⟨c3,c4,c5⟩
 ·exact⟨c6,c7,c8⟩
 ·exact⟨c9,c10,c11⟩
def chooseT (T:Team) (U:List Nat):Team:=if U.length=0 then tk dampS T 4 else armT (tk freeS T 4) U U.length
theorem own_val {w:World} {base:Nat} {U:List Nat} {v:Value} (h:w.ownsRow base 3 1 v U.length (intsV U)):∃a cap,v=.slice a U.length cap∧cap≤9223372036854775807∧U.length≤cap:=by
 rcases h.2 with⟨hv,hn⟩|⟨g,cap,cur,hv,-,-,hl,hm,-⟩
 ·exact⟨none,0,by rw[hv,hn],by omega,by omega⟩
 ·exact⟨_,cap,hv,by unfold maxLen at hm;exact hm,hl⟩
theorem choose_any (b:Nat) (T:Team) (a:Option Addr) (cap base:Nat) (U:List Nat) (w:World) (hT:TeamAt w b T) (hok:∀j,j<4→OkS (T j)) (hU:U.length≤4) (hU4:∀i,i<U.length→U.getD i 0<4) (hb:b<base)
  (hown:w.ownsRow base 3 1 (.slice a U.length cap) U.length (intsV U)):
  Calls Tryz.prog 157 #[.pointer (some ⟨b,0,none⟩),.slice a U.length cap] w (OnPost b (chooseT T U) w):=by
 unfold chooseT
 rcases own_slice hown with⟨h0,-⟩|⟨h0,g,cap',hv,hbg,hg,hl,hm,hc⟩
 ·rw[if_pos h0,h0];exact choose_none b T a cap w hT hok
 ·simp only[Value.slice.injEq,true_and]at hv
  obtain⟨rfl,rfl⟩:=hv
  rw[if_neg (by omega)]
  exact choose_some b T g cap U w hT hok ⟨h0,hU⟩ hU4 ⟨by omega,hg⟩ ⟨hl,hm⟩ hc
theorem chooseT_ok {T:Team} {U:List Nat} (h:∀j,j<4→OkS (T j)):∀j,j<4→OkS (chooseT T U j):=by
 intro j hj
 unfold chooseT
 split
 ·unfold tk;rw[if_pos hj];exact nx_ok (h j hj) (by omega)
 ·refine armT_ok (fun i hi=>?_) _ j hj
  unfold tk freeS
  rw[if_pos hi]
  split
  ·exact nx_ok (h i hi) (by omega)
  ·exact h i hi
def RepAt (w:World) (b:Nat) (u a:Int) (l:Bool):Prop:=w.cell? ⟨b,0,none⟩=some (.int .i64 u)∧w.cell? ⟨b,1,none⟩=some (.int .i64 a)∧w.cell? ⟨b,2,none⟩=some (.bool l)∧(∀o,w.frozen? ⟨b,o,none⟩=false)
theorem RepAt.lt {w:World} {b:Nat} {u a:Int} {l:Bool} (h:RepAt w b u a l):b<w.heap.size:=by
 have:=World.block_lt_of_cell? _ _ h.1
 simpa using this
theorem RepAt.kept {w w':World} {b c:Nat} {u a:Int} {l:Bool} (h:RepAt w b u a l) (hg:w.grownBy w' (some c)) (hne:b≠c):RepAt w' b u a l:=by
 have hb:=hg.block b h.lt (fun e=>hne (by cases e;rfl))
 obtain⟨h1,h2,h3,h4⟩:=h
 refine⟨(World.cell?_of_block (w:=w) hb).trans h1,(World.cell?_of_block (w:=w) hb).trans h2,(World.cell?_of_block (w:=w) hb).trans h3,fun o=>?_⟩
 exact(World.frozen?_of_block (w:=w) hb).trans (h4 o)
theorem RepAt.later {w w':World} {b B:Nat} {u a:Int} {l:Bool} (h:RepAt w b u a l) (hB:Below B w w') (hb:b<B):RepAt w' b u a l:=
 ⟨(hB.cell hb).trans h.1,(hB.cell hb).trans h.2.1,(hB.cell hb).trans h.2.2.1,fun o=>(hB.frozen hb).trans (h.2.2.2 o)⟩
theorem RepAt.alloc {w:World} {b:Nat} {u a:Int} {l:Bool} (h:RepAt w b u a l) (o:Obj):RepAt (w.alloc o) b u a l:=h.later ((Below.refl w.heap.size w).alloc (Nat.le_refl _) o) h.lt
theorem TeamAt.alloc {w:World} {b:Nat} {T:Team} (h:TeamAt w b T) (o:Obj):TeamAt (w.alloc o) b T:=h.later ((Below.refl w.heap.size w).alloc (Nat.le_refl _) o) h.lt
theorem rep_set {w:World} {b:Nat} {u a:Int} {l:Bool} (h:RepAt w b u a l) (x:Int):RepAt (w.setCell ⟨b,1,none⟩ (.int .i64 x)) b u x l:=
 ⟨(World.cell?_setCell_other _ _ _ _ (by simp)).trans h.1,World.cell?_setCell_same _ _ _ h.2.1,(World.cell?_setCell_other _ _ _ _ (by simp)).trans h.2.2.1,fun o=>by rw[World.frozen?_setCell];exact h.2.2.2 o⟩
theorem grown_set (w:World) (b o:Nat) (v:Value):w.grownBy (w.setCell ⟨b,o,none⟩ v) (some b):=
 ⟨rfl,rfl,rfl,by simp[World.setCell],fun k _ hne=>Below.heap_setCell _ _ _ k (fun e=>hne (by rw[e]))⟩
theorem keep3 {w:World} {b c x y z j:Nat} {v0 v1 v2 v3:Value} (h0:w.cell? ⟨b,x,none⟩=some v0) (h1:w.cell? ⟨b,y,none⟩=some v1) (h3:w.cell? ⟨c,j,none⟩=some v3) (hc:c≠b) (hxy:x≠y) (hxz:x≠z) (hyz:y≠z):
  (((w.setCell ⟨b,x,none⟩ v0).setCell ⟨b,y,none⟩ v1).setCell ⟨b,z,none⟩ v2).cell? ⟨b,x,none⟩=some v0∧(((w.setCell ⟨b,x,none⟩ v0).setCell ⟨b,y,none⟩ v1).setCell ⟨b,z,none⟩ v2).cell? ⟨b,y,none⟩=some v1∧
  (((w.setCell ⟨b,x,none⟩ v0).setCell ⟨b,y,none⟩ v1).setCell ⟨b,z,none⟩ v2).cell? ⟨c,j,none⟩=some v3:=by
 have ne:∀{x y:Nat},x≠y→(⟨b,x,none⟩:Addr)≠⟨b,y,none⟩:=fun hxy e=>hxy (congrArg Addr.off e)
 have nb:∀(x:Nat),(⟨b,x,none⟩:Addr)≠⟨c,j,none⟩:=fun x e=>hc (congrArg Addr.block e).symm
 refine⟨?_,?_,?_⟩
 ·rw[World.cell?_setCell_other _ _ _ _ (ne (Ne.symm hxz)),World.cell?_setCell_other _ _ _ _ (ne (Ne.symm hxy))]
  exact World.cell?_setCell_same _ _ _ h0
 ·rw[World.cell?_setCell_other _ _ _ _ (ne (Ne.symm hyz))]
  exact World.cell?_setCell_same _ _ _ ((World.cell?_setCell_other _ _ _ _ (ne hxy)).trans h1)
 ·rw[World.cell?_setCell_other _ _ _ _ (nb _),World.cell?_setCell_other _ _ _ _ (nb _),World.cell?_setCell_other _ _ _ _ (nb _)];exact h3
theorem grown_three' {w:World} {b:Nat} (o1 o2 o3:Nat) (v1 v2 v3:Value):w.grownBy (((w.setCell ⟨b,o1,none⟩ v1).setCell ⟨b,o2,none⟩ v2).setCell ⟨b,o3,none⟩ v3) (some b):=grown_three (bLr) _ _ _ _ _ _
def wrTeam (w:World) (b:Nat) (T:Team):World:=
 ((((((((((((w.setCell ⟨b,0,none⟩ (.int .i64 (T 0).1)).setCell ⟨b,1,none⟩ (.bool (T 0).2.1)).setCell ⟨b,2,none⟩ (.int .i64 (T 0).2.2)).setCell ⟨b,3,none⟩ (.int .i64 (T 1).1)).setCell ⟨b,4,none⟩ (.bool (T 1).2.1)).setCell ⟨b,5,none⟩ (.int .i64 (T 1).2.2)).setCell ⟨b,6,none⟩ (.int .i64 (T 2).1)).setCell ⟨b,7,none⟩ (.bool (T 2).2.1)).setCell ⟨b,8,none⟩ (.int .i64 (T 2).2.2)).setCell ⟨b,9,none⟩ (.int .i64 (T 3).1)).setCell ⟨b,10,none⟩ (.bool (T 3).2.1)).setCell ⟨b,11,none⟩ (.int .i64 (T 3).2.2))
theorem team_write {w:World} {b:Nat} {S:Team} (h:TeamAt w b S) (T:Team):TeamAt (wrTeam w b T) b T:=by
 have h1:=team_set h 0 (by omega) (T 0)
 have h2:=team_set h1 1 (by omega) (T 1)
 have h3:=team_set h2 2 (by omega) (T 2)
 have h4:=team_set h3 3 (by omega) (T 3)
 refine⟨fun i hi=>?_,h4.2⟩
 have h5:=h4.1 i hi
 rcases(by omega:i=0∨i=1∨i=2∨i=3)with rfl|rfl|rfl|rfl<;>exact h5
theorem team_grown (w:World) (b:Nat) (T:Team):w.grownBy (wrTeam w b T) (some b):=
 grownBy_two (grownBy_two (grownBy_two (grown_three' 0 1 2 _ _ _) (grown_three' 3 4 5 _ _ _)) (grown_three' 6 7 8 _ _ _)) (grown_three' 9 10 11 _ _ _)
theorem rep_write {w:World} {b:Nat} {u a:Int} {l:Bool} (h:RepAt w b u a l) (u' a':Int) (l':Bool):
  RepAt (((w.setCell ⟨b,0,none⟩ (.int .i64 u')).setCell ⟨b,1,none⟩ (.int .i64 a')).setCell ⟨b,2,none⟩ (.bool l')) b u' a' l':=by
 have ne:∀{x y:Nat},x≠y→(⟨b,x,none⟩:Addr)≠⟨b,y,none⟩:=fun hxy e=>hxy (congrArg Addr.off e)
 obtain⟨h0,h1,h2,h3⟩:=h
 refine⟨?_,?_,?_,fun o=>by rw[World.frozen?_setCell,World.frozen?_setCell,World.frozen?_setCell];exact h3 o⟩
 ·rw[World.cell?_setCell_other _ _ _ _ (ne (by omega)),World.cell?_setCell_other _ _ _ _ (ne (by omega))]
  exact World.cell?_setCell_same _ _ _ h0
 ·rw[World.cell?_setCell_other _ _ _ _ (ne (by omega))]
  exact World.cell?_setCell_same _ _ _ ((World.cell?_setCell_other _ _ _ _ (ne (by omega))).trans h1)
 ·exact World.cell?_setCell_same _ _ _ ((World.cell?_setCell_other _ _ _ _ (ne (by omega))).trans ((World.cell?_setCell_other _ _ _ _ (ne (by omega))).trans h2))
def stayS (T:Team) (j:Nat) (s:Int×Bool×Int):Int×Bool×Int:=if s.1=(T j).1 then(s.1,s.2.1,min 10000 ((T j).2.2+1))else s
def actN (T:Team):Nat→Int
 |0=>0
 |k+1=>actN T k+if(T k).1=1 then 1 else 0
theorem actI_bd (T:Team) (k:Nat):0≤actN T k∧actN T k≤k:=by
 induction k with
 |zero=>simp[actN]
 |succ k ih=>simp only[actN];split<;>omega
def TickRel (w:World) (B C R:Nat) (T T2:Team) (n:Int) (L:Bool) (i:Value) (wr:World):Prop:=∃k:Nat,k≤4∧i=.int .i64 k∧TeamAt wr B (tk (stayS T) T2 k)∧RepAt wr R n (actN T2 k) L∧TeamAt wr C T∧
 TeamAt wr (B+1+1+1) (fun _=>(0,false,0))∧RepAt wr (B+1+1+1+1) 0 0 false∧Below w.heap.size w wr
def HitRel (w w1:World) (fl os:Nat→Bool) (T:Team) (i:Value) (wr:World):Prop:=∃k:Nat,k≤4∧i=.int .i64 k∧TeamAt wr w.heap.size (tk (hitS fl os) T k)∧w1.grownBy wr (some w.heap.size)∧TeamAt wr w1.heap.size T
def planU (T:Team) (fl os:Nat→Bool):List Nat:=usl (sel4 (tk (hitS fl os) T 4 0).2.1 (tk (hitS fl os) T 4 1).2.1 (tk (hitS fl os) T 4 2).2.1 (tk (hitS fl os) T 4 3).2.1) os 4
def planC (T:Team) (fl os:Nat→Bool):Team:=chooseT (tk (hitS fl os) T 4) (planU T fl os)
def planT (T:Team) (fl os:Nat→Bool):Team:=tk (stayS T) (planC T fl os) 4
def repV (n a:Int) (l:Bool):Value:=.agg #[.int .i64 n,.int .i64 a,.bool l]
def PlanPost (T:Team) (fl os:Nat→Bool) (w:World) (e:Ending) (w':World):Prop:=
 e=.returned (.tuple #[teamV (planT T fl os),repV (planU T fl os).length (actN (planC T fl os) 4) (((planU T fl os).length:Int)==0),.int .i64 0])∧Below w.heap.size w w'
theorem plan_yes (T:Team) (o0 o1 o2 o3 a0 a1 a2 a3:Bool) (w:World) (hok:∀j,j<4→OkS (T j)):
  Calls Tryz.prog 121 #[teamV T,.agg #[.bool o0,.bool o1,.bool o2,.bool o3],.agg #[.bool a0,.bool a1,.bool a2,.bool a3]] w
   (PlanPost T (sel4 a0 a1 a2 a3) (sel4 o0 o1 o2 o3) w):=by
 have HOK:=qh hok
 have k0:=hok 0 (by omega);have k1:=hok 1 (by omega);have k2:=hok 2 (by omega);have k3:=hok 3 (by omega)
 have K0:=qh k0;have K1:=qh k1;have K2:=qh k2;have K3:=qh k3
 clear hok k0 k1 k2 k3
 go_enter Tryz.func121,Tryz.ntmps121
 go_wp2_with fail
 refine(redCheck_yes _ _ _ _ _ _ _ _ _ _ _ _ _ K0.out K1.out K2.out K3.out).mono ?_
 rintro e1 w1 ⟨rfl,hb1⟩
 have z1:=hb1.size
 simp at z1
 have B1:Below w.heap.size w w1:=by repeat(first|(with_reducible first|exact bLr)|((with_reducible first|refine bLs ?_ ?_ _|refine bLt hb1 ?_ ?_|refine bLa ?_ ?_ _);·first|omega|(simp<;>omega))|with_reducible first|refine bLn ?_ _|refine bLd ?_)
 have t0:w1.cell? ⟨w.heap.size,0,none⟩=some (.int .i64 (T 0).1):=cell_later hb1 (by go_simp)
 have t1:w1.cell? ⟨w.heap.size,1,none⟩=some (.bool (T 0).2.1):=cell_later hb1 (by go_simp)
 have t2:w1.cell? ⟨w.heap.size,2,none⟩=some (.int .i64 (T 0).2.2):=cell_later hb1 (by go_simp)
 have t3:w1.cell? ⟨w.heap.size,3,none⟩=some (.int .i64 (T 1).1):=cell_later hb1 (by go_simp)
 have t4:w1.cell? ⟨w.heap.size,4,none⟩=some (.bool (T 1).2.1):=cell_later hb1 (by go_simp)
 have t5:w1.cell? ⟨w.heap.size,5,none⟩=some (.int .i64 (T 1).2.2):=cell_later hb1 (by go_simp)
 have t6:w1.cell? ⟨w.heap.size,6,none⟩=some (.int .i64 (T 2).1):=cell_later hb1 (by go_simp)
 have t7:w1.cell? ⟨w.heap.size,7,none⟩=some (.bool (T 2).2.1):=cell_later hb1 (by go_simp)
 have t8:w1.cell? ⟨w.heap.size,8,none⟩=some (.int .i64 (T 2).2.2):=cell_later hb1 (by go_simp)
 have t9:w1.cell? ⟨w.heap.size,9,none⟩=some (.int .i64 (T 3).1):=cell_later hb1 (by go_simp)
 have t10:w1.cell? ⟨w.heap.size,10,none⟩=some (.bool (T 3).2.1):=cell_later hb1 (by go_simp)
 have t11:w1.cell? ⟨w.heap.size,11,none⟩=some (.int .i64 (T 3).2.2):=cell_later hb1 (by go_simp)
 have tf:∀o,w1.frozen? ⟨w.heap.size,o,none⟩=false:=fun o=>by rw[hb1.frozen (by first|omega|(simp<;>omega))];go_simp
 have HT1:=qh (team12 tf t0 t1 t2 t3 t4 t5 t6 t7 t8 t9 t10 t11)
 have q0:w1.cell? ⟨w.heap.size+1,0,none⟩=some (.bool o0):=cell_later hb1 (by go_simp)
 have q1:w1.cell? ⟨w.heap.size+1,1,none⟩=some (.bool o1):=cell_later hb1 (by go_simp)
 have q2:w1.cell? ⟨w.heap.size+1,2,none⟩=some (.bool o2):=cell_later hb1 (by go_simp)
 have q3:w1.cell? ⟨w.heap.size+1,3,none⟩=some (.bool o3):=cell_later hb1 (by go_simp)
 have p0:w1.cell? ⟨w.heap.size+1+1,0,none⟩=some (.bool a0):=cell_later hb1 (by go_simp)
 have p1:w1.cell? ⟨w.heap.size+1+1,1,none⟩=some (.bool a1):=cell_later hb1 (by go_simp)
 have p2:w1.cell? ⟨w.heap.size+1+1,2,none⟩=some (.bool a2):=cell_later hb1 (by go_simp)
 have p3:w1.cell? ⟨w.heap.size+1+1,3,none⟩=some (.bool a3):=cell_later hb1 (by go_simp)
 have HQ:=qh (cell4 q0 q1 q2 q3)
 have HP:=qh (cell4 p0 p1 p2 p3)
 have x0:w1.cell? ⟨w.heap.size+1+1+1,0,none⟩=some (.int .i64 0):=cell_later hb1 (by go_simp)
 have x1:w1.cell? ⟨w.heap.size+1+1+1,1,none⟩=some (.bool false):=cell_later hb1 (by go_simp)
 have x2:w1.cell? ⟨w.heap.size+1+1+1,2,none⟩=some (.int .i64 0):=cell_later hb1 (by go_simp)
 have x3:w1.cell? ⟨w.heap.size+1+1+1,3,none⟩=some (.int .i64 0):=cell_later hb1 (by go_simp)
 have x4:w1.cell? ⟨w.heap.size+1+1+1,4,none⟩=some (.bool false):=cell_later hb1 (by go_simp)
 have x5:w1.cell? ⟨w.heap.size+1+1+1,5,none⟩=some (.int .i64 0):=cell_later hb1 (by go_simp)
 have x6:w1.cell? ⟨w.heap.size+1+1+1,6,none⟩=some (.int .i64 0):=cell_later hb1 (by go_simp)
 have x7:w1.cell? ⟨w.heap.size+1+1+1,7,none⟩=some (.bool false):=cell_later hb1 (by go_simp)
 have x8:w1.cell? ⟨w.heap.size+1+1+1,8,none⟩=some (.int .i64 0):=cell_later hb1 (by go_simp)
 have x9:w1.cell? ⟨w.heap.size+1+1+1,9,none⟩=some (.int .i64 0):=cell_later hb1 (by go_simp)
 have x10:w1.cell? ⟨w.heap.size+1+1+1,10,none⟩=some (.bool false):=cell_later hb1 (by go_simp)
 have x11:w1.cell? ⟨w.heap.size+1+1+1,11,none⟩=some (.int .i64 0):=cell_later hb1 (by go_simp)
 have xf:∀o,w1.frozen? ⟨w.heap.size+1+1+1,o,none⟩=false:=fun o=>by rw[hb1.frozen (by first|omega|(simp<;>omega))];go_simp
 have HX:=qh (team12 (T:=fun _=>(0,false,0)) xf x0 x1 x2 x3 x4 x5 x6 x7 x8 x9 x10 x11)
 have y0:w1.cell? ⟨w.heap.size+1+1+1+1,0,none⟩=some (.int .i64 0):=cell_later hb1 (by go_simp)
 have y1:w1.cell? ⟨w.heap.size+1+1+1+1,1,none⟩=some (.int .i64 0):=cell_later hb1 (by go_simp)
 have y2:w1.cell? ⟨w.heap.size+1+1+1+1,2,none⟩=some (.bool false):=cell_later hb1 (by go_simp)
 have yf:∀o,w1.frozen? ⟨w.heap.size+1+1+1+1,o,none⟩=false:=fun o=>by rw[hb1.frozen (by first|omega|(simp<;>omega))];go_simp
 have HY:Hid (RepAt w1 (w.heap.size+1+1+1+1) 0 0 false):=(⟨y0,y1,y2,yf⟩:RepAt w1 (w.heap.size+1+1+1+1) 0 0 false)
 have s1:w.heap.size+1+1+1+1<w1.heap.size:=by omega
 have s0:w.heap.size<w1.heap.size:=by omega
 clear hb1 tf q0 q1 q2 q3 p0 p1 p2 p3 x0 x1 x2 x3 x4 x5 x6 x7 x8 x9 x10 x11 xf y0 y1 y2 yf
 go_wp2
 clear t0 t1 t2 t3 t4 t5 t6 t7 t8 t9 t10 t11
 go_loopw [23] (fun i wr=>HitRel w w1 (sel4 a0 a1 a2 a3) (sel4 o0 o1 o2 o3) T i wr) (fun i _=>4-(intOf i).toNat)
 case atStart=>
  refine⟨0,by omega,rfl,?_,World.grownBy_alloc _ _ _,?_⟩
  ·rw[tk_zero];exact HT1.out.later ((Below.refl w1.heap.size w1).alloc (Nat.le_refl _) _) s0
  ·exact team12 (by intro o;go_simp) (by go_simp) (by go_simp) (by go_simp) (by go_simp) (by go_simp) (by go_simp) (by go_simp) (by go_simp) (by go_simp) (by go_simp) (by go_simp) (by go_simp)
 case round=>
  obtain⟨k,hk,rfl,hTk,hg,hwas⟩:=hrel
  have HTK:=qh hTk;have HG:=qh hg;have HW:=qh hwas
  have hbw:w.heap.size<wr.heap.size:=hTk.lt
  by_cases hlt:k<4
  ·have hd:(k:Int)<4:=by omega
   have cq:=hg.cell (HQ.out k hlt) (by simp)
   have cp:=hg.cell (HP.out k hlt) (by simp;omega)
   have hs1:w.heap.size+1<wr.heap.size:=by have:=hg.size;omega
   have hs2:w.heap.size+1+1<wr.heap.size:=by have:=hg.size;omega
   have hokk:=HOK.out k hlt
   have HO:=qh hokk
   have hw1:w.heap.size≠w1.heap.size:=by omega
   clear hTk hg hwas hokk
   obtain⟨fl,hfl⟩:∃x,sel4 a0 a1 a2 a3 k=x:=⟨_,rfl⟩
   obtain⟨oi,hoi⟩:∃x,sel4 o0 o1 o2 o3 k=x:=⟨_,rfl⟩
   rw[hfl]at cp
   rw[hoi]at cq
   have HFL:=qh hfl;have HOI:=qh hoi
   clear hfl hoi
   cases fl<;>cases oi
   ·go_wp2_with fail
    refine(on_any w.heap.size _ k hlt 4 (by omega) _ HTK.out (by rw[tk_at];exact HO.out)).mono ?_
    rintro e5 w5 ⟨rfl,hT5,hg5⟩
    have HT5:=qh hT5;have HG5:=qh hg5
    have cq5:=hg5.cell cq (by simp)
    clear hT5 hg5 cp
    go_wp2
    go_roundw
    case rel=>exact⟨k+1,by omega,by go_num,by have h:=HT5.out;rw[tk_at]at h;rw[←tk_succ,show hitS (sel4 a0 a1 a2 a3) (sel4 o0 o1 o2 o3) k (T k)=nx (T k) 4 by unfold hitS;rw[HFL.out,HOI.out];rfl];exact h,grownBy_two HG.out HG5.out,HW.out.kept HG5.out (by omega)⟩
    case measure=>simp[intOf];omega
   ·go_wp2
    go_roundw
    case rel=>exact⟨k+1,by omega,by go_num,by rw[tk_same (by unfold hitS;rw[HFL.out,HOI.out];rfl)];exact HTK.out,HG.out,HW.out⟩
    case measure=>simp[intOf];omega
   ·go_wp2_with fail
    refine(on_any w.heap.size _ k hlt 3 (by omega) _ HTK.out (by rw[tk_at];exact HO.out)).mono ?_
    rintro e5 w5 ⟨rfl,hT5,hg5⟩
    have HT5:=qh hT5;have HG5:=qh hg5
    have cq5:=hg5.cell cq (by simp)
    clear hT5 hg5 cp
    have hs5:w.heap.size+1<w5.heap.size:=by have:=HG5.out.size;omega
    go_wp2_with fail
    refine(on_any w.heap.size _ k hlt 4 (by omega) _ HT5.out (by rw[upd_at,tk_at];exact nx_ok HO.out (by omega))).mono ?_
    rintro e6 w6 ⟨rfl,hT6,hg6⟩
    have HT6:=qh hT6;have HG6:=qh hg6
    have cq6:=hg6.cell cq5 (by simp)
    clear hT6 hg6
    go_wp2
    go_roundw
    case rel=>exact⟨k+1,by omega,by go_num,by have h:=HT6.out;rw[upd_at,upd_upd,tk_at]at h;rw[←tk_succ,show hitS (sel4 a0 a1 a2 a3) (sel4 o0 o1 o2 o3) k (T k)=nx (nx (T k) 3) 4 by unfold hitS;rw[HFL.out,HOI.out];rfl];exact h,grownBy_two HG.out (grownBy_two HG5.out HG6.out),(HW.out.kept HG5.out (by omega)).kept HG6.out (by omega)⟩
    case measure=>simp[intOf];omega
   ·go_wp2_with fail
    refine(on_any w.heap.size _ k hlt 3 (by omega) _ HTK.out (by rw[tk_at];exact HO.out)).mono ?_
    rintro e5 w5 ⟨rfl,hT5,hg5⟩
    have HT5:=qh hT5;have HG5:=qh hg5
    have cq5:=hg5.cell cq (by simp)
    clear hT5 hg5 cp
    go_wp2
    go_roundw
    case rel=>exact⟨k+1,by omega,by go_num,by have h:=HT5.out;rw[tk_at]at h;rw[←tk_succ,show hitS (sel4 a0 a1 a2 a3) (sel4 o0 o1 o2 o3) k (T k)=nx (T k) 3 by unfold hitS;rw[HFL.out,HOI.out];rfl];exact h,grownBy_two HG.out HG5.out,HW.out.kept HG5.out (by omega)⟩
    case measure=>simp[intOf];omega
  ·obtain rfl:k=4:=by omega
   have HOK1:Hid (∀j,j<4→OkS (tk (hitS (sel4 a0 a1 a2 a3) (sel4 o0 o1 o2 o3)) T 4 j)):=(fun j hj=>by unfold tk;rw[if_pos hj];exact hit_ok (HOK.out j hj):∀j,j<4→OkS (tk (hitS (sel4 a0 a1 a2 a3) (sel4 o0 o1 o2 o3)) T 4 j))
   generalize hE1:tk (hitS (sel4 a0 a1 a2 a3) (sel4 o0 o1 o2 o3)) T 4=T1 at *
   have HE1:=qh hE1
   clear hE1
   obtain⟨t0,t1,t2⟩:=hTk.1 0 (by omega)
   obtain⟨t3,t4,t5⟩:=hTk.1 1 (by omega)
   obtain⟨t6,t7,t8⟩:=hTk.1 2 (by omega)
   obtain⟨t9,t10,t11⟩:=hTk.1 3 (by omega)
   have q0:=hg.cell (HQ.out 0 (by omega)) (by simp)
   have q1:=hg.cell (HQ.out 1 (by omega)) (by simp)
   have q2:=hg.cell (HQ.out 2 (by omega)) (by simp)
   have q3:=hg.cell (HQ.out 3 (by omega)) (by simp)
   change wr.cell? _=some (.bool o0)at q0
   change wr.cell? _=some (.bool o1)at q1
   change wr.cell? _=some (.bool o2)at q2
   change wr.cell? _=some (.bool o3)at q3
   simp only[Nat.mul_zero,Nat.zero_add,Nat.reduceMul,Nat.reduceAdd]at t0 t1 t2 t3 t4 t5 t6 t7 t8 t9 t10 t11
   have hs1:w.heap.size+1<wr.heap.size:=by have:=hg.size;omega
   clear hTk hg hwas
   rw[show((4:Nat):Int)=4 from rfl]
   go_wp2_with fail
   refine(usable_any _ _ _ _ _ _ _ _ _ _ _ _ o0 o1 o2 o3 _).mono ?_
   rintro e2 w2 ⟨v,rfl,hown,hb2⟩
   have hul:=usl_len (sel4 (T1 0).2.1 (T1 1).2.1 (T1 2).2.1 (T1 3).2.1) (sel4 o0 o1 o2 o3) 4
   have hu4:=usl_lt (sel4 (T1 0).2.1 (T1 1).2.1 (T1 2).2.1 (T1 3).2.1) (sel4 o0 o1 o2 o3) 4
   generalize hEU:usl (sel4 (T1 0).2.1 (T1 1).2.1 (T1 2).2.1 (T1 3).2.1) (sel4 o0 o1 o2 o3) 4=U at *
   have HEU:=qh hEU
   clear hEU
   have HOWN:=qh hown;have HU4:=qh hu4;have HB2:=qh hb2
   clear hown hu4 t0 t1 t2 t3 t4 t5 t6 t7 t8 t9 t10 t11 q0 q1 q2 q3
   obtain⟨av,cap,rfl,hcap,hlc⟩:=own_val HOWN.out
   have hz2:=hb2.size
   clear hb2
   go_wp2_with fail
   refine(choose_any w.heap.size T1 av cap _ U _ (HTK.out.later HB2.out hbw) HOK1.out hul HU4.out (by omega) HOWN.out).mono ?_
   rintro e3 w3 ⟨rfl,hT3,hg3⟩
   have HT3:=qh hT3;have HG3:=qh hg3
   clear hT3 hg3
   have HX3:=qh ((((HX.out.kept HG.out (by omega)).later HB2.out (by have:=HG.out.size;omega)).kept HG3.out (by omega)))
   have HY3:=qh ((((HY.out.kept HG.out (by omega)).later HB2.out (by have:=HG.out.size;omega)).kept HG3.out (by omega)))
   have HW3:=qh (((HW.out.later HB2.out HW.out.lt).kept HG3.out (by omega)))
   have BB:Below w.heap.size w w3:=((B1.grown HG.out (by omega) (fun k e=>by cases e;exact Nat.le_refl _)).trans (HB2.out.mono (by omega))).grown HG3.out (by omega) (fun k e=>by cases e;exact Nat.le_refl _)
   have HBB:=qh BB
   have hz3:w.heap.size+1+1+1+1<w3.heap.size:=HY3.out.lt
   have hz4:w1.heap.size<w3.heap.size:=HW3.out.lt
   have HOK2:Hid (∀j,j<4→OkS (chooseT T1 U j)):=(chooseT_ok HOK1.out:∀j,j<4→OkS (chooseT T1 U j))
   generalize hE2:chooseT T1 U=T2 at *
   have HE2:=qh hE2
   clear hE2
   obtain⟨L,hL⟩:∃L,((U.length:Int)==0)=L:=⟨_,rfl⟩
   have HLL:=qh hL
   clear BB
   go_wp2
   clear hL
   go_loopw [49] (fun i wr=>TickRel w w.heap.size w1.heap.size w3.heap.size T T2 U.length L i wr) (fun i _=>4-(intOf i).toNat)
   case atStart=>
    refine⟨0,by omega,rfl,by rw[tk_zero];exact HT3.out.alloc _,?_,HW3.out.alloc _,HX3.out.alloc _,HY3.out.alloc _,HBB.out.alloc (by omega) _⟩
    exact⟨by go_simp,by simp only[actN];go_simp,by go_simp,by intro o;go_simp⟩
   case round=>
    obtain⟨k,hk,rfl,hTk,hR,hC,hX,hY,hBw⟩:=hrel
    have HTK:=qh hTk;have HR:=qh hR;have HC:=qh hC;have HX5:=qh hX;have HY5:=qh hY;have HB5:=qh hBw
    have l0:=hTk.lt;have l1:=hR.lt;have l2:=hC.lt;have l3:=hY.lt
    clear hTk hR hC hX hY hBw
    by_cases hlt:k<4
    ·rcases(by omega:k=0∨k=1∨k=2∨k=3)with rfl|rfl|rfl|rfl
     ·have hd:((0:Nat):Int)<4:=by omega
      obtain⟨t0,t1,t2⟩:=HTK.out.1 0 (by omega)
      obtain⟨s0,s1',s2⟩:=HC.out.1 0 (by omega)
      rw[tk_at]at t0 t1 t2
      change wr.cell? ⟨w.heap.size,0,none⟩=_ at t0
      change wr.cell? ⟨w.heap.size,1,none⟩=_ at t1
      change wr.cell? ⟨w.heap.size,2,none⟩=_ at t2
      change wr.cell? ⟨w1.heap.size,0,none⟩=_ at s0
      change wr.cell? ⟨w1.heap.size,1,none⟩=_ at s1'
      change wr.cell? ⟨w1.heap.size,2,none⟩=_ at s2
      have ok2:=HOK2.out 0 (by omega)
      have ok1:=HOK.out 0 (by omega)
      have HO2:=qh ok2
      have h2b:0≤(T 0).2.2∧(T 0).2.2≤10000:=ok1.2
      have hab:=actI_bd T2 0
      clear ok2 ok1
      by_cases hm:(T2 0).1=(T 0).1
      ·have dm:((T2 0).1==(T 0).1)=true:=by simpa using hm
       obtain⟨r',hr'⟩:∃r',min 10000 ((T 0).2.2+1)=r':=⟨_,rfl⟩
       have HLK:Hid (LaneOk (T2 0).1 (T2 0).2.1 (T 0).2.2):=(⟨HO2.out.1,h2b.1,h2b.2⟩:LaneOk (T2 0).1 (T2 0).2.1 (T 0).2.2)
       have HS:Hid (stayS T 0 (T2 0)=((T2 0).1,(T2 0).2.1,r')):=(by unfold stayS;rw[if_pos hm,hr']:stayS T 0 (T2 0)=((T2 0).1,(T2 0).2.1,r'))
       have HRR:=qh hr'
       clear hm hr'
       go_wp2
       go_quiet (fail)
       go_wp2
       have HTQ:=qh (HTK.out)
       go_region_held3 (fun w'=>w'.cell? ⟨w.heap.size,0,none⟩=some (.int .i64 (T2 0).1)∧w'.cell? ⟨w.heap.size,1,none⟩=some (.bool (T2 0).2.1)∧w'.cell? ⟨w1.heap.size,2,none⟩=some (.int .i64 (T 0).2.2)) (first|((try dsimp only);(with_reducible refine keep3 ?_ ?_ ?_ ?_ ?_ ?_ ?_)<;>first|assumption|decide|omega)|go_keep) ((go_at_call 158;refine(tick_any _ _ _ _ HLK.out r' HRR.out).mono ?_;rintro e5 w5 ⟨rfl,hb5⟩;have s2':=cell_later hb5 s2;have t0':=cell_later hb5 t0;have t1':=cell_later hb5 t1;have t2':=cell_later hb5 t2;have tf':∀o,w5.frozen? ⟨w.heap.size,o,none⟩=false:=fun o=>(hb5.frozen (by simp;omega)).trans (HTK.out.2 o)))
       have HT5:TeamAt w5 w.heap.size (tk (stayS T) T2 0):=TeamAt.later (w:=wr.drewN (nq+1)) HTQ.out hb5 l0
       have hs:=team_set HT5 0 (by omega) (stayS T 0 (T2 0))
       rw[tk_succ,HS.out]at hs
       change TeamAt (((w5.setCell ⟨w.heap.size,0,none⟩ (.int .i64 (T2 0).1)).setCell ⟨w.heap.size,1,none⟩ (.bool (T2 0).2.1)).setCell ⟨w.heap.size,2,none⟩ (.int .i64 r')) w.heap.size _ at hs
       have hg6:wr.grownBy (((w5.setCell ⟨w.heap.size,0,none⟩ (.int .i64 (T2 0).1)).setCell ⟨w.heap.size,1,none⟩ (.bool (T2 0).2.1)).setCell ⟨w.heap.size,2,none⟩ (.int .i64 r')) (some w.heap.size):=grown_three (w:=wr) ⟨hb5.os,hb5.tape,hb5.output,hb5.size,hb5.block⟩ _ _ _ _ _ _
       clear s2' t0' t1' t2' tf' t0 t1 t2 s0 s1' s2 dm
       generalize(((w5.setCell ⟨w.heap.size,0,none⟩ (.int .i64 (T2 0).1)).setCell ⟨w.heap.size,1,none⟩ (.bool (T2 0).2.1)).setCell ⟨w.heap.size,2,none⟩ (.int .i64 r'))=w6 at *
       have HT6:=qh hs
       have HR6:=qh (HR.out.kept hg6 (by omega));have HC6:=qh (HC.out.kept hg6 (by omega));have HX6:=qh (HX5.out.kept hg6 (by omega));have HY6:=qh (HY5.out.kept hg6 (by omega));have HB6:=qh (HB5.out.grown hg6 (by omega) (fun k e=>by cases e;omega))
       obtain⟨n0,-,-⟩:=hs.1 0 (by omega)
       rw[show tk (stayS T) T2 1 0=stayS T 0 (T2 0)from rfl,HS.out]at n0
       change w6.cell? ⟨w.heap.size,0,none⟩=some (.int .i64 (T2 0).1)at n0
       obtain⟨-,r1,-,rf⟩:=HR6.out
       have m0:=hs.lt;have m1:=HR6.out.lt;have m2:=HC6.out.lt;have m3:=HY6.out.lt
       clear hs hg6
       by_cases hac:(T2 0).1=1
       ·have da:((T2 0).1==1)=true:=by simpa using hac
        have HA:Hid (actN T2 1=actN T2 0+1):=(by simp only[actN,if_pos hac]:actN T2 1=actN T2 0+1)
        clear hac
        go_wp2
        go_roundw
        case rel=>exact⟨1,by omega,rfl,HT6.out.kept (grown_set _ _ _ _) (by omega),by rw[HA.out];exact rep_set HR6.out _,HC6.out.kept (grown_set _ _ _ _) (by omega),HX6.out.kept (grown_set _ _ _ _) (by omega),HY6.out.kept (grown_set _ _ _ _) (by omega),HB6.out.grown (grown_set _ _ _ _) (by omega) (fun k e=>by cases e;omega)⟩
        case measure=>simp[intOf]
       ·have da:((T2 0).1==1)=false:=by simpa using hac
        have HA:Hid (actN T2 1=actN T2 0):=(by simp only[actN,if_neg hac,Int.add_zero]:actN T2 1=actN T2 0)
        clear hac
        go_wp2
        go_roundw
        case rel=>exact⟨1,by omega,rfl,HT6.out,by rw[HA.out];exact HR6.out,HC6.out,HX6.out,HY6.out,HB6.out⟩
        case measure=>simp[intOf]
      ·have dm:((T2 0).1==(T 0).1)=false:=by simpa using hm
       have HS:Hid (stayS T 0 (T2 0)=T2 0):=(by unfold stayS;rw[if_neg hm]:stayS T 0 (T2 0)=T2 0)
       clear hm
       go_wp2
       go_quiet (fail)
       have HT6:Hid (TeamAt (wr.drewN nq) w.heap.size (tk (stayS T) T2 1)):=(by rw[tk_same HS.out];exact HTK.out:TeamAt (wr.drewN nq) w.heap.size (tk (stayS T) T2 1))
       have HR6:Hid (RepAt (wr.drewN nq) _ _ _ _):=(HR.out:RepAt (wr.drewN nq) _ _ _ _)
       have HC6:Hid (TeamAt (wr.drewN nq) _ _):=(HC.out:TeamAt (wr.drewN nq) _ _)
       have HX6:Hid (TeamAt (wr.drewN nq) _ _):=(HX5.out:TeamAt (wr.drewN nq) _ _)
       have HY6:Hid (RepAt (wr.drewN nq) _ _ _ _):=(HY5.out:RepAt (wr.drewN nq) _ _ _ _)
       have HB6:Hid (Below w.heap.size w (wr.drewN nq)):=(below_drewN HB5.out nq:Below w.heap.size w (wr.drewN nq))
       have n0:(wr.drewN nq).cell? ⟨w.heap.size,0,none⟩=some (.int .i64 (T2 0).1):=t0
       obtain⟨-,r1,-,rf⟩:=HR6.out
       clear t0 t1 t2 s0 s1' s2 dm
       have m0:w.heap.size<(wr.drewN nq).heap.size:=l0
       have m1:_<(wr.drewN nq).heap.size:=l1
       generalize wr.drewN nq=w6 at *
       by_cases hac:(T2 0).1=1
       ·have da:((T2 0).1==1)=true:=by simpa using hac
        have HA:Hid (actN T2 1=actN T2 0+1):=(by simp only[actN,if_pos hac]:actN T2 1=actN T2 0+1)
        clear hac
        go_wp2
        go_roundw
        case rel=>exact⟨1,by omega,rfl,HT6.out.kept (grown_set _ _ _ _) (by omega),by rw[HA.out];exact rep_set HR6.out _,HC6.out.kept (grown_set _ _ _ _) (by omega),HX6.out.kept (grown_set _ _ _ _) (by omega),HY6.out.kept (grown_set _ _ _ _) (by omega),HB6.out.grown (grown_set _ _ _ _) (by omega) (fun k e=>by cases e;omega)⟩
        case measure=>simp[intOf]
       ·have da:((T2 0).1==1)=false:=by simpa using hac
        have HA:Hid (actN T2 1=actN T2 0):=(by simp only[actN,if_neg hac,Int.add_zero]:actN T2 1=actN T2 0)
        clear hac
        go_wp2
        go_roundw
        case rel=>exact⟨1,by omega,rfl,HT6.out,by rw[HA.out];exact HR6.out,HC6.out,HX6.out,HY6.out,HB6.out⟩
        case measure=>simp[intOf]
     ·have hd:((1:Nat):Int)<4:=by omega
      obtain⟨t0,t1,t2⟩:=HTK.out.1 1 (by omega)
      obtain⟨s0,s1',s2⟩:=HC.out.1 1 (by omega)
      rw[tk_at]at t0 t1 t2
      change wr.cell? ⟨w.heap.size,3,none⟩=_ at t0
      change wr.cell? ⟨w.heap.size,4,none⟩=_ at t1
      change wr.cell? ⟨w.heap.size,5,none⟩=_ at t2
      change wr.cell? ⟨w1.heap.size,3,none⟩=_ at s0
      change wr.cell? ⟨w1.heap.size,4,none⟩=_ at s1'
      change wr.cell? ⟨w1.heap.size,5,none⟩=_ at s2
      have ok2:=HOK2.out 1 (by omega)
      have ok1:=HOK.out 1 (by omega)
      have HO2:=qh ok2
      have h2b:0≤(T 1).2.2∧(T 1).2.2≤10000:=ok1.2
      have hab:=actI_bd T2 1
      clear ok2 ok1
      by_cases hm:(T2 1).1=(T 1).1
      ·have dm:((T2 1).1==(T 1).1)=true:=by simpa using hm
       obtain⟨r',hr'⟩:∃r',min 10000 ((T 1).2.2+1)=r':=⟨_,rfl⟩
       have HLK:Hid (LaneOk (T2 1).1 (T2 1).2.1 (T 1).2.2):=(⟨HO2.out.1,h2b.1,h2b.2⟩:LaneOk (T2 1).1 (T2 1).2.1 (T 1).2.2)
       have HS:Hid (stayS T 1 (T2 1)=((T2 1).1,(T2 1).2.1,r')):=(by unfold stayS;rw[if_pos hm,hr']:stayS T 1 (T2 1)=((T2 1).1,(T2 1).2.1,r'))
       have HRR:=qh hr'
       clear hm hr'
       go_wp2
       go_quiet (fail)
       go_wp2
       have HTQ:=qh (HTK.out)
       go_region_held3 (fun w'=>w'.cell? ⟨w.heap.size,3,none⟩=some (.int .i64 (T2 1).1)∧w'.cell? ⟨w.heap.size,4,none⟩=some (.bool (T2 1).2.1)∧w'.cell? ⟨w1.heap.size,5,none⟩=some (.int .i64 (T 1).2.2)) (first|((try dsimp only);(with_reducible refine keep3 ?_ ?_ ?_ ?_ ?_ ?_ ?_)<;>first|assumption|decide|omega)|go_keep) ((go_at_call 158;refine(tick_any _ _ _ _ HLK.out r' HRR.out).mono ?_;rintro e5 w5 ⟨rfl,hb5⟩;have s2':=cell_later hb5 s2;have t0':=cell_later hb5 t0;have t1':=cell_later hb5 t1;have t2':=cell_later hb5 t2;have tf':∀o,w5.frozen? ⟨w.heap.size,o,none⟩=false:=fun o=>(hb5.frozen (by simp;omega)).trans (HTK.out.2 o)))
       have HT5:TeamAt w5 w.heap.size (tk (stayS T) T2 1):=TeamAt.later (w:=wr.drewN (nq+1)) HTQ.out hb5 l0
       have hs:=team_set HT5 1 (by omega) (stayS T 1 (T2 1))
       rw[tk_succ,HS.out]at hs
       change TeamAt (((w5.setCell ⟨w.heap.size,3,none⟩ (.int .i64 (T2 1).1)).setCell ⟨w.heap.size,4,none⟩ (.bool (T2 1).2.1)).setCell ⟨w.heap.size,5,none⟩ (.int .i64 r')) w.heap.size _ at hs
       have hg6:wr.grownBy (((w5.setCell ⟨w.heap.size,3,none⟩ (.int .i64 (T2 1).1)).setCell ⟨w.heap.size,4,none⟩ (.bool (T2 1).2.1)).setCell ⟨w.heap.size,5,none⟩ (.int .i64 r')) (some w.heap.size):=grown_three (w:=wr) ⟨hb5.os,hb5.tape,hb5.output,hb5.size,hb5.block⟩ _ _ _ _ _ _
       clear s2' t0' t1' t2' tf' t0 t1 t2 s0 s1' s2 dm
       generalize(((w5.setCell ⟨w.heap.size,3,none⟩ (.int .i64 (T2 1).1)).setCell ⟨w.heap.size,4,none⟩ (.bool (T2 1).2.1)).setCell ⟨w.heap.size,5,none⟩ (.int .i64 r'))=w6 at *
       have HT6:=qh hs
       have HR6:=qh (HR.out.kept hg6 (by omega));have HC6:=qh (HC.out.kept hg6 (by omega));have HX6:=qh (HX5.out.kept hg6 (by omega));have HY6:=qh (HY5.out.kept hg6 (by omega));have HB6:=qh (HB5.out.grown hg6 (by omega) (fun k e=>by cases e;omega))
       obtain⟨n0,-,-⟩:=hs.1 1 (by omega)
       rw[show tk (stayS T) T2 2 1=stayS T 1 (T2 1)from rfl,HS.out]at n0
       change w6.cell? ⟨w.heap.size,3,none⟩=some (.int .i64 (T2 1).1)at n0
       obtain⟨-,r1,-,rf⟩:=HR6.out
       have m0:=hs.lt;have m1:=HR6.out.lt;have m2:=HC6.out.lt;have m3:=HY6.out.lt
       clear hs hg6
       by_cases hac:(T2 1).1=1
       ·have da:((T2 1).1==1)=true:=by simpa using hac
        have HA:Hid (actN T2 2=actN T2 1+1):=(by simp only[actN,if_pos hac]:actN T2 2=actN T2 1+1)
        clear hac
        go_wp2
        go_roundw
        case rel=>exact⟨2,by omega,rfl,HT6.out.kept (grown_set _ _ _ _) (by omega),by rw[HA.out];exact rep_set HR6.out _,HC6.out.kept (grown_set _ _ _ _) (by omega),HX6.out.kept (grown_set _ _ _ _) (by omega),HY6.out.kept (grown_set _ _ _ _) (by omega),HB6.out.grown (grown_set _ _ _ _) (by omega) (fun k e=>by cases e;omega)⟩
        case measure=>simp[intOf]
       ·have da:((T2 1).1==1)=false:=by simpa using hac
        have HA:Hid (actN T2 2=actN T2 1):=(by simp only[actN,if_neg hac,Int.add_zero]:actN T2 2=actN T2 1)
        clear hac
        go_wp2
        go_roundw
        case rel=>exact⟨2,by omega,rfl,HT6.out,by rw[HA.out];exact HR6.out,HC6.out,HX6.out,HY6.out,HB6.out⟩
        case measure=>simp[intOf]
      ·have dm:((T2 1).1==(T 1).1)=false:=by simpa using hm
       have HS:Hid (stayS T 1 (T2 1)=T2 1):=(by unfold stayS;rw[if_neg hm]:stayS T 1 (T2 1)=T2 1)
       clear hm
       go_wp2
       go_quiet (fail)
       have HT6:Hid (TeamAt (wr.drewN nq) w.heap.size (tk (stayS T) T2 2)):=(by rw[tk_same HS.out];exact HTK.out:TeamAt (wr.drewN nq) w.heap.size (tk (stayS T) T2 2))
       have HR6:Hid (RepAt (wr.drewN nq) _ _ _ _):=(HR.out:RepAt (wr.drewN nq) _ _ _ _)
       have HC6:Hid (TeamAt (wr.drewN nq) _ _):=(HC.out:TeamAt (wr.drewN nq) _ _)
       have HX6:Hid (TeamAt (wr.drewN nq) _ _):=(HX5.out:TeamAt (wr.drewN nq) _ _)
       have HY6:Hid (RepAt (wr.drewN nq) _ _ _ _):=(HY5.out:RepAt (wr.drewN nq) _ _ _ _)
       have HB6:Hid (Below w.heap.size w (wr.drewN nq)):=(below_drewN HB5.out nq:Below w.heap.size w (wr.drewN nq))
       have n0:(wr.drewN nq).cell? ⟨w.heap.size,3,none⟩=some (.int .i64 (T2 1).1):=t0
       obtain⟨-,r1,-,rf⟩:=HR6.out
       clear t0 t1 t2 s0 s1' s2 dm
       have m0:w.heap.size<(wr.drewN nq).heap.size:=l0
       have m1:_<(wr.drewN nq).heap.size:=l1
       generalize wr.drewN nq=w6 at *
       by_cases hac:(T2 1).1=1
       ·have da:((T2 1).1==1)=true:=by simpa using hac
        have HA:Hid (actN T2 2=actN T2 1+1):=(by simp only[actN,if_pos hac]:actN T2 2=actN T2 1+1)
        clear hac
        go_wp2
        go_roundw
        case rel=>exact⟨2,by omega,rfl,HT6.out.kept (grown_set _ _ _ _) (by omega),by rw[HA.out];exact rep_set HR6.out _,HC6.out.kept (grown_set _ _ _ _) (by omega),HX6.out.kept (grown_set _ _ _ _) (by omega),HY6.out.kept (grown_set _ _ _ _) (by omega),HB6.out.grown (grown_set _ _ _ _) (by omega) (fun k e=>by cases e;omega)⟩
        case measure=>simp[intOf]
       ·have da:((T2 1).1==1)=false:=by simpa using hac
        have HA:Hid (actN T2 2=actN T2 1):=(by simp only[actN,if_neg hac,Int.add_zero]:actN T2 2=actN T2 1)
        clear hac
        go_wp2
        go_roundw
        case rel=>exact⟨2,by omega,rfl,HT6.out,by rw[HA.out];exact HR6.out,HC6.out,HX6.out,HY6.out,HB6.out⟩
        case measure=>simp[intOf]
     ·have hd:((2:Nat):Int)<4:=by omega
      obtain⟨t0,t1,t2⟩:=HTK.out.1 2 (by omega)
      obtain⟨s0,s1',s2⟩:=HC.out.1 2 (by omega)
      rw[tk_at]at t0 t1 t2
      change wr.cell? ⟨w.heap.size,6,none⟩=_ at t0
      change wr.cell? ⟨w.heap.size,7,none⟩=_ at t1
      change wr.cell? ⟨w.heap.size,8,none⟩=_ at t2
      change wr.cell? ⟨w1.heap.size,6,none⟩=_ at s0
      change wr.cell? ⟨w1.heap.size,7,none⟩=_ at s1'
      change wr.cell? ⟨w1.heap.size,8,none⟩=_ at s2
      have ok2:=HOK2.out 2 (by omega)
      have ok1:=HOK.out 2 (by omega)
      have HO2:=qh ok2
      have h2b:0≤(T 2).2.2∧(T 2).2.2≤10000:=ok1.2
      have hab:=actI_bd T2 2
      clear ok2 ok1
      by_cases hm:(T2 2).1=(T 2).1
      ·have dm:((T2 2).1==(T 2).1)=true:=by simpa using hm
       obtain⟨r',hr'⟩:∃r',min 10000 ((T 2).2.2+1)=r':=⟨_,rfl⟩
       have HLK:Hid (LaneOk (T2 2).1 (T2 2).2.1 (T 2).2.2):=(⟨HO2.out.1,h2b.1,h2b.2⟩:LaneOk (T2 2).1 (T2 2).2.1 (T 2).2.2)
       have HS:Hid (stayS T 2 (T2 2)=((T2 2).1,(T2 2).2.1,r')):=(by unfold stayS;rw[if_pos hm,hr']:stayS T 2 (T2 2)=((T2 2).1,(T2 2).2.1,r'))
       have HRR:=qh hr'
       clear hm hr'
       go_wp2
       go_quiet (fail)
       go_wp2
       have HTQ:=qh (HTK.out)
       go_region_held3 (fun w'=>w'.cell? ⟨w.heap.size,6,none⟩=some (.int .i64 (T2 2).1)∧w'.cell? ⟨w.heap.size,7,none⟩=some (.bool (T2 2).2.1)∧w'.cell? ⟨w1.heap.size,8,none⟩=some (.int .i64 (T 2).2.2)) (first|((try dsimp only);(with_reducible refine keep3 ?_ ?_ ?_ ?_ ?_ ?_ ?_)<;>first|assumption|decide|omega)|go_keep) ((go_at_call 158;refine(tick_any _ _ _ _ HLK.out r' HRR.out).mono ?_;rintro e5 w5 ⟨rfl,hb5⟩;have s2':=cell_later hb5 s2;have t0':=cell_later hb5 t0;have t1':=cell_later hb5 t1;have t2':=cell_later hb5 t2;have tf':∀o,w5.frozen? ⟨w.heap.size,o,none⟩=false:=fun o=>(hb5.frozen (by simp;omega)).trans (HTK.out.2 o)))
       have HT5:TeamAt w5 w.heap.size (tk (stayS T) T2 2):=TeamAt.later (w:=wr.drewN (nq+1)) HTQ.out hb5 l0
       have hs:=team_set HT5 2 (by omega) (stayS T 2 (T2 2))
       rw[tk_succ,HS.out]at hs
       change TeamAt (((w5.setCell ⟨w.heap.size,6,none⟩ (.int .i64 (T2 2).1)).setCell ⟨w.heap.size,7,none⟩ (.bool (T2 2).2.1)).setCell ⟨w.heap.size,8,none⟩ (.int .i64 r')) w.heap.size _ at hs
       have hg6:wr.grownBy (((w5.setCell ⟨w.heap.size,6,none⟩ (.int .i64 (T2 2).1)).setCell ⟨w.heap.size,7,none⟩ (.bool (T2 2).2.1)).setCell ⟨w.heap.size,8,none⟩ (.int .i64 r')) (some w.heap.size):=grown_three (w:=wr) ⟨hb5.os,hb5.tape,hb5.output,hb5.size,hb5.block⟩ _ _ _ _ _ _
       clear s2' t0' t1' t2' tf' t0 t1 t2 s0 s1' s2 dm
       generalize(((w5.setCell ⟨w.heap.size,6,none⟩ (.int .i64 (T2 2).1)).setCell ⟨w.heap.size,7,none⟩ (.bool (T2 2).2.1)).setCell ⟨w.heap.size,8,none⟩ (.int .i64 r'))=w6 at *
       have HT6:=qh hs
       have HR6:=qh (HR.out.kept hg6 (by omega));have HC6:=qh (HC.out.kept hg6 (by omega));have HX6:=qh (HX5.out.kept hg6 (by omega));have HY6:=qh (HY5.out.kept hg6 (by omega));have HB6:=qh (HB5.out.grown hg6 (by omega) (fun k e=>by cases e;omega))
       obtain⟨n0,-,-⟩:=hs.1 2 (by omega)
       rw[show tk (stayS T) T2 3 2=stayS T 2 (T2 2)from rfl,HS.out]at n0
       change w6.cell? ⟨w.heap.size,6,none⟩=some (.int .i64 (T2 2).1)at n0
       obtain⟨-,r1,-,rf⟩:=HR6.out
       have m0:=hs.lt;have m1:=HR6.out.lt;have m2:=HC6.out.lt;have m3:=HY6.out.lt
       clear hs hg6
       by_cases hac:(T2 2).1=1
       ·have da:((T2 2).1==1)=true:=by simpa using hac
        have HA:Hid (actN T2 3=actN T2 2+1):=(by simp only[actN,if_pos hac]:actN T2 3=actN T2 2+1)
        clear hac
        go_wp2
        go_roundw
        case rel=>exact⟨3,by omega,rfl,HT6.out.kept (grown_set _ _ _ _) (by omega),by rw[HA.out];exact rep_set HR6.out _,HC6.out.kept (grown_set _ _ _ _) (by omega),HX6.out.kept (grown_set _ _ _ _) (by omega),HY6.out.kept (grown_set _ _ _ _) (by omega),HB6.out.grown (grown_set _ _ _ _) (by omega) (fun k e=>by cases e;omega)⟩
        case measure=>simp[intOf]
       ·have da:((T2 2).1==1)=false:=by simpa using hac
        have HA:Hid (actN T2 3=actN T2 2):=(by simp only[actN,if_neg hac,Int.add_zero]:actN T2 3=actN T2 2)
        clear hac
        go_wp2
        go_roundw
        case rel=>exact⟨3,by omega,rfl,HT6.out,by rw[HA.out];exact HR6.out,HC6.out,HX6.out,HY6.out,HB6.out⟩
        case measure=>simp[intOf]
      ·have dm:((T2 2).1==(T 2).1)=false:=by simpa using hm
       have HS:Hid (stayS T 2 (T2 2)=T2 2):=(by unfold stayS;rw[if_neg hm]:stayS T 2 (T2 2)=T2 2)
       clear hm
       go_wp2
       go_quiet (fail)
       have HT6:Hid (TeamAt (wr.drewN nq) w.heap.size (tk (stayS T) T2 3)):=(by rw[tk_same HS.out];exact HTK.out:TeamAt (wr.drewN nq) w.heap.size (tk (stayS T) T2 3))
       have HR6:Hid (RepAt (wr.drewN nq) _ _ _ _):=(HR.out:RepAt (wr.drewN nq) _ _ _ _)
       have HC6:Hid (TeamAt (wr.drewN nq) _ _):=(HC.out:TeamAt (wr.drewN nq) _ _)
       have HX6:Hid (TeamAt (wr.drewN nq) _ _):=(HX5.out:TeamAt (wr.drewN nq) _ _)
       have HY6:Hid (RepAt (wr.drewN nq) _ _ _ _):=(HY5.out:RepAt (wr.drewN nq) _ _ _ _)
       have HB6:Hid (Below w.heap.size w (wr.drewN nq)):=(below_drewN HB5.out nq:Below w.heap.size w (wr.drewN nq))
       have n0:(wr.drewN nq).cell? ⟨w.heap.size,6,none⟩=some (.int .i64 (T2 2).1):=t0
       obtain⟨-,r1,-,rf⟩:=HR6.out
       clear t0 t1 t2 s0 s1' s2 dm
       have m0:w.heap.size<(wr.drewN nq).heap.size:=l0
       have m1:_<(wr.drewN nq).heap.size:=l1
       generalize wr.drewN nq=w6 at *
       by_cases hac:(T2 2).1=1
       ·have da:((T2 2).1==1)=true:=by simpa using hac
        have HA:Hid (actN T2 3=actN T2 2+1):=(by simp only[actN,if_pos hac]:actN T2 3=actN T2 2+1)
        clear hac
        go_wp2
        go_roundw
        case rel=>exact⟨3,by omega,rfl,HT6.out.kept (grown_set _ _ _ _) (by omega),by rw[HA.out];exact rep_set HR6.out _,HC6.out.kept (grown_set _ _ _ _) (by omega),HX6.out.kept (grown_set _ _ _ _) (by omega),HY6.out.kept (grown_set _ _ _ _) (by omega),HB6.out.grown (grown_set _ _ _ _) (by omega) (fun k e=>by cases e;omega)⟩
        case measure=>simp[intOf]
       ·have da:((T2 2).1==1)=false:=by simpa using hac
        have HA:Hid (actN T2 3=actN T2 2):=(by simp only[actN,if_neg hac,Int.add_zero]:actN T2 3=actN T2 2)
        clear hac
        go_wp2
        go_roundw
        case rel=>exact⟨3,by omega,rfl,HT6.out,by rw[HA.out];exact HR6.out,HC6.out,HX6.out,HY6.out,HB6.out⟩
        case measure=>simp[intOf]
     ·have hd:((3:Nat):Int)<4:=by omega
      obtain⟨t0,t1,t2⟩:=HTK.out.1 3 (by omega)
      obtain⟨s0,s1',s2⟩:=HC.out.1 3 (by omega)
      rw[tk_at]at t0 t1 t2
      change wr.cell? ⟨w.heap.size,9,none⟩=_ at t0
      change wr.cell? ⟨w.heap.size,10,none⟩=_ at t1
      change wr.cell? ⟨w.heap.size,11,none⟩=_ at t2
      change wr.cell? ⟨w1.heap.size,9,none⟩=_ at s0
      change wr.cell? ⟨w1.heap.size,10,none⟩=_ at s1'
      change wr.cell? ⟨w1.heap.size,11,none⟩=_ at s2
      have ok2:=HOK2.out 3 (by omega)
      have ok1:=HOK.out 3 (by omega)
      have HO2:=qh ok2
      have h2b:0≤(T 3).2.2∧(T 3).2.2≤10000:=ok1.2
      have hab:=actI_bd T2 3
      clear ok2 ok1
      by_cases hm:(T2 3).1=(T 3).1
      ·have dm:((T2 3).1==(T 3).1)=true:=by simpa using hm
       obtain⟨r',hr'⟩:∃r',min 10000 ((T 3).2.2+1)=r':=⟨_,rfl⟩
       have HLK:Hid (LaneOk (T2 3).1 (T2 3).2.1 (T 3).2.2):=(⟨HO2.out.1,h2b.1,h2b.2⟩:LaneOk (T2 3).1 (T2 3).2.1 (T 3).2.2)
       have HS:Hid (stayS T 3 (T2 3)=((T2 3).1,(T2 3).2.1,r')):=(by unfold stayS;rw[if_pos hm,hr']:stayS T 3 (T2 3)=((T2 3).1,(T2 3).2.1,r'))
       have HRR:=qh hr'
       clear hm hr'
       go_wp2
       go_quiet (fail)
       go_wp2
       have HTQ:=qh (HTK.out)
       go_region_held3 (fun w'=>w'.cell? ⟨w.heap.size,9,none⟩=some (.int .i64 (T2 3).1)∧w'.cell? ⟨w.heap.size,10,none⟩=some (.bool (T2 3).2.1)∧w'.cell? ⟨w1.heap.size,11,none⟩=some (.int .i64 (T 3).2.2)) (first|((try dsimp only);(with_reducible refine keep3 ?_ ?_ ?_ ?_ ?_ ?_ ?_)<;>first|assumption|decide|omega)|go_keep) ((go_at_call 158;refine(tick_any _ _ _ _ HLK.out r' HRR.out).mono ?_;rintro e5 w5 ⟨rfl,hb5⟩;have s2':=cell_later hb5 s2;have t0':=cell_later hb5 t0;have t1':=cell_later hb5 t1;have t2':=cell_later hb5 t2;have tf':∀o,w5.frozen? ⟨w.heap.size,o,none⟩=false:=fun o=>(hb5.frozen (by simp;omega)).trans (HTK.out.2 o)))
       have HT5:TeamAt w5 w.heap.size (tk (stayS T) T2 3):=TeamAt.later (w:=wr.drewN (nq+1)) HTQ.out hb5 l0
       have hs:=team_set HT5 3 (by omega) (stayS T 3 (T2 3))
       rw[tk_succ,HS.out]at hs
       change TeamAt (((w5.setCell ⟨w.heap.size,9,none⟩ (.int .i64 (T2 3).1)).setCell ⟨w.heap.size,10,none⟩ (.bool (T2 3).2.1)).setCell ⟨w.heap.size,11,none⟩ (.int .i64 r')) w.heap.size _ at hs
       have hg6:wr.grownBy (((w5.setCell ⟨w.heap.size,9,none⟩ (.int .i64 (T2 3).1)).setCell ⟨w.heap.size,10,none⟩ (.bool (T2 3).2.1)).setCell ⟨w.heap.size,11,none⟩ (.int .i64 r')) (some w.heap.size):=grown_three (w:=wr) ⟨hb5.os,hb5.tape,hb5.output,hb5.size,hb5.block⟩ _ _ _ _ _ _
       clear s2' t0' t1' t2' tf' t0 t1 t2 s0 s1' s2 dm
       generalize(((w5.setCell ⟨w.heap.size,9,none⟩ (.int .i64 (T2 3).1)).setCell ⟨w.heap.size,10,none⟩ (.bool (T2 3).2.1)).setCell ⟨w.heap.size,11,none⟩ (.int .i64 r'))=w6 at *
       have HT6:=qh hs
       have HR6:=qh (HR.out.kept hg6 (by omega));have HC6:=qh (HC.out.kept hg6 (by omega));have HX6:=qh (HX5.out.kept hg6 (by omega));have HY6:=qh (HY5.out.kept hg6 (by omega));have HB6:=qh (HB5.out.grown hg6 (by omega) (fun k e=>by cases e;omega))
       obtain⟨n0,-,-⟩:=hs.1 3 (by omega)
       rw[show tk (stayS T) T2 4 3=stayS T 3 (T2 3)from rfl,HS.out]at n0
       change w6.cell? ⟨w.heap.size,9,none⟩=some (.int .i64 (T2 3).1)at n0
       obtain⟨-,r1,-,rf⟩:=HR6.out
       have m0:=hs.lt;have m1:=HR6.out.lt;have m2:=HC6.out.lt;have m3:=HY6.out.lt
       clear hs hg6
       by_cases hac:(T2 3).1=1
       ·have da:((T2 3).1==1)=true:=by simpa using hac
        have HA:Hid (actN T2 4=actN T2 3+1):=(by simp only[actN,if_pos hac]:actN T2 4=actN T2 3+1)
        clear hac
        go_wp2
        go_roundw
        case rel=>exact⟨4,by omega,rfl,HT6.out.kept (grown_set _ _ _ _) (by omega),by rw[HA.out];exact rep_set HR6.out _,HC6.out.kept (grown_set _ _ _ _) (by omega),HX6.out.kept (grown_set _ _ _ _) (by omega),HY6.out.kept (grown_set _ _ _ _) (by omega),HB6.out.grown (grown_set _ _ _ _) (by omega) (fun k e=>by cases e;omega)⟩
        case measure=>simp[intOf]
       ·have da:((T2 3).1==1)=false:=by simpa using hac
        have HA:Hid (actN T2 4=actN T2 3):=(by simp only[actN,if_neg hac,Int.add_zero]:actN T2 4=actN T2 3)
        clear hac
        go_wp2
        go_roundw
        case rel=>exact⟨4,by omega,rfl,HT6.out,by rw[HA.out];exact HR6.out,HC6.out,HX6.out,HY6.out,HB6.out⟩
        case measure=>simp[intOf]
      ·have dm:((T2 3).1==(T 3).1)=false:=by simpa using hm
       have HS:Hid (stayS T 3 (T2 3)=T2 3):=(by unfold stayS;rw[if_neg hm]:stayS T 3 (T2 3)=T2 3)
       clear hm
       go_wp2
       go_quiet (fail)
       have HT6:Hid (TeamAt (wr.drewN nq) w.heap.size (tk (stayS T) T2 4)):=(by rw[tk_same HS.out];exact HTK.out:TeamAt (wr.drewN nq) w.heap.size (tk (stayS T) T2 4))
       have HR6:Hid (RepAt (wr.drewN nq) _ _ _ _):=(HR.out:RepAt (wr.drewN nq) _ _ _ _)
       have HC6:Hid (TeamAt (wr.drewN nq) _ _):=(HC.out:TeamAt (wr.drewN nq) _ _)
       have HX6:Hid (TeamAt (wr.drewN nq) _ _):=(HX5.out:TeamAt (wr.drewN nq) _ _)
       have HY6:Hid (RepAt (wr.drewN nq) _ _ _ _):=(HY5.out:RepAt (wr.drewN nq) _ _ _ _)
       have HB6:Hid (Below w.heap.size w (wr.drewN nq)):=(below_drewN HB5.out nq:Below w.heap.size w (wr.drewN nq))
       have n0:(wr.drewN nq).cell? ⟨w.heap.size,9,none⟩=some (.int .i64 (T2 3).1):=t0
       obtain⟨-,r1,-,rf⟩:=HR6.out
       clear t0 t1 t2 s0 s1' s2 dm
       have m0:w.heap.size<(wr.drewN nq).heap.size:=l0
       have m1:_<(wr.drewN nq).heap.size:=l1
       generalize wr.drewN nq=w6 at *
       by_cases hac:(T2 3).1=1
       ·have da:((T2 3).1==1)=true:=by simpa using hac
        have HA:Hid (actN T2 4=actN T2 3+1):=(by simp only[actN,if_pos hac]:actN T2 4=actN T2 3+1)
        clear hac
        go_wp2
        go_roundw
        case rel=>exact⟨4,by omega,rfl,HT6.out.kept (grown_set _ _ _ _) (by omega),by rw[HA.out];exact rep_set HR6.out _,HC6.out.kept (grown_set _ _ _ _) (by omega),HX6.out.kept (grown_set _ _ _ _) (by omega),HY6.out.kept (grown_set _ _ _ _) (by omega),HB6.out.grown (grown_set _ _ _ _) (by omega) (fun k e=>by cases e;omega)⟩
        case measure=>simp[intOf]
       ·have da:((T2 3).1==1)=false:=by simpa using hac
        have HA:Hid (actN T2 4=actN T2 3):=(by simp only[actN,if_neg hac,Int.add_zero]:actN T2 4=actN T2 3)
        clear hac
        go_wp2
        go_roundw
        case rel=>exact⟨4,by omega,rfl,HT6.out,by rw[HA.out];exact HR6.out,HC6.out,HX6.out,HY6.out,HB6.out⟩
        case measure=>simp[intOf]
    ·obtain rfl:k=4:=by omega
     rw[show((4:Nat):Int)=4 from rfl]
     have hd:¬((4:Int)<4):=by omega
     obtain⟨T3,hT3e⟩:∃T3,tk (stayS T) T2 4=T3:=⟨_,rfl⟩
     rw[hT3e]at HTK
     have HE3:=qh hT3e
     obtain⟨na,hna⟩:∃na,actN T2 4=na:=⟨_,rfl⟩
     rw[hna]at HR
     have HEA:=qh hna
     clear hT3e hna
     obtain⟨t0,t1,t2⟩:=HTK.out.1 0 (by omega)
     obtain⟨t3,t4,t5⟩:=HTK.out.1 1 (by omega)
     obtain⟨t6,t7,t8⟩:=HTK.out.1 2 (by omega)
     obtain⟨t9,t10,t11⟩:=HTK.out.1 3 (by omega)
     simp only[Nat.mul_zero,Nat.zero_add,Nat.reduceMul,Nat.reduceAdd]at t0 t1 t2 t3 t4 t5 t6 t7 t8 t9 t10 t11
     obtain⟨x0,x1,x2⟩:=HX5.out.1 0 (by omega)
     obtain⟨x3,x4,x5⟩:=HX5.out.1 1 (by omega)
     obtain⟨x6,x7,x8⟩:=HX5.out.1 2 (by omega)
     obtain⟨x9,x10,x11⟩:=HX5.out.1 3 (by omega)
     simp only[Nat.mul_zero,Nat.zero_add,Nat.reduceMul,Nat.reduceAdd]at x0 x1 x2 x3 x4 x5 x6 x7 x8 x9 x10 x11
     have xf:=HX5.out.2
     obtain⟨y0,y1,y2,yf⟩:=HY5.out
     obtain⟨r0,r1,r2,rf⟩:=HR.out
     go_wp2
     go_region
     go_wp2
     have hW:=team_write HX5.out T3
     have hWg:=team_grown wr (w.heap.size+1+1+1) T3
     have hY8:=HY5.out.kept hWg (by omega)
     have hV:=rep_write hY8 (U.length:Int) na L
     have hVg:World.grownBy _ _ _:=grown_three' (w:=wrTeam wr (w.heap.size+1+1+1) T3) (b:=w.heap.size+1+1+1+1) 0 1 2 (.int .i64 U.length) (.int .i64 na) (.bool L)
     have hW2:=hW.kept hVg (by omega)
     have HB9:Below w.heap.size w _:=(HB5.out.grown hWg (by omega) (fun k e=>by cases e;omega)).grown hVg (by have:=hWg.size;omega) (fun k e=>by cases e;omega)
     unfold wrTeam at hV hW2 HB9
     clear hW hWg hY8 hVg
     generalize hw9:((((((((((((((((wr.setCell _ _).setCell _ _).setCell _ _).setCell _ _).setCell _ _).setCell _ _).setCell _ _).setCell _ _).setCell _ _).setCell _ _).setCell _ _).setCell _ _).setCell _ _).setCell _ _).setCell _ _))=w9 at hV hW2 HB9⊢
     clear hw9
     clear t0 t1 t2 t3 t4 t5 t6 t7 t8 t9 t10 t11 x0 x1 x2 x3 x4 x5 x6 x7 x8 x9 x10 x11 y0 y1 y2 xf yf r0 r1 r2 rf
     obtain⟨t0,t1,t2⟩:=hW2.1 0 (by omega)
     obtain⟨t3,t4,t5⟩:=hW2.1 1 (by omega)
     obtain⟨t6,t7,t8⟩:=hW2.1 2 (by omega)
     obtain⟨t9,t10,t11⟩:=hW2.1 3 (by omega)
     simp only[Nat.mul_zero,Nat.zero_add,Nat.reduceMul,Nat.reduceAdd]at t0 t1 t2 t3 t4 t5 t6 t7 t8 t9 t10 t11
     obtain⟨r0,r1,r2,-⟩:=hV
     refine bodyPost_ret (v:=.tuple #[teamV T3,.agg #[.int .i64 U.length,.int .i64 na,.bool L],.int .i64 0]) (by simp[results,Tryz.results121,go_sem,t0,t1,t2,t3,t4,t5,t6,t7,t8,t9,t10,t11,r0,r1,r2]) rfl ⟨?_,HB9.drew⟩
     unfold planT repV
     rw[show planC T (sel4 a0 a1 a2 a3) (sel4 o0 o1 o2 o3)=T2 by unfold planC planU;rw[HE1.out,HEU.out,HE2.out],show planU T (sel4 a0 a1 a2 a3) (sel4 o0 o1 o2 o3)=U by unfold planU;rw[HE1.out,HEU.out],HE3.out,HEA.out,HLL.out]
def rankU (fs os:Nat→Bool):Nat→Nat
 |0=>0
 |k+1=>rankU fs os k+if(!fs k&&os k)=true then 1 else 0
theorem usl_rank (fs os:Nat→Bool) (k:Nat):(usl fs os k).length=rankU fs os k:=by
 induction k with
 |zero=>rfl
 |succ k ih=>
  by_cases h:(!fs k&&os k)=true
  ·rw[usl_take h];simp[rankU,h,ih]
  ·rw[usl_keep (by simpa using h)];simp[rankU,h,ih]
def endS (n:Nat) (u:Bool) (k:Nat) (s:Int×Bool×Int):Int×Bool×Int:=
 if n=0 then nx s 5 else if u=true then nx (freeS 0 s) (if k<2 then 1 else 2)else freeS 0 s
theorem chooseT_lane (T:Team) (fs os:Nat→Bool) (j:Nat) (hj:j<4):
  chooseT T (usl fs os 4) j=endS (rankU fs os 4) (!fs j&&os j) (rankU fs os j) (T j):=by
 have e:∀j,freeS j=freeS 0:=fun _=>rfl
 generalize h0:(!fs 0&&os 0)=b0
 generalize h1:(!fs 1&&os 1)=b1
 generalize h2:(!fs 2&&os 2)=b2
 generalize h3:(!fs 3&&os 3)=b3
 have hd:∀s,dampS j s=nx s 5:=fun _=>rfl
 rcases(by omega:j=0∨j=1∨j=2∨j=3)with rfl|rfl|rfl|rfl<;>cases b0<;>cases b1<;>cases b2<;>cases b3<;>
  simp only[usl,rankU,h0,h1,h2,h3,endS,chooseT,List.nil_append,List.cons_append,List.length_nil,List.length_cons,if_true,if_false,Bool.false_eq_true,Nat.add_zero,Nat.zero_add,Nat.reduceAdd,Nat.reduceEqDiff]<;>
  simp[armT,upd,tk,e,dampS]
def endM (n:Nat) (u:Bool) (k:Nat) (f:Bool):Int:=if n=0 then 3 else if u=true then(if k<2 then 1 else 0)else if f=true then 2 else 0
theorem lane_end {s:Int×Bool×Int} (h:OkS s) (fl os:Bool) (n k:Nat) (a:Int×Bool×Int) (ha:hitS (fun _=>fl) (fun _=>os) 0 s=a):
  a.2.1=(s.2.1||fl)∧(endS n (!a.2.1&&os) k a).1=endM n (!(s.2.1||fl)&&os) k (s.2.1||fl)∧(endS n (!a.2.1&&os) k a).2.1=(s.2.1||fl):=by
 subst ha
 obtain⟨m,f,r⟩:=s
 obtain⟨hm,-⟩:=h
 simp only at hm
 have hk:(if k<2 then(1:Int)else 2)=1∧k<2∨(if k<2 then(1:Int)else 2)=2∧¬k<2:=by by_cases hk:k<2<;>simp[hk]
 by_cases hn:n=0
 ·simp only[endS,endM,if_pos hn]
  rcases hm with⟨rfl,rfl⟩|⟨rfl,rfl⟩|⟨rfl,rfl⟩|⟨rfl,rfl⟩|⟨rfl,rfl⟩<;>cases fl<;>cases os<;>simp[hitS,nx,nextI,turnB,turnV,turnI]
 ·simp only[endS,endM,if_neg hn]
  rcases hk with⟨e,hk⟩|⟨e,hk⟩<;>simp only[hk,if_true,if_false]<;>
   rcases hm with⟨rfl,rfl⟩|⟨rfl,rfl⟩|⟨rfl,rfl⟩|⟨rfl,rfl⟩|⟨rfl,rfl⟩<;>cases fl<;>cases os<;>simp[hitS,freeS,nx,nextI,turnB,turnV,turnI]
def failP (T:Team) (fl:Nat→Bool) (j:Nat):Bool:=(T j).2.1||fl j
def manyP (T:Team) (fl os:Nat→Bool):Nat:=rankU (failP T fl) os 4
theorem hit_at (T:Team) (fl os:Nat→Bool) (j:Nat) (hj:j<4):tk (hitS fl os) T 4 j=hitS (fun _=>fl j) (fun _=>os j) 0 (T j):=by
 unfold tk;rw[if_pos hj];rfl
theorem usl_ext {fs gs os:Nat→Bool} (k:Nat) (h:∀j,j<k→fs j=gs j):usl fs os k=usl gs os k:=by
 induction k with
 |zero=>rfl
 |succ k ih=>simp only[usl];rw[ih (fun j hj=>h j (by omega)),h k (by omega)]
theorem planU_is (T:Team) (fl os:Nat→Bool) (hok:∀j,j<4→OkS (T j)):planU T fl os=usl (failP T fl) os 4:=by
 unfold planU
 refine usl_ext 4 fun j hj=>?_
 have key:∀j,j<4→(tk (hitS fl os) T 4 j).2.1=failP T fl j:=fun j hj=>by
  rw[hit_at T fl os j hj];exact(lane_end (hok j hj) (fl j) (os j) 0 0 _ rfl).1
 rw[←key j hj]
 rcases(by omega:j=0∨j=1∨j=2∨j=3)with rfl|rfl|rfl|rfl<;>rfl
theorem planU_len (T:Team) (fl os:Nat→Bool) (hok:∀j,j<4→OkS (T j)):(planU T fl os).length=manyP T fl os:=by
 rw[planU_is T fl os hok,usl_rank];rfl
theorem planC_lane (T:Team) (fl os:Nat→Bool) (hok:∀j,j<4→OkS (T j)) (j:Nat) (hj:j<4):
  (planC T fl os j).1=endM (manyP T fl os) (!failP T fl j&&os j) (rankU (failP T fl) os j) (failP T fl j)∧(planC T fl os j).2.1=failP T fl j:=by
 have hl:=lane_end (hok j hj) (fl j) (os j) (manyP T fl os) (rankU (failP T fl) os j) _ rfl
 have hu:planC T fl os=chooseT (tk (hitS fl os) T 4) (usl (failP T fl) os 4):=by unfold planC;rw[planU_is T fl os hok]
 rw[hu,chooseT_lane _ _ _ _ hj,hit_at T fl os j hj]
 have e:(hitS (fun _=>fl j) (fun _=>os j) 0 (T j)).2.1=failP T fl j:=hl.1
 rw[←e]
 refine⟨?_,?_⟩
 ·have:=hl.2.1
  rw[e]at this⊢
  exact this
 ·have:=hl.2.2
  rw[e]at this⊢
  exact this
theorem planC_ok (T:Team) (fl os:Nat→Bool) (hok:∀j,j<4→OkS (T j)):∀j,j<4→OkS (planC T fl os j):=
 chooseT_ok (fun j hj=>by unfold tk;rw[if_pos hj];exact hit_ok (hok j hj))
theorem planT_lane (T:Team) (fl os:Nat→Bool) (hok:∀j,j<4→OkS (T j)) (j:Nat) (hj:j<4):
  (planT T fl os j).1=endM (manyP T fl os) (!failP T fl j&&os j) (rankU (failP T fl) os j) (failP T fl j)∧(planT T fl os j).2.1=failP T fl j∧OkS (planT T fl os j)∧
   ((planC T fl os j).1=(T j).1→(planT T fl os j).2.2=min 10000 ((T j).2.2+1)):=by
 have h:=planC_lane T fl os hok j hj
 have ho:=planC_ok T fl os hok j hj
 have e:planT T fl os j=stayS T j (planC T fl os j):=by unfold planT tk;rw[if_pos hj]
 rw[e]
 unfold stayS
 by_cases hm:(planC T fl os j).1=(T j).1
 ·rw[if_pos hm]
  have hb:=(hok j hj).2
  exact⟨h.1,h.2,⟨ho.1,by simp only;omega,by simp only;omega⟩,fun _=>rfl⟩
 ·rw[if_neg hm]
  exact⟨h.1,h.2,ho,fun h=>absurd h hm⟩
theorem actI_planT (T:Team) (fl os:Nat→Bool) (hok:∀j,j<4→OkS (T j)) (k:Nat) (hk:k≤4):actN (planC T fl os) k=actN (planT T fl os) k:=by
 induction k with
 |zero=>rfl
 |succ k ih=>
  simp only[actN]
  rw[ih (by omega),(planC_lane T fl os hok k (by omega)).1,(planT_lane T fl os hok k (by omega)).1]
theorem plan_is (T:Team) (o0 o1 o2 o3 a0 a1 a2 a3:Bool) (w:World) (hok:∀j,j<4→OkS (T j)) (X:Team) (n a:Int) (L:Bool)
  (h:planT T (sel4 a0 a1 a2 a3) (sel4 o0 o1 o2 o3)=X∧((planU T (sel4 a0 a1 a2 a3) (sel4 o0 o1 o2 o3)).length:Int)=n∧actN (planC T (sel4 a0 a1 a2 a3) (sel4 o0 o1 o2 o3)) 4=a∧(n==0)=L):
  Calls Tryz.prog 121 #[teamV T,.agg #[.bool o0,.bool o1,.bool o2,.bool o3],.agg #[.bool a0,.bool a1,.bool a2,.bool a3]] w
   fun e w'=>e=.returned (.tuple #[teamV X,.agg #[.int .i64 n,.int .i64 a,.bool L],.int .i64 0])∧Below w.heap.size w w':=by
 obtain⟨rfl,rfl,rfl,rfl⟩:=h
 exact(plan_yes T o0 o1 o2 o3 a0 a1 a2 a3 w hok).mono fun e w' h=>h
theorem zero_ok:∀j,j<4→OkS ((fun _=>(0,false,0):Team) j):=fun j _=>⟨.inl ⟨rfl,rfl⟩,by show(0:Int)≤0;omega,by show(0:Int)≤10000;omega⟩
end Go.Proofs.YtpkiepjmcepnoaaGreatDoor
