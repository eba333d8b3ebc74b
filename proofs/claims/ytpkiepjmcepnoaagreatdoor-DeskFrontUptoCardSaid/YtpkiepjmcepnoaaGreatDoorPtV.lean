/- A part of a proof. -/
import Derived.Test.YtpkiepjmcepnoaaGreatDoorPtU
set_option maxHeartbeats 16000000
set_option maxRecDepth 100000
namespace Go.Proofs.YtpkiepjmcepnoaaGreatDoor
open Go.ChangeShapes Go.WideShapes Go.ChangeAt Go.RowKit
set_option linter.unusedVariables false
abbrev teamC (T:Team):List Value:=[.int .i64 (T 0).1,.bool (T 0).2.1,.int .i64 (T 0).2.2,.int .i64 (T 1).1,.bool (T 1).2.1,.int .i64 (T 1).2.2,.int .i64 (T 2).1,.bool (T 2).2.1,.int .i64 (T 2).2.2,.int .i64 (T 3).1,.bool (T 3).2.1,.int .i64 (T 3).2.2]
theorem team_of_cells {w:World} {b:Nat} {T:Team} (h:CellsAt w b (teamC T)):TeamAt w b T:=
 ⟨fun i hi=>by
  rcases(by omega:i=0∨i=1∨i=2∨i=3)with rfl|rfl|rfl|rfl
  ·exact⟨h.at_ 0 rfl,h.at_ 1 rfl,h.at_ 2 rfl⟩
  ·exact⟨h.at_ 3 rfl,h.at_ 4 rfl,h.at_ 5 rfl⟩
  ·exact⟨h.at_ 6 rfl,h.at_ 7 rfl,h.at_ 8 rfl⟩
  ·exact⟨h.at_ 9 rfl,h.at_ 10 rfl,h.at_ 11 rfl⟩,h.2.1⟩
theorem cells_of_team {w:World} {b:Nat} {T:Team} (h:TeamAt w b T):CellsAt w b (teamC T):=by
 refine⟨fun j v hj=>?_,h.2,h.lt⟩
 have hl:j<12:=(List.getElem?_eq_some_iff.1 hj).1
 obtain⟨a0,a1,a2⟩:=h.1 0 (by omega);obtain⟨a3,a4,a5⟩:=h.1 1 (by omega);obtain⟨a6,a7,a8⟩:=h.1 2 (by omega);obtain⟨a9,a10,a11⟩:=h.1 3 (by omega)
 rcases(by omega:j=0∨j=1∨j=2∨j=3∨j=4∨j=5∨j=6∨j=7∨j=8∨j=9∨j=10∨j=11)with rfl|rfl|rfl|rfl|rfl|rfl|rfl|rfl|rfl|rfl|rfl|rfl<;>cases hj
 ·exact a0
 ·exact a1
 ·exact a2
 ·exact a3
 ·exact a4
 ·exact a5
 ·exact a6
 ·exact a7
 ·exact a8
 ·exact a9
 ·exact a10
 ·exact a11
def restT (T:Team):Team:=tk (fun _ s=>nx s 2) T 4
def RstRel (w0:World) (T:Team) (i:Value) (wr:World):Prop:=
 ∃k:Nat,k≤4∧i=.int .i64 k∧TeamAt wr w0.heap.size (tk (fun _ s=>nx s 2) T k)∧(∃Z,TeamAt wr (w0.heap.size+1) Z)∧Below w0.heap.size w0 wr
theorem redRest_is (T:Team) (w:World) (hok:∀j,j<4→OkS (T j)):
  Calls Tryz.prog 122 #[teamV T] w fun e w'=>e=.returned (.tuple #[teamV (restT T),.int .i64 0])∧Below w.heap.size w w':=by
 have HOK:=qh hok
 obtain⟨w2,hw2⟩:∃x,(w.alloc (.cells (teamC T).toArray 77)).alloc (.cells (teamC fun _=>(0,false,0)).toArray 77)=x:=⟨_,rfl⟩
 have C0:Hid (CellsAt w2 w.heap.size (teamC T)):=qh (hw2▸((CellsAt.new' rfl rfl).alloc _))
 have C1:Hid (CellsAt w2 (w.heap.size+1) (teamC fun _=>(0,false,0))):=qh (hw2▸(CellsAt.new' (by simp) rfl))
 have B2:Hid (Below w.heap.size w w2):=qh (hw2▸(((bLr).alloc (Nat.le_refl _) _).alloc (by simp) _))
 have HW2:=qh hw2
 clear hok hw2
 go_enter Tryz.func122,Tryz.ntmps122
 go_upto_region 1 with(fail)
 rw[show((w.alloc (.cells #[.int .i64 (T 0).1,.bool (T 0).2.1,.int .i64 (T 0).2.2,.int .i64 (T 1).1,.bool (T 1).2.1,.int .i64 (T 1).2.2,.int .i64 (T 2).1,.bool (T 2).2.1,.int .i64 (T 2).2.2,.int .i64 (T 3).1,.bool (T 3).2.1,.int .i64 (T 3).2.2] 77)).alloc (.cells #[.int .i64 0,.bool false,.int .i64 0,.int .i64 0,.bool false,.int .i64 0,.int .i64 0,.bool false,.int .i64 0,.int .i64 0,.bool false,.int .i64 0] 77))=w2 from HW2.out]
 have t0:=C0.out.at_ 0 rfl;have t1:=C0.out.at_ 1 rfl;have t2:=C0.out.at_ 2 rfl;have t3:=C0.out.at_ 3 rfl;have t4:=C0.out.at_ 4 rfl;have t5:=C0.out.at_ 5 rfl;have t6:=C0.out.at_ 6 rfl;have t7:=C0.out.at_ 7 rfl;have t8:=C0.out.at_ 8 rfl;have t9:=C0.out.at_ 9 rfl;have t10:=C0.out.at_ 10 rfl;have t11:=C0.out.at_ 11 rfl
 have tz:=C0.out.lt
 go_wp2_with fail
 refine(redCheck_yes _ _ _ _ _ _ _ _ _ _ _ _ _ (HOK.out 0 (by omega)) (HOK.out 1 (by omega)) (HOK.out 2 (by omega)) (HOK.out 3 (by omega))).mono ?_
 rintro e w3 ⟨rfl,hb3⟩
 have D0:Hid (TeamAt w3 w.heap.size (tk (fun _ s=>nx s 2) T 0)):=qh (by rw[tk_zero];exact team_of_cells (C0.out.call hb3))
 have D1:Hid (TeamAt w3 (w.heap.size+1) fun _=>(0,false,0)):=qh (team_of_cells (C1.out.call hb3))
 have B3:=qh (B2.out.trans (hb3.mono B2.out.size))
 clear hb3 t0 t1 t2 t3 t4 t5 t6 t7 t8 t9 t10 t11 tz C0 C1 B2 HW2
 go_wp2_with fail
 go_loopw [12] (fun i wr=>RstRel w T i wr) (fun i _=>4-(intOf i).toNat)
 case atStart=>exact⟨0,by omega,rfl,D0.out,⟨_,D1.out⟩,B3.out⟩
 case round=>
  clear D0 D1 B3
  obtain⟨k,hk,rfl,hT,⟨Z,hZ⟩,hB⟩:=hrel
  have HT:=qh hT;have HZ:=qh hZ;have HB:=qh hB
  have zB:=hB.size
  by_cases hlt:k<4
  ·have e5:(k:Int)<4:=by omega
   have hat:tk (fun _ s=>nx s 2) T k k=T k:=tk_at _ _ _
   clear hT hZ hB
   go_wp2_with fail
   refine(on_any w.heap.size _ k hlt 2 (.inr (.inl rfl)) _ HT.out (by rw[hat];exact HOK.out k hlt)).mono ?_
   rintro e w4 ⟨rfl,hT4,hg4⟩
   rw[show upd (tk (fun _ s=>nx s 2) T k) k (nx (tk (fun _ s=>nx s 2) T k k) 2)=tk (fun _ s=>nx s 2) T (k+1) by rw[hat];exact tk_succ (fun _ s=>nx s 2) T k]at hT4
   have T4:=qh hT4
   have Z4:=qh (HZ.out.kept hg4 (by omega))
   have B4:=qh (below_of_grown HB.out hg4 (Nat.le_refl _) zB)
   clear hT4 hg4 hat
   go_wp2_with fail
   go_roundw
   case rel=>exact⟨k+1,by omega,by go_num,T4.out,⟨Z,Z4.out⟩,B4.out⟩
   case measure=>simp[intOf];omega
  ·obtain rfl:k=4:=by omega
   rw[show((4:Nat):Int)=4 from rfl]
   obtain⟨X,hX⟩:∃X,restT T=X:=⟨_,rfl⟩
   have HX:=qh hX
   have hT2:TeamAt wr w.heap.size X:=hX▸hT
   have CX:=cells_of_team hT2;have CZ:=cells_of_team hZ
   have t0:=CX.at_ 0 rfl;have t1:=CX.at_ 1 rfl;have t2:=CX.at_ 2 rfl;have t3:=CX.at_ 3 rfl;have t4:=CX.at_ 4 rfl;have t5:=CX.at_ 5 rfl;have t6:=CX.at_ 6 rfl;have t7:=CX.at_ 7 rfl;have t8:=CX.at_ 8 rfl;have t9:=CX.at_ 9 rfl;have t10:=CX.at_ 10 rfl;have t11:=CX.at_ 11 rfl
   have tz:=CX.lt
   have z0:=CZ.at_ 0 rfl;have z1:=CZ.at_ 1 rfl;have z2:=CZ.at_ 2 rfl;have z3:=CZ.at_ 3 rfl;have z4:=CZ.at_ 4 rfl;have z5:=CZ.at_ 5 rfl;have z6:=CZ.at_ 6 rfl;have z7:=CZ.at_ 7 rfl;have z8:=CZ.at_ 8 rfl;have z9:=CZ.at_ 9 rfl;have z10:=CZ.at_ 10 rfl;have z11:=CZ.at_ 11 rfl
   have zz:=CZ.lt
   have f0:=CZ.2.1 0;have f1:=CZ.2.1 1;have f2:=CZ.2.1 2;have f3:=CZ.2.1 3;have f4:=CZ.2.1 4;have f5:=CZ.2.1 5;have f6:=CZ.2.1 6;have f7:=CZ.2.1 7;have f8:=CZ.2.1 8;have f9:=CZ.2.1 9;have f10:=CZ.2.1 10;have f11:=CZ.2.1 11
   clear hT hZ hB hX hT2 HT HZ
   go_wp2_with fail
   have E1:CellsAt ((((((((((((wr.setCell ⟨w.heap.size+1,0,none⟩ (.int .i64 (X 0).1)).setCell ⟨w.heap.size+1,1,none⟩ (.bool (X 0).2.1)).setCell ⟨w.heap.size+1,2,none⟩ (.int .i64 (X 0).2.2)).setCell ⟨w.heap.size+1,3,none⟩ (.int .i64 (X 1).1)).setCell ⟨w.heap.size+1,4,none⟩ (.bool (X 1).2.1)).setCell ⟨w.heap.size+1,5,none⟩ (.int .i64 (X 1).2.2)).setCell ⟨w.heap.size+1,6,none⟩ (.int .i64 (X 2).1)).setCell ⟨w.heap.size+1,7,none⟩ (.bool (X 2).2.1)).setCell ⟨w.heap.size+1,8,none⟩ (.int .i64 (X 2).2.2)).setCell ⟨w.heap.size+1,9,none⟩ (.int .i64 (X 3).1)).setCell ⟨w.heap.size+1,10,none⟩ (.bool (X 3).2.1)).setCell ⟨w.heap.size+1,11,none⟩ (.int .i64 (X 3).2.2)) (w.heap.size+1) (teamC X):=((((((((((((CZ.set_ 0 (by simp) (.int .i64 (X 0).1)).set_ 1 (by simp) (.bool (X 0).2.1)).set_ 2 (by simp) (.int .i64 (X 0).2.2)).set_ 3 (by simp) (.int .i64 (X 1).1)).set_ 4 (by simp) (.bool (X 1).2.1)).set_ 5 (by simp) (.int .i64 (X 1).2.2)).set_ 6 (by simp) (.int .i64 (X 2).1)).set_ 7 (by simp) (.bool (X 2).2.1)).set_ 8 (by simp) (.int .i64 (X 2).2.2)).set_ 9 (by simp) (.int .i64 (X 3).1)).set_ 10 (by simp) (.bool (X 3).2.1)).set_ 11 (by simp) (.int .i64 (X 3).2.2))
   have B7:Below w.heap.size w ((((((((((((wr.setCell ⟨w.heap.size+1,0,none⟩ (.int .i64 (X 0).1)).setCell ⟨w.heap.size+1,1,none⟩ (.bool (X 0).2.1)).setCell ⟨w.heap.size+1,2,none⟩ (.int .i64 (X 0).2.2)).setCell ⟨w.heap.size+1,3,none⟩ (.int .i64 (X 1).1)).setCell ⟨w.heap.size+1,4,none⟩ (.bool (X 1).2.1)).setCell ⟨w.heap.size+1,5,none⟩ (.int .i64 (X 1).2.2)).setCell ⟨w.heap.size+1,6,none⟩ (.int .i64 (X 2).1)).setCell ⟨w.heap.size+1,7,none⟩ (.bool (X 2).2.1)).setCell ⟨w.heap.size+1,8,none⟩ (.int .i64 (X 2).2.2)).setCell ⟨w.heap.size+1,9,none⟩ (.int .i64 (X 3).1)).setCell ⟨w.heap.size+1,10,none⟩ (.bool (X 3).2.1)).setCell ⟨w.heap.size+1,11,none⟩ (.int .i64 (X 3).2.2)):=((((((((((((HB.out.setCell (p:=⟨w.heap.size+1,0,none⟩) (by show w.heap.size≤w.heap.size+1;omega) (.int .i64 (X 0).1)).setCell (p:=⟨w.heap.size+1,1,none⟩) (by show w.heap.size≤w.heap.size+1;omega) (.bool (X 0).2.1)).setCell (p:=⟨w.heap.size+1,2,none⟩) (by show w.heap.size≤w.heap.size+1;omega) (.int .i64 (X 0).2.2)).setCell (p:=⟨w.heap.size+1,3,none⟩) (by show w.heap.size≤w.heap.size+1;omega) (.int .i64 (X 1).1)).setCell (p:=⟨w.heap.size+1,4,none⟩) (by show w.heap.size≤w.heap.size+1;omega) (.bool (X 1).2.1)).setCell (p:=⟨w.heap.size+1,5,none⟩) (by show w.heap.size≤w.heap.size+1;omega) (.int .i64 (X 1).2.2)).setCell (p:=⟨w.heap.size+1,6,none⟩) (by show w.heap.size≤w.heap.size+1;omega) (.int .i64 (X 2).1)).setCell (p:=⟨w.heap.size+1,7,none⟩) (by show w.heap.size≤w.heap.size+1;omega) (.bool (X 2).2.1)).setCell (p:=⟨w.heap.size+1,8,none⟩) (by show w.heap.size≤w.heap.size+1;omega) (.int .i64 (X 2).2.2)).setCell (p:=⟨w.heap.size+1,9,none⟩) (by show w.heap.size≤w.heap.size+1;omega) (.int .i64 (X 3).1)).setCell (p:=⟨w.heap.size+1,10,none⟩) (by show w.heap.size≤w.heap.size+1;omega) (.bool (X 3).2.1)).setCell (p:=⟨w.heap.size+1,11,none⟩) (by show w.heap.size≤w.heap.size+1;omega) (.int .i64 (X 3).2.2))
   obtain⟨w9,hw9⟩:∃x,((((((((((((wr.setCell ⟨w.heap.size+1,0,none⟩ (.int .i64 (X 0).1)).setCell ⟨w.heap.size+1,1,none⟩ (.bool (X 0).2.1)).setCell ⟨w.heap.size+1,2,none⟩ (.int .i64 (X 0).2.2)).setCell ⟨w.heap.size+1,3,none⟩ (.int .i64 (X 1).1)).setCell ⟨w.heap.size+1,4,none⟩ (.bool (X 1).2.1)).setCell ⟨w.heap.size+1,5,none⟩ (.int .i64 (X 1).2.2)).setCell ⟨w.heap.size+1,6,none⟩ (.int .i64 (X 2).1)).setCell ⟨w.heap.size+1,7,none⟩ (.bool (X 2).2.1)).setCell ⟨w.heap.size+1,8,none⟩ (.int .i64 (X 2).2.2)).setCell ⟨w.heap.size+1,9,none⟩ (.int .i64 (X 3).1)).setCell ⟨w.heap.size+1,10,none⟩ (.bool (X 3).2.1)).setCell ⟨w.heap.size+1,11,none⟩ (.int .i64 (X 3).2.2))=x:=⟨_,rfl⟩
   rw[hw9]at E1 B7⊢
   clear hw9
   have e0:=E1.at_ 0 rfl;have e1:=E1.at_ 1 rfl;have e2:=E1.at_ 2 rfl;have e3:=E1.at_ 3 rfl;have e4:=E1.at_ 4 rfl;have e5:=E1.at_ 5 rfl;have e6:=E1.at_ 6 rfl;have e7:=E1.at_ 7 rfl;have e8:=E1.at_ 8 rfl;have e9:=E1.at_ 9 rfl;have e10:=E1.at_ 10 rfl;have e11:=E1.at_ 11 rfl
   exact bodyPost_ret (v:=.tuple #[teamV X,.int .i64 0]) (by simp[results,Tryz.results122,go_sem,e0,e1,e2,e3,e4,e5,e6,e7,e8,e9,e10,e11]) rfl ⟨by rw[HX.out],B7⟩
def resetT (T:Team) (i:Nat):Team:=upd T i (nx (T i) 7)
theorem redReset_is (T:Team) (k:Nat) (hk:k<4) (w:World) (hok:∀j,j<4→OkS (T j)):
  Calls Tryz.prog 123 #[teamV T,.int .i64 (k:Int),.bool true] w fun e w'=>e=.returned (.tuple #[teamV (resetT T k),.int .i64 0])∧Below w.heap.size w w':=by
 have HOK:=qh hok
 obtain⟨w2,hw2⟩:∃x,(w.alloc (.cells (teamC T).toArray 77)).alloc (.cells (teamC fun _=>(0,false,0)).toArray 77)=x:=⟨_,rfl⟩
 have C0:Hid (CellsAt w2 w.heap.size (teamC T)):=qh (hw2▸((CellsAt.new' rfl rfl).alloc _))
 have C1:Hid (CellsAt w2 (w.heap.size+1) (teamC fun _=>(0,false,0))):=qh (hw2▸(CellsAt.new' (by simp) rfl))
 have B2:Hid (Below w.heap.size w w2):=qh (hw2▸(((bLr).alloc (Nat.le_refl _) _).alloc (by simp) _))
 have HW2:=qh hw2
 have e5:¬(k:Int)<0:=by omega
 have e6:¬(k:Int)≥4:=by omega
 clear hok hw2
 go_enter Tryz.func123,Tryz.ntmps123
 go_upto_region 1 with(fail)
 rw[show((w.alloc (.cells #[.int .i64 (T 0).1,.bool (T 0).2.1,.int .i64 (T 0).2.2,.int .i64 (T 1).1,.bool (T 1).2.1,.int .i64 (T 1).2.2,.int .i64 (T 2).1,.bool (T 2).2.1,.int .i64 (T 2).2.2,.int .i64 (T 3).1,.bool (T 3).2.1,.int .i64 (T 3).2.2] 77)).alloc (.cells #[.int .i64 0,.bool false,.int .i64 0,.int .i64 0,.bool false,.int .i64 0,.int .i64 0,.bool false,.int .i64 0,.int .i64 0,.bool false,.int .i64 0] 77))=w2 from HW2.out]
 have t0:=C0.out.at_ 0 rfl;have t1:=C0.out.at_ 1 rfl;have t2:=C0.out.at_ 2 rfl;have t3:=C0.out.at_ 3 rfl;have t4:=C0.out.at_ 4 rfl;have t5:=C0.out.at_ 5 rfl;have t6:=C0.out.at_ 6 rfl;have t7:=C0.out.at_ 7 rfl;have t8:=C0.out.at_ 8 rfl;have t9:=C0.out.at_ 9 rfl;have t10:=C0.out.at_ 10 rfl;have t11:=C0.out.at_ 11 rfl
 have tz:=C0.out.lt
 go_wp2_with fail
 refine(redCheck_yes _ _ _ _ _ _ _ _ _ _ _ _ _ (HOK.out 0 (by omega)) (HOK.out 1 (by omega)) (HOK.out 2 (by omega)) (HOK.out 3 (by omega))).mono ?_
 rintro e w3 ⟨rfl,hb3⟩
 have D0:Hid (TeamAt w3 w.heap.size T):=qh (team_of_cells (C0.out.call hb3))
 have D1:Hid (TeamAt w3 (w.heap.size+1) fun _=>(0,false,0)):=qh (team_of_cells (C1.out.call hb3))
 have B3:=qh (B2.out.trans (hb3.mono B2.out.size))
 clear hb3 t0 t1 t2 t3 t4 t5 t6 t7 t8 t9 t10 t11 tz C0 C1 B2 HW2
 go_wp2_with fail
 refine(on_any w.heap.size T k hk 7 (.inr (.inr (.inr (.inr (.inr (.inr rfl)))))) _ D0.out (HOK.out k hk)).mono ?_
 rintro e wr ⟨rfl,hT,hg4⟩
 have hZ:=D1.out.kept hg4 (by omega)
 have HB:=qh (below_of_grown B3.out hg4 (Nat.le_refl _) B3.out.size)
 have zB:=HB.out.size
 clear hg4 D0 D1 B3
 ·obtain⟨X,hX⟩:∃X,resetT T k=X:=⟨_,rfl⟩
  have HX:=qh hX
  have hT2:TeamAt wr w.heap.size X:=hX▸hT
  have CX:=cells_of_team hT2;have CZ:=cells_of_team hZ
  have t0:=CX.at_ 0 rfl;have t1:=CX.at_ 1 rfl;have t2:=CX.at_ 2 rfl;have t3:=CX.at_ 3 rfl;have t4:=CX.at_ 4 rfl;have t5:=CX.at_ 5 rfl;have t6:=CX.at_ 6 rfl;have t7:=CX.at_ 7 rfl;have t8:=CX.at_ 8 rfl;have t9:=CX.at_ 9 rfl;have t10:=CX.at_ 10 rfl;have t11:=CX.at_ 11 rfl
  have tz:=CX.lt
  have z0:=CZ.at_ 0 rfl;have z1:=CZ.at_ 1 rfl;have z2:=CZ.at_ 2 rfl;have z3:=CZ.at_ 3 rfl;have z4:=CZ.at_ 4 rfl;have z5:=CZ.at_ 5 rfl;have z6:=CZ.at_ 6 rfl;have z7:=CZ.at_ 7 rfl;have z8:=CZ.at_ 8 rfl;have z9:=CZ.at_ 9 rfl;have z10:=CZ.at_ 10 rfl;have z11:=CZ.at_ 11 rfl
  have zz:=CZ.lt
  have f0:=CZ.2.1 0;have f1:=CZ.2.1 1;have f2:=CZ.2.1 2;have f3:=CZ.2.1 3;have f4:=CZ.2.1 4;have f5:=CZ.2.1 5;have f6:=CZ.2.1 6;have f7:=CZ.2.1 7;have f8:=CZ.2.1 8;have f9:=CZ.2.1 9;have f10:=CZ.2.1 10;have f11:=CZ.2.1 11
  clear hT hZ hX hT2
  go_wp2_with fail
  have E1:CellsAt ((((((((((((wr.setCell ⟨w.heap.size+1,0,none⟩ (.int .i64 (X 0).1)).setCell ⟨w.heap.size+1,1,none⟩ (.bool (X 0).2.1)).setCell ⟨w.heap.size+1,2,none⟩ (.int .i64 (X 0).2.2)).setCell ⟨w.heap.size+1,3,none⟩ (.int .i64 (X 1).1)).setCell ⟨w.heap.size+1,4,none⟩ (.bool (X 1).2.1)).setCell ⟨w.heap.size+1,5,none⟩ (.int .i64 (X 1).2.2)).setCell ⟨w.heap.size+1,6,none⟩ (.int .i64 (X 2).1)).setCell ⟨w.heap.size+1,7,none⟩ (.bool (X 2).2.1)).setCell ⟨w.heap.size+1,8,none⟩ (.int .i64 (X 2).2.2)).setCell ⟨w.heap.size+1,9,none⟩ (.int .i64 (X 3).1)).setCell ⟨w.heap.size+1,10,none⟩ (.bool (X 3).2.1)).setCell ⟨w.heap.size+1,11,none⟩ (.int .i64 (X 3).2.2)) (w.heap.size+1) (teamC X):=((((((((((((CZ.set_ 0 (by simp) (.int .i64 (X 0).1)).set_ 1 (by simp) (.bool (X 0).2.1)).set_ 2 (by simp) (.int .i64 (X 0).2.2)).set_ 3 (by simp) (.int .i64 (X 1).1)).set_ 4 (by simp) (.bool (X 1).2.1)).set_ 5 (by simp) (.int .i64 (X 1).2.2)).set_ 6 (by simp) (.int .i64 (X 2).1)).set_ 7 (by simp) (.bool (X 2).2.1)).set_ 8 (by simp) (.int .i64 (X 2).2.2)).set_ 9 (by simp) (.int .i64 (X 3).1)).set_ 10 (by simp) (.bool (X 3).2.1)).set_ 11 (by simp) (.int .i64 (X 3).2.2))
  have B7:Below w.heap.size w ((((((((((((wr.setCell ⟨w.heap.size+1,0,none⟩ (.int .i64 (X 0).1)).setCell ⟨w.heap.size+1,1,none⟩ (.bool (X 0).2.1)).setCell ⟨w.heap.size+1,2,none⟩ (.int .i64 (X 0).2.2)).setCell ⟨w.heap.size+1,3,none⟩ (.int .i64 (X 1).1)).setCell ⟨w.heap.size+1,4,none⟩ (.bool (X 1).2.1)).setCell ⟨w.heap.size+1,5,none⟩ (.int .i64 (X 1).2.2)).setCell ⟨w.heap.size+1,6,none⟩ (.int .i64 (X 2).1)).setCell ⟨w.heap.size+1,7,none⟩ (.bool (X 2).2.1)).setCell ⟨w.heap.size+1,8,none⟩ (.int .i64 (X 2).2.2)).setCell ⟨w.heap.size+1,9,none⟩ (.int .i64 (X 3).1)).setCell ⟨w.heap.size+1,10,none⟩ (.bool (X 3).2.1)).setCell ⟨w.heap.size+1,11,none⟩ (.int .i64 (X 3).2.2)):=((((((((((((HB.out.setCell (p:=⟨w.heap.size+1,0,none⟩) (by show w.heap.size≤w.heap.size+1;omega) (.int .i64 (X 0).1)).setCell (p:=⟨w.heap.size+1,1,none⟩) (by show w.heap.size≤w.heap.size+1;omega) (.bool (X 0).2.1)).setCell (p:=⟨w.heap.size+1,2,none⟩) (by show w.heap.size≤w.heap.size+1;omega) (.int .i64 (X 0).2.2)).setCell (p:=⟨w.heap.size+1,3,none⟩) (by show w.heap.size≤w.heap.size+1;omega) (.int .i64 (X 1).1)).setCell (p:=⟨w.heap.size+1,4,none⟩) (by show w.heap.size≤w.heap.size+1;omega) (.bool (X 1).2.1)).setCell (p:=⟨w.heap.size+1,5,none⟩) (by show w.heap.size≤w.heap.size+1;omega) (.int .i64 (X 1).2.2)).setCell (p:=⟨w.heap.size+1,6,none⟩) (by show w.heap.size≤w.heap.size+1;omega) (.int .i64 (X 2).1)).setCell (p:=⟨w.heap.size+1,7,none⟩) (by show w.heap.size≤w.heap.size+1;omega) (.bool (X 2).2.1)).setCell (p:=⟨w.heap.size+1,8,none⟩) (by show w.heap.size≤w.heap.size+1;omega) (.int .i64 (X 2).2.2)).setCell (p:=⟨w.heap.size+1,9,none⟩) (by show w.heap.size≤w.heap.size+1;omega) (.int .i64 (X 3).1)).setCell (p:=⟨w.heap.size+1,10,none⟩) (by show w.heap.size≤w.heap.size+1;omega) (.bool (X 3).2.1)).setCell (p:=⟨w.heap.size+1,11,none⟩) (by show w.heap.size≤w.heap.size+1;omega) (.int .i64 (X 3).2.2))
  obtain⟨w9,hw9⟩:∃x,((((((((((((wr.setCell ⟨w.heap.size+1,0,none⟩ (.int .i64 (X 0).1)).setCell ⟨w.heap.size+1,1,none⟩ (.bool (X 0).2.1)).setCell ⟨w.heap.size+1,2,none⟩ (.int .i64 (X 0).2.2)).setCell ⟨w.heap.size+1,3,none⟩ (.int .i64 (X 1).1)).setCell ⟨w.heap.size+1,4,none⟩ (.bool (X 1).2.1)).setCell ⟨w.heap.size+1,5,none⟩ (.int .i64 (X 1).2.2)).setCell ⟨w.heap.size+1,6,none⟩ (.int .i64 (X 2).1)).setCell ⟨w.heap.size+1,7,none⟩ (.bool (X 2).2.1)).setCell ⟨w.heap.size+1,8,none⟩ (.int .i64 (X 2).2.2)).setCell ⟨w.heap.size+1,9,none⟩ (.int .i64 (X 3).1)).setCell ⟨w.heap.size+1,10,none⟩ (.bool (X 3).2.1)).setCell ⟨w.heap.size+1,11,none⟩ (.int .i64 (X 3).2.2))=x:=⟨_,rfl⟩
  rw[hw9]at E1 B7⊢
  clear hw9
  have e0:=E1.at_ 0 rfl;have e1:=E1.at_ 1 rfl;have e2:=E1.at_ 2 rfl;have e3:=E1.at_ 3 rfl;have e4:=E1.at_ 4 rfl;have e5:=E1.at_ 5 rfl;have e6:=E1.at_ 6 rfl;have e7:=E1.at_ 7 rfl;have e8:=E1.at_ 8 rfl;have e9:=E1.at_ 9 rfl;have e10:=E1.at_ 10 rfl;have e11:=E1.at_ 11 rfl
  exact bodyPost_ret (v:=.tuple #[teamV X,.int .i64 0]) (by simp[results,Tryz.results123,go_sem,e0,e1,e2,e3,e4,e5,e6,e7,e8,e9,e10,e11]) rfl ⟨by rw[HX.out],B7⟩
abbrev Drv:=Int×Int×Int×Int
def stepD (S:Stp) (want mid:Int) (d:Drv):Drv:=
 (rateI d.1 want S.rate,pidNext S.P S.I S.D S.lo S.hi d.2.1 d.2.2.1 (sat32 (rateI d.1 want S.rate-mid)),sat32 (rateI d.1 want S.rate-mid),towardI d.2.2.2 (pidTold S.P S.I S.D S.lo S.hi d.2.1 d.2.2.1 (sat32 (rateI d.1 want S.rate-mid))) (2^S.soft.toNat))
def drvN (S:Stp) (D:Dyn) (mid:Int):Nat→Drv:=fun j=>if(D.team j).1=1 then stepD S D.want mid (D.drv j)else(mid,0,0,0)
def valN (S:Stp) (D:Dyn) (mid:Int):Nat→Int:=fun j=>if(D.team j).1=1 then(stepD S D.want mid (D.drv j)).2.2.2 else 0
def vlvN (S:Stp) (D:Dyn) (mid:Int):Nat→Int:=trimI (valN S D mid) D.off
def spoN (S:Stp) (D:Dyn) (mid:Int) (F:Nat→Int):Nat→Int:=fun j=>if stuckB (F j)then D.spool j else vlvN S D mid j
theorem lay_drv (S:Stp) (D:Dyn) (vp vl vg:Value) {k:Nat} (h:k<4):(lay S D vp vl vg)[53+k*4]?=some (.int .i32 (D.drv k).1)∧(lay S D vp vl vg)[53+k*4+1]?=some (.int .i32 (D.drv k).2.1)∧(lay S D vp vl vg)[53+k*4+2]?=some (.int .i32 (D.drv k).2.2.1)∧(lay S D vp vl vg)[53+k*4+3]?=some (.int .i32 (D.drv k).2.2.2):=by
 rcases(by omega:k=0∨k=1∨k=2∨k=3)with rfl|rfl|rfl|rfl<;>exact⟨rfl,rfl,rfl,rfl⟩
theorem lay_drv_set (S:Stp) (D:Dyn) (vp vl vg:Value) {k:Nat} (h:k<4) (d:Drv):((((lay S D vp vl vg).set (53+k*4) (.int .i32 d.1)).set (53+k*4+1) (.int .i32 d.2.1)).set (53+k*4+2) (.int .i32 d.2.2.1)).set (53+k*4+3) (.int .i32 d.2.2.2)=lay S {D with drv:=fun j=>if j=k then d else D.drv j} vp vl vg:=by
 rcases(by omega:k=0∨k=1∨k=2∨k=3)with rfl|rfl|rfl|rfl<;>rfl
theorem lay_spool (S:Stp) (D:Dyn) (vp vl vg:Value) {k:Nat} (h:k<4):(lay S D vp vl vg)[113+k]?=some (.int .i32 (D.spool k)):=by
 rcases(by omega:k=0∨k=1∨k=2∨k=3)with rfl|rfl|rfl|rfl<;>rfl
theorem lay_spool_set (S:Stp) (D:Dyn) (vp vl vg:Value) {k:Nat} (h:k<4) (x:Int):(lay S D vp vl vg).set (113+k) (.int .i32 x)=lay S {D with spool:=fun j=>if j=k then x else D.spool j} vp vl vg:=by
 rcases(by omega:k=0∨k=1∨k=2∨k=3)with rfl|rfl|rfl|rfl<;>rfl
theorem stepD_is (S:Stp) (want mid:Int) (d:Drv):StepIs S.rate S.soft S.P S.I S.D S.lo S.hi d.1 d.2.1 d.2.2.1 d.2.2.2 want mid (stepD S want mid d).1 (stepD S want mid d).2.1 (stepD S want mid d).2.2.1 (stepD S want mid d).2.2.2:=⟨rfl,rfl,rfl,rfl⟩
theorem srv_ok {S:Stp} (h:StpOk S) {s:Int} (hs:S.lo≤s∧s≤S.hi):ServoOk S.rate S.soft S.lo S.hi s:=by
 obtain⟨h1,h2,h3,h4⟩:=h.srv
 refine⟨h1,h2,h3,?_⟩
 unfold pidBad at h4⊢;omega
theorem stepD_bd {S:Stp} {D:Dyn} (hS:StpOk S) (hD:DynOk S D) (mid:Int) {j:Nat} (hj:j<4):(-2147483648≤(stepD S D.want mid (D.drv j)).1∧(stepD S D.want mid (D.drv j)).1≤2147483647)∧(S.lo≤(stepD S D.want mid (D.drv j)).2.1∧(stepD S D.want mid (D.drv j)).2.1≤S.hi)∧(-2147483648≤(stepD S D.want mid (D.drv j)).2.2.1∧(stepD S D.want mid (D.drv j)).2.2.1≤2147483647)∧(-2147483648≤(stepD S D.want mid (D.drv j)).2.2.2∧(stepD S D.want mid (D.drv j)).2.2.2≤2147483647):=by
 obtain⟨d1,d2,d3,d4⟩:=hD.drv j hj
 have hb:=(srv_ok hS d2).2.2.2
 have hl:=hS.inn.lo;have hh:=hS.inn.hi
 refine⟨rateI_bd _ _ _ hD.want,?_,sat32_bd _,?_⟩
 ·exact pidNext_bd _ _ _ _ _ _ _ _ hb
 ·have h1:=pidTold_bd S.P S.I S.D S.lo S.hi (D.drv j).2.1 (D.drv j).2.2.1 (sat32 (rateI (D.drv j).1 D.want S.rate-mid)) hb
  have h2:=towardI_bd (D.drv j).2.2.2 (pidTold S.P S.I S.D S.lo S.hi (D.drv j).2.1 (D.drv j).2.2.1 (sat32 (rateI (D.drv j).1 D.want S.rate-mid))) (2^S.soft.toNat) (two_pow_bd S.soft ⟨hS.srv.2.1,hS.srv.2.2.1⟩).1
  show-2147483648≤towardI _ _ _∧towardI _ _ _≤2147483647
  omega
theorem valN_bd {S:Stp} {D:Dyn} (hS:StpOk S) (hD:DynOk S D) (mid:Int) {j:Nat} (hj:j<4): -2147483648≤valN S D mid j∧valN S D mid j≤2147483647:=by
 unfold valN;split
 ·exact(stepD_bd hS hD mid hj).2.2.2
 ·omega
abbrev setD (w:World) (b k:Nat) (d:Drv):World:=(((w.setCell ⟨b,53+k*4,none⟩ (.int .i32 d.1)).setCell ⟨b,53+k*4+1,none⟩ (.int .i32 d.2.1)).setCell ⟨b,53+k*4+2,none⟩ (.int .i32 d.2.2.1)).setCell ⟨b,53+k*4+3,none⟩ (.int .i32 d.2.2.2)
theorem grown_setD (w:World) (b k:Nat) (d:Drv):w.grownBy (setD w b k d) (some b):=
 grownBy_two (grownBy_two (grownBy_two (grown_setW _ _ _ _) (grown_setW _ _ _ _)) (grown_setW _ _ _ _)) (grown_setW _ _ _ _)
theorem WAt.drvSet {w:World} {b k:Nat} {S:Stp} {D D':Dyn} {vp vl vg:Value} (h:WAt w b S D vp vl vg) (hk:k<4) (d:Drv) (hD:D'={D with drv:=fun j=>if j=k then d else D.drv j}):WAt (setD w b k d) b S D' vp vl vg:=by
 subst hD
 have hl:=lay_len S D vp vl vg
 exact h.turn (grown_setD w b k d) ((((h.c.set_ (53+k*4) (by rw[hl];omega) (.int .i32 d.1)).set_ (53+k*4+1) (by rw[List.length_set,hl];omega) (.int .i32 d.2.1)).set_ (53+k*4+2) (by rw[List.length_set,List.length_set,hl];omega) (.int .i32 d.2.2.1)).set_ (53+k*4+3) (by rw[List.length_set,List.length_set,List.length_set,hl];omega) (.int .i32 d.2.2.2)) (lay_drv_set S D vp vl vg hk d) rfl rfl
def SpoRel (w0:World) (b:Nat) (S:Stp) (D:Dyn) (vp vl vg:Value) (I:Inp) (mid:Int) (i:Value) (wr:World):Prop:=
 ∃k:Nat,k≤4∧i=.int .i64 k∧CellsAt wr b (lay S {D with drv:=drvN S D mid,spool:=upTo (spoN S D mid I.f) D.spool k} vp vl vg)∧CellsAt wr w0.heap.size (inL I)∧CellsAt wr (w0.heap.size+1) (i32c fun _=>0)∧CellsAt wr (w0.heap.size+1+1) (i32c (vlvN S D mid))∧w0.grownBy wr (some b)
def DrvRel (w0:World) (b:Nat) (S:Stp) (D:Dyn) (vp vl vg:Value) (I:Inp) (mid:Int) (i:Value) (wr:World):Prop:=
 ∃k:Nat,k≤4∧i=.int .i64 k∧WAt wr b S {D with drv:=upTo (drvN S D mid) D.drv k} vp vl vg∧CellsAt wr w0.heap.size (inL I)∧CellsAt wr (w0.heap.size+1) (i32c fun _=>0)∧CellsAt wr (w0.heap.size+1+1) (i32c (upTo (valN S D mid) (fun _=>0) k))∧w0.grownBy wr (some b)
theorem drive_is {b:Nat} {S:Stp} {D:Dyn} {I:Inp} {vp vl vg:Value} {w:World} (h:WAt w b S D vp vl vg) (hS:StpOk S) (hD:DynOk S D) (mid:Int) (hm: -2147483648≤mid∧mid≤2147483647):
  Calls Tryz.prog 112 #[ptr b,inV I,.int .i32 mid] w fun e w'=>e=.returned (i32A (vlvN S D mid))∧WAt w' b S {D with drv:=drvN S D mid,spool:=spoN S D mid I.f} vp vl vg∧w.grownBy w' (some b):=by
 have HS:=qh hS;have HD:=qh hD;have HW0:=qh h
 obtain⟨w3,hw3⟩:∃x,((w.alloc (.cells #[.string I.cmd,.int .i32 I.p0,.int .i32 I.p1,.int .i32 I.load,.int .i64 (I.f 0),.int .i64 (I.f 1),.int .i64 (I.f 2),.int .i64 (I.f 3),.bool I.ground,.int .i64 I.ask,.bool I.tries,.int .i64 I.reset] 55)).alloc (.cells #[.int .i32 0,.int .i32 0,.int .i32 0,.int .i32 0] 83)).alloc (.cells #[.int .i32 0,.int .i32 0,.int .i32 0,.int .i32 0] 83)=x:=⟨_,rfl⟩
 have CI:Hid (CellsAt w3 w.heap.size (inL I)):=qh (hw3▸(((CellsAt.new w (inL I) _ _ rfl).alloc _).alloc _))
 have C1:Hid (CellsAt w3 (w.heap.size+1) (i32c fun _=>0)):=qh (hw3▸((CellsAt.new' (by simp) rfl).alloc _))
 have C2:Hid (CellsAt w3 (w.heap.size+1+1) (i32c fun _=>0)):=qh (hw3▸CellsAt.new' (by simp) rfl)
 have b3:Below w.heap.size w w3:=hw3▸((((bLr).alloc (Nat.le_refl _) _).alloc (by simp) _).alloc (by simp;omega) _)
 have G3:=qh (grown_of_below b3 (some b))
 have h3:=h.call b3
 have HW3':=qh h3
 have hbw:=h.lt
 have HW3:=qh hw3
 have t0:=h3.c.at_ 41 rfl;have t1:=h3.c.at_ 42 rfl;have t2:=h3.c.at_ 43 rfl;have t3:=h3.c.at_ 44 rfl;have t4:=h3.c.at_ 45 rfl;have t5:=h3.c.at_ 46 rfl;have t6:=h3.c.at_ 47 rfl;have t7:=h3.c.at_ 48 rfl;have t8:=h3.c.at_ 49 rfl;have t9:=h3.c.at_ 50 rfl;have t10:=h3.c.at_ 51 rfl;have t11:=h3.c.at_ 52 rfl
 have tz:=h3.lt
 clear h hS hD hw3 h3 b3
 go_enter Tryz.func112,Tryz.ntmps112
 go_upto_region 2 with(fail)
 rw[HW3.out]
 go_wp2_with fail
 clear t0 t1 t2 t3 t4 t5 t6 t7 t8 t9 t10 t11 tz
 go_loopw [15] (fun i wr=>DrvRel w b S D vp vl vg I mid i wr) (fun i _=>4-(intOf i).toNat)
 case atStart=>exact⟨0,by omega,rfl,by rw[upTo_0];exact HW3'.out,CI.out,C1.out,by rw[upTo_0];exact C2.out,G3.out⟩
 case round=>
  clear CI C1 C2 G3 HW3' HW3
  obtain⟨k,hk,rfl,hW,hi,hc1,hc2,hg⟩:=hrel
  have HW:=qh hW;have CI:=qh hi;have C1:=qh hc1;have C2:=qh hc2;have G:=qh hg
  have zg:=hg.size
  by_cases hlt:k<4
  ·have e5:(k:Int)<4:=by omega
   have hix:=team_index D.team hlt
   obtain⟨l0,l1,l2,l3⟩:=lay_drv S {D with drv:=upTo (drvN S D mid) D.drv k} vp vl vg hlt
   have p0:=hW.c.at_ _ l0;have p1:=hW.c.at_ _ l1;have p2:=hW.c.at_ _ l2;have p3:=hW.c.at_ _ l3
   simp only[upTo_at]at p0 p1 p2 p3
   have f0:=hW.c.2.1 (53+k*4);have f1:=hW.c.2.1 (53+k*4+1);have f2:=hW.c.2.1 (53+k*4+2);have f3:=hW.c.2.1 (53+k*4+3)
   have pz:=hW.lt
   clear hW hi hc1 hc2 hg
   by_cases hmode:(D.team k).1=1
   ·have hm2:((D.team k).1 != 1)=false:=by rw[bne_eq_false_iff_eq];exact hmode
    have s4:=HW.out.c.at_ 4 rfl;have s5:=HW.out.c.at_ 5 rfl;have s6:=HW.out.c.at_ 6 rfl;have s7:=HW.out.c.at_ 7 rfl;have s8:=HW.out.c.at_ 8 rfl;have s9:=HW.out.c.at_ 9 rfl;have s10:=HW.out.c.at_ 10 rfl;have s35:=HW.out.c.at_ 35 rfl
    have v0:=C2.out.at_ k (i32c_at _ hlt);have vf:=C2.out.2.1 k;have vz:=C2.out.lt
    rw[upTo_at]at v0
    have hib:=HS.out.inn
    obtain⟨d1,d2,d3,d4⟩:=HD.out.drv k hlt
    have hlo:=hib.lo;have hhi:=hib.hi
    have HST:=qh (stepD_is S D.want mid (D.drv k))
    have HDN:Hid (drvN S D mid k=stepD S D.want mid (D.drv k)):=qh (by unfold drvN;rw[if_pos hmode])
    have HVN:Hid (valN S D mid k=(stepD S D.want mid (D.drv k)).2.2.2):=qh (by unfold valN;rw[if_pos hmode])
    obtain⟨y,hy⟩:∃y,stepD S D.want mid (D.drv k)=y:=⟨_,rfl⟩
    rw[hy]at HST HDN HVN
    clear hy
    go_wp2_with fail
    go_region_law (first
     |(go_simp;go_at_call 143;refine(servoStep_yes S.rate S.soft S.P S.I S.D S.lo S.hi (D.drv k).1 (D.drv k).2.1 (D.drv k).2.2.1 (D.drv k).2.2.2 D.want mid y.1 y.2.1 y.2.2.1 y.2.2.2 _ hib.rate hib.P hib.I hib.D hlo hhi d1 (by omega) d3 d4 HD.out.want hm (srv_ok HS.out d2) HST.out).mono ?_;rintro e1 w1 ⟨rfl,hb1⟩;have hbb:Below wr.heap.size wr w1:=((((Below.refl wr.heap.size wr).alloc (Nat.le_refl _) _).drew).trans (hb1.mono (by simp)));have hW1:=HW.out.call hbb;have q0:=hW1.c.at_ _ l0;have q1:=hW1.c.at_ _ l1;have q2:=hW1.c.at_ _ l2;have q3:=hW1.c.at_ _ l3;have qf0:=hW1.c.2.1 (53+k*4);have qf1:=hW1.c.2.1 (53+k*4+1);have qf2:=hW1.c.2.1 (53+k*4+2);have qf3:=hW1.c.2.1 (53+k*4+3);have qz:=hW1.lt;have hC21:=C2.out.call hbb;have u0:=hC21.at_ k (i32c_at _ hlt);have uf:=hC21.2.1 k;have uz:=hC21.lt)
     |fail)
    all_goals go_wp2_with fail
    all_goals go_roundw
    all_goals first
     |(case rel=>
       have h4:=hW1.drvSet hlt y rfl
       have G4:=grown_setD w1 b k y
       have G5:=grown_own (c:=w.heap.size+1+1) (j:=k) (v:=.int .i32 y.2.2.2) (grownBy_two (grownBy_two G.out (grown_of_below hbb (some b))) G4) (by omega)
       have c5:=h4.c.other (c:=w.heap.size+1+1) (by omega) k (.int .i32 y.2.2.2)
       refine⟨k+1,by omega,by go_num,?_,(far_cells (CI.out.call hbb) G4 (by omega)).other (c:=w.heap.size+1+1) (by omega) k _,(far_cells (C1.out.call hbb) G4 (by omega)).other (c:=w.heap.size+1+1) (by omega) k _,?_,G5⟩
       ·refine HW0.out.turn G5 c5 ?_ rfl rfl
        rw[←upTo_step (drvN S D mid) D.drv k HDN.out]
       ·have h9:=(far_cells (C2.out.call hbb) G4 (by omega)).set_ k (by exact hlt) (.int .i32 y.2.2.2)
        rw[i32c_set _ hlt,upTo_step (valN S D mid) (fun _=>0) k HVN.out]at h9
        exact h9)
     |(case measure=>simp[intOf];omega)
   ·have hm2:((D.team k).1 != 1)=true:=by rw[bne_iff_ne];exact hmode
    go_wp2_with fail
    go_region_law (first
     |(go_simp;go_at_call 124;refine(servoRest_any _ _ _ _ _ _).mono ?_;rintro e1 w1 ⟨rfl,hb1⟩;have hbb:Below wr.heap.size wr w1:=((((Below.refl wr.heap.size wr).alloc (Nat.le_refl _) _).drew).trans (hb1.mono (by simp)));have hW1:=HW.out.call hbb;have q0:=hW1.c.at_ _ l0;have q1:=hW1.c.at_ _ l1;have q2:=hW1.c.at_ _ l2;have q3:=hW1.c.at_ _ l3;have qf0:=hW1.c.2.1 (53+k*4);have qf1:=hW1.c.2.1 (53+k*4+1);have qf2:=hW1.c.2.1 (53+k*4+2);have qf3:=hW1.c.2.1 (53+k*4+3);have qz:=hW1.lt)
     |fail)
    all_goals go_wp2_with fail
    all_goals go_roundw
    all_goals first
     |(case rel=>
       have h4:=hW1.drvSet hlt (mid,0,0,0) rfl
       have G4:=grown_setD w1 b k (mid,0,0,0)
       have hdn:drvN S D mid k=(mid,0,0,0):=by unfold drvN;rw[if_neg hmode]
       have hvn:valN S D mid k=0:=by unfold valN;rw[if_neg hmode]
       have G5:=grownBy_two (grownBy_two G.out (grown_of_below hbb (some b))) G4
       refine⟨k+1,by omega,by go_num,?_,far_cells (CI.out.call hbb) G4 (by omega),far_cells (C1.out.call hbb) G4 (by omega),?_,G5⟩
       ·rw[←upTo_step (drvN S D mid) D.drv k hdn];exact h4
       ·rw[←upTo_step (valN S D mid) (fun _=>0) k hvn]
        have hcc:(fun j=>if j=k then(0:Int)else upTo (valN S D mid) (fun _=>0) k j)=upTo (valN S D mid) (fun _=>0) k:=by
         funext j;by_cases e:j=k
         ·subst e;rw[if_pos rfl,upTo_at]
         ·rw[if_neg e]
        rw[hcc];exact far_cells (C2.out.call hbb) G4 (by omega))
     |(case measure=>simp[intOf];omega)
  ·obtain rfl:k=4:=by omega
   rw[show((4:Nat):Int)=4 from rfl]
   have p0:wr.cell? ⟨w.heap.size+1+1,0,none⟩=some (.int .i32 (valN S D mid 0)):=hc2.at_ 0 rfl
   have p1:wr.cell? ⟨w.heap.size+1+1,1,none⟩=some (.int .i32 (valN S D mid 1)):=hc2.at_ 1 rfl
   have p2:wr.cell? ⟨w.heap.size+1+1,2,none⟩=some (.int .i32 (valN S D mid 2)):=hc2.at_ 2 rfl
   have p3:wr.cell? ⟨w.heap.size+1+1,3,none⟩=some (.int .i32 (valN S D mid 3)):=hc2.at_ 3 rfl
   have pz:=hc2.lt
   have o0:=hW.c.at_ 69 rfl;have o1:=hW.c.at_ 70 rfl;have o2:=hW.c.at_ 71 rfl;have o3:=hW.c.at_ 72 rfl;have oz:=hW.lt
   have D2:Hid (CellsAt wr (w.heap.size+1+1) (i32c (valN S D mid))):=C2
   have HT:=qh (trim_is (valN S D mid) D.off)
   have HV:=qh (fun j (hj:j<4)=>valN_bd HS.out HD.out mid hj)
   have HOB:Hid (∀j,j<4→ -2147483648≤D.off j∧D.off j≤2147483647):=qh (fun j hj=>by have:=HD.out.off j hj;have:=HS.out.inn.trim;have:=HS.out.evn.2.2;omega)
   clear hW hi hc1 hc2 hg
   go_wp2_with fail
   go_region_law (first
    |(go_simp;go_at_call 146;refine(HT.out _ HV.out HOB.out).mono ?_;rintro e1 w1 ⟨rfl,hb1⟩;have hbb:Below wr.heap.size wr w1:=(((Below.refl wr.heap.size wr).drew).trans (hb1.mono (by simp)));have hC21:=D2.out.call hbb;have u0:=hC21.at_ 0 rfl;have u1:=hC21.at_ 1 rfl;have u2:=hC21.at_ 2 rfl;have u3:=hC21.at_ 3 rfl;have uf0:=hC21.2.1 0;have uf1:=hC21.2.1 1;have uf2:=hC21.2.1 2;have uf3:=hC21.2.1 3;have uz:=hC21.lt)
    |fail)
   all_goals go_wp2_with fail
   all_goals
    have E1:CellsAt ((((w1.setCell ⟨w.heap.size+1+1,0,none⟩ (.int .i32 (trimI (valN S D mid) D.off 0))).setCell ⟨w.heap.size+1+1,1,none⟩ (.int .i32 (trimI (valN S D mid) D.off 1))).setCell ⟨w.heap.size+1+1,2,none⟩ (.int .i32 (trimI (valN S D mid) D.off 2))).setCell ⟨w.heap.size+1+1,3,none⟩ (.int .i32 (trimI (valN S D mid) D.off 3))) (w.heap.size+1+1) (i32c (vlvN S D mid)):=hC21.four (.int .i32 (trimI (valN S D mid) D.off 0)) (.int .i32 (trimI (valN S D mid) D.off 1)) (.int .i32 (trimI (valN S D mid) D.off 2)) (.int .i32 (trimI (valN S D mid) D.off 3))
    have G7:w.grownBy ((((w1.setCell ⟨w.heap.size+1+1,0,none⟩ (.int .i32 (trimI (valN S D mid) D.off 0))).setCell ⟨w.heap.size+1+1,1,none⟩ (.int .i32 (trimI (valN S D mid) D.off 1))).setCell ⟨w.heap.size+1+1,2,none⟩ (.int .i32 (trimI (valN S D mid) D.off 2))).setCell ⟨w.heap.size+1+1,3,none⟩ (.int .i32 (trimI (valN S D mid) D.off 3))) (some b):=grown_own (grown_own (grown_own (grown_own (grownBy_two G.out (grown_of_below hbb (some b))) (by omega)) (by omega)) (by omega)) (by omega)
    have W7:CellsAt ((((w1.setCell ⟨w.heap.size+1+1,0,none⟩ (.int .i32 (trimI (valN S D mid) D.off 0))).setCell ⟨w.heap.size+1+1,1,none⟩ (.int .i32 (trimI (valN S D mid) D.off 1))).setCell ⟨w.heap.size+1+1,2,none⟩ (.int .i32 (trimI (valN S D mid) D.off 2))).setCell ⟨w.heap.size+1+1,3,none⟩ (.int .i32 (trimI (valN S D mid) D.off 3))) b (lay S {D with drv:=drvN S D mid} vp vl vg):=(HW.out.call hbb).c.other4 (by omega) _ _ _ _
    have I7:CellsAt ((((w1.setCell ⟨w.heap.size+1+1,0,none⟩ (.int .i32 (trimI (valN S D mid) D.off 0))).setCell ⟨w.heap.size+1+1,1,none⟩ (.int .i32 (trimI (valN S D mid) D.off 1))).setCell ⟨w.heap.size+1+1,2,none⟩ (.int .i32 (trimI (valN S D mid) D.off 2))).setCell ⟨w.heap.size+1+1,3,none⟩ (.int .i32 (trimI (valN S D mid) D.off 3))) w.heap.size (inL I):=(CI.out.call hbb).other4 (by omega) _ _ _ _
    have R7:CellsAt ((((w1.setCell ⟨w.heap.size+1+1,0,none⟩ (.int .i32 (trimI (valN S D mid) D.off 0))).setCell ⟨w.heap.size+1+1,1,none⟩ (.int .i32 (trimI (valN S D mid) D.off 1))).setCell ⟨w.heap.size+1+1,2,none⟩ (.int .i32 (trimI (valN S D mid) D.off 2))).setCell ⟨w.heap.size+1+1,3,none⟩ (.int .i32 (trimI (valN S D mid) D.off 3))) (w.heap.size+1) (i32c fun _=>0):=(C1.out.call hbb).other4 (by omega) _ _ _ _
    obtain⟨w9,hw9⟩:∃x,((((w1.setCell ⟨w.heap.size+1+1,0,none⟩ (.int .i32 (trimI (valN S D mid) D.off 0))).setCell ⟨w.heap.size+1+1,1,none⟩ (.int .i32 (trimI (valN S D mid) D.off 1))).setCell ⟨w.heap.size+1+1,2,none⟩ (.int .i32 (trimI (valN S D mid) D.off 2))).setCell ⟨w.heap.size+1+1,3,none⟩ (.int .i32 (trimI (valN S D mid) D.off 3)))=x:=⟨_,rfl⟩
    rw[hw9]at E1 G7 W7 I7 R7⊢
    have E1:=qh E1;have G7:=qh G7;have W7:=qh W7;have I7:=qh I7;have R7:=qh R7
    clear hw9 hb1 hbb hC21 u0 u1 u2 u3 uf0 uf1 uf2 uf3 uz p0 p1 p2 p3 pz o0 o1 o2 o3 oz HW CI C1 C2 D2 G HT HV HOB
    go_loopw [70] (fun i wr=>SpoRel w b S D vp vl vg I mid i wr) (fun i _=>4-(intOf i).toNat)
    case atStart=>exact⟨0,by omega,rfl,by rw[upTo_0];exact W7.out,I7.out,R7.out,E1.out,G7.out⟩
    case round=>
     clear E1 G7 W7 I7 R7
     obtain⟨k,hk,rfl,hW,hi,hc1,hc2,hg⟩:=hrel
     have HW:=qh hW;have CI:=qh hi;have C1:=qh hc1;have C2:=qh hc2;have G:=qh hg
     have zg:=hg.size
     by_cases hlt:k<4
     ·have e5:(k:Int)<4:=by omega
      have i0:=hi.at_ (4+k) (inL_f I hlt)
      have iz:=hi.lt
      have v0:=hc2.at_ k (i32c_at _ hlt);have vz:=hc2.lt
      have s0:=hW.at_ _ (lay_spool S {D with drv:=drvN S D mid,spool:=upTo (spoN S D mid I.f) D.spool k} vp vl vg hlt)
      have sf:=hW.2.1 (113+k);have sz:=hW.lt
      simp only[upTo_at]at s0
      have HSP:Hid (spoN S D mid I.f k=if stuckB (I.f k)then D.spool k else vlvN S D mid k):=qh rfl
      have hst:(bits BinOp.and IntKind.i64 (I.f k) 1==0)= !stuckB (I.f k):=by unfold stuckB;simp[bne]
      generalize stuckB (I.f k)=st at *
      obtain⟨f,hf⟩:∃f,I.f k=f:=⟨_,rfl⟩
      rw[hf]at i0 hst
      clear hW hi hc1 hc2 hg hf
      cases st
      ·have hst2:(bits BinOp.and IntKind.i64 f 1==0)=true:=hst
       have hs2:spoN S D mid I.f k=vlvN S D mid k:=HSP.out
       have HS2:=qh hs2
       clear hst hs2 HSP
       go_wp2_with fail
       go_region
       all_goals go_wp2_with fail
       all_goals go_roundw
       all_goals first
        |(case rel=>
          have h9:=(HW.out.set_ (113+k) (by rw[lay_len];omega) (.int .i32 (vlvN S D mid k))).drew
          rw[lay_spool_set _ _ _ _ _ hlt]at h9
          simp only at h9
          rw[upTo_step (spoN S D mid I.f) D.spool k HS2.out]at h9
          exact⟨k+1,by omega,by go_num,h9,(CI.out.other (c:=b) (by omega) _ _).drew,(C1.out.other (c:=b) (by omega) _ _).drew,(C2.out.other (c:=b) (by omega) _ _).drew,grownBy_two (grownBy_two G.out (grown_setW wr b (113+k) _)) (grown_of_below (bLr).drew (some b))⟩)
        |(case measure=>simp[intOf];omega)
      ·have hst2:(bits BinOp.and IntKind.i64 f 1==0)=false:=hst
       have hs2:spoN S D mid I.f k=D.spool k:=HSP.out
       have HS2:=qh hs2
       clear hst hs2 HSP
       go_wp2_with fail
       go_roundw
       case rel=>
        have hcc:upTo (spoN S D mid I.f) D.spool (k+1)=upTo (spoN S D mid I.f) D.spool k:=by
         rw[←upTo_step (spoN S D mid I.f) D.spool k HS2.out]
         funext j;by_cases e:j=k
         ·subst e;rw[if_pos rfl,upTo_at]
         ·rw[if_neg e]
        exact⟨k+1,by omega,by go_num,by rw[hcc];exact HW.out,CI.out,C1.out,C2.out,G.out⟩
       case measure=>simp[intOf];omega
     ·obtain rfl:k=4:=by omega
      rw[show((4:Nat):Int)=4 from rfl]
      have p0:=hc2.at_ 0 rfl;have p1:=hc2.at_ 1 rfl;have p2:=hc2.at_ 2 rfl;have p3:=hc2.at_ 3 rfl
      have pz:=hc2.lt
      have q0:=hc1.at_ 0 rfl;have q1:=hc1.at_ 1 rfl;have q2:=hc1.at_ 2 rfl;have q3:=hc1.at_ 3 rfl;have qz:=hc1.lt
      have g0:=hc1.2.1 0;have g1:=hc1.2.1 1;have g2:=hc1.2.1 2;have g3:=hc1.2.1 3
      clear hW hi hc1 hc2 hg
      go_wp2_with fail
      have E1:CellsAt ((((wr.setCell ⟨w.heap.size+1,0,none⟩ (.int .i32 (vlvN S D mid 0))).setCell ⟨w.heap.size+1,1,none⟩ (.int .i32 (vlvN S D mid 1))).setCell ⟨w.heap.size+1,2,none⟩ (.int .i32 (vlvN S D mid 2))).setCell ⟨w.heap.size+1,3,none⟩ (.int .i32 (vlvN S D mid 3))) (w.heap.size+1) (i32c (vlvN S D mid)):=C1.out.four (.int .i32 (vlvN S D mid 0)) (.int .i32 (vlvN S D mid 1)) (.int .i32 (vlvN S D mid 2)) (.int .i32 (vlvN S D mid 3))
      have G7:w.grownBy ((((wr.setCell ⟨w.heap.size+1,0,none⟩ (.int .i32 (vlvN S D mid 0))).setCell ⟨w.heap.size+1,1,none⟩ (.int .i32 (vlvN S D mid 1))).setCell ⟨w.heap.size+1,2,none⟩ (.int .i32 (vlvN S D mid 2))).setCell ⟨w.heap.size+1,3,none⟩ (.int .i32 (vlvN S D mid 3))) (some b):=grown_own (grown_own (grown_own (grown_own G.out (by omega)) (by omega)) (by omega)) (by omega)
      have W7:CellsAt ((((wr.setCell ⟨w.heap.size+1,0,none⟩ (.int .i32 (vlvN S D mid 0))).setCell ⟨w.heap.size+1,1,none⟩ (.int .i32 (vlvN S D mid 1))).setCell ⟨w.heap.size+1,2,none⟩ (.int .i32 (vlvN S D mid 2))).setCell ⟨w.heap.size+1,3,none⟩ (.int .i32 (vlvN S D mid 3))) b (lay S {D with drv:=drvN S D mid,spool:=spoN S D mid I.f} vp vl vg):=HW.out.other4 (by omega) _ _ _ _
      obtain⟨w9,hw9⟩:∃x,((((wr.setCell ⟨w.heap.size+1,0,none⟩ (.int .i32 (vlvN S D mid 0))).setCell ⟨w.heap.size+1,1,none⟩ (.int .i32 (vlvN S D mid 1))).setCell ⟨w.heap.size+1,2,none⟩ (.int .i32 (vlvN S D mid 2))).setCell ⟨w.heap.size+1,3,none⟩ (.int .i32 (vlvN S D mid 3)))=x:=⟨_,rfl⟩
      rw[hw9]at E1 G7 W7⊢
      clear hw9
      have e0:=E1.at_ 0 rfl;have e1:=E1.at_ 1 rfl;have e2:=E1.at_ 2 rfl;have e3:=E1.at_ 3 rfl
      exact bodyPost_ret (v:=i32A (vlvN S D mid)) (by simp[results,Tryz.results112,go_sem,e0,e1,e2,e3]) rfl ⟨rfl,HW0.out.turn G7 W7 rfl rfl rfl,G7⟩
end Go.Proofs.YtpkiepjmcepnoaaGreatDoor
