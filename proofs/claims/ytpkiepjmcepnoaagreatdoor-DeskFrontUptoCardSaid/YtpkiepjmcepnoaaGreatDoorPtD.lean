/- A part of a proof. -/
import Derived.StillTailTactics
import Derived.RegionTactic
import Derived.Deep.RegionHeld3
import Derived.Test.YtpkiepjmcepnoaaGreatDoorPtB
import Derived.Test.YtpkiepjmcepnoaaGreatDoorPtC
set_option maxHeartbeats 16000000
set_option maxRecDepth 100000
namespace Go.Proofs.YtpkiepjmcepnoaaGreatDoor
open Go.ChangeShapes Go.WideShapes Go.ChangeAt Go.RowKit
set_option linter.unusedVariables false
abbrev servoV (r s P I D lo hi:Int):Value:=.agg #[.int .i32 r,.int .i64 s,.int .i32 P,.int .i32 I,.int .i32 D,.int .i32 lo,.int .i32 hi]
abbrev driveV (g s l v:Int):Value:=.agg #[.int .i32 g,.int .i32 s,.int .i32 l,.int .i32 v]
def ServoOk (r s lo hi sum:Int):Prop:=0≤r∧0≤s∧s≤30∧¬pidBad lo hi sum
theorem servoCheck_yes (r s P I D lo hi g sum last v:Int) (w:World) (h:ServoOk r s lo hi sum):
  Calls Tryz.prog 26 #[servoV r s P I D lo hi,driveV g sum last v] w fun e w'=>e=.returned (.int .i64 0)∧Below w.heap.size w w':=by
 obtain⟨h1,h2,h3,h4⟩:=h
 have H4:=qh h4
 have d1:decide (r<0)=false:=decide_eq_false (by omega)
 have d2:decide (s<0)=false:=decide_eq_false (by omega)
 have d3:decide (30<s)=false:=decide_eq_false (by omega)
 clear h4
 go_enter Tryz.func26,Tryz.ntmps26
 go_wp2_with fail
 refine(pidCheck_yes _ _ _ _ _ _ _ _ H4.out).mono ?_
 rintro e1 w1 ⟨rfl,hb⟩
 have B1:Below w.heap.size w w1:=by repeat(first|(with_reducible first|exact bLr)|((with_reducible first|refine bLs ?_ ?_ _|refine bLt hb ?_ ?_|refine bLa ?_ ?_ _);·first|omega|(simp<;>omega))|with_reducible first|refine bLn ?_ _|refine bLd ?_)
 go_wp2
 go_ret
 exact⟨rfl,B1⟩
theorem servoCheck_no (r s P I D lo hi g sum last v:Int) (w:World) (h:¬ServoOk r s lo hi sum):
  Calls Tryz.prog 26 #[servoV r s P I D lo hi,driveV g sum last v] w fun e w'=>e=.returned (.int .i64 1)∧Below w.heap.size w w':=by
 have hcase:(decide (r<0)=true)∨(decide (r<0)=false∧decide (s<0)=true)∨(decide (r<0)=false∧decide (s<0)=false∧decide (30<s)=true)∨(decide (r<0)=false∧decide (s<0)=false∧decide (30<s)=false∧Hid (pidBad lo hi sum)):=by
  by_cases h1:r<0
  ·exact .inl (decide_eq_true h1)
  by_cases h2:s<0
  ·exact .inr (.inl ⟨decide_eq_false h1,decide_eq_true h2⟩)
  by_cases h3:30<s
  ·exact .inr (.inr (.inl ⟨decide_eq_false h1,decide_eq_false h2,decide_eq_true h3⟩))
  refine .inr (.inr (.inr ⟨decide_eq_false h1,decide_eq_false h2,decide_eq_false h3,?_⟩))
  have:pidBad lo hi sum:=Classical.byContradiction fun hn=>h ⟨by omega,by omega,by omega,hn⟩
  exact this
 clear h
 rcases hcase with d1|⟨d1,d2⟩|⟨d1,d2,d3⟩|⟨d1,d2,d3,H4⟩
 ·go_enter Tryz.func26,Tryz.ntmps26
  go_wp2
  go_ret
  refine⟨rfl,?_⟩
  repeat(first|(with_reducible first|exact bLr)|((with_reducible first|refine bLs ?_ ?_ _|refine bLa ?_ ?_ _);·first|omega|(simp<;>omega))|with_reducible first|refine bLn ?_ _|refine bLd ?_)
 ·go_enter Tryz.func26,Tryz.ntmps26
  go_wp2
  go_ret
  refine⟨rfl,?_⟩
  repeat(first|(with_reducible first|exact bLr)|((with_reducible first|refine bLs ?_ ?_ _|refine bLa ?_ ?_ _);·first|omega|(simp<;>omega))|with_reducible first|refine bLn ?_ _|refine bLd ?_)
 ·go_enter Tryz.func26,Tryz.ntmps26
  go_wp2
  go_ret
  refine⟨rfl,?_⟩
  repeat(first|(with_reducible first|exact bLr)|((with_reducible first|refine bLs ?_ ?_ _|refine bLa ?_ ?_ _);·first|omega|(simp<;>omega))|with_reducible first|refine bLn ?_ _|refine bLd ?_)
 ·go_enter Tryz.func26,Tryz.ntmps26
  go_wp2_with fail
  refine(pidCheck_no _ _ _ _ _ _ _ _ H4.out).mono ?_
  rintro e1 w1 ⟨rfl,hb⟩
  have B1:Below w.heap.size w w1:=by repeat(first|(with_reducible first|exact bLr)|((with_reducible first|refine bLs ?_ ?_ _|refine bLt hb ?_ ?_|refine bLa ?_ ?_ _);·first|omega|(simp<;>omega))|with_reducible first|refine bLn ?_ _|refine bLd ?_)
  go_wp2
  go_ret
  exact⟨rfl,B1⟩
def DriveAt (w:World) (b:Nat) (g s l v:Int):Prop:=
 w.cell? ⟨b,0,none⟩=some (.int .i32 g)∧w.cell? ⟨b,1,none⟩=some (.int .i32 s)∧w.cell? ⟨b,2,none⟩=some (.int .i32 l)∧w.cell? ⟨b,3,none⟩=some (.int .i32 v)∧(∀o,w.frozen? ⟨b,o,none⟩=false)
theorem DriveAt.lt {w:World} {b:Nat} {g s l v:Int} (h:DriveAt w b g s l v):b<w.heap.size:=by
 have:=World.block_lt_of_cell? _ _ h.1
 simpa using this
theorem DriveAt.later {w w':World} {b B:Nat} {g s l v:Int} (h:DriveAt w b g s l v) (hB:Below B w w') (hb:b<B):DriveAt w' b g s l v:=
 ⟨(hB.cell hb).trans h.1,(hB.cell hb).trans h.2.1,(hB.cell hb).trans h.2.2.1,(hB.cell hb).trans h.2.2.2.1,fun o=>(hB.frozen hb).trans (h.2.2.2.2 o)⟩
theorem drive_write {w:World} {b:Nat} {g s l v:Int} (h:DriveAt w b g s l v) (g' s' l' v':Int):
  DriveAt ((((w.setCell ⟨b,0,none⟩ (.int .i32 g')).setCell ⟨b,1,none⟩ (.int .i32 s')).setCell ⟨b,2,none⟩ (.int .i32 l')).setCell ⟨b,3,none⟩ (.int .i32 v')) b g' s' l' v':=by
 have ne:∀{x y:Nat},x≠y→(⟨b,x,none⟩:Addr)≠⟨b,y,none⟩:=fun hxy e=>hxy (congrArg Addr.off e)
 obtain⟨h1,h2,h3,h4,h5⟩:=h
 refine⟨?_,?_,?_,?_,fun o=>by simp only[World.frozen?_setCell];exact h5 o⟩
 ·rw[World.cell?_setCell_other _ _ _ _ (ne (by omega)),World.cell?_setCell_other _ _ _ _ (ne (by omega)),World.cell?_setCell_other _ _ _ _ (ne (by omega))];exact World.cell?_setCell_same _ _ _ h1
 ·rw[World.cell?_setCell_other _ _ _ _ (ne (by omega)),World.cell?_setCell_other _ _ _ _ (ne (by omega))]
  exact World.cell?_setCell_same _ _ _ ((World.cell?_setCell_other _ _ _ _ (ne (by omega))).trans h2)
 ·rw[World.cell?_setCell_other _ _ _ _ (ne (by omega))]
  exact World.cell?_setCell_same _ _ _ ((World.cell?_setCell_other _ _ _ _ (ne (by omega))).trans ((World.cell?_setCell_other _ _ _ _ (ne (by omega))).trans h3))
 ·exact World.cell?_setCell_same _ _ _ ((World.cell?_setCell_other _ _ _ _ (ne (by omega))).trans ((World.cell?_setCell_other _ _ _ _ (ne (by omega))).trans ((World.cell?_setCell_other _ _ _ _ (ne (by omega))).trans h4)))
theorem drive_write2 {w:World} {b:Nat} {g s l v:Int} (h:DriveAt w b g s l v) (s' l':Int):
  DriveAt ((w.setCell ⟨b,1,none⟩ (.int .i32 s')).setCell ⟨b,2,none⟩ (.int .i32 l')) b g s' l' v:=by
 have ne:∀{x y:Nat},x≠y→(⟨b,x,none⟩:Addr)≠⟨b,y,none⟩:=fun hxy e=>hxy (congrArg Addr.off e)
 obtain⟨h1,h2,h3,h4,h5⟩:=h
 refine⟨?_,?_,?_,?_,fun o=>by simp only[World.frozen?_setCell];exact h5 o⟩
 ·rw[World.cell?_setCell_other _ _ _ _ (ne (by omega)),World.cell?_setCell_other _ _ _ _ (ne (by omega))];exact h1
 ·rw[World.cell?_setCell_other _ _ _ _ (ne (by omega))]
  exact World.cell?_setCell_same _ _ _ h2
 ·exact World.cell?_setCell_same _ _ _ ((World.cell?_setCell_other _ _ _ _ (ne (by omega))).trans h3)
 ·rw[World.cell?_setCell_other _ _ _ _ (ne (by omega)),World.cell?_setCell_other _ _ _ _ (ne (by omega))];exact h4
theorem cell_write1 {w:World} {b c x x1:Nat} {v u1:Value} (h:w.cell? ⟨b,x,none⟩=some v) (e:b≠c):(w.setCell ⟨c,x1,none⟩ u1).cell? ⟨b,x,none⟩=some v:=by
 rw[World.cell?_setCell_other _ _ _ _ (fun h=>e (congrArg Addr.block h).symm)];exact h
theorem cell_write2 {w:World} {b c x x1 x2:Nat} {v u1 u2:Value} (h:w.cell? ⟨b,x,none⟩=some v) (e:b≠c):((w.setCell ⟨c,x1,none⟩ u1).setCell ⟨c,x2,none⟩ u2).cell? ⟨b,x,none⟩=some v:=
 cell_write1 (cell_write1 h e) e
theorem DriveAt.other {w:World} {b c:Nat} {g s l v:Int} (h:DriveAt w b g s l v) (e:b≠c) (x:Nat) (u:Value):DriveAt (w.setCell ⟨c,x,none⟩ u) b g s l v:=
 ⟨cell_write1 h.1 e,cell_write1 h.2.1 e,cell_write1 h.2.2.1 e,cell_write1 h.2.2.2.1 e,fun o=>by rw[World.frozen?_setCell];exact h.2.2.2.2 o⟩
theorem rateI_bd (y x m:Int) (hx: -2147483648≤x∧x≤2147483647): -2147483648≤rateI y x m∧rateI y x m≤2147483647:=by
 unfold rateI
 exact clampI_bd _ _ _ hx (sat32_bd _) (sat32_bd _)
theorem sub_is (a b c:Int) (h:sat32 (a-b)=c) (ha: -2147483648≤a∧a≤2147483647) (hb: -2147483648≤b∧b≤2147483647) (w:World):
  Calls Tryz.prog 54 #[.int .i32 a,.int .i32 b] w fun e w'=>e=.returned (.int .i32 c)∧w=w':=by rw[←h];exact sub_any a b ha hb w
theorem pidStep_is (P I D lo hi sum last err s' x:Int) (hs':pidNext P I D lo hi sum last err=s') (hx:pidTold P I D lo hi sum last err=x) (w:World) (hP: -2147483648≤P∧P≤2147483647) (hI: -2147483648≤I∧I≤2147483647) (hD: -2147483648≤D∧D≤2147483647) (hlo: -2147483648≤lo∧lo≤2147483647) (hhi: -2147483648≤hi∧hi≤2147483647) (hsum: -2147483648≤sum∧sum≤2147483647) (hlast: -2147483648≤last∧last≤2147483647) (herr: -2147483648≤err∧err≤2147483647) (h:¬pidBad lo hi sum):
  Calls Tryz.prog 167 #[.agg #[.int .i32 P,.int .i32 I,.int .i32 D,.int .i32 lo,.int .i32 hi],.agg #[.int .i32 sum,.int .i32 last],.int .i32 err] w
   fun e w'=>e=.returned (.tuple #[.agg #[.int .i32 s',.int .i32 err],.int .i32 x,.int .i64 0])∧Below w.heap.size w w':=by
 rw[←hs',←hx];exact pidStep_yes P I D lo hi sum last err w hP hI hD hlo hhi hsum hlast herr h
theorem keep_pid {w:World} {b c:Nat} {v2 v3 v4 v5 v6 v7 v8 v9 u1 u2:Value} (h2:w.cell? ⟨b,2,none⟩=some v2) (h3:w.cell? ⟨b,3,none⟩=some v3) (h4:w.cell? ⟨b,4,none⟩=some v4) (h5:w.cell? ⟨b,5,none⟩=some v5) (h6:w.cell? ⟨b,6,none⟩=some v6)
  (h7:w.cell? ⟨b+1,1,none⟩=some v7) (h8:w.cell? ⟨b+1,2,none⟩=some v8) (h9:w.cell? ⟨c,0,none⟩=some v9) (e1:b≠c) (e2:b+1≠c):
  ((w.setCell ⟨c,1,none⟩ u1).setCell ⟨c,2,none⟩ u2).cell? ⟨b,2,none⟩=some v2∧((w.setCell ⟨c,1,none⟩ u1).setCell ⟨c,2,none⟩ u2).cell? ⟨b,3,none⟩=some v3∧((w.setCell ⟨c,1,none⟩ u1).setCell ⟨c,2,none⟩ u2).cell? ⟨b,4,none⟩=some v4∧((w.setCell ⟨c,1,none⟩ u1).setCell ⟨c,2,none⟩ u2).cell? ⟨b,5,none⟩=some v5∧
  ((w.setCell ⟨c,1,none⟩ u1).setCell ⟨c,2,none⟩ u2).cell? ⟨b,6,none⟩=some v6∧((w.setCell ⟨c,1,none⟩ u1).setCell ⟨c,2,none⟩ u2).cell? ⟨b+1,1,none⟩=some v7∧((w.setCell ⟨c,1,none⟩ u1).setCell ⟨c,2,none⟩ u2).cell? ⟨b+1,2,none⟩=some v8∧((w.setCell ⟨c,1,none⟩ u1).setCell ⟨c,2,none⟩ u2).cell? ⟨c,0,none⟩=some v9:=by
 have nb:∀(x y d:Nat),d≠c→(⟨c,x,none⟩:Addr)≠⟨d,y,none⟩:=fun x y d h e=>h (congrArg Addr.block e).symm
 have nc:∀(x y:Nat),x≠y→(⟨c,x,none⟩:Addr)≠⟨c,y,none⟩:=fun x y h e=>h (congrArg Addr.off e)
 refine⟨?_,?_,?_,?_,?_,?_,?_,?_⟩
 ·rw[World.cell?_setCell_other _ _ _ _ (nb _ _ _ e1),World.cell?_setCell_other _ _ _ _ (nb _ _ _ e1)];exact h2
 ·rw[World.cell?_setCell_other _ _ _ _ (nb _ _ _ e1),World.cell?_setCell_other _ _ _ _ (nb _ _ _ e1)];exact h3
 ·rw[World.cell?_setCell_other _ _ _ _ (nb _ _ _ e1),World.cell?_setCell_other _ _ _ _ (nb _ _ _ e1)];exact h4
 ·rw[World.cell?_setCell_other _ _ _ _ (nb _ _ _ e1),World.cell?_setCell_other _ _ _ _ (nb _ _ _ e1)];exact h5
 ·rw[World.cell?_setCell_other _ _ _ _ (nb _ _ _ e1),World.cell?_setCell_other _ _ _ _ (nb _ _ _ e1)];exact h6
 ·rw[World.cell?_setCell_other _ _ _ _ (nb _ _ _ e2),World.cell?_setCell_other _ _ _ _ (nb _ _ _ e2)];exact h7
 ·rw[World.cell?_setCell_other _ _ _ _ (nb _ _ _ e2),World.cell?_setCell_other _ _ _ _ (nb _ _ _ e2)];exact h8
 ·rw[World.cell?_setCell_other _ _ _ _ (nc _ _ (by omega)),World.cell?_setCell_other _ _ _ _ (nc _ _ (by omega))];exact h9
def StepIs (r s P I D lo hi g sum last v want pos g' s' l' v':Int):Prop:=
 g'=rateI g want r∧l'=sat32 (g'-pos)∧s'=pidNext P I D lo hi sum last l'∧v'=towardI v (pidTold P I D lo hi sum last l') (2^s.toNat)
theorem servoStep_yes (r s P I D lo hi g sum last v want pos g' s' l' v':Int) (w:World) (hr: -2147483648≤r∧r≤2147483647) (hP: -2147483648≤P∧P≤2147483647) (hI: -2147483648≤I∧I≤2147483647) (hD: -2147483648≤D∧D≤2147483647) (hlo: -2147483648≤lo∧lo≤2147483647) (hhi: -2147483648≤hi∧hi≤2147483647) (hg: -2147483648≤g∧g≤2147483647) (hsum: -2147483648≤sum∧sum≤2147483647) (hlast: -2147483648≤last∧last≤2147483647) (hv: -2147483648≤v∧v≤2147483647) (hwant: -2147483648≤want∧want≤2147483647) (hpos: -2147483648≤pos∧pos≤2147483647) (h:ServoOk r s lo hi sum) (hx:StepIs r s P I D lo hi g sum last v want pos g' s' l' v'):
  Calls Tryz.prog 143 #[servoV r s P I D lo hi,driveV g sum last v,.int .i32 want,.int .i32 pos] w fun e w'=>e=.returned (.tuple #[driveV g' s' l' v',.int .i32 v',.int .i64 0])∧Below w.heap.size w w':=by
 obtain⟨e1,e2,e3,e4⟩:=hx
 have gb: -2147483648≤g'∧g'≤2147483647:=by rw[e1];exact rateI_bd _ _ _ hwant
 have lb: -2147483648≤l'∧l'≤2147483647:=by rw[e2];exact sat32_bd _
 obtain⟨x,hxx⟩:∃x,pidTold P I D lo hi sum last l'=x:=⟨_,rfl⟩
 have xb: -2147483648≤x∧x≤2147483647:=by
  have:=pidTold_bd P I D lo hi sum last l' h.2.2.2
  omega
 have sb:0≤s∧s≤30:=⟨h.2.1,h.2.2.1⟩
 rw[hxx]at e4
 have H:=qh h;have E1:=qh e1;have E2:=qh e2;have E3:=qh e3;have E4:=qh e4;have HX:=qh hxx
 clear h e1 e2 e3 e4 hxx
 go_enter Tryz.func143,Tryz.ntmps143
 go_wp2_with fail
 refine(servoCheck_yes _ _ _ _ _ _ _ _ _ _ _ _ H.out).mono ?_
 rintro e1 w1 ⟨rfl,hb1⟩
 have c0:w1.cell? ⟨w.heap.size,0,none⟩=some (.int .i32 r):=cell_later hb1 (by go_simp)
 have c1:w1.cell? ⟨w.heap.size,1,none⟩=some (.int .i64 s):=cell_later hb1 (by go_simp)
 have c2:w1.cell? ⟨w.heap.size,2,none⟩=some (.int .i32 P):=cell_later hb1 (by go_simp)
 have c3:w1.cell? ⟨w.heap.size,3,none⟩=some (.int .i32 I):=cell_later hb1 (by go_simp)
 have c4:w1.cell? ⟨w.heap.size,4,none⟩=some (.int .i32 D):=cell_later hb1 (by go_simp)
 have c5:w1.cell? ⟨w.heap.size,5,none⟩=some (.int .i32 lo):=cell_later hb1 (by go_simp)
 have c6:w1.cell? ⟨w.heap.size,6,none⟩=some (.int .i32 hi):=cell_later hb1 (by go_simp)
 have D1:DriveAt w1 (w.heap.size+1) g sum last v:=⟨cell_later hb1 (by go_simp),cell_later hb1 (by go_simp),cell_later hb1 (by go_simp),cell_later hb1 (by go_simp),fun o=>by rw[hb1.frozen (by first|omega|(simp<;>omega))];go_simp⟩
 have R1:DriveAt w1 (w.heap.size+1+1) 0 0 0 0:=⟨cell_later hb1 (by go_simp),cell_later hb1 (by go_simp),cell_later hb1 (by go_simp),cell_later hb1 (by go_simp),fun o=>by rw[hb1.frozen (by first|omega|(simp<;>omega))];go_simp⟩
 have B1:Below w.heap.size w w1:=by repeat(first|(with_reducible first|exact bLr)|((with_reducible first|refine bLs ?_ ?_ _|refine bLt hb1 ?_ ?_|refine bLa ?_ ?_ _);·first|omega|(simp<;>omega))|with_reducible first|refine bLn ?_ _|refine bLd ?_)
 have HB1:=qh B1;have HR1:=qh R1;have HD1:=qh D1
 have z2:=R1.lt
 have z1:w.heap.size+1<w1.heap.size:=by omega
 have z0:w.heap.size<w1.heap.size:=by omega
 obtain⟨d0,d1,d2,d3,df⟩:=D1
 clear hb1 B1 R1
 go_wp2_with fail
 refine(rate_any _ _ _ hg hwant hr _).mono ?_
 rintro e2 w2 ⟨rfl,rfl⟩
 rw[←E1.out]
 go_wp2
 have A:=(Below.refl w1.heap.size w1).alloc (Nat.le_refl _) (.cells #[.int .i32 g',.int .i32 0,.int .i32 0,.int .i32 0] 81)
 replace c0:=(A.cell (p:=⟨w.heap.size,0,none⟩) z0).trans c0
 replace c1:=(A.cell (p:=⟨w.heap.size,1,none⟩) z0).trans c1
 replace c2:=(A.cell (p:=⟨w.heap.size,2,none⟩) z0).trans c2
 replace c3:=(A.cell (p:=⟨w.heap.size,3,none⟩) z0).trans c3
 replace c4:=(A.cell (p:=⟨w.heap.size,4,none⟩) z0).trans c4
 replace c5:=(A.cell (p:=⟨w.heap.size,5,none⟩) z0).trans c5
 replace c6:=(A.cell (p:=⟨w.heap.size,6,none⟩) z0).trans c6
 have D2:=HD1.out.later A z1
 have R2:=HR1.out.later A z2
 have O2:DriveAt (w1.alloc (.cells #[.int .i32 g',.int .i32 0,.int .i32 0,.int .i32 0] 81)) w1.heap.size g' 0 0 0:=⟨by go_simp,by go_simp,by go_simp,by go_simp,fun o=>by go_simp⟩
 have B2:Below w.heap.size w (w1.alloc (.cells #[.int .i32 g',.int .i32 0,.int .i32 0,.int .i32 0] 81)):=HB1.out.alloc HB1.out.size _
 have zb:w.heap.size≤w1.heap.size:=by omega
 have ne1:w.heap.size≠w1.heap.size:=by omega
 have ne2:w.heap.size+1≠w1.heap.size:=by omega
 have ne3:w.heap.size+1+1≠w1.heap.size:=by omega
 clear A d0 d1 d2 d3 df z0 z1 z2
 generalize w1.alloc (.cells #[.int .i32 g',.int .i32 0,.int .i32 0,.int .i32 0] 81)=w3 at *
 have HD2:=qh D2;have HR2:=qh R2;have HO2:=qh O2;have HB2:=qh B2
 have z3:=O2.lt
 have z4:=D2.lt
 have z5:=R2.lt
 have z0:w.heap.size<w3.heap.size:=by omega
 obtain⟨d0,d1,d2,d3,df⟩:=D2
 obtain⟨o0,o1,o2,o3,of⟩:=O2
 clear R2 B2
 go_region_held3 (fun w'=>w'.cell? ⟨w.heap.size,2,none⟩=some (.int .i32 P)∧w'.cell? ⟨w.heap.size,3,none⟩=some (.int .i32 I)∧w'.cell? ⟨w.heap.size,4,none⟩=some (.int .i32 D)∧w'.cell? ⟨w.heap.size,5,none⟩=some (.int .i32 lo)∧w'.cell? ⟨w.heap.size,6,none⟩=some (.int .i32 hi)∧w'.cell? ⟨w.heap.size+1,1,none⟩=some (.int .i32 sum)∧w'.cell? ⟨w.heap.size+1,2,none⟩=some (.int .i32 last)∧w'.cell? ⟨w1.heap.size,0,none⟩=some (.int .i32 g')) (first|exact⟨c2,c3,c4,c5,c6,d1,d2,o0⟩|exact⟨k2,k3,k4,k5,k6,k7,k8,k9⟩|exact keep_pid k2 k3 k4 k5 k6 k7 k8 k9 ne1 ne2) (first|(go_at_call 54;refine(sub_is g' pos l' E2.out.symm gb hpos _).mono ?_;rintro e5 w5 ⟨rfl,rfl⟩)|(go_at_call 167;refine(pidStep_is P I D lo hi sum last l' s' x E3.out.symm HX.out _ hP hI hD hlo hhi hsum hlast lb H.out.2.2.2).mono ?_;rintro e4 w4 ⟨rfl,hb4⟩;have k2:=cell_later hb4 c2;have k3:=cell_later hb4 c3;have k4:=cell_later hb4 c4;have k5:=cell_later hb4 c5;have k6:=cell_later hb4 c6;have k7:=cell_later hb4 d1;have k8:=cell_later hb4 d2;have k9:=cell_later hb4 o0;have O9:=qh (HO2.out.later (w':=w4) (B:=w3.heap.size) ⟨hb4.os,hb4.tape,hb4.output,hb4.size,hb4.block⟩ HO2.out.lt);have kf:=O9.out.2.2.2.2;have k10:=O9.out.2.1;have k11:=O9.out.2.2.1;have z9:=O9.out.lt))
 have A4:Below w3.heap.size w3 w4:=⟨hb4.os,hb4.tape,hb4.output,hb4.size,hb4.block⟩
 replace c0:=(A4.cell (p:=⟨w.heap.size,0,none⟩) z0).trans c0
 replace c1:=(A4.cell (p:=⟨w.heap.size,1,none⟩) z0).trans c1
 have D4:=HD2.out.later A4 z4
 have R4:=HR2.out.later A4 z5
 have HO5:=qh (drive_write2 O9.out s' l')
 have HB4:=qh (HB2.out.trans (A4.mono HB2.out.size))
 have HB5:=qh ((HB4.out.setCell (p:=⟨w1.heap.size,1,none⟩) zb (.int .i32 s')).setCell (p:=⟨w1.heap.size,2,none⟩) zb (.int .i32 l'))
 replace c0:=cell_write2 (u1:=.int .i32 s') (u2:=.int .i32 l') (x1:=1) (x2:=2) c0 ne1
 replace c1:=cell_write2 (u1:=.int .i32 s') (u2:=.int .i32 l') (x1:=1) (x2:=2) c1 ne1
 have D5:=(D4.other ne2 1 (.int .i32 s')).other ne2 2 (.int .i32 l')
 have R5:=(R4.other ne3 1 (.int .i32 s')).other ne3 2 (.int .i32 l')
 clear c2 c3 c4 c5 c6 d0 d1 d2 d3 df o0 o1 o2 o3 of z0 z3 z4 z5 A4 hb4 k2 k3 k4 k5 k6 k7 k8 k9 k10 k11 kf z9 O9 D4 R4 HD2 HR2 HO2 HB2
 generalize(w4.setCell ⟨w1.heap.size,1,none⟩ (.int .i32 s')).setCell ⟨w1.heap.size,2,none⟩ (.int .i32 l')=w5 at *
 have HR5:=qh R5
 have z3:=HO5.out.lt
 have z4:=D5.lt
 have z5:=R5.lt
 have z0:w.heap.size<w5.heap.size:=by omega
 obtain⟨d0,d1,d2,d3,df⟩:=D5
 obtain⟨o0,o1,o2,o3,of⟩:=HO5.out
 obtain⟨r0,r1,r2,r3,rf⟩:=R5
 go_wp2_with fail
 refine(low_yes v x s hv xb sb _).mono ?_
 rw[←E4.out]
 rintro e6 w6 ⟨rfl,rfl⟩
 go_wp2
 go_region
 have RF:=drive_write (HR5.out.other ne3 3 (.int .i32 v')) g' s' l' v'
 have BF:=qh (((((HB5.out.setCell (p:=⟨w1.heap.size,3,none⟩) zb (.int .i32 v')).setCell (p:=⟨w.heap.size+1+1,0,none⟩) (Nat.le_add_right _ 2) (.int .i32 g')).setCell (p:=⟨w.heap.size+1+1,1,none⟩) (Nat.le_add_right _ 2) (.int .i32 s')).setCell (p:=⟨w.heap.size+1+1,2,none⟩) (Nat.le_add_right _ 2) (.int .i32 l')).setCell (p:=⟨w.heap.size+1+1,3,none⟩) (Nat.le_add_right _ 2) (.int .i32 v'))
 clear c0 c1 d0 d1 d2 d3 df o0 o1 o2 o3 of r0 r1 r2 r3 rf z0 z3 z4 z5 HR5 HO5 HB5
 generalize(((((w5.setCell ⟨w1.heap.size,3,none⟩ (.int .i32 v')).setCell ⟨w.heap.size+1+1,0,none⟩ (.int .i32 g')).setCell ⟨w.heap.size+1+1,1,none⟩ (.int .i32 s')).setCell ⟨w.heap.size+1+1,2,none⟩ (.int .i32 l')).setCell ⟨w.heap.size+1+1,3,none⟩ (.int .i32 v'))=w7 at *
 have z5:=RF.lt
 obtain⟨r0,r1,r2,r3,rf⟩:=RF
 go_wp2
 refine bodyPost_ret (v:=.tuple #[driveV g' s' l' v',.int .i32 v',.int .i64 0]) (by simp[results,Tryz.results143,go_sem,r0,r1,r2,r3]) rfl ⟨rfl,?_⟩
 exact below_drewN BF.out 1
def evenI (m o f bits most:Int):Int:=if m=1 then clampI (sat32 (o-f.tdiv (2^bits.toNat))) (-most) most else lowI o 0 bits
theorem evenI_yes (m o f bits most p:Int) (hp:(2:Int)^bits.toNat=p) (h:m=1):evenI m o f bits most=clampI (sat32 (o-f.tdiv p)) (-most) most:=by rw[←hp];exact if_pos h
theorem evenI_no (m o f bits most:Int) (h:¬m=1):evenI m o f bits most=lowI o 0 bits:=if_neg h
theorem evenStep_yes (o0 o1 o2 o3 f0 f1 f2 f3 m0 m1 m2 m3 bits most x0 x1 x2 x3:Int) (w:World) (ho0: -2147483648≤o0∧o0≤2147483647) (ho1: -2147483648≤o1∧o1≤2147483647) (ho2: -2147483648≤o2∧o2≤2147483647) (ho3: -2147483648≤o3∧o3≤2147483647) (hf0: -2147483648≤f0∧f0≤2147483647) (hf1: -2147483648≤f1∧f1≤2147483647) (hf2: -2147483648≤f2∧f2≤2147483647) (hf3: -2147483648≤f3∧f3≤2147483647) (hmost: -2147483648≤most∧most≤2147483647) (h:evenOk o0 o1 o2 o3 m0 m1 m2 m3 bits most)
  (e0:evenI m0 o0 f0 bits most=x0) (e1:evenI m1 o1 f1 bits most=x1) (e2:evenI m2 o2 f2 bits most=x2) (e3:evenI m3 o3 f3 bits most=x3):
  Calls Tryz.prog 120 #[.agg #[.int .i32 o0,.int .i32 o1,.int .i32 o2,.int .i32 o3],.agg #[.int .i32 f0,.int .i32 f1,.int .i32 f2,.int .i32 f3],.agg #[.int .i64 m0,.int .i64 m1,.int .i64 m2,.int .i64 m3],.int .i64 bits,.int .i32 most] w fun e w'=>e=.returned (.tuple #[.agg #[.int .i32 x0,.int .i32 x1,.int .i32 x2,.int .i32 x3],.int .i64 0])∧Below w.heap.size w w':=by
 have ix0:∀w:World,(Instr.index 53 (.agg #[.int .i64 m0,.int .i64 m1,.int .i64 m2,.int .i64 m3]) (.int .i64 0)).run Tryz.prog w=.ok (.int .i64 m0) w:=fun _=>by kernel_rfl
 have ix1:∀w:World,(Instr.index 53 (.agg #[.int .i64 m0,.int .i64 m1,.int .i64 m2,.int .i64 m3]) (.int .i64 1)).run Tryz.prog w=.ok (.int .i64 m1) w:=fun _=>by kernel_rfl
 have ix2:∀w:World,(Instr.index 53 (.agg #[.int .i64 m0,.int .i64 m1,.int .i64 m2,.int .i64 m3]) (.int .i64 2)).run Tryz.prog w=.ok (.int .i64 m2) w:=fun _=>by kernel_rfl
 have ix3:∀w:World,(Instr.index 53 (.agg #[.int .i64 m0,.int .i64 m1,.int .i64 m2,.int .i64 m3]) (.int .i64 3)).run Tryz.prog w=.ok (.int .i64 m3) w:=fun _=>by kernel_rfl
 have H:=qh h;have E0:=qh e0;have E1:=qh e1;have E2:=qh e2;have E3:=qh e3
 have hbits:0≤bits∧bits≤30:=⟨h.1,h.2.1⟩
 have hm:0≤most:=h.2.2.1
 have hp:=two_pow_bd bits hbits
 obtain⟨p,hP⟩:∃p,(2:Int)^bits.toNat=p:=⟨_,rfl⟩
 rw[hP]at hp
 have HP:=qh hP
 clear h e0 e1 e2 e3
 go_enter Tryz.func120,Tryz.ntmps120
 go_wp2_with fail
 refine(evenCheck_yes _ _ _ _ _ _ _ _ _ _ _ (by omega) (by omega) (by omega) (by omega) (by omega) H.out).mono ?_
 rintro e_w1 w1 ⟨rfl,hb⟩
 have zhb:=hb.size
 obtain⟨chb,fhb⟩:=Open.bcell hb
 try(simp at zhb)
 go_wp2
 go_loopw [25] (fun i wr=>∃k:Nat,k≤4∧i=.int .i64 k∧Below w.heap.size w wr∧w.heap.size+1+1+1<wr.heap.size∧
   wr.cell? ⟨w.heap.size,0,none⟩=some (.int .i32 (if 0<k then x0 else o0))∧wr.cell? ⟨w.heap.size,1,none⟩=some (.int .i32 (if 1<k then x1 else o1))∧wr.cell? ⟨w.heap.size,2,none⟩=some (.int .i32 (if 2<k then x2 else o2))∧wr.cell? ⟨w.heap.size,3,none⟩=some (.int .i32 (if 3<k then x3 else o3))∧
   wr.cell? ⟨w.heap.size+1,0,none⟩=some (.int .i32 f0)∧wr.cell? ⟨w.heap.size+1,1,none⟩=some (.int .i32 f1)∧wr.cell? ⟨w.heap.size+1,2,none⟩=some (.int .i32 f2)∧wr.cell? ⟨w.heap.size+1,3,none⟩=some (.int .i32 f3)∧
   wr.cell? ⟨w.heap.size+1+1+1,0,none⟩=some (.int .i32 0)∧wr.cell? ⟨w.heap.size+1+1+1,1,none⟩=some (.int .i32 0)∧wr.cell? ⟨w.heap.size+1+1+1,2,none⟩=some (.int .i32 0)∧wr.cell? ⟨w.heap.size+1+1+1,3,none⟩=some (.int .i32 0)∧
   (∀o,wr.frozen? ⟨w.heap.size,o,none⟩=false)∧(∀o,wr.frozen? ⟨w.heap.size+1+1+1,o,none⟩=false)) (fun i _=>4-(intOf i).toNat)
 case atStart=>
  refine⟨0,by omega,rfl,?_,by omega,?_,?_,?_,?_,?_,?_,?_,?_,?_,?_,?_,?_,?_,?_⟩
  ·repeat(first|(with_reducible first|exact bLr)|((with_reducible first|refine bLs ?_ ?_ _|refine bLt hb ?_ ?_|refine bLa ?_ ?_ _);·first|omega|(simp<;>omega))|with_reducible first|refine bLn ?_ _|refine bLd ?_)
  iterate 12 (rw[chb _ _ (by first|omega|(simp<;>omega))];go_simp)
  ·intro o;rw[fhb _ _ (by first|omega|(simp<;>omega))];go_simp
  ·intro o;rw[fhb _ _ (by first|omega|(simp<;>omega))];go_simp
 case round=>
  clear hb chb fhb zhb
  obtain⟨k,hk,rfl,hB,hsz,c0,c1,c2,c3,q0,q1,q2,q3,r0,r1,r2,r3,g1,g2⟩:=hrel
  rcases(by omega:k=0∨k=1∨k=2∨k=3∨k=4)with rfl|rfl|rfl|rfl|rfl
  ·change wr.cell? _=some (Value.int .i32 o0)at c0
   change wr.cell? _=some (Value.int .i32 o1)at c1
   change wr.cell? _=some (Value.int .i32 o2)at c2
   change wr.cell? _=some (Value.int .i32 o3)at c3
   by_cases hm1:m0=1
   ·have t1:(m0==1)=true:=by simpa using hm1
    have X:=qh ((evenI_yes m0 o0 f0 bits most p HP.out hm1).symm.trans E0.out)
    clear hm1
    have hd: -2147483648≤f0.tdiv p∧f0.tdiv p≤2147483648:=by
     have:=tdiv_bd f0 p;unfold absI at this;omega
    have hd2:f0.tdiv p≤2147483647:=by
     by_cases hs:0≤f0
     ·have:=tdiv_pos_bd f0 p hp.1 hs;omega
     ·have:=tdiv_neg_bd f0 p hp.1 (by omega);omega
    go_wp2
    have hne:p≠0:=by omega
    have hw1:=IntWalk.i32_in p (by omega)
    have hw2:=IntWalk.i32_in (f0.tdiv p) (by omega)
    have hw3:=IntWalk.i32_in (-most) (by omega)
    have hb3:=sat32_bd (o0-f0.tdiv p)
    refine wp_region_still_tail 16 (by kernel_rfl) (by kernel_rfl) ?_
    simp only[List.take_succ_cons,List.take_zero,List.drop_succ_cons,List.drop_zero]
    repeat still_step
    still_call (stillL (sub_any _ _ (by omega) (by omega) _))
    repeat still_step
    still_call (stillL (clamp_any _ _ _ _))
    repeat still_step
    refine wpStill_nil ?_
    change wpList _ _ _ _ _ wr.drew
    clear hw1 hw2 hw3 hne
    go_wp2
    go_roundw
    case rel=>
     refine⟨1,by omega,rfl,?_,by simpa using hsz,?_,?_,?_,?_,?_,?_,?_,?_,?_,?_,?_,?_,?_,?_⟩
     ·repeat(first|(with_reducible first|exact bLr|exact hB)|((with_reducible first|refine bLs ?_ ?_ _|refine bLa ?_ ?_ _);·first|omega|(simp<;>omega))|with_reducible first|refine bLn ?_ _|refine bLd ?_)
     ·change _=some (Value.int .i32 x0);(first|rw[←X.out]|skip);go_simp
     ·change _=some (Value.int .i32 o1);(first|rw[←X.out]|skip);go_simp
     ·change _=some (Value.int .i32 o2);(first|rw[←X.out]|skip);go_simp
     ·change _=some (Value.int .i32 o3);(first|rw[←X.out]|skip);go_simp
     iterate 8 (go_simp)
     ·intro o;go_simp
     ·intro o;go_simp
    case measure=>simp[intOf]
   ·have t1:(m0==1)=false:=by simpa using hm1
    have X:=qh ((evenI_no m0 o0 f0 bits most hm1).symm.trans E0.out)
    go_wp2_with (go_at_call 153;refine(low_any _ _ _ (by omega) (by omega) _).mono ?_;rintro e w' ⟨rfl,rfl⟩)
    go_roundw
    case rel=>
     refine⟨1,by omega,rfl,?_,by simpa using hsz,?_,?_,?_,?_,?_,?_,?_,?_,?_,?_,?_,?_,?_,?_⟩
     ·repeat(first|(with_reducible first|exact bLr|exact hB)|((with_reducible first|refine bLs ?_ ?_ _|refine bLa ?_ ?_ _);·first|omega|(simp<;>omega))|with_reducible first|refine bLn ?_ _|refine bLd ?_)
     ·change _=some (Value.int .i32 x0);(first|rw[←X.out]|skip);go_simp
     ·change _=some (Value.int .i32 o1);(first|rw[←X.out]|skip);go_simp
     ·change _=some (Value.int .i32 o2);(first|rw[←X.out]|skip);go_simp
     ·change _=some (Value.int .i32 o3);(first|rw[←X.out]|skip);go_simp
     iterate 8 (go_simp)
     ·intro o;go_simp
     ·intro o;go_simp
    case measure=>simp[intOf]
  ·change wr.cell? _=some (Value.int .i32 x0)at c0
   change wr.cell? _=some (Value.int .i32 o1)at c1
   change wr.cell? _=some (Value.int .i32 o2)at c2
   change wr.cell? _=some (Value.int .i32 o3)at c3
   by_cases hm1:m1=1
   ·have t1:(m1==1)=true:=by simpa using hm1
    have X:=qh ((evenI_yes m1 o1 f1 bits most p HP.out hm1).symm.trans E1.out)
    clear hm1
    have hd: -2147483648≤f1.tdiv p∧f1.tdiv p≤2147483648:=by
     have:=tdiv_bd f1 p;unfold absI at this;omega
    have hd2:f1.tdiv p≤2147483647:=by
     by_cases hs:0≤f1
     ·have:=tdiv_pos_bd f1 p hp.1 hs;omega
     ·have:=tdiv_neg_bd f1 p hp.1 (by omega);omega
    go_wp2
    have hne:p≠0:=by omega
    have hw1:=IntWalk.i32_in p (by omega)
    have hw2:=IntWalk.i32_in (f1.tdiv p) (by omega)
    have hw3:=IntWalk.i32_in (-most) (by omega)
    have hb3:=sat32_bd (o1-f1.tdiv p)
    refine wp_region_still_tail 16 (by kernel_rfl) (by kernel_rfl) ?_
    simp only[List.take_succ_cons,List.take_zero,List.drop_succ_cons,List.drop_zero]
    repeat still_step
    still_call (stillL (sub_any _ _ (by omega) (by omega) _))
    repeat still_step
    still_call (stillL (clamp_any _ _ _ _))
    repeat still_step
    refine wpStill_nil ?_
    change wpList _ _ _ _ _ wr.drew
    clear hw1 hw2 hw3 hne
    go_wp2
    go_roundw
    case rel=>
     refine⟨2,by omega,rfl,?_,by simpa using hsz,?_,?_,?_,?_,?_,?_,?_,?_,?_,?_,?_,?_,?_,?_⟩
     ·repeat(first|(with_reducible first|exact bLr|exact hB)|((with_reducible first|refine bLs ?_ ?_ _|refine bLa ?_ ?_ _);·first|omega|(simp<;>omega))|with_reducible first|refine bLn ?_ _|refine bLd ?_)
     ·change _=some (Value.int .i32 x0);(first|rw[←X.out]|skip);go_simp
     ·change _=some (Value.int .i32 x1);(first|rw[←X.out]|skip);go_simp
     ·change _=some (Value.int .i32 o2);(first|rw[←X.out]|skip);go_simp
     ·change _=some (Value.int .i32 o3);(first|rw[←X.out]|skip);go_simp
     iterate 8 (go_simp)
     ·intro o;go_simp
     ·intro o;go_simp
    case measure=>simp[intOf]
   ·have t1:(m1==1)=false:=by simpa using hm1
    have X:=qh ((evenI_no m1 o1 f1 bits most hm1).symm.trans E1.out)
    go_wp2_with (go_at_call 153;refine(low_any _ _ _ (by omega) (by omega) _).mono ?_;rintro e w' ⟨rfl,rfl⟩)
    go_roundw
    case rel=>
     refine⟨2,by omega,rfl,?_,by simpa using hsz,?_,?_,?_,?_,?_,?_,?_,?_,?_,?_,?_,?_,?_,?_⟩
     ·repeat(first|(with_reducible first|exact bLr|exact hB)|((with_reducible first|refine bLs ?_ ?_ _|refine bLa ?_ ?_ _);·first|omega|(simp<;>omega))|with_reducible first|refine bLn ?_ _|refine bLd ?_)
     ·change _=some (Value.int .i32 x0);(first|rw[←X.out]|skip);go_simp
     ·change _=some (Value.int .i32 x1);(first|rw[←X.out]|skip);go_simp
     ·change _=some (Value.int .i32 o2);(first|rw[←X.out]|skip);go_simp
     ·change _=some (Value.int .i32 o3);(first|rw[←X.out]|skip);go_simp
     iterate 8 (go_simp)
     ·intro o;go_simp
     ·intro o;go_simp
    case measure=>simp[intOf]
  ·change wr.cell? _=some (Value.int .i32 x0)at c0
   change wr.cell? _=some (Value.int .i32 x1)at c1
   change wr.cell? _=some (Value.int .i32 o2)at c2
   change wr.cell? _=some (Value.int .i32 o3)at c3
   by_cases hm1:m2=1
   ·have t1:(m2==1)=true:=by simpa using hm1
    have X:=qh ((evenI_yes m2 o2 f2 bits most p HP.out hm1).symm.trans E2.out)
    clear hm1
    have hd: -2147483648≤f2.tdiv p∧f2.tdiv p≤2147483648:=by
     have:=tdiv_bd f2 p;unfold absI at this;omega
    have hd2:f2.tdiv p≤2147483647:=by
     by_cases hs:0≤f2
     ·have:=tdiv_pos_bd f2 p hp.1 hs;omega
     ·have:=tdiv_neg_bd f2 p hp.1 (by omega);omega
    go_wp2
    have hne:p≠0:=by omega
    have hw1:=IntWalk.i32_in p (by omega)
    have hw2:=IntWalk.i32_in (f2.tdiv p) (by omega)
    have hw3:=IntWalk.i32_in (-most) (by omega)
    have hb3:=sat32_bd (o2-f2.tdiv p)
    refine wp_region_still_tail 16 (by kernel_rfl) (by kernel_rfl) ?_
    simp only[List.take_succ_cons,List.take_zero,List.drop_succ_cons,List.drop_zero]
    repeat still_step
    still_call (stillL (sub_any _ _ (by omega) (by omega) _))
    repeat still_step
    still_call (stillL (clamp_any _ _ _ _))
    repeat still_step
    refine wpStill_nil ?_
    change wpList _ _ _ _ _ wr.drew
    clear hw1 hw2 hw3 hne
    go_wp2
    go_roundw
    case rel=>
     refine⟨3,by omega,rfl,?_,by simpa using hsz,?_,?_,?_,?_,?_,?_,?_,?_,?_,?_,?_,?_,?_,?_⟩
     ·repeat(first|(with_reducible first|exact bLr|exact hB)|((with_reducible first|refine bLs ?_ ?_ _|refine bLa ?_ ?_ _);·first|omega|(simp<;>omega))|with_reducible first|refine bLn ?_ _|refine bLd ?_)
     ·change _=some (Value.int .i32 x0);(first|rw[←X.out]|skip);go_simp
     ·change _=some (Value.int .i32 x1);(first|rw[←X.out]|skip);go_simp
     ·change _=some (Value.int .i32 x2);(first|rw[←X.out]|skip);go_simp
     ·change _=some (Value.int .i32 o3);(first|rw[←X.out]|skip);go_simp
     iterate 8 (go_simp)
     ·intro o;go_simp
     ·intro o;go_simp
    case measure=>simp[intOf]
   ·have t1:(m2==1)=false:=by simpa using hm1
    have X:=qh ((evenI_no m2 o2 f2 bits most hm1).symm.trans E2.out)
    go_wp2_with (go_at_call 153;refine(low_any _ _ _ (by omega) (by omega) _).mono ?_;rintro e w' ⟨rfl,rfl⟩)
    go_roundw
    case rel=>
     refine⟨3,by omega,rfl,?_,by simpa using hsz,?_,?_,?_,?_,?_,?_,?_,?_,?_,?_,?_,?_,?_,?_⟩
     ·repeat(first|(with_reducible first|exact bLr|exact hB)|((with_reducible first|refine bLs ?_ ?_ _|refine bLa ?_ ?_ _);·first|omega|(simp<;>omega))|with_reducible first|refine bLn ?_ _|refine bLd ?_)
     ·change _=some (Value.int .i32 x0);(first|rw[←X.out]|skip);go_simp
     ·change _=some (Value.int .i32 x1);(first|rw[←X.out]|skip);go_simp
     ·change _=some (Value.int .i32 x2);(first|rw[←X.out]|skip);go_simp
     ·change _=some (Value.int .i32 o3);(first|rw[←X.out]|skip);go_simp
     iterate 8 (go_simp)
     ·intro o;go_simp
     ·intro o;go_simp
    case measure=>simp[intOf]
  ·change wr.cell? _=some (Value.int .i32 x0)at c0
   change wr.cell? _=some (Value.int .i32 x1)at c1
   change wr.cell? _=some (Value.int .i32 x2)at c2
   change wr.cell? _=some (Value.int .i32 o3)at c3
   by_cases hm1:m3=1
   ·have t1:(m3==1)=true:=by simpa using hm1
    have X:=qh ((evenI_yes m3 o3 f3 bits most p HP.out hm1).symm.trans E3.out)
    clear hm1
    have hd: -2147483648≤f3.tdiv p∧f3.tdiv p≤2147483648:=by
     have:=tdiv_bd f3 p;unfold absI at this;omega
    have hd2:f3.tdiv p≤2147483647:=by
     by_cases hs:0≤f3
     ·have:=tdiv_pos_bd f3 p hp.1 hs;omega
     ·have:=tdiv_neg_bd f3 p hp.1 (by omega);omega
    go_wp2
    have hne:p≠0:=by omega
    have hw1:=IntWalk.i32_in p (by omega)
    have hw2:=IntWalk.i32_in (f3.tdiv p) (by omega)
    have hw3:=IntWalk.i32_in (-most) (by omega)
    have hb3:=sat32_bd (o3-f3.tdiv p)
    refine wp_region_still_tail 16 (by kernel_rfl) (by kernel_rfl) ?_
    simp only[List.take_succ_cons,List.take_zero,List.drop_succ_cons,List.drop_zero]
    repeat still_step
    still_call (stillL (sub_any _ _ (by omega) (by omega) _))
    repeat still_step
    still_call (stillL (clamp_any _ _ _ _))
    repeat still_step
    refine wpStill_nil ?_
    change wpList _ _ _ _ _ wr.drew
    clear hw1 hw2 hw3 hne
    go_wp2
    go_roundw
    case rel=>
     refine⟨4,by omega,rfl,?_,by simpa using hsz,?_,?_,?_,?_,?_,?_,?_,?_,?_,?_,?_,?_,?_,?_⟩
     ·repeat(first|(with_reducible first|exact bLr|exact hB)|((with_reducible first|refine bLs ?_ ?_ _|refine bLa ?_ ?_ _);·first|omega|(simp<;>omega))|with_reducible first|refine bLn ?_ _|refine bLd ?_)
     ·change _=some (Value.int .i32 x0);(first|rw[←X.out]|skip);go_simp
     ·change _=some (Value.int .i32 x1);(first|rw[←X.out]|skip);go_simp
     ·change _=some (Value.int .i32 x2);(first|rw[←X.out]|skip);go_simp
     ·change _=some (Value.int .i32 x3);(first|rw[←X.out]|skip);go_simp
     iterate 8 (go_simp)
     ·intro o;go_simp
     ·intro o;go_simp
    case measure=>simp[intOf]
   ·have t1:(m3==1)=false:=by simpa using hm1
    have X:=qh ((evenI_no m3 o3 f3 bits most hm1).symm.trans E3.out)
    go_wp2_with (go_at_call 153;refine(low_any _ _ _ (by omega) (by omega) _).mono ?_;rintro e w' ⟨rfl,rfl⟩)
    go_roundw
    case rel=>
     refine⟨4,by omega,rfl,?_,by simpa using hsz,?_,?_,?_,?_,?_,?_,?_,?_,?_,?_,?_,?_,?_,?_⟩
     ·repeat(first|(with_reducible first|exact bLr|exact hB)|((with_reducible first|refine bLs ?_ ?_ _|refine bLa ?_ ?_ _);·first|omega|(simp<;>omega))|with_reducible first|refine bLn ?_ _|refine bLd ?_)
     ·change _=some (Value.int .i32 x0);(first|rw[←X.out]|skip);go_simp
     ·change _=some (Value.int .i32 x1);(first|rw[←X.out]|skip);go_simp
     ·change _=some (Value.int .i32 x2);(first|rw[←X.out]|skip);go_simp
     ·change _=some (Value.int .i32 x3);(first|rw[←X.out]|skip);go_simp
     iterate 8 (go_simp)
     ·intro o;go_simp
     ·intro o;go_simp
    case measure=>simp[intOf]
  ·change wr.cell? _=some (Value.int .i32 x0)at c0
   change wr.cell? _=some (Value.int .i32 x1)at c1
   change wr.cell? _=some (Value.int .i32 x2)at c2
   change wr.cell? _=some (Value.int .i32 x3)at c3
   go_wp2
   refine bodyPost_ret (v:=.tuple #[.agg #[.int .i32 x0,.int .i32 x1,.int .i32 x2,.int .i32 x3],.int .i64 0]) (by simp[results,Tryz.results120,go_sem,r0,r1,r2,r3]) rfl ⟨rfl,?_⟩
   repeat(first|(with_reducible first|exact bLr|exact hB)|((with_reducible first|refine bLs ?_ ?_ _|refine bLa ?_ ?_ _);·first|omega|(simp<;>omega))|with_reducible first|refine bLn ?_ _|refine bLd ?_)
end Go.Proofs.YtpkiepjmcepnoaaGreatDoor
