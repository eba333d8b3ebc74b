/- A part of a proof. -/
import Derived.Sort.Row
import Derived.Laws.Bits64
import Derived.Laws.Bits64b
import Derived.Test.YtpkiepjmcepnoaaGreatDoorPtG
set_option maxHeartbeats 16000000
set_option maxRecDepth 100000
namespace Go.Proofs.YtpkiepjmcepnoaaGreatDoor
open Go.ChangeShapes Go.WideShapes Go.ChangeAt Go.RowKit
open Go.Sort (setCell_eq mapBlock_mapBlock)
set_option linter.unusedVariables false
namespace S32
structure RowC (w0 w:World) (b p:Nat) (L:List Int) (n:Nat):Prop where
 c:CellsAt w b (vals L)
 s:CellsAt w p [.int .i64 n]
 g:w0.grownBy w (some p)
theorem RowC.trans {w0 w w':World} {b p n m:Nat} {L:List Int} (h:RowC w0 w b p L n) (k:RowC w w' b p L m):RowC w0 w' b p L m:=
 ⟨k.c,k.s,h.g.andThen k.g (fun j e=>by cases e;exact .inr rfl)⟩
theorem RowC.drewN {w0 w:World} {b p n:Nat} {L:List Int} (h:RowC w0 w b p L n) (k:Nat):RowC w0 (w.drewN k) b p L n:=⟨h.c.drewN k,h.s.drewN k,⟨h.g.os,h.g.tape,h.g.output,h.g.size,h.g.block⟩⟩
theorem RowC.up {w0 w:World} {b p n:Nat} {L:List Int} (h:RowC w0 w b p L n) (hbp:b≠p) (m:Nat):RowC w0 (w.setCell ⟨p,0,none⟩ (.int .i64 m)) b p L m:=
 ⟨h.c.other hbp 0 _,h.s.set_ 0 (by simp) _,h.g.andThen (grown_set w p 0 _) (fun _ e=>by cases e;exact .inr rfl)⟩
theorem RowC.start {w:World} {b p n:Nat} {L:List Int} (h:CellsAt w b (vals L)) (k:CellsAt w p [.int .i64 n]):RowC w w b p L n:=⟨h,k,World.grownBy.refl _ _⟩
def OrdPost (w0:World) (b p x y n:Nat) (L:List Int) (e:Ending) (w:World):Prop:=∃x' y' n':Nat,e=.returned (.tuple #[.int .i64 x',.int .i64 y'])∧(x'=x∧y'=y∨x'=y∧y'=x)∧n'≤n+1∧RowC w0 w b p L n'
theorem order2_is (b cap p x y n:Nat) (L:List Int) (w:World) (hL:L.length≤64) (h:CellsAt w b (vals L)) (hs:CellsAt w p [.int .i64 n]) (hn:n≤100) (hbp:b≠p) (hx:x<L.length) (hy:y<L.length):
  Calls Tryz.prog 194 #[.slice (some ⟨b,0,none⟩) L.length cap,.int .i64 x,.int .i64 y,.pointer (some ⟨p,0,none⟩)] w (OrdPost w b p x y n L):=by
 have c1:=val_cell h x (by omega)
 have c2:=val_cell h y (by omega)
 have c3:=hs.at_ 0 (v:=.int .i64 n) rfl
 have HS:=qh (RowC.start h hs)
 have hff:=hs.2.1
 have hfb:=hs.lt
 obtain⟨u,hu⟩:∃u,L.getD x 0=u:=⟨_,rfl⟩
 obtain⟨v,hv⟩:∃v,L.getD y 0=v:=⟨_,rfl⟩
 rw[hu]at c1
 rw[hv]at c2
 have HBP:=qh hbp
 have g1:(x:Int)<(L.length:Int):=by omega
 have g2:(y:Int)<(L.length:Int):=by omega
 clear h hs hu hv hbp
 by_cases hxy:v<u
 ·have hd:decide (v<u)=true:=decide_eq_true hxy
  go_enter Tryz.func194,Tryz.ntmps194
  go_wp2
  go_quiet ((go_at_call 182;exact quietL (less v u _)))
  go_wp2
  go_ret2
  refine⟨y,x,n+1,rfl,.inr ⟨rfl,rfl⟩,Nat.le_refl _,?_⟩
  first|exact((HS.out.drewN _).up HBP.out (n+1)).drew|exact(HS.out.drewN _).up HBP.out (n+1)
 ·have hd:decide (v<u)=false:=decide_eq_false hxy
  go_enter Tryz.func194,Tryz.ntmps194
  go_wp2
  go_quiet ((go_at_call 182;exact quietL (less v u _)))
  go_wp2
  go_ret2
  exact⟨x,y,n,rfl,.inl ⟨rfl,rfl⟩,Nat.le_succ _,HS.out.drewN _⟩
end S32
namespace S32
def MedPost (w0:World) (b p n:Nat) (L:List Int) (P:Nat→Prop) (e:Ending) (w:World):Prop:=∃r n':Nat,e=.returned (.int .i64 r)∧P r∧n'≤n+3∧RowC w0 w b p L n'
theorem median_is (b cap p x y z n:Nat) (L:List Int) (w:World) (hL:L.length≤64) (h:CellsAt w b (vals L)) (hs:CellsAt w p [.int .i64 n]) (hn:n≤90) (hbp:b≠p) (hx:x<L.length) (hy:y<L.length) (hz:z<L.length):
  Calls Tryz.prog 192 #[.slice (some ⟨b,0,none⟩) L.length cap,.int .i64 x,.int .i64 y,.int .i64 z,.pointer (some ⟨p,0,none⟩)] w (MedPost w b p n L (fun r=>r=x∨r=y∨r=z)):=by
 have HS:=qh (RowC.start h hs)
 have HBP:=qh hbp
 clear h hs hbp
 go_enter Tryz.func192,Tryz.ntmps192
 go_wp2_with fail
 refine(order2_is b cap p x y n L _ hL HS.out.c HS.out.s (by omega) HBP.out hx hy).mono ?_
 rintro e1 w1 ⟨x1,y1,n1,rfl,h1,hn1,hR1⟩
 have HR:=qh (HS.out.trans hR1)
 have H1:=qh h1
 clear hR1 h1 HS
 go_wp2_with fail
 refine(order2_is b cap p y1 z n1 L _ hL HR.out.c HR.out.s (by omega) HBP.out (by have:=H1.out;omega) hz).mono ?_
 rintro e2 w2 ⟨y2,z2,n2,rfl,h2,hn2,hR2⟩
 have HR2:=qh (HR.out.trans hR2)
 have H2:=qh h2
 clear hR2 h2 HR
 go_wp2_with fail
 refine(order2_is b cap p x1 y2 n2 L _ hL HR2.out.c HR2.out.s (by omega) HBP.out (by have:=H1.out;omega) (by have:=H1.out;have:=H2.out;omega)).mono ?_
 rintro e3 w3 ⟨x3,y3,n3,rfl,h3,hn3,hR3⟩
 have HR3:=qh (HR2.out.trans hR3)
 have H3:=qh h3
 clear hR3 h3 HR2
 go_wp2
 go_ret
 exact⟨y3,n3,rfl,by have:=H1.out;have:=H2.out;have:=H3.out;omega,by omega,HR3.out⟩
end S32
namespace S32
theorem medianAdj_is (b cap p y n:Nat) (L:List Int) (w:World) (hL:L.length≤64) (h:CellsAt w b (vals L)) (hs:CellsAt w p [.int .i64 n]) (hn:n≤90) (hbp:b≠p) (hy0:1≤y) (hy:y+1<L.length):
  Calls Tryz.prog 191 #[.slice (some ⟨b,0,none⟩) L.length cap,.int .i64 y,.pointer (some ⟨p,0,none⟩)] w (MedPost w b p n L (fun r=>y≤r+1∧r≤y+1)):=by
 have HS:=qh (RowC.start h hs)
 have HBP:=qh hbp
 obtain⟨x,hx⟩:∃x,y=x+1:=⟨y-1,by omega⟩
 obtain⟨z,hz⟩:∃z,z=y+1:=⟨_,rfl⟩
 have HX:=qh (show(y:Int)-1=(x:Int) by omega)
 have HZ:=qh (show(y:Int)+1=(z:Int) by omega)
 have HX':=qh hx;have HZ':=qh hz
 clear h hs hbp hx hz
 go_enter Tryz.func191,Tryz.ntmps191
 go_wp2_with fail
 rw[HX.out,HZ.out]
 refine(median_is b cap p x y z n L _ hL HS.out.c HS.out.s (by omega) HBP.out (by have:=HX'.out;omega) (by omega) (by have:=HZ'.out;omega)).mono ?_
 rintro e1 w1 ⟨r,n1,rfl,h1,hn1,hR1⟩
 have HR:=qh (HS.out.trans hR1)
 have H1:=qh h1
 clear hR1 h1 HS
 go_wp2
 go_ret
 exact⟨r,n1,rfl,by have:=H1.out;have:=HX'.out;have:=HZ'.out;omega,by omega,HR.out⟩
end S32
namespace S32
def RevRel (w0:World) (b lo hi:Nat) (L:List Int) (x y:Value) (w:World):Prop:=∃(i j:Nat) (M:List Int),lo≤i∧i≤hi∧j<hi∧x=.int .i64 i∧y=.int .i64 j∧Row w0 w b M∧Sw lo hi L M
def SwPost (w0:World) (b lo hi:Nat) (L:List Int) (e:Ending) (w:World):Prop:=e=.returned (.tuple #[])∧∃M,Row w0 w b M∧Sw lo hi L M
theorem reverse_is (b cap lo hi:Nat) (L:List Int) (w:World) (hL:L.length≤64) (h:CellsAt w b (vals L)) (hlh:lo<hi) (hhi:hi≤L.length):
  Calls Tryz.prog 180 #[.slice (some ⟨b,0,none⟩) L.length cap,.int .i64 lo,.int .i64 hi] w (SwPost w b lo hi L):=by
 have HS:=qh (Row.start h)
 obtain⟨j,hj⟩:∃j,hi=j+1:=⟨hi-1,by omega⟩
 have HJ:=qh (show(hi:Int)-1=(j:Int) by omega)
 have HJ':=qh hj
 clear h hj
 go_enter Tryz.func180,Tryz.ntmps180
 go_upto_region 2 with(fail)
 rw[HJ.out]
 go_wp2
 go_loopw [6,7] (fun x y wr=>RevRel w b lo hi L x y wr) (fun x _ _=>hi-(intOf x).toNat)
 case atStart=>exact⟨lo,j,L,Nat.le_refl _,by omega,by have:=HJ'.out;omega,rfl,rfl,HS.out,.refl⟩
 case round=>
  obtain⟨i,j,M,hi1,hi2,hj1,rfl,rfl,hR,hS⟩:=hrel
  clear HS HJ HJ'
  have HR:=qh hR;have HSW:=qh hS
  have hml:=hS.len
  have HML:=qh hml
  clear hR hS hml
  by_cases hlt:i<j
  ·have c1:=val_cell HR.out.c i (by have:=HML.out;omega)
   have c2:=val_cell HR.out.c j (by have:=HML.out;omega)
   obtain⟨x,hx⟩:∃x,M.getD i 0=x:=⟨_,rfl⟩
   obtain⟨y,hy⟩:∃y,M.getD j 0=y:=⟨_,rfl⟩
   rw[hx]at c1
   rw[hy]at c2
   have HX:=qh hx;have HY:=qh hy
   have cz:=set_reads c1 c2
   have hff:=HR.out.c.2.1
   have hfb:=HR.out.c.lt
   have g5:(j:Int)<(L.length:Int):=by omega
   have g6:(i:Int)<(L.length:Int):=by omega
   clear hx hy
   go_wp2
   go_region
   go_wp2
   go_round
   case rel=>exact⟨i+1,j-1,swapL M i j,by omega,by omega,by omega,by go_num,by first|go_num|(congr 1;omega),by first|exact(HR.out.set2 i j (by have:=HML.out;omega) (by have:=HML.out;omega) x y HX.out HY.out).drew|exact HR.out.set2 i j (by have:=HML.out;omega) (by have:=HML.out;omega) x y HX.out HY.out,HSW.out.step i j (by omega) (by omega) (by omega) (by omega)⟩
   case measure=>first|(simp[intOf];done)|(simp[intOf];omega)
  ·go_wp2
   go_end0
   exact⟨rfl,M,HR.out,HSW.out⟩
end S32
namespace S32
def PivPost (w0:World) (b lo hi:Nat) (L:List Int) (e:Ending) (w:World):Prop:=∃(r:Nat) (t:Int),e=.returned (.tuple #[.int .i64 r,.int .i64 t])∧lo≤r∧r<hi∧Row w0 w b L
theorem choose_is (b cap lo hi:Nat) (L:List Int) (w:World) (hL:L.length≤64) (h:CellsAt w b (vals L)) (hlh:lo+12<hi) (hhi:hi≤L.length):
  Calls Tryz.prog 179 #[.slice (some ⟨b,0,none⟩) L.length cap,.int .i64 lo,.int .i64 hi] w (PivPost w b lo hi L):=by
 have HS:=qh h
 obtain⟨l,hl⟩:∃l,hi=lo+l:=⟨hi-lo,by omega⟩
 have HLI:=qh (show(hi:Int)-(lo:Int)=(l:Int) by omega)
 have HL:=qh hl
 have l12:12<l:=by omega
 have l64:l≤64:=by omega
 clear h hl
 go_enter Tryz.func179,Tryz.ntmps179
 go_upto_region 2 with(fail)
 rw[HLI.out]
 obtain⟨i,hi0⟩:∃i,i=lo+l/4:=⟨_,rfl⟩
 obtain⟨j,hj0⟩:∃j,j=lo+l/4*2:=⟨_,rfl⟩
 obtain⟨k,hk0⟩:∃k,k=lo+l/4*3:=⟨_,rfl⟩
 have HII:=qh (show(lo:Int)+(l:Int)/4=(i:Int) by omega)
 have HJJ:=qh (show(lo:Int)+(l:Int)/4*2=(j:Int) by omega)
 have HKK:=qh (show(lo:Int)+(l:Int)/4*3=(k:Int) by omega)
 have LB:=qh (show lo+2≤i∧i+2≤j∧j+2≤k∧k+2≤hi by have:=HL.out;omega)
 clear hi0 hj0 hk0
 go_upto_region 7 with(fail)
 rw[HII.out,HJJ.out,HKK.out]
 have HR:Hid (RowC (w.alloc (Obj.cells #[Value.int IntKind.i64 0] 3)) (w.alloc (Obj.cells #[Value.int IntKind.i64 0] 3)) b w.heap.size L 0):=RowC.start (HS.out.alloc _) (CellsAt.new w _ _ _ rfl)
 have HG:Hid (w.grownBy (w.alloc (Obj.cells #[Value.int IntKind.i64 0] 3)) (some b)):=World.grownBy_alloc w _ _
 have HBP:=qh (show b≠w.heap.size by have:=HS.out.lt;omega)
 obtain⟨B,hB⟩:∃B,w.heap.size=B:=⟨_,rfl⟩
 have HB:=qh hB
 rw[hB]at HR HBP⊢
 generalize w.alloc (Obj.cells #[Value.int IntKind.i64 0] 3)=w1 at *
 have lb:=LB.out
 clear HII HJJ HKK LB HLI HL HS hB
 obtain⟨lb1,lb2,lb3,lb4⟩:=lb
 by_cases l50:50≤l
 ·go_wp2_with fail
  refine(medianAdj_is b cap B i 0 L _ hL HR.out.c HR.out.s (by omega) HBP.out (by omega) (by omega)).mono ?_
  rintro e1 w2 ⟨i1,n1,rfl,hr1,hn1,hR1⟩
  have HR1:=qh (HR.out.trans hR1)
  clear hR1 HR
  go_wp2_with fail
  refine(medianAdj_is b cap B j n1 L _ hL HR1.out.c HR1.out.s (by omega) HBP.out (by omega) (by omega)).mono ?_
  rintro e2 w3 ⟨j1,n2,rfl,hr2,hn2,hR2⟩
  have HR2:=qh (HR1.out.trans hR2)
  clear hR2 HR1
  go_wp2_with fail
  refine(medianAdj_is b cap B k n2 L _ hL HR2.out.c HR2.out.s (by omega) HBP.out (by omega) (by omega)).mono ?_
  rintro e3 w5 ⟨k1,n,rfl,hr3,hn3,hR3⟩
  have HR:=qh (HR2.out.trans hR3)
  clear hR3 HR2
  obtain⟨hr1a,hr1b⟩:=hr1
  obtain⟨hr2a,hr2b⟩:=hr2
  obtain⟨hr3a,hr3b⟩:=hr3
  go_wp2_with fail
  refine(median_is b cap B i1 j1 k1 n L _ hL HR.out.c HR.out.s (by omega) HBP.out (by omega) (by omega) (by omega)).mono ?_
  rintro e4 w4 ⟨r,n4,rfl,hr,hn4,hR4⟩
  have HR4:=qh (HR.out.trans hR4)
  have HP4:=qh hr
  have c3:=hR4.s.at_ 0 (v:=.int .i64 n4) rfl
  have hsz:=hR4.s.lt
  clear hR4 hr HR
  have fin:PivPost w b lo hi L (.returned (.tuple #[.int .i64 r,.int .i64 1])) w4∧PivPost w b lo hi L (.returned (.tuple #[.int .i64 r,.int .i64 2])) w4∧PivPost w b lo hi L (.returned (.tuple #[.int .i64 r,.int .i64 0])) w4:=by
   have hrr:lo≤r∧r<hi:=by have:=HP4.out;omega
   have hrow:Row w w4 b L:=⟨HR4.out.c,HG.out.andThen HR4.out.g (fun q e=>by cases e;exact .inl (Nat.le_of_eq HB.out))⟩
   exact⟨⟨r,1,rfl,hrr.1,hrr.2,hrow⟩,⟨r,2,rfl,hrr.1,hrr.2,hrow⟩,⟨r,0,rfl,hrr.1,hrr.2,hrow⟩⟩
  have FIN:=qh fin
  clear fin
  by_cases n0:n4=0
  ·subst n0
   go_wp2
   go_ret2
   exact FIN.out.1
  ·by_cases n12:n4=12
   ·subst n12
    go_wp2
    go_ret2
    exact FIN.out.2.1
   ·have m0:((n4:Int)==0)=false:=by simp;omega
    have m12:((n4:Int)==12)=false:=by simp;omega
    go_wp2
    go_ret2
    exact FIN.out.2.2
 ·obtain⟨n,hn⟩:∃n,n=0:=⟨_,rfl⟩
  have HR:Hid (RowC w1 w1 b B L n):=by rw[hn];exact HR
  go_wp2_with fail
  refine(median_is b cap B i j k n L _ hL HR.out.c HR.out.s (by omega) HBP.out (by omega) (by omega) (by omega)).mono ?_
  rintro e4 w4 ⟨r,n4,rfl,hr,hn4,hR4⟩
  have HR4:=qh (HR.out.trans hR4)
  have HP4:=qh hr
  have c3:=hR4.s.at_ 0 (v:=.int .i64 n4) rfl
  have hsz:=hR4.s.lt
  clear hR4 hr HR
  have fin:PivPost w b lo hi L (.returned (.tuple #[.int .i64 r,.int .i64 1])) w4∧PivPost w b lo hi L (.returned (.tuple #[.int .i64 r,.int .i64 2])) w4∧PivPost w b lo hi L (.returned (.tuple #[.int .i64 r,.int .i64 0])) w4:=by
   have hrr:lo≤r∧r<hi:=by have:=HP4.out;omega
   have hrow:Row w w4 b L:=⟨HR4.out.c,HG.out.andThen HR4.out.g (fun q e=>by cases e;exact .inl (Nat.le_of_eq HB.out))⟩
   exact⟨⟨r,1,rfl,hrr.1,hrr.2,hrow⟩,⟨r,2,rfl,hrr.1,hrr.2,hrow⟩,⟨r,0,rfl,hrr.1,hrr.2,hrow⟩⟩
  have FIN:=qh fin
  clear fin
  by_cases n0:n4=0
  ·subst n0
   go_wp2
   go_ret2
   exact FIN.out.1
  ·by_cases n12:n4=12
   ·subst n12
    go_wp2
    go_ret2
    exact FIN.out.2.1
   ·have m0:((n4:Int)==0)=false:=by simp;omega
    have m12:((n4:Int)==12)=false:=by simp;omega
    go_wp2
    go_ret2
    exact FIN.out.2.2
end S32
namespace S32
theorem set_set (w:World) (blk off:Nat) (v v':Value):(w.setCell ⟨blk,off,none⟩ v).setCell ⟨blk,off,none⟩ v'=w.setCell ⟨blk,off,none⟩ v':=by
 rw[setCell_eq,setCell_eq,mapBlock_mapBlock,setCell_eq]
 congr 1
 funext c
 simp
def NextPost (w0:World) (p:Nat) (e:Ending) (w:World):Prop:=∃v:Nat,v<18446744073709551616∧e=.returned (.int .u64 v)∧CellsAt w p [.int .u64 v]∧w0.grownBy w (some p)
theorem next_is (p X:Nat) (w:World) (hX:X<18446744073709551616) (h:CellsAt w p [.int .u64 X]):
  Calls Tryz.prog 190 #[.pointer (some ⟨p,0,none⟩)] w (NextPost w p):=by
 have hc:=h.at_ 0 (v:=.int .u64 X) rfl
 have hf:=h.2.1 0
 have H:=qh h
 clear h
 obtain⟨A,hA⟩:∃A:Nat,A=X^^^(X*8192%18446744073709551616):=⟨_,rfl⟩
 obtain⟨B,hB⟩:∃B:Nat,B=A^^^(A/128):=⟨_,rfl⟩
 obtain⟨C,hC⟩:∃C:Nat,C=B^^^(B*131072%18446744073709551616):=⟨_,rfl⟩
 have lA:A<18446744073709551616:=by rw[hA];exact Nat.xor_lt_two_pow (n:=64) (by omega) (by omega)
 have lB:B<18446744073709551616:=by rw[hB];exact Nat.xor_lt_two_pow (n:=64) (by omega) (by omega)
 have lC:C<18446744073709551616:=by rw[hC];exact Nat.xor_lt_two_pow (n:=64) (by omega) (by omega)
 have e1:bits .xor .u64 (X:Int) (IntKind.u64.wrap ((X:Int)*8192))=(A:Int):=by
  rw[IntKind.wrap_u64,show((X:Int)*8192%18446744073709551616)=((X*8192%18446744073709551616:Nat):Int) by omega,bits_xor_u64_nat _ _ hX (by omega),hA]
 have e2:bits .xor .u64 (A:Int) ((A:Int)/128)=(B:Int):=by
  rw[show((A:Int)/128)=((A/128:Nat):Int) by omega,bits_xor_u64_nat _ _ lA (by omega),hB]
 have e3:bits .xor .u64 (B:Int) (IntKind.u64.wrap ((B:Int)*131072))=(C:Int):=by
  rw[IntKind.wrap_u64,show((B:Int)*131072%18446744073709551616)=((B*131072%18446744073709551616:Nat):Int) by omega,bits_xor_u64_nat _ _ lB (by omega),hC]
 clear hA hB hC
 have hss:∀v v',(w.setCell ⟨p,0,none⟩ v).setCell ⟨p,0,none⟩ v'=w.setCell ⟨p,0,none⟩ v':=set_set w p 0
 go_enter Tryz.func190,Tryz.ntmps190
 go_wp2
 go_region
 all_goals go_wp2
 all_goals go_region
 all_goals go_wp2
 all_goals go_region
 all_goals go_wp2
 go_ret
 refine⟨C,lC,rfl,?_,?_⟩
 ·exact H.out.set_ 0 (by simp) _
 ·exact⟨rfl,rfl,rfl,(grown_set w p 0 (.int .u64 C)).size,(grown_set w p 0 (.int .u64 C)).block⟩
end S32
namespace S32
theorem pow_len:∀n:Fin 65,8≤n.val→∃m:Nat,1≤m∧m≤2*n.val∧(1:Int)*2^(Lib.bitLen n.val)=(m:Int)∧Lib.bitLen n.val≤7:=by
 intro n h
 have:∀n:Fin 65,8≤n.val→2^(Lib.bitLen n.val)≤2*n.val∧Lib.bitLen n.val≤7:=by decide+kernel
 exact⟨2^(Lib.bitLen n.val),Nat.one_le_two_pow,(this n h).1,by simp,(this n h).2⟩
def PowPost (n:Nat) (w0:World) (e:Ending) (w:World):Prop:=∃m:Nat,1≤m∧m≤2*n∧e=.returned (.int .u64 m)∧w0=w
theorem pow_is (n:Nat) (w:World) (h8:8≤n) (h64:n≤64):
  Calls Tryz.prog 189 #[.int .i64 n] w (PowPost n w):=by
 obtain⟨m,h1,h2,h3,h4⟩:=pow_len ⟨n,by omega⟩ h8
 simp only at h2 h3 h4
 go_enter Tryz.func189,Tryz.ntmps189
 go_wp2_with fail
 refine(len n _ (by omega)).mono ?_
 rintro e1 w1 ⟨rfl,rfl⟩
 go_wp2
 go_ret
 exact⟨m,h1,h2,rfl,rfl⟩
end S32
namespace S32
theorem far_cells {w w':World} {b p:Nat} {vs:List Value} (h:CellsAt w b vs) (g:w.grownBy w' (some p)) (hne:b≠p):CellsAt w' b vs:=
 ⟨fun j v hj=>by rw[World.cell?_of_block (a:=⟨b,j,none⟩) (g.block b h.lt (by simpa using hne))];exact h.1 j v hj,fun o=>by rw[World.frozen?_of_block (a:=⟨b,o,none⟩) (g.block b h.lt (by simpa using hne))];exact h.2.1 o,Nat.lt_of_lt_of_le h.lt g.size⟩
theorem Row.side {w0 w w':World} {b p:Nat} {L:List Int} (h:Row w0 w b L) (g:w.grownBy w' (some p)) (hne:b≠p) (hp:w0.heap.size≤p):Row w0 w' b L:=
 ⟨far_cells h.c g hne,h.g.andThen g (fun j e=>by cases e;exact .inl hp)⟩
theorem Row.alloc {w0 w:World} {b:Nat} {L:List Int} (h:Row w0 w b L) (o:Obj):Row w0 (w.alloc o) b L:=
 ⟨h.c.alloc o,h.g.andThen (World.grownBy_alloc w o none) (fun j e=>by cases e)⟩
def BrkRel (w0:World) (b lo hi q B:Nat) (L:List Int) (x:Value) (w:World):Prop:=∃(i X:Nat) (M:List Int),q≤i∧i≤q+3∧X<18446744073709551616∧x=.int .i64 i∧CellsAt w B [.int .u64 X]∧Row w0 w b M∧Sw lo hi L M
theorem break_is (b cap lo hi:Nat) (L:List Int) (w:World) (hL:L.length≤64) (h:CellsAt w b (vals L)) (hlh:lo+12<hi) (hhi:hi≤L.length):
  Calls Tryz.prog 178 #[.slice (some ⟨b,0,none⟩) L.length cap,.int .i64 lo,.int .i64 hi] w (SwPost w b lo hi L):=by
 have HS:=qh (Row.start h)
 obtain⟨l,hl⟩:∃l,hi=lo+l:=⟨hi-lo,by omega⟩
 obtain⟨q,hq⟩:∃q,q=lo+l/4*2-1:=⟨_,rfl⟩
 have HLI:=qh (show(hi:Int)-(lo:Int)=(l:Int) by omega)
 have HQ:=qh (show(lo:Int)+(l:Int)/4*2-1=(q:Int) by omega)
 have HQ':=qh hq
 have HL:=qh hl
 have l12:12<l:=by omega
 have l64:l≤64:=by omega
 clear h hl hq
 go_enter Tryz.func178,Tryz.ntmps178
 go_upto_region 1 with(fail)
 rw[HLI.out]
 go_upto_region 3 with(fail)
 have HB:Hid (CellsAt (w.alloc (Obj.cells #[Value.int IntKind.u64 l] 298)) w.heap.size [.int .u64 l]):=CellsAt.new w _ _ _ rfl
 have HBN:=qh (show b≠w.heap.size by have:=HS.out.c.lt;omega)
 have HR0:Hid (Row w (w.alloc (Obj.cells #[Value.int IntKind.u64 l] 298)) b L):=HS.out.alloc _
 obtain⟨B,hB⟩:∃B,w.heap.size=B:=⟨_,rfl⟩
 have HBE:=qh (Nat.le_of_eq hB)
 rw[hB]at HB HBN⊢
 generalize w.alloc (Obj.cells #[Value.int IntKind.u64 l] 298)=w1 at *
 clear hB HLI HS
 go_wp2_with fail
 refine(pow_is l _ (by omega) l64).mono ?_
 rintro e2 w2 ⟨m,hm1,hm2,rfl,rfl⟩
 go_upto_region 5 with(fail)
 rw[HQ.out]
 go_wp2
 go_loopw [9] (fun x wr=>BrkRel w b lo hi q B L x wr) (fun x _=>q+4-(intOf x).toNat)
 case atStart=>exact⟨q,l,L,Nat.le_refl _,by omega,by omega,rfl,HB.out,HR0.out,.refl⟩
 case round=>
  obtain⟨i,X,M,hi1,hi2,hX,rfl,hB,hR,hS⟩:=hrel
  clear HR0 HB
  have HR:=qh hR;have HSW:=qh hS;have HB:=qh hB
  have hml:=hS.len
  have HML:=qh hml
  clear hR hS hml hB
  by_cases hi3:i<q+3
  ·have hle:(i:Int)≤(lo:Int)+(l:Int)/4*2+1:=by have:=HQ.out;omega
   have HIL:=qh (show lo≤i∧i<hi by have:=HQ'.out;have:=HL.out;omega)
   go_wp2_with fail
   refine(next_is B X _ hX HB.out).mono ?_
   rintro e3 w3 ⟨v,hv,rfl,hB3,hg3⟩
   have HR3:=qh (HR.out.side hg3 HBN.out HBE.out)
   have HB3:=qh hB3
   clear hB3 hg3 HR HB
   obtain⟨o,ho⟩:∃o:Nat,o=v&&&(m-1):=⟨_,rfl⟩
   have lo1:o≤m-1:=by rw[ho];exact Nat.and_le_right
   have eAnd:bits .and .u64 (v:Int) ((m:Int)-1)=(o:Int):=by
    rw[show((m:Int)-1)=((m-1:Nat):Int) by omega,bits_and_u64_nat _ _ hv (by omega),ho]
   have ewo:IntKind.i64.wrap (o:Int)=(o:Int):=IntWalk.i64_in _ (by omega)
   clear ho
   obtain⟨o1,ho1⟩:∃o1:Nat,o1=if l≤o then o-l else o:=⟨_,rfl⟩
   have ho1l:o1<l:=by rw[ho1];split<;>omega
   have q1:=val_cell HR3.out.c i (by have:=HML.out;have:=HIL.out;omega)
   have q2:=val_cell HR3.out.c (lo+o1) (by have:=HML.out;have:=HL.out;omega)
   obtain⟨x,hx⟩:∃x,M.getD i 0=x:=⟨_,rfl⟩
   obtain⟨y,hy⟩:∃y,M.getD (lo+o1) 0=y:=⟨_,rfl⟩
   rw[hx]at q1
   rw[hy]at q2
   have HX:=qh hx;have HY:=qh hy
   have hff:=HR3.out.c.2.1
   have hfb:=HR3.out.c.lt
   have f1:IntKind.i64.wrap ((lo:Int)+(o1:Int))=(lo:Int)+(o1:Int):=IntWalk.i64_in _ (by omega)
   have f2:((lo:Int)+(o1:Int)).toNat=lo+o1:=by omega
   have f3:(lo:Int)+(o1:Int)<(L.length:Int):=by have:=HL.out;omega
   have f4:(0:Int)≤(lo:Int)+(o1:Int):=by omega
   have f5:(i:Int)<(L.length:Int):=by have:=HIL.out;omega
   have cz:=set_reads q1 q2
   have HB4:=qh ((HB3.out.other (fun e=>HBN.out e.symm) i (.int .i32 y)).other (fun e=>HBN.out e.symm) (lo+o1) (.int .i32 x))
   have HR4:=qh (HR3.out.set2 i (lo+o1) (by have:=HML.out;have:=HIL.out;omega) (by have:=HML.out;have:=HL.out;omega) x y HX.out HY.out)
   have HS4:=qh (HSW.out.step i (lo+o1) HIL.out.1 HIL.out.2 (by omega) (by have:=HL.out;omega))
   clear hx hy
   by_cases hlo:l≤o
   ·have hoI:(o:Int)-(l:Int)=(o1:Int):=by rw[ho1,if_pos hlo];omega
    have HOI:=qh hoI
    clear ho1 hoI
    go_upto_region 10 with(fail)
    rw[HOI.out]
    go_region
    go_wp2
    go_round
    case rel=>exact⟨i+1,v,_,by omega,by omega,hv,by go_num,by first|exact HB4.out|exact HB4.out.drew,by first|exact HR4.out|exact HR4.out.drew,HS4.out⟩
    case measure=>first|(simp[intOf];done)|(simp[intOf];omega)
   ·rw[if_neg hlo]at ho1
    obtain rfl:=ho1.symm
    go_upto_region 10 with(fail)
    go_region
    go_wp2
    go_round
    case rel=>exact⟨i+1,v,_,by omega,by omega,hv,by go_num,by first|exact HB4.out|exact HB4.out.drew,by first|exact HR4.out|exact HR4.out.drew,HS4.out⟩
    case measure=>first|(simp[intOf];done)|(simp[intOf];omega)
  ·have hgt:(lo:Int)+(l:Int)/4*2+1<(i:Int):=by have:=HQ.out;omega
   go_wp2
   go_end0
   exact⟨rfl,M,HR.out,HSW.out⟩
end S32
end Go.Proofs.YtpkiepjmcepnoaaGreatDoor
namespace Go.Proofs.YtpkiepjmcepnoaaGreatDoor
open Go.ChangeShapes Go.WideShapes Go.ChangeAt Go.RowKit
set_option linter.unusedVariables false
namespace S32
def Low (M:List Int) (a e:Nat):Prop:=a=0∨∀k,a≤k→k<e→M.getD (a-1) 0≤M.getD k 0
theorem Low.sw {L M:List Int} {a e:Nat} (h:Low L a e) (hs:Sw a e L M) (hl:e≤L.length):Low M a e:=by
 rcases h with h|h
 ·exact .inl h
 ·by_cases a0:a=0
  ·exact .inl a0
  ·refine .inr (fun k k1 k2=>?_)
   rw[hs.offD (a-1) (.inl (by omega))]
   exact hs.all hl (fun x=>L.getD (a-1) 0≤x) h k k1 k2
def PiRel (w0:World) (b lo hi:Nat) (L:List Int) (x y:Value) (w:World):Prop:=∃(i j:Nat) (M:List Int),(lo+1≤i∧i≤hi∧j≤5)∧x=.int .i64 i∧y=.int .i64 j∧Row w0 w b M∧Sw lo hi L M∧SortedOn M lo i
def PiRel1 (w0:World) (b lo hi:Nat) (L:List Int) (x:Value) (w:World):Prop:=∃(i:Nat) (M:List Int),(lo+1≤i∧i≤hi)∧x=.int .i64 i∧Row w0 w b M∧Sw lo hi L M∧SortedOn M lo i
def PiRel1e (w0:World) (b lo hi:Nat) (L:List Int) (x:Value) (w:World):Prop:=∃(i:Nat) (M:List Int),(lo+1≤i∧i≤hi)∧x=.int .i64 i∧Row w0 w b M∧Sw lo hi L M∧SortedOn M lo i∧(i<hi→M.getD i 0<M.getD (i-1) 0)
def PiRel2e (w0:World) (b lo hi i:Nat) (L:List Int) (w:World):Prop:=∃(M:List Int),Row w0 w b M∧Sw lo hi L M∧SortedOn M lo i
def PiRel3 (w0:World) (b lo hi i:Nat) (L:List Int) (x:Value) (w:World):Prop:=∃(j:Nat) (M:List Int),(i+1≤j∧j≤hi)∧x=.int .i64 j∧Row w0 w b M∧Sw lo hi L M∧SortedOn M lo i
def PiPost (w0:World) (b lo hi:Nat) (L:List Int) (e:Ending) (w:World):Prop:=∃(f:Bool) (M:List Int),e=.returned (.bool f)∧Row w0 w b M∧Sw lo hi L M∧(f=true→SortedOn M lo hi)
theorem wrap_small (j:Nat) (h:j+1≤5):wrap64 ((j:Int)+1)=((j+1:Nat):Int):=by
 simp only[wrap64];omega
theorem wrap_meas (j:Nat) (h:j+1≤5):6-(intOf (.int .i64 ((j+1:Nat):Int))).toNat<6-(intOf (.int .i64 (j:Int))).toNat:=by
 simp only[intOf,Int.toNat_natCast];omega
theorem sorted_more {M:List Int} {lo i:Nat} (h:SortedOn M lo i) (hi:lo+1≤i) (hle:M.getD (i-1) 0≤M.getD i 0):SortedOn M lo (i+1):=by
 intro p q h1 h2 h3
 by_cases e:q=i
 ·subst e
  by_cases e2:p=q-1
  ·subst e2;exact hle
  ·exact Int.le_trans (h p (q-1) h1 (by omega) (by omega)) hle
 ·exact h p q h1 h2 (by omega)
theorem sorted_swap {M:List Int} {lo i x y:Nat} (h:SortedOn M lo i) (hx:i≤x) (hy:i≤y) (hx':x<M.length) (hy':y<M.length):SortedOn (swapL M x y) lo i:=by
 intro p q h1 h2 h3
 rw[swapL_at _ _ _ _ hx' hy',swapL_at _ _ _ _ hx' hy',if_neg (by omega),if_neg (by omega),if_neg (by omega),if_neg (by omega)]
 exact h p q h1 h2 h3
theorem sorted_mono {M:List Int} {lo i j:Nat} (h:SortedOn M lo i) (hj:j≤i):SortedOn M lo j:=fun p q h1 h2 h3=>h p q h1 h2 (by omega)
theorem partial_is (b cap lo hi:Nat) (L:List Int) (w:World) (hL:L.length≤64) (h:CellsAt w b (vals L)) (hlh:lo+12<hi) (hhi:hi≤L.length) (hlow:Low L lo hi):
  Calls Tryz.prog 181 #[.slice (some ⟨b,0,none⟩) L.length cap,.int .i64 lo,.int .i64 hi] w (PiPost w b lo hi L):=by
 have HS:=qh (Row.start h)
 have HLW:=qh hlow
 clear h hlow
 go_enter Tryz.func181,Tryz.ntmps181
 go_wp2
 go_loopw [7,8] (fun x y wr=>PiRel w b lo hi L x y wr) (fun _ y _=>6-(intOf y).toNat)
 case atStart=>exact⟨lo+1,0,L,⟨by omega,by omega,by omega⟩,by go_num,rfl,HS.out,.refl,fun p q h1 h2 h3=>by omega⟩
 case round=>
  obtain⟨i,j,M,⟨hi1,hi2,hj⟩,rfl,rfl,hR,hS,hO⟩:=hrel
  clear HS
  have HR:=qh hR;have HSW:=qh hS;have HO:=qh hO
  clear hR hS hO
  by_cases hj5:j<5
  ·have HJ5:=qh (show j+1≤5 by omega)
   have hd5:decide ((j:Int)<5)=true:=decide_eq_true (by omega)
   clear hj5 hj
   go_upto_block 2 with(fail)
   clear hd5
   go_cut [7] (fun x wx=>PiRel1e w b lo hi L x wx)
   case first=>
    go_wp2_with fail
    go_loopw [7] (fun x wx=>PiRel1 w b lo hi L x wx) (fun x _=>hi+1-(intOf x).toNat)
    case atStart=>exact⟨i,M,⟨hi1,hi2⟩,rfl,HR.out,HSW.out,HO.out⟩
    case round=>
     obtain⟨i,M,⟨hi1,hi2⟩,rfl,hR,hS,hO⟩:=hrel
     clear HR HSW HO
     have HR:=qh hR;have HSW:=qh hS;have HO:=qh hO
     have hml:=hS.len
     have HML:=qh hml
     clear hR hS hO hml
     by_cases hlt:i<hi
     ·have c1:=val_cell HR.out.c i (by have:=HML.out;omega)
      have c2:=val_cell HR.out.c (i-1) (by have:=HML.out;omega)
      obtain⟨x,hx⟩:∃x,M.getD i 0=x:=⟨_,rfl⟩
      obtain⟨y,hy⟩:∃y,M.getD (i-1) 0=y:=⟨_,rfl⟩
      rw[hx]at c1
      rw[hy]at c2
      have HX:=qh hx;have HY:=qh hy
      have g1:IntKind.i64.wrap ((i:Int)-1)=(i:Int)-1:=IntWalk.i64_in _ (by omega)
      have g3:((i:Int)-1).toNat=i-1:=by omega
      have g4:(i:Int)-1<(L.length:Int):=by omega
      have g5:(i:Int)<(L.length:Int):=by omega
      have g6:(0:Int)≤(i:Int)-1:=by omega
      clear hx hy
      by_cases hxy:x<y
      ·have hd:decide (x<y)=true:=decide_eq_true hxy
       go_wp2
       go_quiet ((go_at_call 182;exact quietL (less x y _)))
       go_wp2
       go_meet
       exact⟨i,M,⟨hi1,hi2⟩,rfl,HR.out.drewN _,HSW.out,HO.out,fun _=>by rw[HX.out,HY.out];exact hxy⟩
      ·have hd:decide (x<y)=false:=decide_eq_false hxy
       go_wp2
       go_quiet ((go_at_call 182;exact quietL (less x y _)))
       go_wp2
       go_roundw
       case rel=>exact⟨i+1,M,⟨by omega,by omega⟩,by go_num,HR.out.drewN _,HSW.out,sorted_more HO.out hi1 (by rw[HX.out,HY.out];omega)⟩
       case measure=>first|(simp[intOf];done)|(simp[intOf];omega)|(rw[wrap_small j HJ5.out];exact wrap_meas j HJ5.out)
     ·go_wp2
      go_region
      go_wp2
      go_meet
      exact⟨i,M,⟨hi1,hi2⟩,rfl,by first|exact HR.out.drew|exact HR.out,HSW.out,HO.out,fun h=>absurd h hlt⟩
   case rest=>
    obtain⟨i,M,⟨hi1,hi2⟩,rfl,hR,hS,hO,hX⟩:=hcut
    clear HR HSW HO
    have HR:=qh hR;have HSW:=qh hS;have HO:=qh hO;have HLT:=qh hX
    have hml:=hS.len
    have HML:=qh hml
    clear hR hS hO hX hml
    by_cases hih:i=hi
    ·subst hih
     go_wp2
     go_ret
     exact⟨true,M,rfl,HR.out,HSW.out,fun _=>HO.out⟩
    ·have hlt:i<hi:=by omega
     have he:((i:Int)==(hi:Int))=false:=by simp;omega
     by_cases h50:hi-lo<50
     ·have h50':(hi:Int)-(lo:Int)<50:=by omega
      go_wp2
      go_ret
      exact⟨false,M,rfl,HR.out,HSW.out,fun h=>by cases h⟩
     ·have h50':(50:Int)≤(hi:Int)-(lo:Int):=by omega
      have c1:=val_cell HR.out.c i (by have:=HML.out;omega)
      have c2:=val_cell HR.out.c (i-1) (by have:=HML.out;omega)
      obtain⟨x,hx⟩:∃x,M.getD i 0=x:=⟨_,rfl⟩
      obtain⟨y,hy⟩:∃y,M.getD (i-1) 0=y:=⟨_,rfl⟩
      rw[hx]at c1
      rw[hy]at c2
      have HX:=qh hx;have HY:=qh hy
      have g1:IntKind.i64.wrap ((i:Int)-1)=(i:Int)-1:=IntWalk.i64_in _ (by omega)
      have g3:((i:Int)-1).toNat=i-1:=by omega
      have g4:(i:Int)-1<(L.length:Int):=by omega
      have g5:(i:Int)<(L.length:Int):=by omega
      have g6:(0:Int)≤(i:Int)-1:=by omega
      have cz:=set_reads c1 c2
      have hff:=HR.out.c.2.1
      have hfb:=HR.out.c.lt
      have HR4:=qh (HR.out.set2 i (i-1) (by have:=HML.out;omega) (by have:=HML.out;omega) x y HX.out HY.out)
      have HS4:=qh (HSW.out.step i (i-1) (by omega) (by omega) (by omega) (by omega))
      have HO4:Hid (SortedOn (swapL M i (i-1)) lo (i-1)):=sorted_swap (sorted_mono HO.out (by omega)) (by omega) (Nat.le_refl _) (by have:=HML.out;omega) (by have:=HML.out;omega)
      clear hx hy
      go_upto_region 11 with(fail)
      go_region
      have HR5:Hid (Row w _ b (swapL M i (i-1))):=(by first|exact HR4.out.drew|exact HR4.out:Row w _ b (swapL M i (i-1)))
      clear HR HSW HR4 c1 c2 cz hff hfb g1 g3 g4 g5 g6 HX HY HLT
      have HL1:Hid ((swapL M i (i-1)).length=L.length):=HS4.out.len
      obtain⟨N,hN⟩:∃N,swapL M i (i-1)=N:=⟨_,rfl⟩
      rw[hN]at HR5 HS4 HO4 HL1
      go_upto_if 61 with(fail)
      go_cut [7] (fun x wx=>x=.int .i64 i∧PiRel2e w b lo hi i L wx)
      case first=>
       by_cases hi2:lo+2≤i
       ·have hge:(2:Int)≤(i:Int)-(lo:Int):=by omega
        obtain⟨i1,hi1'⟩:∃i1,i=i1+1:=⟨i-1,by omega⟩
        have HI1:=qh (show(i:Int)-1=(i1:Int) by omega)
        have HI1':=qh hi1'
        have HINS:Hid (Ins N lo i1 i1):=Ins.start (by have:=HO4.out;rwa [hi1']at this)
        clear hN hi1'
        go_upto_region 14 with(fail)
        rw[HI1.out]
        go_wp2_with fail
        go_loopw [9] (fun x wr=>InsRel2 w b lo hi i1 L x wr) (fun x _=>(intOf x).toNat)
        case atStart=>exact⟨i1,N,by have:=HI1'.out;omega,Nat.le_refl _,rfl,HR5.out,HS4.out,HINS.out⟩
        case round=>
         obtain⟨j2,M2,hj1,hj2,rfl,hR,hS,hO⟩:=hrel
         clear HR5 HS4 HINS HO4 HL1
         have HR:=qh hR;have HSW:=qh hS;have HO:=qh hO
         have hml2:=hS.len
         have HML2:=qh hml2
         have HLW2:=qh (HLW.out.sw hS hhi)
         have HIB:=qh (show i1<hi by have:=HI1'.out;omega)
         clear hR hS hO hml2
         by_cases hj0:1≤j2
         ·have c1:=val_cell HR.out.c j2 (by have:=HML2.out;have:=HIB.out;omega)
          have c2:=val_cell HR.out.c (j2-1) (by have:=HML2.out;have:=HIB.out;omega)
          obtain⟨x,hx⟩:∃x,M2.getD j2 0=x:=⟨_,rfl⟩
          obtain⟨y,hy⟩:∃y,M2.getD (j2-1) 0=y:=⟨_,rfl⟩
          rw[hx]at c1
          rw[hy]at c2
          have HX:=qh hx;have HY:=qh hy
          have hjl:j2<L.length:=by have:=HIB.out;omega
          have g1:IntKind.i64.wrap ((j2:Int)-1)=(j2:Int)-1:=IntWalk.i64_in _ (by omega)
          have g2:(1:Int)≤(j2:Int):=by omega
          have g3:((j2:Int)-1).toNat=j2-1:=by omega
          have g4:(j2:Int)-1<(L.length:Int):=by omega
          have g5:(j2:Int)<(L.length:Int):=by omega
          have g6:(0:Int)≤(j2:Int)-1:=by omega
          have cz:=set_reads c1 c2
          have hff:=HR.out.c.2.1
          have hfb:=HR.out.c.lt
          clear hx hy
          by_cases hxy:x<y
          ·have hd:decide (x<y)=true:=decide_eq_true hxy
           have HLO:Hid (lo<j2):=by
            refine Nat.lt_of_le_of_ne hj1 (fun e=>?_)
            subst e
            have e1:=HX.out;have e2:=HY.out
            rcases HLW2.out with h0|h0
            ·omega
            ·have:=h0 lo (Nat.le_refl _) (by omega)
             omega
           go_wp2_with fail
           go_quiet ((go_at_call 182;exact quietL (less x y _)))
           go_wp2
           go_region
           go_wp2
           go_roundw
           case rel=>exact⟨j2-1,swapL M2 j2 (j2-1),by have:=HLO.out;omega,by omega,by first|go_num|(congr 1;omega),by first|exact((HR.out.drewN _).set2 j2 (j2-1) (by have:=HML2.out;omega) (by have:=HML2.out;omega) x y HX.out HY.out)|exact((HR.out.drewN _).set2 j2 (j2-1) (by have:=HML2.out;omega) (by have:=HML2.out;omega) x y HX.out HY.out).drew,HSW.out.step j2 (j2-1) (by omega) (by have:=HIB.out;omega) (by have:=HLO.out;omega) (by have:=HIB.out;omega),HO.out.swap HLO.out hj2 (by have:=HML2.out;have:=HIB.out;omega) (by rw[HX.out,HY.out];exact hxy)⟩
           case measure=>first|(simp[intOf];done)|(simp[intOf];omega)|(rw[wrap_small j HJ5.out];exact wrap_meas j HJ5.out)
          ·have hd:decide (x<y)=false:=decide_eq_false hxy
           go_wp2_with fail
           go_quiet ((go_at_call 182;exact quietL (less x y _)))
           go_wp2
           go_meet
           exact⟨rfl,M2,HR.out.drewN _,HSW.out,by rw[HI1'.out];exact HO.out.fin hj1 (.inr (by rw[HX.out,HY.out];omega))⟩
         ·obtain rfl:j2=0:=by omega
          obtain rfl:lo=0:=by omega
          go_wp2
          go_meet
          exact⟨rfl,M2,HR.out,HSW.out,by rw[HI1'.out];exact HO.out.fin hj1 (.inl rfl)⟩
       ·have hlt2:(i:Int)-(lo:Int)<2:=by omega
        go_wp2
        go_meet
        exact⟨rfl,N,HR5.out,HS4.out,fun p q h1 h2 h3=>by omega⟩
      case rest=>
       obtain⟨rfl,M,hR,hS,hO⟩:=hcut
       clear HR5 HS4 HO4 HL1 hN HML HO
       have HR:=qh hR;have HSW:=qh hS;have HO:=qh hO
       clear hR hS hO
       by_cases hi2:i+2≤hi
       ·have hge:(2:Int)≤(hi:Int)-(i:Int):=by omega
        go_wp2_with fail
        go_loopw [10] (fun x wr=>PiRel3 w b lo hi i L x wr) (fun x _=>hi+1-(intOf x).toNat)
        case atStart=>exact⟨i+1,M,⟨Nat.le_refl _,by omega⟩,by go_num,HR.out,HSW.out,HO.out⟩
        case round=>
         obtain⟨j2,M2,⟨hj1,hj2⟩,rfl,hR,hS,hO⟩:=hrel
         clear HR HSW HO
         have HR:=qh hR;have HSW:=qh hS;have HO:=qh hO
         have hml2:=hS.len
         have HML2:=qh hml2
         clear hR hS hO hml2
         by_cases hj0:j2<hi
         ·have c1:=val_cell HR.out.c j2 (by have:=HML2.out;omega)
          have c2:=val_cell HR.out.c (j2-1) (by have:=HML2.out;omega)
          obtain⟨x,hx⟩:∃x,M2.getD j2 0=x:=⟨_,rfl⟩
          obtain⟨y,hy⟩:∃y,M2.getD (j2-1) 0=y:=⟨_,rfl⟩
          rw[hx]at c1
          rw[hy]at c2
          have HX:=qh hx;have HY:=qh hy
          have g1:IntKind.i64.wrap ((j2:Int)-1)=(j2:Int)-1:=IntWalk.i64_in _ (by omega)
          have g3:((j2:Int)-1).toNat=j2-1:=by omega
          have g4:(j2:Int)-1<(L.length:Int):=by omega
          have g5:(j2:Int)<(L.length:Int):=by omega
          have g6:(0:Int)≤(j2:Int)-1:=by omega
          have cz:=set_reads c1 c2
          have hff:=HR.out.c.2.1
          have hfb:=HR.out.c.lt
          clear hx hy
          by_cases hxy:x<y
          ·have hd:decide (x<y)=true:=decide_eq_true hxy
           go_wp2_with fail
           go_quiet ((go_at_call 182;exact quietL (less x y _)))
           go_wp2
           go_region
           go_wp2
           go_roundw
           case rel=>exact⟨j2+1,swapL M2 j2 (j2-1),⟨by omega,by omega⟩,by go_num,by first|exact((HR.out.drewN _).set2 j2 (j2-1) (by have:=HML2.out;omega) (by have:=HML2.out;omega) x y HX.out HY.out)|exact((HR.out.drewN _).set2 j2 (j2-1) (by have:=HML2.out;omega) (by have:=HML2.out;omega) x y HX.out HY.out).drew,HSW.out.step j2 (j2-1) (by omega) (by omega) (by omega) (by omega),sorted_swap HO.out (by omega) (by omega) (by have:=HML2.out;omega) (by have:=HML2.out;omega)⟩
           case measure=>first|(simp[intOf];done)|(simp[intOf];omega)|(rw[wrap_small j HJ5.out];exact wrap_meas j HJ5.out)
          ·have hd:decide (x<y)=false:=decide_eq_false hxy
           go_wp2_with fail
           go_quiet ((go_at_call 182;exact quietL (less x y _)))
           go_wp2
           go_roundw
           case rel=>exact⟨i,j+1,M2,⟨hi1,by omega,by have:=HJ5.out;omega⟩,rfl,by rw[wrap_small j HJ5.out],HR.out.drewN _,HSW.out,HO.out⟩
           case measure=>first|(simp[intOf];done)|(simp[intOf];omega)|(rw[wrap_small j HJ5.out];exact wrap_meas j HJ5.out)
         ·obtain rfl:j2=hi:=by omega
          go_wp2
          go_roundw
          case rel=>exact⟨i,j+1,M2,⟨hi1,by omega,by have:=HJ5.out;omega⟩,rfl,by rw[wrap_small j HJ5.out],HR.out,HSW.out,HO.out⟩
          case measure=>first|(simp[intOf];done)|(simp[intOf];omega)|(rw[wrap_small j HJ5.out];exact wrap_meas j HJ5.out)
       ·have hlt2:(hi:Int)-(i:Int)<2:=by omega
        go_wp2
        go_roundw
        case rel=>exact⟨i,j+1,M,⟨hi1,by omega,by have:=HJ5.out;omega⟩,rfl,by rw[wrap_small j HJ5.out],HR.out,HSW.out,HO.out⟩
        case measure=>first|(simp[intOf];done)|(simp[intOf];omega)|(rw[wrap_small j HJ5.out];exact wrap_meas j HJ5.out)
  ·go_wp2
   go_ret
   exact⟨false,M,rfl,HR.out,HSW.out,fun h=>by cases h⟩
end S32
namespace S32
structure Out (lo hi a e:Nat) (M:List Int):Prop where
 la:lo≤a
 ae:a≤e
 eh:e≤hi
 ord:∀i j,lo≤i→i<j→j<hi→(i<a∨e≤j)→M.getD i 0≤M.getD j 0
theorem Out.start {lo hi:Nat} {M:List Int} (h:lo≤hi):Out lo hi lo hi M:=⟨Nat.le_refl _,h,Nat.le_refl _,fun i j h1 h2 h3 h4=>by omega⟩
theorem Out.fin {lo hi a e:Nat} {M:List Int} (h:Out lo hi a e M) (s:SortedOn M a e):SortedOn M lo hi:=by
 intro i j h1 h2 h3
 by_cases c:i<a∨e≤j
 ·exact h.ord i j h1 h2 h3 c
 ·exact s i j (by omega) h2 (by omega)
theorem Out.sw {lo hi a e:Nat} {M N:List Int} (h:Out lo hi a e M) (hs:Sw a e M N) (hl:e≤M.length):Out lo hi a e N:=by
 refine⟨h.la,h.ae,h.eh,fun i j h1 h2 h3 h4=>?_⟩
 by_cases ia:i<a
 ·rw[hs.offD i (.inl ia)]
  by_cases ja:a≤j∧j<e
  ·exact hs.all hl (fun x=>M.getD i 0≤x) (fun k k1 k2=>h.ord i k h1 (by omega) (by have:=h.eh;omega) (.inl ia)) j ja.1 ja.2
  ·rw[hs.offD j (by omega)];exact h.ord i j h1 h2 h3 h4
 ·have je:e≤j:=by omega
  rw[hs.offD j (.inr je)]
  by_cases ie:i<e
  ·exact hs.all hl (fun x=>x≤M.getD j 0) (fun k k1 k2=>h.ord k j (by have:=h.la;omega) (by omega) h3 (.inr je)) i (by omega) ie
  ·rw[hs.offD i (.inr (by omega))];exact h.ord i j h1 h2 h3 h4
theorem Parted.left {a e m:Nat} {L M N:List Int} (p:Parted a e m L M) (hs:Sw a m M N) (he:e≤M.length):Parted a e m L N:=by
 have:=p.me
 refine⟨p.sw.trans (hs.mono (Nat.le_refl _) (by omega)),p.am,p.me,fun k k1 k2=>?_,fun k k1 k2=>?_⟩
 ·rw[hs.offD m (.inr (Nat.le_refl _))]
  exact hs.all (by omega) (fun x=>x≤M.getD m 0) p.lo k k1 k2
 ·rw[hs.offD m (.inr (Nat.le_refl _)),hs.offD k (.inr (by omega))]
  exact p.hi k k1 k2
theorem Parted.right {a e m:Nat} {L M N:List Int} (p:Parted a e m L M) (hs:Sw (m+1) e M N) (he:e≤M.length):Parted a e m L N:=by
 have:=p.me;have:=p.am
 refine⟨p.sw.trans (hs.mono (by omega) (Nat.le_refl _)),p.am,p.me,fun k k1 k2=>?_,fun k k1 k2=>?_⟩
 ·rw[hs.offD m (.inl (by omega)),hs.offD k (.inl (by omega))]
  exact p.lo k k1 k2
 ·rw[hs.offD m (.inl (by omega))]
  exact hs.all he (fun x=>M.getD m 0≤x) (fun k k1 k2=>p.hi k (by omega) k2) k (by omega) k2
theorem Out.left {lo hi a e m:Nat} {L M:List Int} (h:Out lo hi a e M) (p:Parted a e m L M) (s:SortedOn M a m):Out lo hi (m+1) e M:=by
 have:=p.me;have:=p.am
 refine⟨by have:=h.la;omega,by omega,h.eh,fun i j h1 h2 h3 h4=>?_⟩
 by_cases c:i<a∨e≤j
 ·exact h.ord i j h1 h2 h3 c
 ·by_cases jm:j<m
  ·exact s i j (by omega) h2 jm
  ·by_cases jm2:j=m
   ·subst jm2;exact p.lo i (by omega) h2
   ·have h5:=p.hi j (by omega) (by omega)
    by_cases im:i=m
    ·subst im;exact h5
    ·exact Int.le_trans (p.lo i (by omega) (by omega)) h5
theorem Out.right {lo hi a e m:Nat} {L M:List Int} (h:Out lo hi a e M) (p:Parted a e m L M) (s:SortedOn M (m+1) e):Out lo hi a m M:=by
 have:=p.me;have:=p.am;have:=h.eh
 refine⟨h.la,by omega,by omega,fun i j h1 h2 h3 h4=>?_⟩
 by_cases c:i<a∨e≤j
 ·exact h.ord i j h1 h2 h3 c
 ·by_cases im:m<i
  ·exact s i j (by omega) h2 (by omega)
  ·by_cases im2:i=m
   ·subst im2;exact p.hi j h2 (by omega)
   ·have h5:=p.lo i (by omega) (by omega)
    by_cases jm:j=m
    ·subst jm;exact h5
    ·exact Int.le_trans h5 (p.hi j (by omega) (by omega))
theorem Low.left {a e m:Nat} {L M:List Int} (p:Parted a e m L M):Low M (m+1) e:=.inr (fun k k1 k2=>by rw[Nat.add_sub_cancel];exact p.hi k (by omega) k2)
theorem Low.part {a e m:Nat} {M:List Int} (h:Low M a e) (hm:m≤e):Low M a m:=by
 rcases h with h|h
 ·exact .inl h
 ·exact .inr (fun k k1 k2=>h k k1 (by omega))
theorem Out.equal {lo hi a e m:Nat} {p:Int} {L M:List Int} (h:Out lo hi a e L) (q:PartedE a e m p L M) (hl:e≤L.length) (hw:Low L a e) (ha:0<a) (hp:p≤L.getD (a-1) 0):Out lo hi m e M∧Low M m e:=by
 have hO:=h.sw q.sw hl
 have hW:=hw.sw q.sw hl
 have hp':p≤M.getD (a-1) 0:=by rw[q.sw.offD _ (.inl (by omega))];exact hp
 have am:=q.am;have me:=q.me
 have hW2:∀k,a≤k→k<e→p≤M.getD k 0:=by
  rcases hW with h0|h0
  ·omega
  ·exact fun k k1 k2=>Int.le_trans hp' (h0 k k1 k2)
 refine⟨⟨by have:=h.la;omega,me,h.eh,fun i j h1 h2 h3 h4=>?_⟩,.inr (fun k k1 k2=>?_)⟩
 ·by_cases c:i<a∨e≤j
  ·exact hO.ord i j h1 h2 h3 c
  ·exact Int.le_trans (q.lo i (by omega) (by omega)) (hW2 j (by omega) (by omega))
 ·have:=q.hi k k1 k2
  have:=q.lo (m-1) (by omega) (by omega)
  omega
def PdRel (w0:World) (b lo hi:Nat) (L:List Int) (sa se sl s8 s9:Value) (w:World):Prop:=∃(a e:Nat) (lim:Int) (wb wp:Bool) (M:List Int),sa=.int .i64 a∧se=.int .i64 e∧sl=.int .i64 lim∧s8=.bool wb∧s9=.bool wp∧Row w0 w b M∧Sw lo hi L M∧Out lo hi a e M∧Low M a e
structure St (w0:World) (b lo hi a e:Nat) (L M:List Int) (w:World):Prop where
 row:Row w0 w b M
 sw:Sw lo hi L M
 out:Out lo hi a e M
 low:Low M a e
theorem St.step {w0 w w':World} {b lo hi a e:Nat} {L M N:List Int} (h:St w0 b lo hi a e L M w) (hl:hi≤L.length) (r:Row w w' b N) (s:Sw a e M N):St w0 b lo hi a e L N w':=by
 have he:e≤M.length:=by rw[h.sw.len];exact Nat.le_trans h.out.eh hl
 exact⟨h.row.trans r,h.sw.trans (s.mono h.out.la h.out.eh),h.out.sw s he,h.low.sw s he⟩
def PdCut (w0:World) (b lo hi a e:Nat) (L:List Int) (w:World):Prop:=∃M,St w0 b lo hi a e L M w
theorem pdq_is (n:Nat):∀(b cap lo hi:Nat) (lim:Int) (L:List Int) (w:World),hi-lo≤n→L.length≤64→CellsAt w b (vals L)→lo≤hi→hi≤L.length→Low L lo hi→
  Calls Tryz.prog 163 #[.slice (some ⟨b,0,none⟩) L.length cap,.int .i64 lo,.int .i64 hi,.int .i64 lim] w (InsPost w b lo hi L):=by
 induction n with
 |zero=>exact fun b cap lo hi lim L w hn hL h hlh hhi _=>pdq12 b cap lo hi lim L w hL h hlh hhi (by omega)
 |succ n ih=>
 intro b cap lo hi lim L w hn hL h hlh hhi hlow
 have HS:Hid (St w b lo hi lo hi L L w):=⟨Row.start h,.refl,.start hlh,hlow⟩
 have IH:=qh ih
 clear h hlow ih
 go_enter Tryz.func163,Tryz.ntmps163
 go_wp2_with fail
 go_loopw [1,2,3,8,9] (fun sa se sl s8 s9 wr=>PdRel w b lo hi L sa se sl s8 s9 wr) (fun sa se _ _ _ _=>(intOf se).toNat-(intOf sa).toNat)
 case atStart=>exact⟨lo,hi,lim,true,true,L,rfl,rfl,rfl,rfl,rfl,HS.out.row,HS.out.sw,HS.out.out,HS.out.low⟩
 case round=>
  obtain⟨a,e,lim,wb,wp,M,rfl,rfl,rfl,rfl,rfl,hR,hS,hO,hW⟩:=hrel
  clear HS
  have HT:Hid (St w b lo hi a e L M wr):=⟨hR,hS,hO,hW⟩
  have hla:=hO.la;have hae:=hO.ae;have heh:=hO.eh
  have hml:=hS.len
  have HML:=qh hml
  clear hR hS hO hW hml
  by_cases h12:e-a≤12
  ·have d12:(e:Int)-(a:Int)≤12:=by omega
   go_wp2_with fail
   rw[←HML.out]
   refine(insertion b cap a e M _ (by have:=HML.out;omega) HT.out.row.c hae (by have:=HML.out;omega)).mono ?_
   rintro e1 w1 ⟨rfl,N,hR1,hS1,hO1⟩
   rw[HML.out]
   have HT1:=qh (HT.out.step hhi hR1 hS1)
   have HO1:=qh hO1
   clear hR1 hS1 hO1 HT HML
   go_wp2
   go_end0
   exact⟨rfl,N,HT1.out.row,HT1.out.sw,HT1.out.out.fin HO1.out⟩
  ·have d12:decide ((e:Int)-(a:Int)≤12)=false:=decide_eq_false (by omega)
   obtain⟨l,hl⟩:∃l,e=a+l:=⟨e-a,by omega⟩
   have HLE:=qh hl
   have hli:(e:Int)-(a:Int)=(l:Int):=by omega
   have HLI:=qh hli
   clear hl hli
   go_upto_region 3 with(fail)
   rw[HLI.out]
   have l12:12<l:=by have:=HLE.out;omega
   have l64:l≤64:=by have:=HLE.out;omega
   have HAE:=qh (show a+12<e by omega)
   clear d12 h12 hae
   by_cases lim0:lim=0
   ·subst lim0
    go_wp2_with fail
    rw[←HML.out]
    refine(heapSort_is b cap a e M _ (by have:=HML.out;omega) HT.out.row.c (by have:=HAE.out;omega) (by have:=HML.out;omega)).mono ?_
    rintro e1 w1 ⟨rfl,N,hR1,hS1,hO1⟩
    rw[HML.out]
    have HT1:=qh (HT.out.step hhi hR1 hS1)
    have HO1:=qh hO1
    clear hR1 hS1 hO1 HT HML
    go_wp2
    go_end0
    exact⟨rfl,N,HT1.out.row,HT1.out.sw,HT1.out.out.fin HO1.out⟩
   ·have hlim:(lim==0)=false:=by simpa using lim0
    go_upto_if 35 with(fail)
    go_cut [3] (fun sl wx=>∃lim':Int,sl=.int .i64 lim'∧PdCut w b lo hi a e L wx)
    case first=>
     cases wb with
     |false=>
      go_wp2_with fail
      rw[←HML.out]
      refine(break_is b cap a e M _ (by have:=HML.out;omega) HT.out.row.c HAE.out (by have:=HML.out;omega)).mono ?_
      rintro e1 w1 ⟨rfl,N,hR1,hS1⟩
      rw[HML.out]
      have HT1:=qh (HT.out.step hhi hR1 hS1)
      clear hR1 hS1 HT HML
      go_wp2
      go_meet
      exact⟨_,rfl,N,HT1.out⟩
     |true=>
      go_wp2
      go_meet
      exact⟨_,rfl,M,HT.out⟩
    case rest=>
     obtain⟨lim',rfl,M1,hT⟩:=hcut
     clear HT HML hlim lim0
     have HT:=qh hT
     have HML:=qh hT.sw.len
     clear hT
     go_wp2_with fail
     rw[←HML.out]
     refine(choose_is b cap a e M1 _ (by have:=HML.out;omega) HT.out.row.c HAE.out (by have:=HML.out;omega)).mono ?_
     rintro e1 w1 ⟨r,t,rfl,hr1,hr2,hR1⟩
     rw[HML.out]
     have HT1:=qh (HT.out.step hhi hR1 .refl)
     clear hR1 HT
     go_upto_if 50 with(fail)
     go_cut [11,12] (fun s11 s12 wx=>∃(r:Nat) (t:Int),s11=.int .i64 r∧s12=.int .i64 t∧(a≤r∧r<e)∧PdCut w b lo hi a e L wx)
     case first=>
      by_cases t2:t=2
      ·subst t2
       go_wp2_with fail
       rw[←HML.out]
       refine(reverse_is b cap a e M1 _ (by have:=HML.out;omega) HT1.out.row.c (by have:=HAE.out;omega) (by have:=HML.out;omega)).mono ?_
       rintro e2 w2 ⟨rfl,N,hR1,hS1⟩
       rw[HML.out]
       have HT2:=qh (HT1.out.step hhi hR1 hS1)
       clear hR1 hS1 HT1 HML
       go_wp2
       go_meet
       exact⟨e-1-(r-a),1,by congr 1;omega,rfl,⟨by omega,by omega⟩,N,HT2.out⟩
      ·have hm2:(t==2)=false:=by simpa using t2
       go_wp2
       go_meet
       exact⟨r,t,rfl,rfl,⟨hr1,hr2⟩,M1,HT1.out⟩
     case rest=>
      obtain⟨r,t,rfl,rfl,⟨hr1,hr2⟩,M2,hT⟩:=hcut
      clear HT1 HML
      have HT:=qh hT
      clear hT
      go_upto_region 15 with(fail)
      go_cut [68] (fun s wx=>∃f:Bool,s=.bool f∧PdCut w b lo hi a e L wx)
      case first=>
       by_cases t1:t=1
       ·subst t1
        cases wb<;>cases wp<;>(go_wp2;go_meet;exact⟨_,rfl,M2,HT.out⟩)
       ·have hm1:(t==1)=false:=by simpa using t1
        cases wb<;>cases wp<;>(go_wp2;go_meet;exact⟨false,rfl,M2,HT.out⟩)
      case rest=>
       obtain⟨f,rfl,M3,hT⟩:=hcut
       clear HT
       have HT:=qh hT
       have HML:=qh hT.sw.len
       clear hT
       go_upto_if 68 with(fail)
       go_cut [] (fun wx=>PdCut w b lo hi a e L wx)
       case first=>
        cases f with
        |true=>
         go_wp2_with fail
         rw[←HML.out]
         refine(partial_is b cap a e M3 _ (by have:=HML.out;omega) HT.out.row.c HAE.out (by have:=HML.out;omega) HT.out.low).mono ?_
         rintro e2 w2 ⟨f2,N,rfl,hR1,hS1,hO1⟩
         rw[HML.out]
         have HT2:=qh (HT.out.step hhi hR1 hS1)
         have HO2:=qh hO1
         clear hR1 hS1 hO1 HT HML
         cases f2 with
         |true=>
          go_wp2
          go_end0
          exact⟨rfl,N,HT2.out.row,HT2.out.sw,HT2.out.out.fin (by first|exact HO2.out rfl|exact HO2.out trivial|exact HO2.out)⟩
         |false=>
          go_wp2
          go_meet
          exact⟨N,HT2.out⟩
        |false=>
         go_wp2
         go_meet
         exact⟨M3,HT.out⟩
       case rest=>
        obtain⟨M4,hT⟩:=hcut
        clear HT HML
        have HT:=qh hT
        have HML:=qh hT.sw.len
        clear hT
        go_upto_region 17 with(fail)
        go_cut [87] (fun s wx=>∃(f:Bool) (M:List Int),s=.bool f∧St w b lo hi a e L M wx∧(f=true→0<a∧M.getD r 0≤M.getD (a-1) 0))
        case first=>
         by_cases a0:a=0
         ·subst a0
          go_wp2
          go_region
          go_wp2
          go_meet
          have HTD:Hid (St w b lo hi 0 e L M4 wc.drew):=⟨HT.out.row.drew,HT.out.sw,HT.out.out,HT.out.low⟩
          first|exact⟨false,M4,rfl,HT.out,fun h=>by cases h⟩|exact⟨false,M4,rfl,HTD.out,fun h=>by cases h⟩
         ·have HLR:=qh (show a-1<L.length∧r<L.length by have:=HAE.out;omega)
          have c1:=val_cell HT.out.row.c (a-1) (by have:=HML.out;have:=HLR.out;omega)
          have c2:=val_cell HT.out.row.c r (by have:=HML.out;have:=HLR.out;omega)
          obtain⟨x,hx⟩:∃x,M4.getD (a-1) 0=x:=⟨_,rfl⟩
          obtain⟨y,hy⟩:∃y,M4.getD r 0=y:=⟨_,rfl⟩
          rw[hx]at c1
          rw[hy]at c2
          have HX:=qh hx;have HY:=qh hy
          have g0:0<a:=by omega
          have g1:IntKind.i64.wrap ((a:Int)-1)=(a:Int)-1:=IntWalk.i64_in _ (by omega)
          have g3:((a:Int)-1).toNat=a-1:=by omega
          have g4:(a:Int)-1<(L.length:Int):=by have:=HLR.out;omega
          have g5:(r:Int)<(L.length:Int):=by have:=HLR.out;omega
          have g6:(0:Int)≤(a:Int)-1:=by omega
          have HTD:∀k,St w b lo hi a e L M4 (wc.drewN k):=fun k=>⟨HT.out.row.drewN k,HT.out.sw,HT.out.out,HT.out.low⟩
          have HTD':=qh HTD
          clear hx hy HTD
          by_cases hxy:x<y
          ·have hd:decide (x<y)=true:=decide_eq_true hxy
           go_wp2_with fail
           go_quiet ((go_at_call 182;exact quietL (less x y _)))
           go_wp2
           go_meet
           exact⟨false,M4,rfl,HTD'.out _,fun h=>by cases h⟩
          ·have hd:decide (x<y)=false:=decide_eq_false hxy
           go_wp2_with fail
           go_quiet ((go_at_call 182;exact quietL (less x y _)))
           go_wp2
           go_meet
           exact⟨true,M4,rfl,HTD'.out _,fun _=>⟨by omega,by rw[HX.out,HY.out];omega⟩⟩
        case rest=>
         obtain⟨f,M5,rfl,hT,hF⟩:=hcut
         clear HT HML
         have HT:=qh hT
         have HML:=qh hT.sw.len
         cases f with
         |true=>
          have HF:=qh (hF rfl)
          clear hT hF
          go_wp2_with fail
          rw[←HML.out]
          refine(partitionEq_is b cap a e r M5 _ (by have:=HML.out;omega) HT.out.row.c (by have:=HAE.out;omega) (by have:=HML.out;omega) hr1 hr2).mono ?_
          rintro e2 w2 ⟨m,N,rfl,hR1,hP⟩
          rw[HML.out]
          have HT2:=qh (HT.out.step hhi hR1 hP.sw)
          have HO2:=qh (HT.out.out.equal hP (by have:=HML.out;omega) HT.out.low HF.out.1 HF.out.2)
          have HP:=qh (And.intro hP.am hP.me)
          clear hR1 hP HT HML HF
          go_wp2
          go_roundw
          case rel=>exact⟨m,e,lim',wb,wp,N,rfl,rfl,rfl,rfl,rfl,HT2.out.row,HT2.out.sw,HO2.out.1,HO2.out.2⟩
          case measure=>have:=HP.out;have:=HAE.out;simp only[intOf,Int.toNat_natCast];omega
         |false=>
          clear hT hF
          go_wp2_with fail
          rw[←HML.out]
          refine(partition_is b cap a e r M5 _ (by have:=HML.out;omega) HT.out.row.c (by have:=HAE.out;omega) (by have:=HML.out;omega) hr1 hr2).mono ?_
          rintro e2 w2 ⟨m,f2,N,rfl,hR1,hP⟩
          rw[HML.out]
          have HT2:=qh (HT.out.step hhi hR1 hP.sw)
          have HP:=qh hP
          have ham:=hP.am;have hme:=hP.me
          clear hR1 hP HT HML
          have HML:=qh HT2.out.sw.len
          have HME:=qh (show m≤e∧e≤L.length by omega)
          by_cases hlr:m-a<e-m
          ·have hlr':(m:Int)-(a:Int)<(e:Int)-(m:Int):=by omega
           go_wp2_with fail
           rw[←HML.out]
           refine(IH.out b cap a m lim' N _ (by have:=HAE.out;omega) (by have:=HML.out;omega) HT2.out.row.c ham (by have:=HML.out;have:=HME.out;omega) (HT2.out.low.part HME.out.1)).mono ?_
           rintro e3 w3 ⟨rfl,O,hR3,hS3,hO3⟩
           rw[HML.out]
           have HT3:=qh (HT2.out.step hhi hR3 (hS3.mono (Nat.le_refl _) HME.out.1))
           have HP3:=qh (HP.out.left hS3 (by have:=HML.out;have:=HME.out;omega))
           have HO3:=qh hO3
           clear hR3 hS3 hO3 HT2 HP HML
           go_wp2
           go_roundw
           case rel=>exact⟨m+1,e,lim',_,f2,O,by go_num,rfl,rfl,rfl,rfl,HT3.out.row,HT3.out.sw,HT3.out.out.left HP3.out HO3.out,Low.left HP3.out⟩
           case measure=>have:=HAE.out;first|(simp only[intOf,Int.toNat_natCast];omega)|(simp[intOf];omega)
          ·have hlr':(e:Int)-(m:Int)≤(m:Int)-(a:Int):=by omega
           obtain⟨m1,hm1⟩:∃m1,m1=m+1:=⟨_,rfl⟩
           have HM1:=qh hm1
           have HM2:=qh (show(m:Int)+1=(m1:Int) by omega)
           have HM3:=qh (show m1≤e by omega)
           clear hm1
           go_wp2_with fail
           rw[←HML.out,HM2.out]
           refine(IH.out b cap m1 e lim' N _ (by have:=HAE.out;have:=HM1.out;omega) (by have:=HML.out;omega) HT2.out.row.c HM3.out (by have:=HML.out;have:=HME.out;omega) (by rw[HM1.out];exact Low.left HP.out)).mono ?_
           rintro e3 w3 ⟨rfl,O,hR3,hS3,hO3⟩
           rw[HML.out]
           have HT3:=qh (HT2.out.step hhi hR3 (hS3.mono (by have:=HM1.out;omega) (Nat.le_refl _)))
           have HP3:=qh (HP.out.right (by rw[←HM1.out];exact hS3) (by have:=HML.out;have:=HME.out;omega))
           have HO3:Hid (SortedOn O (m+1) e):=by rw[←HM1.out];exact hO3
           clear hR3 hS3 hO3 HT2 HP HML
           go_wp2
           go_roundw
           case rel=>exact⟨a,m,lim',_,f2,O,rfl,rfl,rfl,rfl,rfl,HT3.out.row,HT3.out.sw,HT3.out.out.right HP3.out HO3.out,HT3.out.low.part HME.out.1⟩
           case measure=>have:=HAE.out;first|(simp only[intOf,Int.toNat_natCast];omega)|(simp[intOf];omega)
theorem sort_is (b cap:Nat) (L:List Int) (w:World) (hL:L.length≤64) (h:CellsAt w b (vals L)):
  Calls Tryz.prog 134 #[.slice (some ⟨b,0,none⟩) L.length cap] w (InsPost w b 0 L.length L):=by
 have HC:=qh h
 have l64:(L.length:Int)≤64:=by omega
 clear h
 go_enter Tryz.func134,Tryz.ntmps134
 go_wp2_with fail
 refine(len L.length _ (by omega)).mono ?_
 rintro e1 w1 ⟨rfl,rfl⟩
 go_wp2_with fail
 refine(pdq_is _ b cap 0 L.length _ L _ (Nat.le_refl _) (by omega) HC.out (by omega) (Nat.le_refl _) (.inl rfl)).mono ?_
 rintro e1 w1 ⟨rfl,hM⟩
 go_wp2
 go_end0
 exact⟨rfl,hM⟩
end S32
end Go.Proofs.YtpkiepjmcepnoaaGreatDoor
