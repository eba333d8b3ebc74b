/- A part of a proof. -/
import Derived.Deep.QuietTactic
import Derived.Deep.DeepCutAuto
import Derived.RegionTactic
import Derived.OwnWalk
import Derived.Maps.RangeWalk
import Derived.Lib.Strings
import Derived.Lib.Slices
import Derived.Lib.Small
import Derived.Lib.Walk
import Derived.Lib.BitFns
import Derived.Deep.CutBlock
import Derived.Test.YtpkiepjmcepnoaaGreatDoorPtA
set_option maxHeartbeats 16000000
set_option maxRecDepth 100000
namespace Go.Proofs.YtpkiepjmcepnoaaGreatDoor
open Go.ChangeShapes Go.WideShapes Go.ChangeAt Go.RowKit
set_option linter.unusedVariables false
namespace S32
abbrev vals (xs:List Int):List Value:=xs.map (.int .i32)
def swapL (L:List Int) (i j:Nat):List Int:=(L.set i (L.getD j 0)).set j (L.getD i 0)
theorem swapL_len (L:List Int) (i j:Nat):(swapL L i j).length=L.length:=by simp[swapL]
theorem getD_set (L:List Int) (i k:Nat) (x:Int) (hi:i<L.length):(L.set i x).getD k 0=if k=i then x else L.getD k 0:=by
 rw[List.getD_eq_getElem?_getD,List.getElem?_set]
 by_cases h:i=k
 ·subst h;simp[hi]
 ·rw[if_neg h,if_neg (fun e=>h e.symm),List.getD_eq_getElem?_getD]
theorem swapL_at (L:List Int) (i j k:Nat) (hi:i<L.length) (hj:j<L.length):(swapL L i j).getD k 0=if k=j then L.getD i 0 else if k=i then L.getD j 0 else L.getD k 0:=by
 unfold swapL
 rw[getD_set _ _ _ _ (by simpa using hj),getD_set _ _ _ _ hi]
theorem swapL_off (L:List Int) (i j k:Nat) (h1:k≠i) (h2:k≠j):(swapL L i j)[k]?=L[k]?:=by
 unfold swapL
 rw[List.getElem?_set_ne (fun e=>h2 e.symm),List.getElem?_set_ne (fun e=>h1 e.symm)]
theorem count_set (L:List Int) (i:Nat) (x y:Int) (hi:i<L.length):(L.set i x).count y+(if L.getD i 0=y then 1 else 0)=L.count y+(if x=y then 1 else 0):=by
 induction L generalizing i with
 |nil=>simp at hi
 |cons a L ih=>
  cases i with
  |zero=>
   simp only[List.set_cons_zero,List.count_cons,List.getD_cons_zero,beq_iff_eq];omega
  |succ i=>
   simp only[List.length_cons,Nat.add_lt_add_iff_right]at hi
   have:=ih i hi
   simp only[List.set_cons_succ,List.count_cons,List.getD_cons_succ];omega
theorem swapL_perm (L:List Int) (i j:Nat) (hi:i<L.length) (hj:j<L.length):(swapL L i j).Perm L:=by
 rw[List.perm_iff_count]
 intro y
 unfold swapL
 have h1:=count_set (L.set i (L.getD j 0)) j (L.getD i 0) y (by simpa using hj)
 have h2:=count_set L i (L.getD j 0) y hi
 rw[getD_set _ _ _ _ hi]at h1
 by_cases e:j=i
 ·subst e;simp only[if_true]at h1;omega
 ·rw[if_neg e]at h1;omega
inductive Sw (lo hi:Nat) (L:List Int):List Int→Prop
 |refl:Sw lo hi L L
 |step {M:List Int} (h:Sw lo hi L M) (i j:Nat) (h1:lo≤i) (h2:i<hi) (h3:lo≤j) (h4:j<hi):Sw lo hi L (swapL M i j)
theorem Sw.len {lo hi:Nat} {L M:List Int} (h:Sw lo hi L M):M.length=L.length:=by
 induction h with
 |refl=>rfl
 |step h i j _ _ _ _ ih=>rw[swapL_len,ih]
theorem Sw.off {lo hi:Nat} {L M:List Int} (h:Sw lo hi L M) (k:Nat) (hk:k<lo∨hi≤k):M[k]?=L[k]?:=by
 induction h with
 |refl=>rfl
 |step h i j h1 h2 h3 h4 ih=>rw[swapL_off _ _ _ _ (by omega) (by omega),ih]
theorem Sw.offD {lo hi:Nat} {L M:List Int} (h:Sw lo hi L M) (k:Nat) (hk:k<lo∨hi≤k):M.getD k 0=L.getD k 0:=by
 rw[List.getD_eq_getElem?_getD,h.off k hk,List.getD_eq_getElem?_getD]
theorem Sw.perm {lo hi:Nat} {L M:List Int} (h:Sw lo hi L M) (hl:hi≤L.length):M.Perm L:=by
 induction h with
 |refl=>exact List.Perm.refl _
 |step h i j h1 h2 h3 h4 ih=>exact(swapL_perm _ _ _ (by rw[h.len];omega) (by rw[h.len];omega)).trans ih
theorem Sw.all {lo hi:Nat} {L M:List Int} (h:Sw lo hi L M) (hl:hi≤L.length) (P:Int→Prop) (hP:∀k,lo≤k→k<hi→P (L.getD k 0)):∀k,lo≤k→k<hi→P (M.getD k 0):=by
 induction h with
 |refl=>exact hP
 |step h i j h1 h2 h3 h4 ih=>
  intro k k1 k2
  rw[swapL_at _ _ _ _ (by rw[h.len];omega) (by rw[h.len];omega)]
  split
  ·exact ih i h1 h2
  ·split
   ·exact ih j h3 h4
   ·exact ih k k1 k2
theorem Sw.trans {lo hi:Nat} {L M N:List Int} (h:Sw lo hi L M) (k:Sw lo hi M N):Sw lo hi L N:=by
 induction k with
 |refl=>exact h
 |step k i j h1 h2 h3 h4 ih=>exact ih.step i j h1 h2 h3 h4
theorem Sw.mono {lo hi lo' hi':Nat} {L M:List Int} (h:Sw lo hi L M) (h1:lo'≤lo) (h2:hi≤hi'):Sw lo' hi' L M:=by
 induction h with
 |refl=>exact .refl
 |step k i j a1 a2 a3 a4 ih=>exact ih.step i j (by omega) (by omega) (by omega) (by omega)
def SortedOn (L:List Int) (lo hi:Nat):Prop:=∀i j,lo≤i→i<j→j<hi→L.getD i 0≤L.getD j 0
theorem vals_swap (L:List Int) (i j:Nat):((vals L).set i (.int .i32 (L.getD j 0))).set j (.int .i32 (L.getD i 0))=vals (swapL L i j):=by
 simp only[vals,swapL,List.map_set]
theorem val_cell {w:World} {b:Nat} {L:List Int} (h:CellsAt w b (vals L)) (n:Nat) (hn:n<L.length):w.cell? ⟨b,n,none⟩=some (.int .i32 (L.getD n 0)):=
 h.at_ n (by rw[vals,List.getElem?_map,List.getD_eq_getElem?_getD,List.getElem?_eq_getElem hn];rfl)
structure Row (w0 w:World) (b:Nat) (L:List Int):Prop where
 c:CellsAt w b (vals L)
 g:w0.grownBy w (some b)
theorem Row.start {w:World} {b:Nat} {L:List Int} (h:CellsAt w b (vals L)):Row w w b L:=⟨h,World.grownBy.refl _ _⟩
theorem Row.trans {w0 w w':World} {b:Nat} {L M:List Int} (h:Row w0 w b L) (k:Row w w' b M):Row w0 w' b M:=
 ⟨k.c,h.g.andThen k.g (fun j e=>by cases e;exact .inr rfl)⟩
theorem Row.drewN {w0 w:World} {b:Nat} {L:List Int} (h:Row w0 w b L) (n:Nat):Row w0 (w.drewN n) b L:=⟨h.c.drewN n,⟨h.g.os,h.g.tape,h.g.output,h.g.size,h.g.block⟩⟩
theorem Row.drew {w0 w:World} {b:Nat} {L:List Int} (h:Row w0 w b L):Row w0 w.drew b L:=⟨h.c.drew,⟨h.g.os,h.g.tape,h.g.output,h.g.size,h.g.block⟩⟩
theorem grown_set (w:World) (b n:Nat) (u:Value):w.grownBy (w.setCell ⟨b,n,none⟩ u) (some b):=
 ⟨rfl,rfl,rfl,by simp[World.setCell],fun k _ hk=>heap_setCell_other w ⟨b,n,none⟩ k u (fun e=>hk (by rw[e]))⟩
theorem Row.set2 {w0 w:World} {b:Nat} {L:List Int} (h:Row w0 w b L) (i j:Nat) (hi:i<L.length) (hj:j<L.length) (x y:Int) (hx:L.getD i 0=x) (hy:L.getD j 0=y):
  Row w0 ((w.setCell ⟨b,i,none⟩ (.int .i32 y)).setCell ⟨b,j,none⟩ (.int .i32 x)) b (swapL L i j):=by
 subst hx hy
 refine⟨?_,(h.g.andThen (grown_set w b i _) (fun _ e=>by cases e;exact .inr rfl)).andThen (grown_set _ b j _) (fun _ e=>by cases e;exact .inr rfl)⟩
 have:=(h.c.set_ i (by simpa using hi) (.int .i32 (L.getD j 0))).set_ j (by simpa using hj) (.int .i32 (L.getD i 0))
 rwa [vals_swap]at this
end S32
namespace S32
theorem less (a b:Int) (w:World):Calls Tryz.prog 182 #[.int .i32 a,.int .i32 b] w fun e w'=>e=.returned (.bool (decide (a<b)))∧w=w':=by
 have hn:∀(x:Int) (w:World),Calls Tryz.prog 193 #[.int .i32 x] w fun e w'=>e=.returned (.bool false)∧w=w':=by
  intro x w
  go_enter Tryz.func193,Tryz.ntmps193
  go_wp2
  go_ret
  exact⟨ret_bool (by simp),rfl⟩
 go_enter Tryz.func182,Tryz.ntmps182
 go_wp2_with fail
 refine(hn _ _).mono ?_
 rintro e1 w1 ⟨rfl,rfl⟩
 go_wp2
 go_ret
 exact⟨ret_bool (by simp),rfl⟩
end S32
namespace S32
structure Ins (L:List Int) (lo i j:Nat):Prop where
 a:SortedOn L lo j
 b:SortedOn L j (i+1)
 c:∀p q,lo≤p→p<j→j<q→q≤i→L.getD p 0≤L.getD q 0
theorem Ins.start {L:List Int} {lo i:Nat} (h:SortedOn L lo i):Ins L lo i i:=⟨h,fun p q h1 h2 h3=>by omega,fun p q h1 h2 h3 h4=>by omega⟩
theorem Ins.swap {L:List Int} {lo i j:Nat} (h:Ins L lo i j) (hj:lo<j) (hji:j≤i) (hi:i<L.length) (hlt:L.getD j 0<L.getD (j-1) 0):Ins (swapL L j (j-1)) lo i (j-1):=by
 have e:∀k,(swapL L j (j-1)).getD k 0=if k=j-1 then L.getD j 0 else if k=j then L.getD (j-1) 0 else L.getD k 0:=fun k=>swapL_at L j (j-1) k (by omega) (by omega)
 refine⟨fun p q h1 h2 h3=>?_,fun p q h1 h2 h3=>?_,fun p q h1 h2 h3 h4=>?_⟩
 ·rw[e,e,if_neg (by omega),if_neg (by omega),if_neg (by omega),if_neg (by omega)]
  exact h.a p q h1 h2 (by omega)
 ·rw[e,e]
  by_cases p1:p=j-1
  ·rw[if_pos p1]
   by_cases q1:q=j
   ·rw[if_neg (by omega),if_pos q1];omega
   ·rw[if_neg (by omega),if_neg q1]
    exact h.b j q (Nat.le_refl _) (by omega) h3
  ·rw[if_neg p1]
   by_cases p2:p=j
   ·rw[if_pos p2,if_neg (by omega),if_neg (by omega)]
    exact h.c (j-1) q (by omega) (by omega) (by omega) (by omega)
   ·rw[if_neg p2,if_neg (by omega),if_neg (by omega)]
    exact h.b p q (by omega) h2 h3
 ·rw[e,e,if_neg (by omega),if_neg (by omega)]
  by_cases q1:q=j
  ·rw[if_neg (by omega),if_pos q1];exact h.a p (j-1) h1 (by omega) (by omega)
  ·rw[if_neg (by omega),if_neg q1];exact h.c p q h1 (by omega) (by omega) h4
theorem Ins.fin {L:List Int} {lo i j:Nat} (h:Ins L lo i j) (hj:lo≤j) (he:j=lo∨L.getD (j-1) 0≤L.getD j 0):SortedOn L lo (i+1):=by
 intro p q h1 h2 h3
 by_cases q1:q<j
 ·exact h.a p q h1 h2 q1
 ·by_cases p1:j≤p
  ·exact h.b p q p1 h2 h3
  ·by_cases q2:q=j
   ·subst q2
    rcases he with he|he
    ·omega
    ·by_cases p2:p=q-1
     ·subst p2;exact he
     ·exact Int.le_trans (h.a p (q-1) h1 (by omega) (by omega)) he
   ·exact h.c p q h1 (by omega) (by omega) (by omega)
def InsRel (w0:World) (b lo hi:Nat) (L:List Int) (x:Value) (w:World):Prop:=∃(i:Nat) (M:List Int),lo<i∧i≤hi+1∧x=.int .i64 i∧Row w0 w b M∧Sw lo hi L M∧SortedOn M lo i
def InsRel2 (w0:World) (b lo hi i:Nat) (L:List Int) (x:Value) (w:World):Prop:=∃(j:Nat) (M:List Int),lo≤j∧j≤i∧x=.int .i64 j∧Row w0 w b M∧Sw lo hi L M∧Ins M lo i j
def InsPost (w0:World) (b lo hi:Nat) (L:List Int) (e:Ending) (w:World):Prop:=e=.returned (.tuple #[])∧∃M,Row w0 w b M∧Sw lo hi L M∧SortedOn M lo hi
theorem insertion (b cap lo hi:Nat) (L:List Int) (w:World) (hL:L.length≤64) (h:CellsAt w b (vals L)) (hlh:lo≤hi) (hhi:hi≤L.length):
  Calls Tryz.prog 176 #[.slice (some ⟨b,0,none⟩) L.length cap,.int .i64 lo,.int .i64 hi] w (InsPost w b lo hi L):=by
 have HS:=qh (Row.start h)
 clear h
 go_enter Tryz.func176,Tryz.ntmps176
 go_wp2
 go_loopw [6] (fun x wr=>InsRel w b lo hi L x wr) (fun x _=>hi+1-(intOf x).toNat)
 case atStart=>exact⟨lo+1,L,by omega,by omega,by go_num,HS.out,.refl,fun p q h1 h2 h3=>by omega⟩
 case round=>
  obtain⟨i,M,hi1,hi2,rfl,hR,hS,hO⟩:=hrel
  have HR:=qh hR;have HSW:=qh hS;have HO:=qh hO
  clear hR hS hO HS
  by_cases hlt:i<hi
  ·go_wp2
   go_loopw [7] (fun x wr=>InsRel2 w b lo hi i L x wr) (fun x _=>(intOf x).toNat)
   case atStart=>exact⟨i,M,by omega,by omega,rfl,HR.out,HSW.out,.start HO.out⟩
   case round=>
    obtain⟨j,M2,hj1,hj2,rfl,hR,hS,hO⟩:=hrel
    clear HR HSW HO
    have HR:=qh hR;have HSW:=qh hS;have HO:=qh hO
    have hlen:=hS.len
    clear hR hS hO
    by_cases hjl:lo<j
    ·have c1:=val_cell HR.out.c j (by omega)
     have c2:=val_cell HR.out.c (j-1) (by omega)
     obtain⟨x,hx⟩:∃x,M2.getD j 0=x:=⟨_,rfl⟩
     obtain⟨y,hy⟩:∃y,M2.getD (j-1) 0=y:=⟨_,rfl⟩
     rw[hx]at c1
     rw[hy]at c2
     have HX:=qh hx;have HY:=qh hy
     have HLEN:=qh hlen
     have hj3:j<L.length:=by omega
     have hff:=HR.out.c.2.1
     have hfb:=HR.out.c.lt
     clear hx hy hlen
     have g1:IntKind.i64.wrap ((j:Int)-1)=(j:Int)-1:=IntWalk.i64_in _ (by omega)
     have g2:(1:Int)≤(j:Int):=by omega
     have g3:((j:Int)-1).toNat=j-1:=by omega
     have g4:(j:Int)-1<(L.length:Int):=by omega
     have g5:(j:Int)<(L.length:Int):=by omega
     have g6:(0:Int)≤(j:Int)-1:=by omega
     by_cases hxy:x<y
     ·go_wp2
      go_quiet ((go_at_call 182;exact quietL (less x y _)))
      go_wp2
      go_region
      go_wp2
      go_round
      case rel=>exact⟨j-1,_,by omega,by omega,by first|go_num|(congr 1;omega),((HR.out.drewN _).set2 j (j-1) (by have:=HLEN.out;omega) (by have:=HLEN.out;omega) x y HX.out HY.out),HSW.out.step j (j-1) (by omega) (by omega) (by omega) (by omega),HO.out.swap hjl hj2 (by have:=HLEN.out;omega) (by rw[HX.out,HY.out];exact hxy)⟩
      case measure=>simp[intOf];omega
     ·go_wp2
      go_quiet ((go_at_call 182;exact quietL (less x y _)))
      go_wp2
      go_round
      case rel=>exact⟨i+1,M2,by omega,by omega,by go_num,HR.out.drewN _,HSW.out,HO.out.fin (by omega) (.inr (by rw[HX.out,HY.out];omega))⟩
      case measure=>simp[intOf];omega
    ·obtain rfl:j=lo:=by omega
     go_wp2
     go_region
     go_wp2
     go_round
     case rel=>exact⟨i+1,M2,by omega,by omega,by go_num,by first|exact HR.out.drew|exact HR.out,HSW.out,HO.out.fin (by omega) (.inl rfl)⟩
     case measure=>simp[intOf];omega
  ·go_wp2
   go_end0
   exact⟨rfl,M,HR.out,HSW.out,fun p q h1 h2 h3=>HO.out p q h1 h2 (by omega)⟩
end S32
namespace S32
theorem len64 (x:Int) (w:World) (h0:0≤x) (h1:x≤64):Calls Tryz.prog 98 #[.int .u64 x] w fun e w'=>e=.returned (.int .i64 (Lib.bitLen x.toNat))∧w=w':=by
 have d1:decide (4294967296≤x)=false:=by simp;omega
 have d2:decide (65536≤x)=false:=by simp;omega
 have d3:decide (256≤x)=false:=by simp;omega
 have d4:x≤255:=by omega
 go_enter Tryz.func98,Tryz.ntmps98
 go_wp2
 go_ret
 refine⟨congrArg Ending.returned (congrArg (Value.int IntKind.i64) ?_),rfl⟩
 rw[Lib.len8_of x h0 (by omega)]
 have l:=Lib.bitLen_le8' x h0 (by omega)
 simp only[wrap64]
 omega
theorem len (n:Nat) (w:World) (h1:n≤64):Calls Tryz.prog 164 #[.int .u64 n] w fun e w'=>e=.returned (.int .i64 (Lib.bitLen n:Nat))∧w=w':=by
 go_enter Tryz.func164,Tryz.ntmps164
 go_wp2_with (go_at_call 98;refine(len64 n _ (by omega) (by omega)).mono ?_;rintro e w' ⟨rfl,rfl⟩)
 go_ret
 exact⟨rfl,rfl⟩
end S32
namespace S32
theorem pdq12 (b cap lo hi:Nat) (lim:Int) (L:List Int) (w:World) (hL:L.length≤64) (h:CellsAt w b (vals L)) (hlh:lo≤hi) (hhi:hi≤L.length) (h12:hi-lo≤12):
  Calls Tryz.prog 163 #[.slice (some ⟨b,0,none⟩) L.length cap,.int .i64 lo,.int .i64 hi,.int .i64 lim] w (InsPost w b lo hi L):=by
 have d1:(hi:Int)-(lo:Int)≤12:=by omega
 have HC:=qh h
 clear h
 go_enter Tryz.func163,Tryz.ntmps163
 go_wp2
 refine wp_loop_rounds 1 ?_
 rw[rounds_succ]
 go_wp2_with fail
 refine(insertion b cap lo hi L _ hL HC.out hlh hhi).mono ?_
 rintro e1 w1 ⟨rfl,hM⟩
 go_wp2
 go_end0
 exact⟨rfl,hM⟩
end S32
namespace S32
theorem set_reads {w:World} {b i j:Nat} {x y:Value} (hi:w.cell? ⟨b,i,none⟩=some x) (hj:w.cell? ⟨b,j,none⟩=some y):(w.setCell ⟨b,i,none⟩ y).cell? ⟨b,j,none⟩=some y:=by
 by_cases e:i=j
 ·subst e;exact World.cell?_setCell_same' _ _ _ (by rw[hi];rfl)
 ·rw[World.cell?_setCell_other _ _ _ _ (by intro z;injection z with _ z;exact e z)];exact hj
structure Part (a e:Nat) (p:Int) (L M:List Int) (i j:Nat):Prop where
 sw:Sw a e L M
 i1:a+1≤i
 ij:i≤j+1
 je:j<e
 pa:M.getD a 0=p
 lt:∀k,a+1≤k→k<i→M.getD k 0<p
 ge:∀k,j<k→k<e→p≤M.getD k 0
section
variable {a e:Nat} {p:Int} {L M:List Int} {i j:Nat}
theorem Part.len (h:Part a e p L M i j):M.length=L.length:=h.sw.len
theorem Part.incI (h:Part a e p L M i j) (hij:i≤j) (hx:M.getD i 0<p):Part a e p L M (i+1) j:=
 ⟨h.sw,by have:=h.i1;omega,by omega,h.je,h.pa,fun k h1 h2=>by
  by_cases q:k=i
  ·subst q;exact hx
  ·exact h.lt k h1 (by omega),h.ge⟩
theorem Part.decJ (h:Part a e p L M i j) (hij:i≤j) (hx:p≤M.getD j 0):Part a e p L M i (j-1):=
 ⟨h.sw,h.i1,by have:=h.i1;omega,by have:=h.je;omega,h.pa,h.lt,fun k h1 h2=>by
  by_cases q:k=j
  ·subst q;exact hx
  ·exact h.ge k (by omega) h2⟩
theorem Part.swap (h:Part a e p L M i j) (he:e≤L.length) (hij:i≤j) (hx:p≤M.getD i 0) (hy:M.getD j 0<p):Part a e p L (swapL M i j) (i+1) (j-1):=by
 have hne:i≠j:=by intro q;subst q;omega
 have i1:=h.i1
 have je:=h.je
 have g:=fun k=>swapL_at M i j k (by rw[h.len];omega) (by rw[h.len];omega)
 refine⟨h.sw.step i j (by omega) (by omega) (by omega) (by omega),by omega,by omega,by omega,?_,fun k h1 h2=>?_,fun k h1 h2=>?_⟩
 ·rw[g,if_neg (by omega),if_neg (by omega)];exact h.pa
 ·rw[g,if_neg (by omega)]
  split
  ·exact hy
  ·exact h.lt k h1 (by omega)
 ·rw[g]
  split
  ·exact hx
  ·rw[if_neg (by omega)];exact h.ge k (by omega) h2
theorem Part.start (hae:a<e) (he:e≤L.length) (q:Nat) (h1:a≤q) (h2:q<e):Part a e (L.getD q 0) L (swapL L a q) (a+1) (e-1):=
 ⟨Sw.refl.step a q (Nat.le_refl _) hae h1 h2,Nat.le_refl _,by omega,by omega,by
  rw[swapL_at _ _ _ _ (by omega) (by omega)]
  split
  ·rename_i h;rw[h]
  ·rw[if_pos rfl],fun k h1 h2=>by omega,fun k h1 h2=>by omega⟩
structure Parted (a e m:Nat) (L M:List Int):Prop where
 sw:Sw a e L M
 am:a≤m
 me:m<e
 lo:∀k,a≤k→k<m→M.getD k 0≤M.getD m 0
 hi:∀k,m<k→k<e→M.getD m 0≤M.getD k 0
theorem Part.fin (h:Part a e p L M i j) (he:e≤L.length) (hij:j<i):Parted a e j L (swapL M j a):=by
 have i1:=h.i1
 have je:=h.je
 have ij:=h.ij
 have g:=fun k=>swapL_at M j a k (by rw[h.len];omega) (by rw[h.len];omega)
 have gj:(swapL M j a).getD j 0=p:=by
  rw[g]
  split
  ·rename_i q;rw[q];exact h.pa
  ·rw[if_pos rfl];exact h.pa
 refine⟨h.sw.step j a (by omega) (by omega) (by omega) (by omega),by omega,je,fun k h1 h2=>?_,fun k h1 h2=>?_⟩
 ·rw[gj,g]
  split
  ·have:=h.lt j (by omega) (by omega);omega
  ·rw[if_neg (by omega)]
   have:=h.lt k (by omega) (by omega);omega
 ·rw[gj,g,if_neg (by omega),if_neg (by omega)]
  exact h.ge k (by omega) h2
end
def PRel (w0:World) (b a e:Nat) (p:Int) (L:List Int) (x y:Value) (w:World):Prop:=∃(i j:Nat) (M:List Int),x=.int .i64 i∧y=.int .i64 j∧Row w0 w b M∧Part a e p L M i j
def PRel1 (w0:World) (b a e j i0:Nat) (p:Int) (L:List Int) (x:Value) (w:World):Prop:=∃(i:Nat) (M:List Int),i0≤i∧x=.int .i64 i∧Row w0 w b M∧Part a e p L M i j
def PRel1e (w0:World) (b a e j i0:Nat) (p:Int) (L:List Int) (x:Value) (w:World):Prop:=∃(i:Nat) (M:List Int),i0≤i∧x=.int .i64 i∧Row w0 w b M∧Part a e p L M i j∧(i≤j→p≤M.getD i 0)
def PRel2 (w0:World) (b a e i:Nat) (p:Int) (L:List Int) (y:Value) (w:World):Prop:=∃(j:Nat) (M:List Int),y=.int .i64 j∧Row w0 w b M∧Part a e p L M i j∧(i≤j→p≤M.getD i 0)
def PRel2e (w0:World) (b a e i:Nat) (p:Int) (L:List Int) (y:Value) (w:World):Prop:=∃(j:Nat) (M:List Int),y=.int .i64 j∧Row w0 w b M∧Part a e p L M i j∧(i≤j→p≤M.getD i 0∧M.getD j 0<p)
def PartPost (w0:World) (b a e:Nat) (L:List Int) (r:Ending) (w:World):Prop:=∃(m:Nat) (f:Bool) (M:List Int),r=.returned (.tuple #[.int .i64 m,.bool f])∧Row w0 w b M∧Parted a e m L M
def PRelE (w0:World) (b a e:Nat) (p:Int) (L:List Int) (x y:Value) (w:World):Prop:=∃(i j:Nat) (M:List Int),x=.int .i64 i∧y=.int .i64 j∧Row w0 w b M∧Part a e p L M i j∧j<i
theorem partition_is (b cap a e q:Nat) (L:List Int) (w:World) (hL:L.length≤64) (h:CellsAt w b (vals L)) (hae:a<e) (he:e≤L.length) (h1:a≤q) (h2:q<e):
  Calls Tryz.prog 184 #[.slice (some ⟨b,0,none⟩) L.length cap,.int .i64 a,.int .i64 e,.int .i64 q] w (PartPost w b a e L):=by
 have ca:=val_cell h a (by omega)
 have cq:=val_cell h q (by omega)
 have hff:=h.2.1
 have hfb:=h.lt
 have HS:=qh (Row.start h)
 have HP0:=qh (Part.start hae he q h1 h2)
 obtain⟨p,hp⟩:∃p,L.getD q 0=p:=⟨_,rfl⟩
 obtain⟨x,hx⟩:∃x,L.getD a 0=x:=⟨_,rfl⟩
 rw[hp]at cq HP0
 rw[hx]at ca
 have HP:=qh hp;have HX:=qh hx
 obtain⟨j0,hj0⟩:∃j0:Nat,j0=e-1:=⟨_,rfl⟩
 rw[←hj0]at HP0
 have hje:(e:Int)-1=(j0:Int):=by omega
 have g1:(a:Int)<(L.length:Int):=by omega
 have g2:(q:Int)<(L.length:Int):=by omega
 have HJE:=qh hje
 have cz:=set_reads ca cq
 clear h hp hx hje
 go_enter Tryz.func184,Tryz.ntmps184
 go_wp2
 go_region
 have HR0:=qh ((HS.out.set2 a q (by omega) (by omega) x p HX.out HP.out).drew)
 generalize((w.setCell ⟨b,a,none⟩ (.int .i32 p)).setCell ⟨b,q,none⟩ (.int .i32 x)).drew=w1 at *
 clear ca cq hff hfb HS
 go_upto_block 0 with(fail)
 rw[HJE.out]
 obtain⟨i,hi⟩:∃i,a+1=i:=⟨_,rfl⟩
 obtain⟨j,hj⟩:∃j,j0=j:=⟨_,rfl⟩
 obtain⟨M,hM⟩:∃M,swapL L a q=M:=⟨_,rfl⟩
 rw[hi,hj,hM]at HP0
 rw[hM]at HR0
 have hic:(a:Int)+1=(i:Int):=by omega
 rw[hic,hj]
 have HR:=HR0;have HPT:=HP0
 clear hi hj hM hic HR0 HP0 HX HP HJE hj0
 go_upto_block 0 with(fail)
 go_cut [10] (fun x wx=>PRel1e w b a e j i p L x wx)
 case first=>
  go_wp2_with fail
  go_loopw [10] (fun x wx=>PRel1 w b a e j i p L x wx) (fun x _=>e+1-(intOf x).toNat)
  case atStart=>exact⟨i,M,Nat.le_refl _,rfl,HR.out,HPT.out⟩
  case round=>
   obtain⟨i,M,hi0,rfl,hR,hP⟩:=hrel
   clear HR HPT
   have HR:=qh hR;have HPT:=qh hP
   have hi1:=hP.i1;have hij:=hP.ij;have hje:=hP.je;have hml:=hP.len
   have HML:=qh hml
   clear hR hP hml
   by_cases hlt:i≤j
   ·have c1:=val_cell HR.out.c i (by have:=HML.out;omega)
    have c2:=val_cell HR.out.c a (by have:=HML.out;omega)
    rw[HPT.out.pa]at c2
    obtain⟨x,hx⟩:∃x,M.getD i 0=x:=⟨_,rfl⟩
    rw[hx]at c1
    have HX:=qh hx
    have g5:(i:Int)<(L.length:Int):=by omega
    clear hx
    by_cases hxp:x<p
    ·go_wp2
     go_quiet ((go_at_call 182;exact quietL (less x p _)))
     go_wp2
     go_round
     case rel=>exact⟨i+1,M,by omega,by go_num,HR.out.drewN _,HPT.out.incI hlt (by rw[HX.out];exact hxp)⟩
     case measure=>simp[intOf];omega
    ·go_wp2
     go_quiet ((go_at_call 182;exact quietL (less x p _)))
     go_wp2
     go_meet
     exact⟨i,M,hi0,rfl,HR.out.drewN _,HPT.out,fun _=>by rw[HX.out];omega⟩
   ·go_wp2
    go_region
    go_wp2
    go_meet
    exact⟨i,M,hi0,rfl,HR.out.drew,HPT.out,fun h=>absurd h hlt⟩
 case rest=>
  obtain⟨i,M,hi0,rfl,hR,hP,hE⟩:=hcut
  clear HR HPT
  have HR:=qh hR;have HPT:=qh hP;have HE:=qh hE
  have hi1:=hP.i1;have hij:=hP.ij;have hje:=hP.je
  clear hR hP hE
  go_upto_block 2 with(fail)
  go_cut [11] (fun y wx=>PRel2e w b a e i p L y wx)
  case first=>
   go_wp2_with fail
   go_loopw [11] (fun y wx=>PRel2 w b a e i p L y wx) (fun y _=>(intOf y).toNat)
   case atStart=>exact⟨j,M,rfl,HR.out,HPT.out,HE.out⟩
   case round=>
    obtain⟨j,M,rfl,hR,hP,hE⟩:=hrel
    clear HR HPT HE
    have HR:=qh hR;have HPT:=qh hP;have HE:=qh hE
    have hi1:=hP.i1;have hij:=hP.ij;have hje:=hP.je;have hml:=hP.len
    have HML:=qh hml
    clear hR hP hE hml
    by_cases hlt:i≤j
    ·have c1:=val_cell HR.out.c j (by have:=HML.out;omega)
     have c2:=val_cell HR.out.c a (by have:=HML.out;omega)
     rw[HPT.out.pa]at c2
     obtain⟨x,hx⟩:∃x,M.getD j 0=x:=⟨_,rfl⟩
     rw[hx]at c1
     have HX:=qh hx
     have g5:(j:Int)<(L.length:Int):=by omega
     clear hx
     by_cases hxp:x<p
     ·have hd:decide (x<p)=true:=decide_eq_true hxp
      go_wp2
      go_quiet ((go_at_call 182;exact quietL (less x p _)))
      go_wp2
      go_meet
      exact⟨j,M,rfl,HR.out.drewN _,HPT.out,fun h=>⟨HE.out h,by rw[HX.out];exact hxp⟩⟩
     ·have hd:decide (x<p)=false:=decide_eq_false hxp
      go_wp2
      go_quiet ((go_at_call 182;exact quietL (less x p _)))
      go_wp2
      go_round
      case rel=>exact⟨j-1,M,by first|go_num|(congr 1;omega),HR.out.drewN _,HPT.out.decJ hlt (by rw[HX.out];omega),fun h=>HE.out hlt⟩
      case measure=>simp[intOf];omega
    ·go_wp2
     go_region
     go_wp2
     go_meet
     exact⟨j,M,rfl,HR.out.drew,HPT.out,fun h=>absurd h hlt⟩
  case rest=>
   obtain⟨j,M,rfl,hR,hP,hE⟩:=hcut
   clear HR HPT HE
   have HR:=qh hR;have HPT:=qh hP;have HE:=qh hE
   have hi1:=hP.i1;have hij:=hP.ij;have hje:=hP.je;have hml:=hP.len
   have HML:=qh hml
   clear hR hP hE hml
   by_cases hlt:j<i
   ·have c1:=val_cell HR.out.c j (by have:=HML.out;omega)
    have c2:=val_cell HR.out.c a (by have:=HML.out;omega)
    rw[HPT.out.pa]at c2
    obtain⟨y,hy⟩:∃y,M.getD j 0=y:=⟨_,rfl⟩
    rw[hy]at c1
    have HY:=qh hy
    have cz:=set_reads c1 c2
    have hff:=HR.out.c.2.1
    have hfb:=HR.out.c.lt
    have g5:(j:Int)<(L.length:Int):=by omega
    clear hy
    go_wp2
    go_region
    go_wp2
    go_ret2
    exact⟨j,true,swapL M j a,rfl,by first|exact(HR.out.set2 j a (by have:=HML.out;omega) (by have:=HML.out;omega) y p HY.out HPT.out.pa).drew|exact HR.out.set2 j a (by have:=HML.out;omega) (by have:=HML.out;omega) y p HY.out HPT.out.pa,HPT.out.fin he hlt⟩
   ·have hlt':i≤j:=by omega
    have c1:=val_cell HR.out.c i (by have:=HML.out;omega)
    have c2:=val_cell HR.out.c j (by have:=HML.out;omega)
    obtain⟨x,hx⟩:∃x,M.getD i 0=x:=⟨_,rfl⟩
    obtain⟨y,hy⟩:∃y,M.getD j 0=y:=⟨_,rfl⟩
    rw[hx]at c1
    rw[hy]at c2
    have HX:=qh hx;have HY:=qh hy
    have cz:=set_reads c1 c2
    have hff:=HR.out.c.2.1
    have hfb:=HR.out.c.lt
    have g5:(j:Int)<(L.length:Int):=by omega
    have g6:(i:Int)<(L.length:Int):=by omega
    have hne:i≠j:=by intro q;subst q;have:=HE.out (Nat.le_refl _);omega
    clear hx hy
    go_wp2
    go_region
    go_upto_block 4 with(fail)
    have HR':Hid (Row w _ b (swapL M i j)):=(by first|exact(HR.out.set2 i j (by have:=HML.out;omega) (by have:=HML.out;omega) x y HX.out HY.out).drew|exact HR.out.set2 i j (by have:=HML.out;omega) (by have:=HML.out;omega) x y HX.out HY.out:Row w _ b (swapL M i j))
    have HPT':=qh (HPT.out.swap he hlt' (HE.out hlt').1 (HE.out hlt').2)
    clear HR HPT HE c1 c2 cz hff hfb HX HY
    go_cut [10,11] (fun x y wx=>PRelE w b a e p L x y wx)
    case first=>
     go_wp2_with fail
     go_loopw [10,11] (fun x y wx=>PRel w b a e p L x y wx) (fun x _ _=>e+1-(intOf x).toNat)
     case atStart=>exact⟨i+1,j-1,swapL M i j,by go_num,by first|go_num|(congr 1;omega),HR'.out,HPT'.out⟩
     case round=>
      obtain⟨i,j,M,rfl,rfl,hR,hP⟩:=hrel
      have hin:=hP.i1;have hjn:=hP.je
      clear HR' HPT' HML
      have HR:=qh hR;have HPT:=qh hP
      clear hR hP
      have hst:i≤i:=Nat.le_refl _
      go_upto_block 6 with(fail)
      go_cut [10] (fun x wx=>PRel1e w b a e j i p L x wx)
      case first=>
       go_wp2_with fail
       go_loopw [10] (fun x wx=>PRel1 w b a e j i p L x wx) (fun x _=>e+1-(intOf x).toNat)
       case atStart=>exact⟨i,M,Nat.le_refl _,rfl,HR.out,HPT.out⟩
       case round=>
        obtain⟨i,M,hi0,rfl,hR,hP⟩:=hrel
        clear HR HPT
        have HR:=qh hR;have HPT:=qh hP
        have hi1:=hP.i1;have hij:=hP.ij;have hje:=hP.je;have hml:=hP.len
        have HML:=qh hml
        clear hR hP hml
        by_cases hlt:i≤j
        ·have c1:=val_cell HR.out.c i (by have:=HML.out;omega)
         have c2:=val_cell HR.out.c a (by have:=HML.out;omega)
         rw[HPT.out.pa]at c2
         obtain⟨x,hx⟩:∃x,M.getD i 0=x:=⟨_,rfl⟩
         rw[hx]at c1
         have HX:=qh hx
         have g5:(i:Int)<(L.length:Int):=by omega
         clear hx
         by_cases hxp:x<p
         ·go_wp2
          go_quiet ((go_at_call 182;exact quietL (less x p _)))
          go_wp2
          go_round
          case rel=>exact⟨i+1,M,by omega,by go_num,HR.out.drewN _,HPT.out.incI hlt (by rw[HX.out];exact hxp)⟩
          case measure=>simp[intOf];omega
         ·go_wp2
          go_quiet ((go_at_call 182;exact quietL (less x p _)))
          go_wp2
          go_meet
          exact⟨i,M,hi0,rfl,HR.out.drewN _,HPT.out,fun _=>by rw[HX.out];omega⟩
        ·go_wp2
         go_region
         go_wp2
         go_meet
         exact⟨i,M,hi0,rfl,HR.out.drew,HPT.out,fun h=>absurd h hlt⟩
      case rest=>
       obtain⟨i,M,hi0,rfl,hR,hP,hE⟩:=hcut
       clear HR HPT
       have HR:=qh hR;have HPT:=qh hP;have HE:=qh hE
       have hi1:=hP.i1;have hij:=hP.ij;have hje:=hP.je
       clear hR hP hE
       go_upto_block 8 with(fail)
       go_cut [11] (fun y wx=>PRel2e w b a e i p L y wx)
       case first=>
        go_wp2_with fail
        go_loopw [11] (fun y wx=>PRel2 w b a e i p L y wx) (fun y _=>(intOf y).toNat)
        case atStart=>exact⟨j,M,rfl,HR.out,HPT.out,HE.out⟩
        case round=>
         obtain⟨j,M,rfl,hR,hP,hE⟩:=hrel
         clear HR HPT HE
         have HR:=qh hR;have HPT:=qh hP;have HE:=qh hE
         have hi1:=hP.i1;have hij:=hP.ij;have hje:=hP.je;have hml:=hP.len
         have HML:=qh hml
         clear hR hP hE hml
         by_cases hlt:i≤j
         ·have c1:=val_cell HR.out.c j (by have:=HML.out;omega)
          have c2:=val_cell HR.out.c a (by have:=HML.out;omega)
          rw[HPT.out.pa]at c2
          obtain⟨x,hx⟩:∃x,M.getD j 0=x:=⟨_,rfl⟩
          rw[hx]at c1
          have HX:=qh hx
          have g5:(j:Int)<(L.length:Int):=by omega
          clear hx
          by_cases hxp:x<p
          ·have hd:decide (x<p)=true:=decide_eq_true hxp
           go_wp2
           go_quiet ((go_at_call 182;exact quietL (less x p _)))
           go_wp2
           go_meet
           exact⟨j,M,rfl,HR.out.drewN _,HPT.out,fun h=>⟨HE.out h,by rw[HX.out];exact hxp⟩⟩
          ·have hd:decide (x<p)=false:=decide_eq_false hxp
           go_wp2
           go_quiet ((go_at_call 182;exact quietL (less x p _)))
           go_wp2
           go_round
           case rel=>exact⟨j-1,M,by first|go_num|(congr 1;omega),HR.out.drewN _,HPT.out.decJ hlt (by rw[HX.out];omega),fun h=>HE.out hlt⟩
           case measure=>simp[intOf];omega
         ·go_wp2
          go_region
          go_wp2
          go_meet
          exact⟨j,M,rfl,HR.out.drew,HPT.out,fun h=>absurd h hlt⟩
       case rest=>
        obtain⟨j,M,rfl,hR,hP,hE⟩:=hcut
        clear HR HPT HE
        have HR:=qh hR;have HPT:=qh hP;have HE:=qh hE
        have hi1:=hP.i1;have hij:=hP.ij;have hje:=hP.je;have hml:=hP.len
        have HML:=qh hml
        clear hR hP hE hml
        by_cases hlt:j<i
        ·go_wp2
         go_meet
         exact⟨i,j,M,rfl,rfl,HR.out,HPT.out,hlt⟩
        ·have hlt':i≤j:=by omega
         have c1:=val_cell HR.out.c i (by have:=HML.out;omega)
         have c2:=val_cell HR.out.c j (by have:=HML.out;omega)
         obtain⟨x,hx⟩:∃x,M.getD i 0=x:=⟨_,rfl⟩
         obtain⟨y,hy⟩:∃y,M.getD j 0=y:=⟨_,rfl⟩
         rw[hx]at c1
         rw[hy]at c2
         have HX:=qh hx;have HY:=qh hy
         have cz:=set_reads c1 c2
         have hff:=HR.out.c.2.1
         have hfb:=HR.out.c.lt
         have g5:(j:Int)<(L.length:Int):=by omega
         have g6:(i:Int)<(L.length:Int):=by omega
         have hne:i≠j:=by intro q;subst q;have:=HE.out (Nat.le_refl _);omega
         clear hx hy
         go_wp2
         go_region
         go_wp2
         go_round
         case rel=>exact⟨i+1,j-1,swapL M i j,by go_num,by first|go_num|(congr 1;omega),by first|exact(HR.out.set2 i j (by have:=HML.out;omega) (by have:=HML.out;omega) x y HX.out HY.out).drew|exact HR.out.set2 i j (by have:=HML.out;omega) (by have:=HML.out;omega) x y HX.out HY.out,HPT.out.swap he hlt' (HE.out hlt').1 (HE.out hlt').2⟩
         case measure=>simp[intOf];omega
    case rest=>
     obtain⟨i,j,M,rfl,rfl,hR,hP,hlt⟩:=hcut
     clear HR' HPT'
     have HR:=qh hR;have HPT:=qh hP
     have hi1:=hP.i1;have hij:=hP.ij;have hje:=hP.je;have hml:=hP.len
     clear HML
     have HML:=qh hml
     clear hR hP hml
     have c1:=val_cell HR.out.c j (by have:=HML.out;omega)
     have c2:=val_cell HR.out.c a (by have:=HML.out;omega)
     rw[HPT.out.pa]at c2
     obtain⟨y,hy⟩:∃y,M.getD j 0=y:=⟨_,rfl⟩
     rw[hy]at c1
     have HY:=qh hy
     have cz:=set_reads c1 c2
     have hff:=HR.out.c.2.1
     have hfb:=HR.out.c.lt
     have g5:(j:Int)<(L.length:Int):=by omega
     clear hy
     go_wp2
     go_region
     go_wp2
     go_ret2
     exact⟨j,false,swapL M j a,rfl,by first|exact(HR.out.set2 j a (by have:=HML.out;omega) (by have:=HML.out;omega) y p HY.out HPT.out.pa).drew|exact HR.out.set2 j a (by have:=HML.out;omega) (by have:=HML.out;omega) y p HY.out HPT.out.pa,HPT.out.fin he hlt⟩
end S32
namespace S32
structure ParE (a e:Nat) (p:Int) (L M:List Int) (i j:Nat):Prop where
 sw:Sw a e L M
 i1:a+1≤i
 ij:i≤j+1
 je:j<e
 pa:M.getD a 0=p
 lt:∀k,a+1≤k→k<i→M.getD k 0≤p
 ge:∀k,j<k→k<e→p<M.getD k 0
section
variable {a e:Nat} {p:Int} {L M:List Int} {i j:Nat}
theorem ParE.len (h:ParE a e p L M i j):M.length=L.length:=h.sw.len
theorem ParE.incI (h:ParE a e p L M i j) (hij:i≤j) (hx:M.getD i 0≤p):ParE a e p L M (i+1) j:=
 ⟨h.sw,by have:=h.i1;omega,by omega,h.je,h.pa,fun k h1 h2=>by
  by_cases q:k=i
  ·subst q;exact hx
  ·exact h.lt k h1 (by omega),h.ge⟩
theorem ParE.decJ (h:ParE a e p L M i j) (hij:i≤j) (hx:p<M.getD j 0):ParE a e p L M i (j-1):=
 ⟨h.sw,h.i1,by have:=h.i1;omega,by have:=h.je;omega,h.pa,h.lt,fun k h1 h2=>by
  by_cases q:k=j
  ·subst q;exact hx
  ·exact h.ge k (by omega) h2⟩
theorem ParE.swap (h:ParE a e p L M i j) (he:e≤L.length) (hij:i≤j) (hx:p<M.getD i 0) (hy:M.getD j 0≤p):ParE a e p L (swapL M i j) (i+1) (j-1):=by
 have hne:i≠j:=by intro q;subst q;omega
 have i1:=h.i1
 have je:=h.je
 have g:=fun k=>swapL_at M i j k (by rw[h.len];omega) (by rw[h.len];omega)
 refine⟨h.sw.step i j (by omega) (by omega) (by omega) (by omega),by omega,by omega,by omega,?_,fun k h1 h2=>?_,fun k h1 h2=>?_⟩
 ·rw[g,if_neg (by omega),if_neg (by omega)];exact h.pa
 ·rw[g,if_neg (by omega)]
  split
  ·exact hy
  ·exact h.lt k h1 (by omega)
 ·rw[g]
  split
  ·exact hx
  ·rw[if_neg (by omega)];exact h.ge k (by omega) h2
theorem ParE.start (hae:a<e) (he:e≤L.length) (q:Nat) (h1:a≤q) (h2:q<e):ParE a e (L.getD q 0) L (swapL L a q) (a+1) (e-1):=
 ⟨Sw.refl.step a q (Nat.le_refl _) hae h1 h2,Nat.le_refl _,by omega,by omega,by
  rw[swapL_at _ _ _ _ (by omega) (by omega)]
  split
  ·rename_i h;rw[h]
  ·rw[if_pos rfl],fun k h1 h2=>by omega,fun k h1 h2=>by omega⟩
structure PartedE (a e m:Nat) (p:Int) (L M:List Int):Prop where
 sw:Sw a e L M
 am:a<m
 me:m≤e
 lo:∀k,a≤k→k<m→M.getD k 0≤p
 hi:∀k,m≤k→k<e→p<M.getD k 0
theorem ParE.fin (h:ParE a e p L M i j) (hij:j<i):PartedE a e i p L M:=by
 have i1:=h.i1
 have je:=h.je
 have ij:=h.ij
 refine⟨h.sw,by omega,by omega,fun k h1 h2=>?_,fun k h1 h2=>h.ge k (by omega) h2⟩
 by_cases q:k=a
 ·subst q;rw[h.pa];exact Int.le_refl _
 ·exact h.lt k (by omega) h2
end
def ERel (w0:World) (b a e:Nat) (p:Int) (L:List Int) (x y:Value) (w:World):Prop:=∃(i j:Nat) (M:List Int),x=.int .i64 i∧y=.int .i64 j∧Row w0 w b M∧ParE a e p L M i j
def ERelE (w0:World) (b a e:Nat) (p:Int) (L:List Int) (x y:Value) (w:World):Prop:=∃(i j:Nat) (M:List Int),x=.int .i64 i∧y=.int .i64 j∧Row w0 w b M∧ParE a e p L M i j∧j<i
def ERel1 (w0:World) (b a e j i0:Nat) (p:Int) (L:List Int) (x:Value) (w:World):Prop:=∃(i:Nat) (M:List Int),i0≤i∧x=.int .i64 i∧Row w0 w b M∧ParE a e p L M i j
def ERel1e (w0:World) (b a e j i0:Nat) (p:Int) (L:List Int) (x:Value) (w:World):Prop:=∃(i:Nat) (M:List Int),i0≤i∧x=.int .i64 i∧Row w0 w b M∧ParE a e p L M i j∧(i≤j→p<M.getD i 0)
def ERel2 (w0:World) (b a e i:Nat) (p:Int) (L:List Int) (y:Value) (w:World):Prop:=∃(j:Nat) (M:List Int),y=.int .i64 j∧Row w0 w b M∧ParE a e p L M i j∧(i≤j→p<M.getD i 0)
def ERel2e (w0:World) (b a e i:Nat) (p:Int) (L:List Int) (y:Value) (w:World):Prop:=∃(j:Nat) (M:List Int),y=.int .i64 j∧Row w0 w b M∧ParE a e p L M i j∧(i≤j→p<M.getD i 0∧M.getD j 0≤p)
def EPost (w0:World) (b a e:Nat) (p:Int) (L:List Int) (r:Ending) (w:World):Prop:=∃(m:Nat) (M:List Int),r=.returned (.int .i64 m)∧Row w0 w b M∧PartedE a e m p L M
theorem partitionEq_is (b cap a e q:Nat) (L:List Int) (w:World) (hL:L.length≤64) (h:CellsAt w b (vals L)) (hae:a<e) (he:e≤L.length) (h1:a≤q) (h2:q<e):
  Calls Tryz.prog 183 #[.slice (some ⟨b,0,none⟩) L.length cap,.int .i64 a,.int .i64 e,.int .i64 q] w (EPost w b a e (L.getD q 0) L):=by
 have ca:=val_cell h a (by omega)
 have cq:=val_cell h q (by omega)
 have hff:=h.2.1
 have hfb:=h.lt
 have HS:=qh (Row.start h)
 have HP0:=qh (ParE.start hae he q h1 h2)
 obtain⟨p,hp⟩:∃p,L.getD q 0=p:=⟨_,rfl⟩
 obtain⟨x,hx⟩:∃x,L.getD a 0=x:=⟨_,rfl⟩
 rw[hp]at cq HP0⊢
 rw[hx]at ca
 have HP:=qh hp;have HX:=qh hx
 obtain⟨j0,hj0⟩:∃j0:Nat,j0=e-1:=⟨_,rfl⟩
 rw[←hj0]at HP0
 have hje:(e:Int)-1=(j0:Int):=by omega
 have g1:(a:Int)<(L.length:Int):=by omega
 have g2:(q:Int)<(L.length:Int):=by omega
 have HJE:=qh hje
 have cz:=set_reads ca cq
 clear h hp hx hje
 go_enter Tryz.func183,Tryz.ntmps183
 go_wp2
 go_region
 have HR0:=qh ((HS.out.set2 a q (by omega) (by omega) x p HX.out HP.out).drew)
 generalize((w.setCell ⟨b,a,none⟩ (.int .i32 p)).setCell ⟨b,q,none⟩ (.int .i32 x)).drew=w1 at *
 clear ca cq hff hfb HS
 go_upto_block 0 with(fail)
 rw[HJE.out]
 obtain⟨i,hi⟩:∃i,a+1=i:=⟨_,rfl⟩
 obtain⟨j,hj⟩:∃j,j0=j:=⟨_,rfl⟩
 obtain⟨M,hM⟩:∃M,swapL L a q=M:=⟨_,rfl⟩
 rw[hi,hj,hM]at HP0
 rw[hM]at HR0
 have hic:(a:Int)+1=(i:Int):=by omega
 rw[hic,hj]
 have HR':=HR0;have HPT':=HP0
 clear hi hj hM hic HR0 HP0 HX HP HJE hj0
 go_cut [9,10] (fun x y wx=>ERelE w b a e p L x y wx)
 case first=>
  go_wp2_with fail
  go_loopw [9,10] (fun x y wx=>ERel w b a e p L x y wx) (fun x _ _=>e+1-(intOf x).toNat)
  case atStart=>exact⟨i,j,M,rfl,rfl,HR'.out,HPT'.out⟩
  case round=>
   obtain⟨i,j,M,rfl,rfl,hR,hP⟩:=hrel
   have hin:=hP.i1;have hjn:=hP.je
   clear HR' HPT'
   have HR:=qh hR;have HPT:=qh hP
   clear hR hP
   go_upto_block 2 with(fail)
   go_cut [9] (fun x wx=>ERel1e w b a e j i p L x wx)
   case first=>
    go_wp2_with fail
    go_loopw [9] (fun x wx=>ERel1 w b a e j i p L x wx) (fun x _=>e+1-(intOf x).toNat)
    case atStart=>exact⟨i,M,Nat.le_refl _,rfl,HR.out,HPT.out⟩
    case round=>
     obtain⟨i,M,hi0,rfl,hR,hP⟩:=hrel
     clear HR HPT
     have HR:=qh hR;have HPT:=qh hP
     have hi1:=hP.i1;have hij:=hP.ij;have hje:=hP.je;have hml:=hP.len
     have HML:=qh hml
     clear hR hP hml
     by_cases hlt:i≤j
     ·have c1:=val_cell HR.out.c i (by have:=HML.out;omega)
      have c2:=val_cell HR.out.c a (by have:=HML.out;omega)
      rw[HPT.out.pa]at c2
      obtain⟨x,hx⟩:∃x,M.getD i 0=x:=⟨_,rfl⟩
      rw[hx]at c1
      have HX:=qh hx
      have g5:(i:Int)<(L.length:Int):=by omega
      clear hx
      by_cases hxp:p<x
      ·have hd:decide (p<x)=true:=decide_eq_true hxp
       go_wp2
       go_quiet ((go_at_call 182;exact quietL (less p x _)))
       go_wp2
       go_meet
       exact⟨i,M,hi0,rfl,HR.out.drewN _,HPT.out,fun _=>by rw[HX.out];omega⟩
      ·have hd:decide (p<x)=false:=decide_eq_false hxp
       go_wp2
       go_quiet ((go_at_call 182;exact quietL (less p x _)))
       go_wp2
       go_round
       case rel=>exact⟨i+1,M,by omega,by go_num,HR.out.drewN _,HPT.out.incI hlt (by rw[HX.out];omega)⟩
       case measure=>simp[intOf];omega
     ·go_wp2
      go_region
      go_wp2
      go_meet
      exact⟨i,M,hi0,rfl,HR.out.drew,HPT.out,fun h=>absurd h hlt⟩
   case rest=>
    obtain⟨i,M,hi0,rfl,hR,hP,hE⟩:=hcut
    clear HR HPT
    have HR:=qh hR;have HPT:=qh hP;have HE:=qh hE
    have hi1:=hP.i1;have hij:=hP.ij;have hje:=hP.je
    clear hR hP hE
    go_upto_block 4 with(fail)
    go_cut [10] (fun y wx=>ERel2e w b a e i p L y wx)
    case first=>
     go_wp2_with fail
     go_loopw [10] (fun y wx=>ERel2 w b a e i p L y wx) (fun y _=>(intOf y).toNat)
     case atStart=>exact⟨j,M,rfl,HR.out,HPT.out,HE.out⟩
     case round=>
      obtain⟨j,M,rfl,hR,hP,hE⟩:=hrel
      clear HR HPT HE
      have HR:=qh hR;have HPT:=qh hP;have HE:=qh hE
      have hi1:=hP.i1;have hij:=hP.ij;have hje:=hP.je;have hml:=hP.len
      have HML:=qh hml
      clear hR hP hE hml
      by_cases hlt:i≤j
      ·have c1:=val_cell HR.out.c j (by have:=HML.out;omega)
       have c2:=val_cell HR.out.c a (by have:=HML.out;omega)
       rw[HPT.out.pa]at c2
       obtain⟨x,hx⟩:∃x,M.getD j 0=x:=⟨_,rfl⟩
       rw[hx]at c1
       have HX:=qh hx
       have g5:(j:Int)<(L.length:Int):=by omega
       clear hx
       by_cases hxp:p<x
       ·have hd:decide (p<x)=true:=decide_eq_true hxp
        go_wp2
        go_quiet ((go_at_call 182;exact quietL (less p x _)))
        go_wp2
        go_round
        case rel=>exact⟨j-1,M,by first|go_num|(congr 1;omega),HR.out.drewN _,HPT.out.decJ hlt (by rw[HX.out];omega),fun h=>HE.out hlt⟩
        case measure=>simp[intOf];omega
       ·have hd:decide (p<x)=false:=decide_eq_false hxp
        go_wp2
        go_quiet ((go_at_call 182;exact quietL (less p x _)))
        go_wp2
        go_meet
        exact⟨j,M,rfl,HR.out.drewN _,HPT.out,fun h=>⟨HE.out h,by rw[HX.out];omega⟩⟩
      ·go_wp2
       go_region
       go_wp2
       go_meet
       exact⟨j,M,rfl,HR.out.drew,HPT.out,fun h=>absurd h hlt⟩
    case rest=>
     obtain⟨j,M,rfl,hR,hP,hE⟩:=hcut
     clear HR HPT HE
     have HR:=qh hR;have HPT:=qh hP;have HE:=qh hE
     have hi1:=hP.i1;have hij:=hP.ij;have hje:=hP.je;have hml:=hP.len
     have HML:=qh hml
     clear hR hP hE hml
     by_cases hlt:j<i
     ·go_wp2
      go_meet
      exact⟨i,j,M,rfl,rfl,HR.out,HPT.out,hlt⟩
     ·have hlt':i≤j:=by omega
      have c1:=val_cell HR.out.c i (by have:=HML.out;omega)
      have c2:=val_cell HR.out.c j (by have:=HML.out;omega)
      obtain⟨x,hx⟩:∃x,M.getD i 0=x:=⟨_,rfl⟩
      obtain⟨y,hy⟩:∃y,M.getD j 0=y:=⟨_,rfl⟩
      rw[hx]at c1
      rw[hy]at c2
      have HX:=qh hx;have HY:=qh hy
      have cz:=set_reads c1 c2
      have hff:=HR.out.c.2.1
      have hfb:=HR.out.c.lt
      have g5:(j:Int)<(L.length:Int):=by omega
      have g6:(i:Int)<(L.length:Int):=by omega
      have hne:i≠j:=by intro q;subst q;have:=HE.out (Nat.le_refl _);omega
      clear hx hy
      go_wp2
      go_region
      go_wp2
      go_round
      case rel=>exact⟨i+1,j-1,swapL M i j,by go_num,by first|go_num|(congr 1;omega),by first|exact(HR.out.set2 i j (by have:=HML.out;omega) (by have:=HML.out;omega) x y HX.out HY.out).drew|exact HR.out.set2 i j (by have:=HML.out;omega) (by have:=HML.out;omega) x y HX.out HY.out,HPT.out.swap he hlt' (HE.out hlt').1 (HE.out hlt').2⟩
      case measure=>simp[intOf];omega
 case rest=>
  obtain⟨i,j,M,rfl,rfl,hR,hP,hlt⟩:=hcut
  have HR:=qh hR;have HPT:=qh hP
  clear HR' HPT' hR hP
  go_wp2
  go_ret
  exact⟨i,M,rfl,HR.out,HPT.out.fin hlt⟩
end S32
namespace S32
def Kid (k c:Nat):Prop:=c=2*k+1∨c=2*k+2
def Heap (f lo hi:Nat) (M:List Int):Prop:=∀k c,lo≤k→Kid k c→c<hi→M.getD (f+c) 0≤M.getD (f+k) 0
structure Sift (f lo hi:Nat) (M:List Int) (r:Nat):Prop where
 lr:lo≤r
 heap:∀k c,lo≤k→k≠r→Kid k c→c<hi→M.getD (f+c) 0≤M.getD (f+k) 0
 up:∀k c,lo≤k→Kid k r→Kid r c→c<hi→M.getD (f+c) 0≤M.getD (f+k) 0
theorem Sift.start {f lo hi:Nat} {M:List Int} (h:Heap f (lo+1) hi M):Sift f lo hi M lo:=
 ⟨Nat.le_refl _,fun k c h1 h2 h3 h4=>h k c (by omega) h3 h4,fun k c h1 h2 h3 h4=>by unfold Kid at h2;omega⟩
theorem Sift.fin {f lo hi:Nat} {M:List Int} {r:Nat} (h:Sift f lo hi M r) (hr:∀c,Kid r c→c<hi→M.getD (f+c) 0≤M.getD (f+r) 0):Heap f lo hi M:=by
 intro k c h1 h2 h3
 by_cases e:k=r
 ·subst e;exact hr c h2 h3
 ·exact h.heap k c h1 e h2 h3
theorem Sift.step {f lo hi:Nat} {M:List Int} {r c:Nat} (h:Sift f lo hi M r) (hl:f+hi≤M.length) (hc:Kid r c) (hch:c<hi) (hlt:M.getD (f+r) 0<M.getD (f+c) 0) (hbig:∀d,Kid r d→d<hi→M.getD (f+d) 0≤M.getD (f+c) 0):Sift f lo hi (swapL M (f+r) (f+c)) c:=by
 have hrc:r<c:=by unfold Kid at hc;omega
 have g:=fun k=>swapL_at M (f+r) (f+c) (f+k) (by omega) (by omega)
 have gr:(swapL M (f+r) (f+c)).getD (f+r) 0=M.getD (f+c) 0:=by rw[g,if_neg (by omega),if_pos rfl]
 have gc:(swapL M (f+r) (f+c)).getD (f+c) 0=M.getD (f+r) 0:=by rw[g,if_pos rfl]
 have go:∀k,k≠r→k≠c→(swapL M (f+r) (f+c)).getD (f+k) 0=M.getD (f+k) 0:=fun k h1 h2=>by rw[g,if_neg (by omega),if_neg (by omega)]
 have lr:=h.lr
 refine⟨by omega,fun k d h1 h2 h3 h4=>?_,fun k d h1 h2 h3 h4=>?_⟩
 ·by_cases k1:k=r
  ·subst k1
   rw[gr]
   by_cases d1:d=c
   ·subst d1;rw[gc];omega
   ·rw[go d (by unfold Kid at h3;omega) d1];exact hbig d h3 h4
  ·rw[go k k1 h2]
   by_cases d1:d=r
   ·subst d1;rw[gr];exact h.up k c h1 h3 hc hch
   ·by_cases d2:d=c
    ·exfalso;subst d2;unfold Kid at h3 hc;omega
    ·rw[go d d1 d2];exact h.heap k d h1 k1 h3 h4
 ·have k1:k=r:=by unfold Kid at h2 hc;omega
  subst k1
  rw[gr,go d (by unfold Kid at h3;omega) (by unfold Kid at h3;omega)]
  exact h.heap c d (by omega) (by omega) h3 h4
theorem big0 {f r c hi:Nat} {M:List Int} (hc:c=2*r+1) (h:hi≤c+1):∀d,Kid r d→d<hi→M.getD (f+d) 0≤M.getD (f+c) 0:=by
 intro d h1 h2
 unfold Kid at h1
 obtain rfl:d=c:=by omega
 exact Int.le_refl _
theorem big1 {f r c c1 hi:Nat} {M:List Int} {y z:Int} (hc:c=2*r+1) (hc1:c1=c+1) (hy:M.getD (f+c) 0=y) (hz:M.getD (f+c1) 0=z) (h:y<z):∀d,Kid r d→d<hi→M.getD (f+d) 0≤M.getD (f+c1) 0:=by
 intro d h1 h2
 unfold Kid at h1
 by_cases e:d=c
 ·subst e;rw[hy,hz];omega
 ·obtain rfl:d=c1:=by omega
  exact Int.le_refl _
theorem big2 {f r c c1 hi:Nat} {M:List Int} {y z:Int} (hc:c=2*r+1) (hc1:c1=c+1) (hy:M.getD (f+c) 0=y) (hz:M.getD (f+c1) 0=z) (h:¬y<z):∀d,Kid r d→d<hi→M.getD (f+d) 0≤M.getD (f+c) 0:=by
 intro d h1 h2
 unfold Kid at h1
 by_cases e:d=c1
 ·subst e;rw[hy,hz];omega
 ·obtain rfl:d=c:=by omega
  exact Int.le_refl _
def SRel (w0:World) (b f lo hi:Nat) (L:List Int) (x:Value) (w:World):Prop:=∃(r:Nat) (M:List Int),(r≤hi∧f+r<L.length)∧x=.int .i64 r∧Row w0 w b M∧Sw (f+lo) (f+hi) L M∧Sift f lo hi M r
def SPost (w0:World) (b f lo hi:Nat) (L:List Int) (e:Ending) (w:World):Prop:=e=.returned (.tuple #[])∧∃M,Row w0 w b M∧Sw (f+lo) (f+hi) L M∧Heap f lo hi M
theorem SPost.mk {w0 w:World} {b f lo hi:Nat} {L M:List Int} (h1:Row w0 w b M) (h2:Sw (f+lo) (f+hi) L M) (h3:Heap f lo hi M):SPost w0 b f lo hi L (.returned (.tuple #[])) w:=⟨rfl,M,h1,h2,h3⟩
theorem siftDown_is (b cap f lo hi:Nat) (L:List Int) (w:World) (hL:L.length≤64) (h:CellsAt w b (vals L)) (hlh:lo≤hi) (hf0:f+lo<L.length) (hf:f+hi≤L.length) (hh:Heap f (lo+1) hi L):
  Calls Tryz.prog 188 #[.slice (some ⟨b,0,none⟩) L.length cap,.int .i64 lo,.int .i64 hi,.int .i64 f] w (SPost w b f lo hi L):=by
 have HS:=qh (Row.start h)
 have HH:=qh (Sift.start hh)
 clear h hh
 go_enter Tryz.func188,Tryz.ntmps188
 go_wp2
 go_loopw [8] (fun x wr=>SRel w b f lo hi L x wr) (fun x _=>hi-(intOf x).toNat)
 case atStart=>exact⟨lo,L,⟨hlh,hf0⟩,rfl,HS.out,.refl,HH.out⟩
 case round=>
  obtain⟨r,M,⟨hrh,hrl⟩,rfl,hR,hS,hT⟩:=hrel
  have HR:=qh hR;have HSW:=qh hS;have HT:=qh hT
  have hml:=hS.len
  have HML:=qh hml
  have hlr:=hT.lr
  clear hR hS hT hml HS HH
  obtain⟨c,hc⟩:∃c:Nat,c=2*r+1:=⟨_,rfl⟩
  have hcI:2*(r:Int)+1=(c:Int):=by omega
  have HC:=qh hc;have HCI:=qh hcI
  have hrc:r<c:=by omega
  clear hc hcI
  have q1:=val_cell HR.out.c (f+r) (by have:=HML.out;omega)
  have hff:=HR.out.c.2.1
  have hfb:=HR.out.c.lt
  obtain⟨x,hx⟩:∃x,M.getD (f+r) 0=x:=⟨_,rfl⟩
  rw[hx]at q1
  have HX:=qh hx
  clear hx
  have e1:IntKind.i64.wrap ((f:Int)+(r:Int))=(f:Int)+(r:Int):=IntWalk.i64_in _ (by omega)
  have e2:((f:Int)+(r:Int)).toNat=f+r:=by omega
  have e3:(f:Int)+(r:Int)<(L.length:Int):=by omega
  have e4:(0:Int)≤(f:Int)+(r:Int):=by omega
  go_upto_region 2 with(fail)
  rw[HCI.out]
  by_cases hch:c<hi
  ·have q2:=val_cell HR.out.c (f+c) (by have:=HML.out;omega)
   obtain⟨y,hy⟩:∃y,M.getD (f+c) 0=y:=⟨_,rfl⟩
   rw[hy]at q2
   have HY:=qh hy
   clear hy
   by_cases hch2:c+1<hi
   ·obtain⟨c1,hc1⟩:∃c1,c1=c+1:=⟨_,rfl⟩
    have q3:=val_cell HR.out.c (f+c1) (by have:=HML.out;omega)
    obtain⟨z,hz⟩:∃z,M.getD (f+c1) 0=z:=⟨_,rfl⟩
    rw[hz]at q3
    have HZ:=qh hz
    have hcc:(c:Int)+1=(c1:Int):=by omega
    have HCC:=qh hcc
    have f1:IntKind.i64.wrap ((c:Int)+1)=(c:Int)+1:=IntWalk.i64_in _ (by omega)
    have f2:IntKind.i64.wrap ((f:Int)+(c:Int))=(f:Int)+(c:Int):=IntWalk.i64_in _ (by omega)
    have f3:((f:Int)+(c:Int)).toNat=f+c:=by omega
    have f4:(f:Int)+(c:Int)<(L.length:Int):=by omega
    have f5:(0:Int)≤(f:Int)+(c:Int):=by omega
    have f6:IntKind.i64.wrap ((f:Int)+(c:Int)+1)=(f:Int)+(c:Int)+1:=IntWalk.i64_in _ (by omega)
    have f7:((f:Int)+(c:Int)+1).toNat=f+c1:=by omega
    have f8:(f:Int)+(c:Int)+1<(L.length:Int):=by omega
    have f9:(0:Int)≤(f:Int)+(c:Int)+1:=by omega
    have f10:(c:Int)+1<(hi:Int):=by omega
    have HC1:=qh hc1
    clear hz hcc hc1
    by_cases hyz:y<z
    ·have hd0:decide (y<z)=true:=decide_eq_true hyz
     go_wp2
     go_quiet ((go_at_call 182;exact quietL (less y z _)))
     go_upto_region 5 with(fail)
     rw[HCC.out]
     clear f1 f2 f3 f4 f5 f6 f7 f8 f9 f10
     have hc1:c1<hi:=by have:=HCC.out;omega
     have hrc1:r<c1:=by have:=HCC.out;omega
     have e5:IntKind.i64.wrap ((f:Int)+(c1:Int))=(f:Int)+(c1:Int):=IntWalk.i64_in _ (by omega)
     have e6:((f:Int)+(c1:Int)).toNat=f+c1:=by omega
     have e7:(f:Int)+(c1:Int)<(L.length:Int):=by omega
     have e8:(0:Int)≤(f:Int)+(c1:Int):=by omega
     have cz:=set_reads q1 q3
     by_cases hxy:x<z
     ·have hd:decide (x<z)=true:=decide_eq_true hxy
      go_quiet ((go_at_call 182;first|exact quietL2 (less x z _)|exact quietL (less x z _)))
      go_wp2
      go_region
      go_wp2
      go_round
      case rel=>exact⟨c1,swapL M (f+r) (f+c1),⟨by omega,by omega⟩,rfl,by first|exact((HR.out.drewN _).set2 (f+r) (f+c1) (by have:=HML.out;omega) (by have:=HML.out;omega) x z HX.out HZ.out).drew|exact((HR.out.drewN _).set2 (f+r) (f+c1) (by have:=HML.out;omega) (by have:=HML.out;omega) x z HX.out HZ.out)|exact((HR.out.drew.drewN _).set2 (f+r) (f+c1) (by have:=HML.out;omega) (by have:=HML.out;omega) x z HX.out HZ.out).drew|exact((HR.out.drew.drewN _).set2 (f+r) (f+c1) (by have:=HML.out;omega) (by have:=HML.out;omega) x z HX.out HZ.out),HSW.out.step (f+r) (f+c1) (by omega) (by omega) (by omega) (by omega),HT.out.step (by have:=HML.out;omega) (by have:=HC.out;have:=HCC.out;unfold Kid;omega) (by omega) (by rw[HX.out,HZ.out];exact hxy) (big1 HC.out HC1.out HY.out HZ.out hyz)⟩
      case measure=>first|(simp[intOf];done)|(simp[intOf];omega)
     ·have hd:decide (x<z)=false:=decide_eq_false hxy
      go_quiet ((go_at_call 182;first|exact quietL2 (less x z _)|exact quietL (less x z _)))
      go_wp2
      go_end0
      exact SPost.mk (by first|exact HR.out.drewN _|exact HR.out.drew.drewN _) HSW.out (HT.out.fin (fun d h1 h2=>Int.le_trans ((show ∀d,Kid r d→d<hi→M.getD (f+d) 0≤M.getD (f+c1) 0 from big1 HC.out HC1.out HY.out HZ.out hyz) d h1 h2) (by rw[HX.out,HZ.out];omega)))
    ·have hd0:decide (y<z)=false:=decide_eq_false hyz
     go_wp2
     go_quiet ((go_at_call 182;exact quietL (less y z _)))
     go_upto_region 5 with(fail)
     clear f1 f2 f3 f4 f5 f6 f7 f8 f9 f10
     have e5:IntKind.i64.wrap ((f:Int)+(c:Int))=(f:Int)+(c:Int):=IntWalk.i64_in _ (by omega)
     have e6:((f:Int)+(c:Int)).toNat=f+c:=by omega
     have e7:(f:Int)+(c:Int)<(L.length:Int):=by omega
     have e8:(0:Int)≤(f:Int)+(c:Int):=by omega
     have cz:=set_reads q1 q2
     by_cases hxy:x<y
     ·have hd:decide (x<y)=true:=decide_eq_true hxy
      go_quiet ((go_at_call 182;first|exact quietL2 (less x y _)|exact quietL (less x y _)))
      go_wp2
      go_region
      go_wp2
      go_round
      case rel=>exact⟨c,swapL M (f+r) (f+c),⟨by omega,by omega⟩,rfl,by first|exact((HR.out.drewN _).set2 (f+r) (f+c) (by have:=HML.out;omega) (by have:=HML.out;omega) x y HX.out HY.out).drew|exact((HR.out.drewN _).set2 (f+r) (f+c) (by have:=HML.out;omega) (by have:=HML.out;omega) x y HX.out HY.out)|exact((HR.out.drew.drewN _).set2 (f+r) (f+c) (by have:=HML.out;omega) (by have:=HML.out;omega) x y HX.out HY.out).drew|exact((HR.out.drew.drewN _).set2 (f+r) (f+c) (by have:=HML.out;omega) (by have:=HML.out;omega) x y HX.out HY.out),HSW.out.step (f+r) (f+c) (by omega) (by omega) (by omega) (by omega),HT.out.step (by have:=HML.out;omega) (by have:=HC.out;unfold Kid;omega) (by omega) (by rw[HX.out,HY.out];exact hxy) (big2 HC.out HC1.out HY.out HZ.out (by omega))⟩
      case measure=>first|(simp[intOf];done)|(simp[intOf];omega)
     ·have hd:decide (x<y)=false:=decide_eq_false hxy
      go_quiet ((go_at_call 182;first|exact quietL2 (less x y _)|exact quietL (less x y _)))
      go_wp2
      go_end0
      exact SPost.mk (by first|exact HR.out.drewN _|exact HR.out.drew.drewN _) HSW.out (HT.out.fin (fun d h1 h2=>Int.le_trans ((show ∀d,Kid r d→d<hi→M.getD (f+d) 0≤M.getD (f+c) 0 from big2 HC.out HC1.out HY.out HZ.out (by omega)) d h1 h2) (by rw[HX.out,HY.out];omega)))
   ·have f10:decide ((c:Int)+1<(hi:Int))=false:=decide_eq_false (by omega)
    go_wp2
    go_region
    go_upto_region 5 with(fail)
    clear f10
    have e5:IntKind.i64.wrap ((f:Int)+(c:Int))=(f:Int)+(c:Int):=IntWalk.i64_in _ (by omega)
    have e6:((f:Int)+(c:Int)).toNat=f+c:=by omega
    have e7:(f:Int)+(c:Int)<(L.length:Int):=by omega
    have e8:(0:Int)≤(f:Int)+(c:Int):=by omega
    have cz:=set_reads q1 q2
    by_cases hxy:x<y
    ·have hd:decide (x<y)=true:=decide_eq_true hxy
     go_quiet ((go_at_call 182;first|exact quietL2 (less x y _)|exact quietL (less x y _)))
     go_wp2
     go_region
     go_wp2
     go_round
     case rel=>exact⟨c,swapL M (f+r) (f+c),⟨by omega,by omega⟩,rfl,by first|exact((HR.out.drewN _).set2 (f+r) (f+c) (by have:=HML.out;omega) (by have:=HML.out;omega) x y HX.out HY.out).drew|exact((HR.out.drewN _).set2 (f+r) (f+c) (by have:=HML.out;omega) (by have:=HML.out;omega) x y HX.out HY.out)|exact((HR.out.drew.drewN _).set2 (f+r) (f+c) (by have:=HML.out;omega) (by have:=HML.out;omega) x y HX.out HY.out).drew|exact((HR.out.drew.drewN _).set2 (f+r) (f+c) (by have:=HML.out;omega) (by have:=HML.out;omega) x y HX.out HY.out),HSW.out.step (f+r) (f+c) (by omega) (by omega) (by omega) (by omega),HT.out.step (by have:=HML.out;omega) (by have:=HC.out;unfold Kid;omega) (by omega) (by rw[HX.out,HY.out];exact hxy) (big0 HC.out (by omega))⟩
     case measure=>first|(simp[intOf];done)|(simp[intOf];omega)
    ·have hd:decide (x<y)=false:=decide_eq_false hxy
     go_quiet ((go_at_call 182;first|exact quietL2 (less x y _)|exact quietL (less x y _)))
     go_wp2
     go_end0
     exact SPost.mk (by first|exact HR.out.drewN _|exact HR.out.drew.drewN _) HSW.out (HT.out.fin (fun d h1 h2=>Int.le_trans ((show ∀d,Kid r d→d<hi→M.getD (f+d) 0≤M.getD (f+c) 0 from big0 HC.out (by omega)) d h1 h2) (by rw[HX.out,HY.out];omega)))
  ·have f10:(hi:Int)≤(c:Int):=by omega
   go_wp2
   go_end0
   exact SPost.mk HR.out HSW.out (HT.out.fin (fun d h1 h2=>by have:=HC.out;unfold Kid at h1;omega))
end S32
namespace S32
theorem heap_root {f k:Nat} {M:List Int} (h:Heap f 0 k M):∀p,p<k→M.getD (f+p) 0≤M.getD (f+0) 0:=by
 intro p
 induction p using Nat.strongRecOn with
 |ind p ih=>
  intro hp
  by_cases h0:p=0
  ·subst h0;exact Int.le_refl _
  ·exact Int.le_trans (h ((p-1)/2) p (Nat.zero_le _) (by unfold Kid;omega) hp) (ih ((p-1)/2) (by omega) (by omega))
structure Hs (f n k:Nat) (M:List Int):Prop where
 heap:Heap f 0 k M
 tail:∀p q,k≤p→p<q→q<n→M.getD (f+p) 0≤M.getD (f+q) 0
 over:∀p q,p<k→k≤q→q<n→M.getD (f+p) 0≤M.getD (f+q) 0
theorem Hs.start {f n:Nat} {M:List Int} (h:Heap f 0 n M):Hs f n n M:=⟨h,fun p q h1 h2 h3=>by omega,fun p q h1 h2 h3=>by omega⟩
theorem Hs.swapped {f n i:Nat} {M:List Int} (h:Hs f n (i+1) M) (hl:f+n≤M.length) (hi:i<n):Heap f 1 i (swapL M f (f+i)):=by
 intro k c h1 h2 h3
 have g:=fun k=>swapL_at M f (f+i) (f+k) (by omega) (by omega)
 rw[g,g,if_neg (by omega),if_neg (by unfold Kid at h2;omega),if_neg (by unfold Kid at h2;omega),if_neg (by omega)]
 exact h.heap k c (Nat.zero_le _) h2 (by omega)
theorem Hs.next {f n i:Nat} {M N:List Int} (h:Hs f n (i+1) M) (hl:f+n≤M.length) (hi:i<n) (hs:Sw (f+0) (f+i) (swapL M f (f+i)) N) (hh:Heap f 0 i N):Hs f n i N:=by
 have g:=fun k=>swapL_at M f (f+i) (f+k) (by omega) (by omega)
 have root:=heap_root h.heap
 have tl:∀q,i≤q→N.getD (f+q) 0=if q=i then M.getD f 0 else M.getD (f+q) 0:=by
  intro q hq
  rw[hs.offD (f+q) (.inr (by omega)),g]
  by_cases e:q=i
  ·rw[if_pos (by omega),if_pos e]
  ·rw[if_neg (by omega),if_neg (by omega),if_neg e]
 have fr:∀p,p<i→N.getD (f+p) 0≤M.getD f 0:=by
  have:=hs.all (by rw[swapL_len];omega) (fun x=>x≤M.getD f 0) (fun k k1 k2=>by
   obtain⟨p,rfl⟩:∃p,k=f+p:=⟨k-f,by omega⟩
   rw[g,if_neg (by omega)]
   split
   ·exact root i (by omega)
   ·exact root p (by omega))
  exact fun p hp=>this (f+p) (by omega) (by omega)
 refine⟨hh,fun p q h1 h2 h3=>?_,fun p q h1 h2 h3=>?_⟩
 ·rw[tl p h1,tl q (by omega),if_neg (show ¬q=i by omega)]
  split
  ·exact h.over 0 q (by omega) (by omega) h3
  ·exact h.tail p q (by omega) h2 h3
 ·rw[tl q h2]
  split
  ·exact fr p h1
  ·exact Int.le_trans (fr p h1) (h.over 0 q (by omega) (by omega) h3)
theorem Hs.fin {f n:Nat} {M:List Int} (h:Hs f n 0 M):SortedOn M f (f+n):=by
 intro i j h1 h2 h3
 obtain⟨p,rfl⟩:∃p,i=f+p:=⟨i-f,by omega⟩
 obtain⟨q,rfl⟩:∃q,j=f+q:=⟨j-f,by omega⟩
 exact h.tail p q (Nat.zero_le _) (by omega) (by omega)
def H1Rel (w0:World) (b f n:Nat) (L:List Int) (x:Value) (w:World):Prop:=∃(I:Int) (k:Nat) (M:List Int),x=.int .i64 I∧I=(k:Int)-1∧k≤n∧Row w0 w b M∧Sw f (f+n) L M∧Heap f k n M
def H2Rel (w0:World) (b f n:Nat) (L:List Int) (x:Value) (w:World):Prop:=∃(I:Int) (k:Nat) (M:List Int),x=.int .i64 I∧I=(k:Int)-1∧k≤n∧Row w0 w b M∧Sw f (f+n) L M∧Hs f n k M
theorem heapSort_is (b cap f e:Nat) (L:List Int) (w:World) (hL:L.length≤64) (h:CellsAt w b (vals L)) (hfe:f<e) (he:e≤L.length):
  Calls Tryz.prog 177 #[.slice (some ⟨b,0,none⟩) L.length cap,.int .i64 f,.int .i64 e] w (InsPost w b f e L):=by
 have HS:=qh (Row.start h)
 obtain⟨n,hn⟩:∃n,e=f+n:=⟨e-f,by omega⟩
 have hnI:(e:Int)-(f:Int)=(n:Int):=by omega
 have HN:=qh hn;have HNI:=qh hnI
 have hn0:0<n:=by omega
 have hn64:n≤64:=by omega
 have hH0:Heap f ((n-1)/2+1) n L:=fun k c h1 h2 h3=>by unfold Kid at h2;omega
 have HH0:=qh hH0
 clear h hn hnI hH0
 go_enter Tryz.func177,Tryz.ntmps177
 go_upto_region 3 with(fail)
 rw[HNI.out]
 go_wp2
 go_loopw [9] (fun x wr=>H1Rel w b f n L x wr) (fun x _=>(intOf x+1).toNat)
 case atStart=>exact⟨_,(n-1)/2+1,L,rfl,by omega,by omega,HS.out,.refl,HH0.out⟩
 case round=>
  obtain⟨I,k,M,rfl,hI,hk,hR,hS,hT⟩:=hrel
  have HR:=qh hR;have HSW:=qh hS;have HT:=qh hT
  have hml:=hS.len
  have HML:=qh hml
  clear hR hS hT hml HS HH0
  by_cases hk0:0<k
  ·obtain⟨i,rfl⟩:∃i:Nat,I=(i:Int):=⟨k-1,by omega⟩
   obtain rfl:k=i+1:=by omega
   clear hI
   have h0:(0:Int)≤(i:Int):=by omega
   go_wp2_with fail
   rw[←HML.out]
   refine(siftDown_is b cap f i n M _ (by have:=HML.out;omega) HR.out.c (by omega) (by have:=HML.out;have:=HN.out;omega) (by have:=HML.out;have:=HN.out;omega) HT.out).mono ?_
   rintro e1 w1 ⟨rfl,N,hR1,hS1,hH1⟩
   have HR1:=qh (HR.out.trans hR1)
   have HS1:=qh (HSW.out.trans (hS1.mono (by omega) (Nat.le_refl _)))
   have HH1:=qh hH1
   rw[HML.out]
   clear hR1 hS1 hH1
   go_wp2
   go_roundw
   case rel=>exact⟨_,i,N,rfl,rfl,by omega,HR1.out,HS1.out,HH1.out⟩
   case measure=>first|(simp[intOf];done)|(simp[intOf];omega)
  ·obtain rfl:k=0:=by omega
   have h0:I<0:=by omega
   have hc1:(n:Int)-1=((n-1:Nat):Int):=by omega
   have HST:=qh (Hs.start HT.out)
   clear hI
   go_wp2
   go_loopw [10] (fun x wr=>H2Rel w b f n L x wr) (fun x _=>(intOf x+1).toNat)
   case atStart=>exact⟨_,n,M,rfl,by omega,by omega,HR.out,HSW.out,HST.out⟩
   case round=>
    obtain⟨J,k,M,rfl,hJ,hk,hR,hS,hT⟩:=hrel
    clear HR HSW HT HML HST hc1
    have HR:=qh hR;have HSW:=qh hS;have HT:=qh hT
    have hml:=hS.len
    have HML:=qh hml
    clear hR hS hT hml
    by_cases hk0:0<k
    ·obtain⟨i,rfl⟩:∃i:Nat,J=(i:Int):=⟨k-1,by omega⟩
     obtain rfl:k=i+1:=by omega
     clear hJ
     have h0:(0:Int)≤(i:Int):=by omega
     have hfi:f+i<L.length:=by have:=HN.out;omega
     have q1:=val_cell HR.out.c f (by have:=HML.out;omega)
     have q2:=val_cell HR.out.c (f+i) (by have:=HML.out;omega)
     obtain⟨x,hx⟩:∃x,M.getD f 0=x:=⟨_,rfl⟩
     obtain⟨y,hy⟩:∃y,M.getD (f+i) 0=y:=⟨_,rfl⟩
     rw[hx]at q1
     rw[hy]at q2
     have HX:=qh hx;have HY:=qh hy
     have cz:=set_reads q1 q2
     have hff:=HR.out.c.2.1
     have hfb:=HR.out.c.lt
     have e1:IntKind.i64.wrap ((f:Int)+(i:Int))=(f:Int)+(i:Int):=IntWalk.i64_in _ (by omega)
     have e2:((f:Int)+(i:Int)).toNat=f+i:=by omega
     have e3:(f:Int)+(i:Int)<(L.length:Int):=by omega
     have e4:(0:Int)≤(f:Int)+(i:Int):=by omega
     have e5:(f:Int)<(L.length:Int):=by omega
     clear hx hy
     go_wp2
     go_region
     have HR1:Hid (Row w _ b (swapL M f (f+i))):=(by first|exact(HR.out.set2 f (f+i) (by have:=HML.out;omega) (by have:=HML.out;omega) x y HX.out HY.out).drew|exact HR.out.set2 f (f+i) (by have:=HML.out;omega) (by have:=HML.out;omega) x y HX.out HY.out:Row w _ b (swapL M f (f+i)))
     have HSWP:Hid (Sw f (f+n) L (swapL M f (f+i))):=HSW.out.step f (f+i) (by omega) (by omega) (by omega) (by omega)
     have HNX:=qh (fun N=>HT.out.next (N:=N) (by have:=HML.out;have:=HN.out;omega) (by omega))
     have HT1:=qh (HT.out.swapped (by have:=HML.out;have:=HN.out;omega) (by omega))
     have hml1:(swapL M f (f+i)).length=L.length:=by rw[swapL_len];exact HML.out
     have HML1:=qh hml1
     clear hml1 q1 q2 cz hff hfb e1 e2 e3 e4 e5 HR HSW HT HX HY
     go_wp2_with fail
     rw[←HML1.out]
     refine(siftDown_is b cap f 0 i (swapL M f (f+i)) _ (by have:=HML1.out;omega) HR1.out.c (by omega) (by have:=HML1.out;have:=HN.out;omega) (by have:=HML1.out;have:=HN.out;omega) HT1.out).mono ?_
     rintro e1 w1 ⟨rfl,N,hR1,hS1,hH1⟩
     have HR2:=qh (HR1.out.trans hR1)
     have HS2:=qh (HSWP.out.trans (hS1.mono (by omega) (by omega)))
     have HH2:=qh (HNX.out N hS1 hH1)
     rw[HML1.out]
     clear hR1 hS1 hH1 HR1 HSWP HNX HT1
     go_wp2
     go_roundw
     case rel=>exact⟨_,i,N,rfl,rfl,by omega,HR2.out,HS2.out,HH2.out⟩
     case measure=>first|(simp[intOf];done)|(simp[intOf];omega)
    ·obtain rfl:k=0:=by omega
     have h0:J<0:=by omega
     have hSW2:Sw f e L M:=by rw[HN.out];exact HSW.out
     have hST2:SortedOn M f e:=by rw[HN.out];exact HT.out.fin
     have HSW2:=qh hSW2;have HST2:=qh hST2
     clear hJ hSW2 hST2
     go_wp2
     go_end0
     exact⟨rfl,M,HR.out,HSW2.out,HST2.out⟩
end S32
end Go.Proofs.YtpkiepjmcepnoaaGreatDoor
