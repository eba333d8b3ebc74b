/- A part of a proof. -/
import Derived.RegionTactic
import Derived.Deep.AppendLies
import Derived.Deep.RegionLaw
import Derived.IntWalk
import Derived.OneCell
import Derived.Test.YtpkiepjmcepnoaaGreatDoorPtP
set_option maxHeartbeats 16000000
set_option maxRecDepth 100000
namespace Go.Proofs.YtpkiepjmcepnoaaGreatDoor
open Go.ChangeShapes Go.WideShapes Go.ChangeAt Go.RowKit
set_option linter.unusedVariables false
def Fit (s:ByteArray):Prop:=2≤s.size∧s.size≤4095∧sumFits s
def byteI (s:ByteArray) (i:Nat):Nat:=(bytesN s).getD i 0
theorem byteI_lt (s:ByteArray) (i:Nat):byteI s i<256:=by
 unfold byteI
 rw[List.getD_eq_getElem?_getD]
 by_cases h:i<(bytesN s).length
 ·rw[List.getElem?_eq_getElem h];exact bytesN_lt s _ (List.getElem_mem h)
 ·rw[List.getElem?_eq_none (by omega)];decide
theorem byteI_at (s:ByteArray) (i:Nat) (h:i<s.size):byteI s i=s[i].toNat:=bytesN_getD s i h
theorem byteI_front (s:ByteArray) (i n:Nat) (h:i<n):byteI (s.extract 0 n) i=byteI s i:=by
 unfold byteI
 rw[bytesN_extract,List.getD_eq_getElem?_getD,List.getD_eq_getElem?_getD,List.getElem?_take,if_pos h]
theorem byteI_back (s:ByteArray) (a i:Nat) (h:a+i<s.size):byteI (s.extract a s.size) i=byteI s (a+i):=by
 rw[byteI_at _ _ (by rw[ByteArray.size_extract];omega),byteI_at _ _ h]
 congr 1
 exact ByteArray.getElem_extract _
theorem ix_byte (s:ByteArray) (i:Nat) (h:i<s.size):∀w:World,(Instr.index 9 (.string s) (.int .i64 (i:Int))).run Tryz.prog w=.ok (.int .u8 (byteI s i:Int)) w:=fun w=>by
 rw[ix_str s i h w,byteI_at s i h]
def wordF (s:ByteArray) (i:Nat):Int:=getW (byteI s (3+4*i)) (byteI s (3+4*i+1)) (byteI s (3+4*i+2)) (byteI s (3+4*i+3))
theorem get_word (t:ByteArray) (i:Nat) (h:3+4*i+4≤t.size) (w:World):
  Calls Tryz.prog 166 #[.string (t.extract (3+4*i) t.size)] w fun e w'=>∃m,e=.returned (.int .i32 (wordF t i))∧w'=w.drewN m:=by
 have hs:(t.extract (3+4*i) t.size).size=t.size-(3+4*i):=by rw[ByteArray.size_extract];omega
 refine(frameGet_any (t.extract (3+4*i) t.size) (by omega) w).mono ?_
 rintro e w' ⟨m,he,hw⟩
 refine⟨m,?_,hw⟩
 rw[he]
 unfold wordF
 have e0:=byteI_back t (3+4*i) 0 (by omega)
 have e1:=byteI_back t (3+4*i) 1 (by omega)
 have e2:=byteI_back t (3+4*i) 2 (by omega)
 have e3:=byteI_back t (3+4*i) 3 (by omega)
 rw[byteI_at _ _ (by omega)]at e0 e1 e2 e3
 rw[←e1,←e2,←e3,←show byteI t (3+4*i+0)=byteI t (3+4*i)from rfl,←e0]
def FrameAt (w:World) (b:Nat) (k l q:Int) (v:Value):Prop:=
 w.cell? ⟨b,0,none⟩=some (.int .i64 k)∧w.cell? ⟨b,1,none⟩=some (.int .i64 l)∧w.cell? ⟨b,2,none⟩=some (.int .u8 q)∧w.cell? ⟨b,3,none⟩=some v∧(∀o,w.frozen? ⟨b,o,none⟩=false)
theorem FrameAt.lt {w:World} {b:Nat} {k l q:Int} {v:Value} (h:FrameAt w b k l q v):b<w.heap.size:=by
 have:=World.block_lt_of_cell? _ _ h.1
 simpa using this
theorem FrameAt.later {w w':World} {b B:Nat} {k l q:Int} {v:Value} (h:FrameAt w b k l q v) (hB:Below B w w') (hb:b<B):FrameAt w' b k l q v:=
 ⟨(hB.cell hb).trans h.1,(hB.cell hb).trans h.2.1,(hB.cell hb).trans h.2.2.1,(hB.cell hb).trans h.2.2.2.1,fun o=>(hB.frozen hb).trans (h.2.2.2.2 o)⟩
theorem FrameAt.kept {w w':World} {b:Nat} {r:Option Nat} {k l q:Int} {v:Value} (h:FrameAt w b k l q v) (hg:w.grownBy w' r) (hne:r≠some b):FrameAt w' b k l q v:=by
 have hb:=hg.block b h.lt (fun e=>hne e.symm)
 obtain⟨h1,h2,h3,h4,h5⟩:=h
 exact⟨(World.cell?_of_block (w:=w) hb).trans h1,(World.cell?_of_block (w:=w) hb).trans h2,(World.cell?_of_block (w:=w) hb).trans h3,(World.cell?_of_block (w:=w) hb).trans h4,fun o=>(World.frozen?_of_block (w:=w) hb).trans (h5 o)⟩
theorem FrameAt.alloc {w:World} {b:Nat} {k l q:Int} {v:Value} (h:FrameAt w b k l q v) (o:Obj):FrameAt (w.alloc o) b k l q v:=h.later ((Below.refl w.heap.size w).alloc (Nat.le_refl _) o) h.lt
theorem news_one (w:World) (x:Value) (E:TypeId):∀j u,([x]:List Value)[j]?=some u→(w.alloc (.cells #[x] E)).cell? ((⟨w.heap.size,0,none⟩:Addr).add j)=some u:=by
 intro j u h
 cases j with
 |zero=>simp at h;subst h;show World.cell? _ (Addr.add _ 0)=_;simp[Addr.add]
 |succ j=>simp at h
theorem own_mono {w:World} {base base':Nat} {e:TypeId} {size:Nat} {v:Value} {n:Nat} {xs:List Value} (h:w.ownsRow base e size v n xs) (hb:base'≤base):w.ownsRow base' e size v n xs:=
 ⟨h.1,h.2.imp id fun⟨g,cap,cur,e,h1,h2⟩=>⟨g,cap,cur,e,Nat.le_trans hb h1,h2⟩⟩
theorem frame_write {w:World} {b:Nat} {k l q:Int} {v:Value} (h:FrameAt w b k l q v) (k' l' q':Int) (v':Value):
  FrameAt ((((w.setCell ⟨b,0,none⟩ (.int .i64 k')).setCell ⟨b,1,none⟩ (.int .i64 l')).setCell ⟨b,2,none⟩ (.int .u8 q')).setCell ⟨b,3,none⟩ v') b k' l' q' v':=by
 have ne:∀{x y:Nat},x≠y→(⟨b,x,none⟩:Addr)≠⟨b,y,none⟩:=fun hxy e=>hxy (congrArg Addr.off e)
 obtain⟨h1,h2,h3,h4,h5⟩:=h
 refine⟨?_,?_,?_,?_,fun o=>by rw[World.frozen?_setCell,World.frozen?_setCell,World.frozen?_setCell,World.frozen?_setCell];exact h5 o⟩
 ·rw[World.cell?_setCell_other _ _ _ _ (ne (by omega)),World.cell?_setCell_other _ _ _ _ (ne (by omega)),World.cell?_setCell_other _ _ _ _ (ne (by omega))];exact World.cell?_setCell_same _ _ _ h1
 ·rw[World.cell?_setCell_other _ _ _ _ (ne (by omega)),World.cell?_setCell_other _ _ _ _ (ne (by omega))]
  exact World.cell?_setCell_same _ _ _ ((World.cell?_setCell_other _ _ _ _ (ne (by omega))).trans h2)
 ·rw[World.cell?_setCell_other _ _ _ _ (ne (by omega))]
  exact World.cell?_setCell_same _ _ _ ((World.cell?_setCell_other _ _ _ _ (ne (by omega))).trans ((World.cell?_setCell_other _ _ _ _ (ne (by omega))).trans h3))
 ·exact World.cell?_setCell_same _ _ _ ((World.cell?_setCell_other _ _ _ _ (ne (by omega))).trans ((World.cell?_setCell_other _ _ _ _ (ne (by omega))).trans ((World.cell?_setCell_other _ _ _ _ (ne (by omega))).trans h4)))
theorem FrameAt.set {w:World} {b:Nat} {k l q:Int} {v:Value} (h:FrameAt w b k l q v) (u:Value):FrameAt (w.setCell ⟨b,3,none⟩ u) b k l q u:=by
 have ne:∀{x y:Nat},x≠y→(⟨b,x,none⟩:Addr)≠⟨b,y,none⟩:=fun hxy e=>hxy (congrArg Addr.off e)
 obtain⟨h1,h2,h3,h4,h5⟩:=h
 exact⟨(World.cell?_setCell_other _ _ _ _ (ne (by omega))).trans h1,(World.cell?_setCell_other _ _ _ _ (ne (by omega))).trans h2,(World.cell?_setCell_other _ _ _ _ (ne (by omega))).trans h3,World.cell?_setCell_same _ _ _ h4,fun o=>by rw[World.frozen?_setCell];exact h5 o⟩
theorem FrameAt.other {w:World} {b c o:Nat} {k l q:Int} {v:Value} (h:FrameAt w b k l q v) (hne:c≠b) (u:Value):FrameAt (w.setCell ⟨c,o,none⟩ u) b k l q v:=by
 have ne:∀{x:Nat},(⟨c,o,none⟩:Addr)≠⟨b,x,none⟩:=fun e=>hne (congrArg Addr.block e)
 obtain⟨h1,h2,h3,h4,h5⟩:=h
 exact⟨(World.cell?_setCell_other _ _ _ _ ne).trans h1,(World.cell?_setCell_other _ _ _ _ ne).trans h2,(World.cell?_setCell_other _ _ _ _ ne).trans h3,(World.cell?_setCell_other _ _ _ _ ne).trans h4,fun x=>by rw[World.frozen?_setCell];exact h5 x⟩
def wordsI (t:ByteArray) (n:Nat):List Int:=(List.range n).map (wordF t)
theorem wordsI_succ (t:ByteArray) (n:Nat):wordsI t (n+1)=wordsI t n++[wordF t n]:=by
 unfold wordsI;rw[List.range_succ,List.map_append];rfl
theorem wordsI_len (t:ByteArray) (n:Nat):(wordsI t n).length=n:=by unfold wordsI;simp
def ReadRel (w:World) (t:ByteArray) (n:Nat) (k l q:Int) (i:Value) (wr:World):Prop:=∃(j:Nat) (v:Value),j≤n∧i=.int .i64 j∧FrameAt wr w.heap.size 0 0 0 (.slice none 0 0)∧FrameAt wr (w.heap.size+1) k l q v∧
 wr.ownsRow (w.heap.size+2) 21 1 v (wordsI t j).length ((wordsI t j).map (.int .i32))∧Below w.heap.size w wr∧w.heap.size+2≤wr.heap.size
theorem and_lowF (a:Nat) (h:a<256):bits BinOp.and IntKind.u8 (a:Int) 15=(a:Int)%16:=by
 have h1:=Go.u8_and_nat a 15 h (by omega)
 rw[show((15:Nat):Int)=15 from rfl]at h1
 rw[h1,show(15:Nat)=2^4-1 from rfl,Nat.and_two_pow_sub_one_eq_mod]
 simp
theorem read_form (s:ByteArray) (hf:Fit s) (n:Nat) (h3:s.size=5+4*n) (hn:byteI s 2=n) (w:World) (c:Int) (hc:frameChk ((byteI s 0:Int)/16) ((byteI s 0:Int)%16) n=c):
  Calls Tryz.prog 138 #[.string s] w fun e w'=>(c≠0∧e=.returned (.tuple #[frameV 0 0 0 (.slice none 0 0),.int .i64 c])∧Below w.heap.size w w')∨
   (c=0∧∃v,e=.returned (.tuple #[frameV ((byteI s 0:Int)/16) ((byteI s 0:Int)%16) (byteI s 1) v,.int .i64 0])∧w'.ownsRow w.heap.size 21 1 v (wordsI s n).length ((wordsI s n).map (.int .i32))∧Below w.heap.size w w'):=by
 have HF:=qh hf;have HC:=qh hc
 have hn8:=byteI_lt s 2
 have b0:=byteI_lt s 0
 have b1:=byteI_lt s 1
 rw[hn]at hn8
 have hsz:(s.extract 0 (s.size-2)).size=3+4*n:=by rw[ByteArray.size_extract];omega
 obtain⟨t,ht⟩:∃t,s.extract 0 (s.size-2)=t:=⟨_,rfl⟩
 have ht2:∀i,i<3+4*n→byteI t i=byteI s i:=fun i hi=>by rw[←ht];exact byteI_front s i _ (by omega)
 have hw:∀i,i<n→wordF t i=wordF s i:=fun i hi=>by unfold wordF;rw[ht2 _ (by omega),ht2 _ (by omega),ht2 _ (by omega),ht2 _ (by omega)]
 have hws:wordsI t n=wordsI s n:=by unfold wordsI;exact List.map_congr_left fun i hi=>hw i (by simpa using hi)
 rw[ht]at hsz
 have i0:=ix_byte t 0 (by omega)
 have i1:=ix_byte t 1 (by omega)
 have i2:=ix_byte t 2 (by omega)
 rw[ht2 0 (by omega)]at i0
 rw[ht2 1 (by omega)]at i1
 rw[ht2 2 (by omega),hn]at i2
 rw[show((0:Nat):Int)=0 from rfl]at i0
 rw[show((1:Nat):Int)=1 from rfl]at i1
 rw[show((2:Nat):Int)=2 from rfl]at i2
 have HT:=qh ht;have HWS:=qh hws;have HSZ:=qh hsz
 have al:=and_lowF (byteI s 0) b0
 obtain⟨x0,hx0⟩:∃x,byteI s 0=x:=⟨_,rfl⟩
 obtain⟨x1,hx1⟩:∃x,byteI s 1=x:=⟨_,rfl⟩
 rw[hx0]at i0 b0 al HC
 rw[hx1]at i1 b1
 rw[hx0,hx1]
 obtain⟨k,hk⟩:∃k:Int,(x0:Int)/16=k:=⟨_,rfl⟩
 obtain⟨l,hl⟩:∃l:Int,(x0:Int)%16=l:=⟨_,rfl⟩
 have hkb:0≤k∧k≤15:=by omega
 have hlb:0≤l∧l≤15:=by omega
 rw[hk,hl]at HC
 rw[hl]at al
 clear hf hc hn hsz ht ht2 hw hws hx0 hx1
 rw[hk,hl]
 obtain⟨iw,hiw,hzw0,hzw1,hzw2⟩:=info_parts info_i32
 go_enter Tryz.func138,Tryz.ntmps138
 go_wp2_with fail
 refine(get_ok s HF.out.1 HF.out.2.1 HF.out.2.2 _).mono ?_
 rw[HT.out]
 rintro e1 w1 ⟨rfl,rfl⟩
 have l3:¬((t.size:Int)<3):=by have:=HSZ.out;omega
 go_wp2
 go_region
 have dsz:((t.size:Int) != 3+4*(n:Int))=false:=by have:=HSZ.out;rw[bne_eq_false_iff_eq];omega
 have A0:FrameAt ((w.alloc (.cells #[.int .i64 0,.int .i64 0,.int .u8 0,.slice none 0 0] 70)).alloc (.cells #[.int .i64 k,.int .i64 l,.int .u8 (x1:Int),.slice none 0 0] 70)).drew w.heap.size 0 0 0 (.slice none 0 0):=⟨by go_simp,by go_simp,by go_simp,by go_simp,fun o=>by go_simp⟩
 have A1:FrameAt ((w.alloc (.cells #[.int .i64 0,.int .i64 0,.int .u8 0,.slice none 0 0] 70)).alloc (.cells #[.int .i64 k,.int .i64 l,.int .u8 (x1:Int),.slice none 0 0] 70)).drew (w.heap.size+1) k l x1 (.slice none 0 0):=⟨by go_simp,by go_simp,by go_simp,by go_simp,fun o=>by go_simp⟩
 have HA0:=qh A0;have HA1:=qh A1
 clear A0 A1
 go_wp2
 go_loopw [45] (fun i wr=>ReadRel w t n k l x1 i wr) (fun i _=>n-(intOf i).toNat)
 case atStart=>exact⟨0,.slice none 0 0,by omega,rfl,HA0.out,HA1.out,World.ownsRow_nil _ _ _ _,by repeat(first|(with_reducible first|exact bLr)|((with_reducible first|refine bLs ?_ ?_ _|refine bLa ?_ ?_ _);·first|omega|(simp<;>omega))|with_reducible first|refine bLn ?_ _|refine bLd ?_),by simp⟩
 case round=>
  obtain⟨j,v,hj,rfl,h0,h1,hown,hB,hsz⟩:=hrel
  have H0:=qh h0;have H1:=qh h1;have HO:=qh hown;have HB:=qh hB
  have l0:=h0.lt;have l1:=h1.lt
  obtain⟨c0,c1,c2,c3,cf⟩:=h1
  clear h0 hown hB
  by_cases hlt:j<n
  ·have hd:(j:Int)<(n:Int):=by omega
   have hle:3+4*j+4≤t.size:=by have:=HSZ.out;omega
   have jb:(j:Int)≤255:=by omega
   have q1:IntKind.i64.wrap (4*(j:Int))=4*(j:Int):=IntWalk.i64_in _ (by omega)
   have q2:IntKind.i64.wrap (3+4*(j:Int))=3+4*(j:Int):=IntWalk.i64_in _ (by omega)
   have q3:(3+4*(j:Int)).toNat=3+4*j:=by omega
   have q4:0≤3+4*(j:Int):=by omega
   have q5:3+4*(j:Int)≤(t.size:Int):=by omega
   have hob:∀r,v.ownBlock=some r→w.heap.size+2≤r:=fun r e=>(HO.out.lt r e).1
   have HOB:=qh hob
   have hlen:(wordsI t j).length=j:=wordsI_len t j
   have HLEN:=qh hlen
   have hwl:(wordsI t j).length≤255:=by omega
   clear hob hlen
   go_wp2
   go_region_law (first|(go_simp;go_at_call 166;refine(get_word t j hle _).mono ?_;rintro e4 w4 ⟨m4,rfl,rfl⟩;have c3b:World.cell? ((wr.drewN (1+m4)).alloc (.cells #[.int .i32 (wordF t j)] 21)) ⟨w.heap.size+1,3,none⟩=some v:=(H1.out.alloc _).2.2.2.1)|(refine step_append_lies _ rfl (.tmp 49) (.tmp 56) 68 rfl (w.heap.size+2) 21 iw (.int .i32 0) 1 4 Tryz.underlying68 hiw hzw0 hzw1 hzw2 rfl (by decide) v (wordsI t j).length ((wordsI t j).map (.int .i32)) (by simp[Act.eval]) (by exact HO.out.alloc _) ⟨wr.heap.size,0,none⟩ 1 1 [.int .i32 (wordF t j)] (by simp[Act.eval]) rfl (by exact news_one _ _ _) (by simp[Value.oneCell']) (by decide) (by unfold maxLen;omega) (by omega) (by simp;omega) (wr.heap.size+1) (by simp) ?_;intro g cap5 w5 hown5 hgrow5 hg5 hlt5;have F0:=FrameAt.kept (by exact H0.out.alloc _) hgrow5 (fun e=>absurd (HOB.out _ e) (by omega));have F1:=FrameAt.kept (by exact H1.out.alloc _) hgrow5 (fun e=>absurd (HOB.out _ e) (by omega));have F2:=qh F1;have F3:=F1.lt;obtain⟨d0,d1,d2,d3,df⟩:=F1))
   all_goals
    have B5:Below w.heap.size w w5:=HB.out.trans (Below.grown (by exact(below_drewN (Below.refl w.heap.size wr) (1+m4)).alloc (show w.heap.size≤wr.heap.size by omega) _) hgrow5 (by simp;omega) (fun r e=>by have:=HOB.out r e;omega))
    have z5:w.heap.size+2≤w5.heap.size:=by omega
    have HB5:=qh B5;have HF0:=qh F0;have HO5:=qh hown5
    clear d0 d1 d2 d3 df hg5 hgrow5 B5 F0 hown5 q1 q2 q3 q4 q5
    go_wp2
    go_roundw
    case rel=>exact⟨j+1,_,by omega,by go_num,HF0.out.other (by omega) _,F2.out.set _,by rw[wordsI_succ,List.length_append,List.map_append];exact ownsRow_setCell_below HO5.out (by simp) _,HB5.out.setCell (by simp) _,by simpa using z5⟩
    case measure=>simp[intOf];omega
  ·obtain rfl:j=n:=by omega
   obtain⟨a,cap,hv⟩:∃a cap,v=.slice a j cap:=by
    rcases HO.out.2 with⟨hv,hn⟩|⟨g,cap,cur,hv,-⟩
    ·rw[wordsI_len]at hn;exact⟨none,0,by rw[hv,hn]⟩
    ·rw[wordsI_len]at hv;exact⟨_,cap,hv⟩
   subst hv
   go_wp2_with fail
   refine(frameCheck_any k l x1 a j cap _ (by omega) (by omega) (by omega)).mono ?_
   rw[HC.out]
   rintro e5 w5 ⟨rfl,rfl⟩
   have z5:w.heap.size≤wr.heap.size:=by omega
   have X0:FrameAt (wr.alloc (.cells #[.int .i64 k,.int .i64 l,.int .u8 (x1:Int),.slice a j cap] 70)) w.heap.size 0 0 0 (.slice none 0 0):=H0.out.alloc _
   have X1:FrameAt (wr.alloc (.cells #[.int .i64 k,.int .i64 l,.int .u8 (x1:Int),.slice a j cap] 70)) (w.heap.size+1) k l x1 (.slice a j cap):=H1.out.alloc _
   have XO:=HO.out.alloc (.cells #[.int .i64 k,.int .i64 l,.int .u8 (x1:Int),.slice a j cap] 70)
   have XB:Below w.heap.size w (wr.alloc (.cells #[.int .i64 k,.int .i64 l,.int .u8 (x1:Int),.slice a j cap] 70)):=HB.out.alloc z5 _
   generalize wr.alloc (.cells #[.int .i64 k,.int .i64 l,.int .u8 (x1:Int),.slice a j cap] 70)=w6 at *
   clear c0 c1 c2 c3 cf
   have HX0:=qh X0;have HXO:=qh XO;have HXB:=qh XB
   have m0:=X0.lt;have m1:=X1.lt
   obtain⟨c0,c1,c2,c3,cf⟩:=X1
   obtain⟨g0,g1,g2,g3,gf⟩:=X0
   clear XO XB
   by_cases h0:c=0
   ·have dc:(c != 0)=false:=by simpa using h0
    have HC0:=qh h0
    clear h0
    go_wp2
    have hfin:=frame_write HX0.out k l x1 (.slice a j cap)
    obtain⟨f0,f1,f2,f3,-⟩:=hfin
    have HB7:Below w.heap.size w ((((w6.setCell ⟨w.heap.size,0,none⟩ (.int .i64 k)).setCell ⟨w.heap.size,1,none⟩ (.int .i64 l)).setCell ⟨w.heap.size,2,none⟩ (.int .u8 x1)).setCell ⟨w.heap.size,3,none⟩ (.slice a j cap)):=((((HXB.out.setCell (Nat.le_refl _) _).setCell (Nat.le_refl _) _).setCell (Nat.le_refl _) _).setCell (Nat.le_refl _) _)
    have HO7:=ownsRow_setCell_below (ownsRow_setCell_below (ownsRow_setCell_below (ownsRow_setCell_below HXO.out (a:=⟨w.heap.size,0,none⟩) (by simp) (.int .i64 k)) (a:=⟨w.heap.size,1,none⟩) (by simp) (.int .i64 l)) (a:=⟨w.heap.size,2,none⟩) (by simp) (.int .u8 x1)) (a:=⟨w.heap.size,3,none⟩) (by simp) (.slice a j cap)
    generalize hw7:((((w6.setCell ⟨w.heap.size,0,none⟩ (.int .i64 k)).setCell ⟨w.heap.size,1,none⟩ (.int .i64 l)).setCell ⟨w.heap.size,2,none⟩ (.int .u8 x1)).setCell ⟨w.heap.size,3,none⟩ (.slice a j cap))=w7 at *
    clear hw7
    exact bodyPost_ret (v:=.tuple #[frameV k l x1 (.slice a j cap),.int .i64 0]) (by simp[results,Tryz.results138,go_sem,f0,f1,f2,f3]) rfl (.inr ⟨HC0.out,_,rfl,by rw[HWS.out]at HO7;exact own_mono HO7 (by omega),HB7⟩)
   ·have dc:(c != 0)=true:=by simpa using h0
    have HC0:=qh h0
    clear h0
    go_wp2
    have hfin:=frame_write HX0.out 0 0 0 (.slice none 0 0)
    obtain⟨f0,f1,f2,f3,-⟩:=hfin
    have HB7:Below w.heap.size w ((((w6.setCell ⟨w.heap.size,0,none⟩ (.int .i64 0)).setCell ⟨w.heap.size,1,none⟩ (.int .i64 0)).setCell ⟨w.heap.size,2,none⟩ (.int .u8 0)).setCell ⟨w.heap.size,3,none⟩ (.slice none 0 0)):=((((HXB.out.setCell (Nat.le_refl _) _).setCell (Nat.le_refl _) _).setCell (Nat.le_refl _) _).setCell (Nat.le_refl _) _)
    generalize hw7:((((w6.setCell ⟨w.heap.size,0,none⟩ (.int .i64 0)).setCell ⟨w.heap.size,1,none⟩ (.int .i64 0)).setCell ⟨w.heap.size,2,none⟩ (.int .u8 0)).setCell ⟨w.heap.size,3,none⟩ (.slice none 0 0))=w7 at *
    clear hw7
    exact bodyPost_ret (v:=.tuple #[frameV 0 0 0 (.slice none 0 0),.int .i64 c]) (by simp[results,Tryz.results138,go_sem,f0,f1,f2,f3]) rfl (.inl ⟨HC0.out,rfl,HB7⟩)
def ReadBad (s:ByteArray) (c:Int):Prop:=(c=2∧4095<s.size)∨(c=3∧s.size<2)∨(c=5∧2≤s.size∧s.size≤4095∧¬sumFits s)∨(c=3∧Fit s∧s.size<5)∨(c=4∧Fit s∧5≤s.size∧s.size≠5+4*byteI s 2)
theorem read_bad (s:ByteArray) (hm:s.size≤140737488351232) (c:Int) (h:ReadBad s c) (w:World):
  Calls Tryz.prog 138 #[.string s] w fun e w'=>e=.returned (.tuple #[frameV 0 0 0 (.slice none 0 0),.int .i64 c])∧Below w.heap.size w w':=by
 have H:=qh h
 clear h
 rcases H.out with⟨rfl,h⟩|⟨rfl,h⟩|⟨rfl,h1,h2,h⟩|⟨rfl,hf,h⟩|⟨rfl,hf,h1,h⟩
 ·go_enter Tryz.func138,Tryz.ntmps138
  go_wp2_with fail
  refine(get_large s h _).mono ?_
  rintro e1 w1 ⟨rfl,rfl⟩
  go_wp2
  refine bodyPost_ret (v:=.tuple #[frameV 0 0 0 (.slice none 0 0),.int .i64 2]) (by simp[results,Tryz.results138,go_sem]) rfl ⟨rfl,?_⟩
  repeat(first|(with_reducible first|exact bLr)|((with_reducible first|refine bLs ?_ ?_ _|refine bLa ?_ ?_ _);·first|omega|(simp<;>omega))|with_reducible first|refine bLn ?_ _|refine bLd ?_)
 ·go_enter Tryz.func138,Tryz.ntmps138
  go_wp2_with fail
  refine(get_short s h _).mono ?_
  rintro e1 w1 ⟨rfl,rfl⟩
  go_wp2
  refine bodyPost_ret (v:=.tuple #[frameV 0 0 0 (.slice none 0 0),.int .i64 3]) (by simp[results,Tryz.results138,go_sem]) rfl ⟨rfl,?_⟩
  repeat(first|(with_reducible first|exact bLr)|((with_reducible first|refine bLs ?_ ?_ _|refine bLa ?_ ?_ _);·first|omega|(simp<;>omega))|with_reducible first|refine bLn ?_ _|refine bLd ?_)
 ·go_enter Tryz.func138,Tryz.ntmps138
  go_wp2_with fail
  refine(get_bad s h1 h2 h _).mono ?_
  rintro e1 w1 ⟨rfl,rfl⟩
  go_wp2
  refine bodyPost_ret (v:=.tuple #[frameV 0 0 0 (.slice none 0 0),.int .i64 5]) (by simp[results,Tryz.results138,go_sem]) rfl ⟨rfl,?_⟩
  repeat(first|(with_reducible first|exact bLr)|((with_reducible first|refine bLs ?_ ?_ _|refine bLa ?_ ?_ _);·first|omega|(simp<;>omega))|with_reducible first|refine bLn ?_ _|refine bLd ?_)
 ·have hsz:(s.extract 0 (s.size-2)).size=s.size-2:=by rw[ByteArray.size_extract];omega
  obtain⟨t,ht⟩:∃t,s.extract 0 (s.size-2)=t:=⟨_,rfl⟩
  rw[ht]at hsz
  have HT:=qh ht;have HF:=qh hf
  have ls:(t.size:Int)<3:=by have:=hf.1;omega
  clear ht hsz hf
  go_enter Tryz.func138,Tryz.ntmps138
  go_wp2_with fail
  refine(get_ok s HF.out.1 HF.out.2.1 HF.out.2.2 _).mono ?_
  rw[HT.out]
  rintro e1 w1 ⟨rfl,rfl⟩
  go_wp2
  refine bodyPost_ret (v:=.tuple #[frameV 0 0 0 (.slice none 0 0),.int .i64 3]) (by simp[results,Tryz.results138,go_sem]) rfl ⟨rfl,?_⟩
  repeat(first|(with_reducible first|exact bLr)|((with_reducible first|refine bLs ?_ ?_ _|refine bLa ?_ ?_ _);·first|omega|(simp<;>omega))|with_reducible first|refine bLn ?_ _|refine bLd ?_)
 ·have hsz:(s.extract 0 (s.size-2)).size=s.size-2:=by rw[ByteArray.size_extract];omega
  obtain⟨t,ht⟩:∃t,s.extract 0 (s.size-2)=t:=⟨_,rfl⟩
  have ht2:∀i,i<s.size-2→byteI t i=byteI s i:=fun i hi=>by rw[←ht];exact byteI_front s i _ hi
  rw[ht]at hsz
  have i0:=ix_byte t 0 (by omega)
  have i1:=ix_byte t 1 (by omega)
  have i2:=ix_byte t 2 (by omega)
  rw[ht2 0 (by omega)]at i0
  rw[ht2 1 (by omega)]at i1
  rw[ht2 2 (by omega)]at i2
  rw[show((0:Nat):Int)=0 from rfl]at i0
  rw[show((1:Nat):Int)=1 from rfl]at i1
  rw[show((2:Nat):Int)=2 from rfl]at i2
  have b0:=byteI_lt s 0
  have b1:=byteI_lt s 1
  have b2:=byteI_lt s 2
  have al:=and_lowF (byteI s 0) b0
  obtain⟨x0,hx0⟩:∃x,byteI s 0=x:=⟨_,rfl⟩
  obtain⟨x1,hx1⟩:∃x,byteI s 1=x:=⟨_,rfl⟩
  obtain⟨x2,hx2⟩:∃x,byteI s 2=x:=⟨_,rfl⟩
  rw[hx0]at i0 b0 al
  rw[hx1]at i1 b1
  rw[hx2]at i2 b2 h
  have ls:¬((t.size:Int)<3):=by omega
  have dsz:((t.size:Int) != 3+4*(x2:Int))=true:=by rw[bne_iff_ne];omega
  have HT:=qh ht;have HF:=qh hf
  clear ht hsz hf ht2 hx0 hx1 hx2 h h1
  go_enter Tryz.func138,Tryz.ntmps138
  go_wp2_with fail
  refine(get_ok s HF.out.1 HF.out.2.1 HF.out.2.2 _).mono ?_
  rw[HT.out]
  rintro e1 w1 ⟨rfl,rfl⟩
  go_wp2
  go_region
  go_wp2
  refine bodyPost_ret (v:=.tuple #[frameV 0 0 0 (.slice none 0 0),.int .i64 4]) (by simp[results,Tryz.results138,go_sem]) rfl ⟨rfl,?_⟩
  repeat(first|(with_reducible first|exact bLr)|((with_reducible first|refine bLs ?_ ?_ _|refine bLa ?_ ?_ _);·first|omega|(simp<;>omega))|with_reducible first|refine bLn ?_ _|refine bLd ?_)
def kindI (s:ByteArray):Int:=(byteI s 0:Int)/16
def laneI (s:ByteArray):Int:=(byteI s 0:Int)%16
def ReadOk (s:ByteArray):Prop:=Fit s∧s.size=5+4*byteI s 2∧frameChk (kindI s) (laneI s) (byteI s 2)=0
def ReadErr (s:ByteArray) (c:Int):Prop:=ReadBad s c∨(Fit s∧s.size=5+4*byteI s 2∧frameChk (kindI s) (laneI s) (byteI s 2)=c∧c≠0)
theorem ReadErr.ne {s:ByteArray} {c:Int} (h:ReadErr s c):c≠0:=by
 rcases h with h|⟨-,-,-,h⟩
 ·rcases h with⟨rfl,-⟩|⟨rfl,-⟩|⟨rfl,-⟩|⟨rfl,-⟩|⟨rfl,-⟩<;>decide
 ·exact h
theorem read_cases (s:ByteArray):ReadOk s∨∃c,ReadErr s c:=by
 by_cases h1:4095<s.size
 ·exact .inr ⟨2,.inl (.inl ⟨rfl,h1⟩)⟩
 by_cases h2:s.size<2
 ·exact .inr ⟨3,.inl (.inr (.inl ⟨rfl,h2⟩))⟩
 by_cases h3:sumFits s
 ·have hf:Fit s:=⟨by omega,by omega,h3⟩
  by_cases h4:s.size<5
  ·exact .inr ⟨3,.inl (.inr (.inr (.inr (.inl ⟨rfl,hf,h4⟩))))⟩
  by_cases h5:s.size=5+4*byteI s 2
  ·by_cases h6:frameChk (kindI s) (laneI s) (byteI s 2)=0
   ·exact .inl ⟨hf,h5,h6⟩
   ·exact .inr ⟨_,.inr ⟨hf,h5,rfl,h6⟩⟩
  ·exact .inr ⟨4,.inl (.inr (.inr (.inr (.inr ⟨rfl,hf,by omega,h5⟩))))⟩
 ·exact .inr ⟨5,.inl (.inr (.inr (.inl ⟨rfl,by omega,by omega,h3⟩)))⟩
theorem frame_err (s:ByteArray) (hm:s.size≤140737488351232) (c:Int) (h:ReadErr s c) (w:World):
  Calls Tryz.prog 138 #[.string s] w fun e w'=>e=.returned (.tuple #[frameV 0 0 0 (.slice none 0 0),.int .i64 c])∧Below w.heap.size w w':=by
 rcases h with h|⟨h1,h2,h3,h4⟩
 ·exact read_bad s hm c h w
 ·refine(read_form s h1 _ h2 rfl w c h3).mono ?_
  rintro e w' (⟨-,he,hb⟩|⟨h0,-⟩)
  ·exact⟨he,hb⟩
  ·exact absurd h0 h4
theorem frame_ok (s:ByteArray) (h:ReadOk s) (w:World):
  Calls Tryz.prog 138 #[.string s] w fun e w'=>∃v,e=.returned (.tuple #[frameV (kindI s) (laneI s) (byteI s 1) v,.int .i64 0])∧w'.ownsRow w.heap.size 21 1 v (wordsI s (byteI s 2)).length ((wordsI s (byteI s 2)).map (.int .i32))∧Below w.heap.size w w':=by
 obtain⟨h1,h2,h3⟩:=h
 refine(read_form s h1 _ h2 rfl w 0 h3).mono ?_
 rintro e w' (⟨h0,-⟩|⟨-,h⟩)
 ·exact absurd rfl h0
 ·exact h
theorem chk_ok {k l:Int} {n:Nat} (h:frameChk k l n=0):(k=1∨k=2)∧(0≤l∧l<4)∧n≤8:=by
 unfold frameChk at h
 split at h
 ·omega
 ·split at h<;>omega
theorem strN_toNat (bs:List Int):strN (bs.map Int.toNat)=strOfNums bs:=by
 unfold strN strOfNums
 rw[List.map_map,List.map_map]
 congr 2
theorem flat_get (ws:List Int) (i r:Nat) (hi:i<ws.length) (hr:r<4):(ws.flatMap wordB).getD (4*i+r) 0=(wordB (ws.getD i 0)).getD r 0:=by
 induction ws generalizing i with
 |nil=>simp at hi
 |cons x ws ih=>
  rw[List.flatMap_cons,List.getD_eq_getElem?_getD,List.getD_eq_getElem?_getD]
  cases i with
  |zero=>
   rw[List.getElem?_append_left (by simp[wordB];omega)]
   simp
  |succ i=>
   have:=ih i (by simpa using hi)
   rw[List.getD_eq_getElem?_getD,List.getD_eq_getElem?_getD]at this
   rw[List.getElem?_append_right (by simp[wordB];omega)]
   have e:4*(i+1)+r-(wordB x).length=4*i+r:=by simp[wordB];omega
   rw[e,this]
   simp
theorem packB_get (k l q:Int) (n:Nat) (ws:List Int) (i r:Nat) (hi:i<ws.length) (hr:r<4):(packB k l q n ws).getD (3+4*i+r) 0=(wordB (ws.getD i 0)).getD r 0:=by
 rw[←flat_get ws i r hi hr]
 unfold packB
 rw[List.getD_eq_getElem?_getD,List.getD_eq_getElem?_getD,List.getElem?_append_right (by simp;omega)]
 congr 2
 simp;omega
theorem packB_lt (k l q:Int) (n:Nat) (ws:List Int) (hk:k=1∨k=2) (hl:0≤l∧l<4) (hq:0≤q∧q≤255) (hn:n≤8):∀b∈packB k l q n ws,0≤b∧b<256:=by
 intro b hb
 unfold packB at hb
 rcases List.mem_append.1 hb with hb|hb
 ·simp at hb;omega
 ·obtain⟨x,-,hx⟩:=List.mem_flatMap.1 hb
  simp[wordB]at hx
  omega
theorem getW_word (x:Int) (hx: -2147483648≤x∧x≤2147483647):getW (x%4294967296/16777216) (x%4294967296/65536%256) (x%4294967296/256%256) (x%256)=x:=by
 unfold getW
 split<;>omega
theorem getW_bd (a b c d:Nat) (ha:a<256) (hb:b<256) (hc:c<256) (hd:d<256): -2147483648≤getW a b c d∧getW a b c d≤2147483647:=by
 unfold getW
 split<;>omega
theorem byteI_pack (k l q:Int) (ws:List Int) (hk:k=1∨k=2) (hl:0≤l∧l<4) (hq:0≤q∧q≤255) (hn:ws.length≤8) (i:Nat) (hi:i<3+4*ws.length):(byteI (packS k l q ws) i:Int)=(packB k l q ws.length ws).getD i 0:=by
 unfold byteI packS
 rw[bytesN_put,←strN_toNat,bytesN_strN _ (by
  intro x hx
  obtain⟨b,hb,rfl⟩:=List.mem_map.1 hx
  have:=packB_lt k l q ws.length ws hk hl hq hn b hb
  omega)]
 have hl2:i<(packB k l q ws.length ws).length:=by rw[packB_len];exact hi
 rw[List.getD_eq_getElem?_getD,List.getElem?_append_left (by simpa using hl2),List.getElem?_map,List.getD_eq_getElem?_getD,List.getElem?_eq_getElem hl2]
 simp only[Option.map_some,Option.getD_some]
 have:=packB_lt k l q ws.length ws hk hl hq hn _ (List.getElem_mem hl2)
 omega
theorem pack_size (k l q:Int) (ws:List Int):(packS k l q ws).size=5+4*ws.length:=by
 unfold packS
 rw[put_size,strOfNums_size,packB_len];omega
theorem pack_read (k l q:Int) (ws:List Int) (hk:k=1∨k=2) (hl:0≤l∧l<4) (hq:0≤q∧q≤255) (hn:ws.length≤8) (hws:∀x∈ws,-2147483648≤x∧x≤2147483647):
  ReadOk (packS k l q ws)∧kindI (packS k l q ws)=k∧laneI (packS k l q ws)=l∧(byteI (packS k l q ws) 1:Int)=q∧wordsI (packS k l q ws) (byteI (packS k l q ws) 2)=ws:=by
 have g:=fun i hi=>byteI_pack k l q ws hk hl hq hn i hi
 have g0:(byteI (packS k l q ws) 0:Int)=k*16+l:=g 0 (by omega)
 have g1:(byteI (packS k l q ws) 1:Int)=q:=g 1 (by omega)
 have g2:(byteI (packS k l q ws) 2:Int)=ws.length:=g 2 (by omega)
 have g2':byteI (packS k l q ws) 2=ws.length:=by omega
 have hk2:kindI (packS k l q ws)=k:=by unfold kindI;rw[g0];omega
 have hl2:laneI (packS k l q ws)=l:=by unfold laneI;rw[g0];omega
 have hsz:=pack_size k l q ws
 refine⟨⟨⟨by omega,by omega,good_put _⟩,by rw[hsz,g2'],by rw[hk2,hl2,g2'];unfold frameChk;rw[if_neg (by omega),if_neg (by omega)]⟩,hk2,hl2,g1,?_⟩
 rw[g2']
 refine List.ext_getElem? fun i=>?_
 unfold wordsI
 rw[List.getElem?_map]
 by_cases hi:i<ws.length
 ·rw[List.getElem?_range hi,List.getElem?_eq_getElem hi]
  simp only[Option.map_some,Option.some.injEq]
  have p:=fun r hr=>(g (3+4*i+r) (by omega)).trans (packB_get k l q ws.length ws i r hi hr)
  have p0:=p 0 (by omega);have p1:=p 1 (by omega);have p2:=p 2 (by omega);have p3:=p 3 (by omega)
  have e:ws.getD i 0=ws[i]:=by rw[List.getD_eq_getElem?_getD,List.getElem?_eq_getElem hi];rfl
  rw[e]at p0 p1 p2 p3
  unfold wordF
  rw[show byteI (packS k l q ws) (3+4*i)=byteI (packS k l q ws) (3+4*i+0)from rfl,p0,p1,p2,p3]
  exact getW_word _ (hws _ (List.getElem_mem hi))
 ·rw[List.getElem?_eq_none (by simp;omega),List.getElem?_eq_none (by omega)];rfl
theorem wordsI_bd (s:ByteArray) (n:Nat):∀x∈wordsI s n,-2147483648≤x∧x≤2147483647:=by
 intro x hx
 obtain⟨i,-,rfl⟩:=List.mem_map.1 hx
 exact getW_bd _ _ _ _ (byteI_lt _ _) (byteI_lt _ _) (byteI_lt _ _) (byteI_lt _ _)
def newB (a b:Int):Bool:=decide (1≤(a-b)%256∧(a-b)%256≤127)
theorem new_wrap (x:Int) (h0:0≤x) (h1:x≤255):(0<IntKind.i8.wrap x)↔(1≤x∧x≤127):=by
 simp only[IntKind.wrap,IntKind.bits,IntKind.signed];simp;split<;>omega
theorem frameNewer_any (a b:Int) (w:World):
  Calls Tryz.prog 139 #[.int .u8 a,.int .u8 b] w fun e w'=>e=.returned (.bool (newB a b))∧w=w':=by
 go_enter Tryz.func139,Tryz.ntmps139
 go_wp2
 go_ret
 refine⟨ret_bool ?_,rfl⟩
 unfold newB
 exact decide_eq_decide.2 (new_wrap _ (by omega) (by omega))
def linkChk (k l q:Int) (n:Nat) (h:Bool) (g d:Int):Int:=
 if g<0∨100<g∨d<0∨10000<d then 1 else if h=true then frameChk k l n else if k≠0∨l≠0∨q≠0∨0<n then 4 else 0
abbrev linkV (k l q:Int) (v:Value) (h:Bool) (g d:Int):Value:=.agg #[.int .i64 k,.int .i64 l,.int .u8 q,v,.bool h,.int .i64 g,.int .i64 d]
def I64B (x:Int):Prop:=-9223372036854775808≤x∧x≤9223372036854775807
theorem linkCheck_any (k l q:Int) (a:Option Addr) (n cap:Nat) (h:Bool) (g d:Int) (w:World) (hk:I64B k) (hl:I64B l) (hn:n≤9223372036854775807):
  Calls Tryz.prog 137 #[linkV k l q (.slice a n cap) h g d] w fun e w'=>e=.returned (.int .i64 (linkChk k l q n h g d))∧Below w.heap.size w w':=by
 have hcase:(g<0∧linkChk k l q n h g d=1)∨((decide (g<0)=false∧100<g)∧linkChk k l q n h g d=1)∨((decide (g<0)=false∧decide (100<g)=false∧d<0)∧linkChk k l q n h g d=1)∨((decide (g<0)=false∧decide (100<g)=false∧decide (d<0)=false∧10000<d)∧linkChk k l q n h g d=1)∨
   ((decide (g<0)=false∧decide (100<g)=false∧decide (d<0)=false∧decide (10000<d)=false)∧linkChk k l q n h g d=if h=true then frameChk k l n else if k≠0∨l≠0∨q≠0∨0<n then 4 else 0):=by
  simp only[decide_eq_false_iff_not]
  unfold linkChk
  by_cases h1:g<0
  ·exact .inl ⟨h1,if_pos (by omega)⟩
  by_cases h2:100<g
  ·exact .inr (.inl ⟨⟨h1,h2⟩,if_pos (by omega)⟩)
  by_cases h3:d<0
  ·exact .inr (.inr (.inl ⟨⟨h1,h2,h3⟩,if_pos (by omega)⟩))
  by_cases h4:10000<d
  ·exact .inr (.inr (.inr (.inl ⟨⟨h1,h2,h3,h4⟩,if_pos (by omega)⟩)))
  exact .inr (.inr (.inr (.inr ⟨⟨h1,h2,h3,h4⟩,if_neg (by omega)⟩)))
 unfold I64B at hk hl
 rcases hcase with⟨h1,hv⟩|⟨⟨h1,h2⟩,hv⟩|⟨⟨h1,h2,h3⟩,hv⟩|⟨⟨h1,h2,h3,h4⟩,hv⟩|⟨⟨h1,h2,h3,h4⟩,hv⟩
 rotate_right
 ·cases h
  ·have hcase2:(((k != 0)=true)∧linkChk k l q n false g d=4)∨(((k != 0)=false∧(l != 0)=true)∧linkChk k l q n false g d=4)∨(((k != 0)=false∧(l != 0)=false∧(q != 0)=true)∧linkChk k l q n false g d=4)∨
     (((k != 0)=false∧(l != 0)=false∧(q != 0)=false∧0<n)∧linkChk k l q n false g d=4)∨(((k != 0)=false∧(l != 0)=false∧(q != 0)=false∧n=0)∧linkChk k l q n false g d=0):=by
    rw[hv,if_neg (by decide)]
    simp only[bne_iff_ne,bne_eq_false_iff_eq]
    by_cases e1:k=0
    ·by_cases e2:l=0
     ·by_cases e3:q=0
      ·by_cases e4:0<n
       ·exact .inr (.inr (.inr (.inl ⟨⟨e1,e2,e3,e4⟩,if_pos (by omega)⟩)))
       ·exact .inr (.inr (.inr (.inr ⟨⟨e1,e2,e3,by omega⟩,if_neg (by omega)⟩)))
      ·exact .inr (.inr (.inl ⟨⟨e1,e2,e3⟩,if_pos (by omega)⟩))
     ·exact .inr (.inl ⟨⟨e1,e2⟩,if_pos (by omega)⟩)
    ·exact .inl ⟨e1,if_pos (by omega)⟩
   clear hv
   rcases hcase2 with⟨f1,hv⟩|⟨⟨f1,f2⟩,hv⟩|⟨⟨f1,f2,f3⟩,hv⟩|⟨⟨f1,f2,f3,f4⟩,hv⟩|⟨⟨f1,f2,f3,f4⟩,hv⟩
   ·rw[hv];clear hv
    go_enter Tryz.func137,Tryz.ntmps137
    go_wp2
    go_ret
    exact⟨rfl,by repeat(first|(with_reducible first|exact bLr)|((with_reducible first|refine bLs ?_ ?_ _|refine bLa ?_ ?_ _);·first|omega|(simp<;>omega))|with_reducible first|refine bLn ?_ _|refine bLd ?_)⟩
   ·rw[hv];clear hv
    go_enter Tryz.func137,Tryz.ntmps137
    go_wp2
    go_ret
    exact⟨rfl,by repeat(first|(with_reducible first|exact bLr)|((with_reducible first|refine bLs ?_ ?_ _|refine bLa ?_ ?_ _);·first|omega|(simp<;>omega))|with_reducible first|refine bLn ?_ _|refine bLd ?_)⟩
   ·rw[hv];clear hv
    go_enter Tryz.func137,Tryz.ntmps137
    go_wp2
    go_ret
    exact⟨rfl,by repeat(first|(with_reducible first|exact bLr)|((with_reducible first|refine bLs ?_ ?_ _|refine bLa ?_ ?_ _);·first|omega|(simp<;>omega))|with_reducible first|refine bLn ?_ _|refine bLd ?_)⟩
   ·rw[hv];clear hv
    have f5:decide (0<n)=true:=decide_eq_true f4
    have f6:decide ((0:Int)<(n:Int))=true:=decide_eq_true (by omega)
    go_enter Tryz.func137,Tryz.ntmps137
    go_wp2
    go_ret
    exact⟨rfl,by repeat(first|(with_reducible first|exact bLr)|((with_reducible first|refine bLs ?_ ?_ _|refine bLa ?_ ?_ _);·first|omega|(simp<;>omega))|with_reducible first|refine bLn ?_ _|refine bLd ?_)⟩
   ·rw[hv];clear hv
    subst f4
    go_enter Tryz.func137,Tryz.ntmps137
    go_wp2
    go_ret
    exact⟨rfl,by repeat(first|(with_reducible first|exact bLr)|((with_reducible first|refine bLs ?_ ?_ _|refine bLa ?_ ?_ _);·first|omega|(simp<;>omega))|with_reducible first|refine bLn ?_ _|refine bLd ?_)⟩
  ·rw[hv,if_pos rfl];clear hv
   obtain⟨c,hc⟩:∃c,frameChk k l n=c:=⟨_,rfl⟩
   have HC:=qh hc
   clear hc
   rw[HC.out]
   go_enter Tryz.func137,Tryz.ntmps137
   go_wp2_with fail
   refine(frameCheck_any k l q a n cap _ hk hl hn).mono ?_
   rw[HC.out]
   rintro e1 w1 ⟨rfl,rfl⟩
   go_wp2
   go_ret
   exact⟨rfl,by repeat(first|(with_reducible first|exact bLr)|((with_reducible first|refine bLs ?_ ?_ _|refine bLa ?_ ?_ _);·first|omega|(simp<;>omega))|with_reducible first|refine bLn ?_ _|refine bLd ?_)⟩
 all_goals
  rw[hv];clear hv
  go_enter Tryz.func137,Tryz.ntmps137
  go_wp2
  go_ret
  exact⟨rfl,by repeat(first|(with_reducible first|exact bLr)|((with_reducible first|refine bLs ?_ ?_ _|refine bLa ?_ ?_ _);·first|omega|(simp<;>omega))|with_reducible first|refine bLn ?_ _|refine bLd ?_)⟩
def LinkAt (w:World) (b:Nat) (k l q:Int) (v:Value) (h:Bool) (g d:Int):Prop:=
 w.cell? ⟨b,0,none⟩=some (.int .i64 k)∧w.cell? ⟨b,1,none⟩=some (.int .i64 l)∧w.cell? ⟨b,2,none⟩=some (.int .u8 q)∧w.cell? ⟨b,3,none⟩=some v∧
 w.cell? ⟨b,4,none⟩=some (.bool h)∧w.cell? ⟨b,5,none⟩=some (.int .i64 g)∧w.cell? ⟨b,6,none⟩=some (.int .i64 d)∧(∀o,w.frozen? ⟨b,o,none⟩=false)
theorem LinkAt.lt {w:World} {b:Nat} {k l q:Int} {v:Value} {h:Bool} {g d:Int} (H:LinkAt w b k l q v h g d):b<w.heap.size:=by
 have:=World.block_lt_of_cell? _ _ H.1
 simpa using this
theorem LinkAt.later {w w':World} {b B:Nat} {k l q:Int} {v:Value} {h:Bool} {g d:Int} (H:LinkAt w b k l q v h g d) (hB:Below B w w') (hb:b<B):LinkAt w' b k l q v h g d:=by
 obtain⟨h0,h1,h2,h3,h4,h5,h6,h7⟩:=H
 exact⟨(hB.cell hb).trans h0,(hB.cell hb).trans h1,(hB.cell hb).trans h2,(hB.cell hb).trans h3,(hB.cell hb).trans h4,(hB.cell hb).trans h5,(hB.cell hb).trans h6,fun o=>(hB.frozen hb).trans (h7 o)⟩
theorem LinkAt.other {w:World} {b c o:Nat} {k l q:Int} {v:Value} {h:Bool} {g d:Int} (H:LinkAt w b k l q v h g d) (hne:c≠b) (u:Value):LinkAt (w.setCell ⟨c,o,none⟩ u) b k l q v h g d:=by
 have ne:∀{x:Nat},(⟨c,o,none⟩:Addr)≠⟨b,x,none⟩:=fun e=>hne (congrArg Addr.block e)
 obtain⟨h0,h1,h2,h3,h4,h5,h6,h7⟩:=H
 exact⟨(World.cell?_setCell_other _ _ _ _ ne).trans h0,(World.cell?_setCell_other _ _ _ _ ne).trans h1,(World.cell?_setCell_other _ _ _ _ ne).trans h2,(World.cell?_setCell_other _ _ _ _ ne).trans h3,(World.cell?_setCell_other _ _ _ _ ne).trans h4,(World.cell?_setCell_other _ _ _ _ ne).trans h5,(World.cell?_setCell_other _ _ _ _ ne).trans h6,fun x=>by rw[World.frozen?_setCell];exact h7 x⟩
def wrLink (w:World) (b:Nat) (k l q:Int) (v:Value) (h:Bool) (g d:Int):World:=
 ((((((w.setCell ⟨b,0,none⟩ (.int .i64 k)).setCell ⟨b,1,none⟩ (.int .i64 l)).setCell ⟨b,2,none⟩ (.int .u8 q)).setCell ⟨b,3,none⟩ v).setCell ⟨b,4,none⟩ (.bool h)).setCell ⟨b,5,none⟩ (.int .i64 g)).setCell ⟨b,6,none⟩ (.int .i64 d)
theorem link_write {w:World} {b:Nat} {k l q:Int} {v:Value} {h:Bool} {g d:Int} (H:LinkAt w b k l q v h g d) (k' l' q':Int) (v':Value) (h':Bool) (g' d':Int):LinkAt (wrLink w b k' l' q' v' h' g' d') b k' l' q' v' h' g' d':=by
 have ne:∀{x y:Nat},x≠y→(⟨b,x,none⟩:Addr)≠⟨b,y,none⟩:=fun hxy e=>hxy (congrArg Addr.off e)
 obtain⟨h0,h1,h2,h3,h4,h5,h6,h7⟩:=H
 unfold wrLink
 refine⟨?_,?_,?_,?_,?_,?_,?_,fun o=>by simp only[World.frozen?_setCell];exact h7 o⟩
 ·rw[World.cell?_setCell_other _ _ _ _ (ne (by omega)),World.cell?_setCell_other _ _ _ _ (ne (by omega)),World.cell?_setCell_other _ _ _ _ (ne (by omega)),World.cell?_setCell_other _ _ _ _ (ne (by omega)),World.cell?_setCell_other _ _ _ _ (ne (by omega)),World.cell?_setCell_other _ _ _ _ (ne (by omega))]
  exact World.cell?_setCell_same _ _ _ h0
 ·rw[World.cell?_setCell_other _ _ _ _ (ne (by omega)),World.cell?_setCell_other _ _ _ _ (ne (by omega)),World.cell?_setCell_other _ _ _ _ (ne (by omega)),World.cell?_setCell_other _ _ _ _ (ne (by omega)),World.cell?_setCell_other _ _ _ _ (ne (by omega))]
  exact World.cell?_setCell_same _ _ _ ((World.cell?_setCell_other _ _ _ _ (ne (by omega))).trans h1)
 ·rw[World.cell?_setCell_other _ _ _ _ (ne (by omega)),World.cell?_setCell_other _ _ _ _ (ne (by omega)),World.cell?_setCell_other _ _ _ _ (ne (by omega)),World.cell?_setCell_other _ _ _ _ (ne (by omega))]
  exact World.cell?_setCell_same _ _ _ ((World.cell?_setCell_other _ _ _ _ (ne (by omega))).trans ((World.cell?_setCell_other _ _ _ _ (ne (by omega))).trans h2))
 ·rw[World.cell?_setCell_other _ _ _ _ (ne (by omega)),World.cell?_setCell_other _ _ _ _ (ne (by omega)),World.cell?_setCell_other _ _ _ _ (ne (by omega))]
  exact World.cell?_setCell_same _ _ _ ((World.cell?_setCell_other _ _ _ _ (ne (by omega))).trans ((World.cell?_setCell_other _ _ _ _ (ne (by omega))).trans ((World.cell?_setCell_other _ _ _ _ (ne (by omega))).trans h3)))
 ·rw[World.cell?_setCell_other _ _ _ _ (ne (by omega)),World.cell?_setCell_other _ _ _ _ (ne (by omega))]
  exact World.cell?_setCell_same _ _ _ ((World.cell?_setCell_other _ _ _ _ (ne (by omega))).trans ((World.cell?_setCell_other _ _ _ _ (ne (by omega))).trans ((World.cell?_setCell_other _ _ _ _ (ne (by omega))).trans ((World.cell?_setCell_other _ _ _ _ (ne (by omega))).trans h4))))
 ·rw[World.cell?_setCell_other _ _ _ _ (ne (by omega))]
  exact World.cell?_setCell_same _ _ _ ((World.cell?_setCell_other _ _ _ _ (ne (by omega))).trans ((World.cell?_setCell_other _ _ _ _ (ne (by omega))).trans ((World.cell?_setCell_other _ _ _ _ (ne (by omega))).trans ((World.cell?_setCell_other _ _ _ _ (ne (by omega))).trans ((World.cell?_setCell_other _ _ _ _ (ne (by omega))).trans h5)))))
 ·exact World.cell?_setCell_same _ _ _ ((World.cell?_setCell_other _ _ _ _ (ne (by omega))).trans ((World.cell?_setCell_other _ _ _ _ (ne (by omega))).trans ((World.cell?_setCell_other _ _ _ _ (ne (by omega))).trans ((World.cell?_setCell_other _ _ _ _ (ne (by omega))).trans ((World.cell?_setCell_other _ _ _ _ (ne (by omega))).trans ((World.cell?_setCell_other _ _ _ _ (ne (by omega))).trans h6))))))
theorem wrLink_below {w w0:World} {B b:Nat} (hB:Below B w0 w) (hb:B≤b) (k l q:Int) (v:Value) (h:Bool) (g d:Int):Below B w0 (wrLink w b k l q v h g d):=
 ((((((hB.setCell hb _).setCell hb _).setCell hb _).setCell hb _).setCell hb _).setCell hb _).setCell hb _
theorem wrLink_own {w:World} {base b:Nat} {e:TypeId} {size:Nat} {x:Value} {n:Nat} {xs:List Value} (ho:w.ownsRow base e size x n xs) (hb:b<base) (k l q:Int) (v:Value) (h:Bool) (g d:Int):(wrLink w b k l q v h g d).ownsRow base e size x n xs:=
 ownsRow_setCell_below (ownsRow_setCell_below (ownsRow_setCell_below (ownsRow_setCell_below (ownsRow_setCell_below (ownsRow_setCell_below (ownsRow_setCell_below ho (a:=⟨b,0,none⟩) hb _) (a:=⟨b,1,none⟩) hb _) (a:=⟨b,2,none⟩) hb _) (a:=⟨b,3,none⟩) hb _) (a:=⟨b,4,none⟩) hb _) (a:=⟨b,5,none⟩) hb _) (a:=⟨b,6,none⟩) hb _
def LinkPost (w:World) (k l q:Int) (ws:List Int) (h:Bool) (g d:Int) (e:Ending) (w':World):Prop:=
 ∃v,e=.returned (linkV k l q v h g d)∧w'.ownsRow w.heap.size 21 1 v ws.length (ws.map (.int .i32))∧Below w.heap.size w w'
theorem linkBad_any (k l q:Int) (v:Value) (ws:List Int) (h:Bool) (g d d':Int) (w:World) (hv:IntsAt .i32 w v ws) (hws:ws.length*4≤140737488351232) (hd:0≤d∧d≤10000) (hd':min 10000 (d+1)=d'):
  Calls Tryz.prog 140 #[linkV k l q v h g d] w (LinkPost w k l q ws h g d'):=by
 have HV:=qh hv
 clear hv
 obtain⟨a,cap,rfl⟩:=HV.out.len
 rcases(by omega:(d+1<10000∧d+1=d')∨(d=9999∧10000=d')∨(d=10000∧10000=d'))with⟨h1,rfl⟩|⟨rfl,rfl⟩|⟨rfl,rfl⟩
 ·clear hd'
  go_enter Tryz.func140,Tryz.ntmps140
  go_wp2_with fail
  refine(clone_i32 ws _ _ (by exact HV.out.later (((Below.refl w.heap.size w).alloc (Nat.le_refl _) _).alloc (by simp) _) (Nat.le_refl _)) (by simpa using hws)).mono ?_
  rintro e1 w1 ⟨v1,rfl,hown1,hb1⟩
  simp only[World.size_alloc]at hown1
  obtain⟨a1,cap1,rfl⟩:=(own_ints' hown1).len
  have A0:LinkAt w1 w.heap.size k l q (.slice a ws.length cap) h (g) (d+1):=⟨cell_later hb1 (by go_simp),cell_later hb1 (by go_simp),cell_later hb1 (by go_simp),cell_later hb1 (by go_simp),cell_later hb1 (by go_simp),cell_later hb1 (by go_simp),cell_later hb1 (by go_simp),fun o=>by rw[hb1.frozen (by first|omega|(simp<;>omega))];go_simp⟩
  have A1:LinkAt w1 (w.heap.size+1) 0 0 0 (.slice none 0 0) false 0 0:=⟨cell_later hb1 (by go_simp),cell_later hb1 (by go_simp),cell_later hb1 (by go_simp),cell_later hb1 (by go_simp),cell_later hb1 (by go_simp),cell_later hb1 (by go_simp),cell_later hb1 (by go_simp),fun o=>by rw[hb1.frozen (by first|omega|(simp<;>omega))];go_simp⟩
  have B1:Below w.heap.size w w1:=by repeat(first|(with_reducible first|exact bLr)|((with_reducible first|refine bLs ?_ ?_ _|refine bLt hb1 ?_ ?_|refine bLa ?_ ?_ _);·first|omega|(simp<;>omega))|with_reducible first|refine bLn ?_ _|refine bLd ?_)
  have HA1:=qh A1;have HB1:=qh B1;have HO1:=qh hown1
  have z0:=A0.lt;have z1:=A1.lt
  obtain⟨c0,c1,c2,c3,c4,c5,c6,cf⟩:=A0
  obtain⟨g0,g1,g2,g3,g4,g5,g6,gf⟩:=A1
  clear hb1 B1 hown1
  go_wp2
  have hW:=link_write (LinkAt.other HA1.out (o:=3) (show w.heap.size≠w.heap.size+1 by omega) (.slice a1 ws.length cap1)) k l q (.slice a1 ws.length cap1) h (g) (d+1)
  have hB9:Below w.heap.size w _:=wrLink_below (HB1.out.setCell (p:=⟨w.heap.size,3,none⟩) (Nat.le_refl _) (.slice a1 ws.length cap1)) (show w.heap.size≤w.heap.size+1 by omega) k l q (.slice a1 ws.length cap1) h (g) (d+1)
  have hO9:=wrLink_own (ownsRow_setCell_below HO1.out (a:=⟨w.heap.size,3,none⟩) (by show w.heap.size<w.heap.size+1+1;omega) (.slice a1 ws.length cap1)) (show w.heap.size+1<w.heap.size+1+1 by omega) k l q (.slice a1 ws.length cap1) h (g) (d+1)
  unfold wrLink at hW hB9 hO9
  clear c0 c1 c2 c3 c4 c5 c6 cf g0 g1 g2 g3 g4 g5 g6 gf
  generalize hw9:(((((((_:World).setCell _ _).setCell _ _).setCell _ _).setCell _ _).setCell _ _).setCell _ _).setCell _ _=w9 at hW hB9 hO9⊢
  clear hw9
  obtain⟨r0,r1,r2,r3,r4,r5,r6,-⟩:=hW
  exact bodyPost_ret (v:=linkV k l q (.slice a1 ws.length cap1) h g (d+1)) (by simp[results,Tryz.results140,go_sem,r0,r1,r2,r3,r4,r5,r6]) rfl ⟨_,rfl,own_mono hO9 (by omega),hB9⟩
 ·clear hd'
  go_enter Tryz.func140,Tryz.ntmps140
  go_wp2_with fail
  refine(clone_i32 ws _ _ (by exact HV.out.later (((Below.refl w.heap.size w).alloc (Nat.le_refl _) _).alloc (by simp) _) (Nat.le_refl _)) (by simpa using hws)).mono ?_
  rintro e1 w1 ⟨v1,rfl,hown1,hb1⟩
  simp only[World.size_alloc]at hown1
  obtain⟨a1,cap1,rfl⟩:=(own_ints' hown1).len
  have A0:LinkAt w1 w.heap.size k l q (.slice a ws.length cap) h (g) (10000):=⟨cell_later hb1 (by go_simp),cell_later hb1 (by go_simp),cell_later hb1 (by go_simp),cell_later hb1 (by go_simp),cell_later hb1 (by go_simp),cell_later hb1 (by go_simp),cell_later hb1 (by go_simp),fun o=>by rw[hb1.frozen (by first|omega|(simp<;>omega))];go_simp⟩
  have A1:LinkAt w1 (w.heap.size+1) 0 0 0 (.slice none 0 0) false 0 0:=⟨cell_later hb1 (by go_simp),cell_later hb1 (by go_simp),cell_later hb1 (by go_simp),cell_later hb1 (by go_simp),cell_later hb1 (by go_simp),cell_later hb1 (by go_simp),cell_later hb1 (by go_simp),fun o=>by rw[hb1.frozen (by first|omega|(simp<;>omega))];go_simp⟩
  have B1:Below w.heap.size w w1:=by repeat(first|(with_reducible first|exact bLr)|((with_reducible first|refine bLs ?_ ?_ _|refine bLt hb1 ?_ ?_|refine bLa ?_ ?_ _);·first|omega|(simp<;>omega))|with_reducible first|refine bLn ?_ _|refine bLd ?_)
  have HA1:=qh A1;have HB1:=qh B1;have HO1:=qh hown1
  have z0:=A0.lt;have z1:=A1.lt
  obtain⟨c0,c1,c2,c3,c4,c5,c6,cf⟩:=A0
  obtain⟨g0,g1,g2,g3,g4,g5,g6,gf⟩:=A1
  clear hb1 B1 hown1
  go_wp2
  have hW:=link_write (LinkAt.other HA1.out (o:=3) (show w.heap.size≠w.heap.size+1 by omega) (.slice a1 ws.length cap1)) k l q (.slice a1 ws.length cap1) h (g) (10000)
  have hB9:Below w.heap.size w _:=wrLink_below (HB1.out.setCell (p:=⟨w.heap.size,3,none⟩) (Nat.le_refl _) (.slice a1 ws.length cap1)) (show w.heap.size≤w.heap.size+1 by omega) k l q (.slice a1 ws.length cap1) h (g) (10000)
  have hO9:=wrLink_own (ownsRow_setCell_below HO1.out (a:=⟨w.heap.size,3,none⟩) (by show w.heap.size<w.heap.size+1+1;omega) (.slice a1 ws.length cap1)) (show w.heap.size+1<w.heap.size+1+1 by omega) k l q (.slice a1 ws.length cap1) h (g) (10000)
  unfold wrLink at hW hB9 hO9
  clear c0 c1 c2 c3 c4 c5 c6 cf g0 g1 g2 g3 g4 g5 g6 gf
  generalize hw9:(((((((_:World).setCell _ _).setCell _ _).setCell _ _).setCell _ _).setCell _ _).setCell _ _).setCell _ _=w9 at hW hB9 hO9⊢
  clear hw9
  obtain⟨r0,r1,r2,r3,r4,r5,r6,-⟩:=hW
  exact bodyPost_ret (v:=linkV k l q (.slice a1 ws.length cap1) h g (10000)) (by simp[results,Tryz.results140,go_sem,r0,r1,r2,r3,r4,r5,r6]) rfl ⟨_,rfl,own_mono hO9 (by omega),hB9⟩
 ·clear hd'
  go_enter Tryz.func140,Tryz.ntmps140
  go_wp2_with fail
  refine(clone_i32 ws _ _ (by exact HV.out.later (((Below.refl w.heap.size w).alloc (Nat.le_refl _) _).alloc (by simp) _) (Nat.le_refl _)) (by simpa using hws)).mono ?_
  rintro e1 w1 ⟨v1,rfl,hown1,hb1⟩
  simp only[World.size_alloc]at hown1
  obtain⟨a1,cap1,rfl⟩:=(own_ints' hown1).len
  have A0:LinkAt w1 w.heap.size k l q (.slice a ws.length cap) h (g) (10000):=⟨cell_later hb1 (by go_simp),cell_later hb1 (by go_simp),cell_later hb1 (by go_simp),cell_later hb1 (by go_simp),cell_later hb1 (by go_simp),cell_later hb1 (by go_simp),cell_later hb1 (by go_simp),fun o=>by rw[hb1.frozen (by first|omega|(simp<;>omega))];go_simp⟩
  have A1:LinkAt w1 (w.heap.size+1) 0 0 0 (.slice none 0 0) false 0 0:=⟨cell_later hb1 (by go_simp),cell_later hb1 (by go_simp),cell_later hb1 (by go_simp),cell_later hb1 (by go_simp),cell_later hb1 (by go_simp),cell_later hb1 (by go_simp),cell_later hb1 (by go_simp),fun o=>by rw[hb1.frozen (by first|omega|(simp<;>omega))];go_simp⟩
  have B1:Below w.heap.size w w1:=by repeat(first|(with_reducible first|exact bLr)|((with_reducible first|refine bLs ?_ ?_ _|refine bLt hb1 ?_ ?_|refine bLa ?_ ?_ _);·first|omega|(simp<;>omega))|with_reducible first|refine bLn ?_ _|refine bLd ?_)
  have HA1:=qh A1;have HB1:=qh B1;have HO1:=qh hown1
  have z0:=A0.lt;have z1:=A1.lt
  obtain⟨c0,c1,c2,c3,c4,c5,c6,cf⟩:=A0
  obtain⟨g0,g1,g2,g3,g4,g5,g6,gf⟩:=A1
  clear hb1 B1 hown1
  go_wp2
  have hW:=link_write (LinkAt.other HA1.out (o:=3) (show w.heap.size≠w.heap.size+1 by omega) (.slice a1 ws.length cap1)) k l q (.slice a1 ws.length cap1) h (g) (10000)
  have hB9:Below w.heap.size w _:=wrLink_below (HB1.out.setCell (p:=⟨w.heap.size,3,none⟩) (Nat.le_refl _) (.slice a1 ws.length cap1)) (show w.heap.size≤w.heap.size+1 by omega) k l q (.slice a1 ws.length cap1) h (g) (10000)
  have hO9:=wrLink_own (ownsRow_setCell_below HO1.out (a:=⟨w.heap.size,3,none⟩) (by show w.heap.size<w.heap.size+1+1;omega) (.slice a1 ws.length cap1)) (show w.heap.size+1<w.heap.size+1+1 by omega) k l q (.slice a1 ws.length cap1) h (g) (10000)
  unfold wrLink at hW hB9 hO9
  clear c0 c1 c2 c3 c4 c5 c6 cf g0 g1 g2 g3 g4 g5 g6 gf
  generalize hw9:(((((((_:World).setCell _ _).setCell _ _).setCell _ _).setCell _ _).setCell _ _).setCell _ _).setCell _ _=w9 at hW hB9 hO9⊢
  clear hw9
  obtain⟨r0,r1,r2,r3,r4,r5,r6,-⟩:=hW
  exact bodyPost_ret (v:=linkV k l q (.slice a1 ws.length cap1) h g (10000)) (by simp[results,Tryz.results140,go_sem,r0,r1,r2,r3,r4,r5,r6]) rfl ⟨_,rfl,own_mono hO9 (by omega),hB9⟩
theorem LinkAt.age {w:World} {b:Nat} {k l q:Int} {v:Value} {h:Bool} {g d:Int} (H:LinkAt w b k l q v h g d) (g':Int):LinkAt (w.setCell ⟨b,5,none⟩ (.int .i64 g')) b k l q v h g' d:=by
 have ne:∀{x y:Nat},x≠y→(⟨b,x,none⟩:Addr)≠⟨b,y,none⟩:=fun hxy e=>hxy (congrArg Addr.off e)
 obtain⟨h0,h1,h2,h3,h4,h5,h6,h7⟩:=H
 exact⟨(World.cell?_setCell_other _ _ _ _ (ne (by omega))).trans h0,(World.cell?_setCell_other _ _ _ _ (ne (by omega))).trans h1,(World.cell?_setCell_other _ _ _ _ (ne (by omega))).trans h2,(World.cell?_setCell_other _ _ _ _ (ne (by omega))).trans h3,(World.cell?_setCell_other _ _ _ _ (ne (by omega))).trans h4,World.cell?_setCell_same _ _ _ h5,(World.cell?_setCell_other _ _ _ _ (ne (by omega))).trans h6,fun x=>by rw[World.frozen?_setCell];exact h7 x⟩
def TickPost (w:World) (k l q:Int) (ws:List Int) (h:Bool) (g d:Int) (e:Ending) (w':World):Prop:=
 ∃v,e=.returned (.tuple #[linkV k l q v h g d,.int .i64 0])∧w'.ownsRow w.heap.size 21 1 v ws.length (ws.map (.int .i32))∧Below w.heap.size w w'
def ageI (h:Bool) (g:Int):Int:=if h=true then min 100 (g+1)else g
theorem linkTick_yes (k l q:Int) (v:Value) (ws:List Int) (h:Bool) (g d g':Int) (w:World) (hv:IntsAt .i32 w v ws) (hws:ws.length*4≤140737488351232) (hk:I64B k) (hl:I64B l) (hc:linkChk k l q ws.length h g d=0) (hg':ageI h g=g'):
  Calls Tryz.prog 102 #[linkV k l q v h g d] w (TickPost w k l q ws h g' d):=by
 have hg:0≤g∧g≤100:=by unfold linkChk at hc;split at hc<;>omega
 have HV:=qh hv;have HC:=qh hc
 have hn:ws.length≤9223372036854775807:=by omega
 clear hv hc
 obtain⟨a,cap,rfl⟩:=HV.out.len
 cases h
 ·have hgg:g'=g:=by rw[←hg'];rfl
  subst hgg
  clear hg'
  go_enter Tryz.func102,Tryz.ntmps102
  go_wp2_with fail
  refine(linkCheck_any k l q a ws.length cap false g' d _ hk hl hn).mono ?_
  rw[HC.out]
  rintro e1 w1 ⟨rfl,hb1⟩
  have A0:LinkAt w1 w.heap.size k l q (.slice a ws.length cap) false g' d:=⟨cell_later hb1 (by go_simp),cell_later hb1 (by go_simp),cell_later hb1 (by go_simp),cell_later hb1 (by go_simp),cell_later hb1 (by go_simp),cell_later hb1 (by go_simp),cell_later hb1 (by go_simp),fun o=>by rw[hb1.frozen (by first|omega|(simp<;>omega))];go_simp⟩
  have A1:LinkAt w1 (w.heap.size+1) 0 0 0 (.slice none 0 0) false 0 0:=⟨cell_later hb1 (by go_simp),cell_later hb1 (by go_simp),cell_later hb1 (by go_simp),cell_later hb1 (by go_simp),cell_later hb1 (by go_simp),cell_later hb1 (by go_simp),cell_later hb1 (by go_simp),fun o=>by rw[hb1.frozen (by first|omega|(simp<;>omega))];go_simp⟩
  have HA1:=qh A1
  have z1:=A1.lt
  obtain⟨g0,g1,g2,g3,g4,g5,g6,gf⟩:=A1
  have B1:Below w.heap.size w w1:=by repeat(first|(with_reducible first|exact bLr)|((with_reducible first|refine bLs ?_ ?_ _|refine bLt hb1 ?_ ?_|refine bLa ?_ ?_ _);·first|omega|(simp<;>omega))|with_reducible first|refine bLn ?_ _|refine bLd ?_)
  have HA0:=qh A0;have HB1:=qh B1
  have z0:=A0.lt
  obtain⟨c0,c1,c2,c3,c4,c5,c6,cf⟩:=A0
  clear hb1 B1
  go_wp2_with fail
  have HB2:=qh (HB1.out)
  have HA2:=qh (HA0.out)
  refine(clone_i32 ws _ _ (by exact HV.out.later HB2.out (Nat.le_refl _)) hws).mono ?_
  rintro e2 w2 ⟨v2,rfl,hown2,hb2⟩
  obtain⟨a1,cap1,rfl⟩:=(own_ints' hown2).len
  have C0:=HA2.out.later hb2 HA2.out.lt
  have C1:=(HA1.out).later hb2 (HA1.out).lt
  have HB3:=qh (HB2.out.trans (hb2.mono HB2.out.size))
  have HC1:=qh C1;have HO2:=qh (own_mono hown2 (show w.heap.size+1+1≤_ from z1))
  clear c0 c1 c2 c3 c4 c5 c6 cf g0 g1 g2 g3 g4 g5 g6 gf z0 z1 hown2 hb2
  have z0:=C0.lt;have z1:=C1.lt
  obtain⟨c0,c1,c2,c3,c4,c5,c6,cf⟩:=C0
  obtain⟨g0,g1,g2,g3,g4,g5,g6,gf⟩:=C1
  clear hws
  go_wp2
  have hW:=link_write (LinkAt.other HC1.out (o:=3) (show w.heap.size≠w.heap.size+1 by omega) (.slice a1 ws.length cap1)) k l q (.slice a1 ws.length cap1) false (g') d
  have hB9:Below w.heap.size w _:=wrLink_below (HB3.out.setCell (p:=⟨w.heap.size,3,none⟩) (Nat.le_refl _) (.slice a1 ws.length cap1)) (show w.heap.size≤w.heap.size+1 by omega) k l q (.slice a1 ws.length cap1) false (g') d
  have hO9:=wrLink_own (ownsRow_setCell_below HO2.out (a:=⟨w.heap.size,3,none⟩) (by show w.heap.size<w.heap.size+1+1;omega) (.slice a1 ws.length cap1)) (show w.heap.size+1<w.heap.size+1+1 by omega) k l q (.slice a1 ws.length cap1) false (g') d
  unfold wrLink at hW hB9 hO9
  clear c0 c1 c2 c3 c4 c5 c6 cf g0 g1 g2 g3 g4 g5 g6 gf
  generalize hw9:(((((((_:World).setCell _ _).setCell _ _).setCell _ _).setCell _ _).setCell _ _).setCell _ _).setCell _ _=w9 at hW hB9 hO9⊢
  clear hw9
  obtain⟨r0,r1,r2,r3,r4,r5,r6,-⟩:=hW
  exact bodyPost_ret (v:=.tuple #[linkV k l q (.slice a1 ws.length cap1) false (g') d,.int .i64 0]) (by simp[results,Tryz.results102,go_sem,r0,r1,r2,r3,r4,r5,r6]) rfl ⟨_,rfl,own_mono hO9 (by omega),hB9⟩
 ·have hcase:(g+1<100∧g'=g+1)∨(g=99∧g'=100)∨(g=100∧g'=100):=by rw[←hg'];unfold ageI;rw[if_pos rfl];omega
  clear hg'
  rcases hcase with⟨h1,rfl⟩|⟨rfl,rfl⟩|⟨rfl,rfl⟩
  ·go_enter Tryz.func102,Tryz.ntmps102
   go_wp2_with fail
   refine(linkCheck_any k l q a ws.length cap true g d _ hk hl hn).mono ?_
   rw[HC.out]
   rintro e1 w1 ⟨rfl,hb1⟩
   have A0:LinkAt w1 w.heap.size k l q (.slice a ws.length cap) true g d:=⟨cell_later hb1 (by go_simp),cell_later hb1 (by go_simp),cell_later hb1 (by go_simp),cell_later hb1 (by go_simp),cell_later hb1 (by go_simp),cell_later hb1 (by go_simp),cell_later hb1 (by go_simp),fun o=>by rw[hb1.frozen (by first|omega|(simp<;>omega))];go_simp⟩
   have A1:LinkAt w1 (w.heap.size+1) 0 0 0 (.slice none 0 0) false 0 0:=⟨cell_later hb1 (by go_simp),cell_later hb1 (by go_simp),cell_later hb1 (by go_simp),cell_later hb1 (by go_simp),cell_later hb1 (by go_simp),cell_later hb1 (by go_simp),cell_later hb1 (by go_simp),fun o=>by rw[hb1.frozen (by first|omega|(simp<;>omega))];go_simp⟩
   have HA1:=qh A1
   have z1:=A1.lt
   obtain⟨g0,g1,g2,g3,g4,g5,g6,gf⟩:=A1
   have B1:Below w.heap.size w w1:=by repeat(first|(with_reducible first|exact bLr)|((with_reducible first|refine bLs ?_ ?_ _|refine bLt hb1 ?_ ?_|refine bLa ?_ ?_ _);·first|omega|(simp<;>omega))|with_reducible first|refine bLn ?_ _|refine bLd ?_)
   have HA0:=qh A0;have HB1:=qh B1
   have z0:=A0.lt
   obtain⟨c0,c1,c2,c3,c4,c5,c6,cf⟩:=A0
   clear hb1 B1
   go_wp2_with fail
   have HB2:=qh (HB1.out.setCell (p:=⟨w.heap.size,5,none⟩) (Nat.le_refl _) (.int .i64 (g+1)))
   have HA2:=qh (HA0.out.age (g+1))
   refine(clone_i32 ws _ _ (by exact HV.out.later HB2.out (Nat.le_refl _)) hws).mono ?_
   rintro e2 w2 ⟨v2,rfl,hown2,hb2⟩
   obtain⟨a1,cap1,rfl⟩:=(own_ints' hown2).len
   have C0:=HA2.out.later hb2 HA2.out.lt
   have C1:=(LinkAt.other HA1.out (o:=5) (show w.heap.size≠w.heap.size+1 by omega) (.int .i64 (g+1))).later hb2 (LinkAt.other HA1.out (o:=5) (show w.heap.size≠w.heap.size+1 by omega) (.int .i64 (g+1))).lt
   have HB3:=qh (HB2.out.trans (hb2.mono HB2.out.size))
   have HC1:=qh C1;have HO2:=qh (own_mono hown2 (show w.heap.size+1+1≤_ from Nat.le_trans z1 ((Below.refl w.heap.size w1).setCell (p:=⟨w.heap.size,5,none⟩) (Nat.le_refl _) (.int .i64 (g+1))).size))
   clear c0 c1 c2 c3 c4 c5 c6 cf g0 g1 g2 g3 g4 g5 g6 gf z0 z1 hown2 hb2
   have z0:=C0.lt;have z1:=C1.lt
   obtain⟨c0,c1,c2,c3,c4,c5,c6,cf⟩:=C0
   obtain⟨g0,g1,g2,g3,g4,g5,g6,gf⟩:=C1
   clear hws
   go_wp2
   have hW:=link_write (LinkAt.other HC1.out (o:=3) (show w.heap.size≠w.heap.size+1 by omega) (.slice a1 ws.length cap1)) k l q (.slice a1 ws.length cap1) true (g+1) d
   have hB9:Below w.heap.size w _:=wrLink_below (HB3.out.setCell (p:=⟨w.heap.size,3,none⟩) (Nat.le_refl _) (.slice a1 ws.length cap1)) (show w.heap.size≤w.heap.size+1 by omega) k l q (.slice a1 ws.length cap1) true (g+1) d
   have hO9:=wrLink_own (ownsRow_setCell_below HO2.out (a:=⟨w.heap.size,3,none⟩) (by show w.heap.size<w.heap.size+1+1;omega) (.slice a1 ws.length cap1)) (show w.heap.size+1<w.heap.size+1+1 by omega) k l q (.slice a1 ws.length cap1) true (g+1) d
   unfold wrLink at hW hB9 hO9
   clear c0 c1 c2 c3 c4 c5 c6 cf g0 g1 g2 g3 g4 g5 g6 gf
   generalize hw9:(((((((_:World).setCell _ _).setCell _ _).setCell _ _).setCell _ _).setCell _ _).setCell _ _).setCell _ _=w9 at hW hB9 hO9⊢
   clear hw9
   obtain⟨r0,r1,r2,r3,r4,r5,r6,-⟩:=hW
   exact bodyPost_ret (v:=.tuple #[linkV k l q (.slice a1 ws.length cap1) true (g+1) d,.int .i64 0]) (by simp[results,Tryz.results102,go_sem,r0,r1,r2,r3,r4,r5,r6]) rfl ⟨_,rfl,own_mono hO9 (by omega),hB9⟩
  ·go_enter Tryz.func102,Tryz.ntmps102
   go_wp2_with fail
   refine(linkCheck_any k l q a ws.length cap true (99) d _ hk hl hn).mono ?_
   rw[HC.out]
   rintro e1 w1 ⟨rfl,hb1⟩
   have A0:LinkAt w1 w.heap.size k l q (.slice a ws.length cap) true 99 d:=⟨cell_later hb1 (by go_simp),cell_later hb1 (by go_simp),cell_later hb1 (by go_simp),cell_later hb1 (by go_simp),cell_later hb1 (by go_simp),cell_later hb1 (by go_simp),cell_later hb1 (by go_simp),fun o=>by rw[hb1.frozen (by first|omega|(simp<;>omega))];go_simp⟩
   have A1:LinkAt w1 (w.heap.size+1) 0 0 0 (.slice none 0 0) false 0 0:=⟨cell_later hb1 (by go_simp),cell_later hb1 (by go_simp),cell_later hb1 (by go_simp),cell_later hb1 (by go_simp),cell_later hb1 (by go_simp),cell_later hb1 (by go_simp),cell_later hb1 (by go_simp),fun o=>by rw[hb1.frozen (by first|omega|(simp<;>omega))];go_simp⟩
   have HA1:=qh A1
   have z1:=A1.lt
   obtain⟨g0,g1,g2,g3,g4,g5,g6,gf⟩:=A1
   have B1:Below w.heap.size w w1:=by repeat(first|(with_reducible first|exact bLr)|((with_reducible first|refine bLs ?_ ?_ _|refine bLt hb1 ?_ ?_|refine bLa ?_ ?_ _);·first|omega|(simp<;>omega))|with_reducible first|refine bLn ?_ _|refine bLd ?_)
   have HA0:=qh A0;have HB1:=qh B1
   have z0:=A0.lt
   obtain⟨c0,c1,c2,c3,c4,c5,c6,cf⟩:=A0
   clear hb1 B1
   go_wp2_with fail
   have HB2:=qh (HB1.out.setCell (p:=⟨w.heap.size,5,none⟩) (Nat.le_refl _) (.int .i64 (100)))
   have HA2:=qh (HA0.out.age (100))
   refine(clone_i32 ws _ _ (by exact HV.out.later HB2.out (Nat.le_refl _)) hws).mono ?_
   rintro e2 w2 ⟨v2,rfl,hown2,hb2⟩
   obtain⟨a1,cap1,rfl⟩:=(own_ints' hown2).len
   have C0:=HA2.out.later hb2 HA2.out.lt
   have C1:=(LinkAt.other HA1.out (o:=5) (show w.heap.size≠w.heap.size+1 by omega) (.int .i64 (100))).later hb2 (LinkAt.other HA1.out (o:=5) (show w.heap.size≠w.heap.size+1 by omega) (.int .i64 (100))).lt
   have HB3:=qh (HB2.out.trans (hb2.mono HB2.out.size))
   have HC1:=qh C1;have HO2:=qh (own_mono hown2 (show w.heap.size+1+1≤_ from Nat.le_trans z1 ((Below.refl w.heap.size w1).setCell (p:=⟨w.heap.size,5,none⟩) (Nat.le_refl _) (.int .i64 (100))).size))
   clear c0 c1 c2 c3 c4 c5 c6 cf g0 g1 g2 g3 g4 g5 g6 gf z0 z1 hown2 hb2
   have z0:=C0.lt;have z1:=C1.lt
   obtain⟨c0,c1,c2,c3,c4,c5,c6,cf⟩:=C0
   obtain⟨g0,g1,g2,g3,g4,g5,g6,gf⟩:=C1
   clear hws
   go_wp2
   have hW:=link_write (LinkAt.other HC1.out (o:=3) (show w.heap.size≠w.heap.size+1 by omega) (.slice a1 ws.length cap1)) k l q (.slice a1 ws.length cap1) true (100) d
   have hB9:Below w.heap.size w _:=wrLink_below (HB3.out.setCell (p:=⟨w.heap.size,3,none⟩) (Nat.le_refl _) (.slice a1 ws.length cap1)) (show w.heap.size≤w.heap.size+1 by omega) k l q (.slice a1 ws.length cap1) true (100) d
   have hO9:=wrLink_own (ownsRow_setCell_below HO2.out (a:=⟨w.heap.size,3,none⟩) (by show w.heap.size<w.heap.size+1+1;omega) (.slice a1 ws.length cap1)) (show w.heap.size+1<w.heap.size+1+1 by omega) k l q (.slice a1 ws.length cap1) true (100) d
   unfold wrLink at hW hB9 hO9
   clear c0 c1 c2 c3 c4 c5 c6 cf g0 g1 g2 g3 g4 g5 g6 gf
   generalize hw9:(((((((_:World).setCell _ _).setCell _ _).setCell _ _).setCell _ _).setCell _ _).setCell _ _).setCell _ _=w9 at hW hB9 hO9⊢
   clear hw9
   obtain⟨r0,r1,r2,r3,r4,r5,r6,-⟩:=hW
   exact bodyPost_ret (v:=.tuple #[linkV k l q (.slice a1 ws.length cap1) true (100) d,.int .i64 0]) (by simp[results,Tryz.results102,go_sem,r0,r1,r2,r3,r4,r5,r6]) rfl ⟨_,rfl,own_mono hO9 (by omega),hB9⟩
  ·go_enter Tryz.func102,Tryz.ntmps102
   go_wp2_with fail
   refine(linkCheck_any k l q a ws.length cap true (100) d _ hk hl hn).mono ?_
   rw[HC.out]
   rintro e1 w1 ⟨rfl,hb1⟩
   have A0:LinkAt w1 w.heap.size k l q (.slice a ws.length cap) true 100 d:=⟨cell_later hb1 (by go_simp),cell_later hb1 (by go_simp),cell_later hb1 (by go_simp),cell_later hb1 (by go_simp),cell_later hb1 (by go_simp),cell_later hb1 (by go_simp),cell_later hb1 (by go_simp),fun o=>by rw[hb1.frozen (by first|omega|(simp<;>omega))];go_simp⟩
   have A1:LinkAt w1 (w.heap.size+1) 0 0 0 (.slice none 0 0) false 0 0:=⟨cell_later hb1 (by go_simp),cell_later hb1 (by go_simp),cell_later hb1 (by go_simp),cell_later hb1 (by go_simp),cell_later hb1 (by go_simp),cell_later hb1 (by go_simp),cell_later hb1 (by go_simp),fun o=>by rw[hb1.frozen (by first|omega|(simp<;>omega))];go_simp⟩
   have HA1:=qh A1
   have z1:=A1.lt
   obtain⟨g0,g1,g2,g3,g4,g5,g6,gf⟩:=A1
   have B1:Below w.heap.size w w1:=by repeat(first|(with_reducible first|exact bLr)|((with_reducible first|refine bLs ?_ ?_ _|refine bLt hb1 ?_ ?_|refine bLa ?_ ?_ _);·first|omega|(simp<;>omega))|with_reducible first|refine bLn ?_ _|refine bLd ?_)
   have HA0:=qh A0;have HB1:=qh B1
   have z0:=A0.lt
   obtain⟨c0,c1,c2,c3,c4,c5,c6,cf⟩:=A0
   clear hb1 B1
   go_wp2_with fail
   have HB2:=qh (HB1.out.setCell (p:=⟨w.heap.size,5,none⟩) (Nat.le_refl _) (.int .i64 (100)))
   have HA2:=qh (HA0.out.age (100))
   refine(clone_i32 ws _ _ (by exact HV.out.later HB2.out (Nat.le_refl _)) hws).mono ?_
   rintro e2 w2 ⟨v2,rfl,hown2,hb2⟩
   obtain⟨a1,cap1,rfl⟩:=(own_ints' hown2).len
   have C0:=HA2.out.later hb2 HA2.out.lt
   have C1:=(LinkAt.other HA1.out (o:=5) (show w.heap.size≠w.heap.size+1 by omega) (.int .i64 (100))).later hb2 (LinkAt.other HA1.out (o:=5) (show w.heap.size≠w.heap.size+1 by omega) (.int .i64 (100))).lt
   have HB3:=qh (HB2.out.trans (hb2.mono HB2.out.size))
   have HC1:=qh C1;have HO2:=qh (own_mono hown2 (show w.heap.size+1+1≤_ from Nat.le_trans z1 ((Below.refl w.heap.size w1).setCell (p:=⟨w.heap.size,5,none⟩) (Nat.le_refl _) (.int .i64 (100))).size))
   clear c0 c1 c2 c3 c4 c5 c6 cf g0 g1 g2 g3 g4 g5 g6 gf z0 z1 hown2 hb2
   have z0:=C0.lt;have z1:=C1.lt
   obtain⟨c0,c1,c2,c3,c4,c5,c6,cf⟩:=C0
   obtain⟨g0,g1,g2,g3,g4,g5,g6,gf⟩:=C1
   clear hws
   go_wp2
   have hW:=link_write (LinkAt.other HC1.out (o:=3) (show w.heap.size≠w.heap.size+1 by omega) (.slice a1 ws.length cap1)) k l q (.slice a1 ws.length cap1) true (100) d
   have hB9:Below w.heap.size w _:=wrLink_below (HB3.out.setCell (p:=⟨w.heap.size,3,none⟩) (Nat.le_refl _) (.slice a1 ws.length cap1)) (show w.heap.size≤w.heap.size+1 by omega) k l q (.slice a1 ws.length cap1) true (100) d
   have hO9:=wrLink_own (ownsRow_setCell_below HO2.out (a:=⟨w.heap.size,3,none⟩) (by show w.heap.size<w.heap.size+1+1;omega) (.slice a1 ws.length cap1)) (show w.heap.size+1<w.heap.size+1+1 by omega) k l q (.slice a1 ws.length cap1) true (100) d
   unfold wrLink at hW hB9 hO9
   clear c0 c1 c2 c3 c4 c5 c6 cf g0 g1 g2 g3 g4 g5 g6 gf
   generalize hw9:(((((((_:World).setCell _ _).setCell _ _).setCell _ _).setCell _ _).setCell _ _).setCell _ _).setCell _ _=w9 at hW hB9 hO9⊢
   clear hw9
   obtain⟨r0,r1,r2,r3,r4,r5,r6,-⟩:=hW
   exact bodyPost_ret (v:=.tuple #[linkV k l q (.slice a1 ws.length cap1) true (100) d,.int .i64 0]) (by simp[results,Tryz.results102,go_sem,r0,r1,r2,r3,r4,r5,r6]) rfl ⟨_,rfl,own_mono hO9 (by omega),hB9⟩
theorem linkWords_bad (k l q:Int) (v:Value) (ws:List Int) (h:Bool) (g d m c:Int) (w:World) (hv:IntsAt .i32 w v ws) (hn:ws.length≤9223372036854775807) (hk:I64B k) (hl:I64B l) (hm:I64B m)
  (hc:(linkChk k l q ws.length h g d=c∧c≠0)∨(linkChk k l q ws.length h g d=0∧h=false∧c=7)∨(linkChk k l q ws.length h g d=0∧h=true∧m<g∧c=6)):
  Calls Tryz.prog 105 #[linkV k l q v h g d,.int .i64 m] w fun e w'=>e=.returned (.tuple #[.slice none 0 0,.int .i64 c])∧Below w.heap.size w w':=by
 obtain⟨a,cap,rfl⟩:=hv.len
 clear hv
 rcases hc with⟨hc,h0⟩|⟨hc,rfl,rfl⟩|⟨hc,rfl,h1,rfl⟩
 ·have HC:=qh hc
  have dc:(c != 0)=true:=by simpa using h0
  clear hc h0
  go_enter Tryz.func105,Tryz.ntmps105
  go_wp2_with fail
  refine(linkCheck_any k l q a ws.length cap h g d _ hk hl hn).mono ?_
  rw[HC.out]
  rintro e1 w1 ⟨rfl,hb1⟩
  have B1:Below w.heap.size w w1:=by repeat(first|(with_reducible first|exact bLr)|((with_reducible first|refine bLs ?_ ?_ _|refine bLt hb1 ?_ ?_|refine bLa ?_ ?_ _);·first|omega|(simp<;>omega))|with_reducible first|refine bLn ?_ _|refine bLd ?_)
  go_wp2
  go_ret2
  exact⟨rfl,B1⟩
 ·have HC:=qh hc
  clear hc
  go_enter Tryz.func105,Tryz.ntmps105
  go_wp2_with fail
  refine(linkCheck_any k l q a ws.length cap false g d _ hk hl hn).mono ?_
  rw[HC.out]
  rintro e1 w1 ⟨rfl,hb1⟩
  have A0:LinkAt w1 w.heap.size k l q (.slice a ws.length cap) false g d:=⟨cell_later hb1 (by go_simp),cell_later hb1 (by go_simp),cell_later hb1 (by go_simp),cell_later hb1 (by go_simp),cell_later hb1 (by go_simp),cell_later hb1 (by go_simp),cell_later hb1 (by go_simp),fun o=>by rw[hb1.frozen (by first|omega|(simp<;>omega))];go_simp⟩
  have B1:Below w.heap.size w w1:=by repeat(first|(with_reducible first|exact bLr)|((with_reducible first|refine bLs ?_ ?_ _|refine bLt hb1 ?_ ?_|refine bLa ?_ ?_ _);·first|omega|(simp<;>omega))|with_reducible first|refine bLn ?_ _|refine bLd ?_)
  have HA0:=qh A0;have HB1:=qh B1
  have z0:=A0.lt
  obtain⟨c0,c1,c2,c3,c4,c5,c6,cf⟩:=A0
  clear hb1 B1
  go_wp2
  go_ret2
  exact⟨rfl,HB1.out⟩
 ·have HC:=qh hc
  have dm:decide (m<g)=true:=decide_eq_true h1
  clear hc h1
  go_enter Tryz.func105,Tryz.ntmps105
  go_wp2_with fail
  refine(linkCheck_any k l q a ws.length cap true g d _ hk hl hn).mono ?_
  rw[HC.out]
  rintro e1 w1 ⟨rfl,hb1⟩
  have A0:LinkAt w1 w.heap.size k l q (.slice a ws.length cap) true g d:=⟨cell_later hb1 (by go_simp),cell_later hb1 (by go_simp),cell_later hb1 (by go_simp),cell_later hb1 (by go_simp),cell_later hb1 (by go_simp),cell_later hb1 (by go_simp),cell_later hb1 (by go_simp),fun o=>by rw[hb1.frozen (by first|omega|(simp<;>omega))];go_simp⟩
  have B1:Below w.heap.size w w1:=by repeat(first|(with_reducible first|exact bLr)|((with_reducible first|refine bLs ?_ ?_ _|refine bLt hb1 ?_ ?_|refine bLa ?_ ?_ _);·first|omega|(simp<;>omega))|with_reducible first|refine bLn ?_ _|refine bLd ?_)
  have HA0:=qh A0;have HB1:=qh B1
  have z0:=A0.lt
  obtain⟨c0,c1,c2,c3,c4,c5,c6,cf⟩:=A0
  clear hb1 B1
  go_wp2
  go_ret2
  exact⟨rfl,HB1.out⟩
theorem linkWords_yes (k l q:Int) (v:Value) (ws:List Int) (g d m:Int) (w:World) (hv:IntsAt .i32 w v ws) (hws:ws.length*4≤140737488351232) (hk:I64B k) (hl:I64B l) (hm:I64B m)
  (hc:linkChk k l q ws.length true g d=0) (hg:g≤m):
  Calls Tryz.prog 105 #[linkV k l q v true g d,.int .i64 m] w fun e w'=>∃v',e=.returned (.tuple #[v',.int .i64 0])∧w'.ownsRow w.heap.size 21 1 v' ws.length (ws.map (.int .i32))∧Below w.heap.size w w':=by
 have HV:=qh hv;have HC:=qh hc
 have hn:ws.length≤9223372036854775807:=by omega
 have dm:decide (m<g)=false:=decide_eq_false (by omega)
 obtain⟨a,cap,rfl⟩:=hv.len
 clear hv hc
 go_enter Tryz.func105,Tryz.ntmps105
 go_wp2_with fail
 refine(linkCheck_any k l q a ws.length cap true g d _ hk hl hn).mono ?_
 rw[HC.out]
 rintro e1 w1 ⟨rfl,hb1⟩
 have A0:LinkAt w1 w.heap.size k l q (.slice a ws.length cap) true g d:=⟨cell_later hb1 (by go_simp),cell_later hb1 (by go_simp),cell_later hb1 (by go_simp),cell_later hb1 (by go_simp),cell_later hb1 (by go_simp),cell_later hb1 (by go_simp),cell_later hb1 (by go_simp),fun o=>by rw[hb1.frozen (by first|omega|(simp<;>omega))];go_simp⟩
 have B1:Below w.heap.size w w1:=by repeat(first|(with_reducible first|exact bLr)|((with_reducible first|refine bLs ?_ ?_ _|refine bLt hb1 ?_ ?_|refine bLa ?_ ?_ _);·first|omega|(simp<;>omega))|with_reducible first|refine bLn ?_ _|refine bLd ?_)
 have HA0:=qh A0;have HB1:=qh B1
 have z0:=A0.lt
 obtain⟨c0,c1,c2,c3,c4,c5,c6,cf⟩:=A0
 clear hb1 B1
 go_wp2_with fail
 refine(clone_i32 ws _ _ (by exact HV.out.later HB1.out (Nat.le_refl _)) hws).mono ?_
 rintro e2 w2 ⟨v2,rfl,hown2,hb2⟩
 obtain⟨a1,cap1,rfl⟩:=(own_ints' hown2).len
 have HB2:=qh (HB1.out.trans (hb2.mono HB1.out.size))
 have HO2:=qh (own_mono hown2 HB1.out.size)
 clear hb2 hown2
 go_wp2
 go_ret2
 exact⟨_,rfl,HO2.out,HB2.out⟩
end Go.Proofs.YtpkiepjmcepnoaaGreatDoor
