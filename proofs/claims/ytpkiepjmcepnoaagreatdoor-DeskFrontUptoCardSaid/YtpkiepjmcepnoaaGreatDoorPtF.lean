/- A part of a proof. -/
import Derived.Lib.Hide
import Derived.Laws.MakeOwn
import Derived.OwnWalk
import Derived.BigQuiet
import Derived.Deep.QuietTactic
import Derived.StillTailTactics
import Derived.Deep.AppendLies
import Derived.Deep.RegionLaw
import Derived.Deep.DeepCutAuto
import Derived.Laws.StructEq
import Derived.Test.YtpkiepjmcepnoaaGreatDoorPtA
import Derived.Test.YtpkiepjmcepnoaaGreatDoorPtE
set_option maxHeartbeats 16000000
set_option maxRecDepth 100000
namespace Go.Proofs.YtpkiepjmcepnoaaGreatDoor
open Go.ChangeShapes Go.WideShapes Go.ChangeAt Go.RowKit
set_option linter.unusedVariables false
abbrev EntR:=Int×Int×Int×Int
def entLay (x:EntR):List Value:=[.int .i64 x.1,.int .i64 x.2.1,.int .i64 x.2.2.1,.int .i64 x.2.2.2]
abbrev entV (x:EntR):Value:=.agg #[.int .i64 x.1,.int .i64 x.2.1,.int .i64 x.2.2.1,.int .i64 x.2.2.2]
theorem entLay_len (x:EntR):(entLay x).length=4:=rfl
def entOk (x:EntR):Prop:=(0≤x.1∧x.1≤1073741824)∧(0≤x.2.1∧x.2.1≤4)∧(1≤x.2.2.1∧x.2.2.1≤20)∧(1≤x.2.2.2∧x.2.2.2≤9999)
instance (x:EntR):Decidable (entOk x):=by unfold entOk;infer_instance
def seqOk (p x:EntR):Prop:=p.1≤x.1∧¬(x.2.1=p.2.1∧x.2.2.1=p.2.2.1)
instance (p x:EntR):Decidable (seqOk p x):=by unfold seqOk;infer_instance
abbrev ent0:EntR:=(0,0,0,0)
def LogFr (xs:List EntR) (k:Nat):Prop:=∀i,i<k→entOk (xs.getD i ent0)∧(0<i→seqOk (xs.getD (i-1) ent0) (xs.getD i ent0))
def LogOk (xs:List EntR):Prop:=xs.length≤32∧LogFr xs xs.length
theorem LogFr.step {xs:List EntR} {k:Nat} {x:EntR} (h:LogFr xs k) (hx:xs.getD k ent0=x) (h1:entOk x) (h2:0<k→seqOk (xs.getD (k-1) ent0) x):LogFr xs (k+1):=fun i hi=>by
 by_cases e:i=k
 ·subst e;rw[hx];exact⟨h1,h2⟩
 ·exact h i (by omega)
theorem right_is (f l c m:Int) (w:World):
  Calls Tryz.prog 93 #[entV (f,l,c,m)] w fun e w'=>e=.returned (.int .i64 (if entOk (f,l,c,m)then 0 else 1))∧Below w.heap.size w w':=by
 by_cases h:entOk (f,l,c,m)
 ·rw[if_pos h]
  obtain⟨⟨a1,a2⟩,⟨b1,b2⟩,⟨c1,c2⟩,d1,d2⟩:=h
  simp only at a1 a2 b1 b2 c1 c2 d1 d2
  have t1:decide (f<0)=false:=by simpa using a1
  have t2:decide (1073741824<f)=false:=by simpa using a2
  have t3:decide (l<0)=false:=by simpa using b1
  have t4:decide (4<l)=false:=by simpa using b2
  have t5:decide (c<1)=false:=by simpa using c1
  have t6:decide (20<c)=false:=by simpa using c2
  have t7:decide (m<1)=false:=by simpa using d1
  have t8:decide (9999<m)=false:=by simpa using d2
  clear a1 a2 b1 b2 c1 c2 d1 d2
  go_enter Tryz.func93,Tryz.ntmps93
  go_wp2
  go_ret
  exact⟨rfl,by repeat(first|(with_reducible first|exact bLr)|((with_reducible first|refine bLs ?_ ?_ _|refine bLa ?_ ?_ _);·first|omega|(simp<;>omega))|with_reducible first|refine bLn ?_ _|refine bLd ?_)⟩
 ·rw[if_neg h]
  have hh:f<0∨1073741824<f∨l<0∨4<l∨c<1∨20<c∨m<1∨9999<m:=by
   unfold entOk at h;simp only at h;omega
  clear h
  have hsome:(decide (f<0)=true)∨(decide (f<0)=false∧decide (1073741824<f)=true)∨(decide (f<0)=false∧decide (1073741824<f)=false∧decide (l<0)=true)∨(decide (f<0)=false∧decide (1073741824<f)=false∧decide (l<0)=false∧decide (4<l)=true)∨(decide (f<0)=false∧decide (1073741824<f)=false∧decide (l<0)=false∧decide (4<l)=false∧decide (c<1)=true)∨(decide (f<0)=false∧decide (1073741824<f)=false∧decide (l<0)=false∧decide (4<l)=false∧decide (c<1)=false∧decide (20<c)=true)∨(decide (f<0)=false∧decide (1073741824<f)=false∧decide (l<0)=false∧decide (4<l)=false∧decide (c<1)=false∧decide (20<c)=false∧decide (m<1)=true)∨(decide (f<0)=false∧decide (1073741824<f)=false∧decide (l<0)=false∧decide (4<l)=false∧decide (c<1)=false∧decide (20<c)=false∧decide (m<1)=false∧decide (9999<m)=true):=by
   simp only[decide_eq_false_iff_not,decide_eq_true_eq];omega
  clear hh
  rcases hsome with d0|⟨d0,d1⟩|⟨d0,d1,d2⟩|⟨d0,d1,d2,d3⟩|⟨d0,d1,d2,d3,d4⟩|⟨d0,d1,d2,d3,d4,d5⟩|⟨d0,d1,d2,d3,d4,d5,d6⟩|⟨d0,d1,d2,d3,d4,d5,d6,d7⟩
  all_goals
   go_enter Tryz.func93,Tryz.ntmps93
   go_wp2
   go_ret
   exact⟨rfl,by repeat(first|(with_reducible first|exact bLr)|((with_reducible first|refine bLs ?_ ?_ _|refine bLa ?_ ?_ _);·first|omega|(simp<;>omega))|with_reducible first|refine bLn ?_ _|refine bLd ?_)⟩
def LCRel (xs:List EntR) (w:World) (i:Value) (wr:World):Prop:=∃k:Nat,k≤xs.length∧i=.int .i64 k∧LogFr xs k∧Below w.heap.size w wr
def LCPost (xs:List EntR) (w:World) (e:Ending) (w':World):Prop:=(LogOk xs→e=.returned (.int .i64 0))∧(¬LogOk xs→∃c:Int,c≠0∧e=.returned (.int .i64 c))∧Below w.heap.size w w'
theorem log_no {xs:List EntR} {k:Nat} (hk:k<xs.length) (h:¬(entOk (xs.getD k ent0)∧(0<k→seqOk (xs.getD (k-1) ent0) (xs.getD k ent0)))):¬LogOk xs:=fun h2=>h (h2.2 k hk)
theorem logCheck_is (xs:List EntR) (v:Value) (w:World) (hv:RecsAt 4 entLay w v xs) (hm:xs.length≤9223372036854775807):
  Calls Tryz.prog 65 #[v] w (LCPost xs w):=by
 obtain⟨a,cap,rfl⟩:=hv.len
 have HV:=qh hv
 clear hv
 by_cases h2:32<xs.length
 ·have N:¬LogOk xs:=fun h=>absurd h.1 (by omega)
  have HN:=qh N
  have d2:decide (32<(xs.length:Int))=true:=by simp;omega
  clear h2 N
  go_enter Tryz.func65,Tryz.ntmps65
  go_wp2
  go_ret
  exact⟨fun h=>absurd h HN.out,fun _=>⟨2,by decide,rfl⟩,bLr⟩
 have d2:decide (32<(xs.length:Int))=false:=by simp;omega
 have h4:xs.length≤32:=by omega
 clear h2
 go_enter Tryz.func65,Tryz.ntmps65
 go_wp2
 clear d2
 go_loopw [11] (fun i wr=>LCRel xs w i wr) (fun i _=>xs.length-(intOf i).toNat)
 case atStart=>exact⟨0,Nat.zero_le _,rfl,fun i hi=>absurd hi (Nat.not_lt_zero _),bLr⟩
 case round=>
  obtain⟨k,hk,rfl,hfr,hB⟩:=hrel
  have HF:=qh hfr
  have zB:=hB.size
  clear hfr
  by_cases hlt:k<xs.length
  ·obtain⟨x,hx⟩:∃x,xs[k]?=some x:=⟨_,List.getElem?_eq_getElem hlt⟩
   obtain⟨b,off,cap',hv',hl1,hl2,hc⟩:=HV.out.at_ hx
   cases hv'
   have hxd:xs.getD k ent0=x:=by rw[List.getD_eq_getElem?_getD,hx];rfl
   obtain⟨f,l,c,m⟩:=x
   have HX:=qh hxd
   have c0:=cell_later hB (hc 0 (by omega))
   have c1:=cell_later hB (hc 1 (by omega))
   have c2:=cell_later hB (hc 2 (by omega))
   have c3:=cell_later hB (hc 3 (by omega))
   change wr.cell? ⟨b,off+k*4,none⟩=some (.int .i64 f)at c0
   change wr.cell? ⟨b,off+k*4+1,none⟩=some (.int .i64 l)at c1
   change wr.cell? ⟨b,off+k*4+2,none⟩=some (.int .i64 c)at c2
   change wr.cell? ⟨b,off+k*4+3,none⟩=some (.int .i64 m)at c3
   have NO:=log_no hlt
   rw[hxd]at NO
   have HNO:=qh NO
   have HB:=qh hB
   have e5:(k:Int)<(xs.length:Int):=by omega
   have e6:k+1≤cap:=by omega
   clear hc hx hxd NO hB
   by_cases hok:entOk (f,l,c,m)
   ·have HOK:=qh hok
    clear hok
    go_wp2_with fail
    refine(right_is f l c m _).mono ?_
    rw[if_pos HOK.out]
    rintro e w1 ⟨rfl,hb⟩
    have HB1:Hid (Below w.heap.size w w1):=by have:=HB.out;repeat(first|(with_reducible first|exact bLr|exact this)|((with_reducible first|refine bLs ?_ ?_ _|refine bLt hb ?_ ?_|refine bLa ?_ ?_ _);·first|omega|(simp<;>omega))|(with_reducible first|refine bLn ?_ _|refine bLd ?_)|exact bLr|exact this|refine Below.setCell ?_ (by first|omega|(simp<;>omega)) _|refine below_drewN ?_ _|refine Below.drew ?_|refine Below.trans ?_ (Below.mono hb (by first|omega|(simp<;>omega)))|refine Below.alloc ?_ (by first|omega|(simp<;>omega)) _)
    have HC4:=(CellsAt.new wr [.int .i64 f,.int .i64 l,.int .i64 c,.int .i64 m] #[.int .i64 f,.int .i64 l,.int .i64 c,.int .i64 m] 143 rfl).call hb
    have d0:=HC4.at_ 0 rfl
    have d1:=HC4.at_ 1 rfl
    have d2:=HC4.at_ 2 rfl
    have z1:=HC4.lt
    clear hb HC4 HB c0 c1 c2 c3
    by_cases k0:k=0
    ·subst k0
     have FS:Hid (LogFr xs (0+1)):=HF.out.step HX.out HOK.out (fun h=>absurd h (Nat.lt_irrefl 0))
     go_wp2
     go_quiet (fail)
     go_wp2
     go_roundw
     case rel=>exact⟨1,by omega,by go_num,FS.out,by have:=HB1.out;repeat(first|(with_reducible first|exact bLr|exact this)|((with_reducible first|refine bLs ?_ ?_ _|refine bLa ?_ ?_ _);·first|omega|(simp<;>omega))|with_reducible first|refine bLn ?_ _|refine bLd ?_)⟩
     case measure=>simp[intOf];omega
    ·obtain⟨p,hp⟩:∃p,xs[k-1]?=some p:=⟨_,List.getElem?_eq_getElem (by omega)⟩
     have hpd:xs.getD (k-1) ent0=p:=by rw[List.getD_eq_getElem?_getD,hp];rfl
     obtain⟨b',off',cap',hv',-,-,hc⟩:=HV.out.at_ hp
     cases hv'
     obtain⟨pf,pl,pc,pm⟩:=p
     have p0:=cell_later HB1.out (hc 0 (by omega))
     have p1:=cell_later HB1.out (hc 1 (by omega))
     have p2:=cell_later HB1.out (hc 2 (by omega))
     change w1.cell? ⟨b,off+(k-1)*4,none⟩=some (.int .i64 pf)at p0
     change w1.cell? ⟨b,off+(k-1)*4+1,none⟩=some (.int .i64 pl)at p1
     change w1.cell? ⟨b,off+(k-1)*4+2,none⟩=some (.int .i64 pc)at p2
     have HPD:=qh hpd
     have g0:0<k:=by omega
     have g1:IntKind.i64.wrap ((k:Int)-1)=(k:Int)-1:=IntWalk.i64_in _ (by omega)
     have g3:((k:Int)-1).toNat=k-1:=by omega
     have g4:(k:Int)-1<(xs.length:Int):=by omega
     have g6:(0:Int)≤(k:Int)-1:=by omega
     have HG0:=qh g0
     clear hc hp hpd k0
     by_cases q1:f<pf
     ·have HBAD:Hid (¬LogOk xs):=HNO.out (fun h=>by
       have:=(h.2 HG0.out).1
       rw[HPD.out]at this
       simp only at this;omega)
      have t1:decide (f<pf)=true:=by simpa using q1
      clear q1
      go_wp2
      go_quiet (fail)
      go_wp2
      go_ret
      exact⟨fun h=>absurd h HBAD.out,fun _=>⟨4,by decide,rfl⟩,by have:=HB1.out;repeat(first|(with_reducible first|exact bLr|exact this)|((with_reducible first|refine bLs ?_ ?_ _|refine bLa ?_ ?_ _);·first|omega|(simp<;>omega))|with_reducible first|refine bLn ?_ _|refine bLd ?_)⟩
     ·have t1:decide (f<pf)=false:=by simpa using q1
      by_cases q2:l=pl
      ·by_cases q3:c=pc
       ·have HBAD:Hid (¬LogOk xs):=HNO.out (fun h=>by
         have:=(h.2 HG0.out).2
         rw[HPD.out]at this
         exact this ⟨q2,q3⟩)
        have t2:(l==pl)=true:=by simpa using q2
        have t3:(c==pc)=true:=by simpa using q3
        clear q1 q2 q3
        go_wp2
        go_quiet (fail)
        go_wp2
        go_ret
        exact⟨fun h=>absurd h HBAD.out,fun _=>⟨4,by decide,rfl⟩,by have:=HB1.out;repeat(first|(with_reducible first|exact bLr|exact this)|((with_reducible first|refine bLs ?_ ?_ _|refine bLa ?_ ?_ _);·first|omega|(simp<;>omega))|with_reducible first|refine bLn ?_ _|refine bLd ?_)⟩
       ·have FS:Hid (LogFr xs (k+1)):=HF.out.step HX.out HOK.out (fun _=>by rw[HPD.out];exact⟨by simp only;omega,fun h=>q3 h.2⟩)
        have t2:(l==pl)=true:=by simpa using q2
        have t3:(c==pc)=false:=by simpa using q3
        clear q1 q2 q3
        go_wp2
        go_quiet (fail)
        go_wp2
        go_roundw
        case rel=>exact⟨k+1,by omega,by go_num,FS.out,by have:=HB1.out;repeat(first|(with_reducible first|exact bLr|exact this)|((with_reducible first|refine bLs ?_ ?_ _|refine bLa ?_ ?_ _);·first|omega|(simp<;>omega))|with_reducible first|refine bLn ?_ _|refine bLd ?_)⟩
        case measure=>simp[intOf];omega
      ·have FS:Hid (LogFr xs (k+1)):=HF.out.step HX.out HOK.out (fun _=>by rw[HPD.out];exact⟨by simp only;omega,fun h=>q2 h.1⟩)
       have t2:(l==pl)=false:=by simpa using q2
       clear q1 q2
       go_wp2
       go_quiet (fail)
       go_wp2
       go_roundw
       case rel=>exact⟨k+1,by omega,by go_num,FS.out,by have:=HB1.out;repeat(first|(with_reducible first|exact bLr|exact this)|((with_reducible first|refine bLs ?_ ?_ _|refine bLa ?_ ?_ _);·first|omega|(simp<;>omega))|with_reducible first|refine bLn ?_ _|refine bLd ?_)⟩
       case measure=>simp[intOf];omega
   ·have HBAD:=qh (HNO.out (fun h=>hok h.1))
    have HOK:=qh hok
    clear hok
    go_wp2_with fail
    refine(right_is f l c m _).mono ?_
    rw[if_neg HOK.out]
    rintro e w1 ⟨rfl,hb⟩
    have HB1:Hid (Below w.heap.size w w1):=by have:=HB.out;repeat(first|(with_reducible first|exact bLr|exact this)|((with_reducible first|refine bLs ?_ ?_ _|refine bLt hb ?_ ?_|refine bLa ?_ ?_ _);·first|omega|(simp<;>omega))|(with_reducible first|refine bLn ?_ _|refine bLd ?_)|exact bLr|exact this|refine Below.setCell ?_ (by first|omega|(simp<;>omega)) _|refine below_drewN ?_ _|refine Below.drew ?_|refine Below.trans ?_ (Below.mono hb (by first|omega|(simp<;>omega)))|refine Below.alloc ?_ (by first|omega|(simp<;>omega)) _)
    clear hb
    go_wp2
    go_ret
    exact⟨fun h=>absurd h HBAD.out,fun _=>⟨1,by decide,rfl⟩,HB1.out⟩
  ·obtain rfl:k=xs.length:=by omega
   have HO:Hid (LogOk xs):=⟨h4,HF.out⟩
   go_wp2
   go_ret
   exact⟨fun _=>rfl,fun h=>absurd HO.out h,hB⟩
theorem own_setK {w:World} {base g n cap j k:Nat} {e:TypeId} {xs:List Value} (h:w.ownsRow base e k (.slice (some ⟨g,0,none⟩) n cap) n xs) (u:Value):(w.setCell ⟨g,j,none⟩ u).ownsRow base e k (.slice (some ⟨g,0,none⟩) n cap) n (xs.set j u):=by
 obtain⟨h0,⟨h1,-⟩|⟨g',cap',cur,e1,e2,e3,e4,e5,e6,e7⟩⟩:=h
 ·cases h1
 ·cases e1
  refine⟨by simpa using h0,.inr ⟨g,cap,cur.setIfInBounds j u,rfl,e2,?_,e4,e5,by simpa using e6,?_⟩⟩
  ·simp[World.setCell,Array.getElem?_modify,e3]
  ·rw[Array.toList_setIfInBounds,List.take_set,e7]
theorem infoE:(Tryz.prog.info? 143).map (fun i=>(i.zero,i.size,i.bytes))=some (some (.agg #[.int .i64 0,.int .i64 0,.int .i64 0,.int .i64 0]),4,32):=by kernel_rfl
theorem clone_ent (m:Nat) (news:List Value) (v:Value) (w:World) (hv:SrcAt w v 4 m news) (ho:∀u∈news,u.oneCell'=true) (hx:m*32≤140737488351232):
  Calls Tryz.prog 69 #[v] w (CatPost w 143 4 m news):=by
 obtain⟨i0,hi,hz0,hz1,hz2⟩:=info_parts infoE
 have hnil:=@Lib.run_eql_slice_nil Tryz.prog
 have hw0:w.heap.size≤(w.alloc (.cells #[] 143)).heap.size:=by simp
 have how:=own_empty w 143 4
 have HS:=qh (hv.below ((Below.refl w.heap.size w).alloc (Nat.le_refl _) (.cells #[] 143)) (Nat.le_refl _))
 have HO:=qh ho
 rcases hv with⟨c,rfl,rfl,rfl,rfl⟩|⟨ad,c,rfl,-⟩
 ·go_enter Tryz.func69,Tryz.ntmps69
  go_wp2
  go_ret
  exact⟨_,rfl,World.ownsRow_nil _ _ _ _,bLr⟩
 ·clear ho
  go_enter Tryz.func69,Tryz.ntmps69
  go_wp2_with (at_builtin;refine wpList_append_src rfl _ _ 92 rfl w.heap.size 143 i0 (.agg #[.int .i64 0,.int .i64 0,.int .i64 0,.int .i64 0]) 4 32 Tryz.underlying92 hi hz0 hz1 hz2 rfl (by decide) _ _ _ rfl how _ m news rfl HS.out HO.out (by unfold maxLen;omega) (by omega) hw0 ?_;intro v' w1 hown' hgrow)
  go_ret
  rw[Nat.zero_add,List.nil_append]at hown'
  exact⟨_,rfl,hown',((bLr).alloc (Nat.le_refl _) _).grown hgrow hw0 (fun k e=>by cases e;exact Nat.le_refl _)⟩
theorem ent_one (xs:List EntR):∀u∈xs.flatMap entLay,u.oneCell'=true:=by
 intro u hu
 obtain⟨x,-,hx⟩:=List.mem_flatMap.1 hu
 simp only[entLay,List.mem_cons,List.not_mem_nil,or_false]at hx
 rcases hx with rfl|rfl|rfl|rfl<;>rfl
theorem ent_len (xs:List EntR):(xs.flatMap entLay).length=xs.length*4:=by
 induction xs with
 |nil=>rfl
 |cons x xs ih=>rw[List.flatMap_cons,List.length_append,ih,List.length_cons];show 4+_=_;omega
def putOk (xs:List EntR) (f l c:Int):Prop:=LogOk xs∧entOk (f,l,c,1)∧(0<xs.length→(xs.getD (xs.length-1) ent0).1≤f)
abbrev sameAs (x:EntR) (l c:Int):Prop:=x.2.1=l∧x.2.2.1=c
def putL (xs:List EntR) (f l c:Int):List EntR:=
 if 0<xs.length∧sameAs (xs.getD (xs.length-1) ent0) l c then xs.take (xs.length-1)++[((xs.getD (xs.length-1) ent0).1,l,c,min 9999 ((xs.getD (xs.length-1) ent0).2.2.2+1))]
 else(if xs.length=32 then xs.drop 1 else xs)++[(f,l,c,1)]
def PutPost (w:World) (T:TypeId) (xs:List EntR) (f l c:Int) (e:Ending) (w':World):Prop:=
 (putOk xs f l c→∃v,e=.returned (.tuple #[v,.int .i64 0])∧w'.ownsRow w.heap.size T 4 v (putL xs f l c).length ((putL xs f l c).flatMap entLay))∧
 (¬putOk xs f l c→∃r:Int,r≠0∧e=.returned (.tuple #[.slice none 0 0,.int .i64 r]))∧Below w.heap.size w w'
theorem set_last (ys:List EntR) (f l c m m':Int):((ys++[(f,l,c,m)]).flatMap entLay).set (ys.length*4+3) (.int .i64 m')=(ys++[(f,l,c,m')]).flatMap entLay:=by
 rw[List.flatMap_append,List.flatMap_append,List.set_append_right _ _ (by rw[ent_len];omega),ent_len]
 congr 1
 rw[show ys.length*4+3-ys.length*4=3 by omega]
 rfl
theorem put_done {w w':World} {T:TypeId} {xs L:List EntR} {f l c:Int} {v:Value} (hok:putOk xs f l c) (hL:putL xs f l c=L) (h:w'.ownsRow w.heap.size T 4 v L.length (L.flatMap entLay)) (hb:Below w.heap.size w w'):PutPost w T xs f l c (.returned (.tuple #[v,.int .i64 0])) w':=
 ⟨fun _=>⟨v,rfl,by rw[hL];exact h⟩,fun h=>absurd hok h,hb⟩
theorem put_fail {w w':World} {T:TypeId} {xs:List EntR} {f l c r:Int} (hno:¬putOk xs f l c) (hr:r≠0) (hb:Below w.heap.size w w'):PutPost w T xs f l c (.returned (.tuple #[.slice none 0 0,.int .i64 r])) w':=
 ⟨fun h=>absurd h hno,fun _=>⟨r,hr,rfl⟩,hb⟩
theorem cells_src {w:World} {b:Nat} {vs:List Value} (h:CellsAt w b vs):∀j u,vs[j]?=some u→w.cell? ((⟨b,0,none⟩:Addr).add j)=some u:=by
 intro j u hj
 have:=h.at_ j hj
 cases j<;>simpa[Addr.add]using this
theorem own_mono4 {w:World} {base base':Nat} {e:TypeId} {size:Nat} {v:Value} {n:Nat} {xs:List Value} (h:w.ownsRow base e size v n xs) (hb:base'≤base):w.ownsRow base' e size v n xs:=
 ⟨h.1,h.2.imp id fun⟨g,cap,cur,e,h1,h2⟩=>⟨g,cap,cur,e,Nat.le_trans hb h1,h2⟩⟩
theorem src_drop {w:World} {g c:Nat} {xs:List EntR} (h:SrcAt w (.slice (some ⟨g,0,none⟩) xs.length c) 4 xs.length (xs.flatMap entLay)) (hn:0<xs.length):
  SrcAt w (.slice (some ⟨g,4,none⟩) (xs.length-1) (c-1)) 4 (xs.length-1) ((xs.drop 1).flatMap entLay):=by
 rcases h with⟨d,h,-⟩|⟨ad,d,h,hl,hc⟩
 ·cases h
 ·cases h
  refine .inr ⟨⟨g,4,none⟩,c-1,rfl,by rw[ent_len,List.length_drop],fun j u hj=>?_⟩
  cases xs with
  |nil=>simp at hn
  |cons x xs=>
   have h2:=hc (4+j) u (by
    rw[List.flatMap_cons,List.getElem?_append_right (by show 4≤_;omega)]
    simpa[entLay]using hj)
   have e:(⟨g,0,none⟩:Addr).add (4+j)=⟨g,4+j,none⟩:=by simp[Addr.add]
   rw[e]at h2
   cases j<;>simpa[Addr.add]using h2
theorem own_push {w:World} {base:Nat} {T:TypeId} {v:Value} {xs:List EntR} {n:Nat} {f l c m:Int} (h:w.ownsRow base T 4 v (n+1) (xs.flatMap entLay++[.int .i64 f,.int .i64 l,.int .i64 c,.int .i64 m])) (hn:n=xs.length):
  w.ownsRow base T 4 v (xs++[(f,l,c,m)]).length ((xs++[(f,l,c,m)]).flatMap entLay):=by
 rw[List.flatMap_append,List.length_append]
 subst hn
 exact h
theorem put_is (xs:List EntR) (f l c:Int) (v:Value) (w:World) (hv:RecsAt 4 entLay w v xs) (hm:xs.length≤9223372036854775807):
  Calls Tryz.prog 141 #[v,.int .i64 f,.int .i64 l,.int .i64 c] w (PutPost w 143 xs f l c):=by
 obtain⟨a,cap,rfl⟩:=hv.len
 have HV:=qh hv
 clear hv
 by_cases hlo:LogOk xs
 ·by_cases heo:entOk (f,l,c,1)
  ·have HLO:=qh hlo;have HEO:=qh heo
   have h32:=hlo.1
   clear hlo heo
   go_enter Tryz.func141,Tryz.ntmps141
   go_wp2_with fail
   refine(logCheck_is xs _ _ HV.out hm).mono ?_
   rintro e w1 ⟨h1,-,hb⟩
   obtain rfl:=h1 HLO.out
   have HB1:=qh hb
   clear h1 hb
   go_wp2_with fail
   refine(right_is f l c 1 _).mono ?_
   rw[if_pos HEO.out]
   rintro e w2 ⟨rfl,hb⟩
   have HX:=qh ((CellsAt.new w1 [.int .i64 f,.int .i64 l,.int .i64 c,.int .i64 1] #[.int .i64 f,.int .i64 l,.int .i64 c,.int .i64 1] 143 rfl).call hb)
   have hb':Below w1.heap.size w1 w2:=by repeat(first|(with_reducible first|exact bLr)|((with_reducible first|refine bLs ?_ ?_ _|refine bLt hb ?_ ?_|refine bLa ?_ ?_ _);·first|omega|(simp<;>omega))|with_reducible first|refine bLn ?_ _|refine bLd ?_)
   have HB2:=qh (HB1.out.trans (hb'.mono HB1.out.size))
   clear hb hb' HB1
   obtain⟨i0,hi,hz0,hz1,hz2⟩:=info_parts infoE
   go_wp2_with fail
   refine(clone_ent xs.length (xs.flatMap entLay) _ _ (src_recs (HV.out.later entLay_len HB2.out (Nat.le_refl _)) (by decide) entLay_len) (ent_one _) (by omega)).mono ?_
   rintro e w3 ⟨v3,rfl,hown,hb⟩
   have HX3:=qh (HX.out.call hb)
   have HB3:=qh (HB2.out.trans (hb.mono HB2.out.size))
   have HO3:=qh hown
   have HS3:=qh (src_recs (own_recs hown entLay_len) (by decide) entLay_len)
   obtain⟨a3,c3,rfl⟩:=(own_recs hown entLay_len).len
   have x0:=HX3.out.at_ 0 rfl
   have x1:=HX3.out.at_ 1 rfl
   have x2:=HX3.out.at_ 2 rfl
   have x3:=HX3.out.at_ 3 rfl
   have z3:=HX3.out.lt
   have HZ2:=qh HB2.out.size
   clear hown hb HX HB2
   by_cases h0:xs.length=0
   ·have q1:((xs.length:Int)==32)=false:=by simp;omega
    have q2:decide ((1:Int)≤(xs.length:Int))=false:=decide_eq_false (by omega)
    have HH0:=qh h0
    clear h0
    go_wp2_with fail
    have HOK:Hid (putOk xs f l c):=⟨HLO.out,HEO.out,fun h=>absurd h (by have:=HH0.out;omega)⟩
    have HPL:Hid (putL xs f l c=xs++[(f,l,c,1)]):=(by unfold putL;rw[if_neg (by have:=HH0.out;omega),if_neg (by have:=HH0.out;omega)]:putL xs f l c=xs++[(f,l,c,1)])
    have zw:=HB3.out.size
    go_region_law (first|(go_simp;go_at_call 69;refine(clone_ent xs.length (xs.flatMap entLay) _ _ (HS3.out.below (by first|exact bLr|exact(Below.refl w3.heap.size w3).drew|exact((Below.refl w3.heap.size w3).alloc (Nat.le_refl _) _).drew|exact((Below.refl w3.heap.size w3).alloc (Nat.le_refl _) _)) (Nat.le_refl _)) (ent_one _) (by omega)).mono ?_;rintro e5 w5 ⟨v5,rfl,hown5,hb5⟩;have HX5:CellsAt w5 w1.heap.size [.int .i64 f,.int .i64 l,.int .i64 c,.int .i64 1]:=(by first|exact HX3.out.drew.call hb5|exact(HX3.out.alloc _).drew.call hb5|exact(HX3.out.drew.alloc _).call hb5);have y0:=HX5.at_ 0 rfl;have y1:=HX5.at_ 1 rfl;have y2:=HX5.at_ 2 rfl;have y3:=HX5.at_ 3 rfl;have yz:=HX5.lt;have ys:w3.heap.size≤w5.heap.size:=Nat.le_trans (by simp) hb5.size;have OWN5:w5.ownsRow w.heap.size 143 4 v5 xs.length (xs.flatMap entLay):=own_mono4 hown5 (by first|exact zw|(simp;omega)))|(refine step_append_lies _ rfl (.tmp 72) (.tmp 74) 92 rfl w.heap.size 143 i0 (.agg #[.int .i64 0,.int .i64 0,.int .i64 0,.int .i64 0]) 4 32 Tryz.underlying92 hi hz0 hz1 hz2 rfl (by decide) v5 xs.length (xs.flatMap entLay) (by simp[Act.eval]) (by first|exact OWN5|exact OWN5.alloc _) ⟨w5.heap.size,0,none⟩ 1 1 [.int .i64 f,.int .i64 l,.int .i64 c,.int .i64 1] (by simp[Act.eval]) rfl (by exact cells_src (CellsAt.new _ _ _ _ rfl)) (by simp[Value.oneCell']) (by decide) (by unfold maxLen;omega) (by omega) (by first|omega|(simp;omega)) _ rfl ?_;intro g6 cap6 w6 hown6 hgrow6 hg6 hlt6)|(refine step_append_lies _ rfl (.tmp 72) (.tmp 74) 92 rfl w.heap.size 143 i0 (.agg #[.int .i64 0,.int .i64 0,.int .i64 0,.int .i64 0]) 4 32 Tryz.underlying92 hi hz0 hz1 hz2 rfl (by decide) v5 xs.length (xs.flatMap entLay) (by simp[Act.eval]) (by first|exact OWN5|exact OWN5.alloc _) ⟨w3.heap.size,0,none⟩ 1 1 [.int .i64 f,.int .i64 l,.int .i64 c,.int .i64 1] (by simp[Act.eval]) rfl (by exact cells_src ((CellsAt.new _ _ _ _ rfl).drew.call hb5)) (by simp[Value.oneCell']) (by decide) (by unfold maxLen;omega) (by omega) (by first|omega|(simp;omega)) _ rfl ?_;intro g6 cap6 w6 hown6 hgrow6 hg6 hlt6))
    all_goals
     have B5:Below w3.heap.size w3 w5:=by repeat(first|(with_reducible first|exact bLr)|((with_reducible first|refine bLs ?_ ?_ _|refine bLt hb5 ?_ ?_|refine bLa ?_ ?_ _);·first|omega|(simp<;>omega))|with_reducible first|refine bLn ?_ _|refine bLd ?_)
     have B6:Below w.heap.size w w6:=(HB3.out.trans (B5.mono zw)).trans (by first|exact(Below.refl w.heap.size w5).grown hgrow6 (Nat.le_trans zw ys) (fun j e=>(OWN5.lt j e).1)|exact((Below.refl w.heap.size w5).alloc (Nat.le_trans zw ys) _).grown hgrow6 (by simp;omega) (fun j e=>(OWN5.lt j e).1))
     have OW6:=qh (own_push hown6 rfl)
     have BB6:=qh B6
     clear y0 y1 y2 y3 yz ys hown5 hb5 HX5 OWN5 hown6 hgrow6 hg6 hlt6 B5 B6
     go_wp2
     go_ret2
     first|exact put_done HOK.out HPL.out OW6.out BB6.out|(have o6:=OW6.out;rw[Nat.sub_add_cancel hI1]at o6;exact put_done HOK.out HPL.out o6 BB6.out)
   ·obtain⟨m,hm1⟩:∃m,xs.length=m+1:=⟨xs.length-1,by omega⟩
    obtain⟨last,hlast⟩:∃x,xs[m]?=some x:=⟨_,List.getElem?_eq_getElem (by omega)⟩
    have hld:xs.getD (xs.length-1) ent0=last:=by rw[hm1,Nat.add_sub_cancel,List.getD_eq_getElem?_getD,hlast];rfl
    have hlok:=(HLO.out.2 m (by omega)).1
    rw[List.getD_eq_getElem?_getD,hlast]at hlok
    obtain⟨g,cg,hgv,hg1,hg2,hg3,hg4⟩:=(own_form HO3.out).resolve_left (by rintro⟨-,h⟩;omega)
    cases hgv
    obtain⟨b,off,cap',hv',hl1,hl2,hc⟩:=(HV.out.later entLay_len HB3.out (Nat.le_refl _)).at_ hlast
    cases hv'
    have hsplit:xs=xs.take m++[last]:=by
     have:=List.take_append_drop m xs
     rw[List.drop_eq_getElem_cons (by omega),List.drop_eq_nil_of_le (by omega)]at this
     rw[List.getElem?_eq_getElem (by omega)]at hlast
     injection hlast with hlast
     rw[←hlast];exact this.symm
    have hgc:=HO3.out.cellAt (m*4+3) (by omega)
    obtain⟨pf,pl,pc,pm⟩:=last
    have hfa:=flatMap_at (k:=4) entLay_len hlast (show 3<4 by omega)
    rw[hfa]at hgc
    change w3.cell? ⟨g,m*4+3,none⟩=some (.int .i64 pm)at hgc
    have hgf:∀o,w3.frozen? ⟨g,o,none⟩=false:=fun o=>HO3.out.frozenAt o
    have c0:=hc 0 (by omega)
    have c1:=hc 1 (by omega)
    have c2:=hc 2 (by omega)
    have c3':=hc 3 (by omega)
    change w3.cell? ⟨b,off+m*4,none⟩=some (.int .i64 pf)at c0
    change w3.cell? ⟨b,off+m*4+1,none⟩=some (.int .i64 pl)at c1
    change w3.cell? ⟨b,off+m*4+2,none⟩=some (.int .i64 pc)at c2
    change w3.cell? ⟨b,off+m*4+3,none⟩=some (.int .i64 pm)at c3'
    have hbs:b<w3.heap.size:=World.block_lt_of_cell? _ _ c0
    have hpm:1≤pm∧pm≤9999:=hlok.2.2.2
    have q1:∀(h:xs.length=32→False),((xs.length:Int)==32)=false:=fun h=>by rw[beq_eq_false_iff_ne];intro e;exact h (by omega)
    have q2:decide ((1:Int)≤(xs.length:Int))=true:=decide_eq_true (by omega)
    have HMI:=qh (show(xs.length:Int)-1=(m:Int) by omega)
    have HM1:=qh hm1;have HLD:=qh hld;have HSPL:=qh hsplit;have HQ1:=qh q1
    have d1:(m:Int)<(xs.length:Int):=by omega
    have d2:m+1≤cap:=by omega
    have d3:m+1≤c3:=by omega
    have zw:=HB3.out.size
    clear hc hlast hld hlok hfa h0 hm1 hsplit q1
    go_upto_region 10 with(fail)
    rw[HMI.out]
    by_cases hfp:f<pf
    ·have HNO:Hid (¬putOk xs f l c):=(fun h=>by
      have:=h.2.2 (by have:=HM1.out;omega)
      rw[HLD.out]at this
      simp only at this;omega:¬putOk xs f l c)
     have t1:decide (f<pf)=true:=decide_eq_true hfp
     clear hfp
     go_wp2
     go_ret2
     exact put_fail HNO.out (by decide) (by have:=HB3.out;repeat(first|(with_reducible first|exact bLr|exact this)|((with_reducible first|refine bLs ?_ ?_ _|refine bLa ?_ ?_ _);·first|omega|(simp<;>omega))|with_reducible first|refine bLn ?_ _|refine bLd ?_))
    ·have HOK:Hid (putOk xs f l c):=⟨HLO.out,HEO.out,fun _=>by rw[HLD.out];simp only;omega⟩
     have t1:decide (f<pf)=false:=decide_eq_false hfp
     clear hfp
     by_cases hsm:pl=l∧pc=c
     ·obtain⟨rfl,rfl⟩:=hsm
      have t2:(pl==pl)=true:=by simp
      have t3:(pc==pc)=true:=by simp
      have HPL:Hid (putL xs f pl pc=xs.take m++[(pf,pl,pc,min 9999 (pm+1))]):=(by
       unfold putL
       rw[HLD.out,if_pos ⟨by have:=HM1.out;omega,rfl,rfl⟩,HM1.out,Nat.add_sub_cancel]:putL xs f pl pc=xs.take m++[(pf,pl,pc,min 9999 (pm+1))])
      obtain⟨pm',hpm'⟩:∃p,min 9999 (pm+1)=p:=⟨_,rfl⟩
      rw[hpm']at HPL
      have hOS:(w3.setCell ⟨g,m*4+3,none⟩ (.int .i64 pm')).ownsRow w2.heap.size 143 4 (.slice (some ⟨g,0,none⟩) xs.length c3) (xs.take m++[(pf,pl,pc,pm')]).length ((xs.take m++[(pf,pl,pc,pm')]).flatMap entLay):=by
       have h1:=own_setK (j:=m*4+3) HO3.out (.int .i64 pm')
       have h2:=set_last (xs.take m) pf pl pc pm pm'
       rw[List.length_take,Nat.min_eq_left (by have:=HM1.out;omega),←HSPL.out]at h2
       rw[h2]at h1
       have h3:(xs.take m++[(pf,pl,pc,pm')]).length=xs.length:=by
        rw[List.length_append,List.length_take,Nat.min_eq_left (by have:=HM1.out;omega),HM1.out];rfl
       rw[h3];exact h1
      have HOS:=qh (own_mono4 hOS HZ2.out)
      have hpc:(pm+1<9999∧pm'=pm+1)∨(pm=9998∧pm'=9999)∨(pm=9999∧pm'=9999):=by omega
      have hgw:w.heap.size≤g:=Nat.le_trans HZ2.out hg1
      have hb4:Below w.heap.size w ((w3.setCell ⟨g,m*4+3,none⟩ (.int .i64 pm')).alloc (.cells #[.int .i64 pf,.int .i64 pl,.int .i64 pc,.int .i64 pm] 143)):=by have:=HB3.out;repeat(first|(with_reducible first|exact bLr|exact this)|((with_reducible first|refine bLs ?_ ?_ _|refine bLa ?_ ?_ _);·first|omega|(simp<;>omega))|with_reducible first|refine bLn ?_ _|refine bLd ?_)
      have HB4:=qh hb4
      have hOS4:((w3.setCell ⟨g,m*4+3,none⟩ (.int .i64 pm')).alloc (.cells #[.int .i64 pf,.int .i64 pl,.int .i64 pc,.int .i64 pm] 143)).ownsRow w.heap.size 143 4 (.slice (some ⟨g,0,none⟩) xs.length c3) (xs.take m++[(pf,pl,pc,pm')]).length ((xs.take m++[(pf,pl,pc,pm')]).flatMap entLay):=by
       have h1:=(own_setK (j:=m*4+3) HO3.out (.int .i64 pm')).alloc (.cells #[.int .i64 pf,.int .i64 pl,.int .i64 pc,.int .i64 pm] 143)
       have h2:=set_last (xs.take m) pf pl pc pm pm'
       rw[List.length_take,Nat.min_eq_left (by have:=HM1.out;omega),←HSPL.out]at h2
       rw[h2]at h1
       have h3:(xs.take m++[(pf,pl,pc,pm')]).length=xs.length:=by
        rw[List.length_append,List.length_take,Nat.min_eq_left (by have:=HM1.out;omega),HM1.out];rfl
       rw[h3];exact own_mono4 h1 HZ2.out
      have HOS4:=qh hOS4
      have hgs:g<w3.heap.size:=hg2
      clear hOS hpm' HOS hb4 hOS4
      rcases hpc with⟨p1,rfl⟩|⟨rfl,rfl⟩|⟨rfl,rfl⟩
      ·go_wp2
       go_ret2
       first|exact put_done HOK.out HPL.out HOS4.out HB4.out|exact put_done HOK.out HPL.out HOS4.out.drew HB4.out.drew
      ·go_wp2
       go_ret2
       first|exact put_done HOK.out HPL.out HOS4.out HB4.out|exact put_done HOK.out HPL.out HOS4.out.drew HB4.out.drew
      ·go_wp2
       go_ret2
       first|exact put_done HOK.out HPL.out HOS4.out HB4.out|exact put_done HOK.out HPL.out HOS4.out.drew HB4.out.drew
     ·have HPL:Hid (putL xs f l c=(if xs.length=32 then xs.drop 1 else xs)++[(f,l,c,1)]):=(by
       unfold putL
       rw[HLD.out,if_neg (fun h=>hsm h.2)]:putL xs f l c=(if xs.length=32 then xs.drop 1 else xs)++[(f,l,c,1)])
      go_upto_region 14 with(fail)
      go_cut [46] (fun s wx=>s=.bool false∧w3.alloc (.cells #[.int .i64 pf,.int .i64 pl,.int .i64 pc,.int .i64 pm] 143)=wx)
      case first=>
       by_cases hp1:pl=l
       ·have t2:(pl==l)=true:=by simpa using hp1
        have t3:(pc==c)=false:=by rw[beq_eq_false_iff_ne];exact fun e=>hsm ⟨hp1,e⟩
        clear hsm hp1
        go_wp2
        go_meet
        exact⟨rfl,rfl⟩
       ·have t2:(pl==l)=false:=by simpa using hp1
        clear hsm hp1
        go_wp2
        go_meet
        exact⟨rfl,rfl⟩
      case rest=>
      obtain⟨rfl,rfl⟩:=hcut
      go_upto_region 17 with(fail)
      have HX4:=qh (HX3.out.alloc (.cells #[.int .i64 pf,.int .i64 pl,.int .i64 pc,.int .i64 pm] 143))
      have HB4:Hid (Below w.heap.size w (w3.alloc (.cells #[.int .i64 pf,.int .i64 pl,.int .i64 pc,.int .i64 pm] 143))):=by have:=HB3.out;repeat(first|(with_reducible first|exact bLr|exact this)|((with_reducible first|refine bLs ?_ ?_ _|refine bLa ?_ ?_ _);·first|omega|(simp<;>omega))|(with_reducible first|refine bLn ?_ _|refine bLd ?_)|exact bLr|exact this|refine Below.setCell ?_ (by first|omega|(simp<;>omega)) _|refine below_drewN ?_ _|refine Below.drew ?_|refine Below.alloc ?_ (by first|omega|(simp<;>omega)) _)
      have HS4:=qh (HS3.out.below ((Below.refl w3.heap.size w3).alloc (Nat.le_refl _) (.cells #[.int .i64 pf,.int .i64 pl,.int .i64 pc,.int .i64 pm] 143)) (Nat.le_refl _))
      generalize w3.alloc (.cells #[.int .i64 pf,.int .i64 pl,.int .i64 pc,.int .i64 pm] 143)=w4 at *
      have x0:=HX4.out.at_ 0 rfl
      have x1:=HX4.out.at_ 1 rfl
      have x2:=HX4.out.at_ 2 rfl
      have x3:=HX4.out.at_ 3 rfl
      have z3:=HX4.out.lt
      have zw:=HB4.out.size
      clear HX3 HB3 HO3 HS3 hgc hgf c0 c1 c2 c3' hbs
      by_cases hfull:xs.length=32
      ·have q3:((xs.length:Int)==32)=true:=by rw[hfull];rfl
       rw[if_pos hfull]at HPL
       have HS5:=qh (src_drop HS4.out (by omega))
       have hc31:¬c3=1:=by omega
       have hx1:(xs.drop 1).length=xs.length-1:=by rw[List.length_drop]
       have HX1:=qh hx1
       have hI1:1≤xs.length:=by omega
       clear hfull hx1
       go_wp2_with fail
       go_region_law (first|(go_simp;go_at_call 69;refine(clone_ent (xs.length-1) ((xs.drop 1).flatMap entLay) _ _ (HS5.out.below (by first|exact bLr|exact(Below.refl w4.heap.size w4).drew|exact((Below.refl w4.heap.size w4).alloc (Nat.le_refl _) _).drew|exact((Below.refl w4.heap.size w4).alloc (Nat.le_refl _) _)) (Nat.le_refl _)) (ent_one _) (by omega)).mono ?_;rintro e5 w5 ⟨v5,rfl,hown5,hb5⟩;have HX5:CellsAt w5 w1.heap.size [.int .i64 f,.int .i64 l,.int .i64 c,.int .i64 1]:=(by first|exact HX4.out.drew.call hb5|exact(HX4.out.alloc _).drew.call hb5|exact(HX4.out.drew.alloc _).call hb5);have y0:=HX5.at_ 0 rfl;have y1:=HX5.at_ 1 rfl;have y2:=HX5.at_ 2 rfl;have y3:=HX5.at_ 3 rfl;have yz:=HX5.lt;have ys:w4.heap.size≤w5.heap.size:=Nat.le_trans (by simp) hb5.size;have OWN5:w5.ownsRow w.heap.size 143 4 v5 (xs.length-1) ((xs.drop 1).flatMap entLay):=own_mono4 hown5 (by first|exact zw|(simp;omega)))|(refine step_append_lies _ rfl (.tmp 72) (.tmp 74) 92 rfl w.heap.size 143 i0 (.agg #[.int .i64 0,.int .i64 0,.int .i64 0,.int .i64 0]) 4 32 Tryz.underlying92 hi hz0 hz1 hz2 rfl (by decide) v5 (xs.length-1) ((xs.drop 1).flatMap entLay) (by simp[Act.eval]) (by first|exact OWN5|exact OWN5.alloc _) ⟨w5.heap.size,0,none⟩ 1 1 [.int .i64 f,.int .i64 l,.int .i64 c,.int .i64 1] (by simp[Act.eval]) rfl (by exact cells_src (CellsAt.new _ _ _ _ rfl)) (by simp[Value.oneCell']) (by decide) (by unfold maxLen;omega) (by omega) (by first|omega|(simp;omega)) _ rfl ?_;intro g6 cap6 w6 hown6 hgrow6 hg6 hlt6)|(refine step_append_lies _ rfl (.tmp 72) (.tmp 74) 92 rfl w.heap.size 143 i0 (.agg #[.int .i64 0,.int .i64 0,.int .i64 0,.int .i64 0]) 4 32 Tryz.underlying92 hi hz0 hz1 hz2 rfl (by decide) v5 (xs.length-1) ((xs.drop 1).flatMap entLay) (by simp[Act.eval]) (by first|exact OWN5|exact OWN5.alloc _) ⟨w4.heap.size,0,none⟩ 1 1 [.int .i64 f,.int .i64 l,.int .i64 c,.int .i64 1] (by simp[Act.eval]) rfl (by exact cells_src ((CellsAt.new _ _ _ _ rfl).drew.call hb5)) (by simp[Value.oneCell']) (by decide) (by unfold maxLen;omega) (by omega) (by first|omega|(simp;omega)) _ rfl ?_;intro g6 cap6 w6 hown6 hgrow6 hg6 hlt6))
       all_goals
        have B5:Below w4.heap.size w4 w5:=by repeat(first|(with_reducible first|exact bLr)|((with_reducible first|refine bLs ?_ ?_ _|refine bLt hb5 ?_ ?_|refine bLa ?_ ?_ _);·first|omega|(simp<;>omega))|with_reducible first|refine bLn ?_ _|refine bLd ?_)
        have B6:Below w.heap.size w w6:=(HB4.out.trans (B5.mono zw)).trans (by first|exact(Below.refl w.heap.size w5).grown hgrow6 (Nat.le_trans zw ys) (fun j e=>(OWN5.lt j e).1)|exact((Below.refl w.heap.size w5).alloc (Nat.le_trans zw ys) _).grown hgrow6 (by simp;omega) (fun j e=>(OWN5.lt j e).1))
        have OW6:=qh (own_push hown6 HX1.out.symm)
        have BB6:=qh B6
        clear y0 y1 y2 y3 yz ys hown5 hb5 HX5 OWN5 hown6 hgrow6 hg6 hlt6 B5 B6
        go_wp2
        go_ret2
        first|exact put_done HOK.out HPL.out OW6.out BB6.out|(have o6:=OW6.out;rw[Nat.sub_add_cancel hI1]at o6;exact put_done HOK.out HPL.out o6 BB6.out)
      ·rw[if_neg hfull]at HPL
       have q3:=HQ1.out hfull
       clear hfull
       go_wp2_with fail
       go_region_law (first|(go_simp;go_at_call 69;refine(clone_ent xs.length (xs.flatMap entLay) _ _ (HS4.out.below (by first|exact bLr|exact(Below.refl w4.heap.size w4).drew|exact((Below.refl w4.heap.size w4).alloc (Nat.le_refl _) _).drew|exact((Below.refl w4.heap.size w4).alloc (Nat.le_refl _) _)) (Nat.le_refl _)) (ent_one _) (by omega)).mono ?_;rintro e5 w5 ⟨v5,rfl,hown5,hb5⟩;have HX5:CellsAt w5 w1.heap.size [.int .i64 f,.int .i64 l,.int .i64 c,.int .i64 1]:=(by first|exact HX4.out.drew.call hb5|exact(HX4.out.alloc _).drew.call hb5|exact(HX4.out.drew.alloc _).call hb5);have y0:=HX5.at_ 0 rfl;have y1:=HX5.at_ 1 rfl;have y2:=HX5.at_ 2 rfl;have y3:=HX5.at_ 3 rfl;have yz:=HX5.lt;have ys:w4.heap.size≤w5.heap.size:=Nat.le_trans (by simp) hb5.size;have OWN5:w5.ownsRow w.heap.size 143 4 v5 xs.length (xs.flatMap entLay):=own_mono4 hown5 (by first|exact zw|(simp;omega)))|(refine step_append_lies _ rfl (.tmp 72) (.tmp 74) 92 rfl w.heap.size 143 i0 (.agg #[.int .i64 0,.int .i64 0,.int .i64 0,.int .i64 0]) 4 32 Tryz.underlying92 hi hz0 hz1 hz2 rfl (by decide) v5 xs.length (xs.flatMap entLay) (by simp[Act.eval]) (by first|exact OWN5|exact OWN5.alloc _) ⟨w5.heap.size,0,none⟩ 1 1 [.int .i64 f,.int .i64 l,.int .i64 c,.int .i64 1] (by simp[Act.eval]) rfl (by exact cells_src (CellsAt.new _ _ _ _ rfl)) (by simp[Value.oneCell']) (by decide) (by unfold maxLen;omega) (by omega) (by first|omega|(simp;omega)) _ rfl ?_;intro g6 cap6 w6 hown6 hgrow6 hg6 hlt6)|(refine step_append_lies _ rfl (.tmp 72) (.tmp 74) 92 rfl w.heap.size 143 i0 (.agg #[.int .i64 0,.int .i64 0,.int .i64 0,.int .i64 0]) 4 32 Tryz.underlying92 hi hz0 hz1 hz2 rfl (by decide) v5 xs.length (xs.flatMap entLay) (by simp[Act.eval]) (by first|exact OWN5|exact OWN5.alloc _) ⟨w4.heap.size,0,none⟩ 1 1 [.int .i64 f,.int .i64 l,.int .i64 c,.int .i64 1] (by simp[Act.eval]) rfl (by exact cells_src ((CellsAt.new _ _ _ _ rfl).drew.call hb5)) (by simp[Value.oneCell']) (by decide) (by unfold maxLen;omega) (by omega) (by first|omega|(simp;omega)) _ rfl ?_;intro g6 cap6 w6 hown6 hgrow6 hg6 hlt6))
       all_goals
        have B5:Below w4.heap.size w4 w5:=by repeat(first|(with_reducible first|exact bLr)|((with_reducible first|refine bLs ?_ ?_ _|refine bLt hb5 ?_ ?_|refine bLa ?_ ?_ _);·first|omega|(simp<;>omega))|with_reducible first|refine bLn ?_ _|refine bLd ?_)
        have B6:Below w.heap.size w w6:=(HB4.out.trans (B5.mono zw)).trans (by first|exact(Below.refl w.heap.size w5).grown hgrow6 (Nat.le_trans zw ys) (fun j e=>(OWN5.lt j e).1)|exact((Below.refl w.heap.size w5).alloc (Nat.le_trans zw ys) _).grown hgrow6 (by simp;omega) (fun j e=>(OWN5.lt j e).1))
        have OW6:=qh (own_push hown6 rfl)
        have BB6:=qh B6
        clear y0 y1 y2 y3 yz ys hown5 hb5 HX5 OWN5 hown6 hgrow6 hg6 hlt6 B5 B6
        go_wp2
        go_ret2
        first|exact put_done HOK.out HPL.out OW6.out BB6.out|(have o6:=OW6.out;rw[Nat.sub_add_cancel hI1]at o6;exact put_done HOK.out HPL.out o6 BB6.out)
  ·have HLO:=qh hlo
   have HNO:Hid (¬putOk xs f l c):=(fun h=>heo h.2.1:¬putOk xs f l c)
   have HEO:=qh heo
   clear hlo heo
   go_enter Tryz.func141,Tryz.ntmps141
   go_wp2_with fail
   refine(logCheck_is xs _ _ HV.out hm).mono ?_
   rintro e w1 ⟨h1,-,hb⟩
   obtain rfl:=h1 HLO.out
   have HB1:=qh hb
   clear h1 hb
   go_wp2_with fail
   refine(right_is f l c 1 _).mono ?_
   rw[if_neg HEO.out]
   rintro e w2 ⟨rfl,hb⟩
   have hb':Below w1.heap.size w1 w2:=by repeat(first|(with_reducible first|exact bLr)|((with_reducible first|refine bLs ?_ ?_ _|refine bLt hb ?_ ?_|refine bLa ?_ ?_ _);·first|omega|(simp<;>omega))|with_reducible first|refine bLn ?_ _|refine bLd ?_)
   have HB2:=qh (HB1.out.trans (hb'.mono HB1.out.size))
   clear hb hb' HB1
   go_wp2
   go_ret2
   exact put_fail HNO.out (by decide) HB2.out
 ·have HLO:=qh hlo
  have HNO:Hid (¬putOk xs f l c):=(fun h=>hlo h.1:¬putOk xs f l c)
  clear hlo
  go_enter Tryz.func141,Tryz.ntmps141
  go_wp2_with fail
  refine(logCheck_is xs _ _ HV.out hm).mono ?_
  rintro e w1 ⟨-,h1,hb⟩
  obtain⟨r,hr,rfl⟩:=h1 HLO.out
  have HB1:=qh hb
  have hr':(r != 0)=true:=by simpa using hr
  have HR:=qh hr
  clear h1 hb hr
  go_wp2
  go_ret2
  exact put_fail HNO.out HR.out HB1.out
theorem fr_congr {xs ys:List EntR} {k:Nat} (h:LogFr xs k) (e:∀i,i<k→ys.getD i ent0=xs.getD i ent0):LogFr ys k:=fun i hi=>by
 rw[e i hi]
 refine⟨(h i hi).1,fun h0=>?_⟩
 rw[e (i-1) (by omega)]
 exact(h i hi).2 h0
theorem entD_left (ys:List EntR) (x:EntR) (i:Nat) (h:i<ys.length):(ys++[x]).getD i ent0=ys.getD i ent0:=by
 rw[List.getD_eq_getElem?_getD,List.getElem?_append_left h,←List.getD_eq_getElem?_getD]
theorem entD_last (ys:List EntR) (x:EntR):(ys++[x]).getD ys.length ent0=x:=by
 rw[List.getD_eq_getElem?_getD,List.getElem?_append_right (Nat.le_refl _)];simp
theorem entD_take (xs:List EntR) (m i:Nat) (h:i<m):(xs.take m).getD i ent0=xs.getD i ent0:=by
 rw[List.getD_eq_getElem?_getD,List.getElem?_take,if_pos h,←List.getD_eq_getElem?_getD]
theorem entD_drop1 (xs:List EntR) (i:Nat):(xs.drop 1).getD i ent0=xs.getD (i+1) ent0:=by
 rw[List.getD_eq_getElem?_getD,List.getElem?_drop,←List.getD_eq_getElem?_getD,Nat.add_comm]
theorem fr_push {ys:List EntR} {x:EntR} (h:LogFr ys ys.length) (hx:entOk x) (hs:0<ys.length→seqOk (ys.getD (ys.length-1) ent0) x):LogFr (ys++[x]) (ys++[x]).length:=by
 rw[List.length_append]
 refine(fr_congr h (fun i hi=>entD_left ys x i hi)).step (entD_last ys x) hx (fun h0=>?_)
 rw[entD_left ys x _ (by omega)];exact hs h0
theorem fr_take {xs:List EntR} (h:LogFr xs xs.length) (m:Nat) (hm:m≤xs.length):LogFr (xs.take m) (xs.take m).length:=by
 rw[List.length_take,Nat.min_eq_left hm]
 exact fr_congr (fun i hi=>h i (by omega)) (fun i hi=>entD_take xs m i hi)
theorem fr_drop1 {xs:List EntR} (h:LogFr xs xs.length):LogFr (xs.drop 1) (xs.drop 1).length:=by
 rw[List.length_drop]
 intro i hi
 rw[entD_drop1]
 refine⟨(h (i+1) (by omega)).1,fun h0=>?_⟩
 have:=(h (i+1) (by omega)).2 (Nat.succ_pos i)
 rw[Nat.add_sub_cancel]at this
 rw[entD_drop1,Nat.sub_add_cancel h0]
 exact this
def sumM (xs:List EntR):Int:=(xs.map (·.2.2.2)).sum
theorem sumM_push (ys:List EntR) (x:EntR):sumM (ys++[x])=sumM ys+x.2.2.2:=by simp[sumM]
theorem sumM_nonneg {xs:List EntR} (h:LogFr xs xs.length):∀k,k≤xs.length→0≤sumM (xs.take k)∧sumM (xs.take k)≤9999*(k:Int):=by
 intro k
 induction k with
 |zero=>intro _;simp[sumM]
 |succ k ih=>
  intro hk
  have h1:=ih (by omega)
  have h2:=(h k (by omega)).1.2.2.2
  rw[List.take_succ_eq_append_getElem (by omega),sumM_push]
  rw[List.getD_eq_getElem?_getD,List.getElem?_eq_getElem (by omega)]at h2
  simp only[Option.getD_some]at h2
  omega
theorem sumM_drop1 {xs:List EntR} (h:LogFr xs xs.length) (h0:0<xs.length):sumM (xs.drop 1)≤sumM xs:=by
 cases xs with
 |nil=>simp at h0
 |cons x xs=>
  have h2:=(h 0 h0).1.2.2.2
  simp only[List.getD_cons_zero]at h2
  simp only[List.drop_succ_cons,List.drop_zero,sumM,List.map_cons,List.sum_cons]
  omega
theorem split_last {xs:List EntR} {m:Nat} (hm:xs.length=m+1):xs=xs.take m++[xs.getD m ent0]:=by
 have:=List.take_append_drop m xs
 rw[List.drop_eq_getElem_cons (by omega),List.drop_eq_nil_of_le (by omega)]at this
 rw[List.getD_eq_getElem?_getD,List.getElem?_eq_getElem (by omega)]
 exact this.symm
structure Inv (O:List EntR) (p:Nat):Prop where
 ok:LogOk O
 le:sumM O≤p
 alt:O.length=32∨sumM O=p∨9999<p
structure Next (O N:List EntR) (p:Nat) (f l c:Int):Prop where
 inv:Inv N (p+1)
 pos:0<N.length
 lane:(N.getD (N.length-1) ent0).2.1=l
 code:(N.getD (N.length-1) ent0).2.2.1=c
 frame:(N.getD (N.length-1) ent0).1≤f
 front:N.length=O.length+1→N.take O.length=O
 len:N.length=O.length∨N.length=O.length+1
theorem inv_next {O:List EntR} {p:Nat} {f l c:Int} (h:Inv O p) (hp:putOk O f l c):Next O (putL O f l c) p f l c:=by
 obtain⟨hlo,heo,hst⟩:=hp
 obtain⟨h32,hfr⟩:=hlo
 have hle:=h.le;have halt:=h.alt
 unfold putL
 by_cases hs:0<O.length∧sameAs (O.getD (O.length-1) ent0) l c
 ·rw[if_pos hs]
  obtain⟨h0,hsl,hsc⟩:=hs
  obtain⟨m,hm⟩:∃m,O.length=m+1:=⟨O.length-1,by omega⟩
  have hf1:=hst h0
  have hlast:=hfr m (by omega)
  have hsp:=split_last hm
  rw[hm,Nat.add_sub_cancel]at hsl hsc hf1⊢
  obtain⟨last,hL⟩:∃x,O.getD m ent0=x:=⟨_,rfl⟩
  rw[hL]at hsl hsc hf1 hlast hsp⊢
  obtain⟨pf,pl,pc,pm⟩:=last
  simp only at hsl hsc hf1
  subst hsl hsc
  have hpm:=hlast.1.2.2.2
  simp only at hpm
  have hsum:sumM O=sumM (O.take m)+pm:=by
   have:=sumM_push (O.take m) (pf,pl,pc,pm);rw[←hsp]at this;exact this
  have hnn:=(sumM_nonneg hfr m (by omega)).1
  have hl1:(O.take m).length=m:=by rw[List.length_take];omega
  have hgl:=entD_last (O.take m) (pf,pl,pc,min 9999 (pm+1))
  rw[hl1]at hgl
  have hlen:(O.take m++[((pf,pl,pc,min 9999 (pm+1)):EntR)]).length=m+1:=by rw[List.length_append,hl1];rfl
  have hE:entOk (pf,pl,pc,min 9999 (pm+1)):=⟨hlast.1.1,hlast.1.2.1,hlast.1.2.2.1,by simp only;omega⟩
  refine⟨⟨⟨by rw[hlen];omega,fr_push (fr_take hfr m (by omega)) hE (fun h1=>?_)⟩,?_,?_⟩,by rw[hlen];omega,?_,?_,?_,?_,by rw[hlen];omega⟩
  ·rw[hl1]at h1⊢
   rw[entD_take _ _ _ (by omega)]
   exact hlast.2 h1
  ·rw[sumM_push];simp only;omega
  ·rw[sumM_push,hlen]
   simp only
   rcases halt with h|h|h
   ·left;omega
   ·by_cases hx:pm<9999
    ·right;left;omega
    ·right;right;omega
   ·right;right;omega
  ·rw[hlen,Nat.add_sub_cancel,hgl]
  ·rw[hlen,Nat.add_sub_cancel,hgl]
  ·rw[hlen,Nat.add_sub_cancel,hgl];exact hf1
  ·rw[hlen];omega
 ·rw[if_neg hs]
  by_cases hfull:O.length=32
  ·rw[if_pos hfull]
   have hl1:(O.drop 1).length=31:=by rw[List.length_drop];omega
   have hlen:(O.drop 1++[((f,l,c,1):EntR)]).length=32:=by rw[List.length_append,hl1];rfl
   have hgl:=entD_last (O.drop 1) (f,l,c,1)
   rw[hl1]at hgl
   refine⟨⟨⟨by rw[hlen];omega,fr_push (fr_drop1 hfr) heo (fun h1=>?_)⟩,?_,.inl hlen⟩,by rw[hlen];omega,?_,?_,?_,?_,by rw[hlen];omega⟩
   ·rw[hl1,entD_drop1]
    have h2:=hst (by omega)
    rw[hfull]at h2
    refine⟨h2,fun h3=>hs ⟨by omega,?_⟩⟩
    rw[hfull];exact⟨h3.1.symm,h3.2.symm⟩
   ·have:=sumM_drop1 hfr (by omega)
    rw[sumM_push];simp only;omega
   ·rw[hlen];show((O.drop 1++[((f,l,c,1):EntR)]).getD 31 ent0).2.1=l;rw[hgl]
   ·rw[hlen];show((O.drop 1++[((f,l,c,1):EntR)]).getD 31 ent0).2.2.1=c;rw[hgl]
   ·rw[hlen];show((O.drop 1++[((f,l,c,1):EntR)]).getD 31 ent0).1≤f;rw[hgl];exact Int.le_refl _
   ·rw[hlen];omega
  ·rw[if_neg hfull]
   have hlen:(O++[((f,l,c,1):EntR)]).length=O.length+1:=by rw[List.length_append];rfl
   have hgl:=entD_last O (f,l,c,1)
   refine⟨⟨⟨by rw[hlen];omega,fr_push hfr heo (fun h1=>?_)⟩,?_,?_⟩,by rw[hlen];omega,?_,?_,?_,?_,by rw[hlen];omega⟩
   ·exact⟨hst h1,fun h3=>hs ⟨h1,h3.1.symm,h3.2.symm⟩⟩
   ·rw[sumM_push];simp only;omega
   ·rw[sumM_push,hlen]
    simp only
    rcases halt with h|h|h
    ·omega
    ·right;left;omega
    ·right;right;omega
   ·rw[hlen,Nat.add_sub_cancel,hgl]
   ·rw[hlen,Nat.add_sub_cancel,hgl]
   ·rw[hlen,Nat.add_sub_cancel,hgl];exact Int.le_refl _
   ·intro _;rw[List.take_left'];rfl
end Go.Proofs.YtpkiepjmcepnoaaGreatDoor
