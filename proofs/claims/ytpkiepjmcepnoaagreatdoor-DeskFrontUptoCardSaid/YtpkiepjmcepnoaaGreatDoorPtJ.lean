/- A part of a proof. -/
import Derived.Lib.Hide
import Derived.WalkLawsBesides
import Derived.Maps.OwnOps
import Derived.Maps.Views
import Derived.DeepKeys4
import Derived.Deep.RegionHeld3
import Derived.Test.YtpkiepjmcepnoaaGreatDoorPtA
set_option maxHeartbeats 16000000
set_option maxRecDepth 100000
namespace Go.Proofs.YtpkiepjmcepnoaaGreatDoor
open Go.ChangeShapes Go.WideShapes Go.ChangeAt Go.RowKit
set_option linter.unusedVariables false
section
variable {P:Program} {ops:Array Oper} {Q:Exit→Act→World→Prop} {md:Region.Mode}
theorem count_set_true:∀(l:List Bool) (i:Nat),l[i]?=some false→(l.set i true).countP (!·)+1=l.countP (!·)
 |[],i,h=>by simp at h
 |b::l,0,h=>by simp at h;subst h;simp
 |b::l,i+1,h=>by
  have:=count_set_true l i (by simpa using h)
  simp only[List.set_cons_succ,List.countP_cons];omega
theorem wpAny_inv (I:Array Bool→Act→World→Prop)
  (hstep:∀(listed:Array Bool) (a:Act) (w:World) (i:Nat),listed.size=ops.size→I listed a w→i∈Region.ready md ops listed→wpOp P ops Q i (I (listed.setIfInBounds i true)) a w)
  (hend:∀(listed:Array Bool) (a:Act) (w:World),listed.size=ops.size→Region.ready md ops listed=[]→I listed a w→Q .normal a w):
  ∀(fuel:Nat) (listed:Array Bool) (a:Act) (w:World),listed.size=ops.size→listed.toList.countP (!·)≤fuel→I listed a w→wpAny P md ops Q fuel listed a w:=by
 intro fuel
 induction fuel with
 |zero=>
  intro listed a w hs hc hI
  have hr:Region.ready md ops listed=[]:=by
   rw[List.eq_nil_iff_forall_not_mem]
   intro i hi
   have h0:=(mem_ready.1 hi).1
   have hlt:i<listed.size:=by
    rcases Nat.lt_or_ge i listed.size with h|h
    ·exact h
    ·simp[Array.getElem?_eq_none h]at h0
   have hm:listed[i]=false:=by simpa[hlt]using h0
   have:0<listed.toList.countP (!·):=List.countP_pos_iff.2 ⟨listed[i],by simp,by simp[hm]⟩
   omega
  exact⟨hr,hend listed a w hs hr hI⟩
 |succ fuel ih=>
  intro listed a w hs hc hI
  refine⟨fun hr=>hend listed a w hs hr hI,fun i hi=>wpOp_mono (fun a' w' h=>ih _ a' w' (by simp[hs]) ?_ h) (hstep listed a w i hs hI hi)⟩
  have h0:=(mem_ready.1 hi).1
  have hlt:i<listed.size:=by
   rcases Nat.lt_or_ge i listed.size with h|h
   ·exact h
   ·simp[Array.getElem?_eq_none h]at h0
  have hm:listed.toList[i]?=some false:=by simpa[hlt]using h0
  have:=count_set_true listed.toList i hm
  simp only[Array.toList_setIfInBounds]
  omega
end
def SE (s e:Int):Prop:=(s=0∨s=1∨s=2∨s=3)∧(e=1∨e=2∨e=3∨e=4∨e=5∨e=6∨e=7)
def turnI (s e:Int):Option (Nat×Int):=
 if s=0 then(if e=1 then some (2,1)else if e=3 then some (4,2)else if e=5 then some (6,3)else none)
 else if s=1 then(if e=2 then some (8,0)else if e=3 then some (10,2)else if e=4 then some (12,0)else if e=5 then some (14,3)else none)
 else if s=2 then(if e=7 then some (16,0)else if e=5 then some (18,3)else none)
 else if s=3 then(if e=6 then some (20,0)else if e=7 then some (22,0)else none)else none
def turnV (s e:Int):Int:=match turnI s e with|some (_,v)=>v|none=>0
def turnB (s e:Int):Bool:=(turnI s e).isSome
def keyAt (j:Nat):Int×Int:=
 match j with|2=>(0,1)|4=>(0,3)|6=>(0,5)|8=>(1,2)|10=>(1,3)|12=>(1,4)|14=>(1,5)|16=>(2,7)|18=>(2,5)|20=>(3,6)|22=>(3,7)|_=>(0,0)
theorem turn_key {s e:Int} {j:Nat} {v:Int} (h:SE s e) (ht:turnI s e=some (j,v)):keyAt j=(s,e):=by
 obtain⟨h1,h2⟩:=h
 rcases h1 with rfl|rfl|rfl|rfl<;>rcases h2 with rfl|rfl|rfl|rfl|rfl|rfl|rfl<;>simp[turnI]at ht<;>(obtain⟨rfl,rfl⟩:=ht;rfl)
theorem turnKeyed:Go.Maps.Keyed Tryz.prog 293:=Go.Maps.Keyed.of_law (deep_law_laid Open.laidOut (m:=Tryz.prog.types.size+1) (by decide+kernel) (by decide+kernel) (by kernel_rfl) (by kernel_rfl))
def KLof (P:Program) (k:TypeId) (s e:Int):Lit:=(keyOf P k (.agg #[.int .i64 s,.int .i64 e])).getD (.bool false)
theorem kl_ok {s e:Int} (h:SE s e):keyOf Tryz.prog 293 (.agg #[.int .i64 s,.int .i64 e])=some (KLof Tryz.prog 293 s e):=by
 have hs:(keyOf Tryz.prog 293 (.agg #[.int .i64 s,.int .i64 e])).isSome=true:=by
  obtain⟨h1,h2⟩:=h
  rcases h1 with rfl|rfl|rfl|rfl<;>rcases h2 with rfl|rfl|rfl|rfl|rfl|rfl|rfl<;>kernel_rfl
 unfold KLof
 obtain⟨l,hl⟩:=Option.isSome_iff_exists.1 hs
 rw[hl];rfl
theorem kl_inj {s e s' e':Int} (h:SE s e) (h':SE s' e') (hk:(KLof Tryz.prog 293 s e)=(KLof Tryz.prog 293 s' e')):s=s'∧e=e':=by
 have h1:=kl_ok h
 have h2:=kl_ok h'
 rw[←hk]at h2
 have:=turnKeyed.inj h1 h2
 simpa using this
def MapInv (D:DataW Unit) (ls:Nat→Bool):Prop:=Go.Maps.IsMap D∧∀s e,SE s e→
 match turnI s e with
 |some (j,v)=>(ls j=true→Go.Maps.has D (KLof Tryz.prog 293 s e)=true∧∀z,D.atKey (KLof Tryz.prog 293 s e) z=.lit (.int .i64 v))∧(ls j=false→Go.Maps.has D (KLof Tryz.prog 293 s e)=false)
 |none=>Go.Maps.has D (KLof Tryz.prog 293 s e)=false
theorem mapInv_nil {ls:Nat→Bool} (h:∀j,ls j=true→keyAt j=(0,0)):MapInv (.map []) ls:=by
 refine⟨⟨[],rfl⟩,fun s e hse=>?_⟩
 cases ht:turnI s e with
 |none=>rfl
 |some q=>
  obtain⟨j,v⟩:=q
  refine⟨fun hj=>?_,fun _=>rfl⟩
  have h1:=h j hj
  rw[turn_key hse ht]at h1
  obtain⟨ha,hb⟩:=hse
  simp only[Prod.mk.injEq]at h1
  omega
theorem mapInv_step {D:DataW Unit} {ls ls':Nat→Bool} (h:MapInv D ls) {s0 e0:Int} (h0:SE s0 e0) {j0:Nat} {v0:Int} (ht:turnI s0 e0=some (j0,v0)) (hj:ls' j0=true) (hne:∀j,j≠j0→ls' j=ls j):
  MapInv (D.put (KLof Tryz.prog 293 s0 e0) (.lit (.int .i64 v0))) ls':=by
 obtain⟨hm,hall⟩:=h
 refine⟨hm.put _ _,fun s e hse=>?_⟩
 have hx:=hall s e hse
 have hk0:=turnKeyed.key (kl_ok h0)
 by_cases heq:s=s0∧e=e0
 ·obtain⟨rfl,rfl⟩:=heq
  rw[ht]
  exact⟨fun _=>⟨Go.Maps.has_put_same hm hk0 _,fun z=>Go.Maps.atKey_put_same hm hk0 _ _⟩,fun h1=>by rw[hj]at h1;cases h1⟩
 ·have hkl:(KLof Tryz.prog 293 s e)≠(KLof Tryz.prog 293 s0 e0):=fun hk=>heq (kl_inj hse h0 hk)
  cases hte:turnI s e with
  |none=>rw[hte]at hx;simp only[]at hx⊢;rw[Go.Maps.has_put_other hkl];exact hx
  |some q=>
   obtain⟨j,v⟩:=q
   rw[hte]at hx
   simp only[]at hx⊢
   have hjj:j≠j0:=fun e1=>by
    subst e1
    have h1:=turn_key hse hte
    rw[turn_key h0 ht]at h1
    simp only[Prod.mk.injEq]at h1
    exact heq ⟨h1.1.symm,h1.2.symm⟩
   rw[hne j hjj,Go.Maps.has_put_other hkl]
   refine⟨fun h1=>⟨(hx.1 h1).1,fun z=>?_⟩,hx.2⟩
   rw[Go.Maps.atKey_put_other hkl]
   exact(hx.1 h1).2 z
theorem turn_lt {s e:Int} {j:Nat} {v:Int} (h:SE s e) (ht:turnI s e=some (j,v)):j<23:=by
 obtain⟨h1,h2⟩:=h
 rcases h1 with rfl|rfl|rfl|rfl<;>rcases h2 with rfl|rfl|rfl|rfl|rfl|rfl|rfl<;>simp[turnI]at ht<;>(obtain⟨rfl,rfl⟩:=ht;decide)
theorem mapInv_same {D:DataW Unit} {ls ls':Nat→Bool} (h:MapInv D ls) (hl:∀j,j<23→ls' j=ls j):MapInv D ls':=by
 refine⟨h.1,fun s e hse=>?_⟩
 have hx:=h.2 s e hse
 cases ht:turnI s e with
 |none=>rw[ht]at hx;exact hx
 |some q=>
  obtain⟨j,v⟩:=q
  rw[ht]at hx
  simp only[]at hx⊢
  rw[hl j (turn_lt hse ht)]
  exact hx
def Turns (w:World) (b:Nat):Prop:=∃(D:DataW Unit) (n:Nat),w.ownsMap Tryz.prog 293 (plainElem Tryz.prog 3) b n D∧MapInv D (fun _=>true)
theorem turns_look {w:World} {b:Nat} (h:Turns w b) {s e:Int} (hse:SE s e):
  (Instr.lookup 290 (.map (some b)) (.agg #[.int .i64 s,.int .i64 e]) true).run Tryz.prog w=.ok (.tuple #[.int .i64 (turnV s e),.bool (turnB s e)]) w:=by
 obtain⟨D,n,⟨es,clock,hb,F,-,rfl⟩,hm,hall⟩:=h
 have hx:=hall s e hse
 rcases Go.Maps.fit_look true turnKeyed (t:=290) (e:=3) Tryz.underlying290 (z:=.int .i64 0) (by kernel_rfl) hb F (kl_ok hse)with⟨hrun,-,hat⟩|⟨e0,y,-,-,hrun,hR,hat,-⟩
 ·have hh:=Go.Maps.has_false_of_atKey hat
  cases ht:turnI s e with
  |none=>rw[hrun];simp[turnV,turnB,ht]
  |some q=>
   obtain⟨j,v⟩:=q
   rw[ht]at hx
   have:=(hx.1 rfl).1
   rw[hh]at this;cases this
 ·have hh:=Go.Maps.has_true_of_atKey hat
  cases ht:turnI s e with
  |none=>rw[ht]at hx;rw[show Go.Maps.has _ _=false from hx]at hh;cases hh
  |some q=>
   obtain⟨j,v⟩:=q
   rw[ht]at hx
   have h1:=(hx.1 rfl).2 (.lit (.bool false))
   rw[hat]at h1
   obtain⟨a,ha,rfl,-⟩:=plainElem_int_inv Tryz.underlying3 hR
   simp only[DataW.lit.injEq,Lit.int.injEq,true_and]at h1
   subst h1
   rw[hrun,ha];simp[turnV,turnB,ht]
theorem wpOp_insert {P:Program} {ops:Array Oper} {Q:Exit→Act→World→Prop} {i:Nat} {ty:TypeId} {pos:String} {af:Array Edge} {K:Act→World→Prop} {a:Act} {w:World} {t k e:TypeId} {m x v:Operand} {b n:Nat} {D:DataW Unit} {v0:Int}
  (hi:ops[i]?=some ⟨none,.insert t m x v,ty,pos,af,none⟩) (Ky:Go.Maps.Keyed P k) (ht:P.underlying t=some (.map k e)) (he:P.underlying e=some (.int .i64))
  (hown:w.ownsMap P k (plainElem P e) b n D) (hn:n<maxLen) (hm:a.eval m=.map (some b)) {key:Value} {kl:Lit} (hx:a.eval x=key) (hkey:keyOf P k key=some kl) (hv:a.eval v=.int .i64 v0) (hw:(Lit.int .i64 v0).wf=true)
  (hK:∀w',w'.ownsMap P k (plainElem P e) b (n+1) (D.put kl (.lit (.int .i64 v0)))→w.grownBy w' (some b)→K a w'):wpOp P ops Q i K a w:=by
 obtain⟨w',hrun,r1,r2⟩:=hown.update Ky ht hn hkey (plainElem_int he hw)
 unfold wpOp
 simp only[hi]
 rw[if_pos (by rfl)]
 left
 unfold Oper.wp
 simp[execOp,hm,hx,hv,hrun,Result.andThen,Oper.upon]
 exact hK _ r1 r2
theorem all_listed {ops:Array Oper} {md:Region.Mode} {listed:Array Bool} (hlow:((List.range ops.size).all fun i=>match ops[i]? with|some o=>o.after.all (fun e=>decide (e.on<i))|none=>true)=true)
  (hs:listed.size=ops.size) (hr:Region.ready md ops listed=[]):∀i,i<ops.size→listed.getD i false=true:=by
 intro i
 induction i using Nat.strongRecOn with
 |_ i ih=>
  intro hi
  cases hl:listed.getD i false with
  |true=>rfl
  |false=>
   exfalso
   have hmem:i∈Region.ready md ops listed:=by
    refine mem_ready.2 ⟨by simpa[hs,hi]using hl,ops[i],by simp[hi],fun e he hb=>?_⟩
    have h1:=List.all_eq_true.1 hlow i (List.mem_range.2 hi)
    simp only[hi,getElem?_pos]at h1
    have h2:=Array.all_eq_true_iff_forall_mem.1 h1 e he
    have h3:e.on<i:=by simpa using h2
    exact ih e.on h3 (by omega)
   rw[hr]at hmem;cases hmem
theorem listed_no {listed:Array Bool} {j:Nat} (h1:listed.getD j true=false) (h2:listed.getD j false=true):False:=by
 rcases Nat.lt_or_ge j listed.size with h|h
 ·simp[h]at h1 h2;rw[h1]at h2;cases h2
 ·simp[Array.getElem?_eq_none h]at h1
theorem listed_set {listed:Array Bool} {j k:Nat} (h:j<listed.size):(listed.setIfInBounds j true).getD k false=if k=j then true else listed.getD k false:=by
 by_cases hk:k=j
 ·subst hk;simp[h]
 ·simp[hk,Array.getElem?_setIfInBounds_ne (Ne.symm hk)]
def TI (A0 A1 A2:Act) (w0:World) (b:Nat) (listed:Array Bool) (a:Act) (w:World):Prop:=
 ∃(D:DataW Unit) (n:Nat),w.ownsMap Tryz.prog 293 (plainElem Tryz.prog 3) b n D∧n+listed.toList.countP (!·)≤25∧MapInv D (fun j=>listed.getD j false)∧Below w0.heap.size w0 w∧
  (∀j,j=0∨(j%2=1∧j≤21)→listed.getD j false=true)∧
  ((a=A0∧listed.getD 23 false=false∧listed.getD 24 false=false)∨((∀j,j<24→listed.getD j false=true)∧a=A1∧listed.getD 24 false=false)∨((∀j,j<25→listed.getD j false=true)∧a=A2))
theorem ti_insert {A0 A1 A2:Act} {w0:World} {b:Nat} {listed:Array Bool} {a:Act} {w:World} (h:TI A0 A1 A2 w0 b listed a w) (hs:listed.size=25) (k:Nat) (hk:k<23) (hun:listed.getD k true=false) {s0 e0 v0:Int} (hse:SE s0 e0) (ht:turnI s0 e0=some (k,v0)) (hb:w0.heap.size≤b):
  a=A0∧∃(D:DataW Unit) (n:Nat),w.ownsMap Tryz.prog 293 (plainElem Tryz.prog 3) b n D∧n<maxLen∧
   ∀w',w'.ownsMap Tryz.prog 293 (plainElem Tryz.prog 3) b (n+1) (D.put (KLof Tryz.prog 293 s0 e0) (.lit (.int .i64 v0)))→w.grownBy w' (some b)→TI A0 A1 A2 w0 b (listed.setIfInBounds k true) a w':=by
 obtain⟨D,n,hown,hn,hmi,hB,hd,hc⟩:=h
 have hf:listed.toList[k]?=some false:=by
  have:k<listed.size:=by omega
  simp[this]at hun
  simp[this,hun]
 have hcnt:=count_set_true listed.toList k hf
 have ha:a=A0∧listed.getD 23 false=false∧listed.getD 24 false=false:=by
  rcases hc with hc|⟨hc,-⟩|⟨hc,-⟩
  ·exact hc
  ·exact(listed_no hun (hc k (by omega))).elim
  ·exact(listed_no hun (hc k (by omega))).elim
 refine⟨ha.1,D,n,hown,by unfold maxLen;omega,fun w' h1 h2=>⟨_,_,h1,?_,mapInv_step hmi hse ht ?_ ?_,hB.grown h2 hB.size (fun k e=>by cases e;exact hb),fun j hj=>?_,.inl ⟨ha.1,?_,?_⟩⟩⟩
 ·simp only[Array.toList_setIfInBounds];omega
 ·rw[listed_set (by omega)];simp
 ·intro j hj;rw[listed_set (by omega),if_neg hj]
 ·rw[listed_set (by omega)];have:=hd j hj;split<;>simp_all
 ·rw[listed_set (by omega),if_neg (by omega)];exact ha.2.1
 ·rw[listed_set (by omega),if_neg (by omega)];exact ha.2.2
theorem ti_move {A0 A1 A2:Act} {w0:World} {b:Nat} {listed:Array Bool} {w:World} {D:DataW Unit} {n k:Nat} (hs:listed.size=25) (hk:k=23∨k=24) (hun:listed.getD k true=false)
  (hown:w.ownsMap Tryz.prog 293 (plainElem Tryz.prog 3) b n D) (hn:n+listed.toList.countP (!·)≤25) (hmi:MapInv D (fun j=>listed.getD j false)) (hB:Below w0.heap.size w0 w)
  (hd:∀j,j=0∨(j%2=1∧j≤21)→listed.getD j false=true) {a:Act}
  (hc:(k=23∧(∀j,j<23→listed.getD j false=true)∧a=A1∧listed.getD 24 false=false)∨(k=24∧(∀j,j<24→listed.getD j false=true)∧a=A2)):
  TI A0 A1 A2 w0 b (listed.setIfInBounds k true) a w:=by
 have hf:listed.toList[k]?=some false:=by
  have:k<listed.size:=by omega
  simp[this]at hun
  simp[this,hun]
 have hcnt:=count_set_true listed.toList k hf
 refine⟨D,n,hown,by simp only[Array.toList_setIfInBounds];omega,mapInv_same hmi (fun j hj=>by rw[listed_set (by omega),if_neg (by omega)]),hB,fun j hj=>by rw[listed_set (by omega),if_neg (by omega)];exact hd j hj,?_⟩
 rcases hc with⟨rfl,h1,rfl,h2⟩|⟨rfl,h1,rfl⟩
 ·refine .inr (.inl ⟨fun j hj=>?_,rfl,by rw[listed_set (by omega),if_neg (by omega)];exact h2⟩)
  rw[listed_set (by omega)]
  by_cases hj2:j=23
  ·rw[if_pos hj2]
  ·rw[if_neg hj2];exact h1 j (by omega)
 ·refine .inr (.inr ⟨fun j hj=>?_,rfl⟩)
  rw[listed_set (by omega)]
  by_cases hj2:j=24
  ·rw[if_pos hj2]
  ·rw[if_neg hj2];exact h1 j (by omega)
theorem ti_first {A0 A1 A2:Act} {w0 w:World} {b:Nat} {listed:Array Bool} (hown:w.ownsMap Tryz.prog 293 (plainElem Tryz.prog 3) b 0 (.map []:DataW Unit)) (hB:Below w0.heap.size w0 w)
  (hl:listed=#[true,true,false,true,false,true,false,true,false,true,false,true,false,true,false,true,false,true,false,true,false,true,false,false,false]):TI A0 A1 A2 w0 b listed A0 w:=by
 subst hl
 refine⟨_,_,hown,by decide,mapInv_nil fun j hj=>?_,hB,fun j hj=>?_,.inl ⟨rfl,rfl,rfl⟩⟩
 ·by_cases h:j<25
  ·exact(by decide+kernel:∀j,j<25→(#[true,true,false,true,false,true,false,true,false,true,false,true,false,true,false,true,false,true,false,true,false,true,false,false,false]:Array Bool).getD j false=true→keyAt j=(0,0)) j h hj
  ·simp[Array.getElem?_eq_none (show(#[true,true,false,true,false,true,false,true,false,true,false,true,false,true,false,true,false,true,false,true,false,true,false,false,false]:Array Bool).size≤j by simp;omega)]at hj
 ·exact(by decide+kernel:∀j,j<25→(j=0∨(j%2=1∧j≤21))→(#[true,true,false,true,false,true,false,true,false,true,false,true,false,true,false,true,false,true,false,true,false,true,false,false,false]:Array Bool).getD j false=true) j (by omega) hj
theorem turns_any (w:World):Calls Tryz.prog 187 #[] w fun e w'=>∃b,e=.returned (.map (some b))∧Turns w' b∧Below w.heap.size w w'∧w.heap.size≤b:=by
 have hmm:=@run_makeMap Tryz.prog
 go_enter Tryz.func187,Tryz.ntmps187
 go_wp2
 refine wp_region_any (by kernel_rfl) ?_
 change wpAny _ _ _ _ _ _ _ (World.drew _)
 refine wpAny_take (i:=1) (v:=.agg #[.int .i64 0,.int .i64 1]) rfl (by kernel_rfl) (by kernel_rfl) (by kernel_rfl) (fun _ _ _ h=>h) (Or.inl ⟨by rfl,fun w=>by first|(go_simp;done)|(go_simp;with_reducible rfl)⟩) ?_
 refine wpAny_take (i:=3) (v:=.agg #[.int .i64 0,.int .i64 3]) rfl (by kernel_rfl) (by kernel_rfl) (by kernel_rfl) (fun _ _ _ h=>h) (Or.inl ⟨by rfl,fun w=>by first|(go_simp;done)|(go_simp;with_reducible rfl)⟩) ?_
 refine wpAny_take (i:=5) (v:=.agg #[.int .i64 0,.int .i64 5]) rfl (by kernel_rfl) (by kernel_rfl) (by kernel_rfl) (fun _ _ _ h=>h) (Or.inl ⟨by rfl,fun w=>by first|(go_simp;done)|(go_simp;with_reducible rfl)⟩) ?_
 refine wpAny_take (i:=7) (v:=.agg #[.int .i64 1,.int .i64 2]) rfl (by kernel_rfl) (by kernel_rfl) (by kernel_rfl) (fun _ _ _ h=>h) (Or.inl ⟨by rfl,fun w=>by first|(go_simp;done)|(go_simp;with_reducible rfl)⟩) ?_
 refine wpAny_take (i:=9) (v:=.agg #[.int .i64 1,.int .i64 3]) rfl (by kernel_rfl) (by kernel_rfl) (by kernel_rfl) (fun _ _ _ h=>h) (Or.inl ⟨by rfl,fun w=>by first|(go_simp;done)|(go_simp;with_reducible rfl)⟩) ?_
 refine wpAny_take (i:=11) (v:=.agg #[.int .i64 1,.int .i64 4]) rfl (by kernel_rfl) (by kernel_rfl) (by kernel_rfl) (fun _ _ _ h=>h) (Or.inl ⟨by rfl,fun w=>by first|(go_simp;done)|(go_simp;with_reducible rfl)⟩) ?_
 refine wpAny_take (i:=13) (v:=.agg #[.int .i64 1,.int .i64 5]) rfl (by kernel_rfl) (by kernel_rfl) (by kernel_rfl) (fun _ _ _ h=>h) (Or.inl ⟨by rfl,fun w=>by first|(go_simp;done)|(go_simp;with_reducible rfl)⟩) ?_
 refine wpAny_take (i:=15) (v:=.agg #[.int .i64 2,.int .i64 7]) rfl (by kernel_rfl) (by kernel_rfl) (by kernel_rfl) (fun _ _ _ h=>h) (Or.inl ⟨by rfl,fun w=>by first|(go_simp;done)|(go_simp;with_reducible rfl)⟩) ?_
 refine wpAny_take (i:=17) (v:=.agg #[.int .i64 2,.int .i64 5]) rfl (by kernel_rfl) (by kernel_rfl) (by kernel_rfl) (fun _ _ _ h=>h) (Or.inl ⟨by rfl,fun w=>by first|(go_simp;done)|(go_simp;with_reducible rfl)⟩) ?_
 refine wpAny_take (i:=19) (v:=.agg #[.int .i64 3,.int .i64 6]) rfl (by kernel_rfl) (by kernel_rfl) (by kernel_rfl) (fun _ _ _ h=>h) (Or.inl ⟨by rfl,fun w=>by first|(go_simp;done)|(go_simp;with_reducible rfl)⟩) ?_
 refine wpAny_take (i:=21) (v:=.agg #[.int .i64 3,.int .i64 7]) rfl (by kernel_rfl) (by kernel_rfl) (by kernel_rfl) (fun _ _ _ h=>h) (Or.inl ⟨by rfl,fun w=>by first|(go_simp;done)|(go_simp;with_reducible rfl)⟩) ?_
 refine wpAny_ready (rs:=[0]) (by kernel_rfl) (by simp) ?_
 refine AllReady.cons rfl (fun K hK=>?_) AllReady.nil
 go_simp
 refine hK _ _ ?_
 clear hK K
 clear hmm
 refine wpAny_inv (TI ⟨#[.map none,.map (some w.heap.size),.agg #[.int .i64 0,.int .i64 1],.agg #[.int .i64 0,.int .i64 3],.agg #[.int .i64 0,.int .i64 5],.agg #[.int .i64 1,.int .i64 2],.agg #[.int .i64 1,.int .i64 3],.agg #[.int .i64 1,.int .i64 4],.agg #[.int .i64 1,.int .i64 5],.agg #[.int .i64 2,.int .i64 7],.agg #[.int .i64 2,.int .i64 5],.agg #[.int .i64 3,.int .i64 6],.agg #[.int .i64 3,.int .i64 7],undef],[]⟩
  ⟨#[.map none,.map (some w.heap.size),.agg #[.int .i64 0,.int .i64 1],.agg #[.int .i64 0,.int .i64 3],.agg #[.int .i64 0,.int .i64 5],.agg #[.int .i64 1,.int .i64 2],.agg #[.int .i64 1,.int .i64 3],.agg #[.int .i64 1,.int .i64 4],.agg #[.int .i64 1,.int .i64 5],.agg #[.int .i64 2,.int .i64 7],.agg #[.int .i64 2,.int .i64 5],.agg #[.int .i64 3,.int .i64 6],.agg #[.int .i64 3,.int .i64 7],.map (some w.heap.size)],[]⟩
  ⟨#[.map (some w.heap.size),.map (some w.heap.size),.agg #[.int .i64 0,.int .i64 1],.agg #[.int .i64 0,.int .i64 3],.agg #[.int .i64 0,.int .i64 5],.agg #[.int .i64 1,.int .i64 2],.agg #[.int .i64 1,.int .i64 3],.agg #[.int .i64 1,.int .i64 4],.agg #[.int .i64 1,.int .i64 5],.agg #[.int .i64 2,.int .i64 7],.agg #[.int .i64 2,.int .i64 5],.agg #[.int .i64 3,.int .i64 6],.agg #[.int .i64 3,.int .i64 7],.map (some w.heap.size)],[]⟩
  w w.heap.size) ?step ?fin _ _ _ _ (by kernel_rfl) (by decide+kernel) ?start
 case start=>exact ti_first (World.ownsMap_made w.drew _ _ _) (((bLr).drew).alloc (Nat.le_refl _) _) (by kernel_rfl)
 case fin=>
  intro listed a w' hs hr ⟨D,n,hown,hn,hmi,hB,hd,hc⟩
  have hall:=all_listed (by kernel_rfl) hs hr
  change ∀i,i<25→_ at hall
  rcases hc with⟨-,-,h⟩|⟨-,-,h⟩|⟨-,rfl⟩
  ·rw[hall 24 (by omega)]at h;cases h
  ·rw[hall 24 (by omega)]at h;cases h
  have hT:Turns w' w.heap.size:=⟨D,n,hown,mapInv_same hmi (fun j hj=>(hall j (by omega)).symm)⟩
  clear hown hmi hd hn hr hall hs
  go_wp2
  go_ret
  exact⟨_,rfl,hT,hB,Nat.le_refl _⟩
 case step=>
  intro listed a w' i hs hI hi
  change listed.size=25 at hs
  obtain⟨hun,o,ho,hal⟩:=mem_ready.1 hi
  have hlt:i<25:=(Array.getElem?_eq_some_iff.1 ho).1
  by_cases hodd:i=0∨(i%2=1∧i≤21)
  ·obtain⟨D,n,-,-,-,-,hd,-⟩:=hI
   exact(listed_no hun (hd i hodd)).elim
  by_cases h23:i=23
  ·subst h23
   have ho':o=_:=(Option.some.inj ho).symm
   subst ho'
   have hlow:∀j,j<23→listed.getD j false=true:=by
    intro j hj
    rcases(by omega:j=0∨j=1∨j=2∨j=3∨j=4∨j=5∨j=6∨j=7∨j=8∨j=9∨j=10∨j=11∨j=12∨j=13∨j=14∨j=15∨j=16∨j=17∨j=18∨j=19∨j=20∨j=21∨j=22)with rfl|rfl|rfl|rfl|rfl|rfl|rfl|rfl|rfl|rfl|rfl|rfl|rfl|rfl|rfl|rfl|rfl|rfl|rfl|rfl|rfl|rfl|rfl<;>exact hal ⟨_,.data⟩ (by simp) rfl
   obtain⟨D,n,hown,hn,hmi,hB,hd,hc⟩:=hI
   rcases hc with⟨rfl,h1,h2⟩|⟨h1,-⟩|⟨h1,-⟩
   ·refine Yields.wpOp rfl (v:=.map (some w.heap.size)) (Or.inl ⟨by rfl,fun w=>by first|(go_simp;done)|(go_simp;with_reducible rfl)⟩) ?_
    exact ti_move hs (.inl rfl) hun hown hn hmi hB hd (.inl ⟨rfl,hlow,rfl,h2⟩)
   ·exact(listed_no hun (h1 23 (by omega))).elim
   ·exact(listed_no hun (h1 23 (by omega))).elim
  by_cases h24:i=24
  ·subst h24
   have ho':o=_:=(Option.some.inj ho).symm
   subst ho'
   obtain⟨D,n,hown,hn,hmi,hB,hd,hc⟩:=hI
   rcases hc with⟨rfl,h1,h2⟩|⟨h1,rfl,h2⟩|⟨h1,-⟩
   ·have:=hal ⟨23,.data⟩ (by simp) rfl
    rw[h1]at this;cases this
   ·refine Yields.wpOp rfl (v:=.map (some w.heap.size)) (Or.inl ⟨by rfl,fun w=>by first|(go_simp;done)|(go_simp;with_reducible rfl)⟩) ?_
    exact ti_move hs (.inr rfl) hun hown hn hmi hB hd (.inr ⟨rfl,h1,rfl⟩)
   ·exact(listed_no hun (h1 24 (by omega))).elim
  rcases(by omega:i=2∨i=4∨i=6∨i=8∨i=10∨i=12∨i=14∨i=16∨i=18∨i=20∨i=22)with rfl|rfl|rfl|rfl|rfl|rfl|rfl|rfl|rfl|rfl|rfl
  ·obtain⟨rfl,D,n,hown,hn,hnext⟩:=ti_insert hI hs 2 (by omega) hun (s0:=0) (e0:=1) (v0:=1) ⟨by omega,by omega⟩ rfl (Nat.le_refl _)
   exact wpOp_insert rfl turnKeyed Tryz.underlying290 Tryz.underlying3 hown hn rfl rfl (kl_ok ⟨by omega,by omega⟩) rfl (by decide) hnext
  ·obtain⟨rfl,D,n,hown,hn,hnext⟩:=ti_insert hI hs 4 (by omega) hun (s0:=0) (e0:=3) (v0:=2) ⟨by omega,by omega⟩ rfl (Nat.le_refl _)
   exact wpOp_insert rfl turnKeyed Tryz.underlying290 Tryz.underlying3 hown hn rfl rfl (kl_ok ⟨by omega,by omega⟩) rfl (by decide) hnext
  ·obtain⟨rfl,D,n,hown,hn,hnext⟩:=ti_insert hI hs 6 (by omega) hun (s0:=0) (e0:=5) (v0:=3) ⟨by omega,by omega⟩ rfl (Nat.le_refl _)
   exact wpOp_insert rfl turnKeyed Tryz.underlying290 Tryz.underlying3 hown hn rfl rfl (kl_ok ⟨by omega,by omega⟩) rfl (by decide) hnext
  ·obtain⟨rfl,D,n,hown,hn,hnext⟩:=ti_insert hI hs 8 (by omega) hun (s0:=1) (e0:=2) (v0:=0) ⟨by omega,by omega⟩ rfl (Nat.le_refl _)
   exact wpOp_insert rfl turnKeyed Tryz.underlying290 Tryz.underlying3 hown hn rfl rfl (kl_ok ⟨by omega,by omega⟩) rfl (by decide) hnext
  ·obtain⟨rfl,D,n,hown,hn,hnext⟩:=ti_insert hI hs 10 (by omega) hun (s0:=1) (e0:=3) (v0:=2) ⟨by omega,by omega⟩ rfl (Nat.le_refl _)
   exact wpOp_insert rfl turnKeyed Tryz.underlying290 Tryz.underlying3 hown hn rfl rfl (kl_ok ⟨by omega,by omega⟩) rfl (by decide) hnext
  ·obtain⟨rfl,D,n,hown,hn,hnext⟩:=ti_insert hI hs 12 (by omega) hun (s0:=1) (e0:=4) (v0:=0) ⟨by omega,by omega⟩ rfl (Nat.le_refl _)
   exact wpOp_insert rfl turnKeyed Tryz.underlying290 Tryz.underlying3 hown hn rfl rfl (kl_ok ⟨by omega,by omega⟩) rfl (by decide) hnext
  ·obtain⟨rfl,D,n,hown,hn,hnext⟩:=ti_insert hI hs 14 (by omega) hun (s0:=1) (e0:=5) (v0:=3) ⟨by omega,by omega⟩ rfl (Nat.le_refl _)
   exact wpOp_insert rfl turnKeyed Tryz.underlying290 Tryz.underlying3 hown hn rfl rfl (kl_ok ⟨by omega,by omega⟩) rfl (by decide) hnext
  ·obtain⟨rfl,D,n,hown,hn,hnext⟩:=ti_insert hI hs 16 (by omega) hun (s0:=2) (e0:=7) (v0:=0) ⟨by omega,by omega⟩ rfl (Nat.le_refl _)
   exact wpOp_insert rfl turnKeyed Tryz.underlying290 Tryz.underlying3 hown hn rfl rfl (kl_ok ⟨by omega,by omega⟩) rfl (by decide) hnext
  ·obtain⟨rfl,D,n,hown,hn,hnext⟩:=ti_insert hI hs 18 (by omega) hun (s0:=2) (e0:=5) (v0:=3) ⟨by omega,by omega⟩ rfl (Nat.le_refl _)
   exact wpOp_insert rfl turnKeyed Tryz.underlying290 Tryz.underlying3 hown hn rfl rfl (kl_ok ⟨by omega,by omega⟩) rfl (by decide) hnext
  ·obtain⟨rfl,D,n,hown,hn,hnext⟩:=ti_insert hI hs 20 (by omega) hun (s0:=3) (e0:=6) (v0:=0) ⟨by omega,by omega⟩ rfl (Nat.le_refl _)
   exact wpOp_insert rfl turnKeyed Tryz.underlying290 Tryz.underlying3 hown hn rfl rfl (kl_ok ⟨by omega,by omega⟩) rfl (by decide) hnext
  ·obtain⟨rfl,D,n,hown,hn,hnext⟩:=ti_insert hI hs 22 (by omega) hun (s0:=3) (e0:=7) (v0:=0) ⟨by omega,by omega⟩ rfl (Nat.le_refl _)
   exact wpOp_insert rfl turnKeyed Tryz.underlying290 Tryz.underlying3 hown hn rfl rfl (kl_ok ⟨by omega,by omega⟩) rfl (by decide) hnext
def laneChk (m:Int) (f:Bool) (r:Int):Int:=
 if m<0∨3<m∨r<0∨10000<r then 1 else if(f=true∧m≠2∧m≠3)∨(f=false∧m=2)then 4 else 0
theorem laneCheck_any (m:Int) (f:Bool) (r:Int) (w:World) (hm: -9223372036854775808≤m∧m≤9223372036854775807) (hr: -9223372036854775808≤r∧r≤9223372036854775807):
  Calls Tryz.prog 171 #[.agg #[.int .i64 m,.bool f,.int .i64 r]] w fun e w'=>e=.returned (.int .i64 (laneChk m f r))∧w.alloc (.cells #[.int .i64 m,.bool f,.int .i64 r] 75)=w':=by
 have hcase:(m<0∧laneChk m f r=1)∨(3<m∧laneChk m f r=1)∨((m=0∨m=1∨m=2∨m=3)∧r<0∧laneChk m f r=1)∨((m=0∨m=1∨m=2∨m=3)∧10000<r∧laneChk m f r=1)∨((m=0∨m=1∨m=2∨m=3)∧0≤r∧r≤10000):=by
  unfold laneChk
  by_cases h1:m<0
  ·left;exact⟨h1,if_pos (by omega)⟩
  by_cases h2:3<m
  ·right;left;exact⟨h2,if_pos (by omega)⟩
  by_cases h3:r<0
  ·right;right;left;exact⟨by omega,h3,if_pos (by omega)⟩
  by_cases h4:10000<r
  ·right;right;right;left;exact⟨by omega,h4,if_pos (by omega)⟩
  right;right;right;right;omega
 rcases hcase with⟨h,hv⟩|⟨h,hv⟩|⟨h,hh,hv⟩|⟨h,hh,hv⟩|⟨h,h1,h2⟩
 ·rw[hv];clear hv
  have d0:decide (m<0)=true:=decide_eq_true h
  go_enter Tryz.func171,Tryz.ntmps171
  go_wp2
  go_ret
  exact⟨rfl,rfl⟩
 ·rw[hv];clear hv
  have d0:decide (m<0)=false:=decide_eq_false (by omega)
  have d1:decide (3<m)=true:=decide_eq_true h
  go_enter Tryz.func171,Tryz.ntmps171
  go_wp2
  go_ret
  exact⟨rfl,rfl⟩
 ·rw[hv];clear hv
  have d0:decide (r<0)=true:=decide_eq_true hh
  rcases h with rfl|rfl|rfl|rfl
  all_goals
   go_enter Tryz.func171,Tryz.ntmps171
   go_wp2
   go_ret
   exact⟨rfl,rfl⟩
 ·rw[hv];clear hv
  have d0:decide (r<0)=false:=decide_eq_false (by omega)
  have d1:decide (10000<r)=true:=decide_eq_true hh
  rcases h with rfl|rfl|rfl|rfl
  all_goals
   go_enter Tryz.func171,Tryz.ntmps171
   go_wp2
   go_ret
   exact⟨rfl,rfl⟩
 ·have d0:decide (r<0)=false:=decide_eq_false (by omega)
  have d1:decide (10000<r)=false:=decide_eq_false (by omega)
  have hv:laneChk m f r=if(f=true∧m≠2∧m≠3)∨(f=false∧m=2)then 4 else 0:=by unfold laneChk;rw[if_neg (by omega)]
  rw[hv];clear hv
  rcases h with rfl|rfl|rfl|rfl<;>cases f
  all_goals
   go_enter Tryz.func171,Tryz.ntmps171
   go_wp2
   go_ret
   exact⟨by simp,rfl⟩
def LaneOk (m:Int) (f:Bool) (r:Int):Prop:=((m=0∧f=false)∨(m=1∧f=false)∨(m=2∧f=true)∨(m=3∧f=false)∨(m=3∧f=true))∧0≤r∧r≤10000
theorem laneChk_ok {m r:Int} {f:Bool} (h:LaneOk m f r):laneChk m f r=0:=by
 obtain⟨h1,h2⟩:=h
 rcases h1 with⟨rfl,rfl⟩|⟨rfl,rfl⟩|⟨rfl,rfl⟩|⟨rfl,rfl⟩|⟨rfl,rfl⟩<;>(unfold laneChk;rw[if_neg (by omega)];simp)
theorem laneCheck_yes (m:Int) (f:Bool) (r:Int) (w:World) (h:LaneOk m f r):
  Calls Tryz.prog 171 #[.agg #[.int .i64 m,.bool f,.int .i64 r]] w fun e w'=>e=.returned (.int .i64 0)∧w.alloc (.cells #[.int .i64 m,.bool f,.int .i64 r] 75)=w':=by
 have h1:=laneCheck_any m f r w (by unfold LaneOk at h;omega) (by unfold LaneOk at h;omega)
 rw[laneChk_ok h]at h1
 exact h1
def nextI (m:Int) (f:Bool) (r e:Int):Int×Bool×Int:=
 let m':=if turnB m e=true then(if e=6∧f=true then 2 else turnV m e)else m
 (m',(f&&e != 7)||e==3,if m'=m then r else 0)
end Go.Proofs.YtpkiepjmcepnoaaGreatDoor
