/- A part of a proof. -/
import Derived.Test.YtpkiepjmcepnoaaGreatDoorRows
import Derived.WalkKit
import Derived.ProofKit
import Derived.OpenShut
import Derived.ShutString
import Derived.ChangeOld
import Derived.Below
import Derived.WalkSpells
import Derived.SizedLaws
import Derived.Deep.QuietTactic
import Derived.BigQuiet
import Derived.Lib.Hide
import Derived.OwnWalk
import Derived.WalkSmall
import Derived.Laws.MakeOwn
import Derived.Laws.OwnMore
namespace Go.Proofs.YtpkiepjmcepnoaaGreatDoor
open Go.ChangeShapes Go.WideShapes Go.ChangeAt Go.RowKit
theorem bLs {B:Nat} {w0 w:World} {p:Addr} (hp:B≤p.block) (h:Below B w0 w) (v:Value):Below B w0 (w.setCell p v):=h.setCell hp v
theorem bLa {B:Nat} {w0 w:World} (hb:B≤w.heap.size) (h:Below B w0 w) (o:Obj):Below B w0 (w.alloc o):=h.alloc hb o
theorem bLr {B:Nat} {w:World}:Below B w w:=Below.refl _ _
theorem bLn {B:Nat} {w0 w:World} (h:Below B w0 w) (n:Nat):Below B w0 (w.drewN n):=below_drewN h n
theorem bLd {B:Nat} {w0 w:World} (h:Below B w0 w):Below B w0 w.drew:=h.drew
theorem bLt {B B':Nat} {w0 w w':World} (hb:Below B' w w') (hs:B≤B') (h:Below B w0 w):Below B w0 w':=h.trans (hb.mono hs)
theorem qh {p:Prop} (h:p):Hid p:=Lib.hid h
end Go.Proofs.YtpkiepjmcepnoaaGreatDoor
set_option maxHeartbeats 16000000
set_option maxRecDepth 100000
namespace Go.Proofs.YtpkiepjmcepnoaaGreatDoor.Open
open Go.ChangeShapes Go.WideShapes Go.ChangeAt Go.RowKit
def flatFields (g:TypeId→Option (List TypeId)) (size:TypeId→Nat):Nat→List (TypeId×Nat)→Option (List TypeId)
 |_,[]=>some []
 |o,(t,off)::r=>
  if off=o then
   match g t with
   |some l=>if l.length=size t then(flatFields g size (o+l.length) r).map (l++ ·)else none
   |none=>none
  else none
def flat (P:Program):Nat→TypeId→Option (List TypeId)
 |0,_=>none
 |n+1,t=>
  match P.underlying t with
  |some (.struct fs)=>flatFields (flat P n) P.cellsOf 0 (fs.toList.map fun f=>(f.type,f.offset))
  |some (.array k e)=>
   match flat P n e with
   |some l=>if l.length=P.cellsOf e then some ((List.replicate k l).flatten)else none
   |none=>none
  |some .bool=>some [t]
  |some (.int _)=>some [t]
  |some (.float _)=>some [t]
  |some .string=>some [t]
  |some (.slice _)=>some [t]
  |_=>none
section
variable {H:Type} {enc:TypeId×Value→H} {P:Program} {w:World} {base:Nat} {spare:Nat→Bool} {held:Bool}
def Leafs (enc:TypeId×Value→H) (P:Program) (w:World) (base:Nat) (spare:Nat→Bool) (held:Bool):List TypeId→List Value→Prop
 |[],[]=>True
 |t::ts,c::cs=>(∃m y,DataW.trod enc P w base spare held m t [c]=some y)∧Leafs enc P w base spare held ts cs
 |_,_=>False
theorem leafs_nil {cs:List Value} (h:Leafs enc P w base spare held [] cs):cs=[]:=by
 cases cs with
 |nil=>rfl
 |cons c cs=>exact absurd h (by simp[Leafs])
theorem leafs_cons {t:TypeId} {ts:List TypeId} {cs:List Value} (h:Leafs enc P w base spare held (t::ts) cs):
  ∃c r,cs=c::r∧(∃m y,DataW.trod enc P w base spare held m t [c]=some y)∧Leafs enc P w base spare held ts r:=by
 cases cs with
 |nil=>exact absurd h (by simp[Leafs])
 |cons c cs=>exact⟨c,cs,rfl,h.1,h.2⟩
theorem leafs_append {ts us:List TypeId} {cs ds:List Value} (h:Leafs enc P w base spare held ts cs) (k:Leafs enc P w base spare held us ds):
  Leafs enc P w base spare held (ts++us) (cs++ds):=by
 induction ts generalizing cs with
 |nil=>obtain rfl:=leafs_nil h;simpa using k
 |cons t ts ih=>obtain⟨c,r,rfl,hc,hr⟩:=leafs_cons h;exact⟨hc,ih hr⟩
theorem leafs_fields {g:TypeId→Option (List TypeId)} {size:TypeId→Nat} {cs:List Value} (all:List (TypeId×Nat)) (o:Nat) (ts:List TypeId)
  (hg:∀t l sub,g t=some l→sub.length=l.length→(∃m y,DataW.trod enc P w base spare held m t sub=some y)→Leafs enc P w base spare held l sub)
  (hf:flatFields g size o all=some ts) (hlen:cs.length=o+ts.length)
  (hr:∀x,x∈all→∃m y,DataW.trod enc P w base spare held m x.1 ((cs.drop x.2).take (size x.1))=some y):
  Leafs enc P w base spare held ts (cs.drop o):=by
 induction all generalizing o ts with
 |nil=>
  simp only[flatFields,Option.some.injEq]at hf
  subst hf
  simp only[List.length_nil,Nat.add_zero]at hlen
  rw[List.drop_of_length_le (by omega)]
  trivial
 |cons x all ih=>
  obtain⟨t,off⟩:=x
  simp only[flatFields]at hf
  by_cases h1:off=o
  ·rw[if_pos h1]at hf
   subst h1
   cases h2:g t with
   |none=>rw[h2]at hf;simp at hf
   |some l=>
    rw[h2]at hf
    simp only at hf
    by_cases h3:l.length=size t
    ·rw[if_pos h3]at hf
     obtain⟨us,h4,rfl⟩:=Option.map_eq_some_iff.1 hf
     simp only[List.length_append]at hlen
     have h5:=hr (t,off) (List.mem_cons_self)
     have h6:=hg t l ((cs.drop off).take (size t)) h2 (by simp;omega) h5
     have h7:=ih (off+l.length) us h4 (by omega) (fun x hx=>hr x (List.mem_cons_of_mem _ hx))
     have h8:=leafs_append h6 h7
     rwa [←h3,←List.drop_drop,List.take_append_drop]at h8
    ·rw[if_neg h3]at hf;simp at hf
  ·rw[if_neg h1]at hf;simp at hf
theorem leafs_array {l:List TypeId} {sz:Nat} (_hsz:l.length=sz) (k:Nat) (cs:List Value) (hlen:cs.length=k*sz)
  (hr:∀i,i<k→Leafs enc P w base spare held l ((cs.drop (i*sz)).take sz)):
  Leafs enc P w base spare held ((List.replicate k l).flatten) cs:=by
 induction k generalizing cs with
 |zero=>
  simp only[Nat.zero_mul,List.length_eq_zero_iff]at hlen
  subst hlen
  trivial
 |succ k ih=>
  have h0:=hr 0 (by omega)
  simp only[Nat.zero_mul,List.drop_zero]at h0
  have h1:=ih (cs.drop sz) (by rw[List.length_drop,hlen,Nat.succ_mul];omega) (fun i hi=>by
   have:=hr (i+1) (by omega)
   rwa [Nat.succ_mul,Nat.add_comm,←List.drop_drop]at this)
  have h2:=leafs_append h0 h1
  rw[List.take_append_drop]at h2
  simpa[List.replicate_succ]using h2
theorem leafs_of_trod (n:Nat):∀(t:TypeId) (ts:List TypeId) (cs:List Value) (m:Nat) (y:DataW H×List MemPlace),
  flat P n t=some ts→cs.length=ts.length→DataW.trod enc P w base spare held m t cs=some y→Leafs enc P w base spare held ts cs:=by
 induction n with
 |zero=>intro t ts cs m y h;simp[flat]at h
 |succ n ih=>
  intro t ts cs m y h hlen ht
  have leaf:some [t]=some ts→Leafs enc P w base spare held ts cs:=by
   intro h2
   simp only[Option.some.injEq]at h2
   subst h2
   match cs,hlen with
   |[c],_=>exact⟨⟨m,y,ht⟩,trivial⟩
  simp only[flat]at h
  split at h
  ·rename_i fs hu
   obtain⟨xs,m',rfl,rfl,hl,hsz,hx⟩:=DataW.trod_struct hu ht
   have:=leafs_fields (cs:=cs) _ 0 ts (fun t' l sub hl' hs ⟨m2,y2,h2⟩=>ih t' l sub m2 y2 hl' hs h2) h (by omega) (by
    intro x hx'
    obtain⟨f,hf,rfl⟩:=List.mem_map.1 hx'
    obtain⟨i,hi,hfi⟩:=List.getElem_of_mem hf
    have h3:=hx i f (by simp at hi hfi;simp[hi,hfi])
    have h4:i<xs.length:=by simp at hi;omega
    rw[List.getElem?_eq_getElem h4]at h3
    exact⟨_,_,h3⟩)
   simpa using this
  ·rename_i k e hu
   cases he:flat P n e with
   |none=>rw[he]at h;simp at h
   |some l=>
    rw[he]at h
    simp only at h
    by_cases h3:l.length=P.cellsOf e
    ·rw[if_pos h3]at h
     simp only[Option.some.injEq]at h
     subst h
     obtain⟨xs,m',rfl,rfl,hl,hsz,hx⟩:=DataW.trod_array hu ht
     have hlen':cs.length=k*P.cellsOf e:=by rw[hlen];simp[h3]
     refine leafs_array h3 k cs hlen' (fun i hi=>?_)
     have h4:=hx i hi
     rw[List.getElem?_eq_getElem (by omega)]at h4
     refine ih e l _ _ _ he ?_ h4
     have:(i+1)*P.cellsOf e≤k*P.cellsOf e:=Nat.mul_le_mul_right _ (by omega)
     rw[Nat.succ_mul]at this
     simp only[List.length_take,List.length_drop]
     omega
    ·rw[if_neg h3]at h;simp at h
  ·exact leaf h
  ·exact leaf h
  ·exact leaf h
  ·exact leaf h
  ·exact leaf h
  ·simp at h
theorem open_flat {r:Reach} {b0:Nat} {t:TypeId} {v:Value} {d:DataW H} {ps:List MemPlace} (n:Nat) (ts:List TypeId)
  (hfl:flat P n t=some ts) (hc:P.cellsOf t=ts.length) (hsa:(match P.underlying t with|some (.struct _)=>true|some (.array _ _)=>true|_=>false)=true)
  (hval:Value.okWide P w r b0 t v) (hd:DataW.Trod enc P w base spare held t v d ps):
  ∃cs:List Value,v=.agg cs.toArray∧Leafs enc P w base spare held ts cs:=by
 have h1:∃cs,v=.agg cs∧cs.size=P.cellsOf t:=by
  unfold Value.okWide at hval
  revert hsa hval
  cases P.underlying t with
  |none=>simp
  |some u=>
   cases u with
   |struct fs=>rintro _ ⟨cs,a,b,_⟩;exact⟨cs,a,b⟩
   |array k e=>rintro _ ⟨cs,a,b,_⟩;exact⟨cs,a,b⟩
   |_=>simp
 obtain⟨cs,rfl,hs⟩:=h1
 obtain⟨m,hm⟩:=hd
 exact⟨cs.toList,by simp,leafs_of_trod n t ts cs.toList m _ hfl (by simp[hs,hc]) (by simpa[Value.cells]using hm)⟩
theorem leaf_int {t:TypeId} {k:IntKind} {c:Value} (ht:P.underlying t=some (.int k)) (h:∃m y,DataW.trod enc P w base spare held m t [c]=some y):
  ∃n,c=.int k n∧(Lit.int k n).wf=true:=by
 obtain⟨m,y,h⟩:=h
 obtain⟨n,h1,_,h2⟩:=DataW.trod_int ht h
 simp only[List.cons.injEq,and_true]at h1
 exact⟨n,h1,h2⟩
theorem leaf_bool {t:TypeId} {c:Value} (ht:P.underlying t=some .bool) (h:∃m y,DataW.trod enc P w base spare held m t [c]=some y):
  ∃b,c=.bool b:=by
 obtain⟨m,y,h⟩:=h
 obtain⟨n,h1,_⟩:=DataW.trod_bool ht h
 simp only[List.cons.injEq,and_true]at h1
 exact⟨n,h1⟩
theorem bcell {W w1:World} (hb:Below W.heap.size W w1):(∀b o,b<W.heap.size→w1.cell? ⟨b,o,none⟩=W.cell? ⟨b,o,none⟩)∧(∀b o,b<W.heap.size→w1.frozen? ⟨b,o,none⟩=W.frozen? ⟨b,o,none⟩):=
 ⟨fun b o h=>hb.cell (p:=⟨b,o,none⟩) h,fun b o h=>hb.frozen (p:=⟨b,o,none⟩) h⟩
theorem leaf_rows {t e:TypeId} {c:Value} {ts:List TypeId} (n:Nat) (ht:P.underlying t=some (.slice e)) (hfl:flat P n e=some ts) (hc:P.cellsOf e=ts.length)
  (h:∃m y,DataW.trod enc P w base (fun _=>true) held m t [c]=some y):
  ∃a len cap,c=.slice a len cap∧((a=none∧len=0∧cap=0)∨
   ∃(x:Addr) (rows:List (List Value)),a=some x∧len≤cap∧cap≤maxLen∧rows.length=cap∧
    ∀i,i<cap→∃r,rows[i]?=some r∧Leafs enc P w base (fun _=>true) held ts r∧∀j,j<ts.length→w.cell? ((x.add (i*ts.length)).add j)=r[j]?):=by
 obtain⟨m,y,h⟩:=h
 rcases DataW.trod_slice ht h with⟨hcs,_⟩|⟨a,len,cap,elems,rest,m',_,hcs,_,hb,hl,hm,hlen,hel,hsp,_⟩
 ·simp only[List.cons.injEq,and_true]at hcs
  exact⟨_,_,_,hcs,.inl ⟨rfl,rfl,rfl⟩⟩
 ·simp only[List.cons.injEq,and_true]at hcs
  obtain⟨hrl,hr⟩:=hsp rfl
  have each:∀i,i<cap→∃r,(w.cells? base (a.add (i*ts.length)) ts.length=some r)∧∃y,DataW.trod enc P w base (fun _=>true) held m' e r=some y:=by
   intro i hi
   have h1:∃y,(w.cells? base (a.add (i*P.cellsOf e)) (P.cellsOf e)).bind (DataW.trod enc P w base (fun _=>true) held m' e)=some y:=by
    by_cases h2:i<len
    ·rw[hel i h2,List.getElem?_eq_getElem (by omega)];exact⟨_,rfl⟩
    ·have h3:=hr (i-len) (by omega)
     rw[show len+(i-len)=i by omega,List.getElem?_eq_getElem (by omega)]at h3
     exact⟨_,h3⟩
   obtain⟨y,h1⟩:=h1
   rw[hc,Option.bind_eq_some_iff]at h1
   obtain⟨r,h2,h3⟩:=h1
   exact⟨r,h2,y,h3⟩
  refine⟨_,_,_,hcs,.inr ⟨a,(List.range cap).map (fun i=>(w.cells? base (a.add (i*ts.length)) ts.length).getD []),rfl,hl,hm,by simp,fun i hi=>?_⟩⟩
  obtain⟨r,h2,y,h3⟩:=each i hi
  have h4:=World.cells?_some h2
  refine⟨r,by simp[hi,h2],leafs_of_trod n e ts r m' y hfl h4.2.1 h3,fun j hj=>?_⟩
  rw[h4.2.2 j hj]
def IsRecs {α:Type} (k:Nat) (lay:α→List Value) (ok:α→Prop) (w:World) (a:Option Addr) (len cap:Nat) (xs:List α):Prop:=
 (a=none∧len=0∧cap=0∧xs=[])∨
 ∃x,a=some x∧len≤cap∧cap≤maxLen∧xs.length=cap∧∀(i:Nat) y,xs[i]?=some y→ok y∧∀j,j<k→w.cell? ((x.add (i*k)).add j)=(lay y)[j]?
theorem leaf_recs {α:Type} [Inhabited α] {t e:TypeId} {c:Value} {ts:List TypeId} (k:Nat) (lay:α→List Value) (ok:α→Prop) (n:Nat) (ht:P.underlying t=some (.slice e)) (hfl:flat P n e=some ts) (hc:P.cellsOf e=ts.length) (hk:ts.length=k)
  (dec:∀r,Leafs enc P w base (fun _=>true) held ts r→∃x,r=lay x∧ok x)
  (h:∃m y,DataW.trod enc P w base (fun _=>true) held m t [c]=some y):
  ∃a len cap xs,c=.slice a len cap∧IsRecs k lay ok w a len cap xs:=by
 obtain⟨a,len,cap,rfl,h|⟨x,rows,rfl,hl,hm,hz,hrow⟩⟩:=leaf_rows n ht hfl hc h
 ·obtain⟨rfl,rfl,rfl⟩:=h
  exact⟨_,_,_,[],rfl,.inl ⟨rfl,rfl,rfl,rfl⟩⟩
 ·have each:∀i:Nat,∃y:α,i<cap→ok y∧∀j,j<k→w.cell? ((x.add (i*k)).add j)=(lay y)[j]?:=by
   intro i
   by_cases hi:i<cap
   ·obtain⟨r,h1,h2,h3⟩:=hrow i hi
    obtain⟨y,rfl,h4⟩:=dec r h2
    exact⟨y,fun _=>⟨h4,fun j hj=>by rw[hk]at h3;exact h3 j hj⟩⟩
   ·exact⟨default,fun h=>absurd h hi⟩
  refine⟨_,_,_,(List.range cap).map (fun i=>Classical.choose (each i)),rfl,.inr ⟨x,rfl,hl,hm,by simp,fun i y hy=>?_⟩⟩
  rw[List.getElem?_map]at hy
  by_cases hi:i<cap
  ·rw[List.getElem?_range hi]at hy
   simp only[Option.map_some,Option.some.injEq]at hy
   subst hy
   exact Classical.choose_spec (each i) hi
  ·rw[List.getElem?_eq_none (by simp;omega)]at hy
   simp at hy
theorem cap_le {t e:TypeId} {a:Option Addr} {len cap B:Nat} {d:DataW H} {ps:List MemPlace} (ht:P.underlying t=some (.slice e)) (hd:DataW.Trod enc P w base (fun _=>true) held t (.slice a len cap) d ps)
  (hs:∀elems spare,d=.slice elems spare→(elems.length+spare.length)*B≤reachBytes):len≤cap∧cap*B≤140737488351232:=by
 obtain⟨m,h⟩:=hd
 rcases DataW.trod_slice ht h with⟨hcs,_⟩|⟨a',len',cap',elems,rest,m',_,hcs,hx,hb,hl,hm,hlen,hel,hsp,_⟩
 ·simp[Value.cells]at hcs
  obtain⟨_,rfl,rfl⟩:=hcs
  omega
 ·simp[Value.cells]at hcs
  obtain⟨_,rfl,rfl⟩:=hcs
  have h1:=hs _ _ (congrArg Prod.fst hx)
  have h2:=(hsp rfl).1
  simp only[List.length_map,hlen,h2]at h1
  rw[show len+(cap-len)=cap from by omega]at h1
  exact⟨hl,h1⟩
end
theorem own:ownKnob Tryz.prog.godebug=none:=by kernel_rfl
theorem laidOut:laidOutB Tryz.prog=true:=by kernel_rfl
end Go.Proofs.YtpkiepjmcepnoaaGreatDoor.Open
namespace Go.Proofs.YtpkiepjmcepnoaaGreatDoor
theorem ret_int {k:IntKind} {a b:Int} (h:a=b):Ending.returned (.int k a)=.returned (.int k b):=by rw[h]
theorem ret_bool {a b:Bool} (h:a=b):Ending.returned (.bool a)=.returned (.bool b):=by rw[h]
theorem quietL {P:Program} {f:FuncId} {args:Array Value} {w:World} {n:Nat} {v:Value} (h:Calls P f args (w.drewN n) fun e w'=>e=.returned v∧w.drewN n=w'):
  Calls P f args (w.drewN n) fun e w''=>e=.returned v∧∃m,w''=w.drewN m:=h.mono fun _ _ h1=>⟨h1.1,n,h1.2.symm⟩
theorem quietL2 {P:Program} {f:FuncId} {args:Array Value} {w:World} {a n:Nat} {v:Value} (h:Calls P f args (w.drewN (a+n)) fun e w'=>e=.returned v∧w.drewN (a+n)=w'):
  Calls P f args (w.drewN (a+n)) fun e w''=>e=.returned v∧∃m,w''=w.drewN (a+m):=h.mono fun _ _ h1=>⟨h1.1,n,h1.2.symm⟩
theorem stillL {P:Program} {f:FuncId} {args:Array Value} {w:World} {v:Value} (h:Calls P f args w fun e w'=>e=.returned v∧w=w'):
  Calls P f args w fun e w''=>e=.returned v∧w''=w:=h.mono fun _ _ h1=>⟨h1.1,h1.2.symm⟩
def sat32 (n:Int):Int:=max (-2147483648) (min n 2147483647)
theorem sat32_bd (n:Int): -2147483648≤sat32 n∧sat32 n≤2147483647:=by unfold sat32;omega
def clampI (a b c:Int):Int:=max (min b c) (min a (max b c))
theorem clampI_bd (a b c:Int) (ha: -2147483648≤a∧a≤2147483647) (hb: -2147483648≤b∧b≤2147483647) (hc: -2147483648≤c∧c≤2147483647):
  -2147483648≤clampI a b c∧clampI a b c≤2147483647:=by unfold clampI;omega
def absI (n:Int):Int:=max n (-n)
theorem mul_bd (a b:Int) (ha: -2147483648≤a∧a≤2147483647) (hb: -2147483648≤b∧b≤2147483647): -4611686018427387904≤a*b∧a*b≤4611686018427387904:=by
 have h1:(a*b).natAbs≤2147483648*2147483648:=by
  rw[Int.natAbs_mul];exact Nat.mul_le_mul (by omega) (by omega)
 omega
def nearI (n:Int):Int:=(n+32768)/65536
def mulI (a b:Int):Int:=sat32 (nearI (a*b))
def divI (a b:Int):Int:=if b≠0 then sat32 ((a*65536).tdiv b)else if 0<a then 2147483647 else if a<0 then-2147483648 else 0
theorem mulI_bd (a b:Int): -2147483648≤mulI a b∧mulI a b≤2147483647:=sat32_bd _
theorem divI_bd (a b:Int): -2147483648≤divI a b∧divI a b≤2147483647:=by
 unfold divI;split
 ·exact sat32_bd _
 ·split
  ·omega
  ·split<;>omega
theorem tdiv_bd (a b:Int): -absI a≤a.tdiv b∧a.tdiv b≤absI a:=by
 have h:=Int.natAbs_tdiv_le_natAbs a b
 unfold absI;omega
theorem tdiv_pos_bd (d p:Int) (hp:1≤p) (hd:0≤d):0≤d.tdiv p∧d.tdiv p≤d:=by
 have h:=tdiv_bd d p
 have h2:=Int.tdiv_nonneg (a:=d) (b:=p) hd (by omega)
 unfold absI at h;omega
theorem tdiv_neg_bd (d p:Int) (hp:1≤p) (hd:d≤0):d≤d.tdiv p∧d.tdiv p≤0:=by
 have h:=tdiv_pos_bd (-d) p hp (by omega)
 rw[Int.neg_tdiv]at h;omega
theorem two_pow_bd (k:Int) (hk:0≤k∧k≤30):1≤(2:Int)^k.toNat∧(2:Int)^k.toNat≤1073741824:=by
 have h1:2^k.toNat≤2^30:=Nat.pow_le_pow_right (by omega) (by omega)
 have h2:0<2^k.toNat:=Nat.pow_pos (by omega)
 have h3:((2^k.toNat:Nat):Int)=(2:Int)^k.toNat:=by simp
 omega
def towardI (y x p:Int):Int:=
 if(x-y).tdiv p≠0 then y+(x-y).tdiv p else if y<x then y+1 else if x<y then y-1 else y
theorem towardI_bd (y x p:Int) (hp:1≤p):min y x≤towardI y x p∧towardI y x p≤max y x:=by
 unfold towardI
 by_cases h:0≤x-y
 ·have:=tdiv_pos_bd (x-y) p hp h;split<;>(try split)<;>(try split)<;>omega
 ·have:=tdiv_neg_bd (x-y) p hp (by omega);split<;>(try split)<;>(try split)<;>omega
end Go.Proofs.YtpkiepjmcepnoaaGreatDoor
namespace Go.Proofs.YtpkiepjmcepnoaaGreatDoor
open Go.ChangeShapes Go.WideShapes Go.ChangeAt Go.RowKit
set_option linter.unusedVariables false
def IntsAt (K:IntKind) (w:World) (v:Value) (xs:List Int):Prop:=
 (xs=[]∧(v=.slice none 0 0∨∃a cap,v=.slice (some a) 0 cap))∨
 (0<xs.length∧∃b off cap,v=.slice (some ⟨b,off,none⟩) xs.length cap∧xs.length≤cap∧cap≤9223372036854775807∧∀i,i<xs.length→w.cell? ⟨b,off+i,none⟩=some (.int K (xs.getD i 0)))
theorem IntsAt.later {K:IntKind} {B:Nat} {w w':World} {v:Value} {xs:List Int} (h:IntsAt K w v xs) (hb:Below B w w') (hB:w.heap.size≤B):IntsAt K w' v xs:=by
 rcases h with h|⟨h0,b,off,cap,hv,hl,hm,hc⟩
 ·exact .inl h
 ·refine .inr ⟨h0,b,off,cap,hv,hl,hm,fun i hi=>?_⟩
  have:=hc i hi
  rw[hb.cell (Nat.lt_of_lt_of_le (World.block_lt_of_cell? _ _ this) hB)]
  exact this
theorem IntsAt.len {K:IntKind} {w:World} {v:Value} {xs:List Int} (h:IntsAt K w v xs):∃a cap,v=.slice a xs.length cap:=by
 rcases h with⟨rfl,rfl|⟨a,cap,rfl⟩⟩|⟨h0,b,off,cap,rfl,-⟩
 ·exact⟨none,0,rfl⟩
 ·exact⟨_,cap,rfl⟩
 ·exact⟨_,cap,rfl⟩
def BoolsAt (w:World) (v:Value) (xs:List Bool):Prop:=
 (xs=[]∧(v=.slice none 0 0∨∃a cap,v=.slice (some a) 0 cap))∨
 (0<xs.length∧∃b off cap,v=.slice (some ⟨b,off,none⟩) xs.length cap∧xs.length≤cap∧cap≤9223372036854775807∧∀i,i<xs.length→w.cell? ⟨b,off+i,none⟩=some (.bool (xs.getD i false)))
theorem BoolsAt.len {w:World} {v:Value} {xs:List Bool} (h:BoolsAt w v xs):∃a cap,v=.slice a xs.length cap:=by
 rcases h with⟨rfl,rfl|⟨a,cap,rfl⟩⟩|⟨h0,b,off,cap,rfl,-⟩
 ·exact⟨none,0,rfl⟩
 ·exact⟨_,cap,rfl⟩
 ·exact⟨_,cap,rfl⟩
theorem own_ints' {K:IntKind} {E:TypeId} {w:World} {base:Nat} {xs:List Int} {v:Value} (h:w.ownsRow base E 1 v xs.length (xs.map (.int K))):IntsAt K w v xs:=by
 by_cases h0:xs=[]
 ·subst h0
  rcases h.2 with⟨hv,-⟩|⟨g,cap,cur,hv,-⟩
  ·exact .inl ⟨rfl,.inl hv⟩
  ·exact .inl ⟨rfl,.inr ⟨_,cap,hv⟩⟩
 ·rcases h.2 with⟨-,hn⟩|⟨g,cap,cur,hv,hb,hblk,hl,hm,-,-⟩
  ·exact absurd (List.eq_nil_of_length_eq_zero hn) h0
  ·subst hv
   refine .inr ⟨List.length_pos_iff.2 h0,g,0,cap,rfl,hl,by unfold maxLen at hm;exact hm,fun i hi=>?_⟩
   rw[Nat.zero_add,h.cellAt i (by omega)]
   simp[hi]
theorem own_empty (w:World) (E:TypeId) (size:Nat):(w.alloc (.cells #[] E)).ownsRow w.heap.size E size (.slice (some ⟨w.heap.size,0,none⟩) 0 0) 0 []:=
 ⟨by simp,.inr ⟨w.heap.size,0,#[],rfl,Nat.le_refl _,(by show(w.heap.push _)[w.heap.size]?=_;simp),Nat.le_refl _,by unfold maxLen;omega,by simp,by simp⟩⟩
theorem info_i32:(Tryz.prog.info? 21).map (fun i=>(i.zero,i.size,i.bytes))=some (some (.int .i32 0),1,4):=by kernel_rfl
def ClonePost_i32 (w:World) (xs:List Int) (e:Ending) (w':World):Prop:=∃v,e=.returned v∧w'.ownsRow w.heap.size 21 1 v xs.length (xs.map (.int .i32))∧Below w.heap.size w w'
theorem clone_i32 (xs:List Int) (v:Value) (w:World) (hv:IntsAt .i32 w v xs) (hx:xs.length*4≤140737488351232):
  Calls Tryz.prog 133 #[v] w (ClonePost_i32 w xs):=by
 obtain⟨i0,hi,hz0,hz1,hz2⟩:=info_parts info_i32
 have hnil:=@Lib.run_eql_slice_nil Tryz.prog
 have hw0:w.heap.size≤(w.alloc (.cells #[] 21)).heap.size:=by simp
 rcases hv with⟨rfl,rfl|⟨a,cap,rfl⟩⟩|⟨h1,b,off,cap,rfl,hl1,hm1,hc⟩
 ·go_enter Tryz.func133,Tryz.ntmps133
  go_wp2
  go_ret
  exact⟨_,rfl,World.ownsRow_nil _ _ _ _,bLr⟩
 ·have how:=own_empty w 21 1
  go_enter Tryz.func133,Tryz.ntmps133
  go_wp2_with (at_builtin;refine wpList_append_own _ rfl _ _ 68 rfl w.heap.size 21 i0 (.int .i32 0) 1 4 Tryz.underlying68 hi hz0 hz1 hz2 rfl (by decide) _ _ _ rfl how a 0 cap [] rfl rfl (by intro j u h;cases j<;>simp at h) (by simp) (by unfold maxLen;omega) (by omega) hw0 ?_;intro v' w1 hown' hgrow _)
  go_ret
  exact⟨_,rfl,hown',((bLr).alloc (Nat.le_refl _) _).grown hgrow hw0 (fun k e=>by cases e;exact Nat.le_refl _)⟩
 ·have how:=own_empty w 21 1
  have hsrc:∀(j:Nat) u,(xs.map (.int .i32))[j]?=some u→(w.alloc (.cells #[] 21)).cell? ((⟨b,off,none⟩:Addr).add j)=some u:=by
   intro j u h
   rw[List.getElem?_map]at h
   by_cases hj:j<xs.length
   ·rw[List.getElem?_eq_getElem hj]at h
    simp only[Option.map_some,Option.some.injEq]at h
    subst h
    have h2:=hc j hj
    rw[List.getD_eq_getElem?_getD,List.getElem?_eq_getElem hj]at h2
    rw[World.cell?_alloc_lt _ _ _ (by have:=World.block_lt_of_cell? _ _ h2;cases j<;>simpa[Addr.add]using this)]
    cases j<;>simpa[Addr.add]using h2
   ·rw[List.getElem?_eq_none (by omega)]at h;simp at h
  have HS:=qh hsrc
  clear hc hsrc
  go_enter Tryz.func133,Tryz.ntmps133
  go_wp2_with (at_builtin;refine wpList_append_own _ rfl _ _ 68 rfl w.heap.size 21 i0 (.int .i32 0) 1 4 Tryz.underlying68 hi hz0 hz1 hz2 rfl (by decide) _ _ _ rfl how ⟨b,off,none⟩ xs.length cap (xs.map (.int .i32)) rfl (by simp) HS.out (by intro u hu;obtain⟨x,_,rfl⟩:=List.mem_map.1 hu;rfl) (by unfold maxLen;omega) (by omega) hw0 ?_;intro v' w1 hown' hgrow _)
  go_ret
  rw[Nat.zero_add,List.nil_append]at hown'
  exact⟨_,rfl,hown',((bLr).alloc (Nat.le_refl _) _).grown hgrow hw0 (fun k e=>by cases e;exact Nat.le_refl _)⟩
theorem flatMap_at {α:Type} {k:Nat} {lay:α→List Value} {xs:List α} {i j:Nat} {y:α} (hl:∀y,(lay y).length=k) (hy:xs[i]?=some y) (hj:j<k):(xs.flatMap lay)[i*k+j]?=(lay y)[j]?:=by
 induction xs generalizing i with
 |nil=>simp at hy
 |cons x xs ih=>
  rw[List.flatMap_cons]
  cases i with
  |zero=>
   simp only[List.getElem?_cons_zero,Option.some.injEq]at hy
   subst hy
   rw[Nat.zero_mul,Nat.zero_add,List.getElem?_append_left (by rw[hl];exact hj)]
  |succ i=>
   rw[List.getElem?_cons_succ]at hy
   rw[List.getElem?_append_right (by rw[hl,Nat.succ_mul];omega),hl,show(i+1)*k+j-k=i*k+j by rw[Nat.succ_mul];omega]
   exact ih hy
def RecsAt {α:Type} (k:Nat) (lay:α→List Value) (w:World) (v:Value) (xs:List α):Prop:=
 (xs=[]∧(v=.slice none 0 0∨∃a cap,v=.slice (some a) 0 cap))∨
 (0<xs.length∧∃b off cap,v=.slice (some ⟨b,off,none⟩) xs.length cap∧xs.length≤cap∧cap≤9223372036854775807∧∀(i:Nat) y,xs[i]?=some y→∀j,j<k→w.cell? ⟨b,off+i*k+j,none⟩=(lay y)[j]?)
section
variable {α:Type} {k:Nat} {lay:α→List Value} {w w':World} {v:Value} {xs:List α}
theorem RecsAt.len (h:RecsAt k lay w v xs):∃a cap,v=.slice a xs.length cap:=by
 rcases h with⟨rfl,rfl|⟨a,cap,rfl⟩⟩|⟨h0,b,off,cap,rfl,-⟩
 ·exact⟨none,0,rfl⟩
 ·exact⟨_,cap,rfl⟩
 ·exact⟨_,cap,rfl⟩
theorem RecsAt.later {B:Nat} (h:RecsAt k lay w v xs) (hl:∀y,(lay y).length=k) (hb:Below B w w') (hB:w.heap.size≤B):RecsAt k lay w' v xs:=by
 rcases h with h|⟨h0,b,off,cap,hv,hl1,hm,hc⟩
 ·exact .inl h
 ·refine .inr ⟨h0,b,off,cap,hv,hl1,hm,fun i y hy j hj=>?_⟩
  have:=hc i y hy j hj
  have e:(lay y)[j]?=some ((lay y)[j]'(by rw[hl];exact hj)):=List.getElem?_eq_getElem _
  rw[hb.cell (Nat.lt_of_lt_of_le (World.block_lt_of_cell? _ _ (this.trans e)) hB)]
  exact this
theorem RecsAt.at_ (h:RecsAt k lay w v xs) {i:Nat} {y:α} (hy:xs[i]?=some y):
  ∃b off cap,v=.slice (some ⟨b,off,none⟩) xs.length cap∧xs.length≤cap∧cap≤9223372036854775807∧∀j,j<k→w.cell? ⟨b,off+i*k+j,none⟩=(lay y)[j]?:=by
 rcases h with⟨rfl,-⟩|⟨h0,b,off,cap,hv,hl1,hm,hc⟩
 ·simp at hy
 ·exact⟨b,off,cap,hv,hl1,hm,fun j hj=>hc i y hy j hj⟩
theorem isRecs_recs {ok:α→Prop} {a:Option Addr} {len cap:Nat} (h:Open.IsRecs k lay ok w a len cap xs) (hk:0<k) (hl:∀y,(lay y).length=k):
  RecsAt k lay w (.slice a len cap) (xs.take len)∧(xs.take len).length=len∧∀y∈xs.take len,ok y:=by
 rcases h with⟨rfl,rfl,rfl,rfl⟩|⟨x,rfl,h1,h2,h3,h4⟩
 ·exact⟨.inl ⟨by simp,.inl rfl⟩,by simp,by simp⟩
 ·have e:(xs.take len).length=len:=by simp;omega
  have hok:∀y∈xs.take len,ok y:=by
   intro y hy
   obtain⟨i,hi,rfl⟩:=List.getElem_of_mem (List.mem_of_mem_take hy)
   exact(h4 i _ (List.getElem?_eq_getElem hi)).1
  by_cases h0:len=0
  ·subst h0
   exact⟨.inl ⟨by simp,.inr ⟨x,cap,rfl⟩⟩,e,hok⟩
  ·obtain⟨b,off,spot⟩:=x
   have hs:spot=none:=by
    have h5:=(h4 0 (xs[0]'(by omega)) (List.getElem?_eq_getElem _)).2 0 hk
    rw[List.getElem?_eq_getElem (by rw[hl];exact hk)]at h5
    simpa[Addr.add]using World.cell?_spot h5
   subst hs
   refine⟨.inr ⟨by omega,b,off,cap,by rw[e],by omega,by unfold maxLen at h2;exact h2,fun i y hy j hj=>?_⟩,e,hok⟩
   have hy':xs[i]?=some y:=by
    rw[List.getElem?_take]at hy
    split at hy
    ·exact hy
    ·simp at hy
   rw[←(h4 i y hy').2 j hj]
   congr 1
   simp only[Addr.add]
   by_cases ha:i*k=0<;>by_cases hb:j=0<;>simp[ha,hb]
theorem own_recs {E:TypeId} {base:Nat} (h:w.ownsRow base E k v xs.length (xs.flatMap lay)) (hl:∀y,(lay y).length=k):RecsAt k lay w v xs:=by
 by_cases h0:xs=[]
 ·subst h0
  rcases h.2 with⟨hv,-⟩|⟨g,cap,cur,hv,-⟩
  ·exact .inl ⟨rfl,.inl hv⟩
  ·exact .inl ⟨rfl,.inr ⟨_,cap,hv⟩⟩
 ·rcases h.2 with⟨-,hn⟩|⟨g,cap,cur,hv,hb,hblk,hl1,hm,-,-⟩
  ·exact absurd (List.eq_nil_of_length_eq_zero hn) h0
  ·subst hv
   refine .inr ⟨List.length_pos_iff.2 h0,g,0,cap,rfl,hl1,by unfold maxLen at hm;exact hm,fun i y hy j hj=>?_⟩
   have hi:i<xs.length:=by
    rcases Nat.lt_or_ge i xs.length with h|h
    ·exact h
    ·rw[List.getElem?_eq_none h]at hy;simp at hy
   have e:=flatMap_at hl hy hj
   have hlen:(xs.flatMap lay).length=xs.length*k:=h.1
   have hlt:i*k+j<(xs.flatMap lay).length:=by
    rcases Nat.lt_or_ge (i*k+j) (xs.flatMap lay).length with h|h
    ·exact h
    ·rw[List.getElem?_eq_none h,List.getElem?_eq_getElem (by rw[hl];exact hj)]at e;simp at e
   rw[Nat.zero_add,h.cellAt (i*k+j) (by rw[←hlen];exact hlt)]
   rw[←e,List.getElem?_eq_getElem hlt]
end
def CellsAt (w:World) (b:Nat) (vs:List Value):Prop:=(∀(j:Nat) v,vs[j]?=some v→w.cell? ⟨b,j,none⟩=some v)∧(∀o,w.frozen? ⟨b,o,none⟩=false)∧b<w.heap.size
theorem cell_off {w:World} {b c x y:Nat} {v u:Value} (e:b<c) (h:w.cell? ⟨b,x,none⟩=some v):(w.setCell ⟨c,y,none⟩ u).cell? ⟨b,x,none⟩=some v:=by
 rw[World.cell?_setCell_other _ _ _ _ (by intro z;injection z with z;omega)];exact h
theorem cell_new' {w:World} {a:Addr} {v:Value} {o:Obj} (h:w.cell? a=some v):(w.alloc o).cell? a=some v:=cell_later (Below.alloc (bLr) (Nat.le_refl _) o) h
section
variable {w w':World} {b c B:Nat} {vs:List Value}
theorem CellsAt.at_ (h:CellsAt w b vs) (j:Nat) {v:Value} (hj:vs[j]?=some v):w.cell? ⟨b,j,none⟩=some v:=h.1 j v hj
theorem CellsAt.lt (h:CellsAt w b vs):b<w.heap.size:=h.2.2
theorem CellsAt.later (h:CellsAt w b vs) (hb:Below B w w') (hB:b<B):CellsAt w' b vs:=
 ⟨fun j v hj=>by rw[hb.cell (p:=⟨b,j,none⟩) hB];exact h.1 j v hj,fun o=>by rw[hb.frozen (p:=⟨b,o,none⟩) hB];exact h.2.1 o,Nat.lt_of_lt_of_le h.2.2 hb.size⟩
theorem CellsAt.call (h:CellsAt w b vs) (hb:Below w.heap.size w w'):CellsAt w' b vs:=h.later hb h.2.2
theorem CellsAt.drewN (h:CellsAt w b vs) (n:Nat):CellsAt (w.drewN n) b vs:=h
theorem CellsAt.drew (h:CellsAt w b vs):CellsAt w.drew b vs:=h
theorem CellsAt.alloc (h:CellsAt w b vs) (o:Obj):CellsAt (w.alloc o) b vs:=h.call ((bLr).alloc (Nat.le_refl _) o)
theorem CellsAt.other (h:CellsAt w b vs) (e:b≠c) (j:Nat) (u:Value):CellsAt (w.setCell ⟨c,j,none⟩ u) b vs:=
 ⟨fun i v hi=>by rw[World.cell?_setCell_other _ _ _ _ (by intro x;injection x with x;exact e x.symm)];exact h.1 i v hi,fun o=>by rw[World.frozen?_setCell];exact h.2.1 o,by simpa[World.setCell]using h.2.2⟩
theorem CellsAt.set_ (h:CellsAt w b vs) (j:Nat) (hj:j<vs.length) (u:Value):CellsAt (w.setCell ⟨b,j,none⟩ u) b (vs.set j u):=by
 refine⟨fun i v hi=>?_,fun o=>by rw[World.frozen?_setCell];exact h.2.1 o,by simpa[World.setCell]using h.2.2⟩
 by_cases e:i=j
 ·subst e
  rw[List.getElem?_set_self hj]at hi
  injection hi with hi
  subst hi
  have h0:=h.1 i _ (List.getElem?_eq_getElem hj)
  exact World.cell?_setCell_same' _ _ _ (by rw[h0];rfl)
 ·rw[List.getElem?_set_ne (fun x=>e x.symm)]at hi
  rw[World.cell?_setCell_other _ _ _ _ (by intro x;injection x with _ x;exact e x.symm)]
  exact h.1 i v hi
theorem CellsAt.new (w:World) (vs:List Value) (cs:Array Value) (T:TypeId) (h:cs.toList=vs):CellsAt (w.alloc (.cells cs T)) w.heap.size vs:=by
 refine⟨fun j v hj=>?_,fun o=>?_,by simp⟩
 ·rw[cell_of_row _ _ j cs T (0,0) (heap_alloc_new w _)]
  subst h
  simpa using hj
 ·have h1:=heap_alloc_new w (.cells cs T)
  unfold World.frozen?
  simp only[h1]
  simp
theorem CellsAt.new' {cs:Array Value} {T:TypeId} (hb:b=w.heap.size) (h:cs.toList=vs):CellsAt (w.alloc (.cells cs T)) b vs:=by
 subst hb;exact CellsAt.new w vs cs T h
theorem CellsAt.set2_0 {x v0 v1:Value} (h:CellsAt w b [x,v1]):CellsAt (w.setCell ⟨b,0,none⟩ v0) b [v0,v1]:=h.set_ 0 (by simp) v0
theorem CellsAt.set2_1 {x v0 v1:Value} (h:CellsAt w b [v0,x]):CellsAt (w.setCell ⟨b,1,none⟩ v1) b [v0,v1]:=h.set_ 1 (by simp) v1
theorem CellsAt.set4_0 {x v0 v1 v2 v3:Value} (h:CellsAt w b [x,v1,v2,v3]):CellsAt (w.setCell ⟨b,0,none⟩ v0) b [v0,v1,v2,v3]:=h.set_ 0 (by simp) v0
theorem CellsAt.set4_1 {x v0 v1 v2 v3:Value} (h:CellsAt w b [v0,x,v2,v3]):CellsAt (w.setCell ⟨b,1,none⟩ v1) b [v0,v1,v2,v3]:=h.set_ 1 (by simp) v1
theorem CellsAt.set4_2 {x v0 v1 v2 v3:Value} (h:CellsAt w b [v0,v1,x,v3]):CellsAt (w.setCell ⟨b,2,none⟩ v2) b [v0,v1,v2,v3]:=h.set_ 2 (by simp) v2
theorem CellsAt.set4_3 {x v0 v1 v2 v3:Value} (h:CellsAt w b [v0,v1,v2,x]):CellsAt (w.setCell ⟨b,3,none⟩ v3) b [v0,v1,v2,v3]:=h.set_ 3 (by simp) v3
theorem CellsAt.mk2 {v0 v1:Value} (h0:w.cell? ⟨b,0,none⟩=some v0) (h1:w.cell? ⟨b,1,none⟩=some v1) (hf:∀o,w.frozen? ⟨b,o,none⟩=false) (hl:b<w.heap.size):CellsAt w b [v0,v1]:=by
 refine⟨fun j v hj=>?_,hf,hl⟩
 match j,hj with
 |0,hj=>cases hj;exact h0
 |1,hj=>cases hj;exact h1
theorem CellsAt.mk4 {v0 v1 v2 v3:Value} (h0:w.cell? ⟨b,0,none⟩=some v0) (h1:w.cell? ⟨b,1,none⟩=some v1) (h2:w.cell? ⟨b,2,none⟩=some v2) (h3:w.cell? ⟨b,3,none⟩=some v3) (hf:∀o,w.frozen? ⟨b,o,none⟩=false) (hl:b<w.heap.size):CellsAt w b [v0,v1,v2,v3]:=by
 refine⟨fun j v hj=>?_,hf,hl⟩
 match j,hj with
 |0,hj=>cases hj;exact h0
 |1,hj=>cases hj;exact h1
 |2,hj=>cases hj;exact h2
 |3,hj=>cases hj;exact h3
end
theorem own_form {w:World} {base:Nat} {e:TypeId} {size:Nat} {v:Value} {n:Nat} {xs:List Value} (h:w.ownsRow base e size v n xs):(v=.slice none 0 0∧n=0)∨∃g cap,v=.slice (some ⟨g,0,none⟩) n cap∧base≤g∧g<w.heap.size∧n≤cap∧cap≤9223372036854775807:=by
 rcases h.2 with⟨h1,h2⟩|⟨g,cap,cur,h1,h2,h3,h4,h5,-⟩
 ·exact .inl ⟨h1,h2⟩
 ·exact .inr ⟨g,cap,h1,h2,(Array.getElem?_eq_some_iff.1 h3).1,h4,by unfold maxLen at h5;exact h5⟩
end Go.Proofs.YtpkiepjmcepnoaaGreatDoor
