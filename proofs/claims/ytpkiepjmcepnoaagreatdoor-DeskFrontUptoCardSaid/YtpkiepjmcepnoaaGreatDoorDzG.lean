/- A part of a proof. -/
import Derived.Test.YtpkiepjmcepnoaaGreatDoorDzB
import Derived.Recover
import Derived.Defers
import Derived.Lib.ItoaLen
import Derived.Test.YtpkiepjmcepnoaaGreatDoorDzF
import Derived.Test.YtpkiepjmcepnoaaGreatDoorDzA
import Derived.Maps.AppendAt
set_option maxHeartbeats 16000000
set_option maxRecDepth 100000
set_option linter.unusedVariables false
namespace Go.Proofs.YtpkiepjmcepnoaaGreatDoor
open Go.ChangeShapes Go.WideShapes Go.ChangeAt Go.RowKit
def errL (q:Int):List UInt8:=[101,114,114,111,114,32]++Lib.itoa q
theorem catch_idle (p:Addr) (w:World):
  CallsD Tryz.prog 19 #[.pointer (some p)] .returning w fun e u' w'=>e=.returned (.tuple #[])∧u'=.returning∧w'=w:=by
 refine callsD_of_wpS Tryz.func19 rfl fun c₀ cs hu=>?_
 apply wpS_seq
 apply wpS_region
 simp[wpOpsS,go_sem,recoverD,hu,Tryz.ntmps19,Exit.thenS]
 refine wpS_of_wp ?_
 simp only[Array.replicate_succ,Array.replicate_zero,List.push_toArray,List.append_toArray,List.nil_append,List.cons_append,List.setIfInBounds_toArray,List.set_cons_zero,List.set_cons_succ]
 go_wp2_with fail
 cases c₀
 simp_all[bodyPostS,results,Tryz.results19]
theorem catch_yes (g:Nat) (q:Int) (hq:0≤q∧q≤255) (x:Value) (older:List PanicEntry) (w:World) (hc:w.cell? ⟨g,0,none⟩=some x) (hz:w.frozen? ⟨g,0,none⟩=false) (hT:Libs w):
  CallsD Tryz.prog 19 #[.pointer (some ⟨g,0,none⟩)] (.panicking ({v:=.iface 96 (.agg #[.int .i64 q]),recovered:=false}::older)) w fun e u' w'=>
   e=.returned (.tuple #[])∧u'=.panicking ({v:=.iface 96 (.agg #[.int .i64 q]),recovered:=true}::older)∧∃w2,Below w.heap.size w w2∧w'=w2.setCell ⟨g,0,none⟩ (.string ⟨(errL q).toArray⟩):=by
 refine callsD_of_wpS Tryz.func19 rfl fun c₀ cs hu=>?_
 apply wpS_seq
 apply wpS_region
 simp[wpOpsS,go_sem,recoverD,hu,Tryz.ntmps19,Exit.thenS]
 refine wpS_of_wp ?_
 simp only[Array.replicate_succ,Array.replicate_zero,List.push_toArray,List.append_toArray,List.nil_append,List.cons_append,List.setIfInBounds_toArray,List.set_cons_zero,List.set_cons_succ]
 clear hu
 have hta:∀W:World,(Instr.typeAssert (.iface 96 (.agg #[.int .i64 q])) 20 96 true).run Tryz.prog W=.ok (.tuple #[.agg #[.int .i64 q],.bool true]) W:=fun _=>by kernel_rfl
 have hx:∀W:World,(Instr.extract (.tuple #[.agg #[.int .i64 q],.bool true]) 0).run Tryz.prog W=.ok (.agg #[.int .i64 q]) W:=fun _=>by kernel_rfl
 obtain⟨w3,hw3⟩:∃y,(w.alloc (.cells #[.int .i64 0] 96)).setCell ⟨w.heap.size,0,none⟩ (.int .i64 q)=y:=⟨_,rfl⟩
 have c3:w3.cell? ⟨w.heap.size,0,none⟩=some (.int .i64 q):=by rw[←hw3];clear hw3;go_simp
 have B3:Below w.heap.size w w3:=by rw[←hw3];exact((bLr).alloc (Nat.le_refl _) _).setCell (p:=⟨w.heap.size,0,none⟩) (Nat.le_refl _) _
 have l0:=Lib.itoa_length_le q (by omega) (by omega)
 have g0:(⟨(Lib.itoa q).toArray⟩:ByteArray).size≤21:=l0
 have HE:Hid ((⟨#[101,114,114,111,114,32]⟩:ByteArray)++⟨(Lib.itoa q).toArray⟩=⟨(errL q).toArray⟩):=qh (by
  have e:(⟨#[101,114,114,111,114,32]⟩:ByteArray)=⟨[(101:UInt8),114,114,111,114,32].toArray⟩:=rfl
  rw[e];simp only[errL,ByteArray.mk_append_mk])
 have HI:=qh (itoa_is q (by omega) (by omega) w3 (hT.later B3))
 obtain⟨s0,hs0⟩:∃s,(⟨(Lib.itoa q).toArray⟩:ByteArray)=s:=⟨_,rfl⟩
 rw[hs0]at HE HI g0
 have va1:¬(9223372036854775807<6+s0.size):=by omega
 have HB3:=qh B3
 clear hs0 l0 B3 hT
 go_upto_region 5 with(fail)
 clear hw3
 go_wp2_with fail
 refine HI.out.mono ?_
 rintro e4 w4 ⟨rfl,hb4⟩
 have B4:=HB3.out.trans (hb4.mono HB3.out.size)
 have lg:=World.block_lt_of_cell? _ _ hc
 have c4:w4.cell? ⟨g,0,none⟩=some x:=(B4.cell (p:=⟨g,0,none⟩) lg).trans hc
 have z4:w4.frozen? ⟨g,0,none⟩=false:=(B4.frozen (p:=⟨g,0,none⟩) lg).trans hz
 have HB4:=qh B4
 clear hc hz B4 hb4 HI c3 HB3
 go_wp2_with fail
 exact⟨rfl,_,rfl,_,by simp[results,Tryz.results19],rfl,rfl,w4,HB4.out,by rw[HE.out]⟩
def ansL:Ans→List UInt8
 |.ok t=>t
 |.err q=>errL q
def AnsIn (a:Ans):Prop:=(∀q,a=.err q→0≤q∧q≤255)∧∀t,a=.ok t→OneLine t
theorem ansIn_err {q:Int} (h:0≤q∧q≤255):AnsIn (.err q):=⟨fun _ e=>by cases e;exact h,fun _ e=>by cases e⟩
theorem ansIn_ok {t:List UInt8} (h:OneLine t):AnsIn (.ok t):=⟨fun _ e=>(by cases e),fun _ e=>by cases e;exact h⟩
theorem AnsIn.line {a:Ans} (h:AnsIn a):OneLine (ansL a):=by
 cases a with
 |ok t=>exact h.2 t rfl
 |err q=>
  refine⟨by simp[ansL,errL],?_⟩
  intro e
  rcases List.mem_append.1 e with e|e
  ·revert e;decide
  ·exact itoa_no _ e
theorem show_line (D:Dyn):OneLine (showS D):=by
 refine⟨?_,?_⟩
 ·unfold showS showP
  simp
 ·unfold showS showP hunS lostS
  intro e
  simp only[List.mem_append,List.mem_singleton]at e
  rcases e with((((((e|e)|e)|e)|e)|e)|e)|e
  ·exact itoa_no _ e
  ·revert e;decide
  ·exact itoa_no _ e
  ·revert e;decide
  ·exact itoa_no _ e
  ·revert e;decide
  ·unfold markS at e
   obtain⟨j,-,hj⟩:=List.mem_map.1 e
   unfold markB at hj
   revert hj
   repeat(first|(split;·decide)|decide)
  ·revert e
   split<;>decide
theorem okS_line:OneLine okS:=⟨by decide,by decide⟩
theorem log_line (D:Dyn):OneLine (logS D):=by
 refine⟨by unfold logS;simp,?_⟩
 unfold logS
 intro e
 rcases List.mem_append.1 e with e|e
 ·exact replAll_no (by decide) _ e
 ·revert e;decide
theorem hun_line (x:Int):OneLine (hunS x):=⟨itoa_ne _,itoa_no _⟩
theorem mid_in (ls:List ByteArray):AnsIn (midO ls):=by
 unfold midO
 split
 ·exact ansIn_err (by decide)
 ·rename_i xs _
  split
  ·exact ansIn_ok (hun_line _)
  ·refine ansIn_err ?_
   unfold dmV voteE midE hearE
   repeat' split
   all_goals(first|decide|(show(0:Int)≤0∧(0:Int)≤255;decide))
theorem set_in (c:ByteArray) (ls:List ByteArray) (s:Dsk) (q:Int) (h:setO c ls s=.err q):0≤q∧q≤255:=by
 have F:∀(l:List UInt8) (f:Int→Dsk),onFix l f=.err q→0≤q∧q≤255:=fun l f h=>by
  unfold onFix at h
  split at h<;>cases h
  decide
 have L:∀(l:List UInt8) (f:Nat→Dsk),onLane l f=.err q→0≤q∧q≤255:=fun l f h=>by
  unfold onLane at h
  split at h
  ·split at h<;>cases h
   decide
  ·cases h;decide
 unfold setO at h
 by_cases k:c=oilZ∧ls.length=2
 ·rw[if_pos k]at h;split at h<;>cases h;decide
 rw[if_neg k]at h;clear k
 by_cases k:c=loadZ∧ls.length=1
 ·rw[if_pos k]at h;exact F _ _ h
 rw[if_neg k]at h;clear k
 by_cases k:c=stickZ∧ls.length=1
 ·rw[if_pos k]at h;exact L _ _ h
 rw[if_neg k]at h;clear k
 by_cases k:c=blindZ∧ls.length=1
 ·rw[if_pos k]at h;exact L _ _ h
 rw[if_neg k]at h;clear k
 by_cases k:c=mendZ∧ls.length=1
 ·rw[if_pos k]at h;exact L _ _ h
 rw[if_neg k]at h;clear k
 by_cases k:c=airZ∧ls.length=0
 ·rw[if_pos k]at h;cases h
 rw[if_neg k]at h;clear k
 by_cases k:c=groundZ∧ls.length=0
 ·rw[if_pos k]at h;cases h
 rw[if_neg k]at h;clear k
 by_cases k:c=askZ∧ls.length=1
 ·rw[if_pos k]at h;split at h<;>cases h;decide
 rw[if_neg k]at h;clear k
 by_cases k:c=tryZ∧ls.length=0
 ·rw[if_pos k]at h;cases h
 rw[if_neg k]at h;clear k
 by_cases k:c=resetZ∧ls.length=1
 ·rw[if_pos k]at h;exact L _ _ h
 rw[if_neg k]at h;clear k
 by_cases k:c=noiseZ∧ls.length=1
 ·rw[if_pos k]at h;cases h
 rw[if_neg k]at h;clear k
 cases h
theorem line_in (l:ByteArray) (s:Dsk):AnsIn (lineO l s).1:=by
 have e10:AnsIn (.err 10):=ansIn_err (by decide)
 unfold lineO ordO
 split
 ·exact e10
 ·split
  ·exact ansIn_ok okS_line
  ·rename_i q hq
   exact ansIn_err (set_in _ _ _ q hq)
  ·unfold restO
   split
   ·split
    ·unfold framesO
     split
     ·exact ansIn_ok (show_line _)
     ·exact ansIn_err (by decide)
    ·exact e10
   ·split
    ·split
     ·exact ansIn_ok okS_line
     ·exact e10
    ·split
     ·exact ansIn_ok (show_line _)
     ·split
      ·exact ansIn_ok (log_line _)
      ·split
       ·exact mid_in _
       ·exact e10
theorem answer_is {A:Nat→Prop} {w0 w:World} {bd b:Nat} {s:Dsk} (h:Desk A w0 w bd b s) (l:ByteArray) (hl:l.size≤4096):
  Calls Tryz.prog 13 #[ptr bd,.string l] w fun e w'=>e=.returned (.string ⟨(ansL (lineO l s).1).toArray⟩)∧Desk A w0 w' bd b (lineO l s).2∧Grw bd b w w':=by
 have hmf:∀(fn:Fn) (first cap:Array Value) (W:World),(Instr.makeFunc fn first cap).run Tryz.prog W=.ok (.func fn first cap) W:=fun _ _ _ _=>rfl
 obtain⟨w1,hw1⟩:∃x,w.alloc (.cells #[.string ⟨#[]⟩] 9)=x:=⟨_,rfl⟩
 obtain⟨hbd,hbb⟩:=h.lt
 have B1:Below w.heap.size w w1:=hw1▸(bLr).alloc (Nat.le_refl _) _
 have z1:w.heap.size<w1.heap.size:=by rw[←hw1];simp
 have D1:=h.more B1 (Nat.le_refl _) z1
 have c1:w1.cell? ⟨w.heap.size,0,none⟩=some (.string ⟨#[]⟩):=by rw[←hw1];clear hw1;go_simp
 have f1:w1.frozen? ⟨w.heap.size,0,none⟩=false:=by rw[←hw1];clear hw1;go_simp
 have hin:=line_in l s
 have hlm:=line_is D1 l hl
 obtain⟨r,hr⟩:∃r,lineO l s=r:=⟨_,rfl⟩
 rw[hr]at hlm hin⊢
 have hh:=h.hd
 have ha:=h.ha
 have h0:=h.B.size
 have HL:=qh hlm
 have HIN:=qh hin
 have G1:Hid (Grw bd b w w1):=qh ((Grw.refl bd b w).call B1)
 have C1:=qh c1;have F1:=qh f1
 clear hr hin D1 B1 c1 f1 h hlm
 go_enter_defers Tryz.func13,Tryz.ntmps13
 go_upto_region 2 with(fail)
 go_wp2_with fail
 refine HL.out.mono ?_
 rintro e w2 ⟨he,hD2,hG2⟩
 have c2:w2.cell? ⟨w.heap.size,0,none⟩=some (.string ⟨#[]⟩):=(World.cell?_of_block (hG2.block w.heap.size z1 (by omega) (by omega))).trans C1.out
 have f2:w2.frozen? ⟨w.heap.size,0,none⟩=false:=(World.frozen?_of_block (hG2.block w.heap.size z1 (by omega) (by omega))).trans F1.out
 have z2:w.heap.size<w2.heap.size:=Nat.lt_of_lt_of_le z1 hG2.size
 have G2:=G1.out.trans hG2
 cases hr1:r.1 with
 |ok t=>
  rw[hr1]at he
  change e=.returned (.string ⟨t.toArray⟩)at he
  subst he
  have D3:=(hD2.far (grown_setW w2 w.heap.size 0 (.string ⟨t.toArray⟩)) (.inr rfl) (by omega) (by omega) h0).less (B:=A) (fun x hx=>.inl hx) ha
  have G3:=G2.far (grown_setW w2 w.heap.size 0 (.string ⟨t.toArray⟩)) (Nat.le_refl _)
  have HD3:=qh D3;have HG3:=qh G3
  have HC3:Hid ((w2.setCell ⟨w.heap.size,0,none⟩ (.string ⟨t.toArray⟩)).cell? ⟨w.heap.size,0,none⟩=some (.string ⟨t.toArray⟩)):=qh (by go_simp)
  clear D3 G3 hD2 hG2 G2 HL HIN
  go_wp2_with fail
  refine leaves_cons (f:=19) (args:=#[.pointer (some ⟨w.heap.size,0,none⟩)]) (by simp) (by simp[go_sem]) ?_
  refine(catch_idle ⟨w.heap.size,0,none⟩ _).mono ?_
  rintro e u' w3 ⟨rfl,rfl,rfl⟩
  refine⟨.string ⟨t.toArray⟩,by simp[results,Tryz.results13,go_sem,HC3.out],by rw[hr1];rfl,HD3.out,HG3.out⟩
 |err q=>
  rw[hr1]at he
  change e=.panicked (wrongP q)at he
  subst he
  have hq:=HIN.out.1 q hr1
  have hT:=hD2.libs
  show Leaves _ _ _ _ _ _ _
  refine leaves_cons (f:=19) (args:=#[.pointer (some ⟨w.heap.size,0,none⟩)]) (by simp) (by simp[go_sem]) ?_
  refine(catch_yes w.heap.size q hq _ [] _ c2 f2 hT).mono ?_
  rintro e u' w3 ⟨rfl,rfl,w4,hb4,rfl⟩
  have D4:=((hD2.call hb4).far (grown_setW w4 w.heap.size 0 (.string ⟨(errL q).toArray⟩)) (.inr rfl) (by omega) (by omega) h0).less (B:=A) (fun x hx=>.inl hx) ha
  have G4:=(G2.call hb4).far (grown_setW w4 w.heap.size 0 (.string ⟨(errL q).toArray⟩)) (Nat.le_refl _)
  have hz4:=hb4.size
  have c4:w4.cell? ⟨w.heap.size,0,none⟩=some (.string ⟨#[]⟩):=(hb4.cell (p:=⟨w.heap.size,0,none⟩) z2).trans c2
  refine⟨.string ⟨(errL q).toArray⟩,by simp[results,Tryz.results13,go_sem,c4],by rw[hr1];rfl,D4,G4⟩
def dsk0:Dsk:={D:=newD,I:={cmd:=⟨#[]⟩,p0:=65536,p1:=65536,load:=0,f:=fun _=>0,ground:=true,ask:=0,tries:=false,reset:= -1},q:=0}
theorem dsk0_ok:DskOk dsk0:=⟨newD_good nom_ok (by show(-6553600:Int)≤0∧(0:Int)≤6553600;omega),⟨by decide,by decide,by decide,by decide,fun _ _=>by show(-9223372036854775808:Int)≤0∧(0:Int)≤9223372036854775807;decide,by decide,by decide⟩,by decide⟩
noncomputable def stepR (p:List ByteArray×Dsk) (l:ByteArray):List ByteArray×Dsk:=if fullB l=true then(p.1++[⟨(ansL (lineO l p.2).1).toArray⟩],(lineO l p.2).2)else p
noncomputable def runR (ls:List ByteArray):List ByteArray×Dsk:=ls.foldl stepR ([],dsk0)
theorem runR_snoc (ls:List ByteArray) (x:ByteArray):runR (ls++[x])=stepR (runR ls) x:=by unfold runR;rw[List.foldl_append];rfl
theorem fold_len:∀(ls:List ByteArray) (p:List ByteArray×Dsk),(ls.foldl stepR p).1.length≤p.1.length+ls.length
 |[],p=>Nat.le_refl _
 |x::ls,p=>by
  have ih:=fold_len ls (stepR p x)
  have h:(stepR p x).1.length≤p.1.length+1:=by
   unfold stepR
   split<;>simp
  rw[List.foldl_cons,List.length_cons]
  omega
theorem runR_len (ls:List ByteArray):(runR ls).1.length≤ls.length:=by have:=fold_len ls ([],dsk0);simpa[runR]using this
theorem Desk.grow {A:Nat→Prop} {w0 w w':World} {bd b:Nat} {s:Dsk} {row:Option Nat} (h:Desk A w0 w bd b s) (hg:w.grownBy w' row) (hr:∀c,row=some c→A c∧b≠c∧bd≠c∧w0.heap.size≤c):Desk A w0 w' bd b s:=by
 cases row with
 |none=>exact h.call ((bLr).grown hg (Nat.le_refl _) (fun c e=>by cases e))
 |some c=>obtain⟨h1,h2,h3,h4⟩:=hr c rfl;exact h.far hg h1 h2 h3 h4
theorem Desk.grow2 {A:Nat→Prop} {w0 w w':World} {bd b:Nat} {s:Dsk} {row:Option Nat} (h:Desk A w0 w bd b s) (hg:w.grownBy w' row) (hr:∀c,row=some c→A c∧b≠c∧bd≠c∧w0.heap.size≤c) (hz:w.heap.size<w'.heap.size):Desk (fun x=>A x∨x=w.heap.size) w0 w' bd b s:=by
 cases row with
 |none=>exact h.more ((bLr).grown hg (Nat.le_refl _) (fun c e=>by cases e)) (Nat.le_refl _) hz
 |some c=>
  obtain⟨h1,h2,h3,h4⟩:=hr c rfl
  obtain⟨vp,vl,vg,hW⟩:=h.W
  have k:=hW.far hg h2 h1
  exact⟨far_cells h.C hg h3,⟨vp,vl,vg,⟨k.c,k.p,k.l,k.g,hW.np.more (c:=w.heap.size) hg.size (Nat.le_refl _),hW.nl.more (c:=w.heap.size) hg.size (Nat.le_refl _),hW.ng.more (c:=w.heap.size) hg.size (Nat.le_refl _),fun x hx=>hx.elim (k.hv x) (fun e=>by omega)⟩⟩,h.L0,below_of_grown h.B hg h4 h.B.size,h.hd,h.hb,h.ne,h.ok,.inl h.ha⟩
theorem Grw.grow {w w1 w2:World} {bd b:Nat} {row:Option Nat} (h:Grw bd b w w1) (hg:w1.grownBy w2 row) (hr:∀c,row=some c→w.heap.size≤c):Grw bd b w w2:=by
 cases row with
 |none=>exact h.call ((bLr).grown hg (Nat.le_refl _) (fun c e=>by cases e))
 |some c=>exact h.far hg (hr c rfl)
def RunOk (s:ByteArray):Prop:=s.size≤4095∧(pcs 10 s).length≤60
theorem run_no (s:ByteArray) (w:World) (hs:s.size<4294967281) (hL:Libs w) (h:¬RunOk s):
  Calls Tryz.prog 5 #[.string s] w fun e w'=>e=.returned (.tuple #[.slice none 0 0,.int .i64 2])∧Below w.heap.size w w':=by
 obtain⟨mx,hmx⟩:=hL.2
 have hsp:=Tryz.strings_Split s ⟨#[10]⟩ mx w hs hmx (Nat.le_refl 1)
 have hpl:=pcs_len 10 s
 have HSP:=qh hsp
 by_cases h1:4095<s.size
 ·have d1:(4095:Int)<(s.size:Int):=by omega
  clear hsp hmx hpl h
  go_enter Tryz.func5,Tryz.ntmps5
  go_wp2_with fail
  refine HSP.out.mono ?_
  rintro e w1 ⟨rfl,rfl⟩
  go_wp2_with fail
  exact bodyPost_ret (v:=.tuple #[.slice none 0 0,.int .i64 2]) (by simp[results,Tryz.results5,go_sem]) rfl ⟨rfl,(bLr).alloc (Nat.le_refl _) _⟩
 ·have d1:¬(4095:Int)<(s.size:Int):=by omega
  have h2:60<Lib.countB s ⟨#[10]⟩+1:=by
   rw[←hpl]
   unfold RunOk at h
   omega
  have d2:(60:Int)<((Lib.countB s ⟨#[10]⟩+1:Nat):Int):=by omega
  obtain⟨n,hn⟩:∃n,Lib.countB s ⟨#[10]⟩+1=n:=⟨_,rfl⟩
  rw[hn]at HSP d2
  clear hsp hmx hpl h h2 hn
  go_enter Tryz.func5,Tryz.ntmps5
  go_wp2_with fail
  refine HSP.out.mono ?_
  rintro e w1 ⟨rfl,rfl⟩
  go_wp2_with fail
  exact bodyPost_ret (v:=.tuple #[.slice none 0 0,.int .i64 2]) (by simp[results,Tryz.results5,go_sem]) rfl ⟨rfl,(bLr).alloc (Nat.le_refl _) _⟩
def RnRel (w0 w1:World) (bd b base:Nat) (ps:List ByteArray) (v i:Value) (wr:World):Prop:=∃k:Nat,k≤ps.length∧i=.int .i64 k∧wr.ownsRow base 9 1 v (runR (ps.take k)).1.length ((runR (ps.take k)).1.map .string)∧(∃A,Desk A w0 wr bd b (runR (ps.take k)).2∧∀c,v.ownBlock=some c→A c)∧Grw bd b w1 wr
theorem run_yes (s:ByteArray) (w:World) (hL:Libs w) (h:RunOk s):
  Calls Tryz.prog 5 #[.string s] w fun e w'=>∃v,e=.returned (.tuple #[v,.int .i64 0])∧w'.ownsRow w.heap.size 9 1 v (runR (pcs 10 s)).1.length ((runR (pcs 10 s)).1.map .string)∧Below w.heap.size w w':=by
 have HLB:=qh hL
 obtain⟨mx,hmx⟩:=hL.2
 obtain⟨h1,h2⟩:=h
 have hsp:=Tryz.strings_Split s ⟨#[10]⟩ mx w (by omega) hmx (Nat.le_refl 1)
 have hpl:=pcs_len 10 s
 have hps:=pcs_size 10 s
 obtain⟨ps,hpsd⟩:∃ps,pcs 10 s=ps:=⟨_,rfl⟩
 rw[show Lib.splitB ⟨#[10]⟩ 0 (Lib.countB s ⟨#[10]⟩) s=ps from hpsd]at hsp
 rw[hpsd]at hpl hps h2⊢
 rw[←hpl]at hsp
 have d1:¬(4095:Int)<(s.size:Int):=by omega
 have d2:¬(60:Int)<(ps.length:Int):=by omega
 have HSP:=qh hsp
 have HPS:Hid (∀x∈ps,x.size≤4096):=qh (fun x hx=>Nat.le_trans (hps x hx) (by omega))
 obtain⟨i0,hi,hz0,hz1,hz2⟩:=info_parts infoStr
 have HI:=qh hi;have HZ0:=qh hz0;have HZ1:=qh hz1;have HZ2:=qh hz2
 clear hi hz0 hz1 hz2 hsp hps hpsd hmx hpl hL
 go_enter Tryz.func5,Tryz.ntmps5
 go_wp2_with fail
 refine HSP.out.mono ?_
 rintro e w1 ⟨rfl,hw1⟩
 have hb1:Below w.heap.size w w1:=hw1▸(bLr).alloc (Nat.le_refl _) _
 have HP:Hid (w1.heap[w.heap.size]?=some (.cells (ps.map Value.string).toArray 9 (0,0))):=qh (by rw[hw1];exact heap_alloc_new w _)
 have hz1:w.heap.size<w1.heap.size:=by rw[hw1];simp
 have HB1:=qh hb1
 clear hw1 hb1 HSP
 go_upto_region 4 with(fail)
 go_wp2_with fail
 refine(nominal_is _).mono ?_
 rintro e2 w2 ⟨g,rfl,hown,hb2⟩
 have hnw:=new_yes (S:=nomS) (own_recs (xs:=nomS.prof) hown pointLay_len) nom_ok (fun c hc=>hc.elim)
 have B2:=HB1.out.trans (hb2.mono HB1.out.size)
 have HNW:=qh hnw
 have HB2:=qh B2
 have HZ2':=qh hb2.size
 have HP2:Hid (w2.heap[w.heap.size]?=some (.cells (ps.map Value.string).toArray 9 (0,0))):=qh ((hb2.block _ hz1).trans HP.out)
 clear hnw B2 hown hb2 HP
 go_wp2_with fail
 refine HNW.out.mono ?_
 rintro e3 w3 ⟨b,vp,rfl,hb,hW3,hb3,-⟩
 have B3:=HB2.out.trans (hb3.mono HB2.out.size)
 have hz2:w.heap.size<w2.heap.size:=Nat.lt_of_lt_of_le hz1 HZ2'.out
 have HP3:Hid (w3.heap[w.heap.size]?=some (.cells (ps.map Value.string).toArray 9 (0,0))):=qh ((hb3.block _ hz2).trans HP2.out)
 obtain⟨w4,hw4⟩:∃x,w3.alloc (.cells (dskL b dsk0).toArray 57)=x:=⟨_,rfl⟩
 have b34:Below w3.heap.size w3 w4:=hw4▸(bLr).alloc (Nat.le_refl _) _
 have z34:w3.heap.size<w4.heap.size:=by rw[←hw4];simp
 have hwb:w.heap.size≤b:=Nat.le_trans HB2.out.size hb
 have D4:Desk (fun x=>nomS.av x∨x=w3.heap.size) w w4 w3.heap.size b dsk0:=⟨hw4▸CellsAt.new' rfl rfl,⟨_,_,_,hW3.more b34 (Nat.le_refl _) z34⟩,HLB.out,B3.trans (b34.mono B3.size),B3.size,hwb,Nat.ne_of_lt hW3.lt,dsk0_ok,.inr rfl⟩
 have hz3:w.heap.size<w3.heap.size:=Nat.lt_of_lt_of_le hz2 hb3.size
 have HP4:Hid (w4.heap[w.heap.size]?=some (.cells (ps.map Value.string).toArray 9 (0,0))):=qh ((b34.block _ hz3).trans HP3.out)
 have hwb2:w.heap.size<b:=Nat.lt_of_lt_of_le hz2 hb
 have hlt:=D4.lt
 obtain⟨bd,hbd⟩:∃x,w3.heap.size=x:=⟨_,rfl⟩
 rw[hbd]at D4 hlt hz3
 have HD4:=qh D4
 have HW4:=qh hw4
 clear D4 hw4 hW3 hb3 B3 b34 HB2 HP2 HP3 hb HB1 HNW HLB HZ2'
 go_upto_region 8 with(fail)
 change Code.wp _ _ _ _ (w3.alloc (.cells (dskL b dsk0).toArray 57))
 rw[HW4.out]
 clear HW4 hbd z34
 go_upto_region 10 with(fail)
 go_loopw [8,36] (fun v i wr=>RnRel w w4 bd b w4.heap.size ps v i wr) (fun _ i _=>ps.length-(intOf i).toNat)
 case atStart=>exact⟨0,Nat.zero_le _,rfl,World.ownsRow_nil _ _ _ _,⟨_,HD4.out,fun c e=>by cases e⟩,Grw.refl _ _ _⟩
 case round=>
  obtain⟨k,hk,rfl,hov,⟨A,hD,hA⟩,hG⟩:=hrel
  have HD:=qh hD;have HG:=qh hG;have HA:=qh hA
  by_cases hlt2:k<ps.length
  ·have e1:(k:Int)<(ps.length:Int):=by omega
   obtain⟨x,hx⟩:∃x,ps[k]?=some x:=⟨_,List.getElem?_eq_getElem hlt2⟩
   have c1:=map_take_cell HP4.out hx
   have c0:wr.cell? ⟨w.heap.size,k,none⟩=some (.string x):=(World.cell?_of_block (hG.block w.heap.size (by omega) (by omega) (by omega))).trans c1
   have hwk:IntKind.i64.wrap ((k:Int)+1)=(k:Int)+1:=IntWalk.i64_in _ (by omega)
   have htk:runR (ps.take (k+1))=stepR (runR (ps.take k)) x:=by
    rw[List.take_add_one,hx];exact runR_snoc _ _
   have hnl:=runR_len (ps.take k)
   rw[List.length_take]at hnl
   have hxs:=HPS.out x (List.mem_of_getElem? hx)
   obtain⟨p,hp⟩:∃p,runR (ps.take k)=p:=⟨_,rfl⟩
   rw[hp]at HD hov htk hnl
   have HTK:=qh htk
   have HOV:=qh hov
   have hn2:p.1.length≤60:=by omega
   have HN2:=qh hn2
   have HAN:=qh (answer_is HD.out x hxs)
   have hws:w.heap.size≤w4.heap.size:=by omega
   have HWS:=qh hws
   clear htk hx c1 hov hD hG hA hnl hp hxs hn2 hws
   by_cases hf:fullB x=true
   ·have hem:x.toList.isEmpty=false:=by simpa[fullB]using hf
    have HST:Hid (stepR p x=(p.1++[⟨(ansL (lineO x p.2).1).toArray⟩],(lineO x p.2).2)):=qh (by unfold stepR;rw[if_pos hf])
    obtain⟨r,hr⟩:∃r,lineO x p.2=r:=⟨_,rfl⟩
    rw[hr]at HAN HST
    obtain⟨an,han⟩:∃y,ansL r.1=y:=⟨_,rfl⟩
    rw[han]at HAN HST
    clear hf hr han
    go_upto_region 13 with(fail)
    go_wp2_with fail
    refine HAN.out.mono ?_
    rintro e w6 ⟨rfl,hD6,hG6⟩
    have b2:Below w6.heap.size w6 (w6.alloc (.cells #[.string ⟨an.toArray⟩] 9)):=(bLr).alloc (Nat.le_refl _) _
    have OV:Hid ((w6.alloc (.cells #[.string ⟨an.toArray⟩] 9)).ownsRow w4.heap.size 9 1 u8 p.1.length (p.1.map .string)):=qh ((own_grw HOV.out hG6 hlt.1 hlt.2).alloc _)
    have CX:Hid (∀(j:Nat) u,[Value.string ⟨an.toArray⟩][j]?=some u→(w6.alloc (.cells #[.string ⟨an.toArray⟩] 9)).cell? ((⟨w6.heap.size,0,none⟩:Addr).add j)=some u):=qh (cells_add (CellsAt.new' rfl rfl))
    have HD6:=qh (hD6.call b2)
    have HG6:=qh ((HG.out.trans hG6).call b2)
    clear b2 hD6 hG6 c0 HAN HD HG HOV
    go_upto_region 14 with(at_builtin;refine wpList_append_own_at _ rfl _ _ 22 rfl w4.heap.size 9 i0 (.string ⟨#[]⟩) 1 16 Tryz.underlying22 HI.out HZ0.out HZ1.out HZ2.out rfl (by decide) _ _ _ rfl OV.out ⟨w6.heap.size,0,none⟩ 1 1 [.string ⟨an.toArray⟩] rfl rfl CX.out (by intro u hu;simp at hu;subst hu;rfl) (by unfold maxLen;have:=HN2.out;omega) (by have:=HN2.out;omega) HG6.out.size ?_;intro v2 wx hov hgx hnx hbx)
    have hrow:∀c,u8.ownBlock=some c→A c∧b≠c∧bd≠c∧w.heap.size≤c:=fun c hc=>by
     have h1:=OV.out.lt c hc
     have h2:=HWS.out
     exact⟨HA.out c hc,by omega,by omega,by omega⟩
    have HG7:=qh (HG6.out.grow hgx (fun c hc=>(OV.out.lt c hc).1))
    have HDA:Hid (∃A2,Desk A2 w wx bd b r.2∧∀c,v2.ownBlock=some c→A2 c):=qh (by
     rcases hbx with e|e
     ·exact⟨A,HD6.out.grow hgx hrow,fun c hc=>HA.out c (Eq.trans (Eq.symm e) hc)⟩
     ·exact⟨_,HD6.out.grow2 hgx hrow (hov.lt _ e).2,fun c hc=>by rw[e]at hc;cases hc;exact .inr rfl⟩)
    have HOV2:=qh hov
    clear hov hgx hnx hbx hrow OV CX HD6 HG6
    go_wp2_with fail
    go_roundw
    case rel=>exact⟨k+1,by omega,by go_num,by rw[HTK.out,HST.out,List.length_append,List.map_append];exact HOV2.out,by rw[HTK.out,HST.out];exact HDA.out,HG7.out⟩
    case measure=>simp[intOf];omega
   ·have hem:x.toList.isEmpty=true:=by simpa[fullB]using hf
    have HST:Hid (stepR p x=p):=qh (by unfold stepR;rw[if_neg hf])
    clear hf
    go_wp2_with fail
    go_roundw
    case rel=>exact⟨k+1,by omega,by go_num,by rw[HTK.out,HST.out];exact HOV.out,⟨A,by rw[HTK.out,HST.out];exact HD.out,HA.out⟩,HG.out⟩
    case measure=>simp[intOf];omega
  ·obtain rfl:k=ps.length:=by omega
   rw[List.take_length]at hov HD
   have HOV:=qh hov
   have hws:w.heap.size≤w4.heap.size:=by omega
   have HWS:=qh hws
   clear hov hD hG hA hws
   go_wp2_with fail
   exact bodyPost_ret (v:=.tuple #[u8,.int .i64 0]) (by simp[results,Tryz.results5,go_sem]) rfl ⟨_,rfl,own_mono HOV.out HWS.out,HD.out.B⟩
theorem pcs_data (c:UInt8) (s:ByteArray):(pcs c s).map (fun x=>x.data.toList)=sp c s.data.toList:=by
 have h:=Lib.splitB_data ⟨#[c]⟩ 0 (Lib.countB s ⟨#[c]⟩) s
 exact h.trans (splitK_sp c _ _ rfl)
theorem ba_eta (x:ByteArray):(⟨x.data.toList.toArray⟩:ByteArray)=x:=by cases x;simp
theorem pcs_sp (c:UInt8) (s:ByteArray):pcs c s=(sp c s.data.toList).map fun l=>⟨l.toArray⟩:=by
 rw[←pcs_data,List.map_map]
 conv=>lhs;rw[←List.map_id (pcs c s)]
 exact List.map_congr_left fun x _=>(ba_eta x).symm
theorem pcs_app (c:UInt8) (a b:ByteArray):pcs c (a++⟨#[c]⟩++b)=pcs c a++pcs c b:=by
 have e:(a++⟨#[c]⟩++b).data.toList=a.data.toList++c::b.data.toList:=by simp[ByteArray.data_append]
 rw[pcs_sp,pcs_sp,pcs_sp,e,sp_app,List.map_append]
theorem fold_front:∀(ls:List ByteArray) (p:List ByteArray×Dsk),∃t,(ls.foldl stepR p).1=p.1++t
 |[],p=>⟨[],(List.append_nil _).symm⟩
 |x::ls,p=>by
  obtain⟨t,ht⟩:=fold_front ls (stepR p x)
  rw[List.foldl_cons,ht]
  unfold stepR
  split
  ·exact⟨_::t,by rw[List.append_assoc];rfl⟩
  ·exact⟨t,rfl⟩
theorem run_front (a b:ByteArray):∃t,(runR (pcs 10 (a++⟨#[10]⟩++b))).1=(runR (pcs 10 a)).1++t:=by
 rw[pcs_app]
 unfold runR
 rw[List.foldl_append]
 exact fold_front _ _
theorem ok_front {a b:ByteArray} (h:RunOk (a++⟨#[10]⟩++b)):RunOk a:=by
 obtain⟨h1,h2⟩:=h
 rw[pcs_app,List.length_append]at h2
 rw[ByteArray.size_append,ByteArray.size_append]at h1
 exact⟨by omega,by omega⟩
theorem fold_count:∀(ls:List ByteArray) (p:List ByteArray×Dsk),(ls.foldl stepR p).1.length=p.1.length+(ls.filter fullB).length
 |[],p=>rfl
 |x::ls,p=>by
  rw[List.foldl_cons,fold_count ls]
  unfold stepR
  by_cases h:fullB x=true
  ·rw[if_pos h,List.filter_cons_of_pos h,List.length_append,List.length_cons,List.length_cons];simp;omega
  ·rw[if_neg h,List.filter_cons_of_neg h]
theorem run_count (ls:List ByteArray):(runR ls).1.length=(ls.filter fullB).length:=by
 have:=fold_count ls ([],dsk0)
 simpa[runR]using this
theorem fold_lines:∀(ls:List ByteArray) (p:List ByteArray×Dsk),(∀x∈p.1,OneLine x.data.toList)→∀x∈(ls.foldl stepR p).1,OneLine x.data.toList
 |[],p,h=>h
 |x::ls,p,h=>by
  rw[List.foldl_cons]
  refine fold_lines ls _ ?_
  unfold stepR
  split
  ·intro y hy
   rcases List.mem_append.1 hy with hy|hy
   ·exact h y hy
   ·rw[List.mem_singleton.1 hy]
    exact(line_in x p.2).line
  ·exact h
theorem run_lines (ls:List ByteArray):∀x∈(runR ls).1,OneLine x.data.toList:=fold_lines ls _ (fun x h=>by cases h)
theorem itoa_dig {n:Int} (h0:0≤n) (h1:n<10):Lib.itoa n=[UInt8.ofNat (48+n.toNat)]:=by
 rw[Lib.itoa,if_neg (by omega),Lib.decDigits,dif_pos (by omega)]
theorem set_not {c:ByteArray} (h:c=showZ∨c=logZ∨c=midZ) (ls:List ByteArray) (s:Dsk):setO c ls s=.no:=by
 unfold setO
 rcases h with rfl|rfl|rfl
 all_goals
  repeat rw[if_neg (by rintro⟨h,-⟩;revert h;decide)]
theorem log_zero:logS newD=[46]:=by
 have h:Lib.replaceAll (textL newD.log) [10] [59]=[]:=List.eq_nil_of_length_eq_zero (by rw[replAll_len (by decide)];rfl)
 unfold logS
 rw[h];rfl
theorem show_zero:showS newD=[48,32,49,32,48,32,115,115,115,115]:=by
 have h1:Lib.itoa newD.frame=[48]:=itoa_dig (by decide) (by decide)
 have h2:Lib.itoa newD.mm=[49]:=itoa_dig (by decide) (by decide)
 have h3:hunS newD.pos=[48]:=itoa_dig (by decide) (by decide)
 unfold showS showP
 rw[h1,h2,h3]
 rfl
theorem mid_zero:midO [⟨#[51]⟩,⟨#[49]⟩,⟨#[50]⟩]=.ok [49]:=by
 have h1:fixAll [⟨#[51]⟩,⟨#[49]⟩,⟨#[50]⟩]=some [1966,655,1310]:=by decide+kernel
 have hs:sort32 [1966,655,1310]=[655,1310,1966]:=List.Perm.eq_of_pairwise (by intro a b _ _ h1 h2;omega) (sort32_sorted _) (by decide) ((sort32_perm _).trans (by decide))
 have hm:midI [1966,655,1310]=1310:=by unfold midI;rw[hs];rfl
 have h2:dmV [1966,655,1310]=(1310,0):=by
  show(midI [1966,655,1310],(0:Int))=_
  rw[hm]
 unfold midO
 rw[h1]
 show(if(dmV [1966,655,1310]).2=0 then _ else _)=_
 rw[h2]
 show Ans.ok (hunS 1310)=_
 have h3:hunS 1310=[49]:=itoa_dig (by decide) (by decide)
 rw[h3]
theorem line_log (s:Dsk):lineO logZ s=(.ok (logS s.D),s):=by
 have h:wordsL logZ=[logZ]:=by unfold wordsL;rw[pcs_sp];decide+kernel
 unfold lineO
 rw[h]
 unfold ordO
 dsimp only
 rw[set_not (.inr (.inl rfl))]
 dsimp only
 unfold restO
 rw[if_neg (by rintro⟨h,-⟩;revert h;decide),if_neg (by rintro⟨h,-⟩;revert h;decide),if_neg (by rintro⟨h,-⟩;revert h;decide),if_pos ⟨rfl,rfl⟩]
theorem line_show (s:Dsk):lineO showZ s=(.ok (showS s.D),s):=by
 have h:wordsL showZ=[showZ]:=by unfold wordsL;rw[pcs_sp];decide+kernel
 unfold lineO
 rw[h]
 unfold ordO
 dsimp only
 rw[set_not (.inl rfl)]
 dsimp only
 unfold restO
 rw[if_neg (by rintro⟨h,-⟩;revert h;decide),if_neg (by rintro⟨h,-⟩;revert h;decide),if_pos ⟨rfl,rfl⟩]
abbrev mid3:ByteArray:=⟨#[109,105,100,32,51,32,49,32,50]⟩
theorem line_mid (s:Dsk):lineO mid3 s=(.ok [49],s):=by
 have h:wordsL mid3=[midZ,⟨#[51]⟩,⟨#[49]⟩,⟨#[50]⟩]:=by unfold wordsL;rw[pcs_sp];decide+kernel
 unfold lineO
 rw[h]
 unfold ordO
 dsimp only
 rw[set_not (.inr (.inr rfl))]
 dsimp only
 unfold restO
 rw[if_neg (by rintro⟨h,-⟩;revert h;decide),if_neg (by rintro⟨h,-⟩;revert h;decide),if_neg (by rintro⟨h,-⟩;revert h;decide),if_neg (by rintro⟨h,-⟩;revert h;decide),if_pos rfl,mid_zero]
theorem run_log:RunOk logZ∧(runR (pcs 10 logZ)).1=[⟨#[46]⟩]:=by
 have h:pcs 10 logZ=[logZ]:=by rw[pcs_sp];decide+kernel
 refine⟨⟨by decide,by rw[h];decide⟩,?_⟩
 rw[h]
 unfold runR
 rw[List.foldl_cons,List.foldl_nil]
 unfold stepR
 rw[if_pos (by decide+kernel),line_log]
 show[]++[(⟨(logS newD).toArray⟩:ByteArray)]=_
 rw[log_zero];rfl
abbrev two0:ByteArray:=⟨#[115,104,111,119,10,10,109,105,100,32,51,32,49,32,50]⟩
theorem run_two:RunOk two0∧(runR (pcs 10 two0)).1=[⟨#[48,32,49,32,48,32,115,115,115,115]⟩,⟨#[49]⟩]:=by
 have h:pcs 10 two0=[showZ,⟨#[]⟩,mid3]:=by rw[pcs_sp];decide+kernel
 refine⟨⟨by decide,by rw[h];decide⟩,?_⟩
 rw[h]
 unfold runR
 rw[List.foldl_cons,List.foldl_cons,List.foldl_cons,List.foldl_nil]
 have e1:stepR ([],dsk0) showZ=([⟨(showS newD).toArray⟩],dsk0):=by unfold stepR;rw[if_pos (by decide+kernel),line_show];rfl
 rw[e1,show_zero]
 have e2:∀p,stepR p ⟨#[]⟩=p:=fun p=>by unfold stepR;rw[if_neg (by decide+kernel)]
 rw[e2]
 have e3:∀p,stepR p mid3=(p.1++[⟨#[49]⟩],p.2):=fun p=>by unfold stepR;rw[if_pos (by decide+kernel),line_mid];rfl
 rw[e3];rfl
theorem idxB_no {c:UInt8}:∀{l:List UInt8},c∉l→Lib.indexByte l c= -1
 |[],_=>rfl
 |b::l,h=>by
  have h1:c∉l:=fun e=>h (List.mem_cons_of_mem _ e)
  have h2:(b==c)=false:=by rw[beq_eq_false_iff_ne];intro e;exact h (by rw[e];exact List.mem_cons_self)
  unfold Lib.indexByte
  rw[h2,idxB_no h1]
  rfl
theorem bad_is (x:ByteArray) (hx:OneLine x.data.toList) (w:World):Calls Tryz.prog 9 #[.string x] w fun e w'=>e=.returned (.bool false)∧Below w.heap.size w w':=by
 have h1:x.toList.isEmpty=false:=by rw[ByteArray.toList_eq];cases h:x.data.toList with|nil=>exact absurd h hx.1|cons a l=>rfl
 have h2:x≠⟨#[]⟩:=by intro e;rw[e]at hx;exact hx.1 rfl
 have HC:=qh (Tryz.strings_Contains_one x 10)
 have HI:Hid (decide (0≤Lib.indexByte x.data.toList 10)=false):=qh (by rw[idxB_no hx.2];decide)
 clear hx
 go_enter Tryz.func9,Tryz.ntmps9
 go_wp2_with fail
 refine(HC.out _).mono ?_
 rintro e w1 ⟨rfl,rfl⟩
 rw[HI.out]
 go_wp2_with fail
 go_ret
 exact⟨rfl,bLr⟩
theorem idxFunc_is (xs:List ByteArray) (v:Value) (w:World) (hv:RecsAt 1 strLay w v xs) (hx:∀x∈xs,OneLine x.data.toList) (hl:xs.length≤9223372036854775807):
  Calls Tryz.prog 15 #[v,.func (.func 9) #[] #[]] w fun e w'=>e=.returned (.int .i64 (-1))∧Below w.heap.size w w':=by
 obtain⟨a,cp,rfl⟩:=hv.len
 have HV:=qh hv
 have HX:=qh hx
 clear hv hx
 go_enter Tryz.func15,Tryz.ntmps15
 go_upto_region 2 with(fail)
 go_loopw [8] (fun i wr=>∃k:Nat,k≤xs.length∧i=.int .i64 k∧Below w.heap.size w wr) (fun i _=>xs.length-(intOf i).toNat)
 case atStart=>exact⟨0,Nat.zero_le _,rfl,bLr⟩
 case round=>
  obtain⟨k,hk,rfl,hB⟩:=hrel
  by_cases hlt:k<xs.length
  ·have d1:(k:Int)<(xs.length:Int):=by omega
   have hwk:IntKind.i64.wrap ((k:Int)+1)=(k:Int)+1:=IntWalk.i64_in _ (by omega)
   obtain⟨x,hxk⟩:∃x,xs[k]?=some x:=⟨_,List.getElem?_eq_getElem hlt⟩
   have hox:=HX.out x (List.mem_of_getElem? hxk)
   rcases HV.out.later strLay_len hB (Nat.le_refl _)with⟨e,-⟩|⟨-,b,off,cp',hve,hlc,hm,hc⟩
   ·rw[e]at hlt;cases hlt
   cases hve
   have c0:wr.cell? ⟨b,off+k,none⟩=some (.string x):=by have:=hc k x hxk 0 (by decide);simpa[strLay]using this
   have HB:=qh hB
   have HBD:=qh (bad_is x hox wr)
   have hlc2:k<cp:=by omega
   clear hc hB hxk hox
   go_wp2_with fail
   refine HBD.out.mono ?_
   rintro e w1 ⟨rfl,hb1⟩
   have HB1:=qh (HB.out.trans (hb1.mono HB.out.size))
   clear hb1 c0 HB HBD
   go_wp2_with fail
   go_roundw
   case rel=>exact⟨k+1,by omega,by go_num,HB1.out⟩
   case measure=>simp[intOf];omega
  ·obtain rfl:k=xs.length:=by omega
   go_wp2_with fail
   go_ret
   exact⟨rfl,hB⟩
theorem contains_is (xs:List ByteArray) (v:Value) (w:World) (hv:RecsAt 1 strLay w v xs) (hx:∀x∈xs,OneLine x.data.toList) (hl:xs.length≤9223372036854775807):
  Calls Tryz.prog 8 #[v,.func (.func 9) #[] #[]] w fun e w'=>e=.returned (.bool false)∧Below w.heap.size w w':=by
 have HI:=qh (idxFunc_is xs v w hv hx hl)
 go_enter Tryz.func8,Tryz.ntmps8
 go_wp2_with fail
 refine HI.out.mono ?_
 rintro e w1 ⟨rfl,hb⟩
 go_wp2_with fail
 go_ret
 exact⟨rfl,hb⟩
theorem equal_is (xs ys:List ByteArray) (v u:Value) (w:World) (hv:RecsAt 1 strLay w v xs) (hu:RecsAt 1 strLay w u ys) (hx:xs.length≤9223372036854775807) (hy:ys.length≤9223372036854775807):
  Calls Tryz.prog 6 #[v,u] w fun e w'=>e=.returned (.bool (decide (xs=ys)))∧Below w.heap.size w w':=by
 by_cases hl:xs.length=ys.length
 ·rcases hv with⟨rfl,h⟩|⟨h0,b,off,cap,rfl,hlc,hm,hc⟩
  ·obtain rfl:ys=[]:=List.eq_nil_of_length_eq_zero hl.symm
   have h1:∃a c,v=.slice a 0 c:=by
    rcases h with h|⟨a,c,h⟩
    ·exact⟨_,_,h⟩
    ·exact⟨_,_,h⟩
   obtain⟨a1,c1,rfl⟩:=h1
   obtain⟨a2,c2,rfl⟩:=hu.len
   refine(Tryz.slices_Equal_string_empty a1 a2 c1 0 c2 w (by decide)).mono ?_
   rintro e w' ⟨rfl,rfl⟩
   exact⟨rfl,bLr⟩
  ·rcases hu with⟨rfl,h⟩|⟨h02,b2,off2,cap2,rfl,hlc2,hm2,hc2⟩
   ·rw[hl]at h0;cases h0
   ·refine(Tryz.slices_Equal_string b off xs.length cap b2 off2 ys.length cap2 xs ys w (Nat.le_refl _) (Nat.le_refl _) hx hy ?_ ?_).mono ?_
    ·exact fun j hj=>by
      have:=hc j _ (List.getElem?_eq_getElem hj) 0 (by decide)
      simpa[strLay,hj]using this
    ·exact fun j hj=>by
      have:=hc2 j _ (List.getElem?_eq_getElem hj) 0 (by decide)
      simpa[strLay,hj]using this
    rintro e w' ⟨rfl,q,rfl⟩
    rw[List.take_length,List.take_length]
    exact⟨rfl,bLn (bLr) _⟩
 ·obtain⟨a1,c1,rfl⟩:=hv.len
  obtain⟨a2,c2,rfl⟩:=hu.len
  refine(Tryz.slices_Equal_string_lens a1 a2 xs.length c1 ys.length c2 w hl).mono ?_
  rintro e w' ⟨rfl,rfl⟩
  have:¬xs=ys:=fun e=>hl (by rw[e])
  rw[decide_eq_false this]
  exact⟨rfl,bLr⟩
theorem strs_new (w:World) (ys:List ByteArray) (h0:0<ys.length) (hl:ys.length≤1000):RecsAt 1 strLay (w.alloc (.cells (ys.map Value.string).toArray 9)) (.slice (some ⟨w.heap.size,0,none⟩) ys.length ys.length) ys:=by
 refine .inr ⟨h0,w.heap.size,0,ys.length,rfl,Nat.le_refl _,by omega,fun i x hi j hj=>?_⟩
 obtain rfl:j=0:=by omega
 have h1:(w.alloc (.cells (ys.map Value.string).toArray 9)).heap[w.heap.size]?=some (.cells (ys.map Value.string).toArray 9 (0,0)):=heap_alloc_new w _
 rw[Lib.cell_of_heap h1]
 simp[strLay,hi]
end Go.Proofs.YtpkiepjmcepnoaaGreatDoor
