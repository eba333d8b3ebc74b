/- DeskCounts: a text of orders has as many answers as lines that are not empty, and each is one line; for every text of bulk at most 1048576. -/
import Derived.Test.YtpkiepjmcepnoaaGreatDoorDzG
import Derived.Test.YtpkiepjmcepnoaaGreatDoorCards
import Derived.Test.YtpkiepjmcepnoaaGreatDoorTie
import Derived.Test.YtpkiepjmcepnoaaGreatDoorDzH
import Derived.SevenTiedAt
set_option maxHeartbeats 16000000
set_option maxRecDepth 100000
set_option linter.unusedVariables false
namespace Go.Proofs.YtpkiepjmcepnoaaGreatDoor.deskCounts
open Go.ChangeShapes Go.WideShapes Go.ChangeAt Go.RowKit
theorem law (s:ByteArray) (w:World) (hL:Libs w) (hs:s.size<4294967281):Calls Tryz.prog 4 #[.string s] w fun e w'=>e=.returned (.bool true)∧Below w.heap.size w w':=by
 have HL:=qh hL
 have HR0:=qh (run_yes logZ w hL run_log.1)
 go_enter Tryz.func4,Tryz.ntmps4
 go_wp2_with fail
 refine HR0.out.mono ?_
 rintro e1 w1 ⟨v,rfl,hown,hb1⟩
 rw[run_log.2]at hown
 have R1:RecsAt 1 strLay w1 v [⟨#[46]⟩]:=own_strs hown
 obtain⟨a,cp,rfl⟩:=R1.len
 obtain⟨w2,hw2⟩:∃x,w1.alloc (.cells #[.string ⟨#[46]⟩] 9)=x:=⟨_,rfl⟩
 have B2:Below w1.heap.size w1 w2:=hw2▸(bLr).alloc (Nat.le_refl _) _
 have N2:RecsAt 1 strLay w2 (.slice (some ⟨w1.heap.size,0,none⟩) 1 1) [⟨#[46]⟩]:=hw2▸strs_new w1 [⟨#[46]⟩] (by decide) (by decide)
 have heq:=equal_is _ _ _ _ w2 (R1.later strLay_len B2 (Nat.le_refl _)) N2 (by decide) (by decide)
 rw[decide_eq_true (show([⟨#[46]⟩]:List ByteArray)=[⟨#[46]⟩]from rfl)]at heq
 have HEQ:=qh heq
 have HB2:=qh (hb1.trans (B2.mono hb1.size))
 have HW2:=qh hw2
 clear hown B2 hb1 HR0 hL R1 N2 heq hw2
 go_wp2_with fail
 rw[HW2.out]
 refine HEQ.out.mono ?_
 rintro e2 w3 ⟨rfl,hb3⟩
 have B3:=HB2.out.trans (hb3.mono HB2.out.size)
 have L3:=HL.out.later B3
 have HB3:=qh B3
 by_cases hok:RunOk s
 ·have HR:=qh (run_yes s w3 L3 hok)
  clear hb3 HB2 HEQ HW2 B3 L3
  go_wp2_with fail
  refine HR.out.mono ?_
  rintro e4 w4 ⟨v4,rfl,hown4,hb4⟩
  have R4:RecsAt 1 strLay w4 v4 (runR (pcs 10 s)).1:=own_strs hown4
  have hcnt:=run_count (pcs 10 s)
  have hlin:=run_lines (pcs 10 s)
  have hle:=runR_len (pcs 10 s)
  have hps:=hok.2
  have HB4:=qh (HB3.out.trans (hb4.mono HB3.out.size))
  obtain⟨mx,hmx⟩:=(HL.out.later HB4.out).2
  have hsp:=Tryz.strings_Split s ⟨#[10]⟩ mx w4 hs hmx (Nat.le_refl 1)
  have hpl:=pcs_len 10 s
  obtain⟨ps,hpsd⟩:∃ps,pcs 10 s=ps:=⟨_,rfl⟩
  rw[show Lib.splitB ⟨#[10]⟩ 0 (Lib.countB s ⟨#[10]⟩) s=ps from hpsd]at hsp
  rw[hpsd]at hpl hcnt hlin R4 hle hps
  rw[←hpl]at hsp
  obtain⟨L,hL4⟩:∃x,(runR ps).1=x:=⟨_,rfl⟩
  rw[hL4]at hcnt hlin R4 hle
  have HC:=qh hcnt
  have HLIN:=qh hlin
  have HSP:=qh hsp
  have HR4:=qh R4
  obtain⟨a4,c4,rfl⟩:=R4.len
  clear hown4 hb4 hsp hmx hpl hpsd hL4 hcnt hlin R4 HR HB3 hok
  go_wp2_with fail
  refine HSP.out.mono ?_
  rintro e5 w5 ⟨rfl,hw5⟩
  have b5:Below w4.heap.size w4 w5:=hw5▸(bLr).alloc (Nat.le_refl _) _
  have HP:Hid (w5.heap[w4.heap.size]?=some (.cells (ps.map Value.string).toArray 9 (0,0))):=qh (by rw[hw5];exact heap_alloc_new w4 _)
  have HB5:=qh (HB4.out.trans (b5.mono HB4.out.size))
  have HR5:=qh (HR4.out.later strLay_len b5 (Nat.le_refl _))
  clear hw5 b5 HSP HR4 HB4
  go_upto_region 9 with(fail)
  go_loopw [7,35] (fun n i wr=>∃k:Nat,k≤ps.length∧i=.int .i64 k∧n=.int .i64 ((ps.take k).filter fullB).length∧wr=w5) (fun _ i _=>ps.length-(intOf i).toNat)
  case atStart=>exact⟨0,Nat.zero_le _,rfl,rfl,rfl⟩
  case round=>
   obtain⟨k,hk,rfl,rfl,rfl⟩:=hrel
   by_cases hlt:k<ps.length
   ·have d1:(k:Int)<(ps.length:Int):=by omega
    obtain⟨x,hx⟩:∃x,ps[k]?=some x:=⟨_,List.getElem?_eq_getElem hlt⟩
    have c1:=map_take_cell HP.out hx
    have hwk:IntKind.i64.wrap ((k:Int)+1)=(k:Int)+1:=IntWalk.i64_in _ (by omega)
    have htk:(ps.take (k+1)).filter fullB=(ps.take k).filter fullB++(if fullB x=true then[x]else[]):=by
     rw[List.take_add_one,hx,List.filter_append]
     cases hf:fullB x<;>simp[hf]
    have hnl:((ps.take k).filter fullB).length≤k:=Nat.le_trans (List.length_filter_le _ _) (by rw[List.length_take];omega)
    obtain⟨q,hq⟩:∃q,((ps.take k).filter fullB).length=q:=⟨_,rfl⟩
    have htl:=congrArg List.length htk
    rw[List.length_append,hq]at htl
    rw[hq]at hnl⊢
    have hwq:IntKind.i64.wrap ((q:Int)+1)=(q:Int)+1:=IntWalk.i64_in _ (by omega)
    have HTL:=qh htl
    clear htk htl hq hx
    by_cases hf:fullB x=true
    ·have hem:x.toList.isEmpty=false:=by simpa[fullB]using hf
     have HF:=qh hf
     clear hf
     go_wp2_with fail
     go_roundw
     case rel=>exact⟨k+1,by omega,by go_num,by rw[HTL.out,if_pos HF.out];go_num,trivial⟩
     case measure=>simp[intOf];omega
    ·have hem:x.toList.isEmpty=true:=by simpa[fullB]using hf
     have HF:=qh hf
     clear hf
     go_wp2_with fail
     go_roundw
     case rel=>exact⟨k+1,by omega,by go_num,by rw[HTL.out,if_neg HF.out];go_num,trivial⟩
     case measure=>simp[intOf];omega
   ·obtain rfl:k=ps.length:=by omega
    rw[List.take_length,←HC.out]
    have HCT:=qh (contains_is L _ _ HR5.out HLIN.out (by omega))
    go_wp2_with fail
    refine HCT.out.mono ?_
    rintro e6 w6 ⟨rfl,hb6⟩
    have HB6:=qh (HB5.out.trans (hb6.mono HB5.out.size))
    clear hb6
    go_wp2_with fail
    go_ret
    exact⟨rfl,HB6.out⟩
 ·have HR:=qh (run_no s w3 hs L3 hok)
  clear hb3 HB2 HEQ HW2 B3 L3
  go_wp2_with fail
  refine HR.out.mono ?_
  rintro e4 w4 ⟨rfl,hb4⟩
  have HB4:=qh (HB3.out.trans (hb4.mono HB3.out.size))
  clear hb4
  go_wp2_with fail
  go_ret
  exact⟨rfl,HB4.out⟩
theorem contract (H:Type) (enc:TypeId×Value→H) (W:World) (base:Nat) (args:Array Value) (ds gs:List (DataW H)) (before:List MemPlace)
  (hval0:∀(j:Nat) t v,Tryz.f4.params[j]?=some t→args[j]?=some v→Value.okWide Tryz.prog W .any base t v)
  (hW:DataW.Whole enc Tryz.prog Tryz.f4.params.toList Rows.deskCountsSpec.vars false W args.toList ds gs before) (hk:Rows.uptoSmall H (ds++gs)=true) (hL:Libs W):
  Calls Tryz.prog 4 args W fun e W'=>∃v,e=.returned v∧Rows.deskCountsSpec.post enc Tryz.prog Tryz.f4 false true false false W args v W':=by
 have hval:∀(j:Nat) t v,Tryz.f4.params[j]?=some t→args[j]?=some v→Value.okWide Tryz.prog W .any base t v:=hval0
 have hW':=hW
 obtain⟨p,q,hA0,hV,rfl,hfz,hnd⟩:=hW
 have hA:DataW.TrodAll enc Tryz.prog W 0 (fun _=>true) true Tryz.f4.params.toList args.toList ds p:=hA0
 rw[Tryz.params4]at hA hval
 obtain⟨v0,vs0,d0,ds0,p0,q0,hargs,rfl,rfl,h0,r0⟩:=trodAll_cons hA
 obtain⟨rfl,rfl,rfl⟩:=trodAll_nil r0
 obtain rfl:args=#[v0]:=by cases args;simp_all
 obtain⟨rfl,rfl⟩:=trodVars_none hV
 have k0:=h0
 have lt0:∀x∈p0,x.block<W.heap.size:=by obtain⟨m,hm⟩:=k0;exact DataW.trod_lt m _ _ _ hm
 obtain⟨a0,rfl,rfl,rfl,w0⟩:=Go.ChangeMaps.open_string Tryz.underlying9 (hval 0 9 v0 rfl rfl) h0
 clear hA0 hval0
 have hb:Rows.uptoBulkAll ([.lit (.string a0.data.toList)]++[]:List (DataW H))≤1048576:=of_decide_eq_true hk
 simp only[List.append_nil,Rows.uptoBulkAll,Rows.uptoBulk]at hb
 have e0:a0.data.toList.length=a0.size:=by rw[Array.length_toList];rfl
 refine(law a0 W hL (by omega)).mono fun e W' ⟨he,bel⟩=>?_
 subst he
 exact⟨_,rfl,_,_,_,[],_,[],hW',trodAll_mk1 (shut_bool Tryz.underlying4 _),(trodAll_cons_mk (Below.trod Open.laidOut (by kernel_rfl) (of_decide_eq_true (by kernel_rfl)) k0 bel lt0) trodAll_mk0),rfl,bel.frame _,fun h=>by cases h⟩
theorem reads (os:Os) {H:Type} (enc:TypeId×Value→H):∃places,DataW.whole enc Tryz.prog ((laidWorld os).forCall (fun _ _=>0) ⟨#[],#[.string ByteArray.empty],[]⟩).memory Tryz.f4.params.toList Rows.deskCountsSpec.vars false #[Value.string ByteArray.empty].toList 8=some ([.lit (.string [])],[],places):=
 ⟨[],by kernel_rfl⟩
theorem lifted (os:Os) (started:os.Started) (H:Type) (enc:TypeId×Value→H) (F:Stop.Interp):
  ReturnsInHanded {} Tryz.checked os 4 .any ((Rows.OpenSpec.upto Rows.deskCountsSpec).preRow enc Tryz.prog Tryz.f4 Rows.deskCountsUptoRow.domain false Rows.deskCountsUptoRow.laid) (((Rows.OpenSpec.upto Rows.deskCountsSpec).at F).post enc Tryz.prog Tryz.f4 false true false false):=by
 obtain⟨places,hx⟩:=reads os enc
 refine returnsInHanded_of_row (C:=Tryz.checked) (s:=Rows.OpenSpec.upto Rows.deskCountsSpec) Open.own started (by kernel_rfl) Tryz.func4
  (witness_row_atRef (enc:=enc) (C:=Tryz.checked) false (laidWorld os) #[.string ByteArray.empty] rfl (by kernel_rfl) (by kernel_rfl) (by kernel_rfl)
   (OpenSpec.preRow_of_cond 8 hx (by kernel_rfl) (fun k hk=>by cases hk;kernel_rfl) (by kernel_rfl) (laid_met os _))) ?_
 intro W base args ds gs before hval hW _ hcond _ hL hsh _
 exact contract H enc W base args ds gs before hval hW (hcond _ rfl) (libs_of hL hsh)
theorem said:Rows.DeskCountsUptoSaid:=
 OpenClaim.holds_of_cond 4 Tryz.f4 rfl rfl rfl rfl rfl rfl rfl ⟨rfl,rfl,rfl,rfl,rfl⟩ rfl rfl rfl rfl rfl (by kernel_rfl) Tryz.func4 (by kernel_rfl)
  (of_decide_eq_true (by kernel_rfl)) (by unfold Func.isWrapper;first|(rw[if_pos (by decide+kernel)];kernel_rfl)|(rw[if_neg (by decide+kernel)];exact⟨rfl,rfl⟩))
  (fun os started H enc _ F=>by rw[OpenClaim.pre_eq_preRow];exact lifted os started H enc F)
theorem plain (f : FuncId) (fn : Func) (hf : Tryz.pinned.checked.prog.funcNamed "steadyhand/steadkeep.DeskCounts" = some f) (hfn : Tryz.pinned.checked.prog.funcs[f]? = some fn) :
  true=Tryz.pinned.checked.prog.looks []∧∀(j:Nat) t,fn.params[j]?=some t→Tryz.pinned.checked.prog.wantsStandIn t=false:=by
 obtain rfl : f = 4 := Option.some.inj ((show Tryz.prog.funcNamed "steadyhand/steadkeep.DeskCounts" = some 4 by kernel_rfl).symm.trans hf) |>.symm
 obtain rfl:fn=Tryz.f4:=(Option.some.inj (Tryz.func4.symm.trans hfn)).symm
 refine⟨by kernel_rfl,fun j t ht=>?_⟩
 rw[Tryz.params4]at ht
 obtain rfl:t=9:=by simpa using Array.mem_of_getElem? ht
 exact(show Tryz.prog.wantsStandIn 9=false by kernel_rfl)
theorem proved:Rows.DeskCountsUptoCardSaid:=
 Claim7.holds_tied_plain_at .later [] _ _ _ _ said (fun _ h=>by cases h) (by kernel_rfl) (fun _ h=>by cases h) deskCountsUpto_row_tie rfl ⟨rfl,rfl⟩ (by kernel_rfl) rfl plain (by kernel_rfl)
end Go.Proofs.YtpkiepjmcepnoaaGreatDoor.deskCounts
