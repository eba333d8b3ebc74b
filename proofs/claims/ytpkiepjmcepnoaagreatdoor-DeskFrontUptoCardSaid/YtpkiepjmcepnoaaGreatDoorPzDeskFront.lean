/- DeskFront: what follows in a text of orders is not seen in what was answered before; for every two texts of bulk at most 1048576. -/
import Derived.Test.YtpkiepjmcepnoaaGreatDoorDzG
import Derived.Test.YtpkiepjmcepnoaaGreatDoorCards
import Derived.Test.YtpkiepjmcepnoaaGreatDoorTie
import Derived.Test.YtpkiepjmcepnoaaGreatDoorDzH
import Derived.SevenTiedAt
set_option maxHeartbeats 16000000
set_option maxRecDepth 100000
set_option linter.unusedVariables false
namespace Go.Proofs.YtpkiepjmcepnoaaGreatDoor.deskFront
open Go.ChangeShapes Go.WideShapes Go.ChangeAt Go.RowKit
theorem strs_take {w:World} {a:Option Addr} {n c:Nat} {xs t:List ByteArray} (h:RecsAt 1 strLay w (.slice a n c) (xs++t)):RecsAt 1 strLay w (.slice a xs.length c) xs:=by
 rcases h with⟨h0,h⟩|⟨h0,b,off,cap,hv,hlc,hm,hc⟩
 ·obtain⟨rfl,rfl⟩:=List.append_eq_nil_iff.1 h0
  rcases h with h|⟨a',c',h⟩
  ·cases h;exact .inl ⟨rfl,.inl rfl⟩
  ·cases h;exact .inl ⟨rfl,.inr ⟨_,_,rfl⟩⟩
 ·cases hv
  by_cases hx:xs=[]
  ·subst hx;exact .inl ⟨rfl,.inr ⟨_,_,rfl⟩⟩
  ·rw[List.length_append]at hlc
   refine .inr ⟨List.length_pos_iff.2 hx,b,off,c,rfl,by omega,hm,fun i x hi j hj=>hc i x ?_ j hj⟩
   rw[List.getElem?_append_left (List.getElem?_eq_some_iff.1 hi).1]
   exact hi
theorem slice_is {w:World} {base k m:Nat} {v:Value} {xs:List Value} (h:w.ownsRow base 9 1 v m xs) (hk:k≤m):∃a c,v=.slice a m c∧∀W:World,(Instr.slice 22 v none (some (.int .i64 k)) none).run Tryz.prog W=.ok (.slice a k c) W:=by
 have hi:Tryz.prog.underlying 22=some (.slice 9):=Tryz.underlying22
 have hs:(Tryz.prog.info? 9).map (·.size)=some 1:=by kernel_rfl
 rcases h.2 with⟨rfl,rfl⟩|⟨g,cap,cur,rfl,hgb,hblk,hcl,hcm,-,-⟩
 ·obtain rfl:k=0:=by omega
  exact⟨none,0,rfl,fun W=>by kernel_rfl⟩
 ·refine⟨_,cap,rfl,fun W=>?_⟩
  have h1:(k:Int)≤m:=by omega
  have h2:(m:Int)≤cap:=by omega
  have h3:(k:Int)≤cap:=by omega
  have h4:k≤cap:=by omega
  go_simp
theorem law (a b:ByteArray) (w:World) (hL:Libs w) (ha:a.size≤1048576) (hb:b.size≤1048576):Calls Tryz.prog 3 #[.string a,.string b] w fun e w'=>e=.returned (.bool true)∧Below w.heap.size w w':=by
 have HL:=qh hL
 have HR0:=qh (run_yes two0 w hL run_two.1)
 obtain⟨a1,ha1⟩:∃x,a++⟨#[10]⟩=x:=⟨_,rfl⟩
 have qa1:a1.size=a.size+1:=by rw[←ha1,ByteArray.size_append];rfl
 obtain⟨ab,hab⟩:∃x,a1++b=x:=⟨_,rfl⟩
 have qab:ab.size=a1.size+b.size:=by rw[←hab,ByteArray.size_append]
 have hfull:a++⟨#[10]⟩++b=ab:=by rw[ha1,hab]
 have wa:¬(9223372036854775807<a.size+1):=by omega
 have va:¬(9223372036854775806<a.size):=by omega
 have wb:¬(9223372036854775807<a1.size+b.size):=by omega
 have HFU:=qh hfull
 clear hfull
 go_enter Tryz.func3,Tryz.ntmps3
 go_wp2_with fail
 refine HR0.out.mono ?_
 rintro e1 w1 ⟨v,rfl,hown,hb1⟩
 rw[run_two.2]at hown
 have R1:RecsAt 1 strLay w1 v [⟨#[48,32,49,32,48,32,115,115,115,115]⟩,⟨#[49]⟩]:=own_strs hown
 obtain⟨aa,cp,rfl⟩:=R1.len
 obtain⟨w2,hw2⟩:∃x,w1.alloc (.cells #[.string ⟨#[48,32,49,32,48,32,115,115,115,115]⟩,.string ⟨#[49]⟩] 9)=x:=⟨_,rfl⟩
 have B2:Below w1.heap.size w1 w2:=hw2▸(bLr).alloc (Nat.le_refl _) _
 have N2:RecsAt 1 strLay w2 (.slice (some ⟨w1.heap.size,0,none⟩) 2 2) [⟨#[48,32,49,32,48,32,115,115,115,115]⟩,⟨#[49]⟩]:=hw2▸strs_new w1 [⟨#[48,32,49,32,48,32,115,115,115,115]⟩,⟨#[49]⟩] (by decide) (by decide)
 have heq:=equal_is _ _ _ _ w2 (R1.later strLay_len B2 (Nat.le_refl _)) N2 (by decide) (by decide)
 rw[decide_eq_true (show([⟨#[48,32,49,32,48,32,115,115,115,115]⟩,⟨#[49]⟩]:List ByteArray)=[⟨#[48,32,49,32,48,32,115,115,115,115]⟩,⟨#[49]⟩]from rfl)]at heq
 have HEQ:=qh heq
 have HB2:=qh (hb1.trans (B2.mono hb1.size))
 have HW2:=qh hw2
 clear hown B2 hb1 HR0 hL R1 N2 heq hw2
 go_wp2_with fail
 rw[HW2.out]
 refine HEQ.out.mono ?_
 rintro e2 w3 ⟨rfl,hb3⟩
 have B3:=HB2.out.trans (hb3.mono HB2.out.size)
 have L3:=HL.out.later B3
 have HB3:=qh B3
 clear HEQ HW2 HB2 hb3 B3
 by_cases hab2:RunOk ab
 ·have hok:RunOk a:=ok_front (by rw[HFU.out];exact hab2)
  obtain⟨t,ht⟩:=run_front a b
  rw[HFU.out]at ht
  have HR:=qh (run_yes a w3 L3 hok)
  have hl1:=runR_len (pcs 10 a)
  have hl2:=runR_len (pcs 10 ab)
  have hp2:=hab2.2
  have HAB:=qh hab2
  obtain⟨xs,hxs⟩:∃x,(runR (pcs 10 a)).1=x:=⟨_,rfl⟩
  obtain⟨ys,hys⟩:∃x,(runR (pcs 10 ab)).1=x:=⟨_,rfl⟩
  rw[hxs,hys]at ht
  have hyl:ys.length≤60:=by rw[←hys];omega
  have hxy:xs.length≤ys.length:=by rw[ht,List.length_append];omega
  rw[hxs]at HR
  have HT:=qh ht
  have HYS:=qh hys
  clear L3 hok ht hl1 hl2 hp2 hab2 hxs hys
  go_wp2_with fail
  refine HR.out.mono ?_
  rintro e4 w4 ⟨v4,rfl,hown4,hb4⟩
  have R4:RecsAt 1 strLay w4 v4 xs:=own_strs hown4
  have B4:=HB3.out.trans (hb4.mono HB3.out.size)
  have HR5:=qh (run_yes ab w4 (HL.out.later B4) HAB.out)
  obtain⟨a4,c4,rfl⟩:=R4.len
  have HR4:=qh R4
  have HB4:=qh B4
  clear hown4 hb4 R4 B4 HR HB3
  go_wp2_with fail
  rw[HYS.out]at HR5
  refine HR5.out.mono ?_
  rintro e5 w5 ⟨v5,rfl,hown5,hb5⟩
  have R5:RecsAt 1 strLay w5 v5 ys:=own_strs hown5
  obtain⟨a5,c5,rfl,hsl⟩:=slice_is hown5 hxy
  have R6:=HR4.out.later strLay_len hb5 (Nat.le_refl _)
  rw[HT.out]at R5
  have heq:=equal_is _ _ _ _ w5 R6 (strs_take R5) (by omega) (by omega)
  rw[decide_eq_true (rfl:xs=xs)]at heq
  have HEQ:=qh heq
  have HB5:=qh (HB4.out.trans (hb5.mono HB4.out.size))
  have d5:(xs.length:Int)≤(ys.length:Int):=by omega
  clear heq R6 R5 hown5 hb5 HR5 HB4 HR4
  go_wp2_with fail
  refine HEQ.out.mono ?_
  rintro e6 w6 ⟨rfl,hb6⟩
  have HB6:=qh (HB5.out.trans (hb6.mono HB5.out.size))
  clear hb6
  go_wp2_with fail
  go_ret
  exact⟨rfl,HB6.out⟩
 ·by_cases hok:RunOk a
  ·have HR:=qh (run_yes a w3 L3 hok)
   have HAB:=qh hab2
   clear L3 hok hab2
   go_wp2_with fail
   refine HR.out.mono ?_
   rintro e4 w4 ⟨v4,rfl,hown4,hb4⟩
   obtain⟨a4,c4,rfl⟩:=own_sl hown4
   have B4:=HB3.out.trans (hb4.mono HB3.out.size)
   have HR5:=qh (run_no ab w4 (by omega) (HL.out.later B4) HAB.out)
   have HB4:=qh B4
   clear hown4 hb4 B4 HR HB3
   go_wp2_with fail
   refine HR5.out.mono ?_
   rintro e5 w5 ⟨rfl,hb5⟩
   have HB5:=qh (HB4.out.trans (hb5.mono HB4.out.size))
   clear hb5
   go_wp2_with fail
   go_ret
   exact⟨rfl,HB5.out⟩
  ·have HR:=qh (run_no a w3 (by omega) L3 hok)
   have HAB:=qh hab2
   clear L3 hok hab2
   go_wp2_with fail
   refine HR.out.mono ?_
   rintro e4 w4 ⟨rfl,hb4⟩
   have B4:=HB3.out.trans (hb4.mono HB3.out.size)
   have HR5:=qh (run_no ab w4 (by omega) (HL.out.later B4) HAB.out)
   have HB4:=qh B4
   clear hb4 B4 HR HB3
   go_wp2_with fail
   refine HR5.out.mono ?_
   rintro e5 w5 ⟨rfl,hb5⟩
   have HB5:=qh (HB4.out.trans (hb5.mono HB4.out.size))
   clear hb5
   go_wp2_with fail
   go_ret
   exact⟨rfl,HB5.out⟩
theorem contract (H:Type) (enc:TypeId×Value→H) (W:World) (base:Nat) (args:Array Value) (ds gs:List (DataW H)) (before:List MemPlace)
  (hval0:∀(j:Nat) t v,Tryz.f3.params[j]?=some t→args[j]?=some v→Value.okWide Tryz.prog W .any base t v)
  (hW:DataW.Whole enc Tryz.prog Tryz.f3.params.toList Rows.deskFrontSpec.vars false W args.toList ds gs before) (hk:Rows.uptoSmall H (ds++gs)=true) (hL:Libs W):
  Calls Tryz.prog 3 args W fun e W'=>∃v,e=.returned v∧Rows.deskFrontSpec.post enc Tryz.prog Tryz.f3 false true false false W args v W':=by
 have hval:∀(j:Nat) t v,Tryz.f3.params[j]?=some t→args[j]?=some v→Value.okWide Tryz.prog W .any base t v:=hval0
 have hW':=hW
 obtain⟨p,q,hA0,hV,rfl,hfz,hnd⟩:=hW
 have hA:DataW.TrodAll enc Tryz.prog W 0 (fun _=>true) true Tryz.f3.params.toList args.toList ds p:=hA0
 rw[Tryz.params3]at hA hval
 obtain⟨v0,vs0,d0,ds0,p0,q0,hargs,rfl,rfl,h0,r0⟩:=trodAll_cons hA
 obtain⟨v1,vs1,d1,ds1,p1,q1,rfl,rfl,rfl,h1,r1⟩:=trodAll_cons r0
 obtain⟨rfl,rfl,rfl⟩:=trodAll_nil r1
 obtain rfl:args=#[v0,v1]:=by cases args;simp_all
 obtain⟨rfl,rfl⟩:=trodVars_none hV
 have k0:=h0
 have lt0:∀x∈p0,x.block<W.heap.size:=by obtain⟨m,hm⟩:=k0;exact DataW.trod_lt m _ _ _ hm
 have k1:=h1
 have lt1:∀x∈p1,x.block<W.heap.size:=by obtain⟨m,hm⟩:=k1;exact DataW.trod_lt m _ _ _ hm
 obtain⟨a0,rfl,rfl,rfl,w0⟩:=Go.ChangeMaps.open_string Tryz.underlying9 (hval 0 9 v0 rfl rfl) h0
 obtain⟨a1,rfl,rfl,rfl,w1⟩:=Go.ChangeMaps.open_string Tryz.underlying9 (hval 1 9 v1 rfl rfl) h1
 clear hA0 hval0
 have hb:Rows.uptoBulkAll ([.lit (.string a0.data.toList),.lit (.string a1.data.toList)]++[]:List (DataW H))≤1048576:=of_decide_eq_true hk
 simp only[List.append_nil,Rows.uptoBulkAll,Rows.uptoBulk]at hb
 have e0:a0.data.toList.length=a0.size:=by rw[Array.length_toList];rfl
 have e1:a1.data.toList.length=a1.size:=by rw[Array.length_toList];rfl
 refine(law a0 a1 W hL (by omega) (by omega)).mono fun e W' ⟨he,bel⟩=>?_
 subst he
 exact⟨_,rfl,_,_,_,[],_,[],hW',trodAll_mk1 (shut_bool Tryz.underlying4 _),(trodAll_cons_mk (Below.trod Open.laidOut (by kernel_rfl) (of_decide_eq_true (by kernel_rfl)) k0 bel lt0) (trodAll_cons_mk (Below.trod Open.laidOut (by kernel_rfl) (of_decide_eq_true (by kernel_rfl)) k1 bel lt1) trodAll_mk0)),rfl,bel.frame _,fun h=>by cases h⟩
theorem reads (os:Os) {H:Type} (enc:TypeId×Value→H):∃places,DataW.whole enc Tryz.prog ((laidWorld os).forCall (fun _ _=>0) ⟨#[],#[.string ByteArray.empty,.string ByteArray.empty],[]⟩).memory Tryz.f3.params.toList Rows.deskFrontSpec.vars false #[Value.string ByteArray.empty,Value.string ByteArray.empty].toList 8=some ([.lit (.string []),.lit (.string [])],[],places):=
 ⟨[],by kernel_rfl⟩
theorem lifted (os:Os) (started:os.Started) (H:Type) (enc:TypeId×Value→H) (F:Stop.Interp):
  ReturnsInHanded {} Tryz.checked os 3 .any ((Rows.OpenSpec.upto Rows.deskFrontSpec).preRow enc Tryz.prog Tryz.f3 Rows.deskFrontUptoRow.domain false Rows.deskFrontUptoRow.laid) (((Rows.OpenSpec.upto Rows.deskFrontSpec).at F).post enc Tryz.prog Tryz.f3 false true false false):=by
 obtain⟨places,hx⟩:=reads os enc
 refine returnsInHanded_of_row (C:=Tryz.checked) (s:=Rows.OpenSpec.upto Rows.deskFrontSpec) Open.own started (by kernel_rfl) Tryz.func3
  (witness_row_atRef (enc:=enc) (C:=Tryz.checked) false (laidWorld os) #[.string ByteArray.empty,.string ByteArray.empty] rfl (by kernel_rfl) (by kernel_rfl) (by kernel_rfl)
   (OpenSpec.preRow_of_cond 8 hx (by kernel_rfl) (fun k hk=>by cases hk;kernel_rfl) (by kernel_rfl) (laid_met os _))) ?_
 intro W base args ds gs before hval hW _ hcond _ hL hsh _
 exact contract H enc W base args ds gs before hval hW (hcond _ rfl) (libs_of hL hsh)
theorem said:Rows.DeskFrontUptoSaid:=
 OpenClaim.holds_of_cond 3 Tryz.f3 rfl rfl rfl rfl rfl rfl rfl ⟨rfl,rfl,rfl,rfl,rfl⟩ rfl rfl rfl rfl rfl (by kernel_rfl) Tryz.func3 (by kernel_rfl)
  (of_decide_eq_true (by kernel_rfl)) (by unfold Func.isWrapper;first|(rw[if_pos (by decide+kernel)];kernel_rfl)|(rw[if_neg (by decide+kernel)];exact⟨rfl,rfl⟩))
  (fun os started H enc _ F=>by rw[OpenClaim.pre_eq_preRow];exact lifted os started H enc F)
theorem plain (f : FuncId) (fn : Func) (hf : Tryz.pinned.checked.prog.funcNamed "steadyhand/steadkeep.DeskFront" = some f) (hfn : Tryz.pinned.checked.prog.funcs[f]? = some fn) :
  true=Tryz.pinned.checked.prog.looks []∧∀(j:Nat) t,fn.params[j]?=some t→Tryz.pinned.checked.prog.wantsStandIn t=false:=by
 obtain rfl : f = 3 := Option.some.inj ((show Tryz.prog.funcNamed "steadyhand/steadkeep.DeskFront" = some 3 by kernel_rfl).symm.trans hf) |>.symm
 obtain rfl:fn=Tryz.f3:=(Option.some.inj (Tryz.func3.symm.trans hfn)).symm
 refine⟨by kernel_rfl,fun j t ht=>?_⟩
 rw[Tryz.params3]at ht
 obtain rfl:t=9:=by simpa using Array.mem_of_getElem? ht
 exact(show Tryz.prog.wantsStandIn 9=false by kernel_rfl)
theorem proved:Rows.DeskFrontUptoCardSaid:=
 Claim7.holds_tied_plain_at .later [] _ _ _ _ said (fun _ h=>by cases h) (by kernel_rfl) (fun _ h=>by cases h) deskFrontUpto_row_tie rfl ⟨rfl,rfl⟩ (by kernel_rfl) rfl plain (by kernel_rfl)
end Go.Proofs.YtpkiepjmcepnoaaGreatDoor.deskFront
