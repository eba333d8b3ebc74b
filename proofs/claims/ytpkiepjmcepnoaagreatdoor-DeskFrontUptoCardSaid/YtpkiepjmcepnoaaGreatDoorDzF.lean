/- A part of a proof. -/
import Derived.Test.YtpkiepjmcepnoaaGreatDoorDzE
import Derived.Test.YtpkiepjmcepnoaaGreatDoorDzA
set_option maxHeartbeats 16000000
set_option maxRecDepth 100000
set_option linter.unusedVariables false
namespace Go.Proofs.YtpkiepjmcepnoaaGreatDoor
open Go.ChangeShapes Go.WideShapes Go.ChangeAt Go.RowKit
abbrev framesZ:ByteArray:=⟨#[102,114,97,109,101,115]⟩
abbrev wantZ:ByteArray:=⟨#[119,97,110,116]⟩
abbrev showZ:ByteArray:=⟨#[115,104,111,119]⟩
abbrev logZ:ByteArray:=⟨#[108,111,103]⟩
abbrev midZ:ByteArray:=⟨#[109,105,100]⟩
def logS (D:Dyn):List UInt8:=Lib.replaceAll (textL D.log) [10] [59]++[46]
noncomputable def restO (c:ByteArray) (ls:List ByteArray) (s:Dsk):Ans×Dsk:=
 if c=framesZ∧ls.length=1 then(match numN (wd ls 0)with|some n=>framesO n s|none=>(.err 10,s))else
 if c=wantZ∧ls.length=1 then(match fixN (wd ls 0)with|some n=>(.ok okS,wntD n s)|none=>(.err 10,s))else
 if c=showZ∧ls.length=0 then(.ok (showS s.D),s)else
 if c=logZ∧ls.length=0 then(.ok (logS s.D),s)else
 if c=midZ then(midO ls,s)else(.err 10,s)
noncomputable def ordO (s:Dsk):List ByteArray→Ans×Dsk
 |[]=>(.err 10,s)
 |c::ls=>match setO c ls s with|.yes t=>(.ok okS,t)|.err e=>(.err e,s)|.no=>restO c ls s
noncomputable def lineO (l:ByteArray) (s:Dsk):Ans×Dsk:=ordO s (wordsL l)
def LnRel (A:Nat→Prop) (w0 w w1:World) (bd b:Nat) (s:Dsk) (ps:List ByteArray) (v i:Value) (wr:World):Prop:=∃k:Nat,k≤ps.length∧i=.int .i64 k∧wr.ownsRow w1.heap.size 9 1 v ((ps.take k).filter fullB).length (((ps.take k).filter fullB).map .string)∧Desk A w0 wr bd b s∧Below w1.heap.size w1 wr
theorem line_is {A:Nat→Prop} {w0 w:World} {bd b:Nat} {s:Dsk} (h:Desk A w0 w bd b s) (l:ByteArray) (hl:l.size≤4096):
  Calls Tryz.prog 21 #[ptr bd,.string l] w (DkPost A w0 w bd b (lineO l s)):=by
 obtain⟨r,hr⟩:∃r,lineO l s=r:=⟨_,rfl⟩
 rw[hr]
 have HR:=qh hr
 clear hr
 obtain⟨mx,hmx⟩:=h.libs.2
 have hsp:=Tryz.strings_Split l ⟨#[32]⟩ mx w (by omega) hmx (Nat.le_refl 1)
 have hpl:=pcs_len 32 l
 have hple:=pcs_le 32 l
 have hps:=pcs_size 32 l
 obtain⟨ps,hpsd⟩:∃ps,pcs 32 l=ps:=⟨_,rfl⟩
 have hwl:wordsL l=ps.filter fullB:=by unfold wordsL;rw[hpsd]
 rw[show Lib.splitB ⟨#[32]⟩ 0 (Lib.countB l ⟨#[32]⟩) l=ps from hpsd]at hsp
 rw[hpsd]at hpl hple hps
 rw[←hpl]at hsp
 have HSP:=qh hsp
 have HWL:=qh hwl
 have HPS:=qh hps
 have hbd:=h.C.lt
 have H:=qh h
 obtain⟨i0,hi,hz0,hz1,hz2⟩:=info_parts infoStr
 have HI:=qh hi;have HZ0:=qh hz0;have HZ1:=qh hz1;have HZ2:=qh hz2
 clear hi hz0 hz1 hz2 hsp hwl hps h hpsd hmx hpl
 go_enter Tryz.func21,Tryz.ntmps21
 go_wp2_with fail
 refine HSP.out.mono ?_
 rintro e w1 ⟨rfl,hw1⟩
 have hb1:Below w.heap.size w w1:=hw1▸(bLr).alloc (Nat.le_refl _) _
 have hz1:w1.heap.size=w.heap.size+1:=by rw[hw1];simp
 have HP:Hid (w1.heap[w.heap.size]?=some (.cells (ps.map Value.string).toArray 9 (0,0))):=qh (by rw[hw1];exact heap_alloc_new w _)
 have HB1:=qh hb1
 have HD1:=qh (H.out.call hb1)
 clear hw1 hb1 HSP
 go_upto_region 3 with(fail)
 go_loopw [5,15] (fun v i wr=>LnRel A w0 w w1 bd b s ps v i wr) (fun _ i _=>ps.length-(intOf i).toNat)
 case atStart=>exact⟨0,Nat.zero_le _,rfl,World.ownsRow_nil _ _ _ _,HD1.out,bLr⟩
 case round=>
  obtain⟨k,hk,rfl,hov,hD,hB⟩:=hrel
  have HOV:=qh hov;have HD:=qh hD;have HB:=qh hB
  clear hov hD hB
  by_cases hlt:k<ps.length
  ·have d1:(k:Int)<(ps.length:Int):=by omega
   obtain⟨x,hx⟩:∃x,ps[k]?=some x:=⟨_,List.getElem?_eq_getElem hlt⟩
   have c1:=map_take_cell HP.out hx
   have c0:wr.cell? ⟨w.heap.size,k,none⟩=some (.string x):=(HB.out.cell (p:=⟨w.heap.size,k,none⟩) (World.block_lt_of_cell? _ _ c1)).trans c1
   have hwk:IntKind.i64.wrap ((k:Int)+1)=(k:Int)+1:=IntWalk.i64_in _ (by omega)
   have htk:(ps.take (k+1)).filter fullB=(ps.take k).filter fullB++(if fullB x=true then[x]else[]):=by
    rw[List.take_add_one,hx,List.filter_append]
    cases hf:fullB x<;>simp[hf]
   have HTK:=qh htk
   clear htk hx c1
   by_cases hf:fullB x=true
   ·have hem:x.toList.isEmpty=false:=by simpa[fullB]using hf
    have hnl:((ps.take k).filter fullB).length≤k:=Nat.le_trans (List.length_filter_le _ _) (by rw[List.length_take];omega)
    have HF:=qh hf
    clear hf
    have b2:Below wr.heap.size wr (wr.alloc (.cells #[.string x] 9)):=(bLr).alloc (Nat.le_refl _) _
    have OV:Hid ((wr.alloc (.cells #[.string x] 9)).ownsRow w1.heap.size 9 1 u5 ((ps.take k).filter fullB).length (((ps.take k).filter fullB).map .string)):=qh (HOV.out.kept (grown_of_below b2 none) (by by_cases e:u5.ownBlock=none;exact .inl e;exact .inr e))
    have CX:Hid (∀(j:Nat) u,[Value.string x][j]?=some u→(wr.alloc (.cells #[.string x] 9)).cell? ((⟨wr.heap.size,0,none⟩:Addr).add j)=some u):=qh (cells_add (CellsAt.new' rfl rfl))
    have HB2:=qh (HB.out.trans (b2.mono HB.out.size))
    have HD2:=qh (HD.out.call b2)
    clear b2
    go_upto_region 7 with(at_builtin;refine wpList_append_own _ rfl _ _ 22 rfl w1.heap.size 9 i0 (.string ⟨#[]⟩) 1 16 Tryz.underlying22 HI.out HZ0.out HZ1.out HZ2.out rfl (by decide) _ _ _ rfl OV.out ⟨wr.heap.size,0,none⟩ 1 1 [.string x] rfl rfl CX.out (by intro u hu;simp at hu;subst hu;rfl) (by unfold maxLen;omega) (by omega) HB2.out.size ?_;intro v2 wx hov hgx hnx)
    have HOV2:=qh hov
    have HB3:Hid (Below w1.heap.size w1 wx):=qh (HB2.out.grown hgx HB2.out.size (fun j e=>(OV.out.lt j e).1))
    clear hov hgx hnx OV CX HB2 HD2 HOV HD HB
    go_wp2_with fail
    go_roundw
    case rel=>exact⟨k+1,by omega,by go_num,by rw[HTK.out,if_pos HF.out,List.length_append,List.map_append];exact HOV2.out,HD1.out.call HB3.out,HB3.out⟩
    case measure=>simp[intOf];omega
   ·have hem:x.toList.isEmpty=true:=by simpa[fullB]using hf
    have HF:=qh hf
    clear hf
    go_wp2_with fail
    go_roundw
    case rel=>exact⟨k+1,by omega,by go_num,by rw[HTK.out,if_neg HF.out,List.append_nil];exact HOV.out,HD.out,HB.out⟩
    case measure=>simp[intOf];omega
  ·obtain rfl:k=ps.length:=by omega
   have hov:=HOV.out
   rw[List.take_length,←HWL.out]at hov
   have hws:=fun x hx=>wordsL_size l x hx
   have hlen:(wordsL l).length≤5000:=by
    have h1:(wordsL l).length≤(pcs 32 l).length:=List.length_filter_le _ _
    have h2:=pcs_le 32 l
    omega
   obtain⟨ws,hw⟩:∃y,wordsL l=y:=⟨_,rfl⟩
   rw[hw]at hlen
   have HLEN:=qh hlen
   clear hlen
   rw[hw]at hov hws
   have hlo:r=ordO s ws:=by rw[←HR.out];unfold lineO;rw[hw]
   have HLO:=qh hlo
   have hG0:Grw bd b w wr:=(Grw.refl bd b w).call (HB1.out.trans (HB.out.mono HB1.out.size))
   have HWS:=qh hws
   have HG:=qh hG0
   clear hw hlo hws hG0 HWL HPS HP HOV
   cases ws with
   |nil=>
    obtain⟨a,cp,rfl⟩:=own_sl hov
    clear hov
    go_wp2_with fail
    refine(must_no 10 (by decide) _).mono ?_
    rintro e w2 ⟨rfl,rfl⟩
    exact⟨rfl,by rw[HLO.out];rfl,by rw[HLO.out];exact HD.out,HG.out⟩
   |cons c rest=>
    rcases hov.2 with⟨-,hn⟩|⟨g,cap,cur,rfl,hgb,hblk,hcl,hcm,-,-⟩
    ·simp at hn
    have hc0:wr.cell? ⟨g,0,none⟩=some (.string c):=by
     have:=hov.cellAt 0 (by simp)
     simpa using this
    have d1:(((rest.length+1:Nat):Int)==0)=false:=by rw[beq_eq_false_iff_ne];omega
    have d2:¬((rest.length+1:Nat):Int)=0:=by omega
    have hg1:w1.heap.size≤g:=hgb
    obtain⟨n,hn⟩:∃n,(c::rest).length=n:=⟨_,rfl⟩
    have hnr:n=rest.length+1:=by rw[←hn];rfl
    rw[hn]at hcl hov⊢
    have hn1:1≤n:=by omega
    have e1:((n:Int)==0)=false:=by rw[beq_eq_false_iff_ne];omega
    have e2:¬(n:Int)=0:=by omega
    have e3:(0:Int)<n:=by omega
    clear d1 d2
    have hgd:g≠bd:=by
     have:=HD1.out.C.lt
     omega
    have hRA:RecsAt 1 strLay wr (.slice (some ⟨g,0,none⟩) n cap) (c::rest):=by
     have:=own_strs (xs:=c::rest) (by rw[hn];exact hov)
     exact this
    have hgb2:g≠b:=by
     obtain⟨vp,vl,vg,hW⟩:=HD1.out.W
     have:=hW.lt
     omega
    obtain⟨a2,c2,hsl,hR2,hofA⟩:=tail_is hRA hnr hcl
    have hoff:=hofA bd hgd
    have HOFB:=qh (hofA b hgb2)
    clear hofA
    have HR2:=qh hR2;have HOFF:=qh hoff
    have hcd:wr.drew.cell? ⟨g,0,none⟩=some (.string c):=hc0
    have e5:¬n=0:=by omega
    clear hn hnr hov hRA hR2 hoff
    go_upto_region 10 with(fail)
    refine wp_region_any (by kernel_rfl) ?_
    change wpAny _ _ _ _ _ _ _ (World.drew _)
    refine wpAny_take (i:=0) (v:=.slice (some ⟨g,0,none⟩) n cap) rfl (by kernel_rfl) (by kernel_rfl) (by kernel_rfl) (fun _ _ _ h=>h) (Or.inl ⟨by rfl,by intro W;go_simp⟩) ?_
    refine wpAny_take (i:=1) (v:=.pointer (some ⟨g,0,none⟩)) rfl (by kernel_rfl) (by kernel_rfl) (by kernel_rfl) (fun _ _ _ h=>h) (Or.inl ⟨by rfl,by intro W;go_simp⟩) ?_
    refine wpAny_take (i:=3) (v:=.slice (some ⟨g,0,none⟩) n cap) rfl (by kernel_rfl) (by kernel_rfl) (by kernel_rfl) (fun _ _ _ h=>h) (Or.inl ⟨by rfl,by intro W;go_simp⟩) ?_
    refine wpAny_take (i:=4) (v:=.slice a2 rest.length c2) rfl (by kernel_rfl) (by kernel_rfl) (by kernel_rfl) (fun _ _ _ h=>h) (Or.inl ⟨by rfl,by intro W;go_simp⟩) ?_
    refine wpAny_ready (rs:=[2]) (by kernel_rfl) (by simp) (AllReady.cons rfl (fun K hK=>?_) AllReady.nil)
    go_simp
    refine hK _ _ ?_
    clear hK K
    refine wpAny_ready (rs:=[5]) (by kernel_rfl) (by simp) (AllReady.cons rfl (fun K hK=>?_) AllReady.nil)
    go_simp
    refine hK _ _ ?_
    clear hK K
    refine wpAny_ready (rs:=[6]) (by kernel_rfl) (by simp) (AllReady.cons rfl (fun K hK=>?_) AllReady.nil)
    go_simp
    refine hK _ _ ?_
    clear hK K
    refine⟨by kernel_rfl,?_⟩
    have hb9:Below wr.heap.size wr wr.drew:=(bLr).drew
    have HD9:=qh (HD.out.call hb9)
    have HR9:=qh (HR2.out.later strLay_len hb9 (Nat.le_refl _))
    have HG9:=qh (HG.out.call hb9)
    have hrs:∀x∈rest,x.size≤5000:=fun x hx=>Nat.le_trans (HWS.out x (List.mem_cons_of_mem _ hx)) (by omega)
    have HST:=qh (set_is HD9.out c _ rest HR9.out hrs HOFF.out)
    obtain⟨w3,hw3⟩:∃x,wr.drew=x:=⟨_,rfl⟩
    rw[hw3]at HD9 HR9 HG9 HST⊢
    clear hw3 hb9 hcd hsl hc0 HD HG HR2 hrs e1 e2 e3 e5
    go_wp2_with fail
    refine HST.out.mono ?_
    rintro e w4 ⟨he,hD4,hG4⟩
    cases hset:setO c rest s with
    |yes t=>
     have hE:r=(.ok okS,t):=by rw[HLO.out];unfold ordO;dsimp only;rw[hset]
     rw[hset]at hD4 he
     change Desk A w0 w4 bd b t at hD4
     change e=.returned (.bool true)at he
     subst he
     have HD4:=qh hD4;have HG4:=qh (HG9.out.trans hG4)
     have HE:=qh hE
     clear hE hset hD4 hG4
     go_wp2_with fail
     go_ret
     exact⟨by rw[HE.out];rfl,by rw[HE.out];exact HD4.out,HG4.out⟩
    |err q=>
     have hE:r=(.err q,s):=by rw[HLO.out];unfold ordO;dsimp only;rw[hset]
     rw[hset]at hD4 he
     change Desk A w0 w4 bd b s at hD4
     change e=.panicked (wrongP q)at he
     subst he
     exact⟨rfl,by rw[hE];rfl,by rw[hE];exact hD4,HG9.out.trans hG4⟩
    |no=>
     have hE:r=restO c rest s:=by rw[HLO.out];unfold ordO;dsimp only;rw[hset]
     rw[hset]at hD4 he
     change Desk A w0 w4 bd b s at hD4
     change e=.returned (.bool false)at he
     subst he
     have HD4:=qh hD4;have HG4:=qh (HG9.out.trans hG4)
     have HE:=qh hE
     have HR4:=qh (recs_grw HR9.out hG4 HOFF.out HOFB.out)
     clear hE hset hD4 hG4 HLO HST HR9 HD9 HG9
     by_cases hc:c=framesZ
     ·by_cases hl:rest.length=1
      ·obtain⟨x,rfl⟩:∃x,rest=[x]:=List.length_eq_one_iff.1 hl
       obtain⟨b0,off,cp,hve,hcp,x0⟩:=word0 HR4.out
       cases hve
       have hcp:(1:Nat)≤c2:=hcp
       have hwd:wd [x] 0=lst x:=rfl
       cases hf:numN (lst x)with
       |none=>
        have HE2:r=(.err 10,s):=by rw[HE.out];unfold restO;rw[if_pos ⟨hc,hl⟩,hwd,hf]
        have HF:Hid (numE (lst x)=.panicked (wrongP 10)):=qh (by unfold numE;rw[hf])
        have f0:c.toList=[102,114,97,109,101,115]:=tl_eq c ⟨#[102,114,97,109,101,115]⟩ _ (ByteArray.toList_eq _) hc
        have f1:=tl_ne c ⟨#[119,97,110,116]⟩ [119,97,110,116] (ByteArray.toList_eq _) (by rw[hc];decide)
        have k1:¬c.toList=[119,97,110,116]:=by simpa using f1
        have f2:=tl_ne c ⟨#[115,104,111,119]⟩ [115,104,111,119] (ByteArray.toList_eq _) (by rw[hc];decide)
        have k2:¬c.toList=[115,104,111,119]:=by simpa using f2
        have f3:=tl_ne c ⟨#[108,111,103]⟩ [108,111,103] (ByteArray.toList_eq _) (by rw[hc];decide)
        have k3:¬c.toList=[108,111,103]:=by simpa using f3
        have f4:=tl_ne c ⟨#[109,105,100]⟩ [109,105,100] (ByteArray.toList_eq _) (by rw[hc];decide)
        have k4:¬c.toList=[109,105,100]:=by simpa using f4
        clear hc hl HE hf hwd
        have HE3:=qh HE2
        clear HE2
        go_wp2_with fail
        refine(number_is x _).mono ?_
        rintro e5 w5 ⟨rfl,hb5⟩
        rw[HF.out]
        exact⟨rfl,by rw[HE3.out];rfl,by rw[HE3.out];exact HD4.out.call hb5,HG4.out.call hb5⟩
       |some z=>
        have HE2:r=framesO z s:=by rw[HE.out];unfold restO;rw[if_pos ⟨hc,hl⟩,hwd,hf]
        have HF:Hid (numE (lst x)=.returned (.int .i64 z)):=qh (by unfold numE;rw[hf])
        have hzb:=numN_bd hf
        have f0:c.toList=[102,114,97,109,101,115]:=tl_eq c ⟨#[102,114,97,109,101,115]⟩ _ (ByteArray.toList_eq _) hc
        have f1:=tl_ne c ⟨#[119,97,110,116]⟩ [119,97,110,116] (ByteArray.toList_eq _) (by rw[hc];decide)
        have k1:¬c.toList=[119,97,110,116]:=by simpa using f1
        have f2:=tl_ne c ⟨#[115,104,111,119]⟩ [115,104,111,119] (ByteArray.toList_eq _) (by rw[hc];decide)
        have k2:¬c.toList=[115,104,111,119]:=by simpa using f2
        have f3:=tl_ne c ⟨#[108,111,103]⟩ [108,111,103] (ByteArray.toList_eq _) (by rw[hc];decide)
        have k3:¬c.toList=[108,111,103]:=by simpa using f3
        have f4:=tl_ne c ⟨#[109,105,100]⟩ [109,105,100] (ByteArray.toList_eq _) (by rw[hc];decide)
        have k4:¬c.toList=[109,105,100]:=by simpa using f4
        clear hc hl HE hf hwd
        have HE3:=qh HE2
        clear HE2
        go_wp2_with fail
        refine(number_is x _).mono ?_
        rintro e5 w5 ⟨rfl,hb5⟩
        rw[HF.out]
        have HD5:=qh (HD4.out.call hb5);have HG5:=qh (HG4.out.call hb5)
        clear hb5
        go_wp2_with fail
        refine(frames_is HD5.out z (by omega)).mono ?_
        rw[←HE3.out]
        rintro e6 w6 ⟨he6,hD6,hG6⟩
        cases hrr:r.1 with
        |ok t=>
         rw[hrr]at he6
         change e6=.returned (.string ⟨t.toArray⟩)at he6
         subst he6
         have HD6:=qh hD6;have HG6:=qh (HG5.out.trans hG6);have HRR:=qh hrr
         clear hD6 hG6 hrr
         go_wp2_with fail
         go_ret
         exact⟨by rw[HRR.out];rfl,HD6.out,HG6.out⟩
        |err q=>
         rw[hrr]at he6
         change e6=.panicked (wrongP q)at he6
         subst he6
         exact⟨rfl,by rw[hrr];rfl,hD6,HG5.out.trans hG6⟩
      ·have HE2:r=(.err 10,s):=by rw[HE.out];unfold restO;rw[if_neg (by rintro⟨-,h⟩;exact hl h),if_neg (by rintro⟨h,-⟩;rw[hc]at h;revert h;decide),if_neg (by rintro⟨h,-⟩;rw[hc]at h;revert h;decide),if_neg (by rintro⟨h,-⟩;rw[hc]at h;revert h;decide),if_neg (by intro h;rw[hc]at h;revert h;decide)]
       have d1:((rest.length:Int)==1)=false:=by rw[beq_eq_false_iff_ne];omega
       have d2:¬(rest.length:Int)=1:=by omega
       have f0:c.toList=[102,114,97,109,101,115]:=tl_eq c ⟨#[102,114,97,109,101,115]⟩ _ (ByteArray.toList_eq _) hc
       have f1:=tl_ne c ⟨#[119,97,110,116]⟩ [119,97,110,116] (ByteArray.toList_eq _) (by rw[hc];decide)
       have k1:¬c.toList=[119,97,110,116]:=by simpa using f1
       have f2:=tl_ne c ⟨#[115,104,111,119]⟩ [115,104,111,119] (ByteArray.toList_eq _) (by rw[hc];decide)
       have k2:¬c.toList=[115,104,111,119]:=by simpa using f2
       have f3:=tl_ne c ⟨#[108,111,103]⟩ [108,111,103] (ByteArray.toList_eq _) (by rw[hc];decide)
       have k3:¬c.toList=[108,111,103]:=by simpa using f3
       have f4:=tl_ne c ⟨#[109,105,100]⟩ [109,105,100] (ByteArray.toList_eq _) (by rw[hc];decide)
       have k4:¬c.toList=[109,105,100]:=by simpa using f4
       clear hc hl HE
       have HE3:=qh HE2
       clear HE2
       go_wp2_with fail
       exact⟨rfl,by rw[HE3.out];rfl,by rw[HE3.out];exact HD4.out,HG4.out⟩
     have m0:=hc
     clear hc
     by_cases hc:c=wantZ
     ·by_cases hl:rest.length=1
      ·obtain⟨x,rfl⟩:∃x,rest=[x]:=List.length_eq_one_iff.1 hl
       obtain⟨b0,off,cp,hve,hcp,x0⟩:=word0 HR4.out
       cases hve
       have hcp:(1:Nat)≤c2:=hcp
       have hwd:wd [x] 0=lst x:=rfl
       cases hf:fixN (lst x)with
       |none=>
        have HE2:r=(.err 10,s):=by rw[HE.out];unfold restO;rw[if_neg (by rintro⟨h,-⟩;rw[hc]at h;revert h;decide),if_pos ⟨hc,hl⟩,hwd,hf]
        have HF:Hid (fixE (lst x)=.panicked (wrongP 10)):=qh (by unfold fixE;rw[hf])
        have f0:=tl_ne c ⟨#[102,114,97,109,101,115]⟩ [102,114,97,109,101,115] (ByteArray.toList_eq _) (by rw[hc];decide)
        have k0:¬c.toList=[102,114,97,109,101,115]:=by simpa using f0
        have f1:c.toList=[119,97,110,116]:=tl_eq c ⟨#[119,97,110,116]⟩ _ (ByteArray.toList_eq _) hc
        have f2:=tl_ne c ⟨#[115,104,111,119]⟩ [115,104,111,119] (ByteArray.toList_eq _) (by rw[hc];decide)
        have k2:¬c.toList=[115,104,111,119]:=by simpa using f2
        have f3:=tl_ne c ⟨#[108,111,103]⟩ [108,111,103] (ByteArray.toList_eq _) (by rw[hc];decide)
        have k3:¬c.toList=[108,111,103]:=by simpa using f3
        have f4:=tl_ne c ⟨#[109,105,100]⟩ [109,105,100] (ByteArray.toList_eq _) (by rw[hc];decide)
        have k4:¬c.toList=[109,105,100]:=by simpa using f4
        clear hc hl HE hf hwd
        have HE3:=qh HE2
        clear HE2
        go_wp2_with fail
        refine(fixed_is x _).mono ?_
        rintro e5 w5 ⟨rfl,hb5⟩
        rw[HF.out]
        exact⟨rfl,by rw[HE3.out];rfl,by rw[HE3.out];exact HD4.out.call hb5,HG4.out.call hb5⟩
       |some z=>
        have HE2:r=(.ok okS,wntD z s):=by rw[HE.out];unfold restO;rw[if_neg (by rintro⟨h,-⟩;rw[hc]at h;revert h;decide),if_pos ⟨hc,hl⟩,hwd,hf]
        have HF:Hid (fixE (lst x)=.returned (.int .i32 z)):=qh (by unfold fixE;rw[hf])
        have hzb:=fixN_bd hf
        have f0:=tl_ne c ⟨#[102,114,97,109,101,115]⟩ [102,114,97,109,101,115] (ByteArray.toList_eq _) (by rw[hc];decide)
        have k0:¬c.toList=[102,114,97,109,101,115]:=by simpa using f0
        have f1:c.toList=[119,97,110,116]:=tl_eq c ⟨#[119,97,110,116]⟩ _ (ByteArray.toList_eq _) hc
        have f2:=tl_ne c ⟨#[115,104,111,119]⟩ [115,104,111,119] (ByteArray.toList_eq _) (by rw[hc];decide)
        have k2:¬c.toList=[115,104,111,119]:=by simpa using f2
        have f3:=tl_ne c ⟨#[108,111,103]⟩ [108,111,103] (ByteArray.toList_eq _) (by rw[hc];decide)
        have k3:¬c.toList=[108,111,103]:=by simpa using f3
        have f4:=tl_ne c ⟨#[109,105,100]⟩ [109,105,100] (ByteArray.toList_eq _) (by rw[hc];decide)
        have k4:¬c.toList=[109,105,100]:=by simpa using f4
        clear hc hl HE hf hwd
        have HE3:=qh HE2
        clear HE2
        go_wp2_with fail
        refine(fixed_is x _).mono ?_
        rintro e5 w5 ⟨rfl,hb5⟩
        rw[HF.out]
        have HD5:=qh (HD4.out.call hb5);have HG5:=qh (HG4.out.call hb5)
        clear hb5
        go_wp2_with fail
        refine(want_is HD5.out z hzb).mono ?_
        rw[←HE3.out]
        rintro e6 w6 ⟨he6,hD6,hG6⟩
        rw[HE3.out]at he6
        change e6=.returned (.string ⟨okS.toArray⟩)at he6
        subst he6
        have HD6:=qh hD6;have HG6:=qh (HG5.out.trans hG6)
        clear hD6 hG6
        go_wp2_with fail
        go_ret
        exact⟨by rw[HE3.out];rfl,HD6.out,HG6.out⟩
      ·have HE2:r=(.err 10,s):=by rw[HE.out];unfold restO;rw[if_neg (by rintro⟨h,-⟩;rw[hc]at h;revert h;decide),if_neg (by rintro⟨-,h⟩;exact hl h),if_neg (by rintro⟨h,-⟩;rw[hc]at h;revert h;decide),if_neg (by rintro⟨h,-⟩;rw[hc]at h;revert h;decide),if_neg (by intro h;rw[hc]at h;revert h;decide)]
       have d1:((rest.length:Int)==1)=false:=by rw[beq_eq_false_iff_ne];omega
       have d2:¬(rest.length:Int)=1:=by omega
       have f0:=tl_ne c ⟨#[102,114,97,109,101,115]⟩ [102,114,97,109,101,115] (ByteArray.toList_eq _) (by rw[hc];decide)
       have k0:¬c.toList=[102,114,97,109,101,115]:=by simpa using f0
       have f1:c.toList=[119,97,110,116]:=tl_eq c ⟨#[119,97,110,116]⟩ _ (ByteArray.toList_eq _) hc
       have f2:=tl_ne c ⟨#[115,104,111,119]⟩ [115,104,111,119] (ByteArray.toList_eq _) (by rw[hc];decide)
       have k2:¬c.toList=[115,104,111,119]:=by simpa using f2
       have f3:=tl_ne c ⟨#[108,111,103]⟩ [108,111,103] (ByteArray.toList_eq _) (by rw[hc];decide)
       have k3:¬c.toList=[108,111,103]:=by simpa using f3
       have f4:=tl_ne c ⟨#[109,105,100]⟩ [109,105,100] (ByteArray.toList_eq _) (by rw[hc];decide)
       have k4:¬c.toList=[109,105,100]:=by simpa using f4
       clear hc hl HE
       have HE3:=qh HE2
       clear HE2
       go_wp2_with fail
       exact⟨rfl,by rw[HE3.out];rfl,by rw[HE3.out];exact HD4.out,HG4.out⟩
     have m1:=hc
     clear hc
     by_cases hc:c=showZ
     ·by_cases hl:rest.length=0
      ·have HE2:r=(.ok (showS s.D),s):=by rw[HE.out];unfold restO;rw[if_neg (by rintro⟨h,-⟩;rw[hc]at h;revert h;decide),if_neg (by rintro⟨h,-⟩;rw[hc]at h;revert h;decide),if_pos ⟨hc,hl⟩]
       obtain rfl:rest=[]:=List.eq_nil_of_length_eq_zero hl
       have f0:=tl_ne c ⟨#[102,114,97,109,101,115]⟩ [102,114,97,109,101,115] (ByteArray.toList_eq _) (by rw[hc];decide)
       have k0:¬c.toList=[102,114,97,109,101,115]:=by simpa using f0
       have f1:=tl_ne c ⟨#[119,97,110,116]⟩ [119,97,110,116] (ByteArray.toList_eq _) (by rw[hc];decide)
       have k1:¬c.toList=[119,97,110,116]:=by simpa using f1
       have f2:c.toList=[115,104,111,119]:=tl_eq c ⟨#[115,104,111,119]⟩ _ (ByteArray.toList_eq _) hc
       have f3:=tl_ne c ⟨#[108,111,103]⟩ [108,111,103] (ByteArray.toList_eq _) (by rw[hc];decide)
       have k3:¬c.toList=[108,111,103]:=by simpa using f3
       have f4:=tl_ne c ⟨#[109,105,100]⟩ [109,105,100] (ByteArray.toList_eq _) (by rw[hc];decide)
       have k4:¬c.toList=[109,105,100]:=by simpa using f4
       clear hc hl HE
       have HE3:=qh HE2
       clear HE2
       go_wp2_with fail
       refine HD4.out.show.mono ?_
       rintro e5 w5 ⟨rfl,hb5⟩
       have HB5:=qh hb5
       clear hb5
       go_wp2_with fail
       go_ret
       exact⟨by rw[HE3.out];rfl,by rw[HE3.out];exact HD4.out.call HB5.out,HG4.out.call HB5.out⟩
      ·have HE2:r=(.err 10,s):=by rw[HE.out];unfold restO;rw[if_neg (by rintro⟨h,-⟩;rw[hc]at h;revert h;decide),if_neg (by rintro⟨h,-⟩;rw[hc]at h;revert h;decide),if_neg (by rintro⟨-,h⟩;exact hl h),if_neg (by rintro⟨h,-⟩;rw[hc]at h;revert h;decide),if_neg (by intro h;rw[hc]at h;revert h;decide)]
       have d1:((rest.length:Int)==0)=false:=by rw[beq_eq_false_iff_ne];omega
       have d2:¬(rest.length:Int)=0:=by omega
       have f0:=tl_ne c ⟨#[102,114,97,109,101,115]⟩ [102,114,97,109,101,115] (ByteArray.toList_eq _) (by rw[hc];decide)
       have k0:¬c.toList=[102,114,97,109,101,115]:=by simpa using f0
       have f1:=tl_ne c ⟨#[119,97,110,116]⟩ [119,97,110,116] (ByteArray.toList_eq _) (by rw[hc];decide)
       have k1:¬c.toList=[119,97,110,116]:=by simpa using f1
       have f2:c.toList=[115,104,111,119]:=tl_eq c ⟨#[115,104,111,119]⟩ _ (ByteArray.toList_eq _) hc
       have f3:=tl_ne c ⟨#[108,111,103]⟩ [108,111,103] (ByteArray.toList_eq _) (by rw[hc];decide)
       have k3:¬c.toList=[108,111,103]:=by simpa using f3
       have f4:=tl_ne c ⟨#[109,105,100]⟩ [109,105,100] (ByteArray.toList_eq _) (by rw[hc];decide)
       have k4:¬c.toList=[109,105,100]:=by simpa using f4
       clear hc hl HE
       have HE3:=qh HE2
       clear HE2
       go_wp2_with fail
       exact⟨rfl,by rw[HE3.out];rfl,by rw[HE3.out];exact HD4.out,HG4.out⟩
     have m2:=hc
     clear hc
     by_cases hc:c=logZ
     ·by_cases hl:rest.length=0
      ·have HE2:r=(.ok (logS s.D),s):=by rw[HE.out];unfold restO;rw[if_neg (by rintro⟨h,-⟩;rw[hc]at h;revert h;decide),if_neg (by rintro⟨h,-⟩;rw[hc]at h;revert h;decide),if_neg (by rintro⟨h,-⟩;rw[hc]at h;revert h;decide),if_pos ⟨hc,hl⟩]
       obtain rfl:rest=[]:=List.eq_nil_of_length_eq_zero hl
       have f0:=tl_ne c ⟨#[102,114,97,109,101,115]⟩ [102,114,97,109,101,115] (ByteArray.toList_eq _) (by rw[hc];decide)
       have k0:¬c.toList=[102,114,97,109,101,115]:=by simpa using f0
       have f1:=tl_ne c ⟨#[119,97,110,116]⟩ [119,97,110,116] (ByteArray.toList_eq _) (by rw[hc];decide)
       have k1:¬c.toList=[119,97,110,116]:=by simpa using f1
       have f2:=tl_ne c ⟨#[115,104,111,119]⟩ [115,104,111,119] (ByteArray.toList_eq _) (by rw[hc];decide)
       have k2:¬c.toList=[115,104,111,119]:=by simpa using f2
       have f3:c.toList=[108,111,103]:=tl_eq c ⟨#[108,111,103]⟩ _ (ByteArray.toList_eq _) hc
       have f4:=tl_ne c ⟨#[109,105,100]⟩ [109,105,100] (ByteArray.toList_eq _) (by rw[hc];decide)
       have k4:¬c.toList=[109,105,100]:=by simpa using f4
       clear hc hl HE
       have HE3:=qh HE2
       clear HE2
       obtain⟨vp,vl,vg,hW⟩:=HD4.out.W
       have HS4:=qh (status_is hW (HD4.out.ok.good.withAv _))
       have x0:=HD4.out.C.at_ 0 rfl
       clear hW
       go_wp2_with fail
       refine HS4.out.mono ?_
       rintro e5 w5 ⟨v,rfl,hown,hb5⟩
       obtain⟨a5,c5,rfl⟩:=own_sl hown
       have HD5:=qh (HD4.out.call hb5);have HG5:=qh (HG4.out.call hb5);have HOW:=qh hown
       clear hb5 hown x0 HS4
       have hfl:∀W:World,(Instr.field 119 (statV s.D (.slice a5 s.D.log.length c5)) 7).run Tryz.prog W=.ok (.slice a5 s.D.log.length c5) W:=fun _=>by kernel_rfl
       have HTX:=qh (text_ok s.D.log _ w5 (own_recs HOW.out entLay_len) HD4.out.ok.good.log)
       have hlf:=HD4.out.ok.good.log
       have htl:=textL_len hlf.2 s.D.log.length (Nat.le_refl _)
       rw[List.take_length]at htl
       have hll:=hlf.1
       obtain⟨T,hT⟩:∃T,textL s.D.log=T:=⟨_,rfl⟩
       rw[hT]at HTX htl
       have HT:=qh hT
       clear hT hlf
       go_wp2_with fail
       refine HTX.out.mono ?_
       rintro e6 w6 ⟨rfl,hb6⟩
       have HD6:=qh (HD5.out.call hb6);have HG6:=qh (HG5.out.call hb6)
       clear hb6 hfl HTX
       obtain⟨mx2,hmx2⟩:=HD6.out.libs.2
       have hts:(⟨T.toArray⟩:ByteArray).size=T.length:=rfl
       have hct:=Lib.countB_le ⟨#[10]⟩ (Nat.le_refl 1) (⟨T.toArray⟩:ByteArray).size ⟨T.toArray⟩ (Nat.le_refl _)
       have HRA:=qh (Tryz.strings_ReplaceAll ⟨T.toArray⟩ ⟨#[10]⟩ ⟨#[59]⟩ mx2 w6 (by omega) hmx2 (Nat.le_refl 1) (by show _+_*1≤_;omega))
       clear hmx2 hts hct
       go_wp2_with fail
       refine HRA.out.mono ?_
       rintro e7 w7 ⟨rfl,hb7⟩
       have HD7:=qh (HD6.out.call hb7);have HG7:=qh (HG6.out.call hb7)
       clear hb7 HRA
       obtain⟨T2,hT2⟩:∃x,Lib.replaceAll T [10] [59]=x:=⟨_,rfl⟩
       have hl2:(⟨T2.toArray⟩:ByteArray).size=T.length:=by rw[←hT2];exact replAll_len (c:=10) (d:=59) (by decide) T
       rw[hT2]
       have HS:Hid ((⟨T2.toArray⟩:ByteArray)++⟨#[46]⟩=⟨(logS s.D).toArray⟩):=qh (by
        have e:(⟨#[46]⟩:ByteArray)=⟨[(46:UInt8)].toArray⟩:=rfl
        rw[e,mk_app];unfold logS;rw[HT.out,hT2])
       obtain⟨s2,hs2⟩:∃x:ByteArray,(⟨T2.toArray⟩:ByteArray)=x:=⟨_,rfl⟩
       rw[hs2]at HS hl2⊢
       have va:¬(9223372036854775806<s2.size):=by omega
       have wa:¬(9223372036854775807<s2.size+1):=by omega
       clear hs2 hT2 hl2
       go_wp2_with fail
       go_ret
       exact⟨by rw[HE3.out,HS.out];rfl,by rw[HE3.out];exact HD7.out,HG7.out⟩
      ·have HE2:r=(.err 10,s):=by rw[HE.out];unfold restO;rw[if_neg (by rintro⟨h,-⟩;rw[hc]at h;revert h;decide),if_neg (by rintro⟨h,-⟩;rw[hc]at h;revert h;decide),if_neg (by rintro⟨h,-⟩;rw[hc]at h;revert h;decide),if_neg (by rintro⟨-,h⟩;exact hl h),if_neg (by intro h;rw[hc]at h;revert h;decide)]
       have d1:((rest.length:Int)==0)=false:=by rw[beq_eq_false_iff_ne];omega
       have d2:¬(rest.length:Int)=0:=by omega
       have f0:=tl_ne c ⟨#[102,114,97,109,101,115]⟩ [102,114,97,109,101,115] (ByteArray.toList_eq _) (by rw[hc];decide)
       have k0:¬c.toList=[102,114,97,109,101,115]:=by simpa using f0
       have f1:=tl_ne c ⟨#[119,97,110,116]⟩ [119,97,110,116] (ByteArray.toList_eq _) (by rw[hc];decide)
       have k1:¬c.toList=[119,97,110,116]:=by simpa using f1
       have f2:=tl_ne c ⟨#[115,104,111,119]⟩ [115,104,111,119] (ByteArray.toList_eq _) (by rw[hc];decide)
       have k2:¬c.toList=[115,104,111,119]:=by simpa using f2
       have f3:c.toList=[108,111,103]:=tl_eq c ⟨#[108,111,103]⟩ _ (ByteArray.toList_eq _) hc
       have f4:=tl_ne c ⟨#[109,105,100]⟩ [109,105,100] (ByteArray.toList_eq _) (by rw[hc];decide)
       have k4:¬c.toList=[109,105,100]:=by simpa using f4
       clear hc hl HE
       have HE3:=qh HE2
       clear HE2
       go_wp2_with fail
       exact⟨rfl,by rw[HE3.out];rfl,by rw[HE3.out];exact HD4.out,HG4.out⟩
     have m3:=hc
     clear hc
     by_cases hc:c=midZ
     ·have HE2:r=(midO rest,s):=by rw[HE.out];unfold restO;rw[if_neg (by rintro⟨h,-⟩;rw[hc]at h;revert h;decide),if_neg (by rintro⟨h,-⟩;rw[hc]at h;revert h;decide),if_neg (by rintro⟨h,-⟩;rw[hc]at h;revert h;decide),if_neg (by rintro⟨h,-⟩;rw[hc]at h;revert h;decide),if_pos hc]
      have hl5:rest.length≤5000:=by have:=HLEN.out;simp at this;omega
      have f0:=tl_ne c ⟨#[102,114,97,109,101,115]⟩ [102,114,97,109,101,115] (ByteArray.toList_eq _) (by rw[hc];decide)
      have k0:¬c.toList=[102,114,97,109,101,115]:=by simpa using f0
      have f1:=tl_ne c ⟨#[119,97,110,116]⟩ [119,97,110,116] (ByteArray.toList_eq _) (by rw[hc];decide)
      have k1:¬c.toList=[119,97,110,116]:=by simpa using f1
      have f2:=tl_ne c ⟨#[115,104,111,119]⟩ [115,104,111,119] (ByteArray.toList_eq _) (by rw[hc];decide)
      have k2:¬c.toList=[115,104,111,119]:=by simpa using f2
      have f3:=tl_ne c ⟨#[108,111,103]⟩ [108,111,103] (ByteArray.toList_eq _) (by rw[hc];decide)
      have k3:¬c.toList=[108,111,103]:=by simpa using f3
      have f4:c.toList=[109,105,100]:=tl_eq c ⟨#[109,105,100]⟩ _ (ByteArray.toList_eq _) hc
      clear hc HE
      have HE3:=qh HE2
      clear HE2
      have HM:=qh (mid_is rest _ w4 HR4.out hl5 HD4.out.libs)
      clear hl5
      go_wp2_with fail
      refine HM.out.mono ?_
      rintro e5 w5 ⟨he5,hb5⟩
      have HD5:=qh (HD4.out.call hb5);have HG5:=qh (HG4.out.call hb5)
      clear hb5
      cases hrr:midO rest with
      |ok t=>
       rw[hrr]at he5 HE3
       change e5=.returned (.string ⟨t.toArray⟩)at he5
       subst he5
       clear hrr
       go_wp2_with fail
       go_ret
       exact⟨by rw[HE3.out];rfl,by rw[HE3.out];exact HD5.out,HG5.out⟩
      |err q=>
       rw[hrr]at he5 HE3
       change e5=.panicked (wrongP q)at he5
       subst he5
       exact⟨rfl,by rw[HE3.out];rfl,by rw[HE3.out];exact HD5.out,HG5.out⟩
     have m4:=hc
     have HE2:r=(.err 10,s):=by rw[HE.out];unfold restO;rw[if_neg (by rintro⟨h,-⟩;exact m0 h),if_neg (by rintro⟨h,-⟩;exact m1 h),if_neg (by rintro⟨h,-⟩;exact m2 h),if_neg (by rintro⟨h,-⟩;exact m3 h),if_neg m4]
     have f0:=tl_ne c ⟨#[102,114,97,109,101,115]⟩ [102,114,97,109,101,115] (ByteArray.toList_eq _) m0
     have k0:¬c.toList=[102,114,97,109,101,115]:=by simpa using f0
     have f1:=tl_ne c ⟨#[119,97,110,116]⟩ [119,97,110,116] (ByteArray.toList_eq _) m1
     have k1:¬c.toList=[119,97,110,116]:=by simpa using f1
     have f2:=tl_ne c ⟨#[115,104,111,119]⟩ [115,104,111,119] (ByteArray.toList_eq _) m2
     have k2:¬c.toList=[115,104,111,119]:=by simpa using f2
     have f3:=tl_ne c ⟨#[108,111,103]⟩ [108,111,103] (ByteArray.toList_eq _) m3
     have k3:¬c.toList=[108,111,103]:=by simpa using f3
     have f4:=tl_ne c ⟨#[109,105,100]⟩ [109,105,100] (ByteArray.toList_eq _) m4
     have k4:¬c.toList=[109,105,100]:=by simpa using f4
     clear hc HE m0 m1 m2 m3 m4
     have HE3:=qh HE2
     clear HE2
     go_wp2_with fail
     exact⟨rfl,by rw[HE3.out];rfl,by rw[HE3.out];exact HD4.out,HG4.out⟩
end Go.Proofs.YtpkiepjmcepnoaaGreatDoor
