/- A part of a proof. -/
import Derived.Test.YtpkiepjmcepnoaaGreatDoorPtF
import Derived.Test.YtpkiepjmcepnoaaGreatDoorPtU
import Derived.Test.YtpkiepjmcepnoaaGreatDoorPtR
set_option maxHeartbeats 16000000
set_option maxRecDepth 100000
namespace Go.Proofs.YtpkiepjmcepnoaaGreatDoor
open Go.ChangeShapes Go.WideShapes Go.ChangeAt Go.RowKit
set_option linter.unusedVariables false
theorem ask_out (m:Int) (p g:Bool) (want:Int) (w:World) (h:ModeOk m p g) (hw:want<1∨3<want):
  Calls Tryz.prog 107 #[.agg #[.int .i64 m,.bool p,.bool g],.int .i64 want] w fun e' w'=>e'=.returned (.tuple #[.agg #[.int .i64 0,.bool false,.bool false],.int .i64 1])∧Below w.heap.size w w':=by
 have H:=qh h
 rcases hw with hw|hw
 ·have h1:want<1:=hw
  clear h hw
  go_enter Tryz.func107,Tryz.ntmps107
  go_wp2_with fail
  refine(modeCheck_yes _ _ _ _ H.out).mono ?_
  rintro e1 w1 ⟨rfl,rfl⟩
  go_wp2
  refine bodyPost_ret (v:=.tuple #[.agg #[_,_,_],_]) (by simp[results,Tryz.results107,go_sem]) rfl ⟨rfl,?_⟩
  repeat(first|(with_reducible first|exact bLr)|((with_reducible first|refine bLs ?_ ?_ _|refine bLa ?_ ?_ _);·first|omega|(simp<;>omega))|with_reducible first|refine bLn ?_ _|refine bLd ?_)
 ·have h1:¬want<1:=by omega
  have h2:3<want:=hw
  have h3:want>3:=hw
  clear h hw
  go_enter Tryz.func107,Tryz.ntmps107
  go_wp2_with fail
  refine(modeCheck_yes _ _ _ _ H.out).mono ?_
  rintro e1 w1 ⟨rfl,rfl⟩
  go_wp2
  refine bodyPost_ret (v:=.tuple #[.agg #[_,_,_],_]) (by simp[results,Tryz.results107,go_sem]) rfl ⟨rfl,?_⟩
  repeat(first|(with_reducible first|exact bLr)|((with_reducible first|refine bLs ?_ ?_ _|refine bLa ?_ ?_ _);·first|omega|(simp<;>omega))|with_reducible first|refine bLn ?_ _|refine bLd ?_)
theorem ask_all (m:Int) (p g:Bool) (want m' e:Int) (p' g':Bool) (w:World) (h:ModeOk m p g) (hr:askI m p g want=((m',p',g'),e)):
  Calls Tryz.prog 107 #[.agg #[.int .i64 m,.bool p,.bool g],.int .i64 want] w fun e' w'=>e'=.returned (.tuple #[.agg #[.int .i64 m',.bool p',.bool g'],.int .i64 e])∧Below w.heap.size w w':=by
 by_cases hw:want<1∨3<want
 ·have h2:askI m p g want=((0,false,false),1):=by unfold askI;rw[if_pos hw]
  rw[h2]at hr
  simp only[Prod.mk.injEq]at hr
  obtain⟨⟨rfl,rfl,rfl⟩,rfl⟩:=hr
  exact ask_out m p g want w h hw
 ·exact ask_any m p g want m' e p' g' w h (by omega) hr
def tickD (D:Dyn):Dyn:={D with lg:=ageI D.lh D.lg}
def CmdOk (D:Dyn) (s:ByteArray):Prop:=ReadOk s∧(D.lh=false∨(D.lh=true∧¬D.lg<100)∨(D.lh=true∧D.lg<100∧newB (byteI s 1) D.lq=true))
noncomputable def cmdD (D:Dyn) (s:ByteArray):Dyn:=by
 classical exact if s.toList.isEmpty=true then D else if CmdOk D s then {D with lk:=kindI s,ll:=laneI s,lq:=byteI s 1,ws:=wordsI s (byteI s 2),lh:=true,lg:=0}else {D with ld:=min 10000 (D.ld+1),log:=putL D.log D.frame 4 1}
def wantD (D:Dyn):Dyn:=if D.lh=true∧D.lg≤10∧0<D.ws.length then {D with want:=D.ws.getD 0 0}else D
def groundD (D:Dyn) (g:Bool):Dyn:={D with mm:=groundI D.mm g,mg:=g}
def askD (D:Dyn) (a:Int):Dyn:=if a=0 then D else if(askI D.mm D.mp D.mg a).2=0 then {D with mm:=(askI D.mm D.mp D.mg a).1.1,mp:=(askI D.mm D.mp D.mg a).1.2.1,mg:=(askI D.mm D.mp D.mg a).1.2.2}else {D with log:=putL D.log D.frame 4 2}
noncomputable def hearD (D:Dyn) (I:Inp):Dyn:=askD (groundD (wantD (cmdD (tickD D) I.cmd)) I.ground) I.ask
theorem cmdD_none (D:Dyn) {s:ByteArray} (h:s.toList.isEmpty=true):cmdD D s=D:=by unfold cmdD;rw[if_pos h]
theorem cmdD_ok {D:Dyn} {s:ByteArray} (h0:s.toList.isEmpty=false) (h:CmdOk D s):cmdD D s={D with lk:=kindI s,ll:=laneI s,lq:=byteI s 1,ws:=wordsI s (byteI s 2),lh:=true,lg:=0}:=by unfold cmdD;rw[if_neg (by rw[h0];decide),if_pos h]
theorem cmdD_no {D:Dyn} {s:ByteArray} (h0:s.toList.isEmpty=false) (h:¬CmdOk D s):cmdD D s={D with ld:=min 10000 (D.ld+1),log:=putL D.log D.frame 4 1}:=by unfold cmdD;rw[if_neg (by rw[h0];decide),if_neg h]
theorem cmd_bad {D:Dyn} {s:ByteArray} (h:¬CmdOk D s):∃c,c≠0∧(ReadErr s c∨(ReadOk s∧D.lh=true∧D.lg<100∧newB (byteI s 1) D.lq=false∧c=6)):=by
 rcases read_cases s with h1|⟨c,h1⟩
 ·refine⟨6,by decide,.inr ⟨h1,?_⟩⟩
  cases hh:D.lh with
  |false=>exact absurd ⟨h1,.inl hh⟩ h
  |true=>
   by_cases hg:D.lg<100
   ·cases hn:newB (byteI s 1) D.lq with
    |false=>exact⟨rfl,hg,rfl,rfl⟩
    |true=>exact absurd ⟨h1,.inr (.inr ⟨hh,hg,hn⟩)⟩ h
   ·exact absurd ⟨h1,.inr (.inl ⟨hh,hg⟩)⟩ h
 ·exact⟨c,h1.ne,.inl h1⟩
theorem logOk_put {f:Int} {L:List EntR} (h:NoteOk f L) {lane code:Int} (hl:0≤lane∧lane≤4) (hc:1≤code∧code≤20):NoteOk f (putL L f lane code):=by
 have hs:=(sumM_nonneg h.log.2 L.length (Nat.le_refl _)).1
 rw[List.take_length]at hs
 have hn:=inv_next (O:=L) (p:=(sumM L).toNat) (f:=f) (l:=lane) (c:=code) ⟨h.log,by omega,.inr (.inl (by omega))⟩ ⟨h.log,⟨h.frame,hl,hc,by show(1:Int)≤1∧(1:Int)≤9999;decide⟩,h.last⟩
 exact⟨h.frame,hn.inv.ok,fun _=>hn.frame⟩
theorem tickD_good {S:Stp} {D:Dyn} (h:DynOk S D):DynOk S (tickD D):=by
 refine {h with link:=?_}
 have hl:=h.link
 show linkChk D.lk D.ll D.lq D.ws.length D.lh (ageI D.lh D.lg) D.ld=0
 unfold linkChk at hl⊢
 unfold ageI
 split at hl
 ·exact absurd hl (by decide)
 ·rename_i h1
  rw[if_neg (by split<;>omega)]
  exact hl
theorem cmdD_good {S:Stp} {D:Dyn} (s:ByteArray) (h:DynOk S D):DynOk S (cmdD D s):=by
 have hd:0≤D.ld∧D.ld≤10000∧0≤D.lg∧D.lg≤100:=by
  have hl:=h.link
  unfold linkChk at hl
  split at hl
  ·exact absurd hl (by decide)
  ·omega
 cases h0:s.toList.isEmpty with
 |true=>rw[cmdD_none D h0];exact h
 |false=>
  by_cases hc:CmdOk D s
  ·rw[cmdD_ok h0 hc]
   have h1:=hc.1.2.2
   have h2:=chk_ok h1
   refine {h with link:=?_,lkb:=?_,lqb:=?_,ws:=fun x hx=>wordsI_bd s _ x hx}
   ·show linkChk (kindI s) (laneI s) (byteI s 1) (wordsI s (byteI s 2)).length true 0 D.ld=0
    unfold linkChk
    rw[if_neg (by omega),if_pos rfl,wordsI_len];exact h1
   ·show I64B (kindI s)∧I64B (laneI s)
    unfold I64B;omega
   ·have:=byteI_lt s 1
    show(0:Int)≤byteI s 1∧(byteI s 1:Int)≤255
    omega
  ·rw[cmdD_no h0 hc]
   have hn:=logOk_put h.noteOk (lane:=4) (code:=1) (by omega) (by omega)
   refine {h with link:=?_,log:=hn.log,last:=hn.last}
   have hl:=h.link
   show linkChk D.lk D.ll D.lq D.ws.length D.lh D.lg (min 10000 (D.ld+1))=0
   unfold linkChk at hl⊢
   rw[if_neg (by omega)]at hl
   rw[if_neg (by omega)]
   exact hl
theorem wantD_good {S:Stp} {D:Dyn} (h:DynOk S D):DynOk S (wantD D):=by
 unfold wantD
 split
 ·rename_i hc
  have hm:D.ws.getD 0 0∈D.ws:=by
   rw[List.getD_eq_getElem?_getD,List.getElem?_eq_getElem hc.2.2]
   exact List.getElem_mem _
  exact {h with want:=h.ws _ hm}
 ·exact h
theorem groundD_good {S:Stp} {D:Dyn} (g:Bool) (h:DynOk S D):DynOk S (groundD D g):=by
 refine {h with mode:=?_}
 have hm:=h.mode
 show ModeOk (groundI D.mm g) D.mp g
 unfold ModeOk at hm⊢
 rcases hm with h1|⟨h1,h2⟩|⟨h1,h2⟩<;>cases g<;>simp[h1,groundI]<;>simp_all
theorem askD_good {S:Stp} {D:Dyn} (a:Int) (h:DynOk S D):DynOk S (askD D a):=by
 unfold askD
 split
 ·exact h
 ·split
  ·rename_i h0 h1
   refine {h with mode:=?_}
   have hm:=h.mode
   show ModeOk (askI D.mm D.mp D.mg a).1.1 (askI D.mm D.mp D.mg a).1.2.1 (askI D.mm D.mp D.mg a).1.2.2
   unfold askI at h1⊢
   split at h1
   ·exact absurd h1 (by decide)
   ·rename_i h2
    rw[if_neg h2]
    split at h1
    ·rename_i h3;rw[if_pos h3];exact hm
    ·rename_i h3
     rw[if_neg h3]
     split at h1
     ·exact absurd h1 (by decide)
     ·rename_i h4
      rw[if_neg h4]
      show ModeOk a (if a=3 then false else D.mp) D.mg
      unfold ModeOk
      cases hp:D.mp<;>cases hg:D.mg<;>simp[hp,hg]at h4⊢ <;>omega
  ·have hn:=logOk_put h.noteOk (lane:=4) (code:=2) (by omega) (by omega)
   exact {h with log:=hn.log,last:=hn.last}
theorem hearD_good {S:Stp} {D:Dyn} (I:Inp) (h:DynOk S D):DynOk S (hearD D I):=askD_good _ (groundD_good _ (wantD_good (cmdD_good _ (tickD_good h))))
theorem DynOk.words {S:Stp} {D:Dyn} (h:DynOk S D):D.ws.length*4≤140737488351232:=by
 have hl:=h.link
 unfold linkChk at hl
 split at hl
 ·exact absurd hl (by decide)
 ·split at hl
  ·have:=(chk_ok hl).2.2;omega
  ·split at hl
   ·exact absurd hl (by decide)
   ·omega
theorem hear_is {b:Nat} {S:Stp} {D:Dyn} {I:Inp} {vp vl vg:Value} {w:World} (h:WAt w b S D vp vl vg) (hD:DynOk S D) (hI:InpOk I):
  Calls Tryz.prog 80 #[ptr b,inV I] w fun e w'=>e=.returned (.tuple #[])∧∃vl' vg',WAt w' b S (hearD D I) vp vl' vg'∧w.grownBy w' (some b):=by
 have HD:=qh hD;have HI:=qh hI
 obtain⟨w3,hw3⟩:∃x,w.alloc (.cells #[.string I.cmd,.int .i32 I.p0,.int .i32 I.p1,.int .i32 I.load,.int .i64 (I.f 0),.int .i64 (I.f 1),.int .i64 (I.f 2),.int .i64 (I.f 3),.bool I.ground,.int .i64 I.ask,.bool I.tries,.int .i64 I.reset] 55)=x:=⟨_,rfl⟩
 obtain⟨al,cl,hvl⟩:=h.l.len
 subst hvl
 have b3:Below w.heap.size w w3:=hw3▸(bLr).alloc (Nat.le_refl _) _
 have R3:RstAt w3 w b S D vp (.slice al D.ws.length cl) vg I:=⟨h.call b3,hw3▸CellsAt.new w (inL I) _ _ rfl,grown_of_below b3 (some b)⟩
 have hbw:=h.lt
 have HR3:=qh R3
 have HW3:=qh hw3
 have t0:=R3.wat.c.at_ 28 rfl;have t1:=R3.wat.c.at_ 29 rfl;have t2:=R3.wat.c.at_ 30 rfl;have t3:=R3.wat.c.at_ 31 rfl;have t4:=R3.wat.c.at_ 32 rfl;have t5:=R3.wat.c.at_ 33 rfl;have t6:=R3.wat.c.at_ 34 rfl
 have tz:=R3.wat.lt
 have HEND:Hid (hearD D I=askD (groundD (wantD (cmdD (tickD D) I.cmd)) I.ground) I.ask):=qh rfl
 clear h hD hI hw3 b3 R3
 go_enter Tryz.func80,Tryz.ntmps80
 go_upto_region 1 with(fail)
 rw[HW3.out]
 go_wp2_with fail
 refine(linkTick_yes D.lk D.ll D.lq _ D.ws D.lh D.lg D.ld _ w3 HR3.out.wat.l HD.out.words HD.out.lkb.1 HD.out.lkb.2 HD.out.link rfl).mono ?_
 rintro e1 w1 ⟨v1,rfl,ho1,hb1⟩
 obtain⟨a1,c1,hv1⟩:=own_sliceW ho1;subst hv1
 have R1:=HR3.out.call hbw hb1
 have HR1:=qh R1
 have f0:=R1.wat.c.2.1 28;have fa0:=R1.wat.c.at_ 28 rfl;have f1:=R1.wat.c.2.1 29;have fa1:=R1.wat.c.at_ 29 rfl;have f2:=R1.wat.c.2.1 30;have fa2:=R1.wat.c.at_ 30 rfl;have f3:=R1.wat.c.2.1 31;have fa3:=R1.wat.c.at_ 31 rfl;have f4:=R1.wat.c.2.1 32;have fa4:=R1.wat.c.at_ 32 rfl;have f5:=R1.wat.c.2.1 33;have fa5:=R1.wat.c.at_ 33 rfl;have f6:=R1.wat.c.2.1 34;have fa6:=R1.wat.c.at_ 34 rfl
 have tz1:=R1.wat.lt
 have HV1:=qh (own_ints' ho1)
 have HN1:=qh (OffA.own ho1 HR3.out.wat.lt (fun c hc=>HR3.out.wat.hv c hc))
 clear R1 ho1 hb1 t0 t1 t2 t3 t4 t5 t6 tz HR3 HW3
 go_upto_region 2 with(fail)
 have W2:=HR1.out.wat.linkSet D.lk D.ll D.lq (.slice a1 D.ws.length c1) D.ws D.lh (ageI D.lh D.lg) D.ld HV1.out HN1.out
 have G2:=grown_setL w1 b D.lk D.ll D.lq (.slice a1 D.ws.length c1) D.lh (ageI D.lh D.lg) D.ld
 have R2:RstAt (setL w1 b D.lk D.ll D.lq (.slice a1 D.ws.length c1) D.lh (ageI D.lh D.lg) D.ld) w b S (tickD D) vp (.slice a1 D.ws.length c1) vg I:=HR1.out.grow hbw G2 W2
 have HD1:=qh (tickD_good HD.out)
 obtain⟨w2,hw2⟩:∃x,setL w1 b D.lk D.ll D.lq (.slice a1 D.ws.length c1) D.lh (ageI D.lh D.lg) D.ld=x:=⟨_,rfl⟩
 rw[hw2]at R2
 dsimp only[setL]at hw2
 rw[hw2]
 clear hw2 W2 G2
 change RstAt w2 w b S (tickD D) vp (.slice a1 (tickD D).ws.length c1) vg I at R2
 generalize tickD D=D1 at R2 HD1 HEND
 have HR2:=qh R2
 have i0:w2.cell? ⟨w.heap.size,0,none⟩=some (.string I.cmd):=R2.ci.at_ 0 rfl
 have iz:=R2.ci.lt
 have t0:=R2.wat.c.at_ 28 rfl;have t1:=R2.wat.c.at_ 29 rfl;have t2:=R2.wat.c.at_ 30 rfl;have t3:=R2.wat.c.at_ 31 rfl;have t4:=R2.wat.c.at_ 32 rfl;have t5:=R2.wat.c.at_ 33 rfl;have t6:=R2.wat.c.at_ 34 rfl
 have tz:=R2.wat.lt
 clear R2 f0 f1 f2 f3 f4 f5 f6 fa0 fa1 fa2 fa3 fa4 fa5 fa6 tz1 HR1 HV1 HN1
 go_cut [22] (fun s wx=>s=.bool (!I.cmd.toList.isEmpty)∧w2=wx)
 case first=>
  cases he:I.cmd.toList.isEmpty with
  |true=>
   obtain⟨cmd,hcmd⟩:∃x,I.cmd=x:=⟨_,rfl⟩
   rw[hcmd]at i0 he
   have hcm2:=qh hcmd
   clear hcmd
   go_wp2_with fail
   go_meet
   refine⟨?_,rfl⟩
   rw[hcm2.out,he];first|done|rfl
  |false=>
   obtain⟨cmd,hcmd⟩:∃x,I.cmd=x:=⟨_,rfl⟩
   rw[hcmd]at i0 he
   have hcm2:=qh hcmd
   clear hcmd
   go_wp2_with fail
   go_meet
   refine⟨?_,rfl⟩
   rw[hcm2.out,he];first|done|rfl
 case rest=>
 obtain⟨rfl,rfl⟩:=hcut
 go_upto_if 22 with(fail)
 go_cut [] (fun wx=>∃vl vg,RstAt wx w b S (cmdD D1 I.cmd) vp vl vg I)
 case first=>
  cases hc0:I.cmd.toList.isEmpty with
  |true=>
   have HK:=qh (cmdD_none D1 hc0)
   clear hc0
   go_wp2_with fail
   go_meet
   exact⟨_,_,by rw[HK.out];exact HR2.out⟩
  |false=>
   have hcsz:=HI.out.cmd
   by_cases hok:CmdOk D1 I.cmd
   ·have HK:=qh (cmdD_ok hc0 hok);have HOK:=qh hok
    clear hok hc0 HEND
    obtain⟨cmd,hcmd⟩:∃x,I.cmd=x:=⟨_,rfl⟩
    rw[hcmd]at i0 HOK hcsz
    have hcm:=qh hcmd
    clear hcmd
    go_wp2_with fail
    go_region_law (first
     |(go_simp;go_at_call 103;refine(linkHear_ok D1.lk D1.ll D1.lq _ D1.ws D1.lh D1.lg D1.ld cmd _ HR2.out.drew.wat.l (by have:=HD1.out.words;omega) HD1.out.lkb.1 HD1.out.lkb.2 HD1.out.link HOK.out.1 (kindI cmd) (laneI cmd) (byteI cmd 1) (wordsI cmd (byteI cmd 2)) ⟨rfl,rfl,rfl,rfl⟩ HOK.out.2).mono ?_;rintro e4 w4 ⟨v4,rfl,ho4,hb4⟩;obtain⟨a4,c4,hv4⟩:=own_sliceW ho4;subst hv4;have hbb:Below w2.heap.size w2 w4:=((Below.refl w2.heap.size w2).drew).trans (hb4.mono (by simp));have R4:=HR2.out.call hbw hbb;have f0:=R4.wat.c.2.1 28;have fa0:=R4.wat.c.at_ 28 rfl;have f1:=R4.wat.c.2.1 29;have fa1:=R4.wat.c.at_ 29 rfl;have f2:=R4.wat.c.2.1 30;have fa2:=R4.wat.c.at_ 30 rfl;have f3:=R4.wat.c.2.1 31;have fa3:=R4.wat.c.at_ 31 rfl;have f4:=R4.wat.c.2.1 32;have fa4:=R4.wat.c.at_ 32 rfl;have f5:=R4.wat.c.2.1 33;have fa5:=R4.wat.c.at_ 33 rfl;have f6:=R4.wat.c.2.1 34;have fa6:=R4.wat.c.at_ 34 rfl;have tz1:=R4.wat.lt)
     |fail)
    all_goals
     go_wp2_with fail
     go_meet
     exact⟨_,_,by rw[HK.out,hcm.out];exact R4.grow hbw (grown_setL ..) (R4.wat.linkSet (kindI cmd) (laneI cmd) (byteI cmd 1) _ (wordsI cmd (byteI cmd 2)) true 0 D1.ld (own_ints' ho4) (OffA.own ho4 HR2.out.wat.lt (fun c hc=>HR2.out.wat.hv c hc)))⟩
   ·have HK:=qh (cmdD_no hc0 hok)
    obtain⟨c,hcn,hbad⟩:=cmd_bad hok
    have HBAD:=qh hbad
    have hcb:(c != 0)=true:=by rw[bne_iff_ne];exact hcn
    clear hok hc0 HEND hbad
    obtain⟨cmd,hcmd⟩:∃x,I.cmd=x:=⟨_,rfl⟩
    rw[hcmd]at i0 HBAD hcsz
    clear hcmd
    go_wp2_with fail
    go_region_law (first
     |(go_simp;go_at_call 103;refine(linkHear_bad D1.lk D1.ll D1.lq _ D1.ws D1.lh D1.lg D1.ld _ c cmd _ HR2.out.drew.wat.l HD1.out.words HD1.out.lkb.1 HD1.out.lkb.2 hcsz HD1.out.link rfl (kindI cmd) (laneI cmd) (byteI cmd 1) (wordsI cmd (byteI cmd 2)) ⟨rfl,rfl,rfl,rfl⟩ HBAD.out).mono ?_;rintro e4 w4 ⟨v4,rfl,ho4,hb4⟩;obtain⟨a4,c4,hv4⟩:=own_sliceW ho4;subst hv4;have hbb:Below w2.heap.size w2 w4:=((Below.refl w2.heap.size w2).drew).trans (hb4.mono (by simp));have R4:=HR2.out.call hbw hbb;have f0:=R4.wat.c.2.1 28;have fa0:=R4.wat.c.at_ 28 rfl;have f1:=R4.wat.c.2.1 29;have fa1:=R4.wat.c.at_ 29 rfl;have f2:=R4.wat.c.2.1 30;have fa2:=R4.wat.c.at_ 30 rfl;have f3:=R4.wat.c.2.1 31;have fa3:=R4.wat.c.at_ 31 rfl;have f4:=R4.wat.c.2.1 32;have fa4:=R4.wat.c.at_ 32 rfl;have f5:=R4.wat.c.2.1 33;have fa5:=R4.wat.c.at_ 33 rfl;have f6:=R4.wat.c.2.1 34;have fa6:=R4.wat.c.at_ 34 rfl;have tz1:=R4.wat.lt)
     |fail)
    all_goals
     have R5:RstAt (setL w4 b D1.lk D1.ll D1.lq (.slice a4 D1.ws.length c4) D1.lh D1.lg (min 10000 (D1.ld+1))) w b S {D1 with ld:=min 10000 (D1.ld+1)} vp (.slice a4 D1.ws.length c4) vg I:=R4.grow hbw (grown_setL ..) (R4.wat.linkSet D1.lk D1.ll D1.lq _ D1.ws D1.lh D1.lg (min 10000 (D1.ld+1)) (own_ints' ho4) (OffA.own ho4 HR2.out.wat.lt (fun c hc=>HR2.out.wat.hv c hc)))
     have HR5:=qh R5
     go_upto_region 6 with(fail)
     obtain⟨w5,hw5⟩:∃x,setL w4 b D1.lk D1.ll D1.lq (.slice a4 D1.ws.length c4) D1.lh D1.lg (min 10000 (D1.ld+1))=x:=⟨_,rfl⟩
     rw[hw5]at R5 HR5
     dsimp only[setL]at hw5
     rw[hw5]
     clear hw5
     clear R5 R4 ho4 hb4 hbb f0 f1 f2 f3 f4 f5 f6 fa0 fa1 fa2 fa3 fa4 fa5 fa6 tz1 t0 t1 t2 t3 t4 t5 t6 tz
     go_wp2_with fail
     refine(note_is HR5.out.wat HD1.out.noteOk 4 1 (by omega) (by omega)).mono ?_
     rintro e6 w6 ⟨rfl,vg6,hW6,hg6,-⟩
     go_wp2_with fail
     go_meet
     exact⟨_,_,by rw[HK.out];exact HR5.out.grow hbw hg6 hW6⟩
 case rest=>
 obtain⟨vl2,vg2,hR2⟩:=hcut
 clear HR2 i0 iz t0 t1 t2 t3 t4 t5 t6 tz
 have HD2:=qh (cmdD_good I.cmd HD1.out)
 generalize cmdD D1 I.cmd=D2 at *
 obtain⟨a2,c2,hv2⟩:=hR2.wat.l.len
 subst hv2
 have HR:=qh hR2
 have t0:=hR2.wat.c.at_ 28 rfl;have t1:=hR2.wat.c.at_ 29 rfl;have t2:=hR2.wat.c.at_ 30 rfl;have t3:=hR2.wat.c.at_ 31 rfl;have t4:=hR2.wat.c.at_ 32 rfl;have t5:=hR2.wat.c.at_ 33 rfl;have t6:=hR2.wat.c.at_ 34 rfl
 have tz:=hR2.wat.lt
 clear hR2 HD1
 go_upto_region 7 with(fail)
 go_cut [5,6] (fun s5 s6 wx=>∃a n cap c,s5=.slice a n cap∧s6=.int .i64 c∧RstAt wx w b S D2 vp (.slice a2 D2.ws.length c2) vg2 I∧((c=0∧D2.lh=true∧D2.lg≤10∧n=D2.ws.length∧IntsAt .i32 wx (.slice a n cap) D2.ws)∨(c≠0∧¬(D2.lh=true∧D2.lg≤10))))
 case first=>
  by_cases hw:D2.lh=true∧D2.lg≤10
  ·have HLK:Hid (linkChk D2.lk D2.ll D2.lq D2.ws.length true D2.lg D2.ld=0):=qh (by rw[←hw.1];exact HD2.out.link)
   have HW:=qh hw
   rw[hw.1]at t4
   clear hw
   go_wp2_with fail
   refine(linkWords_yes D2.lk D2.ll D2.lq _ D2.ws D2.lg D2.ld 10 _ HR.out.wat.l HD2.out.words HD2.out.lkb.1 HD2.out.lkb.2 (by unfold I64B;omega) HLK.out HW.out.2).mono ?_
   rintro e4 w4 ⟨v4,rfl,ho4,hb4⟩
   obtain⟨a4,c4,hv4⟩:=own_sliceW ho4;subst hv4
   go_wp2_with fail
   go_meet
   exact⟨_,_,_,_,rfl,rfl,HR.out.call hbw hb4,.inl ⟨rfl,HW.out.1,HW.out.2,rfl,own_ints' ho4⟩⟩
  ·obtain⟨c,hc0,hc⟩:∃c:Int,c≠0∧((linkChk D2.lk D2.ll D2.lq D2.ws.length D2.lh D2.lg D2.ld=c∧c≠0)∨(linkChk D2.lk D2.ll D2.lq D2.ws.length D2.lh D2.lg D2.ld=0∧D2.lh=false∧c=7)∨(linkChk D2.lk D2.ll D2.lq D2.ws.length D2.lh D2.lg D2.ld=0∧D2.lh=true∧10<D2.lg∧c=6)):=by
    cases hh:D2.lh with
    |false=>exact⟨7,by decide,.inr (.inl ⟨by rw[←hh];exact HD2.out.link,rfl,rfl⟩)⟩
    |true=>exact⟨6,by decide,.inr (.inr ⟨by rw[←hh];exact HD2.out.link,rfl,by rw[hh]at hw;simp at hw;omega,rfl⟩)⟩
   have HC:=qh hc;have HW:=qh hw
   clear hc hw
   go_wp2_with fail
   refine(linkWords_bad D2.lk D2.ll D2.lq _ D2.ws D2.lh D2.lg D2.ld 10 c _ HR.out.wat.l (by have:=HD2.out.words;omega) HD2.out.lkb.1 HD2.out.lkb.2 (by unfold I64B;omega) HC.out).mono ?_
   rintro e4 w4 ⟨rfl,hb4⟩
   go_wp2_with fail
   go_meet
   exact⟨none,0,0,c,rfl,rfl,HR.out.call hbw hb4,.inr ⟨hc0,HW.out⟩⟩
 case rest=>
 obtain⟨a5,n5,cap5,c5,rfl,rfl,hR5,hwd⟩:=hcut
 clear HR t0 t1 t2 t3 t4 t5 t6 tz
 have HR5:=qh hR5;have HWD:=qh hwd
 clear hR5 hwd
 go_upto_region 8 with(fail)
 go_cut [5,54] (fun s5 s wx=>s5=.slice a5 n5 cap5∧s=.bool (decide (c5=0∧0<n5))∧wc=wx)
 case first=>
  by_cases h1:c5=0
  ·subst h1
   by_cases h2:0<n5
   ·have h3:0<(n5:Int):=by omega
    go_wp2_with fail
    go_meet
    exact⟨rfl,by simp[h2],rfl⟩
   ·have h3:¬0<(n5:Int):=by omega
    go_wp2_with fail
    go_meet
    exact⟨rfl,by simp[h2],rfl⟩
  ·have h1b:(c5==0)=false:=by rw[beq_eq_false_iff_ne];exact h1
   go_wp2_with fail
   go_meet
   exact⟨rfl,by simp[h1],rfl⟩
 case rest=>
 obtain⟨rfl,rfl,rfl⟩:=hcut
 go_upto_if 54 with(fail)
 go_cut [] (fun wx=>∃vl vg,RstAt wx w b S (wantD D2) vp vl vg I)
 case first=>
  by_cases h1:c5=0∧0<n5
  ·rw[decide_eq_true h1]
   obtain⟨-,hlh,hlg,hn5,hin⟩:c5=0∧D2.lh=true∧D2.lg≤10∧n5=D2.ws.length∧IntsAt .i32 wc (.slice a5 n5 cap5) D2.ws:=by
    rcases HWD.out with h|h
    ·exact h
    ·exact absurd h1.1 h.1
   have hwn:wantD D2={D2 with want:=D2.ws.getD 0 0}:=by unfold wantD;rw[if_pos ⟨hlh,hlg,by omega⟩]
   have HWN:=qh hwn
   rcases hin with⟨hnil,-⟩|⟨h0,b',off,cap,hv,hl,hm,hx⟩
   ·rw[hnil]at hn5;exact absurd h1.2 (by rw[hn5];decide)
   ·cases hv
    obtain⟨fst,hfst⟩:∃x,D2.ws.getD 0 0=x:=⟨_,rfl⟩
    have x0:wc.cell? ⟨b',off,none⟩=some (.int .i32 fst):=by rw[←hfst];exact hx 0 (by omega)
    have HFST:=qh hfst
    have xz:=World.block_lt_of_cell? _ _ x0
    have f0:=HR5.out.wat.c.2.1 35;have fz:=HR5.out.wat.lt
    have f1:=HR5.out.wat.c.at_ 35 rfl
    have h3:0<D2.ws.length:=h0
    clear hx hlh hlg hwn h1 hfst
    go_wp2_with fail
    go_meet
    exact⟨_,_,by rw[HWN.out,HFST.out];exact HR5.out.grow hbw (grown_setW ..) (HR5.out.wat.wantSet fst)⟩
  ·rw[decide_eq_false h1]
   have hwn:wantD D2=D2:=by
    unfold wantD;rw[if_neg]
    rintro⟨q1,q2,q3⟩
    rcases HWD.out with h|h
    ·exact h1 ⟨h.1,by rw[h.2.2.2.1];exact q3⟩
    ·exact h.2 ⟨q1,q2⟩
   go_wp2_with fail
   go_meet
   exact⟨_,_,by rw[hwn];exact HR5.out⟩
 case rest=>
 obtain⟨vl3,vg3,hR3⟩:=hcut
 clear HR5 HWD
 have HD3:=qh (wantD_good HD2.out)
 generalize wantD D2=D3 at *
 have HR3:=qh hR3
 have t0:=hR3.wat.c.at_ 36 rfl;have t1:=hR3.wat.c.at_ 37 rfl;have t2:=hR3.wat.c.at_ 38 rfl
 have tz:=hR3.wat.lt
 have i8:wc.cell? ⟨w.heap.size,8,none⟩=some (.bool I.ground):=hR3.ci.at_ 8 rfl
 have iz:=hR3.ci.lt
 clear hR3 HD2
 obtain⟨gr,hgr⟩:∃x,I.ground=x:=⟨_,rfl⟩
 rw[hgr]at i8 HEND
 clear hgr
 go_upto_region 10 with(fail)
 go_cut [] (fun wx=>∃vl vg,RstAt wx w b S (groundD D3 gr) vp vl vg I)
 case first=>
  go_region_law (first
   |(go_simp;go_at_call 106;refine(ground_any D3.mm D3.mp D3.mg gr _ _ HD3.out.mode rfl).mono ?_;rintro e4 w4 ⟨rfl,hb4⟩;have hbb:Below wc.heap.size wc w4:=((Below.refl wc.heap.size wc).drew).trans (hb4.mono (by simp));have R4:=HR3.out.call hbw hbb;have f0:=R4.wat.c.2.1 36;have fa0:=R4.wat.c.at_ 36 rfl;have f1:=R4.wat.c.2.1 37;have fa1:=R4.wat.c.at_ 37 rfl;have f2:=R4.wat.c.2.1 38;have fa2:=R4.wat.c.at_ 38 rfl;have tz1:=R4.wat.lt)
   |fail)
  all_goals
   go_wp2_with fail
   go_meet
   exact⟨_,_,R4.grow hbw (grown_setM ..) (R4.wat.modeSet (groundI D3.mm gr) D3.mp gr)⟩
 case rest=>
 obtain⟨vl4,vg4,hR4⟩:=hcut
 clear HR3 t0 t1 t2 tz i8 iz
 have HD4:=qh (groundD_good gr HD3.out)
 generalize groundD D3 gr=D4 at *
 have HR4:=qh hR4
 have t0:=hR4.wat.c.at_ 36 rfl;have t1:=hR4.wat.c.at_ 37 rfl;have t2:=hR4.wat.c.at_ 38 rfl
 have tz:=hR4.wat.lt
 have i9:wc.cell? ⟨w.heap.size,9,none⟩=some (.int .i64 I.ask):=hR4.ci.at_ 9 rfl
 have iz:=hR4.ci.lt
 clear hR4 HD3
 by_cases ha:I.ask=0
 ·rw[ha]at i9 HEND
  have hend:askD D4 0=D4:=by unfold askD;rw[if_pos rfl]
  go_wp2_with fail
  exact bodyPost_ret (v:=.tuple #[]) (by simp[results,Tryz.results80,go_sem]) rfl ⟨rfl,_,_,by rw[HEND.out,hend];exact HR4.out.wat,HR4.out.gr⟩
 ·obtain⟨⟨⟨m',p',g'⟩,e'⟩,hr⟩:∃r,askI D4.mm D4.mp D4.mg I.ask=r:=⟨_,rfl⟩
  have HRR:=qh hr
  have hab:(I.ask==0)=false:=by rw[beq_eq_false_iff_ne];exact ha
  have HA:=qh ha
  clear hr ha
  generalize I.ask=ask at *
  have hAL:∀w5:World,Below w5.heap.size w5 (w5.alloc (.cells #[.int .i64 m',.bool p',.bool g'] 67)):=fun w5=>(bLr).alloc (Nat.le_refl _) _
  by_cases he:e'=0
  ·subst he
   have hend:askD D4 ask={D4 with mm:=m',mp:=p',mg:=g'}:=by unfold askD;rw[if_neg HA.out,HRR.out,if_pos rfl]
   have HE:=qh hend
   clear hend
   go_wp2_with fail
   go_region_law (first
    |(go_simp;go_at_call 107;refine(ask_all D4.mm D4.mp D4.mg ask m' 0 p' g' _ HD4.out.mode HRR.out).mono ?_;rintro e5 w5 ⟨rfl,hb5⟩;have hbb:Below wc.heap.size wc w5:=(by first|exact((Below.refl wc.heap.size wc).drew).trans (hb5.mono (by simp))|exact(((Below.refl wc.heap.size wc).alloc (Nat.le_refl _) _).drew).trans (hb5.mono (by simp)));have R5:=HR4.out.call hbw hbb;have f0:=R5.wat.c.2.1 36;have fa0:=R5.wat.c.at_ 36 rfl;have f1:=R5.wat.c.2.1 37;have fa1:=R5.wat.c.at_ 37 rfl;have f2:=R5.wat.c.2.1 38;have fa2:=R5.wat.c.at_ 38 rfl;have tz1:=R5.wat.lt;(try have CN:CellsAt w5 wc.heap.size [.int .i64 0,.bool false,.bool false]:=((CellsAt.new' rfl rfl:CellsAt (wc.alloc (.cells #[.int .i64 0,.bool false,.bool false] 67)) wc.heap.size [.int .i64 0,.bool false,.bool false]).drew).call hb5);(try have y0:=CN.at_ 0 rfl);(try have y1:=CN.at_ 1 rfl);(try have y2:=CN.at_ 2 rfl);(try have yf0:=CN.2.1 0);(try have yf1:=CN.2.1 1);(try have yf2:=CN.2.1 2);(try have yz:=CN.lt))
    |fail)
   all_goals
    go_wp2_with fail
    have RA:=(R5.grow hbw (grown_setM w5 b m' p' g') (R5.wat.modeSet m' p' g')).call hbw (hAL _)
    have RB:=(HR4.out.call hbw (((hbb.setCell (p:=⟨wc.heap.size,0,none⟩) (Nat.le_refl _) (.int .i64 m')).setCell (p:=⟨wc.heap.size,1,none⟩) (Nat.le_refl _) (.bool p')).setCell (p:=⟨wc.heap.size,2,none⟩) (Nat.le_refl _) (.bool g')))
    have RB2:=RB.grow hbw (grown_setM _ b m' p' g') (RB.wat.modeSet m' p' g')
    first
     |(have chk:=CN;exact bodyPost_end (v:=.tuple #[]) (by simp[results,Tryz.results80,go_sem]) rfl ⟨rfl,_,_,by rw[HEND.out,HE.out];exact RB2.wat,RB2.gr⟩)
     |exact bodyPost_end (v:=.tuple #[]) (by simp[results,Tryz.results80,go_sem]) rfl ⟨rfl,_,_,by rw[HEND.out,HE.out];exact RA.wat,RA.gr⟩
  ·have heb:(e' != 0)=true:=by rw[bne_iff_ne];exact he
   have hend:askD D4 ask={D4 with log:=putL D4.log D4.frame 4 2}:=by unfold askD;rw[if_neg HA.out,HRR.out,if_neg he]
   have HE:=qh hend
   clear hend
   go_wp2_with fail
   go_region_law (first
    |(go_simp;go_at_call 107;refine(ask_all D4.mm D4.mp D4.mg ask m' e' p' g' _ HD4.out.mode HRR.out).mono ?_;rintro e5 w5 ⟨rfl,hb5⟩;have hbb:Below wc.heap.size wc w5:=(by first|exact((Below.refl wc.heap.size wc).drew).trans (hb5.mono (by simp))|exact(((Below.refl wc.heap.size wc).alloc (Nat.le_refl _) _).drew).trans (hb5.mono (by simp)));have R5:=HR4.out.call hbw hbb;have f0:=R5.wat.c.2.1 36;have fa0:=R5.wat.c.at_ 36 rfl;have f1:=R5.wat.c.2.1 37;have fa1:=R5.wat.c.at_ 37 rfl;have f2:=R5.wat.c.2.1 38;have fa2:=R5.wat.c.at_ 38 rfl;have tz1:=R5.wat.lt;(try have CN:CellsAt w5 wc.heap.size [.int .i64 0,.bool false,.bool false]:=((CellsAt.new' rfl rfl:CellsAt (wc.alloc (.cells #[.int .i64 0,.bool false,.bool false] 67)) wc.heap.size [.int .i64 0,.bool false,.bool false]).drew).call hb5);(try have y0:=CN.at_ 0 rfl);(try have y1:=CN.at_ 1 rfl);(try have y2:=CN.at_ 2 rfl);(try have yf0:=CN.2.1 0);(try have yf1:=CN.2.1 1);(try have yf2:=CN.2.1 2);(try have yz:=CN.lt))
    |fail)
   all_goals
    go_wp2_with fail
    have RA:=R5.call hbw (hAL _)
    have RB:=(HR4.out.call hbw (((hbb.setCell (p:=⟨wc.heap.size,0,none⟩) (Nat.le_refl _) (.int .i64 m')).setCell (p:=⟨wc.heap.size,1,none⟩) (Nat.le_refl _) (.bool p')).setCell (p:=⟨wc.heap.size,2,none⟩) (Nat.le_refl _) (.bool g')))
    first
     |(fail_if_success (have chk:=CN)
       refine(note_is RA.wat HD4.out.noteOk 4 2 (by omega) (by omega)).mono ?_
       rintro e6 w6 ⟨rfl,vg6,hW6,hg6,-⟩
       go_wp2_with fail
       exact bodyPost_ret (v:=.tuple #[]) (by simp[results,Tryz.results80,go_sem]) rfl ⟨rfl,_,_,by rw[HEND.out,HE.out];exact hW6,grownBy_two RA.gr hg6⟩)
     |(have chk:=CN
       refine(note_is RB.wat HD4.out.noteOk 4 2 (by omega) (by omega)).mono ?_
       rintro e6 w6 ⟨rfl,vg6,hW6,hg6,-⟩
       go_wp2_with fail
       exact bodyPost_ret (v:=.tuple #[]) (by simp[results,Tryz.results80,go_sem]) rfl ⟨rfl,_,_,by rw[HEND.out,HE.out];exact hW6,grownBy_two RB.gr hg6⟩)
end Go.Proofs.YtpkiepjmcepnoaaGreatDoor
