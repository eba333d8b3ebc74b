/- A part of a proof. -/
import Derived.Test.YtpkiepjmcepnoaaGreatDoorPtZd
set_option maxHeartbeats 16000000
set_option maxRecDepth 100000
namespace Go.Proofs.YtpkiepjmcepnoaaGreatDoor
open Go.ChangeShapes Go.WideShapes Go.ChangeAt Go.RowKit
set_option linter.unusedVariables false
theorem opA:OpAIs:=by
 intro b S D I vp vl vg w wa vga b4 b5 g9 g10 g11 g13 HH VV M PU FT F u1 u2 u3 u4 u6 u7 u8 u9 u12 u14 u15 u16 u17 u18 u19 u20 u21 u22 u23 u24 u25 u26 u27 u28 u29 u30 u31 u32 u33 u34 u35 u36 u37 u38 u39 u40 u41 u42 u43 u44 u45 u46 u47 u48 u49 u50 u51 u52 u53 u54 u55 u56 u57 u58 u59 u60 u61 u62 u63 u64 u65 u66 u67 u68 u69 u70 u71 u72 u73 u74 u75 u76 u77 u78 u79 u80 u81 u82 u83 u84 u85 u86 u87 u88 u89 u90 u91 u92 u93 u94 u95 u96 u97 u98 u99 u100 u101 u102 u103 u104 u105 u106 u107 u108 u109 u110 u111 u112 u113 u114 u115 u116 u117 u118 u119 u120 u121 u122 u123 u124 u125 u126 u127 u128 u129 u130 u131 u132 u133 u134 u135 u136 u137 u138 u139 u140 u141 u142 u143 u144 u145 u146 u147 u148 u149 u150 u151 u152 u153 u154 u155 u156 u157 u158 u159 u160 u161 u162 u163 u164 u165 K hW0 hS hD hI hHH hVV hM hPU hFT hF  hA0 hK
 unfold opQ at hK⊢
 have hK2:=hK
 conv at hK2=>intro a w';arg 1;arg 2;whnf
 conv=>arg 2;whnf
 clear hK
 have HS:=qh hS;have HD:=qh hD;have HI:=qh hI;have HW0:=qh hW0
 have hbw:=hW0.lt
 have HHH:=qh hHH
 have HVV:=qh hVV
 have HM:=qh hM
 have HPU:=qh hPU
 have HFT:=qh hFT
 have HF:=qh hF
 have HA:=qh hA0
 have HEV0:=qh (opEven_is (I:=I) HS.out HD.out)
 obtain⟨EV,hEV⟩:∃f:Nat→Int,(fun j=>evenI (D.team j).1 (D.off j) (opFight S D I j) S.bits S.trim)=f:=⟨_,rfl⟩
 rw[hEV]at HEV0
 have hM0:(D.team 0).1=M 0:=by rw[←HM.out]
 have hM1:(D.team 1).1=M 1:=by rw[←HM.out]
 have hM2:(D.team 2).1=M 2:=by rw[←HM.out]
 have hM3:(D.team 3).1=M 3:=by rw[←HM.out]
 dsimp only[teamM]at HEV0
 rw[hM0,hM1,hM2,hM3]at HEV0
 rw[hFT]at HEV0
 have HEV:=qh hEV
 clear hEV hM0 hM1 hM2 hM3 hW0 hS hD hI hA0 hHH hVV hM hPU hFT hF
 have C11:=(HA.out.o _ (.tail _ (.head _))).2
 have C10:=(HA.out.o _ (.tail _ (.tail _ (.tail _ (.head _))))).2
 have c0:wa.cell? ⟨g11,0,none⟩=some (.int .i32 (FT 0)):=C11.at_ 0 rfl;have c1:wa.cell? ⟨g11,1,none⟩=some (.int .i32 (FT 1)):=C11.at_ 1 rfl;have c2:wa.cell? ⟨g11,2,none⟩=some (.int .i32 (FT 2)):=C11.at_ 2 rfl;have c3:wa.cell? ⟨g11,3,none⟩=some (.int .i32 (FT 3)):=C11.at_ 3 rfl
 have cz:=C11.lt
 have m0:wa.cell? ⟨g10,0,none⟩=some (.int .i64 (M 0)):=C10.at_ 0 rfl;have m1:wa.cell? ⟨g10,1,none⟩=some (.int .i64 (M 1)):=C10.at_ 1 rfl;have m2:wa.cell? ⟨g10,2,none⟩=some (.int .i64 (M 2)):=C10.at_ 2 rfl;have m3:wa.cell? ⟨g10,3,none⟩=some (.int .i64 (M 3)):=C10.at_ 3 rfl
 have mz:=C10.lt
 have o0:wa.cell? ⟨b,69,none⟩=some (.int .i32 (D.off 0)):=HA.out.r.wat.c.at_ 69 rfl;have o1:wa.cell? ⟨b,70,none⟩=some (.int .i32 (D.off 1)):=HA.out.r.wat.c.at_ 70 rfl;have o2:wa.cell? ⟨b,71,none⟩=some (.int .i32 (D.off 2)):=HA.out.r.wat.c.at_ 71 rfl;have o3:wa.cell? ⟨b,72,none⟩=some (.int .i32 (D.off 3)):=HA.out.r.wat.c.at_ 72 rfl
 have t0:=HA.out.r.wat.c.at_ 25 rfl;have t1:=HA.out.r.wat.c.at_ 26 rfl
 have tz:=HA.out.r.wat.lt
 clear C11 C10
 refine wp_region_any (by kernel_rfl) ?_
 change wpAny _ _ _ _ _ _ _ (World.drew _)
 refine wpAny_take (i:=0) (v:=ptr b) rfl (by kernel_rfl) (by kernel_rfl) (by kernel_rfl) (fun _ _ _ h=>h) (Or.inl ⟨by rfl,by intro W;go_simp⟩) ?_
 refine wpAny_head 1 17 7 (by kernel_rfl) rfl ?_
 simp only[List.drop_succ_cons,List.drop_zero,List.take_succ_cons,List.take_zero]
 repeat still_step
 refine wpStill_nil ?_
 refine wpAny_ready (rs:=[17]) (by kernel_rfl) (by simp) (AllReady.cons rfl (fun K hK=>?_) AllReady.nil)
 go_simp
 refine(HEV0.out _).mono ?_
 rintro e18 w18 ⟨rfl,hb18⟩
 have hbb18:Below wa.heap.size wa w18:=((Below.refl wa.heap.size wa).drew).trans (hb18.mono (by simp))
 have A18:=HA.out.call hbw hbb18
 have x0:w18.cell? ⟨b,69,none⟩=some (.int .i32 (D.off 0)):=A18.r.wat.c.at_ 69 rfl;have x1:w18.cell? ⟨b,70,none⟩=some (.int .i32 (D.off 1)):=A18.r.wat.c.at_ 70 rfl;have x2:w18.cell? ⟨b,71,none⟩=some (.int .i32 (D.off 2)):=A18.r.wat.c.at_ 71 rfl;have x3:w18.cell? ⟨b,72,none⟩=some (.int .i32 (D.off 3)):=A18.r.wat.c.at_ 72 rfl
 have xf0:=A18.r.wat.c.2.1 69;have xf1:=A18.r.wat.c.2.1 70;have xf2:=A18.r.wat.c.2.1 71;have xf3:=A18.r.wat.c.2.1 72;have xz:=A18.r.wat.lt
 have HA18:=qh A18
 clear A18 hb18 hbb18 HEV0 HA c0 c1 c2 c3 cz m0 m1 m2 m3 mz o0 o1 o2 o3 t0 t1 tz
 refine hK _ _ ?_
 clear hK K
 refine wpAny_ready (rs:=[18]) (by kernel_rfl) (by simp) (AllReady.cons rfl (fun K hK=>?_) AllReady.nil)
 go_simp
 refine hK _ _ ?_
 clear hK K
 refine wpAny_take (i:=19) (v:=i32A EV) rfl (by kernel_rfl) (by kernel_rfl) (by kernel_rfl) (fun _ _ _ h=>h) (Or.inl ⟨by rfl,by intro W;go_simp⟩) ?_
 refine wpAny_take (i:=20) (v:=.int .i64 0) rfl (by kernel_rfl) (by kernel_rfl) (by kernel_rfl) (fun _ _ _ h=>h) (Or.inl ⟨by rfl,by intro W;go_simp⟩) ?_
 refine wpAny_ready (rs:=[21]) (by kernel_rfl) (by simp) (AllReady.cons rfl (fun K hK=>?_) AllReady.nil)
 go_simp
 refine hK _ _ ?_
 clear hK K
 refine wpAny_ready (rs:=[22]) (by kernel_rfl) (by simp) (AllReady.cons rfl (fun K hK=>?_) AllReady.nil)
 go_simp
 refine hK _ _ ?_
 clear hK K
 refine wpAny_ready (rs:=[23]) (by kernel_rfl) (by simp) (AllReady.cons rfl (fun K hK=>?_) AllReady.nil)
 go_simp
 refine hK _ _ ?_
 clear hK K
 refine⟨by kernel_rfl,?_⟩
 have A19:=HA18.out.grow hbw (grown_setOff w18 b EV) (HA18.out.r.wat.offSet EV)
 obtain⟨w19,hw19⟩:∃x,setOff w18 b EV=x:=⟨_,rfl⟩
 rw[hw19]at A19
 dsimp only[setOff]at hw19
 rw[hw19]
 have e5:({opD4 S D I with off:=EV}:Dyn)=opD5 S D I:=by rw[←HEV.out];rfl
 rw[e5]at A19
 have HA19:=qh A19
 have C13:=(A19.o _ (.head _)).2
 have C5:=(A19.o _ (.tail _ (.tail _ (.tail _ (.tail _ (.tail _ (.head _))))))).2
 have p0:w19.cell? ⟨g13,0,none⟩=some (.bool (F 0)):=C13.at_ 0 rfl;have p1:w19.cell? ⟨g13,1,none⟩=some (.bool (F 1)):=C13.at_ 1 rfl;have p2:w19.cell? ⟨g13,2,none⟩=some (.bool (F 2)):=C13.at_ 2 rfl;have p3:w19.cell? ⟨g13,3,none⟩=some (.bool (F 3)):=C13.at_ 3 rfl
 have pz:=C13.lt
 have c0:w19.cell? ⟨b5,0,none⟩=some (.bool (HH 0)):=C5.at_ 0 rfl;have c1:w19.cell? ⟨b5,1,none⟩=some (.bool (HH 1)):=C5.at_ 1 rfl;have c2:w19.cell? ⟨b5,2,none⟩=some (.bool (HH 2)):=C5.at_ 2 rfl;have c3:w19.cell? ⟨b5,3,none⟩=some (.bool (HH 3)):=C5.at_ 3 rfl
 have cz:=C5.lt
 have t0:w19.cell? ⟨b,41,none⟩=some (.int .i64 (D.team 0).1):=A19.r.wat.c.at_ 41 rfl;have t1:w19.cell? ⟨b,42,none⟩=some (.bool (D.team 0).2.1):=A19.r.wat.c.at_ 42 rfl;have t2:w19.cell? ⟨b,43,none⟩=some (.int .i64 (D.team 0).2.2):=A19.r.wat.c.at_ 43 rfl;have t3:w19.cell? ⟨b,44,none⟩=some (.int .i64 (D.team 1).1):=A19.r.wat.c.at_ 44 rfl;have t4:w19.cell? ⟨b,45,none⟩=some (.bool (D.team 1).2.1):=A19.r.wat.c.at_ 45 rfl;have t5:w19.cell? ⟨b,46,none⟩=some (.int .i64 (D.team 1).2.2):=A19.r.wat.c.at_ 46 rfl;have t6:w19.cell? ⟨b,47,none⟩=some (.int .i64 (D.team 2).1):=A19.r.wat.c.at_ 47 rfl;have t7:w19.cell? ⟨b,48,none⟩=some (.bool (D.team 2).2.1):=A19.r.wat.c.at_ 48 rfl;have t8:w19.cell? ⟨b,49,none⟩=some (.int .i64 (D.team 2).2.2):=A19.r.wat.c.at_ 49 rfl;have t9:w19.cell? ⟨b,50,none⟩=some (.int .i64 (D.team 3).1):=A19.r.wat.c.at_ 50 rfl;have t10:w19.cell? ⟨b,51,none⟩=some (.bool (D.team 3).2.1):=A19.r.wat.c.at_ 51 rfl;have t11:w19.cell? ⟨b,52,none⟩=some (.int .i64 (D.team 3).2.2):=A19.r.wat.c.at_ 52 rfl
 have q0:w19.cell? ⟨b,122,none⟩=some (.bool D.lost):=A19.r.wat.c.at_ 122 rfl
 have tz:=A19.r.wat.lt
 clear hw19 A19 C13 C5 e5 HA18 x0 x1 x2 x3 xf0 xf1 xf2 xf3 xz
 have hpl:=opPlan_is HD.out F HH
 have HU:Hid (opN S D I=((planU D.team (four4 F) (four4 HH)).length:Int)):=qh (by rw[←HF.out,←HHH.out];rfl)
 have H6:Hid (opD6 S D I={opD5 S D I with team:=planT D.team (four4 F) (four4 HH),us:=((planU D.team (four4 F) (four4 HH)).length:Int),ac:=actN (planC D.team (four4 F) (four4 HH)) 4,lost:=((planU D.team (four4 F) (four4 HH)).length:Int)==0}):=qh (by rw[←HF.out,←HHH.out];rfl)
 obtain⟨Z,hZ⟩:∃t,planT D.team (four4 F) (four4 HH)=t:=⟨_,rfl⟩
 obtain⟨u,hu⟩:∃x,((planU D.team (four4 F) (four4 HH)).length:Int)=x:=⟨_,rfl⟩
 obtain⟨ac,hac⟩:∃x,actN (planC D.team (four4 F) (four4 HH)) 4=x:=⟨_,rfl⟩
 obtain⟨ls,hls⟩:∃x,(u==0)=x:=⟨_,rfl⟩
 rw[hu,hls]at H6
 rw[hZ,hac]at H6
 simp only[hu,hls,hZ,hac]at hpl
 have HPL:=qh hpl
 clear hZ hu hac hls hpl HU
 go_upto_region 12 with(fail)
 refine wp_region_any (by kernel_rfl) ?_
 change wpAny _ _ _ _ _ _ _ (World.drew _)
 refine wpAny_take (i:=0) (v:=ptr b) rfl (by kernel_rfl) (by kernel_rfl) (by kernel_rfl) (fun _ _ _ h=>h) (Or.inl ⟨by rfl,by intro W;go_simp⟩) ?_
 refine wpAny_take (i:=1) (v:=ptr b) rfl (by kernel_rfl) (by kernel_rfl) (by kernel_rfl) (fun _ _ _ h=>h) (Or.inl ⟨by rfl,by intro W;go_simp⟩) ?_
 refine wpAny_head 2 8 11 (by kernel_rfl) rfl ?_
 simp only[List.drop_succ_cons,List.drop_zero,List.take_succ_cons,List.take_zero]
 repeat still_step
 refine wpStill_nil ?_
 refine wpAny_ready (rs:=[8]) (by kernel_rfl) (by simp) (AllReady.cons rfl (fun K hK=>?_) AllReady.nil)
 go_simp
 refine(HPL.out _).mono ?_
 rintro e20 w20 ⟨rfl,hb20⟩
 have hbb20:Below w19.heap.size w19 w20:=((Below.refl w19.heap.size w19).drew).trans (hb20.mono (by simp))
 have A20:=HA19.out.call hbw hbb20
 have x0:=A20.r.wat.c.2.1 41;have xa0:=A20.r.wat.c.at_ 41 rfl;have x1:=A20.r.wat.c.2.1 42;have xa1:=A20.r.wat.c.at_ 42 rfl;have x2:=A20.r.wat.c.2.1 43;have xa2:=A20.r.wat.c.at_ 43 rfl;have x3:=A20.r.wat.c.2.1 44;have xa3:=A20.r.wat.c.at_ 44 rfl;have x4:=A20.r.wat.c.2.1 45;have xa4:=A20.r.wat.c.at_ 45 rfl;have x5:=A20.r.wat.c.2.1 46;have xa5:=A20.r.wat.c.at_ 46 rfl;have x6:=A20.r.wat.c.2.1 47;have xa6:=A20.r.wat.c.at_ 47 rfl;have x7:=A20.r.wat.c.2.1 48;have xa7:=A20.r.wat.c.at_ 48 rfl;have x8:=A20.r.wat.c.2.1 49;have xa8:=A20.r.wat.c.at_ 49 rfl;have x9:=A20.r.wat.c.2.1 50;have xa9:=A20.r.wat.c.at_ 50 rfl;have x10:=A20.r.wat.c.2.1 51;have xa10:=A20.r.wat.c.at_ 51 rfl;have x11:=A20.r.wat.c.2.1 52;have xa11:=A20.r.wat.c.at_ 52 rfl;have x12:=A20.r.wat.c.2.1 120;have xa12:=A20.r.wat.c.at_ 120 rfl;have x13:=A20.r.wat.c.2.1 121;have xa13:=A20.r.wat.c.at_ 121 rfl;have x14:=A20.r.wat.c.2.1 122;have xa14:=A20.r.wat.c.at_ 122 rfl
 have xz:=A20.r.wat.lt
 have HA20:=qh A20
 clear A20 hb20 hbb20 HPL HA19 p0 p1 p2 p3 pz c0 c1 c2 c3 cz t0 t1 t2 t3 t4 t5 t6 t7 t8 t9 t10 t11 q0 tz
 refine hK _ _ ?_
 clear hK K
 refine wpAny_ready (rs:=[9]) (by kernel_rfl) (by simp) (AllReady.cons rfl (fun K hK=>?_) AllReady.nil)
 go_simp
 refine hK _ _ ?_
 clear hK K
 refine wpAny_take (i:=10) (v:=teamV Z) rfl (by kernel_rfl) (by kernel_rfl) (by kernel_rfl) (fun _ _ _ h=>h) (Or.inl ⟨by rfl,by intro W;go_simp⟩) ?_
 refine wpAny_take (i:=11) (v:=.agg #[.int .i64 u,.int .i64 ac,.bool ls]) rfl (by kernel_rfl) (by kernel_rfl) (by kernel_rfl) (fun _ _ _ h=>h) (Or.inl ⟨by rfl,by intro W;go_simp⟩) ?_
 refine wpAny_take (i:=12) (v:=.int .i64 0) rfl (by kernel_rfl) (by kernel_rfl) (by kernel_rfl) (fun _ _ _ h=>h) (Or.inl ⟨by rfl,by intro W;go_simp⟩) ?_
 refine wpAny_ready (rs:=[13]) (by kernel_rfl) (by simp) (AllReady.cons rfl (fun K hK=>?_) AllReady.nil)
 go_simp
 refine hK _ _ ?_
 clear hK K
 refine wpAny_ready (rs:=[14]) (by kernel_rfl) (by simp) (AllReady.cons rfl (fun K hK=>?_) AllReady.nil)
 go_simp
 refine hK _ _ ?_
 clear hK K
 refine wpAny_ready (rs:=[15]) (by kernel_rfl) (by simp) (AllReady.cons rfl (fun K hK=>?_) AllReady.nil)
 go_simp
 refine hK _ _ ?_
 clear hK K
 refine wpAny_ready (rs:=[16]) (by kernel_rfl) (by simp) (AllReady.cons rfl (fun K hK=>?_) AllReady.nil)
 go_simp
 refine hK _ _ ?_
 clear hK K
 refine wpAny_ready (rs:=[17]) (by kernel_rfl) (by simp) (AllReady.cons rfl (fun K hK=>?_) AllReady.nil)
 go_simp
 refine hK _ _ ?_
 clear hK K
 refine wpAny_ready (rs:=[18]) (by kernel_rfl) (by simp) (AllReady.cons rfl (fun K hK=>?_) AllReady.nil)
 go_simp
 refine hK _ _ ?_
 clear hK K
 refine⟨by kernel_rfl,?_⟩
 have A21:=HA20.out.grow hbw (grown_setT w20 b Z) (HA20.out.r.wat.teamSet Z rfl)
 have A22:=A21.grow hbw (grown_setP _ b u ac ls) (A21.r.wat.repSet u ac ls)
 obtain⟨w22,hw22⟩:∃x,setP (setT w20 b Z) b u ac ls=x:=⟨_,rfl⟩
 rw[hw22]at A22
 dsimp only[setP,setT]at hw22
 rw[hw22]
 have HA22:=qh A22
 have q0:w22.cell? ⟨b,122,none⟩=some (.bool ls):=A22.r.wat.c.at_ 122 rfl
 have qz:=A22.r.wat.lt
 clear hw22 A21 A22 HA20 x0 xa0 x1 xa1 x2 xa2 x3 xa3 x4 xa4 x5 xa5 x6 xa6 x7 xa7 x8 xa8 x9 xa9 x10 xa10 x11 xa11 x12 xa12 x13 xa13 x14 xa14 xz
 obtain⟨D6,hD6⟩:∃x,opD6 S D I=x:=⟨_,rfl⟩
 have hfr:D6.frame=D.frame:=by rw[←hD6];exact opD6_frame S D I
 have HND:Hid (NoteOk D6.frame D6.log):=qh (by rw[hfr,←hD6];exact logF_ok HD.out.noteOk 4 (by omega))
 have H6L:Hid (D6.lost=ls):=qh (by rw[←hD6,H6.out])
 have HO:Hid (opD S D I=if D6.lost=true∧D.lost=false then {D6 with log:=putL D6.log D6.frame 4 3}else D6):=qh (by rw[hfr,←hD6];rfl)
 have A23:RstAt w22 w b S D6 vp vl vga I:=by rw[←hD6,H6.out];exact HA22.out.r
 have HA23:=qh A23
 clear A23 HA22 hD6 hfr H6
 obtain⟨dl,hdl⟩:∃x,D.lost=x:=⟨_,rfl⟩
 rw[hdl]
 rw[hdl]at HO
 clear hdl
 cases ls
 ·have hend:=HO.out
  rw[if_neg (by rw[H6L.out];simp)]at hend
  have HE:=qh hend
  clear hend HO
  go_wp2_with fail
  exact bodyPost_end (v:=.tuple #[]) (by simp[results,Tryz.results82,go_sem]) rfl ⟨rfl,_,by rw[HE.out];exact HA23.out.wat,HA23.out.gr⟩
 ·cases dl
  ·have hend:=HO.out
   rw[if_pos ⟨H6L.out,rfl⟩]at hend
   have HE:=qh hend
   clear hend HO
   go_wp2_with fail
   refine(note_is HA23.out.wat (by exact HND.out) 4 3 (by omega) (by omega)).mono ?_
   rintro e6 w6 ⟨rfl,vg6,hW6,hg6,-⟩
   go_wp2_with fail
   exact bodyPost_end (v:=.tuple #[]) (by simp[results,Tryz.results82,go_sem]) rfl ⟨rfl,_,by rw[HE.out];exact hW6,grownBy_two HA23.out.gr hg6⟩
  ·have hend:=HO.out
   rw[if_neg (by simp)]at hend
   have HE:=qh hend
   clear hend HO
   go_wp2_with fail
   exact bodyPost_end (v:=.tuple #[]) (by simp[results,Tryz.results82,go_sem]) rfl ⟨rfl,_,by rw[HE.out];exact HA23.out.wat,HA23.out.gr⟩
end Go.Proofs.YtpkiepjmcepnoaaGreatDoor
