/- A part of a proof. -/
import Derived.Test.YtpkiepjmcepnoaaGreatDoorDzD
import Derived.Test.YtpkiepjmcepnoaaGreatDoorDzB
import Derived.Lib.SplitLaws
set_option maxHeartbeats 16000000
set_option maxRecDepth 100000
set_option linter.unusedVariables false
namespace Go.Proofs.YtpkiepjmcepnoaaGreatDoor
open Go.ChangeShapes Go.WideShapes Go.ChangeAt Go.RowKit
theorem set_reset {A:Nat→Prop} {w0 w:World} {bd b:Nat} {s:Dsk} (h:Desk A w0 w bd b s) (c:ByteArray) (v:Value) (ls:List ByteArray) (hv:RecsAt 1 strLay w v ls) (hc:c=resetZ) (hn:ls.length=1):
  Calls Tryz.prog 34 #[ptr bd,.string c,v] w (SetPost A w0 w bd b s (onLane (wd ls 0) fun n=>{s with I:={s.I with reset:=n}})):=by
 obtain⟨x,rfl⟩:∃x,ls=[x]:=List.length_eq_one_iff.1 hn
 obtain⟨b0,off,cp,rfl,hcp,x0⟩:=word0 hv
 have hcp:(1:Nat)≤cp:=hcp
 have H:=qh h
 change Calls _ _ #[ptr bd,.string c,.slice (some ⟨b0,off,none⟩) 1 cp] _ _
 have hwd:wd [x] 0=lst x:=rfl
 rw[hwd]
 clear h hv hn
 have e0:=tl_ne c ⟨#[111,105,108]⟩ [111,105,108] (ByteArray.toList_eq _) (by rw[hc];decide)
 have g0:¬c.toList=[111,105,108]:=by simpa using e0
 have e1:=tl_ne c ⟨#[108,111,97,100]⟩ [108,111,97,100] (ByteArray.toList_eq _) (by rw[hc];decide)
 have g1:¬c.toList=[108,111,97,100]:=by simpa using e1
 have e2:=tl_ne c ⟨#[115,116,105,99,107]⟩ [115,116,105,99,107] (ByteArray.toList_eq _) (by rw[hc];decide)
 have g2:¬c.toList=[115,116,105,99,107]:=by simpa using e2
 have e3:=tl_ne c ⟨#[98,108,105,110,100]⟩ [98,108,105,110,100] (ByteArray.toList_eq _) (by rw[hc];decide)
 have g3:¬c.toList=[98,108,105,110,100]:=by simpa using e3
 have e4:=tl_ne c ⟨#[109,101,110,100]⟩ [109,101,110,100] (ByteArray.toList_eq _) (by rw[hc];decide)
 have g4:¬c.toList=[109,101,110,100]:=by simpa using e4
 have e5:=tl_ne c ⟨#[97,105,114]⟩ [97,105,114] (ByteArray.toList_eq _) (by rw[hc];decide)
 have g5:¬c.toList=[97,105,114]:=by simpa using e5
 have e6:=tl_ne c ⟨#[103,114,111,117,110,100]⟩ [103,114,111,117,110,100] (ByteArray.toList_eq _) (by rw[hc];decide)
 have g6:¬c.toList=[103,114,111,117,110,100]:=by simpa using e6
 have e7:=tl_ne c ⟨#[97,115,107]⟩ [97,115,107] (ByteArray.toList_eq _) (by rw[hc];decide)
 have g7:¬c.toList=[97,115,107]:=by simpa using e7
 have e8:=tl_ne c ⟨#[116,114,121]⟩ [116,114,121] (ByteArray.toList_eq _) (by rw[hc];decide)
 have g8:¬c.toList=[116,114,121]:=by simpa using e8
 have e9:c.toList=[114,101,115,101,116]:=tl_eq c ⟨#[114,101,115,101,116]⟩ _ (ByteArray.toList_eq _) hc
 have e10:=tl_ne c ⟨#[110,111,105,115,101]⟩ [110,111,105,115,101] (ByteArray.toList_eq _) (by rw[hc];decide)
 have g10:¬c.toList=[110,111,105,115,101]:=by simpa using e10
 clear hc hwd
 have bad:∀C:Int,laneE (lst x)=.panicked (wrongP C)→Calls Tryz.prog 34 #[ptr bd,.string c,.slice (some ⟨b0,off,none⟩) 1 cp] w (SetPost A w0 w bd b s (.err C)):=fun C hC=>by
  have HF:=qh hC
  clear hC
  go_enter Tryz.func34,Tryz.ntmps34
  go_wp2_with fail
  refine(laneOf_is x _).mono ?_
  rintro e w1 ⟨rfl,hb1⟩
  rw[HF.out]
  exact⟨rfl,rfl,H.out.call hb1,(Grw.refl _ _ _).call hb1⟩
 unfold onLane
 cases hf:numN (lst x)with
 |none=>exact bad 10 (by unfold laneE;rw[hf])
 |some z=>
  by_cases hz:0≤z∧z<4
  ·have hl:laneE (lst x)=.returned (.int .i64 z):=by unfold laneE;rw[hf];exact if_pos hz
   dsimp only
   rw[if_pos hz]
   obtain⟨m,rfl⟩:∃m:Nat,z=m:=⟨z.toNat,by omega⟩
   rw[Int.toNat_natCast]
   have HF:=qh hl
   have HOK:=qh (rst_ok H.out.ok (m:Int) (by omega))
   clear hf hl bad
   go_enter Tryz.func34,Tryz.ntmps34
   go_wp2_with fail
   refine(laneOf_is x _).mono ?_
   rintro e w1 ⟨rfl,hb1⟩
   rw[HF.out]
   have D1:=H.out.call hb1
   have y:=D1.C.at_ 12 rfl;have f:=D1.C.2.1 12;have yz:=D1.C.lt
   have K:=qh (D1.set HOK.out 12 (.int .i64 m) (by decide) rfl rfl)
   have G:=qh (((Grw.refl bd b w).call hb1).row (grown_setW w1 bd 12 (.int .i64 m)) (.inl rfl))
   clear D1 hb1
   go_wp2_with fail
   go_ret
   exact⟨rfl,K.out,G.out⟩
  ·dsimp only
   rw[if_neg hz]
   exact bad 1 (by unfold laneE;rw[hf];exact if_neg hz)
theorem set_noise {A:Nat→Prop} {w0 w:World} {bd b:Nat} {s:Dsk} (h:Desk A w0 w bd b s) (c:ByteArray) (v:Value) (ls:List ByteArray) (hv:RecsAt 1 strLay w v ls) (hc:c=noiseZ) (hn:ls.length=1) (hsz:∀x∈ls,x.size≤5000):
  Calls Tryz.prog 34 #[ptr bd,.string c,v] w (SetPost A w0 w bd b s (.yes {s with I:={s.I with cmd:=ls.getD 0 ⟨#[]⟩}})):=by
 obtain⟨x,rfl⟩:∃x,ls=[x]:=List.length_eq_one_iff.1 hn
 obtain⟨b0,off,cp,rfl,hcp,x0⟩:=word0 hv
 have hcp:(1:Nat)≤cp:=hcp
 have hx:=hsz x (by simp)
 have H:=qh h
 change Calls _ _ #[ptr bd,.string c,.slice (some ⟨b0,off,none⟩) 1 cp] _ _
 have hwd:([x]:List ByteArray).getD 0 ⟨#[]⟩=x:=rfl
 rw[hwd]
 have y:=h.C.at_ 1 rfl;have f:=h.C.2.1 1;have yz:=h.C.lt
 have K:=qh (h.set (clr_ok h.ok x (by omega)) 1 (.string x) (by decide) rfl rfl)
 have G:=qh ((Grw.refl bd b w).row (grown_setW w bd 1 (.string x)) (.inl rfl))
 clear h hv hn hsz
 have e0:=tl_ne c ⟨#[111,105,108]⟩ [111,105,108] (ByteArray.toList_eq _) (by rw[hc];decide)
 have g0:¬c.toList=[111,105,108]:=by simpa using e0
 have e1:=tl_ne c ⟨#[108,111,97,100]⟩ [108,111,97,100] (ByteArray.toList_eq _) (by rw[hc];decide)
 have g1:¬c.toList=[108,111,97,100]:=by simpa using e1
 have e2:=tl_ne c ⟨#[115,116,105,99,107]⟩ [115,116,105,99,107] (ByteArray.toList_eq _) (by rw[hc];decide)
 have g2:¬c.toList=[115,116,105,99,107]:=by simpa using e2
 have e3:=tl_ne c ⟨#[98,108,105,110,100]⟩ [98,108,105,110,100] (ByteArray.toList_eq _) (by rw[hc];decide)
 have g3:¬c.toList=[98,108,105,110,100]:=by simpa using e3
 have e4:=tl_ne c ⟨#[109,101,110,100]⟩ [109,101,110,100] (ByteArray.toList_eq _) (by rw[hc];decide)
 have g4:¬c.toList=[109,101,110,100]:=by simpa using e4
 have e5:=tl_ne c ⟨#[97,105,114]⟩ [97,105,114] (ByteArray.toList_eq _) (by rw[hc];decide)
 have g5:¬c.toList=[97,105,114]:=by simpa using e5
 have e6:=tl_ne c ⟨#[103,114,111,117,110,100]⟩ [103,114,111,117,110,100] (ByteArray.toList_eq _) (by rw[hc];decide)
 have g6:¬c.toList=[103,114,111,117,110,100]:=by simpa using e6
 have e7:=tl_ne c ⟨#[97,115,107]⟩ [97,115,107] (ByteArray.toList_eq _) (by rw[hc];decide)
 have g7:¬c.toList=[97,115,107]:=by simpa using e7
 have e8:=tl_ne c ⟨#[116,114,121]⟩ [116,114,121] (ByteArray.toList_eq _) (by rw[hc];decide)
 have g8:¬c.toList=[116,114,121]:=by simpa using e8
 have e9:=tl_ne c ⟨#[114,101,115,101,116]⟩ [114,101,115,101,116] (ByteArray.toList_eq _) (by rw[hc];decide)
 have g9:¬c.toList=[114,101,115,101,116]:=by simpa using e9
 have e10:c.toList=[110,111,105,115,101]:=tl_eq c ⟨#[110,111,105,115,101]⟩ _ (ByteArray.toList_eq _) hc
 clear hc hwd
 go_enter Tryz.func34,Tryz.ntmps34
 go_wp2_with fail
 go_ret
 exact⟨rfl,K.out,G.out⟩
theorem oil_ok {s:Dsk} (h:DskOk s) (n m:Int) (hn: -2147483648≤n∧n≤2147483647) (hm: -2147483648≤m∧m≤2147483647):DskOk {s with I:={s.I with p0:=n,p1:=m}}:=⟨h.good,⟨h.inp.cmd,hn,hm,h.inp.load,h.inp.f,h.inp.ask,h.inp.reset⟩,h.q⟩
theorem oil1_ok {s:Dsk} (h:DskOk s) (n:Int) (hn: -2147483648≤n∧n≤2147483647):DskOk {s with I:={s.I with p0:=n}}:=⟨h.good,⟨h.inp.cmd,hn,h.inp.p1,h.inp.load,h.inp.f,h.inp.ask,h.inp.reset⟩,h.q⟩
theorem word1 {w:World} {b0 off cp n:Nat} {x y:ByteArray} {r:List ByteArray} (h:RecsAt 1 strLay w (.slice (some ⟨b0,off,none⟩) n cp) (x::y::r)):w.cell? ⟨b0,off+1,none⟩=some (.string y):=by
 obtain⟨b,o,cap,hv,h1,h2,hc⟩:=h.at_ (show(x::y::r)[1]?=some y from rfl)
 cases hv
 simpa[strLay]using hc 0 (by omega)
theorem set_oil {A:Nat→Prop} {w0 w:World} {bd b:Nat} {s:Dsk} (h:Desk A w0 w bd b s) (c:ByteArray) (v:Value) (ls:List ByteArray) (hv:RecsAt 1 strLay w v ls) (hc:c=oilZ) (hn:ls.length=2) (hoff:OffB bd v):
  Calls Tryz.prog 34 #[ptr bd,.string c,v] w (SetPost A w0 w bd b s ((match fixN (wd ls 0),fixN (wd ls 1)with|some a,some c=>.yes {s with I:={s.I with p0:=a,p1:=c}}|_,_=>.err 10))):=by
 obtain⟨x,y,rfl⟩:∃x y,ls=[x,y]:=by
  match ls,hn with
  |[x,y],_=>exact⟨x,y,rfl⟩
 obtain⟨b0,off,cp,rfl,hcp,x0⟩:=word0 hv
 have x1:=word1 hv
 have hne:b0≠bd:=hoff _ _ _ _ _ rfl
 clear hoff
 have hcp:(2:Nat)≤cp:=hcp
 have H:=qh h
 change Calls _ _ #[ptr bd,.string c,.slice (some ⟨b0,off,none⟩) 2 cp] _ _
 have hwd:wd [x,y] 0=lst x:=rfl
 have hwd1:wd [x,y] 1=lst y:=rfl
 rw[hwd,hwd1]
 clear h hv hn
 have e0:c.toList=[111,105,108]:=tl_eq c ⟨#[111,105,108]⟩ _ (ByteArray.toList_eq _) hc
 have e1:=tl_ne c ⟨#[108,111,97,100]⟩ [108,111,97,100] (ByteArray.toList_eq _) (by rw[hc];decide)
 have g1:¬c.toList=[108,111,97,100]:=by simpa using e1
 have e2:=tl_ne c ⟨#[115,116,105,99,107]⟩ [115,116,105,99,107] (ByteArray.toList_eq _) (by rw[hc];decide)
 have g2:¬c.toList=[115,116,105,99,107]:=by simpa using e2
 have e3:=tl_ne c ⟨#[98,108,105,110,100]⟩ [98,108,105,110,100] (ByteArray.toList_eq _) (by rw[hc];decide)
 have g3:¬c.toList=[98,108,105,110,100]:=by simpa using e3
 have e4:=tl_ne c ⟨#[109,101,110,100]⟩ [109,101,110,100] (ByteArray.toList_eq _) (by rw[hc];decide)
 have g4:¬c.toList=[109,101,110,100]:=by simpa using e4
 have e5:=tl_ne c ⟨#[97,105,114]⟩ [97,105,114] (ByteArray.toList_eq _) (by rw[hc];decide)
 have g5:¬c.toList=[97,105,114]:=by simpa using e5
 have e6:=tl_ne c ⟨#[103,114,111,117,110,100]⟩ [103,114,111,117,110,100] (ByteArray.toList_eq _) (by rw[hc];decide)
 have g6:¬c.toList=[103,114,111,117,110,100]:=by simpa using e6
 have e7:=tl_ne c ⟨#[97,115,107]⟩ [97,115,107] (ByteArray.toList_eq _) (by rw[hc];decide)
 have g7:¬c.toList=[97,115,107]:=by simpa using e7
 have e8:=tl_ne c ⟨#[116,114,121]⟩ [116,114,121] (ByteArray.toList_eq _) (by rw[hc];decide)
 have g8:¬c.toList=[116,114,121]:=by simpa using e8
 have e9:=tl_ne c ⟨#[114,101,115,101,116]⟩ [114,101,115,101,116] (ByteArray.toList_eq _) (by rw[hc];decide)
 have g9:¬c.toList=[114,101,115,101,116]:=by simpa using e9
 have e10:=tl_ne c ⟨#[110,111,105,115,101]⟩ [110,111,105,115,101] (ByteArray.toList_eq _) (by rw[hc];decide)
 have g10:¬c.toList=[110,111,105,115,101]:=by simpa using e10
 clear hc hwd hwd1
 cases hf:fixN (lst x)with
 |none=>
  have HF:Hid (fixE (lst x)=.panicked (wrongP 10)):=qh (by unfold fixE;rw[hf])
  clear hf
  go_enter Tryz.func34,Tryz.ntmps34
  go_upto_region 3 with(fail)
  refine wp_region_held_drew (S:=fun w'=>w'.cell? ⟨b0,off,none⟩=some (.string x)∧w'.cell? ⟨b0,off+1,none⟩=some (.string y)) (by kernel_rfl) ⟨x0,x1⟩ (fun hHeld=>?_)
  refine wpAnyH_take (i:=0) (v:=ptr bd) rfl (by kernel_rfl) (by kernel_rfl) (by kernel_rfl) (fun _ _ _ h=>h) (Or.inl ⟨by rfl,by intro W hSw;(try dsimp only at hSw);go_simp⟩) (by assumption) ?_
  refine wpAnyH_take (i:=1) (v:=.slice (some ⟨b0,off,none⟩) 2 cp) rfl (by kernel_rfl) (by kernel_rfl) (by kernel_rfl) (fun _ _ _ h=>h) (Or.inl ⟨by rfl,by intro W hSw;(try dsimp only at hSw);go_simp⟩) (by assumption) ?_
  refine wpAnyH_take (i:=2) (v:=.pointer (some ⟨b0,off,none⟩)) rfl (by kernel_rfl) (by kernel_rfl) (by kernel_rfl) (fun _ _ _ h=>h) (Or.inl ⟨by rfl,by intro W hSw;(try dsimp only at hSw);go_simp⟩) (by assumption) ?_
  refine wpAnyH_take (i:=3) (v:=.string x) rfl (by kernel_rfl) (by kernel_rfl) (by kernel_rfl) (fun _ _ _ h=>h) (Or.inl ⟨by rfl,by intro W hSw;(try dsimp only at hSw);go_simp⟩) (by assumption) ?_
  refine wpAnyH_take (i:=5) (v:=.slice (some ⟨b0,off,none⟩) 2 cp) rfl (by kernel_rfl) (by kernel_rfl) (by kernel_rfl) (fun _ _ _ h=>h) (Or.inl ⟨by rfl,by intro W hSw;(try dsimp only at hSw);go_simp⟩) (by assumption) ?_
  refine wpAnyH_take (i:=6) (v:=.pointer (some ⟨b0,off+1,none⟩)) rfl (by kernel_rfl) (by kernel_rfl) (by kernel_rfl) (fun _ _ _ h=>h) (Or.inl ⟨by rfl,by intro W hSw;(try dsimp only at hSw);go_simp⟩) (by assumption) ?_
  refine wpAnyH_take (i:=7) (v:=.string y) rfl (by kernel_rfl) (by kernel_rfl) (by kernel_rfl) (fun _ _ _ h=>h) (Or.inl ⟨by rfl,by intro W hSw;(try dsimp only at hSw);go_simp⟩) (by assumption) ?_
  refine wpAnyH_ready (rs:=[4]) (by kernel_rfl) (by simp) (AllReadyH.cons rfl (fun K hK=>?_) AllReadyH.nil)
  go_simp
  refine(fixed_is x _).mono ?_
  rintro e w1 ⟨rfl,hb1⟩
  rw[HF.out]
  exact⟨rfl,rfl,(H.out.call (bLr).drew).call hb1,((Grw.refl _ _ _).call (bLr).drew).call hb1⟩
 |some n=>
  have HF:Hid (fixE (lst x)=.returned (.int .i32 n)):=qh (by unfold fixE;rw[hf])
  have hnb:=fixN_bd hf
  clear hf
  cases hf:fixN (lst y)with
  |none=>
   have HF1:Hid (fixE (lst y)=.panicked (wrongP 10)):=qh (by unfold fixE;rw[hf])
   clear hf
   go_enter Tryz.func34,Tryz.ntmps34
   go_upto_region 3 with(fail)
   refine wp_region_held_drew (S:=fun w'=>w'.cell? ⟨b0,off,none⟩=some (.string x)∧w'.cell? ⟨b0,off+1,none⟩=some (.string y)) (by kernel_rfl) ⟨x0,x1⟩ (fun hHeld=>?_)
   refine wpAnyH_take (i:=0) (v:=ptr bd) rfl (by kernel_rfl) (by kernel_rfl) (by kernel_rfl) (fun _ _ _ h=>h) (Or.inl ⟨by rfl,by intro W hSw;(try dsimp only at hSw);go_simp⟩) (by assumption) ?_
   refine wpAnyH_take (i:=1) (v:=.slice (some ⟨b0,off,none⟩) 2 cp) rfl (by kernel_rfl) (by kernel_rfl) (by kernel_rfl) (fun _ _ _ h=>h) (Or.inl ⟨by rfl,by intro W hSw;(try dsimp only at hSw);go_simp⟩) (by assumption) ?_
   refine wpAnyH_take (i:=2) (v:=.pointer (some ⟨b0,off,none⟩)) rfl (by kernel_rfl) (by kernel_rfl) (by kernel_rfl) (fun _ _ _ h=>h) (Or.inl ⟨by rfl,by intro W hSw;(try dsimp only at hSw);go_simp⟩) (by assumption) ?_
   refine wpAnyH_take (i:=3) (v:=.string x) rfl (by kernel_rfl) (by kernel_rfl) (by kernel_rfl) (fun _ _ _ h=>h) (Or.inl ⟨by rfl,by intro W hSw;(try dsimp only at hSw);go_simp⟩) (by assumption) ?_
   refine wpAnyH_take (i:=5) (v:=.slice (some ⟨b0,off,none⟩) 2 cp) rfl (by kernel_rfl) (by kernel_rfl) (by kernel_rfl) (fun _ _ _ h=>h) (Or.inl ⟨by rfl,by intro W hSw;(try dsimp only at hSw);go_simp⟩) (by assumption) ?_
   refine wpAnyH_take (i:=6) (v:=.pointer (some ⟨b0,off+1,none⟩)) rfl (by kernel_rfl) (by kernel_rfl) (by kernel_rfl) (fun _ _ _ h=>h) (Or.inl ⟨by rfl,by intro W hSw;(try dsimp only at hSw);go_simp⟩) (by assumption) ?_
   refine wpAnyH_take (i:=7) (v:=.string y) rfl (by kernel_rfl) (by kernel_rfl) (by kernel_rfl) (fun _ _ _ h=>h) (Or.inl ⟨by rfl,by intro W hSw;(try dsimp only at hSw);go_simp⟩) (by assumption) ?_
   refine wpAnyH_ready (rs:=[4]) (by kernel_rfl) (by simp) (AllReadyH.cons rfl (fun K hK=>?_) AllReadyH.nil)
   go_simp
   refine(fixed_is x _).mono ?_
   rintro e w1 ⟨rfl,hb1⟩
   rw[HF.out]
   refine hK.out _ _ (⟨cell_later hb1 x0,cell_later hb1 x1⟩) (fun hHeld=>?_)
   clear hK K
   refine wpAnyH_ready (rs:=[8]) (by kernel_rfl) (by simp) (AllReadyH.cons rfl (fun K hK=>?_) AllReadyH.nil)
   go_simp
   refine(fixed_is y _).mono ?_
   rintro e w2 ⟨rfl,hb2⟩
   rw[HF1.out]
   exact⟨rfl,rfl,((H.out.call (bLr).drew).call hb1).call hb2,(((Grw.refl _ _ _).call (bLr).drew).call hb1).call hb2⟩
  |some m=>
   have HF1:Hid (fixE (lst y)=.returned (.int .i32 m)):=qh (by unfold fixE;rw[hf])
   have hmb:=fixN_bd hf
   clear hf
   have HO1:=qh (oil1_ok H.out.ok n hnb)
   have HO2:=qh (oil_ok H.out.ok n m hnb hmb)
   clear hnb hmb
   go_enter Tryz.func34,Tryz.ntmps34
   go_upto_region 3 with(fail)
   refine wp_region_held_drew (S:=fun w'=>w'.cell? ⟨b0,off,none⟩=some (.string x)∧w'.cell? ⟨b0,off+1,none⟩=some (.string y)) (by kernel_rfl) ⟨x0,x1⟩ (fun hHeld=>?_)
   refine wpAnyH_take (i:=0) (v:=ptr bd) rfl (by kernel_rfl) (by kernel_rfl) (by kernel_rfl) (fun _ _ _ h=>h) (Or.inl ⟨by rfl,by intro W hSw;(try dsimp only at hSw);go_simp⟩) (by assumption) ?_
   refine wpAnyH_take (i:=1) (v:=.slice (some ⟨b0,off,none⟩) 2 cp) rfl (by kernel_rfl) (by kernel_rfl) (by kernel_rfl) (fun _ _ _ h=>h) (Or.inl ⟨by rfl,by intro W hSw;(try dsimp only at hSw);go_simp⟩) (by assumption) ?_
   refine wpAnyH_take (i:=2) (v:=.pointer (some ⟨b0,off,none⟩)) rfl (by kernel_rfl) (by kernel_rfl) (by kernel_rfl) (fun _ _ _ h=>h) (Or.inl ⟨by rfl,by intro W hSw;(try dsimp only at hSw);go_simp⟩) (by assumption) ?_
   refine wpAnyH_take (i:=3) (v:=.string x) rfl (by kernel_rfl) (by kernel_rfl) (by kernel_rfl) (fun _ _ _ h=>h) (Or.inl ⟨by rfl,by intro W hSw;(try dsimp only at hSw);go_simp⟩) (by assumption) ?_
   refine wpAnyH_take (i:=5) (v:=.slice (some ⟨b0,off,none⟩) 2 cp) rfl (by kernel_rfl) (by kernel_rfl) (by kernel_rfl) (fun _ _ _ h=>h) (Or.inl ⟨by rfl,by intro W hSw;(try dsimp only at hSw);go_simp⟩) (by assumption) ?_
   refine wpAnyH_take (i:=6) (v:=.pointer (some ⟨b0,off+1,none⟩)) rfl (by kernel_rfl) (by kernel_rfl) (by kernel_rfl) (fun _ _ _ h=>h) (Or.inl ⟨by rfl,by intro W hSw;(try dsimp only at hSw);go_simp⟩) (by assumption) ?_
   refine wpAnyH_take (i:=7) (v:=.string y) rfl (by kernel_rfl) (by kernel_rfl) (by kernel_rfl) (fun _ _ _ h=>h) (Or.inl ⟨by rfl,by intro W hSw;(try dsimp only at hSw);go_simp⟩) (by assumption) ?_
   refine wpAnyH_ready (rs:=[4]) (by kernel_rfl) (by simp) (AllReadyH.cons rfl (fun K hK=>?_) AllReadyH.nil)
   go_simp
   refine(fixed_is x _).mono ?_
   rintro e w1 ⟨rfl,hb1⟩
   rw[HF.out]
   refine hK.out _ _ (⟨cell_later hb1 x0,cell_later hb1 x1⟩) (fun hHeld=>?_)
   clear hK K
   refine wpAnyH_ready (rs:=[8]) (by kernel_rfl) (by simp) (AllReadyH.cons rfl (fun K hK=>?_) AllReadyH.nil)
   go_simp
   refine(fixed_is y _).mono ?_
   rintro e w2 ⟨rfl,hb2⟩
   rw[HF1.out]
   refine hK.out _ _ (⟨cell_later hb2 (cell_later hb1 x0),cell_later hb2 (cell_later hb1 x1)⟩) (fun hHeld=>?_)
   clear hK K
   have D2:=((H.out.call (bLr).drew).call hb1).call hb2
   have G2:=(((Grw.refl bd b w).call (bLr).drew).call hb1).call hb2
   have y2:=D2.C.at_ 2 rfl;have y3:=D2.C.at_ 3 rfl;have f2:=D2.C.2.1 2;have f3:=D2.C.2.1 3;have yz:=D2.C.lt
   have K3:=D2.set HO1.out 2 (.int .i32 n) (by decide) rfl rfl
   have K4:=qh (K3.set HO2.out 3 (.int .i32 m) (by decide) rfl rfl)
   have G4:=qh ((G2.row (grown_setW w2 bd 2 (.int .i32 n)) (.inl rfl)).row (grown_setW _ bd 3 (.int .i32 m)) (.inl rfl))
   have hS2:w2.cell? ⟨b0,off,none⟩=some (.string x)∧w2.cell? ⟨b0,off+1,none⟩=some (.string y):=hHeld
   clear D2 G2 K3 hb1 hb2
   refine wpAnyH_take (i:=9) (v:=.agg #[.int .i32 n,.int .i32 m]) rfl (by kernel_rfl) (by kernel_rfl) (by kernel_rfl) (fun _ _ _ h=>h) (Or.inl ⟨by rfl,by intro W hSw;(try dsimp only at hSw);go_simp⟩) (by assumption) ?_
   refine wpAnyH_take (i:=10) (v:=ptr bd) rfl (by kernel_rfl) (by kernel_rfl) (by kernel_rfl) (fun _ _ _ h=>h) (Or.inl ⟨by rfl,by intro W hSw;(try dsimp only at hSw);go_simp⟩) (by assumption) ?_
   refine wpAnyH_take (i:=11) (v:=.pointer (some ⟨bd,1,none⟩)) rfl (by kernel_rfl) (by kernel_rfl) (by kernel_rfl) (fun _ _ _ h=>h) (Or.inl ⟨by rfl,by intro W hSw;(try dsimp only at hSw);go_simp⟩) (by assumption) ?_
   refine wpAnyH_take (i:=12) (v:=.pointer (some ⟨bd,2,none⟩)) rfl (by kernel_rfl) (by kernel_rfl) (by kernel_rfl) (fun _ _ _ h=>h) (Or.inl ⟨by rfl,by intro W hSw;(try dsimp only at hSw);go_simp⟩) (by assumption) ?_
   refine wpAnyH_ready (rs:=[13]) (by kernel_rfl) (by simp) (AllReadyH.cons rfl (fun K hK=>?_) AllReadyH.nil)
   go_simp
   refine hK.out _ _ (⟨(grown_setW _ bd 3 (.int .i32 m)).cell ((grown_setW w2 bd 2 (.int .i32 n)).cell hS2.1 (by simpa using hne)) (by simpa using hne),(grown_setW _ bd 3 (.int .i32 m)).cell ((grown_setW w2 bd 2 (.int .i32 n)).cell hS2.2 (by simpa using hne)) (by simpa using hne)⟩) (fun hHeld=>?_)
   clear hK K
   refine wpAnyH_done (by kernel_rfl) ?_ _
   go_wp2_with fail
   go_ret
   exact⟨rfl,K4.out,G4.out⟩
theorem set_is {A:Nat→Prop} {w0 w:World} {bd b:Nat} {s:Dsk} (h:Desk A w0 w bd b s) (c:ByteArray) (v:Value) (ls:List ByteArray) (hv:RecsAt 1 strLay w v ls) (hsz:∀x∈ls,x.size≤5000) (hoff:OffB bd v):
  Calls Tryz.prog 34 #[ptr bd,.string c,v] w (SetPost A w0 w bd b s (setO c ls s)):=by
 by_cases n0:c=oilZ
 ·by_cases hn:ls.length=2
  ·have e:setO c ls s=(match fixN (wd ls 0),fixN (wd ls 1)with|some a,some c=>.yes {s with I:={s.I with p0:=a,p1:=c}}|_,_=>.err 10):=by unfold setO;rw[if_pos ⟨n0,hn⟩]<;>rfl
   rw[e];exact set_oil h c v ls hv n0 hn hoff
  ·have e:setO c ls s=.no:=by unfold setO;rw[if_neg (by rintro⟨-,h⟩;exact hn h),if_neg (by rintro⟨h,-⟩;rw[n0]at h;revert h;decide),if_neg (by rintro⟨h,-⟩;rw[n0]at h;revert h;decide),if_neg (by rintro⟨h,-⟩;rw[n0]at h;revert h;decide),if_neg (by rintro⟨h,-⟩;rw[n0]at h;revert h;decide),if_neg (by rintro⟨h,-⟩;rw[n0]at h;revert h;decide),if_neg (by rintro⟨h,-⟩;rw[n0]at h;revert h;decide),if_neg (by rintro⟨h,-⟩;rw[n0]at h;revert h;decide),if_neg (by rintro⟨h,-⟩;rw[n0]at h;revert h;decide),if_neg (by rintro⟨h,-⟩;rw[n0]at h;revert h;decide),if_neg (by rintro⟨h,-⟩;rw[n0]at h;revert h;decide)]
   rw[e];exact set_len_oil h c v ls hv n0 hn
 by_cases n1:c=loadZ
 ·by_cases hn:ls.length=1
  ·have e:setO c ls s=onFix (wd ls 0) fun a=>{s with I:={s.I with load:=a}}:=by unfold setO;rw[if_neg (by rintro⟨h,-⟩;exact n0 h),if_pos ⟨n1,hn⟩]<;>rfl
   rw[e];exact set_load h c v ls hv n1 hn
  ·have e:setO c ls s=.no:=by unfold setO;rw[if_neg (by rintro⟨h,-⟩;exact n0 h),if_neg (by rintro⟨-,h⟩;exact hn h),if_neg (by rintro⟨h,-⟩;rw[n1]at h;revert h;decide),if_neg (by rintro⟨h,-⟩;rw[n1]at h;revert h;decide),if_neg (by rintro⟨h,-⟩;rw[n1]at h;revert h;decide),if_neg (by rintro⟨h,-⟩;rw[n1]at h;revert h;decide),if_neg (by rintro⟨h,-⟩;rw[n1]at h;revert h;decide),if_neg (by rintro⟨h,-⟩;rw[n1]at h;revert h;decide),if_neg (by rintro⟨h,-⟩;rw[n1]at h;revert h;decide),if_neg (by rintro⟨h,-⟩;rw[n1]at h;revert h;decide),if_neg (by rintro⟨h,-⟩;rw[n1]at h;revert h;decide)]
   rw[e];exact set_len_load h c v ls hv n1 hn
 by_cases n2:c=stickZ
 ·by_cases hn:ls.length=1
  ·have e:setO c ls s=onLane (wd ls 0) fun n=>setF s n (bits BinOp.or IntKind.i64 (s.I.f n) 1):=by unfold setO;rw[if_neg (by rintro⟨h,-⟩;exact n0 h),if_neg (by rintro⟨h,-⟩;exact n1 h),if_pos ⟨n2,hn⟩]<;>rfl
   rw[e];exact set_stick h c v ls hv n2 hn
  ·have e:setO c ls s=.no:=by unfold setO;rw[if_neg (by rintro⟨h,-⟩;exact n0 h),if_neg (by rintro⟨h,-⟩;exact n1 h),if_neg (by rintro⟨-,h⟩;exact hn h),if_neg (by rintro⟨h,-⟩;rw[n2]at h;revert h;decide),if_neg (by rintro⟨h,-⟩;rw[n2]at h;revert h;decide),if_neg (by rintro⟨h,-⟩;rw[n2]at h;revert h;decide),if_neg (by rintro⟨h,-⟩;rw[n2]at h;revert h;decide),if_neg (by rintro⟨h,-⟩;rw[n2]at h;revert h;decide),if_neg (by rintro⟨h,-⟩;rw[n2]at h;revert h;decide),if_neg (by rintro⟨h,-⟩;rw[n2]at h;revert h;decide),if_neg (by rintro⟨h,-⟩;rw[n2]at h;revert h;decide)]
   rw[e];exact set_len_stick h c v ls hv n2 hn
 by_cases n3:c=blindZ
 ·by_cases hn:ls.length=1
  ·have e:setO c ls s=onLane (wd ls 0) fun n=>setF s n (bits BinOp.or IntKind.i64 (s.I.f n) 2):=by unfold setO;rw[if_neg (by rintro⟨h,-⟩;exact n0 h),if_neg (by rintro⟨h,-⟩;exact n1 h),if_neg (by rintro⟨h,-⟩;exact n2 h),if_pos ⟨n3,hn⟩]<;>rfl
   rw[e];exact set_blind h c v ls hv n3 hn
  ·have e:setO c ls s=.no:=by unfold setO;rw[if_neg (by rintro⟨h,-⟩;exact n0 h),if_neg (by rintro⟨h,-⟩;exact n1 h),if_neg (by rintro⟨h,-⟩;exact n2 h),if_neg (by rintro⟨-,h⟩;exact hn h),if_neg (by rintro⟨h,-⟩;rw[n3]at h;revert h;decide),if_neg (by rintro⟨h,-⟩;rw[n3]at h;revert h;decide),if_neg (by rintro⟨h,-⟩;rw[n3]at h;revert h;decide),if_neg (by rintro⟨h,-⟩;rw[n3]at h;revert h;decide),if_neg (by rintro⟨h,-⟩;rw[n3]at h;revert h;decide),if_neg (by rintro⟨h,-⟩;rw[n3]at h;revert h;decide),if_neg (by rintro⟨h,-⟩;rw[n3]at h;revert h;decide)]
   rw[e];exact set_len_blind h c v ls hv n3 hn
 by_cases n4:c=mendZ
 ·by_cases hn:ls.length=1
  ·have e:setO c ls s=onLane (wd ls 0) fun n=>setF s n 0:=by unfold setO;rw[if_neg (by rintro⟨h,-⟩;exact n0 h),if_neg (by rintro⟨h,-⟩;exact n1 h),if_neg (by rintro⟨h,-⟩;exact n2 h),if_neg (by rintro⟨h,-⟩;exact n3 h),if_pos ⟨n4,hn⟩]<;>rfl
   rw[e];exact set_mend h c v ls hv n4 hn
  ·have e:setO c ls s=.no:=by unfold setO;rw[if_neg (by rintro⟨h,-⟩;exact n0 h),if_neg (by rintro⟨h,-⟩;exact n1 h),if_neg (by rintro⟨h,-⟩;exact n2 h),if_neg (by rintro⟨h,-⟩;exact n3 h),if_neg (by rintro⟨-,h⟩;exact hn h),if_neg (by rintro⟨h,-⟩;rw[n4]at h;revert h;decide),if_neg (by rintro⟨h,-⟩;rw[n4]at h;revert h;decide),if_neg (by rintro⟨h,-⟩;rw[n4]at h;revert h;decide),if_neg (by rintro⟨h,-⟩;rw[n4]at h;revert h;decide),if_neg (by rintro⟨h,-⟩;rw[n4]at h;revert h;decide),if_neg (by rintro⟨h,-⟩;rw[n4]at h;revert h;decide)]
   rw[e];exact set_len_mend h c v ls hv n4 hn
 by_cases n5:c=airZ
 ·by_cases hn:ls.length=0
  ·have e:setO c ls s=.yes {s with I:={s.I with ground:=false}}:=by unfold setO;rw[if_neg (by rintro⟨h,-⟩;exact n0 h),if_neg (by rintro⟨h,-⟩;exact n1 h),if_neg (by rintro⟨h,-⟩;exact n2 h),if_neg (by rintro⟨h,-⟩;exact n3 h),if_neg (by rintro⟨h,-⟩;exact n4 h),if_pos ⟨n5,hn⟩]<;>rfl
   rw[e];exact set_air h c v ls hv n5 hn
  ·have e:setO c ls s=.no:=by unfold setO;rw[if_neg (by rintro⟨h,-⟩;exact n0 h),if_neg (by rintro⟨h,-⟩;exact n1 h),if_neg (by rintro⟨h,-⟩;exact n2 h),if_neg (by rintro⟨h,-⟩;exact n3 h),if_neg (by rintro⟨h,-⟩;exact n4 h),if_neg (by rintro⟨-,h⟩;exact hn h),if_neg (by rintro⟨h,-⟩;rw[n5]at h;revert h;decide),if_neg (by rintro⟨h,-⟩;rw[n5]at h;revert h;decide),if_neg (by rintro⟨h,-⟩;rw[n5]at h;revert h;decide),if_neg (by rintro⟨h,-⟩;rw[n5]at h;revert h;decide),if_neg (by rintro⟨h,-⟩;rw[n5]at h;revert h;decide)]
   rw[e];exact set_len_air h c v ls hv n5 hn
 by_cases n6:c=groundZ
 ·by_cases hn:ls.length=0
  ·have e:setO c ls s=.yes {s with I:={s.I with ground:=true}}:=by unfold setO;rw[if_neg (by rintro⟨h,-⟩;exact n0 h),if_neg (by rintro⟨h,-⟩;exact n1 h),if_neg (by rintro⟨h,-⟩;exact n2 h),if_neg (by rintro⟨h,-⟩;exact n3 h),if_neg (by rintro⟨h,-⟩;exact n4 h),if_neg (by rintro⟨h,-⟩;exact n5 h),if_pos ⟨n6,hn⟩]<;>rfl
   rw[e];exact set_ground h c v ls hv n6 hn
  ·have e:setO c ls s=.no:=by unfold setO;rw[if_neg (by rintro⟨h,-⟩;exact n0 h),if_neg (by rintro⟨h,-⟩;exact n1 h),if_neg (by rintro⟨h,-⟩;exact n2 h),if_neg (by rintro⟨h,-⟩;exact n3 h),if_neg (by rintro⟨h,-⟩;exact n4 h),if_neg (by rintro⟨h,-⟩;exact n5 h),if_neg (by rintro⟨-,h⟩;exact hn h),if_neg (by rintro⟨h,-⟩;rw[n6]at h;revert h;decide),if_neg (by rintro⟨h,-⟩;rw[n6]at h;revert h;decide),if_neg (by rintro⟨h,-⟩;rw[n6]at h;revert h;decide),if_neg (by rintro⟨h,-⟩;rw[n6]at h;revert h;decide)]
   rw[e];exact set_len_ground h c v ls hv n6 hn
 by_cases n7:c=askZ
 ·by_cases hn:ls.length=1
  ·have e:setO c ls s=(match numN (wd ls 0)with|some n=>.yes {s with I:={s.I with ask:=n}}|none=>.err 10):=by unfold setO;rw[if_neg (by rintro⟨h,-⟩;exact n0 h),if_neg (by rintro⟨h,-⟩;exact n1 h),if_neg (by rintro⟨h,-⟩;exact n2 h),if_neg (by rintro⟨h,-⟩;exact n3 h),if_neg (by rintro⟨h,-⟩;exact n4 h),if_neg (by rintro⟨h,-⟩;exact n5 h),if_neg (by rintro⟨h,-⟩;exact n6 h),if_pos ⟨n7,hn⟩]<;>rfl
   rw[e];exact set_ask h c v ls hv n7 hn
  ·have e:setO c ls s=.no:=by unfold setO;rw[if_neg (by rintro⟨h,-⟩;exact n0 h),if_neg (by rintro⟨h,-⟩;exact n1 h),if_neg (by rintro⟨h,-⟩;exact n2 h),if_neg (by rintro⟨h,-⟩;exact n3 h),if_neg (by rintro⟨h,-⟩;exact n4 h),if_neg (by rintro⟨h,-⟩;exact n5 h),if_neg (by rintro⟨h,-⟩;exact n6 h),if_neg (by rintro⟨-,h⟩;exact hn h),if_neg (by rintro⟨h,-⟩;rw[n7]at h;revert h;decide),if_neg (by rintro⟨h,-⟩;rw[n7]at h;revert h;decide),if_neg (by rintro⟨h,-⟩;rw[n7]at h;revert h;decide)]
   rw[e];exact set_len_ask h c v ls hv n7 hn
 by_cases n8:c=tryZ
 ·by_cases hn:ls.length=0
  ·have e:setO c ls s=.yes {s with I:={s.I with tries:=true}}:=by unfold setO;rw[if_neg (by rintro⟨h,-⟩;exact n0 h),if_neg (by rintro⟨h,-⟩;exact n1 h),if_neg (by rintro⟨h,-⟩;exact n2 h),if_neg (by rintro⟨h,-⟩;exact n3 h),if_neg (by rintro⟨h,-⟩;exact n4 h),if_neg (by rintro⟨h,-⟩;exact n5 h),if_neg (by rintro⟨h,-⟩;exact n6 h),if_neg (by rintro⟨h,-⟩;exact n7 h),if_pos ⟨n8,hn⟩]<;>rfl
   rw[e];exact set_try h c v ls hv n8 hn
  ·have e:setO c ls s=.no:=by unfold setO;rw[if_neg (by rintro⟨h,-⟩;exact n0 h),if_neg (by rintro⟨h,-⟩;exact n1 h),if_neg (by rintro⟨h,-⟩;exact n2 h),if_neg (by rintro⟨h,-⟩;exact n3 h),if_neg (by rintro⟨h,-⟩;exact n4 h),if_neg (by rintro⟨h,-⟩;exact n5 h),if_neg (by rintro⟨h,-⟩;exact n6 h),if_neg (by rintro⟨h,-⟩;exact n7 h),if_neg (by rintro⟨-,h⟩;exact hn h),if_neg (by rintro⟨h,-⟩;rw[n8]at h;revert h;decide),if_neg (by rintro⟨h,-⟩;rw[n8]at h;revert h;decide)]
   rw[e];exact set_len_try h c v ls hv n8 hn
 by_cases n9:c=resetZ
 ·by_cases hn:ls.length=1
  ·have e:setO c ls s=onLane (wd ls 0) fun n=>{s with I:={s.I with reset:=n}}:=by unfold setO;rw[if_neg (by rintro⟨h,-⟩;exact n0 h),if_neg (by rintro⟨h,-⟩;exact n1 h),if_neg (by rintro⟨h,-⟩;exact n2 h),if_neg (by rintro⟨h,-⟩;exact n3 h),if_neg (by rintro⟨h,-⟩;exact n4 h),if_neg (by rintro⟨h,-⟩;exact n5 h),if_neg (by rintro⟨h,-⟩;exact n6 h),if_neg (by rintro⟨h,-⟩;exact n7 h),if_neg (by rintro⟨h,-⟩;exact n8 h),if_pos ⟨n9,hn⟩]<;>rfl
   rw[e];exact set_reset h c v ls hv n9 hn
  ·have e:setO c ls s=.no:=by unfold setO;rw[if_neg (by rintro⟨h,-⟩;exact n0 h),if_neg (by rintro⟨h,-⟩;exact n1 h),if_neg (by rintro⟨h,-⟩;exact n2 h),if_neg (by rintro⟨h,-⟩;exact n3 h),if_neg (by rintro⟨h,-⟩;exact n4 h),if_neg (by rintro⟨h,-⟩;exact n5 h),if_neg (by rintro⟨h,-⟩;exact n6 h),if_neg (by rintro⟨h,-⟩;exact n7 h),if_neg (by rintro⟨h,-⟩;exact n8 h),if_neg (by rintro⟨-,h⟩;exact hn h),if_neg (by rintro⟨h,-⟩;rw[n9]at h;revert h;decide)]
   rw[e];exact set_len_reset h c v ls hv n9 hn
 by_cases n10:c=noiseZ
 ·by_cases hn:ls.length=1
  ·have e:setO c ls s=.yes {s with I:={s.I with cmd:=ls.getD 0 ⟨#[]⟩}}:=by unfold setO;rw[if_neg (by rintro⟨h,-⟩;exact n0 h),if_neg (by rintro⟨h,-⟩;exact n1 h),if_neg (by rintro⟨h,-⟩;exact n2 h),if_neg (by rintro⟨h,-⟩;exact n3 h),if_neg (by rintro⟨h,-⟩;exact n4 h),if_neg (by rintro⟨h,-⟩;exact n5 h),if_neg (by rintro⟨h,-⟩;exact n6 h),if_neg (by rintro⟨h,-⟩;exact n7 h),if_neg (by rintro⟨h,-⟩;exact n8 h),if_neg (by rintro⟨h,-⟩;exact n9 h),if_pos ⟨n10,hn⟩]<;>rfl
   rw[e];exact set_noise h c v ls hv n10 hn hsz
  ·have e:setO c ls s=.no:=by unfold setO;rw[if_neg (by rintro⟨h,-⟩;exact n0 h),if_neg (by rintro⟨h,-⟩;exact n1 h),if_neg (by rintro⟨h,-⟩;exact n2 h),if_neg (by rintro⟨h,-⟩;exact n3 h),if_neg (by rintro⟨h,-⟩;exact n4 h),if_neg (by rintro⟨h,-⟩;exact n5 h),if_neg (by rintro⟨h,-⟩;exact n6 h),if_neg (by rintro⟨h,-⟩;exact n7 h),if_neg (by rintro⟨h,-⟩;exact n8 h),if_neg (by rintro⟨h,-⟩;exact n9 h),if_neg (by rintro⟨-,h⟩;exact hn h)]
   rw[e];exact set_len_noise h c v ls hv n10 hn
 have e:setO c ls s=.no:=by unfold setO;rw[if_neg (by rintro⟨h,-⟩;exact n0 h),if_neg (by rintro⟨h,-⟩;exact n1 h),if_neg (by rintro⟨h,-⟩;exact n2 h),if_neg (by rintro⟨h,-⟩;exact n3 h),if_neg (by rintro⟨h,-⟩;exact n4 h),if_neg (by rintro⟨h,-⟩;exact n5 h),if_neg (by rintro⟨h,-⟩;exact n6 h),if_neg (by rintro⟨h,-⟩;exact n7 h),if_neg (by rintro⟨h,-⟩;exact n8 h),if_neg (by rintro⟨h,-⟩;exact n9 h),if_neg (by rintro⟨h,-⟩;exact n10 h)]
 rw[e];exact set_none h c v ls hv n0 n1 n2 n3 n4 n5 n6 n7 n8 n9 n10
abbrev pcs (c:UInt8) (s:ByteArray):List ByteArray:=Lib.splitB ⟨#[c]⟩ 0 (Lib.countB s ⟨#[c]⟩) s
def fullB (s:ByteArray):Bool:= !s.toList.isEmpty
def wordsL (s:ByteArray):List ByteArray:=(pcs 32 s).filter fullB
theorem pcs_len (c:UInt8) (s:ByteArray):(pcs c s).length=Lib.countB s ⟨#[c]⟩+1:=Lib.splitB_all (⟨#[c]⟩:ByteArray) (Nat.le_refl 1) 0 _ s rfl
theorem pcs_le (c:UInt8) (s:ByteArray):(pcs c s).length≤s.size+1:=by
 rw[pcs_len]
 have:=Lib.countB_le ⟨#[c]⟩ (Nat.le_refl 1) s.size s (Nat.le_refl _)
 omega
theorem splitB_size (sep:ByteArray):∀(k:Nat) (s x:ByteArray),x∈Lib.splitB sep 0 k s→x.size≤s.size
 |0,s,x,h=>by
  rw[Lib.splitB_zero,List.mem_singleton]at h
  rw[h];exact Nat.le_refl _
 |k+1,s,x,h=>by
  unfold Lib.splitB at h
  split at h
  ·rw[List.mem_singleton]at h;rw[h];exact Nat.le_refl _
  ·rcases List.mem_cons.1 h with rfl|h
   ·rw[ByteArray.size_extract];omega
   ·have:=splitB_size sep k _ x h
    rw[ByteArray.size_extract]at this
    omega
theorem pcs_size (c:UInt8) (s x:ByteArray) (h:x∈pcs c s):x.size≤s.size:=splitB_size _ _ _ _ h
theorem wordsL_size (s x:ByteArray) (h:x∈wordsL s):x.size≤s.size:=pcs_size 32 s x (List.mem_filter.1 h).1
theorem infoStr:(Tryz.prog.info? 9).map (fun i=>(i.zero,i.size,i.bytes))=some (some (.string ⟨#[]⟩),1,16):=by kernel_rfl
theorem map_take_cell {w:World} {g:Nat} {xs:List ByteArray} (h:w.heap[g]?=some (.cells (xs.map Value.string).toArray 9 (0,0))) {k:Nat} {s:ByteArray} (hs:xs[k]?=some s):w.cell? ⟨g,k,none⟩=some (.string s):=by
 rw[Lib.cell_of_heap h]
 simp[hs]
theorem own_strs {w:World} {base:Nat} {v:Value} {xs:List ByteArray} (h:w.ownsRow base 9 1 v xs.length (xs.map .string)):RecsAt 1 strLay w v xs:=by
 by_cases h0:xs=[]
 ·subst h0
  rcases h.2 with⟨hv,-⟩|⟨g,cap,cur,hv,-⟩
  ·exact .inl ⟨rfl,.inl hv⟩
  ·exact .inl ⟨rfl,.inr ⟨_,cap,hv⟩⟩
 ·rcases h.2 with⟨-,hn⟩|⟨g,cap,cur,hv,hb,hblk,hl,hm,-,-⟩
  ·exact absurd (List.eq_nil_of_length_eq_zero hn) h0
  ·subst hv
   refine .inr ⟨List.length_pos_iff.2 h0,g,0,cap,rfl,hl,by unfold maxLen at hm;exact hm,fun i x hi j hj=>?_⟩
   obtain rfl:j=0:=by omega
   have hi2:=(List.getElem?_eq_some_iff.1 hi).1
   have:=h.cellAt i (by omega)
   simpa[strLay,hi]using this
theorem recs_tail {w:World} {g n cap:Nat} {c:ByteArray} {rest:List ByteArray} (h:RecsAt 1 strLay w (.slice (some ⟨g,0,none⟩) n cap) (c::rest)):RecsAt 1 strLay w (.slice (some ⟨g,1,none⟩) rest.length (cap-1)) rest:=by
 by_cases h0:rest=[]
 ·subst h0;exact .inl ⟨rfl,.inr ⟨_,_,rfl⟩⟩
 ·rcases h with⟨e,-⟩|⟨h1,b,off,cp,hv,h2,h3,h4⟩
  ·cases e
  ·cases hv
   refine .inr ⟨List.length_pos_iff.2 h0,g,1,cap-1,rfl,?_,?_,fun i x hi j hj=>?_⟩
   ·simp at h2;omega
   ·omega
   ·have:=h4 (i+1) x (by simpa using hi) j hj
    simpa[Nat.add_comm,Nat.add_left_comm]using this
theorem tail_is {w:World} {g n cap:Nat} {c:ByteArray} {rest:List ByteArray} (h:RecsAt 1 strLay w (.slice (some ⟨g,0,none⟩) n cap) (c::rest)) (hn:n=rest.length+1) (hc:n≤cap):
  ∃a2 c2,(∀W:World,(Instr.slice 22 (.slice (some ⟨g,0,none⟩) n cap) (some (.int .i64 1)) none none).run Tryz.prog W=.ok (.slice a2 rest.length c2) W)∧RecsAt 1 strLay w (.slice a2 rest.length c2) rest∧∀B,g≠B→OffB B (.slice a2 rest.length c2):=by
 have hi:Tryz.prog.underlying 22=some (.slice 9):=Tryz.underlying22
 have hs:(Tryz.prog.info? 9).map (·.size)=some 1:=by kernel_rfl
 by_cases hcap:cap=1
 ·subst hcap
  obtain rfl:rest=[]:=List.eq_nil_of_length_eq_zero (by omega)
  subst hn
  exact⟨some ⟨g,0,none⟩,0,fun W=>by kernel_rfl,.inl ⟨rfl,.inr ⟨_,_,rfl⟩⟩,by rintro B hg b' o m l k e;cases e;exact hg⟩
 ·refine⟨some ⟨g,1,none⟩,cap-1,fun W=>?_,recs_tail h,by rintro B hg b' o m l k e;cases e;exact hg⟩
  have h1:(1:Int)≤n:=by omega
  have h2:(n:Int)≤cap:=by omega
  have h3:(1:Int)<cap:=by omega
  have h4:1<cap:=by omega
  go_simp
  intro hh
  exact absurd hh (by omega)
theorem recs_grw {bd b:Nat} {w w':World} {v:Value} {xs:List ByteArray} (h:RecsAt 1 strLay w v xs) (g:Grw bd b w w') (h1:OffB bd v) (h2:OffB b v):RecsAt 1 strLay w' v xs:=by
 rcases h with h|⟨h0,b',off,cap,rfl,hl,hm,hx⟩
 ·exact .inl h
 ·refine .inr ⟨h0,b',off,cap,rfl,hl,hm,fun i x hi j hj=>?_⟩
  have h3:=hx i x hi j hj
  obtain⟨u,hu⟩:∃u,(strLay x)[j]?=some u:=⟨_,List.getElem?_eq_getElem (by simpa[strLay]using hj)⟩
  rw[hu]at h3
  rw[World.cell?_of_block (g.block b' (World.block_lt_of_cell? _ _ h3) (h1 b' off none _ _ rfl) (h2 b' off none _ _ rfl)),h3,hu]
end Go.Proofs.YtpkiepjmcepnoaaGreatDoor
