/- A part of a proof. -/
import Derived.Deep.RegionHeld3
import Derived.Test.YtpkiepjmcepnoaaGreatDoorPtU
import Derived.Test.YtpkiepjmcepnoaaGreatDoorPtS
import Derived.Test.YtpkiepjmcepnoaaGreatDoorPtY
set_option maxHeartbeats 16000000
set_option maxRecDepth 100000
namespace Go.Proofs.YtpkiepjmcepnoaaGreatDoor
open Go.ChangeShapes Go.WideShapes Go.ChangeAt Go.RowKit
set_option linter.unusedVariables false
def trlJ (S:Stp) (I:Inp) (j:Nat):Trl:=⟨S.gain,S.drag,S.low,S.high,S.rate,S.soft,S.P,S.I,S.D,S.lo,S.hi,(if j<2 then I.p0 else I.p1),I.load,stuckB (I.f j)⟩
noncomputable def tstJ (S:Stp) (D:Dyn) (I:Inp) (j:Nat):Nat×Rig:=testS (trlJ S I j) S.prof 0 ⟨D.pos,D.vel,D.pos,0,0,0⟩
noncomputable def badJ (S:Stp) (D:Dyn) (I:Inp) (j:Nat):Bool:=decide ((tstJ S D I j).1<S.prof.length)||blindB (I.f j)
noncomputable def tryLog (S:Stp) (D:Dyn) (I:Inp):Nat→List EntR
 |0=>D.log
 |k+1=>if badJ S D I k then putL (tryLog S D I k) D.frame k 4 else tryLog S D I k
noncomputable def tryPass (S:Stp) (D:Dyn) (I:Inp):Nat→Bool
 |0=>true
 |k+1=>tryPass S D I k&& !badJ S D I k
noncomputable def tryD (S:Stp) (D:Dyn) (I:Inp):Dyn:=
 if(testedI D.mm D.mp D.mg (tryPass S D I 4)).2=0 then {D with log:=tryLog S D I 4,mm:=(testedI D.mm D.mp D.mg (tryPass S D I 4)).1.1,mp:=(testedI D.mm D.mp D.mg (tryPass S D I 4)).1.2.1,mg:=(testedI D.mm D.mp D.mg (tryPass S D I 4)).1.2.2}else {D with log:=putL (tryLog S D I 4) D.frame 4 2}
theorem tryLog_ok {S:Stp} {D:Dyn} {I:Inp} (h:NoteOk D.frame D.log):∀k,k≤4→NoteOk D.frame (tryLog S D I k)
 |0,_=>h
 |k+1,hk=>by
  have ih:=tryLog_ok (S:=S) (I:=I) h k (by omega)
  unfold tryLog;split
  ·exact logOk_put ih (by omega) (by omega)
  ·exact ih
theorem tryD_good {S:Stp} {D:Dyn} (I:Inp) (h:DynOk S D):DynOk S (tryD S D I):=by
 have h4:=tryLog_ok (S:=S) (I:=I) h.noteOk 4 (Nat.le_refl _)
 unfold tryD
 split
 ·rename_i h1
  refine {h with mode:=?_,log:=h4.log,last:=h4.last}
  have hm:=h.mode
  show ModeOk (testedI D.mm D.mp D.mg (tryPass S D I 4)).1.1 (testedI D.mm D.mp D.mg (tryPass S D I 4)).1.2.1 (testedI D.mm D.mp D.mg (tryPass S D I 4)).1.2.2
  unfold testedI at h1⊢
  split at h1
  ·exact absurd h1 (by decide)
  ·rename_i h2
   rw[if_neg h2]
   show ModeOk D.mm (tryPass S D I 4) D.mg
   exact .inl (by omega)
 ·have h5:=logOk_put h4 (lane:=4) (code:=2) (by omega) (by omega)
  exact {h with log:=h5.log,last:=h5.last}
theorem trlJ_ok {S:Stp} (hS:StpOk S) {I:Inp} (hI:InpOk I) (j:Nat):TrlOk (trlJ S I j):=by
 refine⟨hS.inn.gain,hS.inn.low,hS.inn.high,hS.inn.rate,hS.inn.P,hS.inn.I,hS.inn.D,hS.inn.lo,hS.inn.hi,?_,hI.load⟩
 show-2147483648≤(if j<2 then I.p0 else I.p1)∧(if j<2 then I.p0 else I.p1)≤2147483647
 split
 ·exact hI.p0
 ·exact hI.p1
def TryRel (w0:World) (b:Nat) (S:Stp) (D:Dyn) (vp vl:Value) (I:Inp) (p i:Value) (wr:World):Prop:=
 ∃k:Nat,k≤4∧i=.int .i64 k∧p=.bool (tryPass S D I k)∧∃vg,RstAt wr w0 b S {D with log:=tryLog S D I k} vp vl vg I
theorem tryStep {S:Stp} {D:Dyn} {I:Inp} (hS:StpOk S) (hD:DynOk S D) (hI:InpOk I) (k:Nat) {vp:Value} {w':World} (hp:RecsAt 3 pointLay w' vp S.prof):
  Calls Tryz.prog 108 #[trialV (trlJ S I k) D.pos D.vel,vp] w' fun e w''=>e=.returned (.tuple #[.int .i64 (tstJ S D I k).1,.agg #[.int .i32 (tstJ S D I k).2.pos,.int .i32 (tstJ S D I k).2.vel],.int .i64 0])∧Below w'.heap.size w' w'':=
 strokeTest_yes (trlJ S I k) D.pos D.vel S.prof vp w' (trlJ_ok hS hI k) hp hS.inn.prof hS.pts (ram_ok hS hD.pos) hS.srv
theorem try_is {b:Nat} {S:Stp} {D:Dyn} {I:Inp} {vp vl vg:Value} {w:World} (h:WAt w b S D vp vl vg) (hS:StpOk S) (hD:DynOk S D) (hI:InpOk I):
  Calls Tryz.prog 81 #[ptr b,inV I] w fun e w'=>e=.returned (.tuple #[])∧∃vg',WAt w' b S (tryD S D I) vp vl vg'∧w.grownBy w' (some b):=by
 have HS:=qh hS;have HD:=qh hD;have HI:=qh hI
 obtain⟨w3,hw3⟩:∃x,w.alloc (.cells #[.string I.cmd,.int .i32 I.p0,.int .i32 I.p1,.int .i32 I.load,.int .i64 (I.f 0),.int .i64 (I.f 1),.int .i64 (I.f 2),.int .i64 (I.f 3),.bool I.ground,.int .i64 I.ask,.bool I.tries,.int .i64 I.reset] 55)=x:=⟨_,rfl⟩
 obtain⟨ap,cp,hvp⟩:=h.p.len
 subst hvp
 have b3:Below w.heap.size w w3:=hw3▸(bLr).alloc (Nat.le_refl _) _
 have R3:RstAt w3 w b S D (.slice ap S.prof.length cp) vl vg I:=⟨h.call b3,hw3▸CellsAt.new w (inL I) _ _ rfl,grown_of_below b3 (some b)⟩
 have hbw:=h.lt
 have HR3:=qh R3
 have HW3:=qh hw3
 have HST:=qh (fun(k:Nat) (vp:Value) (w':World) (hp:RecsAt 3 pointLay w' vp S.prof)=>tryStep hS hD hI k hp)
 clear h hS hD hI hw3 b3 R3
 go_enter Tryz.func81,Tryz.ntmps81
 go_upto_region 1 with(fail)
 rw[HW3.out]
 go_wp2_with fail
 go_loopw [4,12] (fun p i wr=>TryRel w b S D (.slice ap S.prof.length cp) vl I p i wr) (fun _ i _=>4-(intOf i).toNat)
 case atStart=>exact⟨0,by omega,rfl,rfl,vg,HR3.out⟩
 case round=>
  clear HR3 HW3
  obtain⟨k,hk,rfl,rfl,vgk,hR⟩:=hrel
  have HR:=qh hR
  by_cases hlt:k<4
  ·have e5:(k:Int)<4:=by omega
   obtain⟨f,hf⟩:∃x,I.f k=x:=⟨_,rfl⟩
   obtain⟨st,hst⟩:∃x,stuckB (I.f k)=x:=⟨_,rfl⟩
   obtain⟨bl,hbl⟩:∃x,blindB (I.f k)=x:=⟨_,rfl⟩
   obtain⟨oil,hoil⟩:∃x,(if k<2 then I.p0 else I.p1)=x:=⟨_,rfl⟩
   obtain⟨kh,hkh⟩:∃n,k/2=n:=⟨_,rfl⟩
   have hfi:(inL I)[4+k]?=some (.int .i64 f):=by rw[←hf];exact inL_f I hlt
   have hoi:(inL I)[1+kh]?=some (.int .i32 oil):=by rw[←hkh,←hoil];rcases(by omega:k=0∨k=1∨k=2∨k=3)with rfl|rfl|rfl|rfl<;>rfl
   have hqt:(k:Int).tdiv 2=(kh:Int):=by rw[←hkh];rcases(by omega:k=0∨k=1∨k=2∨k=3)with rfl|rfl|rfl|rfl<;>rfl
   have hkl:kh<2:=by omega
   have hstb:(bits BinOp.and IntKind.i64 f 1 != 0)=st:=by rw[←hf];exact hst
   have hblb:Hid ((bits BinOp.and IntKind.i64 f 2 != 0)=bl):=qh (by rw[←hf];exact hbl)
   obtain⟨R,hR7⟩:∃x,tstJ S D I k=x:=⟨_,rfl⟩
   have HSK:Hid (∀w',RecsAt 3 pointLay w' (.slice ap S.prof.length cp) S.prof→Calls Tryz.prog 108 #[.agg #[.int .i32 S.gain,.int .i64 S.drag,.int .i32 S.low,.int .i32 S.high,.int .i32 D.pos,.int .i32 D.vel,.int .i32 S.rate,.int .i64 S.soft,.int .i32 S.P,.int .i32 S.I,.int .i32 S.D,.int .i32 S.lo,.int .i32 S.hi,.int .i32 oil,.int .i32 I.load,.bool st],.slice ap S.prof.length cp] w' fun e w''=>e=.returned (.tuple #[.int .i64 R.1,.agg #[.int .i32 R.2.pos,.int .i32 R.2.vel],.int .i64 0])∧Below w'.heap.size w' w''):=qh (fun w' hp=>by rw[←hR7,←hst,←hoil];exact HST.out k _ w' hp)
   have HLN:Hid (tryLog S D I (k+1)=if(decide (R.1<S.prof.length)||bl)=true then putL (tryLog S D I k) D.frame k 4 else tryLog S D I k):=qh (by rw[←hR7,←hbl];rfl)
   have HPN:Hid (tryPass S D I (k+1)=(tryPass S D I k&& !(decide (R.1<S.prof.length)||bl))):=qh (by rw[←hR7,←hbl];rfl)
   generalize tryPass S D I k=ps at HPN⊢
   have g0:wr.cell? ⟨b,0,none⟩=some (.int .i32 S.gain):=hR.wat.c.at_ 0 rfl
   have g1:wr.cell? ⟨b,1,none⟩=some (.int .i64 S.drag):=hR.wat.c.at_ 1 rfl
   have g2:wr.cell? ⟨b,2,none⟩=some (.int .i32 S.low):=hR.wat.c.at_ 2 rfl
   have g3:wr.cell? ⟨b,3,none⟩=some (.int .i32 S.high):=hR.wat.c.at_ 3 rfl
   have g4:wr.cell? ⟨b,118,none⟩=some (.int .i32 D.pos):=hR.wat.c.at_ 118 rfl
   have g5:wr.cell? ⟨b,119,none⟩=some (.int .i32 D.vel):=hR.wat.c.at_ 119 rfl
   have g6:wr.cell? ⟨b,4,none⟩=some (.int .i32 S.rate):=hR.wat.c.at_ 4 rfl
   have g7:wr.cell? ⟨b,5,none⟩=some (.int .i64 S.soft):=hR.wat.c.at_ 5 rfl
   have g8:wr.cell? ⟨b,6,none⟩=some (.int .i32 S.P):=hR.wat.c.at_ 6 rfl
   have g9:wr.cell? ⟨b,7,none⟩=some (.int .i32 S.I):=hR.wat.c.at_ 7 rfl
   have g10:wr.cell? ⟨b,8,none⟩=some (.int .i32 S.D):=hR.wat.c.at_ 8 rfl
   have g11:wr.cell? ⟨b,9,none⟩=some (.int .i32 S.lo):=hR.wat.c.at_ 9 rfl
   have g12:wr.cell? ⟨b,10,none⟩=some (.int .i32 S.hi):=hR.wat.c.at_ 10 rfl
   have j0:wr.cell? ⟨w.heap.size,1+kh,none⟩=some (.int .i32 oil):=hR.ci.at_ (1+kh) hoi
   have j1:wr.cell? ⟨w.heap.size,3,none⟩=some (.int .i32 I.load):=hR.ci.at_ (3) rfl
   have j2:wr.cell? ⟨w.heap.size,4+k,none⟩=some (.int .i64 f):=hR.ci.at_ (4+k) hfi
   have k0:∀o,(wr.alloc o).cell? ⟨b,0,none⟩=some (.int .i32 S.gain):=fun o=>(HR.out.wat.c.alloc o).at_ 0 rfl
   have k1:∀o,(wr.alloc o).cell? ⟨b,1,none⟩=some (.int .i64 S.drag):=fun o=>(HR.out.wat.c.alloc o).at_ 1 rfl
   have k2:∀o,(wr.alloc o).cell? ⟨b,2,none⟩=some (.int .i32 S.low):=fun o=>(HR.out.wat.c.alloc o).at_ 2 rfl
   have k3:∀o,(wr.alloc o).cell? ⟨b,3,none⟩=some (.int .i32 S.high):=fun o=>(HR.out.wat.c.alloc o).at_ 3 rfl
   have k4:∀o,(wr.alloc o).cell? ⟨b,118,none⟩=some (.int .i32 D.pos):=fun o=>(HR.out.wat.c.alloc o).at_ 118 rfl
   have k5:∀o,(wr.alloc o).cell? ⟨b,119,none⟩=some (.int .i32 D.vel):=fun o=>(HR.out.wat.c.alloc o).at_ 119 rfl
   have k6:∀o,(wr.alloc o).cell? ⟨b,4,none⟩=some (.int .i32 S.rate):=fun o=>(HR.out.wat.c.alloc o).at_ 4 rfl
   have k7:∀o,(wr.alloc o).cell? ⟨b,5,none⟩=some (.int .i64 S.soft):=fun o=>(HR.out.wat.c.alloc o).at_ 5 rfl
   have k8:∀o,(wr.alloc o).cell? ⟨b,6,none⟩=some (.int .i32 S.P):=fun o=>(HR.out.wat.c.alloc o).at_ 6 rfl
   have k9:∀o,(wr.alloc o).cell? ⟨b,7,none⟩=some (.int .i32 S.I):=fun o=>(HR.out.wat.c.alloc o).at_ 7 rfl
   have k10:∀o,(wr.alloc o).cell? ⟨b,8,none⟩=some (.int .i32 S.D):=fun o=>(HR.out.wat.c.alloc o).at_ 8 rfl
   have k11:∀o,(wr.alloc o).cell? ⟨b,9,none⟩=some (.int .i32 S.lo):=fun o=>(HR.out.wat.c.alloc o).at_ 9 rfl
   have k12:∀o,(wr.alloc o).cell? ⟨b,10,none⟩=some (.int .i32 S.hi):=fun o=>(HR.out.wat.c.alloc o).at_ 10 rfl
   have l0:∀o,(wr.alloc o).cell? ⟨w.heap.size,1+kh,none⟩=some (.int .i32 oil):=fun o=>(HR.out.ci.alloc o).at_ (1+kh) hoi
   have l1:∀o,(wr.alloc o).cell? ⟨w.heap.size,3,none⟩=some (.int .i32 I.load):=fun o=>(HR.out.ci.alloc o).at_ (3) rfl
   have l2:∀o,(wr.alloc o).cell? ⟨w.heap.size,4+k,none⟩=some (.int .i64 f):=fun o=>(HR.out.ci.alloc o).at_ (4+k) hfi
   have gz:=hR.wat.lt;have jz:=hR.ci.lt
   obtain⟨wC,hwC⟩:∃x,(wr.alloc (.cells #[.int .i32 S.gain,.int .i64 S.drag,.int .i32 S.low,.int .i32 S.high,.int .i32 D.pos,.int .i32 D.vel,.int .i32 S.rate,.int .i64 S.soft,.int .i32 S.P,.int .i32 S.I,.int .i32 S.D,.int .i32 S.lo,.int .i32 S.hi,.int .i32 oil,.int .i32 I.load,.bool st] 194)).drew=x:=⟨_,rfl⟩
   have RC':RstAt wC w b S {D with log:=tryLog S D I k} (.slice ap S.prof.length cp) vl vgk I:=hR.call hbw (hwC▸((bLr).alloc (Nat.le_refl _) _).drew)
   have RC:=qh RC'
   have LC:Hid (CellsAt wC wr.heap.size [.int .i32 S.gain,.int .i64 S.drag,.int .i32 S.low,.int .i32 S.high,.int .i32 D.pos,.int .i32 D.vel,.int .i32 S.rate,.int .i64 S.soft,.int .i32 S.P,.int .i32 S.I,.int .i32 S.D,.int .i32 S.lo,.int .i32 S.hi,.int .i32 oil,.int .i32 I.load,.bool st]):=qh (hwC▸(CellsAt.new' rfl rfl).drew)
   have HWC:=qh hwC
   have HRF:Hid (∀wx:World,RstAt wx w b S {D with log:=tryLog S D I k} (.slice ap S.prof.length cp) vl vgk I→wx.cell? ⟨w.heap.size,4+k,none⟩=some (.int .i64 f)):=qh (fun wx h=>h.ci.at_ (4+k) hfi)
   clear RC' hwC hf hst hbl hR7 hR hoil hkh hfi hoi
   go_upto_region 5 with(fail)
   go_cut [6,12]from 12 to 73 (fun s6 s12 wx=>s6=.pointer (some ⟨wr.heap.size,0,none⟩)∧s12=.int .i64 (k:Int)∧wC=wx)
   case first=>
    have hq1:IntKind.i64.wrap (kh:Int)=kh:=by rcases(by omega:kh=0∨kh=1)with rfl|rfl<;>decide
    have hq2:(kh:Int)<2:=by omega
    have hq3:(0:Int)≤kh:=by omega
    go_region_held3 (fun w'=>w'.cell? ⟨b,0,none⟩=some (.int .i32 S.gain)∧w'.cell? ⟨b,1,none⟩=some (.int .i64 S.drag)∧w'.cell? ⟨b,2,none⟩=some (.int .i32 S.low)∧w'.cell? ⟨b,3,none⟩=some (.int .i32 S.high)∧w'.cell? ⟨b,118,none⟩=some (.int .i32 D.pos)∧w'.cell? ⟨b,119,none⟩=some (.int .i32 D.vel)∧w'.cell? ⟨b,4,none⟩=some (.int .i32 S.rate)∧w'.cell? ⟨b,5,none⟩=some (.int .i64 S.soft)∧w'.cell? ⟨b,6,none⟩=some (.int .i32 S.P)∧w'.cell? ⟨b,7,none⟩=some (.int .i32 S.I)∧w'.cell? ⟨b,8,none⟩=some (.int .i32 S.D)∧w'.cell? ⟨b,9,none⟩=some (.int .i32 S.lo)∧w'.cell? ⟨b,10,none⟩=some (.int .i32 S.hi)∧w'.cell? ⟨w.heap.size,1+kh,none⟩=some (.int .i32 oil)∧w'.cell? ⟨w.heap.size,3,none⟩=some (.int .i32 I.load)∧w'.cell? ⟨w.heap.size,4+k,none⟩=some (.int .i64 f)) (first|exact⟨g0,g1,g2,g3,g4,g5,g6,g7,g8,g9,g10,g11,g12,j0,j1,j2⟩|exact⟨k0 _,k1 _,k2 _,k3 _,k4 _,k5 _,k6 _,k7 _,k8 _,k9 _,k10 _,k11 _,k12 _,l0 _,l1 _,l2 _⟩) (fail)
    all_goals
     go_wp2_with fail
     go_meet
     exact⟨rfl,rfl,HWC.out.symm⟩
   case rest=>
   obtain⟨rfl,rfl,rfl⟩:=hcut
   clear k0 k1 k2 k3 k4 k5 k6 k7 k8 k9 k10 k11 k12 l0 l1 l2 g0 g1 g2 g3 g4 g5 g6 g7 g8 g9 g10 g11 g12 j0 j1 gz hstb hqt
   have n0:=LC.out.lt
   have K0:wC.cell? ⟨wr.heap.size,0,none⟩=some (.int .i32 S.gain)∧wC.cell? ⟨wr.heap.size,1,none⟩=some (.int .i64 S.drag)∧wC.cell? ⟨wr.heap.size,2,none⟩=some (.int .i32 S.low)∧wC.cell? ⟨wr.heap.size,3,none⟩=some (.int .i32 S.high)∧wC.cell? ⟨wr.heap.size,4,none⟩=some (.int .i32 D.pos)∧wC.cell? ⟨wr.heap.size,5,none⟩=some (.int .i32 D.vel)∧wC.cell? ⟨wr.heap.size,6,none⟩=some (.int .i32 S.rate)∧wC.cell? ⟨wr.heap.size,7,none⟩=some (.int .i64 S.soft)∧wC.cell? ⟨wr.heap.size,8,none⟩=some (.int .i32 S.P)∧wC.cell? ⟨wr.heap.size,9,none⟩=some (.int .i32 S.I)∧wC.cell? ⟨wr.heap.size,10,none⟩=some (.int .i32 S.D)∧wC.cell? ⟨wr.heap.size,11,none⟩=some (.int .i32 S.lo)∧wC.cell? ⟨wr.heap.size,12,none⟩=some (.int .i32 S.hi)∧wC.cell? ⟨wr.heap.size,13,none⟩=some (.int .i32 oil)∧wC.cell? ⟨wr.heap.size,14,none⟩=some (.int .i32 I.load)∧wC.cell? ⟨wr.heap.size,15,none⟩=some (.bool st)∧wC.cell? ⟨b,22,none⟩=some (.slice ap S.prof.length cp):=⟨(LC.out).at_ 0 rfl,(LC.out).at_ 1 rfl,(LC.out).at_ 2 rfl,(LC.out).at_ 3 rfl,(LC.out).at_ 4 rfl,(LC.out).at_ 5 rfl,(LC.out).at_ 6 rfl,(LC.out).at_ 7 rfl,(LC.out).at_ 8 rfl,(LC.out).at_ 9 rfl,(LC.out).at_ 10 rfl,(LC.out).at_ 11 rfl,(LC.out).at_ 12 rfl,(LC.out).at_ 13 rfl,(LC.out).at_ 14 rfl,(LC.out).at_ 15 rfl,(RC.out).wat.c.at_ 22 rfl⟩
   have K1:∀o,(wC.alloc o).cell? ⟨wr.heap.size,0,none⟩=some (.int .i32 S.gain)∧(wC.alloc o).cell? ⟨wr.heap.size,1,none⟩=some (.int .i64 S.drag)∧(wC.alloc o).cell? ⟨wr.heap.size,2,none⟩=some (.int .i32 S.low)∧(wC.alloc o).cell? ⟨wr.heap.size,3,none⟩=some (.int .i32 S.high)∧(wC.alloc o).cell? ⟨wr.heap.size,4,none⟩=some (.int .i32 D.pos)∧(wC.alloc o).cell? ⟨wr.heap.size,5,none⟩=some (.int .i32 D.vel)∧(wC.alloc o).cell? ⟨wr.heap.size,6,none⟩=some (.int .i32 S.rate)∧(wC.alloc o).cell? ⟨wr.heap.size,7,none⟩=some (.int .i64 S.soft)∧(wC.alloc o).cell? ⟨wr.heap.size,8,none⟩=some (.int .i32 S.P)∧(wC.alloc o).cell? ⟨wr.heap.size,9,none⟩=some (.int .i32 S.I)∧(wC.alloc o).cell? ⟨wr.heap.size,10,none⟩=some (.int .i32 S.D)∧(wC.alloc o).cell? ⟨wr.heap.size,11,none⟩=some (.int .i32 S.lo)∧(wC.alloc o).cell? ⟨wr.heap.size,12,none⟩=some (.int .i32 S.hi)∧(wC.alloc o).cell? ⟨wr.heap.size,13,none⟩=some (.int .i32 oil)∧(wC.alloc o).cell? ⟨wr.heap.size,14,none⟩=some (.int .i32 I.load)∧(wC.alloc o).cell? ⟨wr.heap.size,15,none⟩=some (.bool st)∧(wC.alloc o).cell? ⟨b,22,none⟩=some (.slice ap S.prof.length cp):=fun o=>⟨(LC.out.alloc o).at_ 0 rfl,(LC.out.alloc o).at_ 1 rfl,(LC.out.alloc o).at_ 2 rfl,(LC.out.alloc o).at_ 3 rfl,(LC.out.alloc o).at_ 4 rfl,(LC.out.alloc o).at_ 5 rfl,(LC.out.alloc o).at_ 6 rfl,(LC.out.alloc o).at_ 7 rfl,(LC.out.alloc o).at_ 8 rfl,(LC.out.alloc o).at_ 9 rfl,(LC.out.alloc o).at_ 10 rfl,(LC.out.alloc o).at_ 11 rfl,(LC.out.alloc o).at_ 12 rfl,(LC.out.alloc o).at_ 13 rfl,(LC.out.alloc o).at_ 14 rfl,(LC.out.alloc o).at_ 15 rfl,(RC.out.call hbw ((bLr).alloc (Nat.le_refl _) o)).wat.c.at_ 22 rfl⟩
   have pz:=RC.out.wat.lt
   go_upto_region 6 with(fail)
   go_cut [7,12]from 12 to 73 (fun s7 s12 wx=>s7=.int .i64 R.1∧s12=.int .i64 (k:Int)∧RstAt wx w b S {D with log:=tryLog S D I k} (.slice ap S.prof.length cp) vl vgk I)
   case first=>
    go_region_held3 (fun w'=>w'.cell? ⟨wr.heap.size,0,none⟩=some (.int .i32 S.gain)∧w'.cell? ⟨wr.heap.size,1,none⟩=some (.int .i64 S.drag)∧w'.cell? ⟨wr.heap.size,2,none⟩=some (.int .i32 S.low)∧w'.cell? ⟨wr.heap.size,3,none⟩=some (.int .i32 S.high)∧w'.cell? ⟨wr.heap.size,4,none⟩=some (.int .i32 D.pos)∧w'.cell? ⟨wr.heap.size,5,none⟩=some (.int .i32 D.vel)∧w'.cell? ⟨wr.heap.size,6,none⟩=some (.int .i32 S.rate)∧w'.cell? ⟨wr.heap.size,7,none⟩=some (.int .i64 S.soft)∧w'.cell? ⟨wr.heap.size,8,none⟩=some (.int .i32 S.P)∧w'.cell? ⟨wr.heap.size,9,none⟩=some (.int .i32 S.I)∧w'.cell? ⟨wr.heap.size,10,none⟩=some (.int .i32 S.D)∧w'.cell? ⟨wr.heap.size,11,none⟩=some (.int .i32 S.lo)∧w'.cell? ⟨wr.heap.size,12,none⟩=some (.int .i32 S.hi)∧w'.cell? ⟨wr.heap.size,13,none⟩=some (.int .i32 oil)∧w'.cell? ⟨wr.heap.size,14,none⟩=some (.int .i32 I.load)∧w'.cell? ⟨wr.heap.size,15,none⟩=some (.bool st)∧w'.cell? ⟨b,22,none⟩=some (.slice ap S.prof.length cp)) (first|exact K0|exact K1 _|exact kk|exact kA _|exact kB1 _|exact kB2 _ _) ((go_at_call 108;refine(HSK.out _ (by first|exact RC.out.drew.wat.p|exact(RC.out.call hbw ((bLr).alloc (Nat.le_refl _) _)).drew.wat.p)).mono ?_;rintro e5 w5 ⟨rfl,hb5⟩;have hbb:Below wC.heap.size wC w5:=(by first|exact((Below.refl wC.heap.size wC).drew).trans (hb5.mono (by simp))|exact(((Below.refl wC.heap.size wC).alloc (Nat.le_refl _) _).drew).trans (hb5.mono (by simp)));have R5:=qh (RC.out.call hbw hbb);have C5:=qh (LC.out.call hbb);have kk:w5.cell? ⟨wr.heap.size,0,none⟩=some (.int .i32 S.gain)∧w5.cell? ⟨wr.heap.size,1,none⟩=some (.int .i64 S.drag)∧w5.cell? ⟨wr.heap.size,2,none⟩=some (.int .i32 S.low)∧w5.cell? ⟨wr.heap.size,3,none⟩=some (.int .i32 S.high)∧w5.cell? ⟨wr.heap.size,4,none⟩=some (.int .i32 D.pos)∧w5.cell? ⟨wr.heap.size,5,none⟩=some (.int .i32 D.vel)∧w5.cell? ⟨wr.heap.size,6,none⟩=some (.int .i32 S.rate)∧w5.cell? ⟨wr.heap.size,7,none⟩=some (.int .i64 S.soft)∧w5.cell? ⟨wr.heap.size,8,none⟩=some (.int .i32 S.P)∧w5.cell? ⟨wr.heap.size,9,none⟩=some (.int .i32 S.I)∧w5.cell? ⟨wr.heap.size,10,none⟩=some (.int .i32 S.D)∧w5.cell? ⟨wr.heap.size,11,none⟩=some (.int .i32 S.lo)∧w5.cell? ⟨wr.heap.size,12,none⟩=some (.int .i32 S.hi)∧w5.cell? ⟨wr.heap.size,13,none⟩=some (.int .i32 oil)∧w5.cell? ⟨wr.heap.size,14,none⟩=some (.int .i32 I.load)∧w5.cell? ⟨wr.heap.size,15,none⟩=some (.bool st)∧w5.cell? ⟨b,22,none⟩=some (.slice ap S.prof.length cp):=⟨(C5.out).at_ 0 rfl,(C5.out).at_ 1 rfl,(C5.out).at_ 2 rfl,(C5.out).at_ 3 rfl,(C5.out).at_ 4 rfl,(C5.out).at_ 5 rfl,(C5.out).at_ 6 rfl,(C5.out).at_ 7 rfl,(C5.out).at_ 8 rfl,(C5.out).at_ 9 rfl,(C5.out).at_ 10 rfl,(C5.out).at_ 11 rfl,(C5.out).at_ 12 rfl,(C5.out).at_ 13 rfl,(C5.out).at_ 14 rfl,(C5.out).at_ 15 rfl,(R5.out).wat.c.at_ 22 rfl⟩;have kA:∀o,(w5.alloc o).cell? ⟨wr.heap.size,0,none⟩=some (.int .i32 S.gain)∧(w5.alloc o).cell? ⟨wr.heap.size,1,none⟩=some (.int .i64 S.drag)∧(w5.alloc o).cell? ⟨wr.heap.size,2,none⟩=some (.int .i32 S.low)∧(w5.alloc o).cell? ⟨wr.heap.size,3,none⟩=some (.int .i32 S.high)∧(w5.alloc o).cell? ⟨wr.heap.size,4,none⟩=some (.int .i32 D.pos)∧(w5.alloc o).cell? ⟨wr.heap.size,5,none⟩=some (.int .i32 D.vel)∧(w5.alloc o).cell? ⟨wr.heap.size,6,none⟩=some (.int .i32 S.rate)∧(w5.alloc o).cell? ⟨wr.heap.size,7,none⟩=some (.int .i64 S.soft)∧(w5.alloc o).cell? ⟨wr.heap.size,8,none⟩=some (.int .i32 S.P)∧(w5.alloc o).cell? ⟨wr.heap.size,9,none⟩=some (.int .i32 S.I)∧(w5.alloc o).cell? ⟨wr.heap.size,10,none⟩=some (.int .i32 S.D)∧(w5.alloc o).cell? ⟨wr.heap.size,11,none⟩=some (.int .i32 S.lo)∧(w5.alloc o).cell? ⟨wr.heap.size,12,none⟩=some (.int .i32 S.hi)∧(w5.alloc o).cell? ⟨wr.heap.size,13,none⟩=some (.int .i32 oil)∧(w5.alloc o).cell? ⟨wr.heap.size,14,none⟩=some (.int .i32 I.load)∧(w5.alloc o).cell? ⟨wr.heap.size,15,none⟩=some (.bool st)∧(w5.alloc o).cell? ⟨b,22,none⟩=some (.slice ap S.prof.length cp):=fun o=>⟨(C5.out.alloc o).at_ 0 rfl,(C5.out.alloc o).at_ 1 rfl,(C5.out.alloc o).at_ 2 rfl,(C5.out.alloc o).at_ 3 rfl,(C5.out.alloc o).at_ 4 rfl,(C5.out.alloc o).at_ 5 rfl,(C5.out.alloc o).at_ 6 rfl,(C5.out.alloc o).at_ 7 rfl,(C5.out.alloc o).at_ 8 rfl,(C5.out.alloc o).at_ 9 rfl,(C5.out.alloc o).at_ 10 rfl,(C5.out.alloc o).at_ 11 rfl,(C5.out.alloc o).at_ 12 rfl,(C5.out.alloc o).at_ 13 rfl,(C5.out.alloc o).at_ 14 rfl,(C5.out.alloc o).at_ 15 rfl,(R5.out.call hbw ((bLr).alloc (Nat.le_refl _) o)).wat.c.at_ 22 rfl⟩;have q5:=hbb.size;(try have CN:CellsAt w5 wC.heap.size [.int .i32 0,.int .i32 0]:=((CellsAt.new' rfl rfl:CellsAt (wC.alloc (.cells #[.int .i32 0,.int .i32 0] 89)) wC.heap.size [.int .i32 0,.int .i32 0]).drew).call hb5);(try have y0:=CN.at_ 0 rfl);(try have y1:=CN.at_ 1 rfl);(try have yf0:=CN.2.1 0);(try have yf1:=CN.2.1 1);(try have yz:=CN.lt);(try have kB1:∀u,(w5.setCell ⟨wC.heap.size,0,none⟩ u).cell? ⟨wr.heap.size,0,none⟩=some (.int .i32 S.gain)∧(w5.setCell ⟨wC.heap.size,0,none⟩ u).cell? ⟨wr.heap.size,1,none⟩=some (.int .i64 S.drag)∧(w5.setCell ⟨wC.heap.size,0,none⟩ u).cell? ⟨wr.heap.size,2,none⟩=some (.int .i32 S.low)∧(w5.setCell ⟨wC.heap.size,0,none⟩ u).cell? ⟨wr.heap.size,3,none⟩=some (.int .i32 S.high)∧(w5.setCell ⟨wC.heap.size,0,none⟩ u).cell? ⟨wr.heap.size,4,none⟩=some (.int .i32 D.pos)∧(w5.setCell ⟨wC.heap.size,0,none⟩ u).cell? ⟨wr.heap.size,5,none⟩=some (.int .i32 D.vel)∧(w5.setCell ⟨wC.heap.size,0,none⟩ u).cell? ⟨wr.heap.size,6,none⟩=some (.int .i32 S.rate)∧(w5.setCell ⟨wC.heap.size,0,none⟩ u).cell? ⟨wr.heap.size,7,none⟩=some (.int .i64 S.soft)∧(w5.setCell ⟨wC.heap.size,0,none⟩ u).cell? ⟨wr.heap.size,8,none⟩=some (.int .i32 S.P)∧(w5.setCell ⟨wC.heap.size,0,none⟩ u).cell? ⟨wr.heap.size,9,none⟩=some (.int .i32 S.I)∧(w5.setCell ⟨wC.heap.size,0,none⟩ u).cell? ⟨wr.heap.size,10,none⟩=some (.int .i32 S.D)∧(w5.setCell ⟨wC.heap.size,0,none⟩ u).cell? ⟨wr.heap.size,11,none⟩=some (.int .i32 S.lo)∧(w5.setCell ⟨wC.heap.size,0,none⟩ u).cell? ⟨wr.heap.size,12,none⟩=some (.int .i32 S.hi)∧(w5.setCell ⟨wC.heap.size,0,none⟩ u).cell? ⟨wr.heap.size,13,none⟩=some (.int .i32 oil)∧(w5.setCell ⟨wC.heap.size,0,none⟩ u).cell? ⟨wr.heap.size,14,none⟩=some (.int .i32 I.load)∧(w5.setCell ⟨wC.heap.size,0,none⟩ u).cell? ⟨wr.heap.size,15,none⟩=some (.bool st)∧(w5.setCell ⟨wC.heap.size,0,none⟩ u).cell? ⟨b,22,none⟩=some (.slice ap S.prof.length cp):=fun u=>⟨(C5.out.other (c:=wC.heap.size) (by omega) 0 u).at_ 0 rfl,(C5.out.other (c:=wC.heap.size) (by omega) 0 u).at_ 1 rfl,(C5.out.other (c:=wC.heap.size) (by omega) 0 u).at_ 2 rfl,(C5.out.other (c:=wC.heap.size) (by omega) 0 u).at_ 3 rfl,(C5.out.other (c:=wC.heap.size) (by omega) 0 u).at_ 4 rfl,(C5.out.other (c:=wC.heap.size) (by omega) 0 u).at_ 5 rfl,(C5.out.other (c:=wC.heap.size) (by omega) 0 u).at_ 6 rfl,(C5.out.other (c:=wC.heap.size) (by omega) 0 u).at_ 7 rfl,(C5.out.other (c:=wC.heap.size) (by omega) 0 u).at_ 8 rfl,(C5.out.other (c:=wC.heap.size) (by omega) 0 u).at_ 9 rfl,(C5.out.other (c:=wC.heap.size) (by omega) 0 u).at_ 10 rfl,(C5.out.other (c:=wC.heap.size) (by omega) 0 u).at_ 11 rfl,(C5.out.other (c:=wC.heap.size) (by omega) 0 u).at_ 12 rfl,(C5.out.other (c:=wC.heap.size) (by omega) 0 u).at_ 13 rfl,(C5.out.other (c:=wC.heap.size) (by omega) 0 u).at_ 14 rfl,(C5.out.other (c:=wC.heap.size) (by omega) 0 u).at_ 15 rfl,(RC.out.call hbw (hbb.setCell (p:=⟨wC.heap.size,0,none⟩) (Nat.le_refl _) u)).wat.c.at_ 22 rfl⟩);(try have kB2:∀u v,((w5.setCell ⟨wC.heap.size,0,none⟩ u).setCell ⟨wC.heap.size,1,none⟩ v).cell? ⟨wr.heap.size,0,none⟩=some (.int .i32 S.gain)∧((w5.setCell ⟨wC.heap.size,0,none⟩ u).setCell ⟨wC.heap.size,1,none⟩ v).cell? ⟨wr.heap.size,1,none⟩=some (.int .i64 S.drag)∧((w5.setCell ⟨wC.heap.size,0,none⟩ u).setCell ⟨wC.heap.size,1,none⟩ v).cell? ⟨wr.heap.size,2,none⟩=some (.int .i32 S.low)∧((w5.setCell ⟨wC.heap.size,0,none⟩ u).setCell ⟨wC.heap.size,1,none⟩ v).cell? ⟨wr.heap.size,3,none⟩=some (.int .i32 S.high)∧((w5.setCell ⟨wC.heap.size,0,none⟩ u).setCell ⟨wC.heap.size,1,none⟩ v).cell? ⟨wr.heap.size,4,none⟩=some (.int .i32 D.pos)∧((w5.setCell ⟨wC.heap.size,0,none⟩ u).setCell ⟨wC.heap.size,1,none⟩ v).cell? ⟨wr.heap.size,5,none⟩=some (.int .i32 D.vel)∧((w5.setCell ⟨wC.heap.size,0,none⟩ u).setCell ⟨wC.heap.size,1,none⟩ v).cell? ⟨wr.heap.size,6,none⟩=some (.int .i32 S.rate)∧((w5.setCell ⟨wC.heap.size,0,none⟩ u).setCell ⟨wC.heap.size,1,none⟩ v).cell? ⟨wr.heap.size,7,none⟩=some (.int .i64 S.soft)∧((w5.setCell ⟨wC.heap.size,0,none⟩ u).setCell ⟨wC.heap.size,1,none⟩ v).cell? ⟨wr.heap.size,8,none⟩=some (.int .i32 S.P)∧((w5.setCell ⟨wC.heap.size,0,none⟩ u).setCell ⟨wC.heap.size,1,none⟩ v).cell? ⟨wr.heap.size,9,none⟩=some (.int .i32 S.I)∧((w5.setCell ⟨wC.heap.size,0,none⟩ u).setCell ⟨wC.heap.size,1,none⟩ v).cell? ⟨wr.heap.size,10,none⟩=some (.int .i32 S.D)∧((w5.setCell ⟨wC.heap.size,0,none⟩ u).setCell ⟨wC.heap.size,1,none⟩ v).cell? ⟨wr.heap.size,11,none⟩=some (.int .i32 S.lo)∧((w5.setCell ⟨wC.heap.size,0,none⟩ u).setCell ⟨wC.heap.size,1,none⟩ v).cell? ⟨wr.heap.size,12,none⟩=some (.int .i32 S.hi)∧((w5.setCell ⟨wC.heap.size,0,none⟩ u).setCell ⟨wC.heap.size,1,none⟩ v).cell? ⟨wr.heap.size,13,none⟩=some (.int .i32 oil)∧((w5.setCell ⟨wC.heap.size,0,none⟩ u).setCell ⟨wC.heap.size,1,none⟩ v).cell? ⟨wr.heap.size,14,none⟩=some (.int .i32 I.load)∧((w5.setCell ⟨wC.heap.size,0,none⟩ u).setCell ⟨wC.heap.size,1,none⟩ v).cell? ⟨wr.heap.size,15,none⟩=some (.bool st)∧((w5.setCell ⟨wC.heap.size,0,none⟩ u).setCell ⟨wC.heap.size,1,none⟩ v).cell? ⟨b,22,none⟩=some (.slice ap S.prof.length cp):=fun u v=>⟨((C5.out.other (c:=wC.heap.size) (by omega) 0 u).other (c:=wC.heap.size) (by omega) 1 v).at_ 0 rfl,((C5.out.other (c:=wC.heap.size) (by omega) 0 u).other (c:=wC.heap.size) (by omega) 1 v).at_ 1 rfl,((C5.out.other (c:=wC.heap.size) (by omega) 0 u).other (c:=wC.heap.size) (by omega) 1 v).at_ 2 rfl,((C5.out.other (c:=wC.heap.size) (by omega) 0 u).other (c:=wC.heap.size) (by omega) 1 v).at_ 3 rfl,((C5.out.other (c:=wC.heap.size) (by omega) 0 u).other (c:=wC.heap.size) (by omega) 1 v).at_ 4 rfl,((C5.out.other (c:=wC.heap.size) (by omega) 0 u).other (c:=wC.heap.size) (by omega) 1 v).at_ 5 rfl,((C5.out.other (c:=wC.heap.size) (by omega) 0 u).other (c:=wC.heap.size) (by omega) 1 v).at_ 6 rfl,((C5.out.other (c:=wC.heap.size) (by omega) 0 u).other (c:=wC.heap.size) (by omega) 1 v).at_ 7 rfl,((C5.out.other (c:=wC.heap.size) (by omega) 0 u).other (c:=wC.heap.size) (by omega) 1 v).at_ 8 rfl,((C5.out.other (c:=wC.heap.size) (by omega) 0 u).other (c:=wC.heap.size) (by omega) 1 v).at_ 9 rfl,((C5.out.other (c:=wC.heap.size) (by omega) 0 u).other (c:=wC.heap.size) (by omega) 1 v).at_ 10 rfl,((C5.out.other (c:=wC.heap.size) (by omega) 0 u).other (c:=wC.heap.size) (by omega) 1 v).at_ 11 rfl,((C5.out.other (c:=wC.heap.size) (by omega) 0 u).other (c:=wC.heap.size) (by omega) 1 v).at_ 12 rfl,((C5.out.other (c:=wC.heap.size) (by omega) 0 u).other (c:=wC.heap.size) (by omega) 1 v).at_ 13 rfl,((C5.out.other (c:=wC.heap.size) (by omega) 0 u).other (c:=wC.heap.size) (by omega) 1 v).at_ 14 rfl,((C5.out.other (c:=wC.heap.size) (by omega) 0 u).other (c:=wC.heap.size) (by omega) 1 v).at_ 15 rfl,(RC.out.call hbw ((hbb.setCell (p:=⟨wC.heap.size,0,none⟩) (Nat.le_refl _) u).setCell (p:=⟨wC.heap.size,1,none⟩) (Nat.le_refl _) v)).wat.c.at_ 22 rfl⟩)))
    all_goals
     go_wp2_with fail
     go_meet
     first
      |(have chk:=CN;exact⟨rfl,rfl,RC.out.call hbw ((hbb.setCell (p:=⟨wC.heap.size,0,none⟩) (Nat.le_refl _) _).setCell (p:=⟨wC.heap.size,1,none⟩) (Nat.le_refl _) _)⟩)
      |exact⟨rfl,rfl,R5.out.call hbw ((bLr).alloc (Nat.le_refl _) _)⟩
   case rest=>
   obtain⟨rfl,rfl,hR6⟩:=hcut
   have HR6:=qh hR6
   have p0:wc.cell? ⟨b,22,none⟩=some (.slice ap S.prof.length cp):=hR6.wat.c.at_ 22 rfl
   have f0:wc.cell? ⟨w.heap.size,4+k,none⟩=some (.int .i64 f):=HRF.out wc hR6
   have pz6:=hR6.wat.lt;have fz6:=hR6.ci.lt
   have hblx:=hblb.out
   clear K0 K1 pz n0 j2 jz RC LC HWC HSK hR6 HR
   have hND:NoteOk D.frame (tryLog S D I k):=tryLog_ok HD.out.noteOk k (by omega)
   by_cases hn:R.1<S.prof.length
   ·have hdc:Hid ((decide (R.1<S.prof.length)||bl)=true):=qh (by rw[decide_eq_true hn];rfl)
    have HNL:=qh HLN.out;have HNP:=qh HPN.out
    clear HLN HPN
    go_wp2_with fail
    refine(note_is HR6.out.wat hND (k:Int) 4 (by omega) (by omega)).mono ?_
    rintro e8 w8 ⟨rfl,vg8,hW8,hg8,-⟩
    have HR8:=qh (HR6.out.grow hbw hg8 hW8)
    clear hW8 hg8
    go_wp2_with fail
    go_roundw
    case rel=>
     refine⟨k+1,by omega,by go_num,?_,?_⟩
     ·rw[HNP.out,hdc.out];simp
     ·exact⟨_,by rw[HNL.out,hdc.out];exact HR8.out⟩
    case measure=>simp[intOf];omega
   ·cases bl
    case true=>
     have hdc:Hid ((decide (R.1<S.prof.length)||true)=true):=qh (by simp)
     have HNL:=qh HLN.out;have HNP:=qh HPN.out
     clear HLN HPN
     go_wp2_with fail
     refine(note_is HR6.out.wat hND (k:Int) 4 (by omega) (by omega)).mono ?_
     rintro e8 w8 ⟨rfl,vg8,hW8,hg8,-⟩
     have HR8:=qh (HR6.out.grow hbw hg8 hW8)
     clear hW8 hg8
     go_wp2_with fail
     go_roundw
     case rel=>
      refine⟨k+1,by omega,by go_num,?_,?_⟩
      ·rw[HNP.out,hdc.out];simp
      ·exact⟨_,by rw[HNL.out,hdc.out];exact HR8.out⟩
     case measure=>simp[intOf];omega
    case false=>
     have hdc:Hid ((decide (R.1<S.prof.length)||false)=false):=qh (by simp[hn])
     have HNL:=qh HLN.out;have HNP:=qh HPN.out
     clear HLN HPN
     go_wp2_with fail
     go_roundw
     case rel=>
      refine⟨k+1,by omega,by go_num,?_,?_⟩
      ·rw[HNP.out,hdc.out];simp
      ·exact⟨_,by rw[HNL.out,hdc.out];exact HR6.out⟩
     case measure=>simp[intOf];omega
  ·obtain rfl:k=4:=by omega
   rw[show((4:Nat):Int)=4 from rfl]
   have HND:=qh (tryLog_ok (S:=S) (I:=I) HD.out.noteOk 4 (Nat.le_refl _))
   have HEND:Hid (tryD S D I=if(testedI D.mm D.mp D.mg (tryPass S D I 4)).2=0 then {D with log:=tryLog S D I 4,mm:=(testedI D.mm D.mp D.mg (tryPass S D I 4)).1.1,mp:=(testedI D.mm D.mp D.mg (tryPass S D I 4)).1.2.1,mg:=(testedI D.mm D.mp D.mg (tryPass S D I 4)).1.2.2}else {D with log:=putL (tryLog S D I 4) D.frame 4 2}):=qh rfl
   obtain⟨ps,hps⟩:∃x,tryPass S D I 4=x:=⟨_,rfl⟩
   rw[hps]at HEND⊢
   clear hps HST
   obtain⟨⟨⟨m',p',g'⟩,e'⟩,hr⟩:∃r,testedI D.mm D.mp D.mg ps=r:=⟨_,rfl⟩
   rw[hr]at HEND
   have HRR:=qh hr
   have t0:wr.cell? ⟨b,36,none⟩=some (.int .i64 D.mm):=hR.wat.c.at_ 36 rfl
   have t1:wr.cell? ⟨b,37,none⟩=some (.bool D.mp):=hR.wat.c.at_ 37 rfl
   have t2:wr.cell? ⟨b,38,none⟩=some (.bool D.mg):=hR.wat.c.at_ 38 rfl
   have tz:=hR.wat.lt
   clear hR hr
   have hAL:∀w5:World,Below w5.heap.size w5 (w5.alloc (.cells #[.int .i64 m',.bool p',.bool g'] 67)):=fun w5=>(bLr).alloc (Nat.le_refl _) _
   by_cases he:e'=0
   ·subst he
    have hend:=HEND.out
    rw[if_pos rfl]at hend
    have HE:=qh hend
    clear hend HEND
    go_wp2_with fail
    refine(tested_any D.mm D.mp D.mg ps m' 0 p' g' _ HD.out.mode HRR.out).mono ?_
    rintro e5 w5 ⟨rfl,hb5⟩
    have R5:=HR.out.call hbw hb5
    have f0:=R5.wat.c.2.1 36;have fa0:=R5.wat.c.at_ 36 rfl;have f1:=R5.wat.c.2.1 37;have fa1:=R5.wat.c.at_ 37 rfl;have f2:=R5.wat.c.2.1 38;have fa2:=R5.wat.c.at_ 38 rfl
    have tz1:=R5.wat.lt
    go_wp2_with fail
    have RA:=(R5.grow hbw (grown_setM w5 b m' p' g') (R5.wat.modeSet m' p' g')).call hbw (hAL _)
    exact bodyPost_end (v:=.tuple #[]) (by simp[results,Tryz.results81,go_sem]) rfl ⟨rfl,_,by rw[HE.out];exact RA.wat,RA.gr⟩
   ·have heb:(e' != 0)=true:=by rw[bne_iff_ne];exact he
    have hend:=HEND.out
    rw[if_neg he]at hend
    have HE:=qh hend
    clear hend HEND
    go_wp2_with fail
    refine(tested_any D.mm D.mp D.mg ps m' e' p' g' _ HD.out.mode HRR.out).mono ?_
    rintro e5 w5 ⟨rfl,hb5⟩
    have R5:=HR.out.call hbw hb5
    go_wp2_with fail
    have RA:=R5.call hbw (hAL _)
    refine(note_is RA.wat HND.out 4 2 (by omega) (by omega)).mono ?_
    rintro e6 w6 ⟨rfl,vg6,hW6,hg6,-⟩
    go_wp2_with fail
    exact bodyPost_ret (v:=.tuple #[]) (by simp[results,Tryz.results81,go_sem]) rfl ⟨rfl,_,by rw[HE.out];exact hW6,grownBy_two RA.gr hg6⟩
end Go.Proofs.YtpkiepjmcepnoaaGreatDoor
