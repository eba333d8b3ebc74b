/- A part of a proof. -/
import Derived.Test.YtpkiepjmcepnoaaGreatDoorPtZc
import Derived.Test.YtpkiepjmcepnoaaGreatDoorDzB
import Derived.Lib.ItoaLen
import Derived.Test.YtpkiepjmcepnoaaGreatDoorPtZf
import Derived.Test.YtpkiepjmcepnoaaGreatDoorPtZg
import Derived.StillTail
import Derived.Deep.MidRow
import Derived.Test.YtpkiepjmcepnoaaGreatDoorPtQ
set_option maxHeartbeats 16000000
set_option maxRecDepth 100000
set_option linter.unusedVariables false
namespace Go.Proofs.YtpkiepjmcepnoaaGreatDoor
open Go.ChangeShapes Go.WideShapes Go.ChangeAt Go.RowKit
def markB (s:Int×Bool×Int):UInt8:=if s.1=0 then 115 else if s.1=1 then 97 else if s.1=2 then 66 else if s.2.1=true then 68 else 100
def markS (T:Nat→Int×Bool×Int) (k:Nat):List UInt8:=(List.range k).map fun j=>markB (T j)
def showP (D:Dyn):List UInt8:=Lib.itoa D.frame++[32]++Lib.itoa D.mm++[32]++hunS D.pos++[32]
def lostS (b:Bool):List UInt8:=if b=true then[32,108,111,115,116]else[]
def showS (D:Dyn):List UInt8:=showP D++markS D.team 4++lostS D.lost
theorem markS_len (T:Nat→Int×Bool×Int) (k:Nat):(markS T k).length=k:=by simp[markS]
theorem markS_snoc (T:Nat→Int×Bool×Int) (k:Nat):markS T (k+1)=markS T k++[markB (T k)]:=by simp[markS,List.range_succ]
theorem mk_app (a b:List UInt8):(⟨a.toArray⟩:ByteArray)++⟨b.toArray⟩=⟨(a++b).toArray⟩:=by simp[ByteArray.mk_append_mk]
theorem mk_size (a:List UInt8):(⟨a.toArray⟩:ByteArray).size=a.length:=rfl
theorem box_new {wr w7 w8:World} {Z L:List Value} {arr:Array Value} {T:TypeId} (ha:arr=Z.toArray) (h7:wr.alloc (.cells arr T)=w7) (hl:L.length=Z.length) (h8:w7.setCells wr.heap.size 0 L.toArray.toList=w8):
  w7.there wr.heap.size 0 L.toArray.size∧CellsAt w8 wr.heap.size L∧Below wr.heap.size wr w8:=by
 subst ha h7 h8
 have Z7:CellsAt (wr.alloc (.cells Z.toArray T)) wr.heap.size Z:=CellsAt.new' rfl rfl
 exact⟨Z7.there (by rw[List.size_toArray,hl];exact Nat.le_refl _),Z7.row L hl,below_setCells (Nat.le_refl _) _ 0 _ ((bLr).alloc (Nat.le_refl _) _)⟩
structure BoxL (W w:World) (g:Nat) (vs:List Value):Prop where
 C:CellsAt W g vs
 L:Libs W
 B:Below w.heap.size w W
theorem BoxL.call {W W' w:World} {g:Nat} {vs:List Value} (h:BoxL W w g vs) (hb:Below W.heap.size W W'):BoxL W' w g vs:=⟨h.C.call hb,h.L.later hb,h.B.trans (hb.mono h.B.size)⟩
theorem BoxL.drew {W w:World} {g:Nat} {vs:List Value} (h:BoxL W w g vs):BoxL W.drew w g vs:=⟨h.C,h.L.later (bLr).drew,h.B.drew⟩
theorem rng_sub {w:World} {b:Nat} {vs:List Value} (h:CellsAt w b vs) (n k:Nat):w.rangeAt b n ((vs.drop n).take k):=fun j v hj=>by
 rw[List.getElem?_take]at hj
 split at hj
 ·rw[List.getElem?_drop]at hj;exact h.1 _ v hj
 ·cases hj
theorem own_sl {w:World} {base:Nat} {e:TypeId} {k n:Nat} {v:Value} {xs:List Value} (h:w.ownsRow base e k v n xs):∃a c,v=.slice a n c:=by
 rcases h.2 with⟨rfl,hn⟩|⟨a,c,cur,rfl,-⟩
 ·exact⟨none,0,by rw[hn]⟩
 ·exact⟨_,_,rfl⟩
theorem team_at (T:Nat→Int×Bool×Int) (k:Nat) (hk:k<4) (w:World):(Instr.index 77 (.agg #[.int .i64 (T 0).1,.bool (T 0).2.1,.int .i64 (T 0).2.2,.int .i64 (T 1).1,.bool (T 1).2.1,.int .i64 (T 1).2.2,.int .i64 (T 2).1,.bool (T 2).2.1,.int .i64 (T 2).2.2,.int .i64 (T 3).1,.bool (T 3).2.1,.int .i64 (T 3).2.2]) (.int .i64 k)).run Tryz.prog w=.ok (.agg #[.int .i64 (T k).1,.bool (T k).2.1,.int .i64 (T k).2.2]) w:=by
 rcases(by omega:k=0∨k=1∨k=2∨k=3)with rfl|rfl|rfl|rfl<;>kernel_rfl
def ShRel (w:World) (g:Nat) (P:List UInt8) (D:Dyn) (v o i:Value) (wr:World):Prop:=∃k:Nat,k≤4∧i=.int .i64 k∧o=.string ⟨(P++markS D.team k).toArray⟩∧CellsAt wr g (statL D v)∧Below w.heap.size w wr
theorem show_is {b bd:Nat} {S:Stp} {D:Dyn} {vp vl vg:Value} {w:World} (hw:w.cell? ⟨bd,0,none⟩=some (ptr b)) (h:WAt w b S D vp vl vg) (hD:DynOk S D) (hp: -2147483648≤D.pos∧D.pos≤2147483647) (hT:Libs w):
  Calls Tryz.prog 39 #[ptr bd] w fun e w'=>e=.returned (.string ⟨(showS D).toArray⟩)∧Below w.heap.size w w':=by
 have HI27:Hid ((Tryz.prog.info? 119).map (·.size)=some 27):=qh (by kernel_rfl)
 have HI12:Hid ((Tryz.prog.info? 77).map (·.size)=some 12):=qh (by kernel_rfl)
 have HST:=qh (status_is h hD)
 have HT:=qh hT
 have HOK:=qh hD.team
 have hfr:=hD.frame
 have hmm:D.mm=1∨D.mm=2∨D.mm=3:=by
  rcases hD.mode with h|h|h
  ·exact .inl h
  ·exact .inr (.inl h.1)
  ·exact .inr (.inr h.1)
 have hpb:=hunI_bd hp
 have l0:=Lib.itoa_length_le D.frame (by omega) (by omega)
 have l1:=Lib.itoa_length_le D.mm (by omega) (by omega)
 have l2:=Lib.itoa_length_le (hunI D.pos) (by omega) (by omega)
 have I0:Hid (∀W:World,Libs W→Calls Tryz.prog 20 #[.int .i64 D.frame] W fun e w'=>e=.returned (.string ⟨(Lib.itoa D.frame).toArray⟩)∧Below W.heap.size W w'):=qh (fun W hl=>itoa_is _ (by omega) (by omega) W hl)
 have I1:Hid (∀W:World,Libs W→Calls Tryz.prog 20 #[.int .i64 D.mm] W fun e w'=>e=.returned (.string ⟨(Lib.itoa D.mm).toArray⟩)∧Below W.heap.size W w'):=qh (fun W hl=>itoa_is _ (by omega) (by omega) W hl)
 have I2:Hid (∀W:World,Libs W→Calls Tryz.prog 63 #[.int .i32 D.pos] W fun e w'=>e=.returned (.string ⟨(hunS D.pos).toArray⟩)∧Below W.heap.size W w'):=qh (fun W hl=>hundredths_is _ hp W hl)
 have HPE:Hid ((⟨(Lib.itoa D.frame).toArray⟩:ByteArray)++⟨#[32]⟩++⟨(Lib.itoa D.mm).toArray⟩++⟨#[32]⟩++⟨(hunS D.pos).toArray⟩++⟨#[32]⟩=⟨(showP D).toArray⟩):=qh (by
  have e:(⟨#[32]⟩:ByteArray)=⟨[(32:UInt8)].toArray⟩:=rfl
  rw[e]
  simp only[mk_app]
  rfl)
 have hP:(showP D).length≤66:=by
  unfold showP hunS
  simp only[List.length_append,List.length_cons,List.length_nil]
  omega
 have g0:(⟨(Lib.itoa D.frame).toArray⟩:ByteArray).size≤21:=l0
 have g1:(⟨(Lib.itoa D.mm).toArray⟩:ByteArray).size≤21:=l1
 have g2:(⟨(hunS D.pos).toArray⟩:ByteArray).size≤21:=l2
 obtain⟨s0,hs0⟩:∃s,(⟨(Lib.itoa D.frame).toArray⟩:ByteArray)=s:=⟨_,rfl⟩
 obtain⟨s1,hs1⟩:∃s,(⟨(Lib.itoa D.mm).toArray⟩:ByteArray)=s:=⟨_,rfl⟩
 obtain⟨s2,hs2⟩:∃s,(⟨(hunS D.pos).toArray⟩:ByteArray)=s:=⟨_,rfl⟩
 have HPE:=HPE.out
 rw[hs0]at I0 g0 HPE
 rw[hs1]at I1 g1 HPE
 rw[hs2]at I2 g2 HPE
 clear l0 l1 l2 hs0 hs1 hs2
 obtain⟨a1,ha1⟩:∃z,s0++⟨#[32]⟩=z:=⟨_,rfl⟩
 have qa1:a1.size=s0.size+1:=by rw[←ha1];rw[ByteArray.size_append];first|done|rfl
 rw[ha1]at HPE
 have wa1:¬(9223372036854775807<s0.size+1):=by omega
 have va1:¬(9223372036854775806<s0.size):=by omega
 obtain⟨a2,ha2⟩:∃z,a1++s1=z:=⟨_,rfl⟩
 have qa2:a2.size=a1.size+s1.size:=by rw[←ha2];rw[ByteArray.size_append];first|done|rfl
 rw[ha2]at HPE
 have wa2:¬(9223372036854775807<a1.size+s1.size):=by omega
 obtain⟨a3,ha3⟩:∃z,a2++⟨#[32]⟩=z:=⟨_,rfl⟩
 have qa3:a3.size=a2.size+1:=by rw[←ha3];rw[ByteArray.size_append];first|done|rfl
 rw[ha3]at HPE
 have wa3:¬(9223372036854775807<a2.size+1):=by omega
 have va3:¬(9223372036854775806<a2.size):=by omega
 obtain⟨a4,ha4⟩:∃z,a3++s2=z:=⟨_,rfl⟩
 have qa4:a4.size=a3.size+s2.size:=by rw[←ha4];rw[ByteArray.size_append];first|done|rfl
 rw[ha4]at HPE
 have wa4:¬(9223372036854775807<a3.size+s2.size):=by omega
 obtain⟨a5,ha5⟩:∃z,a4++⟨#[32]⟩=z:=⟨_,rfl⟩
 have qa5:a5.size=a4.size+1:=by rw[←ha5];rw[ByteArray.size_append];first|done|rfl
 rw[ha5]at HPE
 have wa5:¬(9223372036854775807<a4.size+1):=by omega
 have va5:¬(9223372036854775806<a4.size):=by omega
 have HPE:=qh HPE
 clear h hD hT hp hpb hmm hfr qa1 qa2 qa3 qa4 qa5 g0 g1 g2
 go_enter Tryz.func39,Tryz.ntmps39
 go_wp2_with fail
 refine HST.out.mono ?_
 rintro e1 w1 ⟨v,rfl,hown,hb1⟩
 obtain⟨a,c,rfl⟩:=own_sl hown
 have hL1:=HT.out.later hb1
 obtain⟨w2,hw2⟩:∃x,w1.alloc (.cells #[.int .i64 0,.int .i64 0,.bool false,.bool false,.int .i64 0,.bool false,.int .i64 0,.int .i64 0,.bool false,.int .i64 0,.int .i64 0,.bool false,.int .i64 0,.int .i64 0,.bool false,.int .i64 0,.int .i64 0,.int .i64 0,.bool false,.int .i32 0,.int .i32 0,.int .i32 0,.int .i32 0,.int .i32 0,.int .i32 0,.int .i32 0,.slice none 0 0] 119)=x:=⟨_,rfl⟩
 obtain⟨w3,hw3⟩:∃x,w2.setCells w1.heap.size 0 (statL D (.slice a D.log.length c)).toArray.toList=x:=⟨_,rfl⟩
 obtain⟨HTH,X,hb⟩:=box_new (L:=statL D (.slice a D.log.length c)) (Z:=[.int .i64 0,.int .i64 0,.bool false,.bool false,.int .i64 0,.bool false,.int .i64 0,.int .i64 0,.bool false,.int .i64 0,.int .i64 0,.bool false,.int .i64 0,.int .i64 0,.bool false,.int .i64 0,.int .i64 0,.int .i64 0,.bool false,.int .i32 0,.int .i32 0,.int .i32 0,.int .i32 0,.int .i32 0,.int .i32 0,.int .i32 0,.slice none 0 0]) rfl hw2 rfl hw3
 have HON:Hid ((statL D (.slice a D.log.length c)).toArray.all (·.oneCell')=true):=qh (by kernel_rfl)
 have HTH:=qh HTH
 have HW2:=qh hw2
 have HW3:=qh hw3
 have HB:Hid (BoxL w3 w w1.heap.size (statL D (.slice a D.log.length c))):=qh ⟨X,hL1.later hb,hb1.trans (hb.mono hb1.size)⟩
 clear X hb hb1 hw2 hw3 hown hL1 HST
 go_upto_region 2 with(refine wpList_store_mid rfl 119 (.tmp 3) (.tmp 12) rfl w1.heap.size 0 (statL D (.slice a D.log.length c)).toArray rfl rfl (by rw[HW2.out];exact HTH.out) HI27.out HON.out ?_)
 rw[HW2.out,HW3.out]
 clear HW2 HW3 HTH HON
 obtain⟨g,hg⟩:∃x,w1.heap.size=x:=⟨_,rfl⟩
 rw[hg]at HB⊢
 clear hg
 have y0:=HB.out.C.at_ 0 rfl;have y1:=HB.out.C.at_ 1 rfl;have y2:=HB.out.C.at_ 19 rfl
 have tok0:=True.intro
 simp only[Act.put]
 go_region_held3 (fun w'=>w'.cell? ⟨g,0,none⟩=some (.int .i64 D.frame)∧w'.cell? ⟨g,1,none⟩=some (.int .i64 D.mm)∧w'.cell? ⟨g,19,none⟩=some (.int .i32 D.pos)) (first|exact⟨x0,x1,x2⟩|exact⟨y0,y1,y2⟩|go_keep) (first|(have tk:=tok0;clear tk tok0;have tok1:=True.intro;go_at_call 20;refine(I0.out _ (by first|exact ZZ.L|exact HB.out.drew.L|exact HB.out.L)).mono ?_;rintro eA wA ⟨rfl,hbA⟩;have ZZ:BoxL wA w g (statL D (.slice a D.log.length c)):=(by first|exact ZZ.call hbA|exact HB.out.drew.call hbA|exact HB.out.call hbA);have x0:=ZZ.C.at_ 0 rfl;have x1:=ZZ.C.at_ 1 rfl;have x2:=ZZ.C.at_ 19 rfl)|(have tk:=tok1;clear tk tok1;have tok2:=True.intro;go_at_call 20;refine(I1.out _ (by first|exact ZZ.L|exact HB.out.drew.L|exact HB.out.L)).mono ?_;rintro eA wA ⟨rfl,hbA⟩;have ZZ:BoxL wA w g (statL D (.slice a D.log.length c)):=(by first|exact ZZ.call hbA|exact HB.out.drew.call hbA|exact HB.out.call hbA);have x0:=ZZ.C.at_ 0 rfl;have x1:=ZZ.C.at_ 1 rfl;have x2:=ZZ.C.at_ 19 rfl)|(have tk:=tok2;clear tk tok2;have tok3:=True.intro;go_at_call 63;refine(I2.out _ (by first|exact ZZ.L|exact HB.out.drew.L|exact HB.out.L)).mono ?_;rintro eA wA ⟨rfl,hbA⟩;have ZZ:BoxL wA w g (statL D (.slice a D.log.length c)):=(by first|exact ZZ.call hbA|exact HB.out.drew.call hbA|exact HB.out.call hbA);have x0:=ZZ.C.at_ 0 rfl;have x1:=ZZ.C.at_ 1 rfl;have x2:=ZZ.C.at_ 19 rfl))
 all_goals
  clear x0 x1 x2 y0 y1 y2
  have HRT:=qh (rng_sub ZZ.C 4 12)
  have HZ:=qh ZZ
  clear ZZ
  go_upto_region 4 with(refine wpList_load_mid rfl 77 (.tmp 29) rfl g 4 rfl [.int .i64 (D.team 0).1,.bool (D.team 0).2.1,.int .i64 (D.team 0).2.2,.int .i64 (D.team 1).1,.bool (D.team 1).2.1,.int .i64 (D.team 1).2.2,.int .i64 (D.team 2).1,.bool (D.team 2).2.1,.int .i64 (D.team 2).2.2,.int .i64 (D.team 3).1,.bool (D.team 3).2.1,.int .i64 (D.team 3).2.2] _ HRT.out Tryz.underlying77 rfl HI12.out ?_)
  go_loopw [4,31] (fun o i wr=>ShRel w g (showP D) D (.slice a D.log.length c) o i wr) (fun _ i _=>4-(intOf i).toNat)
  case atStart=>exact⟨0,Nat.zero_le _,rfl,by simp[markS],HZ.out.C,HZ.out.B⟩
  case round=>
   obtain⟨k,hk,rfl,rfl,hC,hB⟩:=hrel
   have HC:=qh hC;have HB:=qh hB
   have hzg:=hC.lt
   have hz0:=hB.size
   have hml:=markS_len D.team k
   clear hC hB
   by_cases hlt:k<4
   ·have d1:(k:Int)<4:=by omega
    have ix:=fun W=>team_at D.team k hlt W
    have hok:=HOK.out k hlt
    obtain⟨so,hso⟩:∃z,(⟨(showP D++markS D.team k).toArray⟩:ByteArray)=z:=⟨_,rfl⟩
    have hz:so.size≤70:=by rw[←hso,mk_size,List.length_append];omega
    have hk0:so++⟨#[markB (D.team k)]⟩=(⟨(showP D++markS D.team (k+1)).toArray⟩:ByteArray):=by
     rw[markS_snoc,←List.append_assoc,←mk_app,hso]
    obtain⟨s,hs⟩:∃s,D.team k=s:=⟨_,rfl⟩
    rw[hs]at ix hok hk0
    obtain⟨m,f,r⟩:=s
    have HK:=qh (congrArg Value.string hk0)
    have v1:¬(9223372036854775806<so.size):=by omega
    have v2:¬(9223372036854775807<so.size+1):=by omega
    have hwk:IntKind.i64.wrap ((k:Int)+1)=(k:Int)+1:=IntWalk.i64_in _ (by omega)
    have HC1:Hid (CellsAt (wr.alloc (.cells #[.int .i64 m,.bool f,.int .i64 r] 75)) g (statL D (.slice a D.log.length c))):=qh (HC.out.alloc _)
    have HB1:Hid (Below w.heap.size w (wr.alloc (.cells #[.int .i64 m,.bool f,.int .i64 r] 75))):=qh (HB.out.alloc hz0 _)
    rw[hso]
    clear hs hk0 hso hz
    obtain⟨h1,-⟩:=hok
    dsimp only at h1 ix
    rcases h1 with⟨rfl,rfl⟩|⟨rfl,rfl⟩|⟨rfl,rfl⟩|⟨rfl,rfl⟩|⟨rfl,rfl⟩
    ·have sl:∀W:World,(Instr.slice 9 (.string ⟨#[115,97,98,100]⟩) (some (.int .i64 0)) (some (.int .i64 1)) none).run Tryz.prog W=.ok (.string ⟨#[115]⟩) W:=fun _=>by kernel_rfl
     have hmk:markB (0,false,r)=115:=by rfl
     rw[hmk]at HK
     go_wp2_with fail
     go_roundw
     case rel=>exact⟨k+1,by omega,by go_num,by first|exact HK.out|(rw[HK.out];rfl),HC1.out,HB1.out⟩
     case measure=>simp[intOf];omega
    ·have sl:∀W:World,(Instr.slice 9 (.string ⟨#[115,97,98,100]⟩) (some (.int .i64 1)) (some (.int .i64 2)) none).run Tryz.prog W=.ok (.string ⟨#[97]⟩) W:=fun _=>by kernel_rfl
     have hmk:markB (1,false,r)=97:=by rfl
     rw[hmk]at HK
     go_wp2_with fail
     go_roundw
     case rel=>exact⟨k+1,by omega,by go_num,by first|exact HK.out|(rw[HK.out];rfl),HC1.out,HB1.out⟩
     case measure=>simp[intOf];omega
    ·have sl:∀W:World,(Instr.slice 9 (.string ⟨#[115,97,98,100]⟩) (some (.int .i64 2)) (some (.int .i64 3)) none).run Tryz.prog W=.ok (.string ⟨#[98]⟩) W:=fun _=>by kernel_rfl
     have hmk:markB (2,true,r)=66:=by rfl
     rw[hmk]at HK
     have HU:Hid (∀W:World,Calls Tryz.prog 64 #[.string ⟨#[98]⟩] W fun e w'=>e=.returned (.string ⟨(Lib.toUpperA (⟨#[98]⟩:ByteArray).data.toList).toArray⟩)∧Below W.heap.size W w'):=qh (fun W=>Tryz.strings_ToUpper_ascii ⟨#[98]⟩ W (by decide) (fun j x hx=>by
      rcases j with _|j
      ·cases hx;decide
      ·cases hx))
     go_wp2_with fail
     refine(HU.out _).mono ?_
     rintro e2 w2 ⟨rfl,hb2⟩
     rw[show(⟨(Lib.toUpperA (⟨#[98]⟩:ByteArray).data.toList).toArray⟩:ByteArray)=⟨#[66]⟩from by decide]
     have HC2:=qh (HC1.out.call hb2)
     have HB2:=qh (HB1.out.trans (hb2.mono HB1.out.size))
     clear hb2
     go_wp2_with fail
     go_roundw
     case rel=>exact⟨k+1,by omega,by go_num,by first|exact HK.out|(rw[HK.out];rfl),HC2.out,HB2.out⟩
     case measure=>simp[intOf];omega
    ·have sl:∀W:World,(Instr.slice 9 (.string ⟨#[115,97,98,100]⟩) (some (.int .i64 3)) (some (.int .i64 4)) none).run Tryz.prog W=.ok (.string ⟨#[100]⟩) W:=fun _=>by kernel_rfl
     have hmk:markB (3,false,r)=100:=by rfl
     rw[hmk]at HK
     go_wp2_with fail
     go_roundw
     case rel=>exact⟨k+1,by omega,by go_num,by first|exact HK.out|(rw[HK.out];rfl),HC1.out,HB1.out⟩
     case measure=>simp[intOf];omega
    ·have sl:∀W:World,(Instr.slice 9 (.string ⟨#[115,97,98,100]⟩) (some (.int .i64 3)) (some (.int .i64 4)) none).run Tryz.prog W=.ok (.string ⟨#[100]⟩) W:=fun _=>by kernel_rfl
     have hmk:markB (3,true,r)=68:=by rfl
     rw[hmk]at HK
     have HU:Hid (∀W:World,Calls Tryz.prog 64 #[.string ⟨#[100]⟩] W fun e w'=>e=.returned (.string ⟨(Lib.toUpperA (⟨#[100]⟩:ByteArray).data.toList).toArray⟩)∧Below W.heap.size W w'):=qh (fun W=>Tryz.strings_ToUpper_ascii ⟨#[100]⟩ W (by decide) (fun j x hx=>by
      rcases j with _|j
      ·cases hx;decide
      ·cases hx))
     go_wp2_with fail
     refine(HU.out _).mono ?_
     rintro e2 w2 ⟨rfl,hb2⟩
     rw[show(⟨(Lib.toUpperA (⟨#[100]⟩:ByteArray).data.toList).toArray⟩:ByteArray)=⟨#[68]⟩from by decide]
     have HC2:=qh (HC1.out.call hb2)
     have HB2:=qh (HB1.out.trans (hb2.mono HB1.out.size))
     clear hb2
     go_wp2_with fail
     go_roundw
     case rel=>exact⟨k+1,by omega,by go_num,by first|exact HK.out|(rw[HK.out];rfl),HC2.out,HB2.out⟩
     case measure=>simp[intOf];omega
   ·obtain rfl:k=4:=by omega
    have x18:=HC.out.at_ 18 rfl
    have hz:(⟨(showP D++markS D.team 4).toArray⟩:ByteArray).size≤70:=by rw[mk_size,List.length_append];omega
    obtain⟨so,hso⟩:∃z,(⟨(showP D++markS D.team 4).toArray⟩:ByteArray)=z:=⟨_,rfl⟩
    rw[hso]at hz⊢
    have HSO:=qh hso
    have v2:¬(9223372036854775807<so.size+5):=by omega
    have v1:¬(9223372036854775802<so.size):=by omega
    clear hso
    by_cases hl:D.lost=true
    ·rw[hl]at x18
     have HE:Hid ((⟨(showS D).toArray⟩:ByteArray)=so++⟨#[32,108,111,115,116]⟩):=qh (by
      unfold showS lostS
      rw[if_pos hl,←mk_app,HSO.out])
     go_wp2_with fail
     go_ret
     exact⟨by rw[HE.out];rfl,HB.out⟩
    ·have hl2:D.lost=false:=by simpa using hl
     rw[hl2]at x18
     have HE:Hid ((⟨(showS D).toArray⟩:ByteArray)=so):=qh (by
      unfold showS lostS
      rw[if_neg hl,List.append_nil,HSO.out])
     go_wp2_with fail
     go_ret
     exact⟨by rw[HE.out];rfl,HB.out⟩
structure Dsk where
 D:Dyn
 I:Inp
 q:Int
abbrev dskL (b:Nat) (s:Dsk):List Value:=[ptr b,.string s.I.cmd,.int .i32 s.I.p0,.int .i32 s.I.p1,.int .i32 s.I.load,.int .i64 (s.I.f 0),.int .i64 (s.I.f 1),.int .i64 (s.I.f 2),.int .i64 (s.I.f 3),.bool s.I.ground,.int .i64 s.I.ask,.bool s.I.tries,.int .i64 s.I.reset,.int .u8 s.q]
structure DskOk (s:Dsk):Prop where
 good:DynOk nomS s.D
 inp:InpOk s.I
 q:0≤s.q∧s.q≤255
structure Grw (bd b:Nat) (w w':World):Prop where
 os:w'.os=w.os
 tape:w'.tape=w.tape
 output:w'.output=w.output
 size:w.heap.size≤w'.heap.size
 block:∀k,k<w.heap.size→k≠bd→k≠b→w'.heap[k]?=w.heap[k]?
theorem Grw.refl (bd b:Nat) (w:World):Grw bd b w w:=⟨rfl,rfl,rfl,Nat.le_refl _,fun _ _ _ _=>rfl⟩
theorem Grw.call {bd b:Nat} {w w1 w2:World} (h:Grw bd b w w1) (hb:Below w1.heap.size w1 w2):Grw bd b w w2:=
 ⟨hb.os.trans h.os,hb.tape.trans h.tape,hb.output.trans h.output,Nat.le_trans h.size hb.size,fun k h1 h2 h3=>(hb.block k (Nat.lt_of_lt_of_le h1 h.size)).trans (h.block k h1 h2 h3)⟩
theorem Grw.trans {bd b:Nat} {w w1 w2:World} (h:Grw bd b w w1) (g:Grw bd b w1 w2):Grw bd b w w2:=
 ⟨g.os.trans h.os,g.tape.trans h.tape,g.output.trans h.output,Nat.le_trans h.size g.size,fun k h1 h2 h3=>(g.block k (Nat.lt_of_lt_of_le h1 h.size) h2 h3).trans (h.block k h1 h2 h3)⟩
theorem Grw.row {bd b r:Nat} {w w1 w2:World} (h:Grw bd b w w1) (g:w1.grownBy w2 (some r)) (hr:r=bd∨r=b):Grw bd b w w2:=
 ⟨g.os.trans h.os,g.tape.trans h.tape,g.output.trans h.output,Nat.le_trans h.size g.size,fun k h1 h2 h3=>(g.block k (Nat.lt_of_lt_of_le h1 h.size) (by rintro e;cases e;rcases hr with e|e<;>contradiction)).trans (h.block k h1 h2 h3)⟩
structure Desk (A:Nat→Prop) (w0 w:World) (bd b:Nat) (s:Dsk):Prop where
 C:CellsAt w bd (dskL b s)
 W:∃vp vl vg,WAt w b (nomS.withAv A) s.D vp vl vg
 L0:Libs w0
 B:Below w0.heap.size w0 w
 hd:w0.heap.size≤bd
 hb:w0.heap.size≤b
 ne:b≠bd
 ok:DskOk s
 ha:A bd
section
variable {A:Nat→Prop} {w0 w w':World} {bd b:Nat} {s s':Dsk}
theorem Desk.call (h:Desk A w0 w bd b s) (hb:Below w.heap.size w w'):Desk A w0 w' bd b s:=
 ⟨h.C.call hb,by obtain⟨vp,vl,vg,hW⟩:=h.W;exact⟨vp,vl,vg,hW.call hb⟩,h.L0,h.B.trans (hb.mono h.B.size),h.hd,h.hb,h.ne,h.ok,h.ha⟩
theorem Desk.libs (h:Desk A w0 w bd b s):Libs w:=h.L0.later h.B
theorem Desk.set (h:Desk A w0 w bd b s) (ok:DskOk s') (j:Nat) (v:Value) (hj:j<14) (hc:(dskL b s).set j v=dskL b s') (hD:s'.D=s.D):Desk A w0 (w.setCell ⟨bd,j,none⟩ v) bd b s':=by
 refine⟨hc▸h.C.set_ j hj v,?_,h.L0,h.B.setCell (p:=⟨bd,j,none⟩) h.hd v,h.hd,h.hb,h.ne,ok,h.ha⟩
 obtain⟨vp,vl,vg,hW⟩:=h.W
 exact⟨vp,vl,vg,by rw[hD];exact hW.far (grown_setW w bd j v) h.ne h.ha⟩
theorem Desk.frame {D:Dyn} (h:Desk A w0 w bd b s) (hg:w.grownBy w' (some b)) {vp vl vg:Value} (hW:WAt w' b (nomS.withAv A) D vp vl vg) (ok:DskOk {s with D:=D}):Desk A w0 w' bd b {s with D:=D}:=
 ⟨far_cells h.C hg (Ne.symm h.ne),⟨vp,vl,vg,hW⟩,h.L0,below_of_grown h.B hg h.hb h.B.size,h.hd,h.hb,h.ne,ok,h.ha⟩
theorem Desk.show (h:Desk A w0 w bd b s):Calls Tryz.prog 39 #[ptr bd] w fun e w'=>e=.returned (.string ⟨(showS s.D).toArray⟩)∧Below w.heap.size w w':=by
 obtain⟨vp,vl,vg,hW⟩:=h.W
 have hp:=h.ok.good.pos
 exact show_is (h.C.at_ 0 rfl) hW (h.ok.good.withAv _) ⟨by have:(-6553600:Int)≤s.D.pos:=hp.1;omega,by have:s.D.pos≤(6553600:Int):=hp.2;omega⟩ h.libs
theorem Desk.more {c:Nat} (h:Desk A w0 w bd b s) (hb:Below w.heap.size w w') (h1:w.heap.size≤c) (h2:c<w'.heap.size):Desk (fun x=>A x∨x=c) w0 w' bd b s:=by
 obtain⟨vp,vl,vg,hW⟩:=h.W
 exact⟨h.C.call hb,⟨vp,vl,vg,hW.more hb h1 h2⟩,h.L0,h.B.trans (hb.mono h.B.size),h.hd,h.hb,h.ne,h.ok,.inl h.ha⟩
theorem Desk.less {B:Nat→Prop} (h:Desk A w0 w bd b s) (hB:∀x,B x→A x) (hbd:B bd):Desk B w0 w bd b s:=by
 obtain⟨vp,vl,vg,hW⟩:=h.W
 exact⟨h.C,⟨vp,vl,vg,hW.less (a:=B) hB⟩,h.L0,h.B,h.hd,h.hb,h.ne,h.ok,hbd⟩
theorem Desk.far {c:Nat} (h:Desk A w0 w bd b s) (hg:w.grownBy w' (some c)) (hc:A c) (h1:b≠c) (h2:bd≠c) (h0:w0.heap.size≤c):Desk A w0 w' bd b s:=by
 obtain⟨vp,vl,vg,hW⟩:=h.W
 exact⟨far_cells h.C hg h2,⟨vp,vl,vg,hW.far hg h1 hc⟩,h.L0,below_of_grown h.B hg h0 h.B.size,h.hd,h.hb,h.ne,h.ok,h.ha⟩
theorem Grw.far {c:Nat} {w1 w2:World} (h:Grw bd b w w1) (g:w1.grownBy w2 (some c)) (hc:w.heap.size≤c):Grw bd b w w2:=
 ⟨g.os.trans h.os,g.tape.trans h.tape,g.output.trans h.output,Nat.le_trans h.size g.size,fun k h1 h2 h3=>(g.block k (Nat.lt_of_lt_of_le h1 h.size) (by intro e;cases e;omega)).trans (h.block k h1 h2 h3)⟩
theorem own_grw {base k n:Nat} {e:TypeId} {v:Value} {xs:List Value} (h:w.ownsRow base e k v n xs) (g:Grw bd b w w') (h1:bd<base) (h2:b<base):w'.ownsRow base e k v n xs:=by
 refine⟨h.1,?_⟩
 rcases h.2 with hn|⟨c,cap,cur,rfl,hb,hgg,rest⟩
 ·exact .inl hn
 ·refine .inr ⟨c,cap,cur,rfl,hb,?_,rest⟩
  rw[g.block c (Array.getElem?_eq_some_iff.1 hgg).1 (by omega) (by omega)]
  exact hgg
theorem Desk.lt (h:Desk A w0 w bd b s):bd<w.heap.size∧b<w.heap.size:=by
 obtain⟨vp,vl,vg,hW⟩:=h.W
 exact⟨h.C.lt,hW.lt⟩
end
def DkPost (A:Nat→Prop) (w0 w:World) (bd b:Nat) (r:Ans×Dsk) (e:Ending) (w':World):Prop:=e=r.1.end∧Desk A w0 w' bd b r.2∧Grw bd b w w'
noncomputable def stepF (s:Dsk):Dsk:={s with D:=frameL nomS s.D s.I,I:={s.I with cmd:=⟨#[]⟩,ask:=0,tries:=false,reset:= -1}}
noncomputable def itF:Nat→Dsk→Dsk
 |0,s=>s
 |k+1,s=>stepF (itF k s)
noncomputable def framesO (n:Int) (s:Dsk):Ans×Dsk:=if 1≤n∧n≤500 then(.ok (showS (itF n.toNat s).D),itF n.toNat s)else(.err 1,s)
theorem wpStill_load_mid {P:Program} {ops:Array Oper} {w:World} {Q:Act→Prop} {a:Act} {o:Oper} {rest:List Oper} {v:Value} (hw:Region.wanted o (yielded ops a.tmps)=true) (ty:TypeId) (x:Operand) (ho:o.op=.load ty x) (b:Nat) (i:Nat) (hx:a.eval x=.pointer (some ⟨b,i,none⟩))
  (hr:(Instr.loadAt ty (.pointer (some ⟨b,i,none⟩))).run P w=.ok v w) (h:wpStill P ops w Q rest (a.put o.dst v)):wpStill P ops w Q (o::rest) a:=by
 unfold wpStill
 rw[if_pos hw]
 unfold Oper.still execOp
 simp only[ho,hx,Sem.run_bind,hr,Result.andThen_ok,Sem.run_pure]
 exact⟨rfl,h⟩
theorem clr_ok {s:Dsk} (h:DskOk s) (c:ByteArray) (hc:c.size≤140737488351232):DskOk {s with I:={s.I with cmd:=c}}:=⟨h.good,⟨hc,h.inp.p0,h.inp.p1,h.inp.load,h.inp.f,h.inp.ask,h.inp.reset⟩,h.q⟩
theorem ask_ok {s:Dsk} (h:DskOk s) (n:Int) (hn: -9223372036854775808≤n∧n≤9223372036854775807):DskOk {s with I:={s.I with ask:=n}}:=⟨h.good,⟨h.inp.cmd,h.inp.p0,h.inp.p1,h.inp.load,h.inp.f,hn,h.inp.reset⟩,h.q⟩
theorem tri_ok {s:Dsk} (h:DskOk s) (t:Bool):DskOk {s with I:={s.I with tries:=t}}:=⟨h.good,⟨h.inp.cmd,h.inp.p0,h.inp.p1,h.inp.load,h.inp.f,h.inp.ask,h.inp.reset⟩,h.q⟩
theorem rst_ok {s:Dsk} (h:DskOk s) (n:Int) (hn: -9223372036854775808≤n∧n≤9223372036854775807):DskOk {s with I:={s.I with reset:=n}}:=⟨h.good,⟨h.inp.cmd,h.inp.p0,h.inp.p1,h.inp.load,h.inp.f,h.inp.ask,hn⟩,h.q⟩
def FrRel (A:Nat→Prop) (w0 w:World) (bd b n:Nat) (s:Dsk) (i:Value) (wr:World):Prop:=∃k:Nat,k≤n∧i=.int .i64 k∧Desk A w0 wr bd b (itF k s)∧Grw bd b w wr
theorem frames_is {A:Nat→Prop} {w0 w:World} {bd b:Nat} {s:Dsk} (h:Desk A w0 w bd b s) (n:Int) (hn: -9223372036854775808≤n∧n≤9223372036854775807):
  Calls Tryz.prog 35 #[ptr bd,.int .i64 n] w (DkPost A w0 w bd b (framesO n s)):=by
 have H:=qh h
 clear h
 by_cases h1:n<1
 ·have HE:Hid (framesO n s=(.err 1,s)):=qh (by unfold framesO;rw[if_neg (by omega)])
  have e1:decide (n<1)=true:=decide_eq_true h1
  go_enter Tryz.func35,Tryz.ntmps35
  go_wp2_with fail
  refine(must_no 1 (by decide) _).mono ?_
  rintro e w2 ⟨rfl,rfl⟩
  exact⟨rfl,by rw[HE.out];rfl,by rw[HE.out];exact H.out,Grw.refl _ _ _⟩
 ·have e1:decide (n<1)=false:=decide_eq_false h1
  by_cases h2:500<n
  ·have HE:Hid (framesO n s=(.err 1,s)):=qh (by unfold framesO;rw[if_neg (by omega)])
   have e2:decide (500<n)=true:=decide_eq_true h2
   go_enter Tryz.func35,Tryz.ntmps35
   go_wp2_with fail
   refine(must_no 1 (by decide) _).mono ?_
   rintro e w2 ⟨rfl,rfl⟩
   exact⟨rfl,by rw[HE.out];rfl,by rw[HE.out];exact H.out,Grw.refl _ _ _⟩
  ·have e2:decide (500<n)=false:=decide_eq_false h2
   obtain⟨m,rfl⟩:∃m:Nat,n=m:=⟨n.toNat,by omega⟩
   have HE:Hid (framesO m s=(.ok (showS (itF m s).D),itF m s)):=qh (by unfold framesO;rw[if_pos (by omega),Int.toNat_natCast])
   have HI12:Hid ((Tryz.prog.info? 55).map (·.size)=some 12):=qh (by kernel_rfl)
   go_enter Tryz.func35,Tryz.ntmps35
   go_upto_region 4 with(fail)
   go_loopw [13] (fun i wr=>FrRel A w0 w bd b m s i wr) (fun i _=>m-(intOf i).toNat)
   case atStart=>exact⟨0,Nat.zero_le _,rfl,H.out,Grw.refl _ _ _⟩
   case round=>
    obtain⟨k,hk,rfl,hK,hG⟩:=hrel
    have HK:=qh hK;have HG:=qh hG
    clear hK hG
    by_cases hlt:k<m
    ·have d1:(k:Int)<(m:Int):=by omega
     have hwk:IntKind.i64.wrap ((k:Int)+1)=(k:Int)+1:=IntWalk.i64_in _ (by omega)
     have hsk:itF (k+1) s=stepF (itF k s):=rfl
     obtain⟨s1,hs1⟩:∃x,itF k s=x:=⟨_,rfl⟩
     rw[hs1]at HK hsk
     have HSK:=qh hsk
     clear hsk hs1
     have x0:=HK.out.C.at_ 0 rfl
     obtain⟨vp,vl,vg,hW⟩:=HK.out.W
     obtain⟨IV,hIV⟩:∃v,inV s1.I=v:=⟨_,rfl⟩
     have ld:=run_loadAt_mid (P:=Tryz.prog) wr.drew bd 1 55 (inL s1.I) _ (rng_sub HK.out.C 1 12) Tryz.underlying55 rfl HI12.out
     rw[show Value.agg (inL s1.I).toArray=IV from hIV]at ld
     have HIV:=qh hIV
     have HW:=qh hW
     clear hIV hW
     go_upto_region 5 with(fail)
     refine wp_region_still_tail 8 (by kernel_rfl) (by kernel_rfl) ?_
     simp only[List.take_succ_cons,List.take_zero,List.drop_succ_cons,List.drop_zero]
     change wpStill _ _ wr.drew _ _ _
     repeat still_step
     refine wpStill_load_mid (by rfl) 55 (.tmp 21) rfl _ _ rfl ld ?_
     refine wpStill_nil ?_
     change wpList _ _ _ _ _ wr.drew
     have bdw:Below wr.heap.size wr wr.drew:=(bLr).drew
     clear ld x0
     have HK1:=qh (HK.out.call bdw)
     have HG1:=qh (HG.out.call bdw)
     have HW1:=qh (HW.out.call bdw)
     clear bdw HW
     obtain⟨w1,hw1⟩:∃x,wr.drew=x:=⟨_,rfl⟩
     rw[hw1]at HK1 HG1 HW1⊢
     clear hw1 HK HG
     go_wp2_with fail
     rw[←HIV.out]
     have hfr:=wframe_is (I:=s1.I) HW1.out (nom_ok.withAv _) (HK1.out.ok.good.withAv _) HK1.out.ok.inp
     have e0:frameL (nomS.withAv A) s1.D s1.I=frameL nomS s1.D s1.I:=frameL_av nomS _ _ _
     rw[e0]at hfr
     refine hfr.mono ?_
     clear hfr e0
     rintro e0 w2 ⟨v2,vl2,vg2,rfl,hW2,hg2,-,-⟩
     obtain⟨D2,hD2⟩:∃x,frameL nomS s1.D s1.I=x:=⟨_,rfl⟩
     have ok2:DskOk {s1 with D:=D2}:=⟨by rw[←hD2];exact frameL_good nom_ok _ HK1.out.ok.good,HK1.out.ok.inp,HK1.out.ok.q⟩
     rw[hD2]at hW2
     have HK2:Hid (Desk A w0 w2 bd b {s1 with D:=D2}):=qh (HK1.out.frame hg2 hW2 ok2)
     have HG2:=qh (HG1.out.row hg2 (.inr rfl))
     have HD2:=qh hD2
     have ok3:=clr_ok ok2 ⟨#[]⟩ (by decide)
     have ok4:=ask_ok ok3 0 (by decide)
     have ok5:=tri_ok ok4 false
     have ok6:=rst_ok ok5 (-1) (by decide)
     have C:=HK2.out.C
     have y1:=C.at_ 1 rfl;have y2:=C.at_ 10 rfl;have y3:=C.at_ 11 rfl;have y4:=C.at_ 12 rfl
     have f1:=C.2.1 1;have f2:=C.2.1 10;have f3:=C.2.1 11;have f4:=C.2.1 12
     have yz:=C.lt
     have K3:=HK2.out.set ok3 1 (.string ⟨#[]⟩) (by decide) rfl rfl
     have K4:=K3.set ok4 10 (.int .i64 0) (by decide) rfl rfl
     have K5:=K4.set ok5 11 (.bool false) (by decide) rfl rfl
     have K6:=qh (K5.set ok6 12 (.int .i64 (-1)) (by decide) rfl rfl)
     have G3:=HG2.out.row (grown_setW w2 bd 1 (.string ⟨#[]⟩)) (.inl rfl)
     have G4:=G3.row (grown_setW _ bd 10 (.int .i64 0)) (.inl rfl)
     have G5:=G4.row (grown_setW _ bd 11 (.bool false)) (.inl rfl)
     have G6:=qh (G5.row (grown_setW _ bd 12 (.int .i64 (-1))) (.inl rfl))
     clear C K3 K4 K5 G3 G4 G5 ok2 ok3 ok4 ok5 ok6 hW2 hg2 hD2 HK1 HG1 HW1 HK2 HG2
     go_wp2_with fail
     go_roundw
     case rel=>exact⟨k+1,by omega,by go_num,by rw[HSK.out];unfold stepF;rw[HD2.out];exact K6.out,G6.out⟩
     case measure=>simp[intOf];omega
    ·obtain rfl:k=m:=by omega
     go_wp2_with fail
     refine HK.out.show.mono ?_
     rintro e1 w1 ⟨rfl,hb1⟩
     have HB1:=qh hb1
     clear hb1
     go_wp2_with fail
     go_ret
     exact⟨by rw[HE.out];rfl,by rw[HE.out];exact HK.out.call HB1.out,HG.out.call HB1.out⟩
def wntQ (s:Dsk):Dsk:={s with q:=(s.q+1)%256}
def wntD (x:Int) (s:Dsk):Dsk:={s with q:=(s.q+1)%256,I:={s.I with cmd:=packS 2 0 ((s.q+1)%256) [x]}}
def okS:List UInt8:=[111,107]
theorem wantQ_ok {s:Dsk} (h:DskOk s):DskOk (wntQ s):=⟨h.good,h.inp,by show 0≤(s.q+1)%256∧(s.q+1)%256≤255;omega⟩
theorem want_is {A:Nat→Prop} {w0 w:World} {bd b:Nat} {s:Dsk} (h:Desk A w0 w bd b s) (x:Int) (hx: -2147483648≤x∧x≤2147483647):
  Calls Tryz.prog 37 #[ptr bd,.int .i32 x] w (DkPost A w0 w bd b (.ok okS,wntD x s)):=by
 have hq:=h.ok.q
 have okq:=wantQ_ok h.ok
 obtain⟨q1,hq1⟩:∃q,(s.q+1)%256=q:=⟨_,rfl⟩
 have hw1:IntKind.u8.wrap (s.q+1)=q1:=by
  rw[←hq1]
  simp only[IntKind.wrap,IntKind.bits,IntKind.signed]
  simp
 have hqb:0≤q1∧q1≤255:=by omega
 have x13:=h.C.at_ 13 rfl
 have f13:=h.C.2.1 13
 have xz:=h.C.lt
 have K1:=h.set okq 13 (.int .u8 q1) (by decide) (by show _=dskL b {s with q:=(s.q+1)%256};rw[hq1];rfl) rfl
 have G1:=(Grw.refl bd b w).row (grown_setW w bd 13 (.int .u8 q1)) (.inl rfl)
 obtain⟨w1,hw1'⟩:∃y,w.setCell ⟨bd,13,none⟩ (.int .u8 q1)=y:=⟨_,rfl⟩
 rw[hw1']at K1 G1
 have z13:w1.cell? ⟨bd,13,none⟩=some (.int .u8 q1):=by
  have:=K1.C.at_ 13 rfl
  rw[←hq1];exact this
 obtain⟨w4,hw4⟩:∃y,w1.alloc (.cells #[.int .i32 x] 21)=y:=⟨_,rfl⟩
 have O4:w4.ownsRow w1.heap.size 21 1 (.slice (some ⟨w1.heap.size,0,none⟩) 1 1) 1 #[.int .i32 x].toList:=hw4▸World.ownsRow_lit w1 #[.int .i32 x] 1 (Nat.le_refl _) (by unfold maxLen;omega) rfl
 have HPK:=qh (pack_yes 2 0 q1 (.slice (some ⟨w1.heap.size,0,none⟩) 1 1) [x] w4 (own_ints' O4) (.inr rfl) (by omega) hqb (by simp) (by simpa using hx))
 have HB:Hid (Below w1.heap.size w1 w4):=qh (hw4▸(bLr).alloc (Nat.le_refl _) _)
 have HW1:=qh hw1'
 have HW4:=qh hw4
 have HK1:=qh K1;have HG1:=qh G1
 have HQ1:=qh hq1
 clear O4 hw4 hw1' K1 G1 hq okq h hq1
 go_enter Tryz.func37,Tryz.ntmps37
 go_upto_region 2 with(fail)
 rw[HW1.out]
 go_wp2_with fail
 rw[HW4.out]
 refine HPK.out.mono ?_
 rintro e5 w5 ⟨rfl,hb5⟩
 have HB5:=qh (HB.out.trans (hb5.mono HB.out.size))
 clear hb5
 go_wp2_with fail
 refine(must_ok _).mono ?_
 rintro e6 w6 ⟨rfl,rfl⟩
 have K5:=HK1.out.call HB5.out
 have G5:=HG1.out.call HB5.out
 have y1:=K5.C.at_ 1 rfl
 have f1:=K5.C.2.1 1
 have yz:=K5.C.lt
 have K6:=qh (K5.set (clr_ok K5.ok (packS 2 0 q1 [x]) (by rw[pack_size];simp)) 1 (.string (packS 2 0 q1 [x])) (by decide) rfl rfl)
 have G6:=qh (G5.row (grown_setW _ bd 1 (.string (packS 2 0 q1 [x]))) (.inl rfl))
 have HE:Hid ({wntQ s with I:={(wntQ s).I with cmd:=packS 2 0 q1 [x]}}=wntD x s):=qh (by unfold wntD;rw[HQ1.out];unfold wntQ;rw[HQ1.out])
 clear K5 G5
 go_wp2_with fail
 go_ret
 exact⟨rfl,HE.out▸K6.out,G6.out⟩
end Go.Proofs.YtpkiepjmcepnoaaGreatDoor
