/- A part of a proof. -/
import Derived.Test.YtpkiepjmcepnoaaGreatDoorDzC
import Derived.Deep.RegionHeld3
set_option maxHeartbeats 16000000
set_option maxRecDepth 100000
set_option linter.unusedVariables false
namespace Go.Proofs.YtpkiepjmcepnoaaGreatDoor
open Go.ChangeShapes Go.WideShapes Go.ChangeAt Go.RowKit
inductive SetA where
 |yes (s:Dsk)
 |no
 |err (c:Int)
def SetA.end:SetA→Ending
 |.yes _=>.returned (.bool true)
 |.no=>.returned (.bool false)
 |.err c=>.panicked (wrongP c)
def SetA.dsk (s:Dsk):SetA→Dsk
 |.yes t=>t
 |_=>s
def wd (ls:List ByteArray) (k:Nat):List UInt8:=lst (ls.getD k ⟨#[]⟩)
def onFix (l:List UInt8) (f:Int→Dsk):SetA:=match fixN l with|some n=>.yes (f n)|none=>.err 10
def onLane (l:List UInt8) (f:Nat→Dsk):SetA:=match numN l with|some n=>if 0≤n∧n<4 then .yes (f n.toNat)else .err 1|none=>.err 10
def setF (s:Dsk) (n:Nat) (x:Int):Dsk:={s with I:={s.I with f:=fun k=>if k=n then x else s.I.f k}}
abbrev oilZ:ByteArray:=⟨#[111,105,108]⟩
abbrev loadZ:ByteArray:=⟨#[108,111,97,100]⟩
abbrev stickZ:ByteArray:=⟨#[115,116,105,99,107]⟩
abbrev blindZ:ByteArray:=⟨#[98,108,105,110,100]⟩
abbrev mendZ:ByteArray:=⟨#[109,101,110,100]⟩
abbrev airZ:ByteArray:=⟨#[97,105,114]⟩
abbrev groundZ:ByteArray:=⟨#[103,114,111,117,110,100]⟩
abbrev askZ:ByteArray:=⟨#[97,115,107]⟩
abbrev tryZ:ByteArray:=⟨#[116,114,121]⟩
abbrev resetZ:ByteArray:=⟨#[114,101,115,101,116]⟩
abbrev noiseZ:ByteArray:=⟨#[110,111,105,115,101]⟩
def setO (c:ByteArray) (ls:List ByteArray) (s:Dsk):SetA:=
 if c=oilZ∧ls.length=2 then(match fixN (wd ls 0),fixN (wd ls 1)with|some a,some c=>.yes {s with I:={s.I with p0:=a,p1:=c}}|_,_=>.err 10)else
 if c=loadZ∧ls.length=1 then onFix (wd ls 0) fun a=>{s with I:={s.I with load:=a}}else
 if c=stickZ∧ls.length=1 then onLane (wd ls 0) fun n=>setF s n (bits BinOp.or IntKind.i64 (s.I.f n) 1)else
 if c=blindZ∧ls.length=1 then onLane (wd ls 0) fun n=>setF s n (bits BinOp.or IntKind.i64 (s.I.f n) 2)else
 if c=mendZ∧ls.length=1 then onLane (wd ls 0) fun n=>setF s n 0 else
 if c=airZ∧ls.length=0 then .yes {s with I:={s.I with ground:=false}}else
 if c=groundZ∧ls.length=0 then .yes {s with I:={s.I with ground:=true}}else
 if c=askZ∧ls.length=1 then(match numN (wd ls 0)with|some n=>.yes {s with I:={s.I with ask:=n}}|none=>.err 10)else
 if c=tryZ∧ls.length=0 then .yes {s with I:={s.I with tries:=true}}else
 if c=resetZ∧ls.length=1 then onLane (wd ls 0) fun n=>{s with I:={s.I with reset:=n}}else
 if c=noiseZ∧ls.length=1 then .yes {s with I:={s.I with cmd:=ls.getD 0 ⟨#[]⟩}}else
 .no
def SetPost (A:Nat→Prop) (w0 w:World) (bd b:Nat) (s:Dsk) (r:SetA) (e:Ending) (w':World):Prop:=e=r.end∧Desk A w0 w' bd b (r.dsk s)∧Grw bd b w w'
theorem tl_eq (c x:ByteArray) (l:List UInt8) (hx:x.toList=l) (h:c=x):c.toList=l:=by rw[h,hx]
theorem tl_ne (c x:ByteArray) (l:List UInt8) (hx:x.toList=l) (h:c≠x):(c.toList==l)=false:=by
 rw[←hx]
 rw[beq_eq_false_iff_ne,ByteArray.toList_eq,ByteArray.toList_eq]
 intro e
 apply h
 cases c;cases x
 simpa using e
theorem set_none {A:Nat→Prop} {w0 w:World} {bd b:Nat} {s:Dsk} (h:Desk A w0 w bd b s) (c:ByteArray) (v:Value) (ls:List ByteArray) (hv:RecsAt 1 strLay w v ls) (n0:c≠oilZ) (n1:c≠loadZ) (n2:c≠stickZ) (n3:c≠blindZ) (n4:c≠mendZ) (n5:c≠airZ) (n6:c≠groundZ) (n7:c≠askZ) (n8:c≠tryZ) (n9:c≠resetZ) (n10:c≠noiseZ):
  Calls Tryz.prog 34 #[ptr bd,.string c,v] w (SetPost A w0 w bd b s .no):=by
 obtain⟨a,cp,rfl⟩:=hv.len
 have H:=qh h
 clear h hv
 have e0:=tl_ne c ⟨#[111,105,108]⟩ [111,105,108] (ByteArray.toList_eq _) n0
 have g0:¬c.toList=[111,105,108]:=by simpa using e0
 have e1:=tl_ne c ⟨#[108,111,97,100]⟩ [108,111,97,100] (ByteArray.toList_eq _) n1
 have g1:¬c.toList=[108,111,97,100]:=by simpa using e1
 have e2:=tl_ne c ⟨#[115,116,105,99,107]⟩ [115,116,105,99,107] (ByteArray.toList_eq _) n2
 have g2:¬c.toList=[115,116,105,99,107]:=by simpa using e2
 have e3:=tl_ne c ⟨#[98,108,105,110,100]⟩ [98,108,105,110,100] (ByteArray.toList_eq _) n3
 have g3:¬c.toList=[98,108,105,110,100]:=by simpa using e3
 have e4:=tl_ne c ⟨#[109,101,110,100]⟩ [109,101,110,100] (ByteArray.toList_eq _) n4
 have g4:¬c.toList=[109,101,110,100]:=by simpa using e4
 have e5:=tl_ne c ⟨#[97,105,114]⟩ [97,105,114] (ByteArray.toList_eq _) n5
 have g5:¬c.toList=[97,105,114]:=by simpa using e5
 have e6:=tl_ne c ⟨#[103,114,111,117,110,100]⟩ [103,114,111,117,110,100] (ByteArray.toList_eq _) n6
 have g6:¬c.toList=[103,114,111,117,110,100]:=by simpa using e6
 have e7:=tl_ne c ⟨#[97,115,107]⟩ [97,115,107] (ByteArray.toList_eq _) n7
 have g7:¬c.toList=[97,115,107]:=by simpa using e7
 have e8:=tl_ne c ⟨#[116,114,121]⟩ [116,114,121] (ByteArray.toList_eq _) n8
 have g8:¬c.toList=[116,114,121]:=by simpa using e8
 have e9:=tl_ne c ⟨#[114,101,115,101,116]⟩ [114,101,115,101,116] (ByteArray.toList_eq _) n9
 have g9:¬c.toList=[114,101,115,101,116]:=by simpa using e9
 have e10:=tl_ne c ⟨#[110,111,105,115,101]⟩ [110,111,105,115,101] (ByteArray.toList_eq _) n10
 have g10:¬c.toList=[110,111,105,115,101]:=by simpa using e10
 clear n0 n1 n2 n3 n4 n5 n6 n7 n8 n9 n10
 go_enter Tryz.func34,Tryz.ntmps34
 go_wp2_with fail
 go_ret
 exact⟨rfl,H.out,Grw.refl _ _ _⟩
theorem set_len_oil {A:Nat→Prop} {w0 w:World} {bd b:Nat} {s:Dsk} (h:Desk A w0 w bd b s) (c:ByteArray) (v:Value) (ls:List ByteArray) (hv:RecsAt 1 strLay w v ls) (hc:c=oilZ) (hn:ls.length≠2):
  Calls Tryz.prog 34 #[ptr bd,.string c,v] w (SetPost A w0 w bd b s .no):=by
 obtain⟨a,cp,rfl⟩:=hv.len
 have H:=qh h
 have d:((ls.length:Int)==2)=false:=by rw[beq_eq_false_iff_ne];omega
 have d2:¬(ls.length:Int)=2:=by omega
 clear h hv
 have e0:c.toList=[111,105,108]:=tl_eq c ⟨#[111,105,108]⟩ _ (ByteArray.toList_eq _) hc
 have e1:=tl_ne c ⟨#[108,111,97,100]⟩ [108,111,97,100] (ByteArray.toList_eq _) (by rw[hc];decide)
 have g1:¬c.toList=[108,111,97,100]:=by simpa using e1
 have e2:=tl_ne c ⟨#[115,116,105,99,107]⟩ [115,116,105,99,107] (ByteArray.toList_eq _) (by rw[hc];decide)
 have g2:¬c.toList=[115,116,105,99,107]:=by simpa using e2
 have e3:=tl_ne c ⟨#[98,108,105,110,100]⟩ [98,108,105,110,100] (ByteArray.toList_eq _) (by rw[hc];decide)
 have g3:¬c.toList=[98,108,105,110,100]:=by simpa using e3
 have e4:=tl_ne c ⟨#[109,101,110,100]⟩ [109,101,110,100] (ByteArray.toList_eq _) (by rw[hc];decide)
 have g4:¬c.toList=[109,101,110,100]:=by simpa using e4
 have e5:=tl_ne c ⟨#[97,105,114]⟩ [97,105,114] (ByteArray.toList_eq _) (by rw[hc];decide)
 have g5:¬c.toList=[97,105,114]:=by simpa using e5
 have e6:=tl_ne c ⟨#[103,114,111,117,110,100]⟩ [103,114,111,117,110,100] (ByteArray.toList_eq _) (by rw[hc];decide)
 have g6:¬c.toList=[103,114,111,117,110,100]:=by simpa using e6
 have e7:=tl_ne c ⟨#[97,115,107]⟩ [97,115,107] (ByteArray.toList_eq _) (by rw[hc];decide)
 have g7:¬c.toList=[97,115,107]:=by simpa using e7
 have e8:=tl_ne c ⟨#[116,114,121]⟩ [116,114,121] (ByteArray.toList_eq _) (by rw[hc];decide)
 have g8:¬c.toList=[116,114,121]:=by simpa using e8
 have e9:=tl_ne c ⟨#[114,101,115,101,116]⟩ [114,101,115,101,116] (ByteArray.toList_eq _) (by rw[hc];decide)
 have g9:¬c.toList=[114,101,115,101,116]:=by simpa using e9
 have e10:=tl_ne c ⟨#[110,111,105,115,101]⟩ [110,111,105,115,101] (ByteArray.toList_eq _) (by rw[hc];decide)
 have g10:¬c.toList=[110,111,105,115,101]:=by simpa using e10
 clear hc hn
 go_enter Tryz.func34,Tryz.ntmps34
 go_wp2_with fail
 go_ret
 exact⟨rfl,H.out,Grw.refl _ _ _⟩
theorem set_len_load {A:Nat→Prop} {w0 w:World} {bd b:Nat} {s:Dsk} (h:Desk A w0 w bd b s) (c:ByteArray) (v:Value) (ls:List ByteArray) (hv:RecsAt 1 strLay w v ls) (hc:c=loadZ) (hn:ls.length≠1):
  Calls Tryz.prog 34 #[ptr bd,.string c,v] w (SetPost A w0 w bd b s .no):=by
 obtain⟨a,cp,rfl⟩:=hv.len
 have H:=qh h
 have d:((ls.length:Int)==1)=false:=by rw[beq_eq_false_iff_ne];omega
 have d2:¬(ls.length:Int)=1:=by omega
 clear h hv
 have e0:=tl_ne c ⟨#[111,105,108]⟩ [111,105,108] (ByteArray.toList_eq _) (by rw[hc];decide)
 have g0:¬c.toList=[111,105,108]:=by simpa using e0
 have e1:c.toList=[108,111,97,100]:=tl_eq c ⟨#[108,111,97,100]⟩ _ (ByteArray.toList_eq _) hc
 have e2:=tl_ne c ⟨#[115,116,105,99,107]⟩ [115,116,105,99,107] (ByteArray.toList_eq _) (by rw[hc];decide)
 have g2:¬c.toList=[115,116,105,99,107]:=by simpa using e2
 have e3:=tl_ne c ⟨#[98,108,105,110,100]⟩ [98,108,105,110,100] (ByteArray.toList_eq _) (by rw[hc];decide)
 have g3:¬c.toList=[98,108,105,110,100]:=by simpa using e3
 have e4:=tl_ne c ⟨#[109,101,110,100]⟩ [109,101,110,100] (ByteArray.toList_eq _) (by rw[hc];decide)
 have g4:¬c.toList=[109,101,110,100]:=by simpa using e4
 have e5:=tl_ne c ⟨#[97,105,114]⟩ [97,105,114] (ByteArray.toList_eq _) (by rw[hc];decide)
 have g5:¬c.toList=[97,105,114]:=by simpa using e5
 have e6:=tl_ne c ⟨#[103,114,111,117,110,100]⟩ [103,114,111,117,110,100] (ByteArray.toList_eq _) (by rw[hc];decide)
 have g6:¬c.toList=[103,114,111,117,110,100]:=by simpa using e6
 have e7:=tl_ne c ⟨#[97,115,107]⟩ [97,115,107] (ByteArray.toList_eq _) (by rw[hc];decide)
 have g7:¬c.toList=[97,115,107]:=by simpa using e7
 have e8:=tl_ne c ⟨#[116,114,121]⟩ [116,114,121] (ByteArray.toList_eq _) (by rw[hc];decide)
 have g8:¬c.toList=[116,114,121]:=by simpa using e8
 have e9:=tl_ne c ⟨#[114,101,115,101,116]⟩ [114,101,115,101,116] (ByteArray.toList_eq _) (by rw[hc];decide)
 have g9:¬c.toList=[114,101,115,101,116]:=by simpa using e9
 have e10:=tl_ne c ⟨#[110,111,105,115,101]⟩ [110,111,105,115,101] (ByteArray.toList_eq _) (by rw[hc];decide)
 have g10:¬c.toList=[110,111,105,115,101]:=by simpa using e10
 clear hc hn
 go_enter Tryz.func34,Tryz.ntmps34
 go_wp2_with fail
 go_ret
 exact⟨rfl,H.out,Grw.refl _ _ _⟩
theorem set_len_stick {A:Nat→Prop} {w0 w:World} {bd b:Nat} {s:Dsk} (h:Desk A w0 w bd b s) (c:ByteArray) (v:Value) (ls:List ByteArray) (hv:RecsAt 1 strLay w v ls) (hc:c=stickZ) (hn:ls.length≠1):
  Calls Tryz.prog 34 #[ptr bd,.string c,v] w (SetPost A w0 w bd b s .no):=by
 obtain⟨a,cp,rfl⟩:=hv.len
 have H:=qh h
 have d:((ls.length:Int)==1)=false:=by rw[beq_eq_false_iff_ne];omega
 have d2:¬(ls.length:Int)=1:=by omega
 clear h hv
 have e0:=tl_ne c ⟨#[111,105,108]⟩ [111,105,108] (ByteArray.toList_eq _) (by rw[hc];decide)
 have g0:¬c.toList=[111,105,108]:=by simpa using e0
 have e1:=tl_ne c ⟨#[108,111,97,100]⟩ [108,111,97,100] (ByteArray.toList_eq _) (by rw[hc];decide)
 have g1:¬c.toList=[108,111,97,100]:=by simpa using e1
 have e2:c.toList=[115,116,105,99,107]:=tl_eq c ⟨#[115,116,105,99,107]⟩ _ (ByteArray.toList_eq _) hc
 have e3:=tl_ne c ⟨#[98,108,105,110,100]⟩ [98,108,105,110,100] (ByteArray.toList_eq _) (by rw[hc];decide)
 have g3:¬c.toList=[98,108,105,110,100]:=by simpa using e3
 have e4:=tl_ne c ⟨#[109,101,110,100]⟩ [109,101,110,100] (ByteArray.toList_eq _) (by rw[hc];decide)
 have g4:¬c.toList=[109,101,110,100]:=by simpa using e4
 have e5:=tl_ne c ⟨#[97,105,114]⟩ [97,105,114] (ByteArray.toList_eq _) (by rw[hc];decide)
 have g5:¬c.toList=[97,105,114]:=by simpa using e5
 have e6:=tl_ne c ⟨#[103,114,111,117,110,100]⟩ [103,114,111,117,110,100] (ByteArray.toList_eq _) (by rw[hc];decide)
 have g6:¬c.toList=[103,114,111,117,110,100]:=by simpa using e6
 have e7:=tl_ne c ⟨#[97,115,107]⟩ [97,115,107] (ByteArray.toList_eq _) (by rw[hc];decide)
 have g7:¬c.toList=[97,115,107]:=by simpa using e7
 have e8:=tl_ne c ⟨#[116,114,121]⟩ [116,114,121] (ByteArray.toList_eq _) (by rw[hc];decide)
 have g8:¬c.toList=[116,114,121]:=by simpa using e8
 have e9:=tl_ne c ⟨#[114,101,115,101,116]⟩ [114,101,115,101,116] (ByteArray.toList_eq _) (by rw[hc];decide)
 have g9:¬c.toList=[114,101,115,101,116]:=by simpa using e9
 have e10:=tl_ne c ⟨#[110,111,105,115,101]⟩ [110,111,105,115,101] (ByteArray.toList_eq _) (by rw[hc];decide)
 have g10:¬c.toList=[110,111,105,115,101]:=by simpa using e10
 clear hc hn
 go_enter Tryz.func34,Tryz.ntmps34
 go_wp2_with fail
 go_ret
 exact⟨rfl,H.out,Grw.refl _ _ _⟩
theorem set_len_blind {A:Nat→Prop} {w0 w:World} {bd b:Nat} {s:Dsk} (h:Desk A w0 w bd b s) (c:ByteArray) (v:Value) (ls:List ByteArray) (hv:RecsAt 1 strLay w v ls) (hc:c=blindZ) (hn:ls.length≠1):
  Calls Tryz.prog 34 #[ptr bd,.string c,v] w (SetPost A w0 w bd b s .no):=by
 obtain⟨a,cp,rfl⟩:=hv.len
 have H:=qh h
 have d:((ls.length:Int)==1)=false:=by rw[beq_eq_false_iff_ne];omega
 have d2:¬(ls.length:Int)=1:=by omega
 clear h hv
 have e0:=tl_ne c ⟨#[111,105,108]⟩ [111,105,108] (ByteArray.toList_eq _) (by rw[hc];decide)
 have g0:¬c.toList=[111,105,108]:=by simpa using e0
 have e1:=tl_ne c ⟨#[108,111,97,100]⟩ [108,111,97,100] (ByteArray.toList_eq _) (by rw[hc];decide)
 have g1:¬c.toList=[108,111,97,100]:=by simpa using e1
 have e2:=tl_ne c ⟨#[115,116,105,99,107]⟩ [115,116,105,99,107] (ByteArray.toList_eq _) (by rw[hc];decide)
 have g2:¬c.toList=[115,116,105,99,107]:=by simpa using e2
 have e3:c.toList=[98,108,105,110,100]:=tl_eq c ⟨#[98,108,105,110,100]⟩ _ (ByteArray.toList_eq _) hc
 have e4:=tl_ne c ⟨#[109,101,110,100]⟩ [109,101,110,100] (ByteArray.toList_eq _) (by rw[hc];decide)
 have g4:¬c.toList=[109,101,110,100]:=by simpa using e4
 have e5:=tl_ne c ⟨#[97,105,114]⟩ [97,105,114] (ByteArray.toList_eq _) (by rw[hc];decide)
 have g5:¬c.toList=[97,105,114]:=by simpa using e5
 have e6:=tl_ne c ⟨#[103,114,111,117,110,100]⟩ [103,114,111,117,110,100] (ByteArray.toList_eq _) (by rw[hc];decide)
 have g6:¬c.toList=[103,114,111,117,110,100]:=by simpa using e6
 have e7:=tl_ne c ⟨#[97,115,107]⟩ [97,115,107] (ByteArray.toList_eq _) (by rw[hc];decide)
 have g7:¬c.toList=[97,115,107]:=by simpa using e7
 have e8:=tl_ne c ⟨#[116,114,121]⟩ [116,114,121] (ByteArray.toList_eq _) (by rw[hc];decide)
 have g8:¬c.toList=[116,114,121]:=by simpa using e8
 have e9:=tl_ne c ⟨#[114,101,115,101,116]⟩ [114,101,115,101,116] (ByteArray.toList_eq _) (by rw[hc];decide)
 have g9:¬c.toList=[114,101,115,101,116]:=by simpa using e9
 have e10:=tl_ne c ⟨#[110,111,105,115,101]⟩ [110,111,105,115,101] (ByteArray.toList_eq _) (by rw[hc];decide)
 have g10:¬c.toList=[110,111,105,115,101]:=by simpa using e10
 clear hc hn
 go_enter Tryz.func34,Tryz.ntmps34
 go_wp2_with fail
 go_ret
 exact⟨rfl,H.out,Grw.refl _ _ _⟩
theorem set_len_mend {A:Nat→Prop} {w0 w:World} {bd b:Nat} {s:Dsk} (h:Desk A w0 w bd b s) (c:ByteArray) (v:Value) (ls:List ByteArray) (hv:RecsAt 1 strLay w v ls) (hc:c=mendZ) (hn:ls.length≠1):
  Calls Tryz.prog 34 #[ptr bd,.string c,v] w (SetPost A w0 w bd b s .no):=by
 obtain⟨a,cp,rfl⟩:=hv.len
 have H:=qh h
 have d:((ls.length:Int)==1)=false:=by rw[beq_eq_false_iff_ne];omega
 have d2:¬(ls.length:Int)=1:=by omega
 clear h hv
 have e0:=tl_ne c ⟨#[111,105,108]⟩ [111,105,108] (ByteArray.toList_eq _) (by rw[hc];decide)
 have g0:¬c.toList=[111,105,108]:=by simpa using e0
 have e1:=tl_ne c ⟨#[108,111,97,100]⟩ [108,111,97,100] (ByteArray.toList_eq _) (by rw[hc];decide)
 have g1:¬c.toList=[108,111,97,100]:=by simpa using e1
 have e2:=tl_ne c ⟨#[115,116,105,99,107]⟩ [115,116,105,99,107] (ByteArray.toList_eq _) (by rw[hc];decide)
 have g2:¬c.toList=[115,116,105,99,107]:=by simpa using e2
 have e3:=tl_ne c ⟨#[98,108,105,110,100]⟩ [98,108,105,110,100] (ByteArray.toList_eq _) (by rw[hc];decide)
 have g3:¬c.toList=[98,108,105,110,100]:=by simpa using e3
 have e4:c.toList=[109,101,110,100]:=tl_eq c ⟨#[109,101,110,100]⟩ _ (ByteArray.toList_eq _) hc
 have e5:=tl_ne c ⟨#[97,105,114]⟩ [97,105,114] (ByteArray.toList_eq _) (by rw[hc];decide)
 have g5:¬c.toList=[97,105,114]:=by simpa using e5
 have e6:=tl_ne c ⟨#[103,114,111,117,110,100]⟩ [103,114,111,117,110,100] (ByteArray.toList_eq _) (by rw[hc];decide)
 have g6:¬c.toList=[103,114,111,117,110,100]:=by simpa using e6
 have e7:=tl_ne c ⟨#[97,115,107]⟩ [97,115,107] (ByteArray.toList_eq _) (by rw[hc];decide)
 have g7:¬c.toList=[97,115,107]:=by simpa using e7
 have e8:=tl_ne c ⟨#[116,114,121]⟩ [116,114,121] (ByteArray.toList_eq _) (by rw[hc];decide)
 have g8:¬c.toList=[116,114,121]:=by simpa using e8
 have e9:=tl_ne c ⟨#[114,101,115,101,116]⟩ [114,101,115,101,116] (ByteArray.toList_eq _) (by rw[hc];decide)
 have g9:¬c.toList=[114,101,115,101,116]:=by simpa using e9
 have e10:=tl_ne c ⟨#[110,111,105,115,101]⟩ [110,111,105,115,101] (ByteArray.toList_eq _) (by rw[hc];decide)
 have g10:¬c.toList=[110,111,105,115,101]:=by simpa using e10
 clear hc hn
 go_enter Tryz.func34,Tryz.ntmps34
 go_wp2_with fail
 go_ret
 exact⟨rfl,H.out,Grw.refl _ _ _⟩
theorem set_len_air {A:Nat→Prop} {w0 w:World} {bd b:Nat} {s:Dsk} (h:Desk A w0 w bd b s) (c:ByteArray) (v:Value) (ls:List ByteArray) (hv:RecsAt 1 strLay w v ls) (hc:c=airZ) (hn:ls.length≠0):
  Calls Tryz.prog 34 #[ptr bd,.string c,v] w (SetPost A w0 w bd b s .no):=by
 obtain⟨a,cp,rfl⟩:=hv.len
 have H:=qh h
 have d:((ls.length:Int)==0)=false:=by rw[beq_eq_false_iff_ne];omega
 have d2:¬(ls.length:Int)=0:=by omega
 clear h hv
 have e0:=tl_ne c ⟨#[111,105,108]⟩ [111,105,108] (ByteArray.toList_eq _) (by rw[hc];decide)
 have g0:¬c.toList=[111,105,108]:=by simpa using e0
 have e1:=tl_ne c ⟨#[108,111,97,100]⟩ [108,111,97,100] (ByteArray.toList_eq _) (by rw[hc];decide)
 have g1:¬c.toList=[108,111,97,100]:=by simpa using e1
 have e2:=tl_ne c ⟨#[115,116,105,99,107]⟩ [115,116,105,99,107] (ByteArray.toList_eq _) (by rw[hc];decide)
 have g2:¬c.toList=[115,116,105,99,107]:=by simpa using e2
 have e3:=tl_ne c ⟨#[98,108,105,110,100]⟩ [98,108,105,110,100] (ByteArray.toList_eq _) (by rw[hc];decide)
 have g3:¬c.toList=[98,108,105,110,100]:=by simpa using e3
 have e4:=tl_ne c ⟨#[109,101,110,100]⟩ [109,101,110,100] (ByteArray.toList_eq _) (by rw[hc];decide)
 have g4:¬c.toList=[109,101,110,100]:=by simpa using e4
 have e5:c.toList=[97,105,114]:=tl_eq c ⟨#[97,105,114]⟩ _ (ByteArray.toList_eq _) hc
 have e6:=tl_ne c ⟨#[103,114,111,117,110,100]⟩ [103,114,111,117,110,100] (ByteArray.toList_eq _) (by rw[hc];decide)
 have g6:¬c.toList=[103,114,111,117,110,100]:=by simpa using e6
 have e7:=tl_ne c ⟨#[97,115,107]⟩ [97,115,107] (ByteArray.toList_eq _) (by rw[hc];decide)
 have g7:¬c.toList=[97,115,107]:=by simpa using e7
 have e8:=tl_ne c ⟨#[116,114,121]⟩ [116,114,121] (ByteArray.toList_eq _) (by rw[hc];decide)
 have g8:¬c.toList=[116,114,121]:=by simpa using e8
 have e9:=tl_ne c ⟨#[114,101,115,101,116]⟩ [114,101,115,101,116] (ByteArray.toList_eq _) (by rw[hc];decide)
 have g9:¬c.toList=[114,101,115,101,116]:=by simpa using e9
 have e10:=tl_ne c ⟨#[110,111,105,115,101]⟩ [110,111,105,115,101] (ByteArray.toList_eq _) (by rw[hc];decide)
 have g10:¬c.toList=[110,111,105,115,101]:=by simpa using e10
 clear hc hn
 go_enter Tryz.func34,Tryz.ntmps34
 go_wp2_with fail
 go_ret
 exact⟨rfl,H.out,Grw.refl _ _ _⟩
theorem set_len_ground {A:Nat→Prop} {w0 w:World} {bd b:Nat} {s:Dsk} (h:Desk A w0 w bd b s) (c:ByteArray) (v:Value) (ls:List ByteArray) (hv:RecsAt 1 strLay w v ls) (hc:c=groundZ) (hn:ls.length≠0):
  Calls Tryz.prog 34 #[ptr bd,.string c,v] w (SetPost A w0 w bd b s .no):=by
 obtain⟨a,cp,rfl⟩:=hv.len
 have H:=qh h
 have d:((ls.length:Int)==0)=false:=by rw[beq_eq_false_iff_ne];omega
 have d2:¬(ls.length:Int)=0:=by omega
 clear h hv
 have e0:=tl_ne c ⟨#[111,105,108]⟩ [111,105,108] (ByteArray.toList_eq _) (by rw[hc];decide)
 have g0:¬c.toList=[111,105,108]:=by simpa using e0
 have e1:=tl_ne c ⟨#[108,111,97,100]⟩ [108,111,97,100] (ByteArray.toList_eq _) (by rw[hc];decide)
 have g1:¬c.toList=[108,111,97,100]:=by simpa using e1
 have e2:=tl_ne c ⟨#[115,116,105,99,107]⟩ [115,116,105,99,107] (ByteArray.toList_eq _) (by rw[hc];decide)
 have g2:¬c.toList=[115,116,105,99,107]:=by simpa using e2
 have e3:=tl_ne c ⟨#[98,108,105,110,100]⟩ [98,108,105,110,100] (ByteArray.toList_eq _) (by rw[hc];decide)
 have g3:¬c.toList=[98,108,105,110,100]:=by simpa using e3
 have e4:=tl_ne c ⟨#[109,101,110,100]⟩ [109,101,110,100] (ByteArray.toList_eq _) (by rw[hc];decide)
 have g4:¬c.toList=[109,101,110,100]:=by simpa using e4
 have e5:=tl_ne c ⟨#[97,105,114]⟩ [97,105,114] (ByteArray.toList_eq _) (by rw[hc];decide)
 have g5:¬c.toList=[97,105,114]:=by simpa using e5
 have e6:c.toList=[103,114,111,117,110,100]:=tl_eq c ⟨#[103,114,111,117,110,100]⟩ _ (ByteArray.toList_eq _) hc
 have e7:=tl_ne c ⟨#[97,115,107]⟩ [97,115,107] (ByteArray.toList_eq _) (by rw[hc];decide)
 have g7:¬c.toList=[97,115,107]:=by simpa using e7
 have e8:=tl_ne c ⟨#[116,114,121]⟩ [116,114,121] (ByteArray.toList_eq _) (by rw[hc];decide)
 have g8:¬c.toList=[116,114,121]:=by simpa using e8
 have e9:=tl_ne c ⟨#[114,101,115,101,116]⟩ [114,101,115,101,116] (ByteArray.toList_eq _) (by rw[hc];decide)
 have g9:¬c.toList=[114,101,115,101,116]:=by simpa using e9
 have e10:=tl_ne c ⟨#[110,111,105,115,101]⟩ [110,111,105,115,101] (ByteArray.toList_eq _) (by rw[hc];decide)
 have g10:¬c.toList=[110,111,105,115,101]:=by simpa using e10
 clear hc hn
 go_enter Tryz.func34,Tryz.ntmps34
 go_wp2_with fail
 go_ret
 exact⟨rfl,H.out,Grw.refl _ _ _⟩
theorem set_len_ask {A:Nat→Prop} {w0 w:World} {bd b:Nat} {s:Dsk} (h:Desk A w0 w bd b s) (c:ByteArray) (v:Value) (ls:List ByteArray) (hv:RecsAt 1 strLay w v ls) (hc:c=askZ) (hn:ls.length≠1):
  Calls Tryz.prog 34 #[ptr bd,.string c,v] w (SetPost A w0 w bd b s .no):=by
 obtain⟨a,cp,rfl⟩:=hv.len
 have H:=qh h
 have d:((ls.length:Int)==1)=false:=by rw[beq_eq_false_iff_ne];omega
 have d2:¬(ls.length:Int)=1:=by omega
 clear h hv
 have e0:=tl_ne c ⟨#[111,105,108]⟩ [111,105,108] (ByteArray.toList_eq _) (by rw[hc];decide)
 have g0:¬c.toList=[111,105,108]:=by simpa using e0
 have e1:=tl_ne c ⟨#[108,111,97,100]⟩ [108,111,97,100] (ByteArray.toList_eq _) (by rw[hc];decide)
 have g1:¬c.toList=[108,111,97,100]:=by simpa using e1
 have e2:=tl_ne c ⟨#[115,116,105,99,107]⟩ [115,116,105,99,107] (ByteArray.toList_eq _) (by rw[hc];decide)
 have g2:¬c.toList=[115,116,105,99,107]:=by simpa using e2
 have e3:=tl_ne c ⟨#[98,108,105,110,100]⟩ [98,108,105,110,100] (ByteArray.toList_eq _) (by rw[hc];decide)
 have g3:¬c.toList=[98,108,105,110,100]:=by simpa using e3
 have e4:=tl_ne c ⟨#[109,101,110,100]⟩ [109,101,110,100] (ByteArray.toList_eq _) (by rw[hc];decide)
 have g4:¬c.toList=[109,101,110,100]:=by simpa using e4
 have e5:=tl_ne c ⟨#[97,105,114]⟩ [97,105,114] (ByteArray.toList_eq _) (by rw[hc];decide)
 have g5:¬c.toList=[97,105,114]:=by simpa using e5
 have e6:=tl_ne c ⟨#[103,114,111,117,110,100]⟩ [103,114,111,117,110,100] (ByteArray.toList_eq _) (by rw[hc];decide)
 have g6:¬c.toList=[103,114,111,117,110,100]:=by simpa using e6
 have e7:c.toList=[97,115,107]:=tl_eq c ⟨#[97,115,107]⟩ _ (ByteArray.toList_eq _) hc
 have e8:=tl_ne c ⟨#[116,114,121]⟩ [116,114,121] (ByteArray.toList_eq _) (by rw[hc];decide)
 have g8:¬c.toList=[116,114,121]:=by simpa using e8
 have e9:=tl_ne c ⟨#[114,101,115,101,116]⟩ [114,101,115,101,116] (ByteArray.toList_eq _) (by rw[hc];decide)
 have g9:¬c.toList=[114,101,115,101,116]:=by simpa using e9
 have e10:=tl_ne c ⟨#[110,111,105,115,101]⟩ [110,111,105,115,101] (ByteArray.toList_eq _) (by rw[hc];decide)
 have g10:¬c.toList=[110,111,105,115,101]:=by simpa using e10
 clear hc hn
 go_enter Tryz.func34,Tryz.ntmps34
 go_wp2_with fail
 go_ret
 exact⟨rfl,H.out,Grw.refl _ _ _⟩
theorem set_len_try {A:Nat→Prop} {w0 w:World} {bd b:Nat} {s:Dsk} (h:Desk A w0 w bd b s) (c:ByteArray) (v:Value) (ls:List ByteArray) (hv:RecsAt 1 strLay w v ls) (hc:c=tryZ) (hn:ls.length≠0):
  Calls Tryz.prog 34 #[ptr bd,.string c,v] w (SetPost A w0 w bd b s .no):=by
 obtain⟨a,cp,rfl⟩:=hv.len
 have H:=qh h
 have d:((ls.length:Int)==0)=false:=by rw[beq_eq_false_iff_ne];omega
 have d2:¬(ls.length:Int)=0:=by omega
 clear h hv
 have e0:=tl_ne c ⟨#[111,105,108]⟩ [111,105,108] (ByteArray.toList_eq _) (by rw[hc];decide)
 have g0:¬c.toList=[111,105,108]:=by simpa using e0
 have e1:=tl_ne c ⟨#[108,111,97,100]⟩ [108,111,97,100] (ByteArray.toList_eq _) (by rw[hc];decide)
 have g1:¬c.toList=[108,111,97,100]:=by simpa using e1
 have e2:=tl_ne c ⟨#[115,116,105,99,107]⟩ [115,116,105,99,107] (ByteArray.toList_eq _) (by rw[hc];decide)
 have g2:¬c.toList=[115,116,105,99,107]:=by simpa using e2
 have e3:=tl_ne c ⟨#[98,108,105,110,100]⟩ [98,108,105,110,100] (ByteArray.toList_eq _) (by rw[hc];decide)
 have g3:¬c.toList=[98,108,105,110,100]:=by simpa using e3
 have e4:=tl_ne c ⟨#[109,101,110,100]⟩ [109,101,110,100] (ByteArray.toList_eq _) (by rw[hc];decide)
 have g4:¬c.toList=[109,101,110,100]:=by simpa using e4
 have e5:=tl_ne c ⟨#[97,105,114]⟩ [97,105,114] (ByteArray.toList_eq _) (by rw[hc];decide)
 have g5:¬c.toList=[97,105,114]:=by simpa using e5
 have e6:=tl_ne c ⟨#[103,114,111,117,110,100]⟩ [103,114,111,117,110,100] (ByteArray.toList_eq _) (by rw[hc];decide)
 have g6:¬c.toList=[103,114,111,117,110,100]:=by simpa using e6
 have e7:=tl_ne c ⟨#[97,115,107]⟩ [97,115,107] (ByteArray.toList_eq _) (by rw[hc];decide)
 have g7:¬c.toList=[97,115,107]:=by simpa using e7
 have e8:c.toList=[116,114,121]:=tl_eq c ⟨#[116,114,121]⟩ _ (ByteArray.toList_eq _) hc
 have e9:=tl_ne c ⟨#[114,101,115,101,116]⟩ [114,101,115,101,116] (ByteArray.toList_eq _) (by rw[hc];decide)
 have g9:¬c.toList=[114,101,115,101,116]:=by simpa using e9
 have e10:=tl_ne c ⟨#[110,111,105,115,101]⟩ [110,111,105,115,101] (ByteArray.toList_eq _) (by rw[hc];decide)
 have g10:¬c.toList=[110,111,105,115,101]:=by simpa using e10
 clear hc hn
 go_enter Tryz.func34,Tryz.ntmps34
 go_wp2_with fail
 go_ret
 exact⟨rfl,H.out,Grw.refl _ _ _⟩
theorem set_len_reset {A:Nat→Prop} {w0 w:World} {bd b:Nat} {s:Dsk} (h:Desk A w0 w bd b s) (c:ByteArray) (v:Value) (ls:List ByteArray) (hv:RecsAt 1 strLay w v ls) (hc:c=resetZ) (hn:ls.length≠1):
  Calls Tryz.prog 34 #[ptr bd,.string c,v] w (SetPost A w0 w bd b s .no):=by
 obtain⟨a,cp,rfl⟩:=hv.len
 have H:=qh h
 have d:((ls.length:Int)==1)=false:=by rw[beq_eq_false_iff_ne];omega
 have d2:¬(ls.length:Int)=1:=by omega
 clear h hv
 have e0:=tl_ne c ⟨#[111,105,108]⟩ [111,105,108] (ByteArray.toList_eq _) (by rw[hc];decide)
 have g0:¬c.toList=[111,105,108]:=by simpa using e0
 have e1:=tl_ne c ⟨#[108,111,97,100]⟩ [108,111,97,100] (ByteArray.toList_eq _) (by rw[hc];decide)
 have g1:¬c.toList=[108,111,97,100]:=by simpa using e1
 have e2:=tl_ne c ⟨#[115,116,105,99,107]⟩ [115,116,105,99,107] (ByteArray.toList_eq _) (by rw[hc];decide)
 have g2:¬c.toList=[115,116,105,99,107]:=by simpa using e2
 have e3:=tl_ne c ⟨#[98,108,105,110,100]⟩ [98,108,105,110,100] (ByteArray.toList_eq _) (by rw[hc];decide)
 have g3:¬c.toList=[98,108,105,110,100]:=by simpa using e3
 have e4:=tl_ne c ⟨#[109,101,110,100]⟩ [109,101,110,100] (ByteArray.toList_eq _) (by rw[hc];decide)
 have g4:¬c.toList=[109,101,110,100]:=by simpa using e4
 have e5:=tl_ne c ⟨#[97,105,114]⟩ [97,105,114] (ByteArray.toList_eq _) (by rw[hc];decide)
 have g5:¬c.toList=[97,105,114]:=by simpa using e5
 have e6:=tl_ne c ⟨#[103,114,111,117,110,100]⟩ [103,114,111,117,110,100] (ByteArray.toList_eq _) (by rw[hc];decide)
 have g6:¬c.toList=[103,114,111,117,110,100]:=by simpa using e6
 have e7:=tl_ne c ⟨#[97,115,107]⟩ [97,115,107] (ByteArray.toList_eq _) (by rw[hc];decide)
 have g7:¬c.toList=[97,115,107]:=by simpa using e7
 have e8:=tl_ne c ⟨#[116,114,121]⟩ [116,114,121] (ByteArray.toList_eq _) (by rw[hc];decide)
 have g8:¬c.toList=[116,114,121]:=by simpa using e8
 have e9:c.toList=[114,101,115,101,116]:=tl_eq c ⟨#[114,101,115,101,116]⟩ _ (ByteArray.toList_eq _) hc
 have e10:=tl_ne c ⟨#[110,111,105,115,101]⟩ [110,111,105,115,101] (ByteArray.toList_eq _) (by rw[hc];decide)
 have g10:¬c.toList=[110,111,105,115,101]:=by simpa using e10
 clear hc hn
 go_enter Tryz.func34,Tryz.ntmps34
 go_wp2_with fail
 go_ret
 exact⟨rfl,H.out,Grw.refl _ _ _⟩
theorem set_len_noise {A:Nat→Prop} {w0 w:World} {bd b:Nat} {s:Dsk} (h:Desk A w0 w bd b s) (c:ByteArray) (v:Value) (ls:List ByteArray) (hv:RecsAt 1 strLay w v ls) (hc:c=noiseZ) (hn:ls.length≠1):
  Calls Tryz.prog 34 #[ptr bd,.string c,v] w (SetPost A w0 w bd b s .no):=by
 obtain⟨a,cp,rfl⟩:=hv.len
 have H:=qh h
 have d:((ls.length:Int)==1)=false:=by rw[beq_eq_false_iff_ne];omega
 have d2:¬(ls.length:Int)=1:=by omega
 clear h hv
 have e0:=tl_ne c ⟨#[111,105,108]⟩ [111,105,108] (ByteArray.toList_eq _) (by rw[hc];decide)
 have g0:¬c.toList=[111,105,108]:=by simpa using e0
 have e1:=tl_ne c ⟨#[108,111,97,100]⟩ [108,111,97,100] (ByteArray.toList_eq _) (by rw[hc];decide)
 have g1:¬c.toList=[108,111,97,100]:=by simpa using e1
 have e2:=tl_ne c ⟨#[115,116,105,99,107]⟩ [115,116,105,99,107] (ByteArray.toList_eq _) (by rw[hc];decide)
 have g2:¬c.toList=[115,116,105,99,107]:=by simpa using e2
 have e3:=tl_ne c ⟨#[98,108,105,110,100]⟩ [98,108,105,110,100] (ByteArray.toList_eq _) (by rw[hc];decide)
 have g3:¬c.toList=[98,108,105,110,100]:=by simpa using e3
 have e4:=tl_ne c ⟨#[109,101,110,100]⟩ [109,101,110,100] (ByteArray.toList_eq _) (by rw[hc];decide)
 have g4:¬c.toList=[109,101,110,100]:=by simpa using e4
 have e5:=tl_ne c ⟨#[97,105,114]⟩ [97,105,114] (ByteArray.toList_eq _) (by rw[hc];decide)
 have g5:¬c.toList=[97,105,114]:=by simpa using e5
 have e6:=tl_ne c ⟨#[103,114,111,117,110,100]⟩ [103,114,111,117,110,100] (ByteArray.toList_eq _) (by rw[hc];decide)
 have g6:¬c.toList=[103,114,111,117,110,100]:=by simpa using e6
 have e7:=tl_ne c ⟨#[97,115,107]⟩ [97,115,107] (ByteArray.toList_eq _) (by rw[hc];decide)
 have g7:¬c.toList=[97,115,107]:=by simpa using e7
 have e8:=tl_ne c ⟨#[116,114,121]⟩ [116,114,121] (ByteArray.toList_eq _) (by rw[hc];decide)
 have g8:¬c.toList=[116,114,121]:=by simpa using e8
 have e9:=tl_ne c ⟨#[114,101,115,101,116]⟩ [114,101,115,101,116] (ByteArray.toList_eq _) (by rw[hc];decide)
 have g9:¬c.toList=[114,101,115,101,116]:=by simpa using e9
 have e10:c.toList=[110,111,105,115,101]:=tl_eq c ⟨#[110,111,105,115,101]⟩ _ (ByteArray.toList_eq _) hc
 clear hc hn
 go_enter Tryz.func34,Tryz.ntmps34
 go_wp2_with fail
 go_ret
 exact⟨rfl,H.out,Grw.refl _ _ _⟩
theorem gnd_ok {s:Dsk} (h:DskOk s) (t:Bool):DskOk {s with I:={s.I with ground:=t}}:=⟨h.good,⟨h.inp.cmd,h.inp.p0,h.inp.p1,h.inp.load,h.inp.f,h.inp.ask,h.inp.reset⟩,h.q⟩
theorem lod_ok {s:Dsk} (h:DskOk s) (n:Int) (hn: -2147483648≤n∧n≤2147483647):DskOk {s with I:={s.I with load:=n}}:=⟨h.good,⟨h.inp.cmd,h.inp.p0,h.inp.p1,hn,h.inp.f,h.inp.ask,h.inp.reset⟩,h.q⟩
theorem word0 {w:World} {v:Value} {x:ByteArray} {r:List ByteArray} (h:RecsAt 1 strLay w v (x::r)):∃b0 off cp,v=.slice (some ⟨b0,off,none⟩) (r.length+1) cp∧r.length+1≤cp∧w.cell? ⟨b0,off,none⟩=some (.string x):=by
 obtain⟨b,off,cap,hv,h1,h2,hc⟩:=h.at_ (show(x::r)[0]?=some x from rfl)
 exact⟨b,off,cap,hv,by simpa using h1,by simpa[strLay]using hc 0 (by omega)⟩
theorem set_air {A:Nat→Prop} {w0 w:World} {bd b:Nat} {s:Dsk} (h:Desk A w0 w bd b s) (c:ByteArray) (v:Value) (ls:List ByteArray) (hv:RecsAt 1 strLay w v ls) (hc:c=airZ) (hn:ls.length=0):
  Calls Tryz.prog 34 #[ptr bd,.string c,v] w (SetPost A w0 w bd b s (.yes {s with I:={s.I with ground:=false}})):=by
 obtain⟨a,cp,hv2⟩:=hv.len
 rw[hn]at hv2
 subst hv2
 have H:=qh h
 have y:=h.C.at_ 9 rfl;have f:=h.C.2.1 9;have yz:=h.C.lt
 have K:=qh (h.set (gnd_ok H.out.ok false) 9 (.bool false) (by decide) rfl rfl)
 have G:=qh ((Grw.refl bd b w).row (grown_setW w bd 9 (.bool false)) (.inl rfl))
 clear h hv hn
 have e0:=tl_ne c ⟨#[111,105,108]⟩ [111,105,108] (ByteArray.toList_eq _) (by rw[hc];decide)
 have g0:¬c.toList=[111,105,108]:=by simpa using e0
 have e1:=tl_ne c ⟨#[108,111,97,100]⟩ [108,111,97,100] (ByteArray.toList_eq _) (by rw[hc];decide)
 have g1:¬c.toList=[108,111,97,100]:=by simpa using e1
 have e2:=tl_ne c ⟨#[115,116,105,99,107]⟩ [115,116,105,99,107] (ByteArray.toList_eq _) (by rw[hc];decide)
 have g2:¬c.toList=[115,116,105,99,107]:=by simpa using e2
 have e3:=tl_ne c ⟨#[98,108,105,110,100]⟩ [98,108,105,110,100] (ByteArray.toList_eq _) (by rw[hc];decide)
 have g3:¬c.toList=[98,108,105,110,100]:=by simpa using e3
 have e4:=tl_ne c ⟨#[109,101,110,100]⟩ [109,101,110,100] (ByteArray.toList_eq _) (by rw[hc];decide)
 have g4:¬c.toList=[109,101,110,100]:=by simpa using e4
 have e5:c.toList=[97,105,114]:=tl_eq c ⟨#[97,105,114]⟩ _ (ByteArray.toList_eq _) hc
 have e6:=tl_ne c ⟨#[103,114,111,117,110,100]⟩ [103,114,111,117,110,100] (ByteArray.toList_eq _) (by rw[hc];decide)
 have g6:¬c.toList=[103,114,111,117,110,100]:=by simpa using e6
 have e7:=tl_ne c ⟨#[97,115,107]⟩ [97,115,107] (ByteArray.toList_eq _) (by rw[hc];decide)
 have g7:¬c.toList=[97,115,107]:=by simpa using e7
 have e8:=tl_ne c ⟨#[116,114,121]⟩ [116,114,121] (ByteArray.toList_eq _) (by rw[hc];decide)
 have g8:¬c.toList=[116,114,121]:=by simpa using e8
 have e9:=tl_ne c ⟨#[114,101,115,101,116]⟩ [114,101,115,101,116] (ByteArray.toList_eq _) (by rw[hc];decide)
 have g9:¬c.toList=[114,101,115,101,116]:=by simpa using e9
 have e10:=tl_ne c ⟨#[110,111,105,115,101]⟩ [110,111,105,115,101] (ByteArray.toList_eq _) (by rw[hc];decide)
 have g10:¬c.toList=[110,111,105,115,101]:=by simpa using e10
 clear hc
 go_enter Tryz.func34,Tryz.ntmps34
 go_wp2_with fail
 go_ret
 exact⟨rfl,K.out,G.out⟩
theorem set_ground {A:Nat→Prop} {w0 w:World} {bd b:Nat} {s:Dsk} (h:Desk A w0 w bd b s) (c:ByteArray) (v:Value) (ls:List ByteArray) (hv:RecsAt 1 strLay w v ls) (hc:c=groundZ) (hn:ls.length=0):
  Calls Tryz.prog 34 #[ptr bd,.string c,v] w (SetPost A w0 w bd b s (.yes {s with I:={s.I with ground:=true}})):=by
 obtain⟨a,cp,hv2⟩:=hv.len
 rw[hn]at hv2
 subst hv2
 have H:=qh h
 have y:=h.C.at_ 9 rfl;have f:=h.C.2.1 9;have yz:=h.C.lt
 have K:=qh (h.set (gnd_ok H.out.ok true) 9 (.bool true) (by decide) rfl rfl)
 have G:=qh ((Grw.refl bd b w).row (grown_setW w bd 9 (.bool true)) (.inl rfl))
 clear h hv hn
 have e0:=tl_ne c ⟨#[111,105,108]⟩ [111,105,108] (ByteArray.toList_eq _) (by rw[hc];decide)
 have g0:¬c.toList=[111,105,108]:=by simpa using e0
 have e1:=tl_ne c ⟨#[108,111,97,100]⟩ [108,111,97,100] (ByteArray.toList_eq _) (by rw[hc];decide)
 have g1:¬c.toList=[108,111,97,100]:=by simpa using e1
 have e2:=tl_ne c ⟨#[115,116,105,99,107]⟩ [115,116,105,99,107] (ByteArray.toList_eq _) (by rw[hc];decide)
 have g2:¬c.toList=[115,116,105,99,107]:=by simpa using e2
 have e3:=tl_ne c ⟨#[98,108,105,110,100]⟩ [98,108,105,110,100] (ByteArray.toList_eq _) (by rw[hc];decide)
 have g3:¬c.toList=[98,108,105,110,100]:=by simpa using e3
 have e4:=tl_ne c ⟨#[109,101,110,100]⟩ [109,101,110,100] (ByteArray.toList_eq _) (by rw[hc];decide)
 have g4:¬c.toList=[109,101,110,100]:=by simpa using e4
 have e5:=tl_ne c ⟨#[97,105,114]⟩ [97,105,114] (ByteArray.toList_eq _) (by rw[hc];decide)
 have g5:¬c.toList=[97,105,114]:=by simpa using e5
 have e6:c.toList=[103,114,111,117,110,100]:=tl_eq c ⟨#[103,114,111,117,110,100]⟩ _ (ByteArray.toList_eq _) hc
 have e7:=tl_ne c ⟨#[97,115,107]⟩ [97,115,107] (ByteArray.toList_eq _) (by rw[hc];decide)
 have g7:¬c.toList=[97,115,107]:=by simpa using e7
 have e8:=tl_ne c ⟨#[116,114,121]⟩ [116,114,121] (ByteArray.toList_eq _) (by rw[hc];decide)
 have g8:¬c.toList=[116,114,121]:=by simpa using e8
 have e9:=tl_ne c ⟨#[114,101,115,101,116]⟩ [114,101,115,101,116] (ByteArray.toList_eq _) (by rw[hc];decide)
 have g9:¬c.toList=[114,101,115,101,116]:=by simpa using e9
 have e10:=tl_ne c ⟨#[110,111,105,115,101]⟩ [110,111,105,115,101] (ByteArray.toList_eq _) (by rw[hc];decide)
 have g10:¬c.toList=[110,111,105,115,101]:=by simpa using e10
 clear hc
 go_enter Tryz.func34,Tryz.ntmps34
 go_wp2_with fail
 go_ret
 exact⟨rfl,K.out,G.out⟩
theorem set_try {A:Nat→Prop} {w0 w:World} {bd b:Nat} {s:Dsk} (h:Desk A w0 w bd b s) (c:ByteArray) (v:Value) (ls:List ByteArray) (hv:RecsAt 1 strLay w v ls) (hc:c=tryZ) (hn:ls.length=0):
  Calls Tryz.prog 34 #[ptr bd,.string c,v] w (SetPost A w0 w bd b s (.yes {s with I:={s.I with tries:=true}})):=by
 obtain⟨a,cp,hv2⟩:=hv.len
 rw[hn]at hv2
 subst hv2
 have H:=qh h
 have y:=h.C.at_ 11 rfl;have f:=h.C.2.1 11;have yz:=h.C.lt
 have K:=qh (h.set (tri_ok H.out.ok true) 11 (.bool true) (by decide) rfl rfl)
 have G:=qh ((Grw.refl bd b w).row (grown_setW w bd 11 (.bool true)) (.inl rfl))
 clear h hv hn
 have e0:=tl_ne c ⟨#[111,105,108]⟩ [111,105,108] (ByteArray.toList_eq _) (by rw[hc];decide)
 have g0:¬c.toList=[111,105,108]:=by simpa using e0
 have e1:=tl_ne c ⟨#[108,111,97,100]⟩ [108,111,97,100] (ByteArray.toList_eq _) (by rw[hc];decide)
 have g1:¬c.toList=[108,111,97,100]:=by simpa using e1
 have e2:=tl_ne c ⟨#[115,116,105,99,107]⟩ [115,116,105,99,107] (ByteArray.toList_eq _) (by rw[hc];decide)
 have g2:¬c.toList=[115,116,105,99,107]:=by simpa using e2
 have e3:=tl_ne c ⟨#[98,108,105,110,100]⟩ [98,108,105,110,100] (ByteArray.toList_eq _) (by rw[hc];decide)
 have g3:¬c.toList=[98,108,105,110,100]:=by simpa using e3
 have e4:=tl_ne c ⟨#[109,101,110,100]⟩ [109,101,110,100] (ByteArray.toList_eq _) (by rw[hc];decide)
 have g4:¬c.toList=[109,101,110,100]:=by simpa using e4
 have e5:=tl_ne c ⟨#[97,105,114]⟩ [97,105,114] (ByteArray.toList_eq _) (by rw[hc];decide)
 have g5:¬c.toList=[97,105,114]:=by simpa using e5
 have e6:=tl_ne c ⟨#[103,114,111,117,110,100]⟩ [103,114,111,117,110,100] (ByteArray.toList_eq _) (by rw[hc];decide)
 have g6:¬c.toList=[103,114,111,117,110,100]:=by simpa using e6
 have e7:=tl_ne c ⟨#[97,115,107]⟩ [97,115,107] (ByteArray.toList_eq _) (by rw[hc];decide)
 have g7:¬c.toList=[97,115,107]:=by simpa using e7
 have e8:c.toList=[116,114,121]:=tl_eq c ⟨#[116,114,121]⟩ _ (ByteArray.toList_eq _) hc
 have e9:=tl_ne c ⟨#[114,101,115,101,116]⟩ [114,101,115,101,116] (ByteArray.toList_eq _) (by rw[hc];decide)
 have g9:¬c.toList=[114,101,115,101,116]:=by simpa using e9
 have e10:=tl_ne c ⟨#[110,111,105,115,101]⟩ [110,111,105,115,101] (ByteArray.toList_eq _) (by rw[hc];decide)
 have g10:¬c.toList=[110,111,105,115,101]:=by simpa using e10
 clear hc
 go_enter Tryz.func34,Tryz.ntmps34
 go_wp2_with fail
 go_ret
 exact⟨rfl,K.out,G.out⟩
theorem set_load {A:Nat→Prop} {w0 w:World} {bd b:Nat} {s:Dsk} (h:Desk A w0 w bd b s) (c:ByteArray) (v:Value) (ls:List ByteArray) (hv:RecsAt 1 strLay w v ls) (hc:c=loadZ) (hn:ls.length=1):
  Calls Tryz.prog 34 #[ptr bd,.string c,v] w (SetPost A w0 w bd b s (onFix (wd ls 0) fun a=>{s with I:={s.I with load:=a}})):=by
 obtain⟨x,rfl⟩:∃x,ls=[x]:=List.length_eq_one_iff.1 hn
 obtain⟨b0,off,cp,rfl,hcp,x0⟩:=word0 hv
 have hcp:(1:Nat)≤cp:=hcp
 have H:=qh h
 change Calls _ _ #[ptr bd,.string c,.slice (some ⟨b0,off,none⟩) 1 cp] _ _
 have hwd:wd [x] 0=lst x:=rfl
 rw[hwd]
 clear h hv hn
 have e0:=tl_ne c ⟨#[111,105,108]⟩ [111,105,108] (ByteArray.toList_eq _) (by rw[hc];decide)
 have g0:¬c.toList=[111,105,108]:=by simpa using e0
 have e1:c.toList=[108,111,97,100]:=tl_eq c ⟨#[108,111,97,100]⟩ _ (ByteArray.toList_eq _) hc
 have e2:=tl_ne c ⟨#[115,116,105,99,107]⟩ [115,116,105,99,107] (ByteArray.toList_eq _) (by rw[hc];decide)
 have g2:¬c.toList=[115,116,105,99,107]:=by simpa using e2
 have e3:=tl_ne c ⟨#[98,108,105,110,100]⟩ [98,108,105,110,100] (ByteArray.toList_eq _) (by rw[hc];decide)
 have g3:¬c.toList=[98,108,105,110,100]:=by simpa using e3
 have e4:=tl_ne c ⟨#[109,101,110,100]⟩ [109,101,110,100] (ByteArray.toList_eq _) (by rw[hc];decide)
 have g4:¬c.toList=[109,101,110,100]:=by simpa using e4
 have e5:=tl_ne c ⟨#[97,105,114]⟩ [97,105,114] (ByteArray.toList_eq _) (by rw[hc];decide)
 have g5:¬c.toList=[97,105,114]:=by simpa using e5
 have e6:=tl_ne c ⟨#[103,114,111,117,110,100]⟩ [103,114,111,117,110,100] (ByteArray.toList_eq _) (by rw[hc];decide)
 have g6:¬c.toList=[103,114,111,117,110,100]:=by simpa using e6
 have e7:=tl_ne c ⟨#[97,115,107]⟩ [97,115,107] (ByteArray.toList_eq _) (by rw[hc];decide)
 have g7:¬c.toList=[97,115,107]:=by simpa using e7
 have e8:=tl_ne c ⟨#[116,114,121]⟩ [116,114,121] (ByteArray.toList_eq _) (by rw[hc];decide)
 have g8:¬c.toList=[116,114,121]:=by simpa using e8
 have e9:=tl_ne c ⟨#[114,101,115,101,116]⟩ [114,101,115,101,116] (ByteArray.toList_eq _) (by rw[hc];decide)
 have g9:¬c.toList=[114,101,115,101,116]:=by simpa using e9
 have e10:=tl_ne c ⟨#[110,111,105,115,101]⟩ [110,111,105,115,101] (ByteArray.toList_eq _) (by rw[hc];decide)
 have g10:¬c.toList=[110,111,105,115,101]:=by simpa using e10
 clear hc hwd
 cases hf:fixN (lst x)with
 |none=>
  have HF:Hid (fixE (lst x)=.panicked (wrongP 10)):=qh (by unfold fixE;rw[hf])
  unfold onFix;rw[hf]
  clear hf
  go_enter Tryz.func34,Tryz.ntmps34
  go_wp2_with fail
  refine(fixed_is x _).mono ?_
  rintro e w1 ⟨rfl,hb1⟩
  rw[HF.out]
  exact⟨rfl,rfl,H.out.call hb1,(Grw.refl _ _ _).call hb1⟩
 |some n=>
  have HF:Hid (fixE (lst x)=.returned (.int .i32 n)):=qh (by unfold fixE;rw[hf])
  have HOK:=qh (lod_ok H.out.ok n (fixN_bd hf))
  unfold onFix;rw[hf]
  clear hf
  go_enter Tryz.func34,Tryz.ntmps34
  go_wp2_with fail
  refine(fixed_is x _).mono ?_
  rintro e w1 ⟨rfl,hb1⟩
  rw[HF.out]
  have D1:=H.out.call hb1
  have y:=D1.C.at_ 4 rfl;have f:=D1.C.2.1 4;have yz:=D1.C.lt
  have K:=qh (D1.set HOK.out 4 (.int .i32 n) (by decide) rfl rfl)
  have G:=qh (((Grw.refl bd b w).call hb1).row (grown_setW w1 bd 4 (.int .i32 n)) (.inl rfl))
  clear D1 hb1
  go_wp2_with fail
  go_ret
  exact⟨rfl,K.out,G.out⟩
theorem set_ask {A:Nat→Prop} {w0 w:World} {bd b:Nat} {s:Dsk} (h:Desk A w0 w bd b s) (c:ByteArray) (v:Value) (ls:List ByteArray) (hv:RecsAt 1 strLay w v ls) (hc:c=askZ) (hn:ls.length=1):
  Calls Tryz.prog 34 #[ptr bd,.string c,v] w (SetPost A w0 w bd b s ((match numN (wd ls 0)with|some n=>.yes {s with I:={s.I with ask:=n}}|none=>.err 10))):=by
 obtain⟨x,rfl⟩:∃x,ls=[x]:=List.length_eq_one_iff.1 hn
 obtain⟨b0,off,cp,rfl,hcp,x0⟩:=word0 hv
 have hcp:(1:Nat)≤cp:=hcp
 have H:=qh h
 change Calls _ _ #[ptr bd,.string c,.slice (some ⟨b0,off,none⟩) 1 cp] _ _
 have hwd:wd [x] 0=lst x:=rfl
 rw[hwd]
 clear h hv hn
 have e0:=tl_ne c ⟨#[111,105,108]⟩ [111,105,108] (ByteArray.toList_eq _) (by rw[hc];decide)
 have g0:¬c.toList=[111,105,108]:=by simpa using e0
 have e1:=tl_ne c ⟨#[108,111,97,100]⟩ [108,111,97,100] (ByteArray.toList_eq _) (by rw[hc];decide)
 have g1:¬c.toList=[108,111,97,100]:=by simpa using e1
 have e2:=tl_ne c ⟨#[115,116,105,99,107]⟩ [115,116,105,99,107] (ByteArray.toList_eq _) (by rw[hc];decide)
 have g2:¬c.toList=[115,116,105,99,107]:=by simpa using e2
 have e3:=tl_ne c ⟨#[98,108,105,110,100]⟩ [98,108,105,110,100] (ByteArray.toList_eq _) (by rw[hc];decide)
 have g3:¬c.toList=[98,108,105,110,100]:=by simpa using e3
 have e4:=tl_ne c ⟨#[109,101,110,100]⟩ [109,101,110,100] (ByteArray.toList_eq _) (by rw[hc];decide)
 have g4:¬c.toList=[109,101,110,100]:=by simpa using e4
 have e5:=tl_ne c ⟨#[97,105,114]⟩ [97,105,114] (ByteArray.toList_eq _) (by rw[hc];decide)
 have g5:¬c.toList=[97,105,114]:=by simpa using e5
 have e6:=tl_ne c ⟨#[103,114,111,117,110,100]⟩ [103,114,111,117,110,100] (ByteArray.toList_eq _) (by rw[hc];decide)
 have g6:¬c.toList=[103,114,111,117,110,100]:=by simpa using e6
 have e7:c.toList=[97,115,107]:=tl_eq c ⟨#[97,115,107]⟩ _ (ByteArray.toList_eq _) hc
 have e8:=tl_ne c ⟨#[116,114,121]⟩ [116,114,121] (ByteArray.toList_eq _) (by rw[hc];decide)
 have g8:¬c.toList=[116,114,121]:=by simpa using e8
 have e9:=tl_ne c ⟨#[114,101,115,101,116]⟩ [114,101,115,101,116] (ByteArray.toList_eq _) (by rw[hc];decide)
 have g9:¬c.toList=[114,101,115,101,116]:=by simpa using e9
 have e10:=tl_ne c ⟨#[110,111,105,115,101]⟩ [110,111,105,115,101] (ByteArray.toList_eq _) (by rw[hc];decide)
 have g10:¬c.toList=[110,111,105,115,101]:=by simpa using e10
 clear hc hwd
 cases hf:numN (lst x)with
 |none=>
  have HF:Hid (numE (lst x)=.panicked (wrongP 10)):=qh (by unfold numE;rw[hf])
  try rw[hf]
  clear hf
  go_enter Tryz.func34,Tryz.ntmps34
  go_wp2_with fail
  refine(number_is x _).mono ?_
  rintro e w1 ⟨rfl,hb1⟩
  rw[HF.out]
  exact⟨rfl,rfl,H.out.call hb1,(Grw.refl _ _ _).call hb1⟩
 |some n=>
  have HF:Hid (numE (lst x)=.returned (.int .i64 n)):=qh (by unfold numE;rw[hf])
  have HOK:=qh (ask_ok H.out.ok n (by have:=numN_bd hf;omega))
  try rw[hf]
  clear hf
  go_enter Tryz.func34,Tryz.ntmps34
  go_wp2_with fail
  refine(number_is x _).mono ?_
  rintro e w1 ⟨rfl,hb1⟩
  rw[HF.out]
  have D1:=H.out.call hb1
  have y:=D1.C.at_ 10 rfl;have f:=D1.C.2.1 10;have yz:=D1.C.lt
  have K:=qh (D1.set HOK.out 10 (.int .i64 n) (by decide) rfl rfl)
  have G:=qh (((Grw.refl bd b w).call hb1).row (grown_setW w1 bd 10 (.int .i64 n)) (.inl rfl))
  clear D1 hb1
  go_wp2_with fail
  go_ret
  exact⟨rfl,K.out,G.out⟩
theorem f_ok {s:Dsk} (h:DskOk s) (n:Nat) (x:Int) (hx: -9223372036854775808≤x∧x≤9223372036854775807):DskOk (setF s n x):=⟨h.good,⟨h.inp.cmd,h.inp.p0,h.inp.p1,h.inp.load,fun k hk=>by
 show _≤(if k=n then x else s.I.f k)∧(if k=n then x else s.I.f k)≤_
 split
 ·exact hx
 ·exact h.inp.f k hk,h.inp.ask,h.inp.reset⟩,h.q⟩
theorem or_bd (x y:Int): -9223372036854775808≤bits BinOp.or IntKind.i64 x y∧bits BinOp.or IntKind.i64 x y≤9223372036854775807:=by
 unfold bits
 simp only[IntKind.wrap,IntKind.bits,IntKind.signed]
 simp
 omega
theorem dskL_f (b:Nat) (s:Dsk) {n:Nat} (hn:n<4) (x:Int):(dskL b s).set (5+n) (.int .i64 x)=dskL b (setF s n x):=by
 rcases(by omega:n=0∨n=1∨n=2∨n=3)with rfl|rfl|rfl|rfl<;>rfl
theorem dskL_at (b:Nat) (s:Dsk) {n:Nat} (hn:n<4):(dskL b s)[5+n]?=some (.int .i64 (s.I.f n)):=by
 rcases(by omega:n=0∨n=1∨n=2∨n=3)with rfl|rfl|rfl|rfl<;>rfl
theorem set_stick {A:Nat→Prop} {w0 w:World} {bd b:Nat} {s:Dsk} (h:Desk A w0 w bd b s) (c:ByteArray) (v:Value) (ls:List ByteArray) (hv:RecsAt 1 strLay w v ls) (hc:c=stickZ) (hn:ls.length=1):
  Calls Tryz.prog 34 #[ptr bd,.string c,v] w (SetPost A w0 w bd b s (onLane (wd ls 0) fun n=>setF s n (bits BinOp.or IntKind.i64 (s.I.f n) 1))):=by
 obtain⟨x,rfl⟩:∃x,ls=[x]:=List.length_eq_one_iff.1 hn
 obtain⟨b0,off,cp,rfl,hcp,x0⟩:=word0 hv
 have hcp:(1:Nat)≤cp:=hcp
 have H:=qh h
 change Calls _ _ #[ptr bd,.string c,.slice (some ⟨b0,off,none⟩) 1 cp] _ _
 have hwd:wd [x] 0=lst x:=rfl
 rw[hwd]
 clear h hv hn
 have e0:=tl_ne c ⟨#[111,105,108]⟩ [111,105,108] (ByteArray.toList_eq _) (by rw[hc];decide)
 have g0:¬c.toList=[111,105,108]:=by simpa using e0
 have e1:=tl_ne c ⟨#[108,111,97,100]⟩ [108,111,97,100] (ByteArray.toList_eq _) (by rw[hc];decide)
 have g1:¬c.toList=[108,111,97,100]:=by simpa using e1
 have e2:c.toList=[115,116,105,99,107]:=tl_eq c ⟨#[115,116,105,99,107]⟩ _ (ByteArray.toList_eq _) hc
 have e3:=tl_ne c ⟨#[98,108,105,110,100]⟩ [98,108,105,110,100] (ByteArray.toList_eq _) (by rw[hc];decide)
 have g3:¬c.toList=[98,108,105,110,100]:=by simpa using e3
 have e4:=tl_ne c ⟨#[109,101,110,100]⟩ [109,101,110,100] (ByteArray.toList_eq _) (by rw[hc];decide)
 have g4:¬c.toList=[109,101,110,100]:=by simpa using e4
 have e5:=tl_ne c ⟨#[97,105,114]⟩ [97,105,114] (ByteArray.toList_eq _) (by rw[hc];decide)
 have g5:¬c.toList=[97,105,114]:=by simpa using e5
 have e6:=tl_ne c ⟨#[103,114,111,117,110,100]⟩ [103,114,111,117,110,100] (ByteArray.toList_eq _) (by rw[hc];decide)
 have g6:¬c.toList=[103,114,111,117,110,100]:=by simpa using e6
 have e7:=tl_ne c ⟨#[97,115,107]⟩ [97,115,107] (ByteArray.toList_eq _) (by rw[hc];decide)
 have g7:¬c.toList=[97,115,107]:=by simpa using e7
 have e8:=tl_ne c ⟨#[116,114,121]⟩ [116,114,121] (ByteArray.toList_eq _) (by rw[hc];decide)
 have g8:¬c.toList=[116,114,121]:=by simpa using e8
 have e9:=tl_ne c ⟨#[114,101,115,101,116]⟩ [114,101,115,101,116] (ByteArray.toList_eq _) (by rw[hc];decide)
 have g9:¬c.toList=[114,101,115,101,116]:=by simpa using e9
 have e10:=tl_ne c ⟨#[110,111,105,115,101]⟩ [110,111,105,115,101] (ByteArray.toList_eq _) (by rw[hc];decide)
 have g10:¬c.toList=[110,111,105,115,101]:=by simpa using e10
 clear hc hwd
 have bad:∀C:Int,laneE (lst x)=.panicked (wrongP C)→Calls Tryz.prog 34 #[ptr bd,.string c,.slice (some ⟨b0,off,none⟩) 1 cp] w (SetPost A w0 w bd b s (.err C)):=fun C hC=>by
  have HF:=qh hC
  clear hC
  go_enter Tryz.func34,Tryz.ntmps34
  go_upto_region 7 with(fail)
  refine wp_region_any (by kernel_rfl) ?_
  change wpAny _ _ _ _ _ _ _ (World.drew _)
  refine wpAny_take (i:=0) (v:=ptr bd) rfl (by kernel_rfl) (by kernel_rfl) (by kernel_rfl) (fun _ _ _ h=>h) (Or.inl ⟨by rfl,by intro W;go_simp⟩) ?_
  refine wpAny_take (i:=1) (v:=.slice (some ⟨b0,off,none⟩) 1 cp) rfl (by kernel_rfl) (by kernel_rfl) (by kernel_rfl) (fun _ _ _ h=>h) (Or.inl ⟨by rfl,by intro W;go_simp⟩) ?_
  refine wpAny_take (i:=2) (v:=.pointer (some ⟨b0,off,none⟩)) rfl (by kernel_rfl) (by kernel_rfl) (by kernel_rfl) (fun _ _ _ h=>h) (Or.inl ⟨by rfl,by intro W;go_simp⟩) ?_
  refine wpAny_take (i:=5) (v:=ptr bd) rfl (by kernel_rfl) (by kernel_rfl) (by kernel_rfl) (fun _ _ _ h=>h) (Or.inl ⟨by rfl,by intro W;go_simp⟩) ?_
  refine wpAny_take (i:=6) (v:=.pointer (some ⟨bd,1,none⟩)) rfl (by kernel_rfl) (by kernel_rfl) (by kernel_rfl) (fun _ _ _ h=>h) (Or.inl ⟨by rfl,by intro W;go_simp⟩) ?_
  refine wpAny_take (i:=7) (v:=.pointer (some ⟨bd,5,none⟩)) rfl (by kernel_rfl) (by kernel_rfl) (by kernel_rfl) (fun _ _ _ h=>h) (Or.inl ⟨by rfl,by intro W;go_simp⟩) ?_
  refine wpAny_take (i:=11) (v:=ptr bd) rfl (by kernel_rfl) (by kernel_rfl) (by kernel_rfl) (fun _ _ _ h=>h) (Or.inl ⟨by rfl,by intro W;go_simp⟩) ?_
  refine wpAny_take (i:=12) (v:=.pointer (some ⟨bd,1,none⟩)) rfl (by kernel_rfl) (by kernel_rfl) (by kernel_rfl) (fun _ _ _ h=>h) (Or.inl ⟨by rfl,by intro W;go_simp⟩) ?_
  refine wpAny_take (i:=13) (v:=.pointer (some ⟨bd,5,none⟩)) rfl (by kernel_rfl) (by kernel_rfl) (by kernel_rfl) (fun _ _ _ h=>h) (Or.inl ⟨by rfl,by intro W;go_simp⟩) ?_
  refine wpAny_ready (rs:=[3]) (by kernel_rfl) (by simp) (AllReady.cons rfl (fun K hK=>?_) AllReady.nil)
  go_simp
  refine hK _ _ ?_
  clear hK K
  refine wpAny_ready (rs:=[4]) (by kernel_rfl) (by simp) (AllReady.cons rfl (fun K hK=>?_) AllReady.nil)
  go_simp
  refine(laneOf_is x _).mono ?_
  rintro e w1 ⟨rfl,hb1⟩
  rw[HF.out]
  exact⟨rfl,rfl,(H.out.call (bLr).drew).call hb1,((Grw.refl _ _ _).call (bLr).drew).call hb1⟩
 unfold onLane
 cases hf:numN (lst x)with
 |none=>exact bad 10 (by unfold laneE;rw[hf])
 |some z=>
  by_cases hz:0≤z∧z<4
  ·have hl:laneE (lst x)=.returned (.int .i64 z):=by unfold laneE;rw[hf];exact if_pos hz
   dsimp only
   rw[if_pos hz]
   obtain⟨m,rfl⟩:∃m:Nat,z=m:=⟨z.toNat,by omega⟩
   have hm:m<4:=by omega
   have hm2:(m:Int)<4:=by omega
   rw[Int.toNat_natCast]
   have HF:=qh hl
   have D0:=H.out.call (Below.refl w.heap.size w).drew
   have y0:=D0.C.at_ (5+m) (dskL_at b s hm)
   have D0:=qh D0
   clear hf hl hz bad
   go_enter Tryz.func34,Tryz.ntmps34
   go_upto_region 7 with(fail)
   refine wp_region_any (by kernel_rfl) ?_
   change wpAny _ _ _ _ _ _ _ (World.drew _)
   refine wpAny_take (i:=0) (v:=ptr bd) rfl (by kernel_rfl) (by kernel_rfl) (by kernel_rfl) (fun _ _ _ h=>h) (Or.inl ⟨by rfl,by intro W;go_simp⟩) ?_
   refine wpAny_take (i:=1) (v:=.slice (some ⟨b0,off,none⟩) 1 cp) rfl (by kernel_rfl) (by kernel_rfl) (by kernel_rfl) (fun _ _ _ h=>h) (Or.inl ⟨by rfl,by intro W;go_simp⟩) ?_
   refine wpAny_take (i:=2) (v:=.pointer (some ⟨b0,off,none⟩)) rfl (by kernel_rfl) (by kernel_rfl) (by kernel_rfl) (fun _ _ _ h=>h) (Or.inl ⟨by rfl,by intro W;go_simp⟩) ?_
   refine wpAny_take (i:=5) (v:=ptr bd) rfl (by kernel_rfl) (by kernel_rfl) (by kernel_rfl) (fun _ _ _ h=>h) (Or.inl ⟨by rfl,by intro W;go_simp⟩) ?_
   refine wpAny_take (i:=6) (v:=.pointer (some ⟨bd,1,none⟩)) rfl (by kernel_rfl) (by kernel_rfl) (by kernel_rfl) (fun _ _ _ h=>h) (Or.inl ⟨by rfl,by intro W;go_simp⟩) ?_
   refine wpAny_take (i:=7) (v:=.pointer (some ⟨bd,5,none⟩)) rfl (by kernel_rfl) (by kernel_rfl) (by kernel_rfl) (fun _ _ _ h=>h) (Or.inl ⟨by rfl,by intro W;go_simp⟩) ?_
   refine wpAny_take (i:=11) (v:=ptr bd) rfl (by kernel_rfl) (by kernel_rfl) (by kernel_rfl) (fun _ _ _ h=>h) (Or.inl ⟨by rfl,by intro W;go_simp⟩) ?_
   refine wpAny_take (i:=12) (v:=.pointer (some ⟨bd,1,none⟩)) rfl (by kernel_rfl) (by kernel_rfl) (by kernel_rfl) (fun _ _ _ h=>h) (Or.inl ⟨by rfl,by intro W;go_simp⟩) ?_
   refine wpAny_take (i:=13) (v:=.pointer (some ⟨bd,5,none⟩)) rfl (by kernel_rfl) (by kernel_rfl) (by kernel_rfl) (fun _ _ _ h=>h) (Or.inl ⟨by rfl,by intro W;go_simp⟩) ?_
   refine wpAny_ready (rs:=[3]) (by kernel_rfl) (by simp) (AllReady.cons rfl (fun K hK=>?_) AllReady.nil)
   go_simp
   refine hK _ _ ?_
   clear hK K
   refine wpAny_ready (rs:=[4]) (by kernel_rfl) (by simp) (AllReady.cons rfl (fun K hK=>?_) AllReady.nil)
   go_simp
   refine(laneOf_is x _).mono ?_
   rintro e w1 ⟨rfl,hb1⟩
   rw[HF.out]
   have D1:=D0.out.call hb1
   have y:=D1.C.at_ (5+m) (dskL_at b s hm)
   have f:=D1.C.2.1 (5+m)
   have yz:=D1.C.lt
   refine hK _ _ ?_
   clear hK K
   refine wpAny_ready (rs:=[8]) (by kernel_rfl) (by simp) (AllReady.cons rfl (fun K hK=>?_) AllReady.nil)
   go_simp
   refine hK _ _ ?_
   clear hK K
   refine wpAny_ready (rs:=[9]) (by kernel_rfl) (by simp) (AllReady.cons rfl (fun K hK=>?_) AllReady.nil)
   go_simp
   refine hK _ _ ?_
   clear hK K
   refine wpAny_ready (rs:=[10]) (by kernel_rfl) (by simp) (AllReady.cons rfl (fun K hK=>?_) AllReady.nil)
   go_simp
   refine hK _ _ ?_
   clear hK K
   refine wpAny_ready (rs:=[14]) (by kernel_rfl) (by simp) (AllReady.cons rfl (fun K hK=>?_) AllReady.nil)
   go_simp
   refine hK _ _ ?_
   clear hK K
   refine wpAny_ready (rs:=[15]) (by kernel_rfl) (by simp) (AllReady.cons rfl (fun K hK=>?_) AllReady.nil)
   go_simp
   refine hK _ _ ?_
   clear hK K
   refine⟨by kernel_rfl,?_⟩
   have K:=qh (D1.set (f_ok D1.ok m (bits BinOp.or IntKind.i64 (s.I.f m) 1) (or_bd _ _)) (5+m) (.int .i64 (bits BinOp.or IntKind.i64 (s.I.f m) 1)) (by show 5+m<14;omega) (dskL_f b s hm _) rfl)
   have G:=qh ((((Grw.refl bd b w).call (bLr).drew).call hb1).row (grown_setW w1 bd (5+m) (.int .i64 (bits BinOp.or IntKind.i64 (s.I.f m) 1))) (.inl rfl))
   clear D1 hb1
   go_wp2_with fail
   go_ret
   exact⟨rfl,K.out,G.out⟩
  ·dsimp only
   rw[if_neg hz]
   exact bad 1 (by unfold laneE;rw[hf];exact if_neg hz)
theorem set_blind {A:Nat→Prop} {w0 w:World} {bd b:Nat} {s:Dsk} (h:Desk A w0 w bd b s) (c:ByteArray) (v:Value) (ls:List ByteArray) (hv:RecsAt 1 strLay w v ls) (hc:c=blindZ) (hn:ls.length=1):
  Calls Tryz.prog 34 #[ptr bd,.string c,v] w (SetPost A w0 w bd b s (onLane (wd ls 0) fun n=>setF s n (bits BinOp.or IntKind.i64 (s.I.f n) 2))):=by
 obtain⟨x,rfl⟩:∃x,ls=[x]:=List.length_eq_one_iff.1 hn
 obtain⟨b0,off,cp,rfl,hcp,x0⟩:=word0 hv
 have hcp:(1:Nat)≤cp:=hcp
 have H:=qh h
 change Calls _ _ #[ptr bd,.string c,.slice (some ⟨b0,off,none⟩) 1 cp] _ _
 have hwd:wd [x] 0=lst x:=rfl
 rw[hwd]
 clear h hv hn
 have e0:=tl_ne c ⟨#[111,105,108]⟩ [111,105,108] (ByteArray.toList_eq _) (by rw[hc];decide)
 have g0:¬c.toList=[111,105,108]:=by simpa using e0
 have e1:=tl_ne c ⟨#[108,111,97,100]⟩ [108,111,97,100] (ByteArray.toList_eq _) (by rw[hc];decide)
 have g1:¬c.toList=[108,111,97,100]:=by simpa using e1
 have e2:=tl_ne c ⟨#[115,116,105,99,107]⟩ [115,116,105,99,107] (ByteArray.toList_eq _) (by rw[hc];decide)
 have g2:¬c.toList=[115,116,105,99,107]:=by simpa using e2
 have e3:c.toList=[98,108,105,110,100]:=tl_eq c ⟨#[98,108,105,110,100]⟩ _ (ByteArray.toList_eq _) hc
 have e4:=tl_ne c ⟨#[109,101,110,100]⟩ [109,101,110,100] (ByteArray.toList_eq _) (by rw[hc];decide)
 have g4:¬c.toList=[109,101,110,100]:=by simpa using e4
 have e5:=tl_ne c ⟨#[97,105,114]⟩ [97,105,114] (ByteArray.toList_eq _) (by rw[hc];decide)
 have g5:¬c.toList=[97,105,114]:=by simpa using e5
 have e6:=tl_ne c ⟨#[103,114,111,117,110,100]⟩ [103,114,111,117,110,100] (ByteArray.toList_eq _) (by rw[hc];decide)
 have g6:¬c.toList=[103,114,111,117,110,100]:=by simpa using e6
 have e7:=tl_ne c ⟨#[97,115,107]⟩ [97,115,107] (ByteArray.toList_eq _) (by rw[hc];decide)
 have g7:¬c.toList=[97,115,107]:=by simpa using e7
 have e8:=tl_ne c ⟨#[116,114,121]⟩ [116,114,121] (ByteArray.toList_eq _) (by rw[hc];decide)
 have g8:¬c.toList=[116,114,121]:=by simpa using e8
 have e9:=tl_ne c ⟨#[114,101,115,101,116]⟩ [114,101,115,101,116] (ByteArray.toList_eq _) (by rw[hc];decide)
 have g9:¬c.toList=[114,101,115,101,116]:=by simpa using e9
 have e10:=tl_ne c ⟨#[110,111,105,115,101]⟩ [110,111,105,115,101] (ByteArray.toList_eq _) (by rw[hc];decide)
 have g10:¬c.toList=[110,111,105,115,101]:=by simpa using e10
 clear hc hwd
 have bad:∀C:Int,laneE (lst x)=.panicked (wrongP C)→Calls Tryz.prog 34 #[ptr bd,.string c,.slice (some ⟨b0,off,none⟩) 1 cp] w (SetPost A w0 w bd b s (.err C)):=fun C hC=>by
  have HF:=qh hC
  clear hC
  go_enter Tryz.func34,Tryz.ntmps34
  go_upto_region 9 with(fail)
  refine wp_region_any (by kernel_rfl) ?_
  change wpAny _ _ _ _ _ _ _ (World.drew _)
  refine wpAny_take (i:=0) (v:=ptr bd) rfl (by kernel_rfl) (by kernel_rfl) (by kernel_rfl) (fun _ _ _ h=>h) (Or.inl ⟨by rfl,by intro W;go_simp⟩) ?_
  refine wpAny_take (i:=1) (v:=.slice (some ⟨b0,off,none⟩) 1 cp) rfl (by kernel_rfl) (by kernel_rfl) (by kernel_rfl) (fun _ _ _ h=>h) (Or.inl ⟨by rfl,by intro W;go_simp⟩) ?_
  refine wpAny_take (i:=2) (v:=.pointer (some ⟨b0,off,none⟩)) rfl (by kernel_rfl) (by kernel_rfl) (by kernel_rfl) (fun _ _ _ h=>h) (Or.inl ⟨by rfl,by intro W;go_simp⟩) ?_
  refine wpAny_take (i:=5) (v:=ptr bd) rfl (by kernel_rfl) (by kernel_rfl) (by kernel_rfl) (fun _ _ _ h=>h) (Or.inl ⟨by rfl,by intro W;go_simp⟩) ?_
  refine wpAny_take (i:=6) (v:=.pointer (some ⟨bd,1,none⟩)) rfl (by kernel_rfl) (by kernel_rfl) (by kernel_rfl) (fun _ _ _ h=>h) (Or.inl ⟨by rfl,by intro W;go_simp⟩) ?_
  refine wpAny_take (i:=7) (v:=.pointer (some ⟨bd,5,none⟩)) rfl (by kernel_rfl) (by kernel_rfl) (by kernel_rfl) (fun _ _ _ h=>h) (Or.inl ⟨by rfl,by intro W;go_simp⟩) ?_
  refine wpAny_take (i:=11) (v:=ptr bd) rfl (by kernel_rfl) (by kernel_rfl) (by kernel_rfl) (fun _ _ _ h=>h) (Or.inl ⟨by rfl,by intro W;go_simp⟩) ?_
  refine wpAny_take (i:=12) (v:=.pointer (some ⟨bd,1,none⟩)) rfl (by kernel_rfl) (by kernel_rfl) (by kernel_rfl) (fun _ _ _ h=>h) (Or.inl ⟨by rfl,by intro W;go_simp⟩) ?_
  refine wpAny_take (i:=13) (v:=.pointer (some ⟨bd,5,none⟩)) rfl (by kernel_rfl) (by kernel_rfl) (by kernel_rfl) (fun _ _ _ h=>h) (Or.inl ⟨by rfl,by intro W;go_simp⟩) ?_
  refine wpAny_ready (rs:=[3]) (by kernel_rfl) (by simp) (AllReady.cons rfl (fun K hK=>?_) AllReady.nil)
  go_simp
  refine hK _ _ ?_
  clear hK K
  refine wpAny_ready (rs:=[4]) (by kernel_rfl) (by simp) (AllReady.cons rfl (fun K hK=>?_) AllReady.nil)
  go_simp
  refine(laneOf_is x _).mono ?_
  rintro e w1 ⟨rfl,hb1⟩
  rw[HF.out]
  exact⟨rfl,rfl,(H.out.call (bLr).drew).call hb1,((Grw.refl _ _ _).call (bLr).drew).call hb1⟩
 unfold onLane
 cases hf:numN (lst x)with
 |none=>exact bad 10 (by unfold laneE;rw[hf])
 |some z=>
  by_cases hz:0≤z∧z<4
  ·have hl:laneE (lst x)=.returned (.int .i64 z):=by unfold laneE;rw[hf];exact if_pos hz
   dsimp only
   rw[if_pos hz]
   obtain⟨m,rfl⟩:∃m:Nat,z=m:=⟨z.toNat,by omega⟩
   have hm:m<4:=by omega
   have hm2:(m:Int)<4:=by omega
   rw[Int.toNat_natCast]
   have HF:=qh hl
   have D0:=H.out.call (Below.refl w.heap.size w).drew
   have y0:=D0.C.at_ (5+m) (dskL_at b s hm)
   have D0:=qh D0
   clear hf hl hz bad
   go_enter Tryz.func34,Tryz.ntmps34
   go_upto_region 9 with(fail)
   refine wp_region_any (by kernel_rfl) ?_
   change wpAny _ _ _ _ _ _ _ (World.drew _)
   refine wpAny_take (i:=0) (v:=ptr bd) rfl (by kernel_rfl) (by kernel_rfl) (by kernel_rfl) (fun _ _ _ h=>h) (Or.inl ⟨by rfl,by intro W;go_simp⟩) ?_
   refine wpAny_take (i:=1) (v:=.slice (some ⟨b0,off,none⟩) 1 cp) rfl (by kernel_rfl) (by kernel_rfl) (by kernel_rfl) (fun _ _ _ h=>h) (Or.inl ⟨by rfl,by intro W;go_simp⟩) ?_
   refine wpAny_take (i:=2) (v:=.pointer (some ⟨b0,off,none⟩)) rfl (by kernel_rfl) (by kernel_rfl) (by kernel_rfl) (fun _ _ _ h=>h) (Or.inl ⟨by rfl,by intro W;go_simp⟩) ?_
   refine wpAny_take (i:=5) (v:=ptr bd) rfl (by kernel_rfl) (by kernel_rfl) (by kernel_rfl) (fun _ _ _ h=>h) (Or.inl ⟨by rfl,by intro W;go_simp⟩) ?_
   refine wpAny_take (i:=6) (v:=.pointer (some ⟨bd,1,none⟩)) rfl (by kernel_rfl) (by kernel_rfl) (by kernel_rfl) (fun _ _ _ h=>h) (Or.inl ⟨by rfl,by intro W;go_simp⟩) ?_
   refine wpAny_take (i:=7) (v:=.pointer (some ⟨bd,5,none⟩)) rfl (by kernel_rfl) (by kernel_rfl) (by kernel_rfl) (fun _ _ _ h=>h) (Or.inl ⟨by rfl,by intro W;go_simp⟩) ?_
   refine wpAny_take (i:=11) (v:=ptr bd) rfl (by kernel_rfl) (by kernel_rfl) (by kernel_rfl) (fun _ _ _ h=>h) (Or.inl ⟨by rfl,by intro W;go_simp⟩) ?_
   refine wpAny_take (i:=12) (v:=.pointer (some ⟨bd,1,none⟩)) rfl (by kernel_rfl) (by kernel_rfl) (by kernel_rfl) (fun _ _ _ h=>h) (Or.inl ⟨by rfl,by intro W;go_simp⟩) ?_
   refine wpAny_take (i:=13) (v:=.pointer (some ⟨bd,5,none⟩)) rfl (by kernel_rfl) (by kernel_rfl) (by kernel_rfl) (fun _ _ _ h=>h) (Or.inl ⟨by rfl,by intro W;go_simp⟩) ?_
   refine wpAny_ready (rs:=[3]) (by kernel_rfl) (by simp) (AllReady.cons rfl (fun K hK=>?_) AllReady.nil)
   go_simp
   refine hK _ _ ?_
   clear hK K
   refine wpAny_ready (rs:=[4]) (by kernel_rfl) (by simp) (AllReady.cons rfl (fun K hK=>?_) AllReady.nil)
   go_simp
   refine(laneOf_is x _).mono ?_
   rintro e w1 ⟨rfl,hb1⟩
   rw[HF.out]
   have D1:=D0.out.call hb1
   have y:=D1.C.at_ (5+m) (dskL_at b s hm)
   have f:=D1.C.2.1 (5+m)
   have yz:=D1.C.lt
   refine hK _ _ ?_
   clear hK K
   refine wpAny_ready (rs:=[8]) (by kernel_rfl) (by simp) (AllReady.cons rfl (fun K hK=>?_) AllReady.nil)
   go_simp
   refine hK _ _ ?_
   clear hK K
   refine wpAny_ready (rs:=[9]) (by kernel_rfl) (by simp) (AllReady.cons rfl (fun K hK=>?_) AllReady.nil)
   go_simp
   refine hK _ _ ?_
   clear hK K
   refine wpAny_ready (rs:=[10]) (by kernel_rfl) (by simp) (AllReady.cons rfl (fun K hK=>?_) AllReady.nil)
   go_simp
   refine hK _ _ ?_
   clear hK K
   refine wpAny_ready (rs:=[14]) (by kernel_rfl) (by simp) (AllReady.cons rfl (fun K hK=>?_) AllReady.nil)
   go_simp
   refine hK _ _ ?_
   clear hK K
   refine wpAny_ready (rs:=[15]) (by kernel_rfl) (by simp) (AllReady.cons rfl (fun K hK=>?_) AllReady.nil)
   go_simp
   refine hK _ _ ?_
   clear hK K
   refine⟨by kernel_rfl,?_⟩
   have K:=qh (D1.set (f_ok D1.ok m (bits BinOp.or IntKind.i64 (s.I.f m) 2) (or_bd _ _)) (5+m) (.int .i64 (bits BinOp.or IntKind.i64 (s.I.f m) 2)) (by show 5+m<14;omega) (dskL_f b s hm _) rfl)
   have G:=qh ((((Grw.refl bd b w).call (bLr).drew).call hb1).row (grown_setW w1 bd (5+m) (.int .i64 (bits BinOp.or IntKind.i64 (s.I.f m) 2))) (.inl rfl))
   clear D1 hb1
   go_wp2_with fail
   go_ret
   exact⟨rfl,K.out,G.out⟩
  ·dsimp only
   rw[if_neg hz]
   exact bad 1 (by unfold laneE;rw[hf];exact if_neg hz)
theorem set_mend {A:Nat→Prop} {w0 w:World} {bd b:Nat} {s:Dsk} (h:Desk A w0 w bd b s) (c:ByteArray) (v:Value) (ls:List ByteArray) (hv:RecsAt 1 strLay w v ls) (hc:c=mendZ) (hn:ls.length=1):
  Calls Tryz.prog 34 #[ptr bd,.string c,v] w (SetPost A w0 w bd b s (onLane (wd ls 0) fun n=>setF s n 0)):=by
 obtain⟨x,rfl⟩:∃x,ls=[x]:=List.length_eq_one_iff.1 hn
 obtain⟨b0,off,cp,rfl,hcp,x0⟩:=word0 hv
 have hcp:(1:Nat)≤cp:=hcp
 have H:=qh h
 change Calls _ _ #[ptr bd,.string c,.slice (some ⟨b0,off,none⟩) 1 cp] _ _
 have hwd:wd [x] 0=lst x:=rfl
 rw[hwd]
 clear h hv hn
 have e0:=tl_ne c ⟨#[111,105,108]⟩ [111,105,108] (ByteArray.toList_eq _) (by rw[hc];decide)
 have g0:¬c.toList=[111,105,108]:=by simpa using e0
 have e1:=tl_ne c ⟨#[108,111,97,100]⟩ [108,111,97,100] (ByteArray.toList_eq _) (by rw[hc];decide)
 have g1:¬c.toList=[108,111,97,100]:=by simpa using e1
 have e2:=tl_ne c ⟨#[115,116,105,99,107]⟩ [115,116,105,99,107] (ByteArray.toList_eq _) (by rw[hc];decide)
 have g2:¬c.toList=[115,116,105,99,107]:=by simpa using e2
 have e3:=tl_ne c ⟨#[98,108,105,110,100]⟩ [98,108,105,110,100] (ByteArray.toList_eq _) (by rw[hc];decide)
 have g3:¬c.toList=[98,108,105,110,100]:=by simpa using e3
 have e4:c.toList=[109,101,110,100]:=tl_eq c ⟨#[109,101,110,100]⟩ _ (ByteArray.toList_eq _) hc
 have e5:=tl_ne c ⟨#[97,105,114]⟩ [97,105,114] (ByteArray.toList_eq _) (by rw[hc];decide)
 have g5:¬c.toList=[97,105,114]:=by simpa using e5
 have e6:=tl_ne c ⟨#[103,114,111,117,110,100]⟩ [103,114,111,117,110,100] (ByteArray.toList_eq _) (by rw[hc];decide)
 have g6:¬c.toList=[103,114,111,117,110,100]:=by simpa using e6
 have e7:=tl_ne c ⟨#[97,115,107]⟩ [97,115,107] (ByteArray.toList_eq _) (by rw[hc];decide)
 have g7:¬c.toList=[97,115,107]:=by simpa using e7
 have e8:=tl_ne c ⟨#[116,114,121]⟩ [116,114,121] (ByteArray.toList_eq _) (by rw[hc];decide)
 have g8:¬c.toList=[116,114,121]:=by simpa using e8
 have e9:=tl_ne c ⟨#[114,101,115,101,116]⟩ [114,101,115,101,116] (ByteArray.toList_eq _) (by rw[hc];decide)
 have g9:¬c.toList=[114,101,115,101,116]:=by simpa using e9
 have e10:=tl_ne c ⟨#[110,111,105,115,101]⟩ [110,111,105,115,101] (ByteArray.toList_eq _) (by rw[hc];decide)
 have g10:¬c.toList=[110,111,105,115,101]:=by simpa using e10
 clear hc hwd
 have bad:∀C:Int,laneE (lst x)=.panicked (wrongP C)→Calls Tryz.prog 34 #[ptr bd,.string c,.slice (some ⟨b0,off,none⟩) 1 cp] w (SetPost A w0 w bd b s (.err C)):=fun C hC=>by
  have HF:=qh hC
  clear hC
  go_enter Tryz.func34,Tryz.ntmps34
  go_upto_region 11 with(fail)
  refine wp_region_any (by kernel_rfl) ?_
  change wpAny _ _ _ _ _ _ _ (World.drew _)
  refine wpAny_take (i:=0) (v:=ptr bd) rfl (by kernel_rfl) (by kernel_rfl) (by kernel_rfl) (fun _ _ _ h=>h) (Or.inl ⟨by rfl,by intro W;go_simp⟩) ?_
  refine wpAny_take (i:=1) (v:=.slice (some ⟨b0,off,none⟩) 1 cp) rfl (by kernel_rfl) (by kernel_rfl) (by kernel_rfl) (fun _ _ _ h=>h) (Or.inl ⟨by rfl,by intro W;go_simp⟩) ?_
  refine wpAny_take (i:=2) (v:=.pointer (some ⟨b0,off,none⟩)) rfl (by kernel_rfl) (by kernel_rfl) (by kernel_rfl) (fun _ _ _ h=>h) (Or.inl ⟨by rfl,by intro W;go_simp⟩) ?_
  refine wpAny_take (i:=5) (v:=ptr bd) rfl (by kernel_rfl) (by kernel_rfl) (by kernel_rfl) (fun _ _ _ h=>h) (Or.inl ⟨by rfl,by intro W;go_simp⟩) ?_
  refine wpAny_take (i:=6) (v:=.pointer (some ⟨bd,1,none⟩)) rfl (by kernel_rfl) (by kernel_rfl) (by kernel_rfl) (fun _ _ _ h=>h) (Or.inl ⟨by rfl,by intro W;go_simp⟩) ?_
  refine wpAny_take (i:=7) (v:=.pointer (some ⟨bd,5,none⟩)) rfl (by kernel_rfl) (by kernel_rfl) (by kernel_rfl) (fun _ _ _ h=>h) (Or.inl ⟨by rfl,by intro W;go_simp⟩) ?_
  refine wpAny_ready (rs:=[3]) (by kernel_rfl) (by simp) (AllReady.cons rfl (fun K hK=>?_) AllReady.nil)
  go_simp
  refine hK _ _ ?_
  clear hK K
  refine wpAny_ready (rs:=[4]) (by kernel_rfl) (by simp) (AllReady.cons rfl (fun K hK=>?_) AllReady.nil)
  go_simp
  refine(laneOf_is x _).mono ?_
  rintro e w1 ⟨rfl,hb1⟩
  rw[HF.out]
  exact⟨rfl,rfl,(H.out.call (bLr).drew).call hb1,((Grw.refl _ _ _).call (bLr).drew).call hb1⟩
 unfold onLane
 cases hf:numN (lst x)with
 |none=>exact bad 10 (by unfold laneE;rw[hf])
 |some z=>
  by_cases hz:0≤z∧z<4
  ·have hl:laneE (lst x)=.returned (.int .i64 z):=by unfold laneE;rw[hf];exact if_pos hz
   dsimp only
   rw[if_pos hz]
   obtain⟨m,rfl⟩:∃m:Nat,z=m:=⟨z.toNat,by omega⟩
   have hm:m<4:=by omega
   have hm2:(m:Int)<4:=by omega
   rw[Int.toNat_natCast]
   have HF:=qh hl
   have D0:=H.out.call (Below.refl w.heap.size w).drew
   have y0:=D0.C.at_ (5+m) (dskL_at b s hm)
   have D0:=qh D0
   clear hf hl hz bad
   go_enter Tryz.func34,Tryz.ntmps34
   go_upto_region 11 with(fail)
   refine wp_region_any (by kernel_rfl) ?_
   change wpAny _ _ _ _ _ _ _ (World.drew _)
   refine wpAny_take (i:=0) (v:=ptr bd) rfl (by kernel_rfl) (by kernel_rfl) (by kernel_rfl) (fun _ _ _ h=>h) (Or.inl ⟨by rfl,by intro W;go_simp⟩) ?_
   refine wpAny_take (i:=1) (v:=.slice (some ⟨b0,off,none⟩) 1 cp) rfl (by kernel_rfl) (by kernel_rfl) (by kernel_rfl) (fun _ _ _ h=>h) (Or.inl ⟨by rfl,by intro W;go_simp⟩) ?_
   refine wpAny_take (i:=2) (v:=.pointer (some ⟨b0,off,none⟩)) rfl (by kernel_rfl) (by kernel_rfl) (by kernel_rfl) (fun _ _ _ h=>h) (Or.inl ⟨by rfl,by intro W;go_simp⟩) ?_
   refine wpAny_take (i:=5) (v:=ptr bd) rfl (by kernel_rfl) (by kernel_rfl) (by kernel_rfl) (fun _ _ _ h=>h) (Or.inl ⟨by rfl,by intro W;go_simp⟩) ?_
   refine wpAny_take (i:=6) (v:=.pointer (some ⟨bd,1,none⟩)) rfl (by kernel_rfl) (by kernel_rfl) (by kernel_rfl) (fun _ _ _ h=>h) (Or.inl ⟨by rfl,by intro W;go_simp⟩) ?_
   refine wpAny_take (i:=7) (v:=.pointer (some ⟨bd,5,none⟩)) rfl (by kernel_rfl) (by kernel_rfl) (by kernel_rfl) (fun _ _ _ h=>h) (Or.inl ⟨by rfl,by intro W;go_simp⟩) ?_
   refine wpAny_ready (rs:=[3]) (by kernel_rfl) (by simp) (AllReady.cons rfl (fun K hK=>?_) AllReady.nil)
   go_simp
   refine hK _ _ ?_
   clear hK K
   refine wpAny_ready (rs:=[4]) (by kernel_rfl) (by simp) (AllReady.cons rfl (fun K hK=>?_) AllReady.nil)
   go_simp
   refine(laneOf_is x _).mono ?_
   rintro e w1 ⟨rfl,hb1⟩
   rw[HF.out]
   have D1:=D0.out.call hb1
   have y:=D1.C.at_ (5+m) (dskL_at b s hm)
   have f:=D1.C.2.1 (5+m)
   have yz:=D1.C.lt
   refine hK _ _ ?_
   clear hK K
   refine wpAny_ready (rs:=[8]) (by kernel_rfl) (by simp) (AllReady.cons rfl (fun K hK=>?_) AllReady.nil)
   go_simp
   refine hK _ _ ?_
   clear hK K
   refine wpAny_ready (rs:=[9]) (by kernel_rfl) (by simp) (AllReady.cons rfl (fun K hK=>?_) AllReady.nil)
   go_simp
   refine hK _ _ ?_
   clear hK K
   refine⟨by kernel_rfl,?_⟩
   have K:=qh (D1.set (f_ok D1.ok m (0) (by decide)) (5+m) (.int .i64 (0)) (by show 5+m<14;omega) (dskL_f b s hm _) rfl)
   have G:=qh ((((Grw.refl bd b w).call (bLr).drew).call hb1).row (grown_setW w1 bd (5+m) (.int .i64 (0))) (.inl rfl))
   clear D1 hb1
   go_wp2_with fail
   go_ret
   exact⟨rfl,K.out,G.out⟩
  ·dsimp only
   rw[if_neg hz]
   exact bad 1 (by unfold laneE;rw[hf];exact if_neg hz)
end Go.Proofs.YtpkiepjmcepnoaaGreatDoor
