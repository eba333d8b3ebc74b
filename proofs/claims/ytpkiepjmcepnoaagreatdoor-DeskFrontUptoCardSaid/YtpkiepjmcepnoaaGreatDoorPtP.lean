/- A part of a proof. -/
import Derived.WalkLawsBesides
import Derived.Lib.Hide
import Derived.Laws.BytesArg
import Derived.StillTailTactics
import Derived.Laws.IdiomStrings
import Derived.Deep.DeepCutAuto
import Derived.Test.YtpkiepjmcepnoaaGreatDoorPtA
set_option maxHeartbeats 16000000
set_option maxRecDepth 100000
namespace Go.Proofs.YtpkiepjmcepnoaaGreatDoor
def crcBit (c:Nat):Nat:=if c/32768%2=1 then(c*2%65536)^^^4129 else c*2%65536
def crcBits:Nat→Nat→Nat
 |0,c=>c
 |n+1,c=>crcBit (crcBits n c)
def crcRow (b:Nat):Nat:=crcBits 8 (b*256)
def crcStep (c x:Nat):Nat:=(c*256%65536)^^^crcRow ((c/256)^^^x)
def crcFrom (c:Nat) (l:List Nat):Nat:=l.foldl crcStep c
def crcSum (l:List Nat):Nat:=crcFrom 65535 l
theorem xor_shift (a b i:Nat):(a^^^b)*2^i=(a*2^i)^^^(b*2^i):=by
 rw[←Nat.shiftLeft_eq,←Nat.shiftLeft_eq,←Nat.shiftLeft_eq,Nat.shiftLeft_xor_distrib]
theorem xor_swap (a b c d:Nat):(a^^^b)^^^(c^^^d)=(a^^^c)^^^(b^^^d):=by
 rw[Nat.xor_assoc,Nat.xor_assoc,←Nat.xor_assoc b,←Nat.xor_assoc c,Nat.xor_comm b c]
theorem crcBit_lt (c:Nat):crcBit c<65536:=by
 unfold crcBit;split
 ·exact Nat.xor_lt_two_pow (n:=16) (by omega) (by omega)
 ·omega
theorem crcBits_lt (n c:Nat) (h:c<65536):crcBits n c<65536:=by
 cases n with
 |zero=>exact h
 |succ n=>exact crcBit_lt _
theorem crcRow_lt (b:Nat) (h:b<256):crcRow b<65536:=crcBits_lt 8 _ (by omega)
theorem crcStep_lt (c x:Nat) (hc:c<65536) (hx:x<256):crcStep c x<65536:=by
 unfold crcStep
 exact Nat.xor_lt_two_pow (n:=16) (by omega) (crcRow_lt _ (Nat.xor_lt_two_pow (n:=8) (by omega) (by omega)))
theorem crcFrom_lt (l:List Nat) (c:Nat) (hc:c<65536) (hl:∀x∈l,x<256):crcFrom c l<65536:=by
 induction l generalizing c with
 |nil=>exact hc
 |cons x l ih=>exact ih _ (crcStep_lt c x hc (hl x (List.mem_cons_self))) (fun y hy=>hl y (List.mem_cons_of_mem _ hy))
theorem crcBit_xor (x y:Nat):crcBit (x^^^y)=crcBit x^^^crcBit y:=by
 have h1:(x^^^y)/32768%2=(x/32768%2)^^^(y/32768%2):=by
  have:=Nat.xor_div_two_pow (a:=x) (b:=y) (n:=15)
  rw[show(2:Nat)^15=32768 from rfl]at this
  rw[this]
  exact Nat.xor_mod_two_pow (n:=1)
 have h2:(x^^^y)*2%65536=(x*2%65536)^^^(y*2%65536):=by
  have h3:=xor_shift x y 1
  rw[show(2:Nat)^1=2 from rfl]at h3
  rw[h3]
  exact Nat.xor_mod_two_pow (n:=16)
 unfold crcBit
 rw[h1,h2]
 generalize x*2%65536=p
 generalize y*2%65536=q
 rcases Nat.mod_two_eq_zero_or_one (x/32768)with hx|hx<;>rcases Nat.mod_two_eq_zero_or_one (y/32768)with hy|hy
 all_goals rw[hx,hy]
 ·rw[if_neg (by decide),if_neg (by decide),if_neg (by decide)]
 ·rw[if_pos (by decide),if_neg (by decide),if_pos (by decide),Nat.xor_assoc]
 ·rw[if_pos (by decide),if_pos (by decide),if_neg (by decide),Nat.xor_assoc,Nat.xor_comm q,←Nat.xor_assoc]
 ·rw[if_neg (by decide),if_pos (by decide),if_pos (by decide),xor_swap,Nat.xor_self,Nat.xor_zero]
theorem crcBits_xor (n x y:Nat):crcBits n (x^^^y)=crcBits n x^^^crcBits n y:=by
 induction n with
 |zero=>rfl
 |succ n ih=>simp only[crcBits];rw[ih,crcBit_xor]
end Go.Proofs.YtpkiepjmcepnoaaGreatDoor
namespace Go.Proofs.YtpkiepjmcepnoaaGreatDoor
open Go.ChangeShapes Go.WideShapes Go.ChangeAt Go.RowKit
set_option linter.unusedVariables false
theorem and_top (c:Nat) (hc:c<65536):bits BinOp.and IntKind.u16 (c:Int) 32768=((c/32768%2*32768:Nat):Int):=by
 have h:=u16_and_nat c 32768 hc (by omega)
 rw[show((32768:Nat):Int)=32768 from rfl]at h
 rw[h,show(32768:Nat)=2^15 from rfl,nat_bit 15 c]
theorem crcRow_any (b:Nat) (hb:b<256) (w:World):
  Calls Tryz.prog 159 #[.int .u8 b] w fun e w'=>e=.returned (.int .u16 (crcRow b))∧w=w':=by
 go_enter Tryz.func159,Tryz.ntmps159
 go_wp2
 go_loop [3,7] (fun c i=>∃k:Nat,k≤8∧i=.int .i64 k∧c=.int .u16 ((crcBits k (b*256):Nat):Int)) (fun _ i=>8-(intOf i).toNat)
 case atStart=>exact⟨0,by omega,rfl,by simp[crcBits]⟩
 case round=>
  obtain⟨k,hk,rfl,rfl⟩:=hrel
  have hlt:=crcBits_lt k (b*256) (by omega)
  have hs:Hid (crcBits (k+1) (b*256)=crcBit (crcBits k (b*256))):=rfl
  by_cases h8:k<8
  ·generalize crcBits k (b*256)=c at hlt hs⊢
   have ht:=and_top c hlt
   by_cases hc:c/32768%2=1
   ·have hb2:crcBit c=(c*2%65536)^^^4129:=if_pos hc
    have ht2:(bits BinOp.and IntKind.u16 (c:Int) 32768 != 0)=true:=by rw[ht,hc];decide
    have HX:=qh (u16_xor_nat (c*2%65536) 4129 (by omega) (by omega))
    clear ht
    go_wp2
    go_round
    case rel=>
     refine⟨k+1,by omega,by go_num,?_⟩
     rw[hs.out,hb2]
     have e:(c:Int)*2%65536=((c*2%65536:Nat):Int):=by simp
     rw[IntKind.wrap_u16,e]
     exact congrArg _ HX.out
    case measure=>simp[intOf];omega
   ·have hb2:crcBit c=c*2%65536:=if_neg hc
    have ht2:(bits BinOp.and IntKind.u16 (c:Int) 32768 != 0)=false:=by rw[ht,show c/32768%2=0 from by omega];decide
    clear ht
    go_wp2
    go_round
    case rel=>
     refine⟨k+1,by omega,by go_num,?_⟩
     rw[hs.out,hb2]
     go_num
    case measure=>simp[intOf];omega
  ·obtain rfl:k=8:=by omega
   go_wp2
   go_ret
   exact⟨rfl,rfl⟩
def bytesN (s:ByteArray):List Nat:=s.data.toList.map UInt8.toNat
theorem bytesN_length (s:ByteArray):(bytesN s).length=s.size:=by unfold bytesN;rw[List.length_map,Array.length_toList];rfl
theorem bytesN_lt (s:ByteArray):∀x∈bytesN s,x<256:=by
 intro x hx;obtain⟨b,_,rfl⟩:=List.mem_map.1 hx;exact b.toNat_lt
theorem bytesN_get (s:ByteArray) (k:Nat) (h:k<s.size):(bytesN s)[k]?=some s[k].toNat:=by
 have h':k<s.data.toList.length:=h
 unfold bytesN
 rw[List.getElem?_map,List.getElem?_eq_getElem h']
 rfl
theorem crcFrom_snoc (c:Nat) (l:List Nat) (x:Nat):crcFrom c (l++[x])=crcStep (crcFrom c l) x:=by simp[crcFrom]
theorem crcTake (s:ByteArray) (k:Nat) (h:k<s.size):crcFrom 65535 ((bytesN s).take (k+1))=crcStep (crcFrom 65535 ((bytesN s).take k)) s[k].toNat:=by
 have h1:=bytesN_get s k h
 rw[List.take_add_one,h1]
 exact crcFrom_snoc _ _ _
theorem crcSum_any (s:ByteArray) (hs:s.size≤maxLen) (w:World):
  Calls Tryz.prog 126 #[.string s] w fun e w'=>e=.returned (.int .u16 (crcSum (bytesN s)))∧w=w':=by
 unfold maxLen at hs
 go_enter Tryz.func126,Tryz.ntmps126
 go_wp2
 go_loop [3,7] (fun c i=>∃k:Nat,k≤s.size∧i=.int .i64 k∧c=.int .u16 ((crcFrom 65535 ((bytesN s).take k):Nat):Int)) (fun _ i=>s.size-(intOf i).toNat)
 case atStart=>exact⟨0,by omega,rfl,rfl⟩
 case round=>
  obtain⟨k,hk,rfl,rfl⟩:=hrel
  by_cases hlt:k<s.size
  ·have hc:=crcFrom_lt ((bytesN s).take k) 65535 (by omega) (fun x hx=>bytesN_lt s x (List.mem_of_mem_take hx))
   have hs2:=qh (crcTake s k hlt)
   generalize crcFrom 65535 ((bytesN s).take k)=c at hc hs2⊢
   have hx:=s[k].toNat_lt
   have e1:bits BinOp.xor IntKind.u8 ((c:Int)/256) (s[k].toNat:Int)=(((c/256)^^^s[k].toNat:Nat):Int):=u8_xor_nat (c/256) s[k].toNat (by omega) hx
   have hr:(c/256)^^^s[k].toNat<256:=Nat.xor_lt_two_pow (n:=8) (by omega) hx
   have HX:=qh (u16_xor_nat (c*256%65536) (crcRow ((c/256)^^^s[k].toNat)) (by omega) (crcRow_lt _ hr))
   have HR:=qh hr
   have HE:=qh e1
   clear hr e1 hx
   go_wp2_with fail
   rw[HE.out]
   refine(crcRow_any _ HR.out _).mono ?_
   rintro e w' ⟨rfl,rfl⟩
   go_wp2
   go_round
   case rel=>
    refine⟨k+1,by omega,by go_num,?_⟩
    rw[hs2.out]
    have e2:(c:Int)*256%65536=((c*256%65536:Nat):Int):=by simp
    rw[IntKind.wrap_u16,e2]
    exact congrArg _ HX.out
   case measure=>simp[intOf];omega
  ·obtain rfl:k=s.size:=by omega
   go_wp2
   go_ret
   refine⟨?_,rfl⟩
   unfold crcSum
   rw[List.take_of_length_le (by rw[bytesN_length];omega)]
   rfl
def crcHi (s:ByteArray):Int:=((crcSum (bytesN s):Nat):Int)/256
def crcLo (s:ByteArray):Int:=((crcSum (bytesN s):Nat):Int)%256
def putS (s:ByteArray):ByteArray:=s++strOfNums [crcHi s,crcLo s]
theorem crcSum_lt (s:ByteArray):crcSum (bytesN s)<65536:=crcFrom_lt _ _ (by omega) (bytesN_lt s)
theorem put_yes (s:ByteArray) (hs:s.size≤4093) (w:World):
  Calls Tryz.prog 87 #[.string s] w fun e w'=>e=.returned (.tuple #[.string (putS s),.int .i64 0])∧Below w.heap.size w w':=by
 have hcv:∀(W:World) (a b:Int),(convert 136 9 (.slice (some ⟨W.heap.size,0,none⟩) 2 2)).run Tryz.prog (W.alloc (.cells #[.int .u8 a,.int .u8 b] 5))=.ok (.string (strOfNums [a,b])) (W.alloc (.cells #[.int .u8 a,.int .u8 b] 5)):=by
  intro W a b
  refine run_convert_bytes_arg _ _ _ Tryz.underlying136 Tryz.underlying5 W.heap.size 0 2 2 [a,b] rfl (fun i hi=>?_) _ Tryz.underlying9
  have:i=0∨i=1:=by omega
  rcases this with rfl|rfl<;>simp
 have hlt:=crcSum_lt s
 have hz2:∀a b:Int,(strOfNums [a,b]).size=2:=fun _ _=>rfl
 have P1:Hid (putS s=s++strOfNums [((crcSum (bytesN s):Nat):Int)/256,((crcSum (bytesN s):Nat):Int)%256]):=rfl
 generalize putS s=t at *
 go_enter Tryz.func87,Tryz.ntmps87
 go_wp2_with (go_at_call 126;refine(crcSum_any s (by unfold maxLen;omega) _).mono ?_;rintro e w' ⟨rfl,rfl⟩)
 go_ret2
 refine⟨by rw[P1.out];rfl,?_⟩
 repeat(first|(with_reducible first|exact bLr)|((with_reducible first|refine bLs ?_ ?_ _|refine bLa ?_ ?_ _);·first|omega|(simp<;>omega))|with_reducible first|refine bLn ?_ _|refine bLd ?_)
def sumFits (s:ByteArray):Prop:=
 ((crcSum (bytesN (s.extract 0 (s.size-2))):Nat):Int)/256=(((bytesN s).getD (s.size-2) 0:Nat):Int)∧((crcSum (bytesN (s.extract 0 (s.size-2))):Nat):Int)%256=(((bytesN s).getD (s.size-1) 0:Nat):Int)
theorem bytesN_getD (s:ByteArray) (k:Nat) (h:k<s.size):(bytesN s).getD k 0=s[k].toNat:=by
 rw[List.getD_eq_getElem?_getD,bytesN_get s k h];rfl
theorem get_ok (s:ByteArray) (h2:2≤s.size) (hs:s.size≤4095) (h:sumFits s) (w:World):
  Calls Tryz.prog 165 #[.string s] w fun e w'=>e=.returned (.tuple #[.string (s.extract 0 (s.size-2)),.int .i64 0])∧w=w':=by
 obtain⟨n,hn⟩:∃n,s.size=n+2:=⟨s.size-2,by omega⟩
 have HE:Hid (s.extract 0 (s.size-2)=s.extract 0 n):=(by rw[hn];rfl:s.extract 0 (s.size-2)=s.extract 0 n)
 unfold sumFits at h
 rw[HE.out,bytesN_getD s (s.size-2) (by omega),bytesN_getD s (s.size-1) (by omega)]at h
 rw[HE.out]
 have hlt:=crcSum_lt (s.extract 0 n)
 obtain⟨h3,h4⟩:=h
 have i1:s[s.size-2]=s[n]:=by congr 1;omega
 have i2:s[s.size-1]=s[n+1]:=by congr 1;omega
 rw[i1]at h3;rw[i2]at h4
 clear i1 i2
 have hb1:n<s.size:=by omega
 have hb2:n+1<s.size:=by omega
 have hsz:(s.extract 0 n).size≤maxLen:=by rw[ByteArray.size_extract];unfold maxLen;omega
 have HSZ:=qh hsz
 clear hsz
 go_enter Tryz.func165,Tryz.ntmps165
 go_wp2_with fail
 refine(crcSum_any (s.extract 0 n) HSZ.out _).mono ?_
 rintro e w' ⟨rfl,rfl⟩
 generalize crcSum (bytesN (s.extract 0 n))=c at *
 go_wp2
 go_ret2
 exact⟨rfl,rfl⟩
theorem get_bad (s:ByteArray) (h2:2≤s.size) (hs:s.size≤4095) (h:¬sumFits s) (w:World):
  Calls Tryz.prog 165 #[.string s] w fun e w'=>e=.returned (.tuple #[.string ⟨#[]⟩,.int .i64 5])∧w=w':=by
 obtain⟨n,hn⟩:∃n,s.size=n+2:=⟨s.size-2,by omega⟩
 have HE:Hid (s.extract 0 (s.size-2)=s.extract 0 n):=(by rw[hn];rfl:s.extract 0 (s.size-2)=s.extract 0 n)
 unfold sumFits at h
 rw[HE.out,bytesN_getD s (s.size-2) (by omega),bytesN_getD s (s.size-1) (by omega)]at h
 have hlt:=crcSum_lt (s.extract 0 n)
 have hb1:n<s.size:=by omega
 have hb2:n+1<s.size:=by omega
 have i1:s[s.size-2]=s[n]:=by congr 1;omega
 have i2:s[s.size-1]=s[n+1]:=by congr 1;omega
 rw[i1,i2]at h
 clear i1 i2
 have hsz:(s.extract 0 n).size≤maxLen:=by rw[ByteArray.size_extract];unfold maxLen;omega
 have HSZ:=qh hsz
 have h':(((crcSum (bytesN (s.extract 0 n)):Nat):Int)/256==((s[n].toNat:Nat):Int))=false∨
   ((((crcSum (bytesN (s.extract 0 n)):Nat):Int)/256==((s[n].toNat:Nat):Int))=true∧(((crcSum (bytesN (s.extract 0 n)):Nat):Int)%256==((s[n+1].toNat:Nat):Int))=false):=by
  cases g1:((crcSum (bytesN (s.extract 0 n)):Nat):Int)/256==((s[n].toNat:Nat):Int)
  ·exact .inl rfl
  ·refine .inr ⟨rfl,?_⟩
   rw[beq_iff_eq]at g1
   simp only[beq_eq_false_iff_ne]
   exact fun g2=>h ⟨g1,g2⟩
 clear hsz h HE
 generalize hC:crcSum (bytesN (s.extract 0 n))=c at *
 have HC:=qh hC
 clear hC
 rcases h' with g|⟨g,g'⟩
 ·go_enter Tryz.func165,Tryz.ntmps165
  go_wp2_with fail
  refine(crcSum_any (s.extract 0 n) HSZ.out _).mono ?_
  rw[HC.out]
  rintro e w' ⟨rfl,rfl⟩
  go_wp2
  go_ret2
  exact⟨rfl,rfl⟩
 ·have g2:((c:Int)/256 != ((s[n].toNat:Nat):Int))=false:=by simpa using g
  go_enter Tryz.func165,Tryz.ntmps165
  go_wp2_with fail
  refine(crcSum_any (s.extract 0 n) HSZ.out _).mono ?_
  rw[HC.out]
  rintro e w' ⟨rfl,rfl⟩
  go_wp2
  go_ret2
  exact⟨rfl,rfl⟩
theorem get_short (s:ByteArray) (h2:s.size<2) (w:World):
  Calls Tryz.prog 165 #[.string s] w fun e w'=>e=.returned (.tuple #[.string ⟨#[]⟩,.int .i64 3])∧w=w':=by
 go_enter Tryz.func165,Tryz.ntmps165
 go_wp2
 go_ret2
 exact⟨rfl,rfl⟩
theorem get_large (s:ByteArray) (h2:4095<s.size) (w:World):
  Calls Tryz.prog 165 #[.string s] w fun e w'=>e=.returned (.tuple #[.string ⟨#[]⟩,.int .i64 2])∧w=w':=by
 go_enter Tryz.func165,Tryz.ntmps165
 go_wp2
 go_ret2
 exact⟨rfl,rfl⟩
def frameChk (k l n:Int):Int:=if l<0∨4≤l∨k<1∨2<k then 1 else if 8<n then 2 else 0
abbrev frameV (k l q:Int) (v:Value):Value:=.agg #[.int .i64 k,.int .i64 l,.int .u8 q,v]
theorem frameCheck_any (k l q:Int) (a:Option Addr) (n cap:Nat) (w:World) (hk: -9223372036854775808≤k∧k≤9223372036854775807) (hl: -9223372036854775808≤l∧l≤9223372036854775807) (hn:n≤9223372036854775807):
  Calls Tryz.prog 85 #[frameV k l q (.slice a n cap)] w fun e w'=>e=.returned (.int .i64 (frameChk k l n))∧w.alloc (.cells #[.int .i64 k,.int .i64 l,.int .u8 q,.slice a n cap] 70)=w':=by
 have hcase:(l<0∧frameChk k l n=1)∨((decide (l<0)=false∧4≤l)∧frameChk k l n=1)∨((decide (l<0)=false∧decide (4≤l)=false∧k<1)∧frameChk k l n=1)∨((decide (l<0)=false∧decide (4≤l)=false∧decide (k<1)=false∧2<k)∧frameChk k l n=1)∨
   ((decide (l<0)=false∧decide (4≤l)=false∧decide (k<1)=false∧decide (2<k)=false∧8<(n:Int))∧frameChk k l n=2)∨((decide (l<0)=false∧decide (4≤l)=false∧decide (k<1)=false∧decide (2<k)=false∧decide (8<(n:Int))=false)∧frameChk k l n=0):=by
  simp only[decide_eq_false_iff_not]
  unfold frameChk
  by_cases h1:l<0
  ·exact .inl ⟨h1,if_pos (by omega)⟩
  by_cases h2:4≤l
  ·exact .inr (.inl ⟨⟨h1,h2⟩,if_pos (by omega)⟩)
  by_cases h3:k<1
  ·exact .inr (.inr (.inl ⟨⟨h1,h2,h3⟩,if_pos (by omega)⟩))
  by_cases h4:2<k
  ·exact .inr (.inr (.inr (.inl ⟨⟨h1,h2,h3,h4⟩,if_pos (by omega)⟩)))
  rw[if_neg (by omega)]
  by_cases h5:8<(n:Int)
  ·exact .inr (.inr (.inr (.inr (.inl ⟨⟨h1,h2,h3,h4,h5⟩,if_pos h5⟩))))
  ·exact .inr (.inr (.inr (.inr (.inr ⟨⟨h1,h2,h3,h4,h5⟩,if_neg h5⟩))))
 rcases hcase with⟨h,hv⟩|⟨⟨h1,h⟩,hv⟩|⟨⟨h1,h2,h⟩,hv⟩|⟨⟨h1,h2,h3,h⟩,hv⟩|⟨⟨h1,h2,h3,h4,h⟩,hv⟩|⟨⟨h1,h2,h3,h4,h5⟩,hv⟩
 all_goals
  rw[hv];clear hv
  go_enter Tryz.func85,Tryz.ntmps85
  go_wp2
  go_ret
  exact⟨rfl,rfl⟩
def wordB (x:Int):List Int:=[x%4294967296/16777216,x%4294967296/65536%256,x%4294967296/256%256,x%256]
theorem info_byte:(Tryz.prog.info? 5).map (fun i=>(i.zero,i.size,i.bytes))=some (some (.int .u8 0),1,1):=by kernel_rfl
abbrev bytesV (bs:List Int):List Value:=bs.map (.int .u8)
theorem framePut_any (base:Nat) (v:Value) (bs:List Int) (x:Int) (w:World) (hown:w.ownsRow base 5 1 v bs.length (bytesV bs)) (hb:base≤w.heap.size) (hx: -2147483648≤x∧x≤2147483647) (hl:bs.length≤4000):
  Calls Tryz.prog 86 #[v,.int .i32 x] w fun e w'=>∃v',e=.returned v'∧w'.ownsRow base 5 1 v' (bs++wordB x).length (bytesV (bs++wordB x))∧Below base w w':=by
 obtain⟨i0,hi,hz0,hz1,hz2⟩:=info_parts info_byte
 have HO:=qh (hown.alloc (.cells #[.int .u8 (x%4294967296/16777216),.int .u8 (x%4294967296/65536%256),.int .u8 (x%4294967296/256%256),.int .u8 (x%256)] 5))
 have hbk:∀k,v.ownBlock=some k→base≤k:=fun k e=>(hown.lt k e).1
 have HBK:=qh hbk
 clear hown hbk
 go_enter Tryz.func86,Tryz.ntmps86
 go_wp2_with (at_builtin;refine wpList_append_own _ rfl _ _ 136 rfl base 5 i0 (.int .u8 0) 1 1 Tryz.underlying136 hi hz0 hz1 hz2 rfl (by decide) _ _ _ rfl HO.out ⟨w.heap.size,0,none⟩ 4 4 [.int .u8 (x%4294967296/16777216),.int .u8 (x%4294967296/65536%256),.int .u8 (x%4294967296/256%256),.int .u8 (x%256)] rfl rfl ?_ (by simp[Value.oneCell']) (by unfold maxLen;omega) (by omega) (by simp;omega) ?_)
 ·intro j u h
  rcases(by have:=(List.getElem?_eq_some_iff.1 h).1;simp at this;omega:j=0∨j=1∨j=2∨j=3)with rfl|rfl|rfl|rfl<;>simp at h<;>subst h<;>(simp[Addr.add];try go_simp)
 intro v' w1 hown' hgrow _
 go_wp2
 go_ret
 refine⟨v',rfl,by simpa[wordB,bytesV]using hown',((bLr).alloc hb _).grown hgrow (by simp;omega) HBK.out⟩
theorem or_add (k m a b:Nat) (hm:2^k=m) (hb:b<m) (ha:a*m<4294967296) (hb2:b<4294967296):bits BinOp.or IntKind.u32 ((a*m:Nat):Int) (b:Int)=((a*m+b:Nat):Int):=by
 subst hm
 have h1:=Nat.two_pow_add_eq_or_of_lt hb a
 rw[Nat.mul_comm (2^k) a]at h1
 rw[Go.u32_or_nat _ b ha hb2,h1]
def getW (a b c d:Int):Int:=if a<128 then a*16777216+b*65536+c*256+d else a*16777216+b*65536+c*256+d-4294967296
theorem ix_str (s:ByteArray) (k:Nat) (h:k<s.size):∀w:World,(Instr.index 9 (.string s) (.int .i64 (k:Int))).run Tryz.prog w=.ok (.int .u8 (s[k].toNat:Int)) w:=fun w=>by
 rw[run_index_string (h:=Tryz.underlying9),dif_pos ⟨by omega,by omega⟩]
 simp
theorem horner (x c:Nat):x*65536+c*256=(x*256+c)*256:=by omega
theorem getW_or (a b c d:Nat) (ha:a<256) (hb:b<256) (hc:c<256) (hd:d<256):
  wrap32 (bits BinOp.or IntKind.u32 (bits BinOp.or IntKind.u32 (bits BinOp.or IntKind.u32 ((a:Int)*16777216) ((b:Int)*65536)) ((c:Int)*256)) (d:Int))=getW a b c d:=by
 have h1:=or_add 24 16777216 a (b*65536) rfl (by omega) (by omega) (by omega)
 have e1:(a:Int)*16777216=((a*16777216:Nat):Int):=by omega
 have e2:(b:Int)*65536=((b*65536:Nat):Int):=by omega
 rw[e1,e2,h1]
 have h2:=or_add 16 65536 (a*256+b) (c*256) rfl (by omega) (by omega) (by omega)
 have e3:a*16777216+b*65536=(a*256+b)*65536:=by omega
 have e4:(c:Int)*256=((c*256:Nat):Int):=by omega
 rw[e3,e4,h2]
 have h3:=or_add 8 256 ((a*256+b)*256+c) d rfl (by omega) (by omega) (by omega)
 rw[horner (a*256+b) c,h3]
 unfold getW wrap32
 split<;>omega
theorem frameGet_any (s:ByteArray) (h4:4≤s.size) (w:World):
  Calls Tryz.prog 166 #[.string s] w fun e w'=>∃m,e=.returned (.int .i32 (getW (s[0]'(by omega)).toNat (s[1]'(by omega)).toNat (s[2]'(by omega)).toNat (s[3]'(by omega)).toNat))∧w'=w.drewN m:=by
 have b0:=(s[0]'(by omega)).toNat_lt
 have b1:=(s[1]'(by omega)).toNat_lt
 have b2:=(s[2]'(by omega)).toNat_lt
 have b3:=(s[3]'(by omega)).toNat_lt
 have l0:=ix_str s 0 (by omega)
 have l1:=ix_str s 1 (by omega)
 have l2:=ix_str s 2 (by omega)
 have l3:=ix_str s 3 (by omega)
 obtain⟨n0,hn0⟩:∃n,s[0].toNat=n:=⟨_,rfl⟩
 obtain⟨n1,hn1⟩:∃n,s[1].toNat=n:=⟨_,rfl⟩
 obtain⟨n2,hn2⟩:∃n,s[2].toNat=n:=⟨_,rfl⟩
 obtain⟨n3,hn3⟩:∃n,s[3].toNat=n:=⟨_,rfl⟩
 simp only[hn0,hn1,hn2,hn3]at *
 clear hn0 hn1 hn2 hn3
 rw[show((0:Nat):Int)=0 from rfl]at l0
 rw[show((1:Nat):Int)=1 from rfl]at l1
 rw[show((2:Nat):Int)=2 from rfl]at l2
 rw[show((3:Nat):Int)=3 from rfl]at l3
 go_enter Tryz.func166,Tryz.ntmps166
 go_wp2
 go_quiet (fail)
 go_wp2
 go_ret
 refine⟨nq,?_,rfl⟩
 exact ret_int (getW_or n0 n1 n2 n3 (by omega) (by omega) (by omega) (by omega))
theorem own_made (w:World) (E:TypeId) (vs:List Value) (base:Nat) (hb:base≤w.heap.size) (h1:∀v∈vs,v.oneCell'=true) (hm:vs.length≤maxLen):
  (w.alloc (.cells vs.toArray E)).ownsRow base E 1 (.slice (some ⟨w.heap.size,0,none⟩) vs.length vs.length) vs.length vs:=
 ⟨by simp,.inr ⟨w.heap.size,vs.length,vs.toArray,rfl,hb,(by show(w.heap.push _)[w.heap.size]?=_;simp),Nat.le_refl _,hm,by simp,by simp⟩⟩
def packB (k l q:Int) (n:Nat) (ws:List Int):List Int:=[k*16+l,q,(n:Int)]++ws.flatMap wordB
theorem packB_len (k l q:Int) (n:Nat) (ws:List Int):(packB k l q n ws).length=3+4*ws.length:=by
 unfold packB
 induction ws with
 |nil=>rfl
 |cons x ws ih=>simp[List.flatMap_cons,wordB]at ih⊢;omega
theorem packB_snoc (k l q:Int) (n:Nat) (ws:List Int) (x:Int):packB k l q n (ws++[x])=packB k l q n ws++wordB x:=by
 unfold packB;simp[List.flatMap_append]
def packS (k l q:Int) (ws:List Int):ByteArray:=putS (strOfNums (packB k l q ws.length ws))
theorem or_head (k l:Int) (hk:k=1∨k=2) (hl:0≤l∧l<4):bits BinOp.or IntKind.i64 (k*16) l=k*16+l∧(k*16+l)%256=k*16+l:=by
 rcases hk with rfl|rfl<;>rcases(by omega:l=0∨l=1∨l=2∨l=3)with rfl|rfl|rfl|rfl<;>exact⟨by decide,by decide⟩
theorem ownB_conv {w:World} {base:Nat} {v:Value} {bs:List Int} (h:w.ownsRow base 5 1 v bs.length (bytesV bs)) (h0:0<bs.length):
  (convert 136 9 v).run Tryz.prog w=.ok (.string (strOfNums bs)) w:=by
 rcases h.2 with⟨-,hn⟩|⟨g,cap,cur,hv,hb,hblk,hl,hm,-,-⟩
 ·omega
 ·subst hv
  refine run_convert_bytes_arg _ _ _ Tryz.underlying136 Tryz.underlying5 g 0 _ cap bs rfl (fun i hi=>?_) _ Tryz.underlying9
  rw[Nat.zero_add,h.cellAt i (by omega)]
  simp[bytesV,hi]
def PackRel (w:World) (k l q:Int) (ws:List Int) (out i:Value) (wr:World):Prop:=∃j:Nat,j≤ws.length∧i=.int .i64 j∧
 wr.ownsRow w.heap.size 5 1 out (packB k l q ws.length (ws.take j)).length (bytesV (packB k l q ws.length (ws.take j)))∧Below w.heap.size w wr
theorem pack_yes (k l q:Int) (v:Value) (ws:List Int) (w:World) (hv:IntsAt .i32 w v ws) (hk:k=1∨k=2) (hl:0≤l∧l<4) (hq:0≤q∧q≤255) (hn:ws.length≤8) (hws:∀x∈ws,-2147483648≤x∧x≤2147483647):
  Calls Tryz.prog 62 #[frameV k l q v] w fun e w'=>e=.returned (.tuple #[.string (packS k l q ws),.int .i64 0])∧Below w.heap.size w w':=by
 obtain⟨a,cap,rfl⟩:=hv.len
 obtain⟨o1,o2⟩:=or_head k l hk hl
 have ok:frameChk k l (ws.length:Int)=0:=by unfold frameChk;rw[if_neg (by omega),if_neg (by omega)]
 have hn2:(ws.length:Int)%256=ws.length:=by omega
 have kb:0≤k∧k≤2:=by omega
 have HV:=qh hv;have OK:=qh ok;have HW:=qh hws
 clear hv ok hws hk
 go_enter Tryz.func62,Tryz.ntmps62
 go_wp2_with fail
 refine(frameCheck_any k l q a ws.length cap _ (by omega) (by omega) (by omega)).mono ?_
 rw[OK.out]
 rintro e1 w1 ⟨rfl,rfl⟩
 go_wp2
 have own0:=own_made ((w.alloc (.cells #[.int .i64 k,.int .i64 l,.int .u8 q,.slice a ws.length cap] 70)).alloc (.cells #[.int .i64 k,.int .i64 l,.int .u8 q,.slice a ws.length cap] 70)) 5 [.int .u8 (k*16+l),.int .u8 q,.int .u8 (ws.length:Int)] w.heap.size (by simp;omega) (by simp[Value.oneCell']) (by unfold maxLen;simp)
 have HO0:=qh own0
 clear own0
 go_loopw [5,30] (fun out i wr=>PackRel w k l q ws out i wr) (fun _ i _=>ws.length-(intOf i).toNat)
 case atStart=>exact⟨0,by omega,rfl,by simpa[packB,bytesV]using HO0.out,by repeat(first|(with_reducible first|exact bLr)|((with_reducible first|refine bLs ?_ ?_ _|refine bLa ?_ ?_ _);·first|omega|(simp<;>omega))|with_reducible first|refine bLn ?_ _|refine bLd ?_)⟩
 case round=>
  obtain⟨j,hj,rfl,hown,hB⟩:=hrel
  have HO:=qh hown;have HB:=qh hB
  have zB:=hB.size
  clear hown hB
  by_cases hlt:j<ws.length
  ·rcases HV.out with⟨h0,-⟩|⟨-,b,off,cp,he,hl1,hm1,hc⟩
   ·rw[h0]at hlt;simp at hlt
   simp only[Value.slice.injEq,true_and]at he
   obtain⟨rfl,rfl⟩:=he
   have c1:=cell_later HB.out (hc j hlt)
   have hx:=HW.out (ws.getD j 0) (by rw[List.getD_eq_getElem?_getD,List.getElem?_eq_getElem hlt];exact List.getElem_mem hlt)
   have hts:Hid (ws.take (j+1)=ws.take j++[ws.getD j 0]):=(by rw[List.take_succ_eq_append_getElem hlt,List.getD_eq_getElem?_getD,List.getElem?_eq_getElem hlt];rfl:ws.take (j+1)=ws.take j++[ws.getD j 0])
   obtain⟨x,hxe⟩:∃x,ws.getD j 0=x:=⟨_,rfl⟩
   rw[hxe]at c1 hx hts
   have HX:=qh hxe
   have d1:(j:Int)<(ws.length:Int):=by omega
   clear hc hxe
   go_wp2_with fail
   refine(framePut_any w.heap.size _ (packB k l q ws.length (ws.take j)) x wr HO.out zB hx (by rw[packB_len];simp;omega)).mono ?_
   rintro e4 w4 ⟨v4,rfl,hown4,hB4⟩
   go_wp2
   go_roundw
   case rel=>exact⟨j+1,by omega,by go_num,by rw[hts.out,packB_snoc];exact hown4,HB.out.trans hB4⟩
   case measure=>simp[intOf];omega
  ·obtain rfl:j=ws.length:=by omega
   have hcv:=ownB_conv HO.out (by rw[packB_len];omega)
   rw[List.take_length]at hcv
   have hS:Hid (packS k l q ws=putS (strOfNums (packB k l q ws.length ws))):=rfl
   have hsz:(strOfNums (packB k l q ws.length ws)).size≤4093:=by rw[strOfNums_size,packB_len];omega
   obtain⟨sb,hsb⟩:∃sb,strOfNums (packB k l q ws.length ws)=sb:=⟨_,rfl⟩
   rw[hsb]at hcv hS hsz
   clear hsb
   go_wp2_with fail
   refine(put_yes sb hsz _).mono ?_
   rw[←hS.out]
   rintro e4 w4 ⟨rfl,hB4⟩
   go_wp2
   go_ret2
   exact⟨rfl,HB.out.trans (hB4.mono zB)⟩
end Go.Proofs.YtpkiepjmcepnoaaGreatDoor
namespace Go.Proofs.YtpkiepjmcepnoaaGreatDoor
def feed (c:Nat) (b:Bool):Nat:=crcBit (c^^^(if b then 32768 else 0))
def byteBits (x:Nat):List Bool:=[x/128%2==1,x/64%2==1,x/32%2==1,x/16%2==1,x/8%2==1,x/4%2==1,x/2%2==1,x%2==1]
theorem feed_xor (c d:Nat) (a b:Bool):feed (c^^^d) (a^^b)=feed c a^^^feed d b:=by
 unfold feed
 rw[←crcBit_xor]
 congr 1
 cases a<;>cases b<;>simp
 ·rw[Nat.xor_assoc]
 ·rw[Nat.xor_assoc,Nat.xor_comm d 32768,←Nat.xor_assoc]
 ·rw[xor_swap,Nat.xor_self,Nat.xor_zero]
def zipX:List Bool→List Bool→List Bool
 |a::l,b::m=>(a^^b)::zipX l m
 |_,_=>[]
theorem zipX_length (l m:List Bool) (h:l.length=m.length):(zipX l m).length=l.length:=by
 induction l generalizing m with
 |nil=>simp[zipX]
 |cons a l ih=>
  match m,h with
  |b::m,h=>simp only[List.length_cons,Nat.add_right_cancel_iff]at h;simp[zipX,ih m h]
theorem fold_xor (l m:List Bool) (c d:Nat) (h:l.length=m.length):(zipX l m).foldl feed (c^^^d)=l.foldl feed c^^^m.foldl feed d:=by
 induction l generalizing m c d with
 |nil=>
  obtain rfl:=List.length_eq_zero_iff.1 h.symm
  rfl
 |cons a l ih=>
  match m,h with
  |b::m,h=>
   simp only[List.length_cons,Nat.add_right_cancel_iff]at h
   simp only[zipX,List.foldl_cons,feed_xor]
   exact ih m _ _ h
theorem low8:∀m,m<256→crcBits 8 m=m*256:=by decide+kernel
theorem bits8:∀x,x<256→(byteBits x).foldl feed 0=crcBits 8 (x*256):=by decide+kernel
theorem crcBits_zero (n:Nat):crcBits n 0=0:=by
 induction n with
 |zero=>rfl
 |succ n ih=>simp only[crcBits,ih];rfl
theorem crcBits_add (a b c:Nat):crcBits (a+b) c=crcBits a (crcBits b c):=by
 induction a with
 |zero=>simp[crcBits]
 |succ a ih=>rw[Nat.succ_add];simp only[crcBits,ih]
theorem fold_zeros (n c:Nat):(List.replicate n false).foldl feed c=crcBits n c:=by
 induction n with
 |zero=>rfl
 |succ n ih=>
  rw[List.replicate_succ',List.foldl_append,ih]
  simp[feed,crcBits]
theorem split256 (c:Nat) (_h:c<65536):c=(c/256*256)^^^(c%256):=by
 apply Nat.eq_of_testBit_eq
 intro i
 rw[Nat.testBit_xor,show(256:Nat)=2^8 from rfl,Nat.testBit_mul_two_pow,Nat.testBit_div_two_pow,Nat.testBit_mod_two_pow]
 by_cases hi:i<8
 ·simp[hi,Nat.not_le.2 hi]
 ·simp[hi,Nat.not_lt.1 hi]
theorem step_bits (c x:Nat) (hc:c<65536) (hx:x<256):crcStep c x=(byteBits x).foldl feed c:=by
 have h1:=fold_xor (List.replicate 8 false) (byteBits x) c 0 rfl
 have h2:zipX (List.replicate 8 false) (byteBits x)=byteBits x:=by simp[zipX,byteBits,List.replicate]
 rw[h2,Nat.xor_zero,fold_zeros,bits8 x hx]at h1
 rw[h1]
 unfold crcStep crcRow
 have h3:=split256 c hc
 have h4:c/256<256:=by omega
 have e1:crcBits 8 c=crcBits 8 (c/256*256)^^^c%256*256:=by
  conv=>lhs;rw[h3]
  rw[crcBits_xor,low8 (c%256) (by omega)]
 have e2:crcBits 8 ((c/256^^^x)*256)=crcBits 8 (c/256*256)^^^crcBits 8 (x*256):=by
  rw[show(256:Nat)=2^8 from rfl,xor_shift,crcBits_xor]
 rw[e1,e2,show c*256%65536=c%256*256 by omega,Nat.xor_comm (c%256*256),Nat.xor_assoc,Nat.xor_assoc,Nat.xor_comm (c%256*256)]
def syn (e:List Bool):Nat:=e.foldl feed 0
theorem err (t e:List Bool) (c:Nat) (h:t.length=e.length):(zipX t e).foldl feed c=t.foldl feed c^^^syn e:=by
 have:=fold_xor t e c 0 h
 rwa [Nat.xor_zero]at this
theorem crcBit_inj (x:Nat) (hx:x<65536) (h:crcBit x=0):x=0:=by
 unfold crcBit at h
 split at h
 ·rename_i h1
  have h2:x*2%65536=4129:=by
   have h3:(x*2%65536^^^4129)^^^4129=0^^^4129:=by rw[h]
   rwa [Nat.xor_assoc,Nat.xor_self,Nat.xor_zero,Nat.zero_xor]at h3
  omega
 ·omega
theorem crcBits_inj (n x:Nat) (hx:x<65536) (h:crcBits n x=0):x=0:=by
 induction n with
 |zero=>exact h
 |succ n ih=>exact ih (crcBit_inj _ (crcBits_lt n x hx) h)
end Go.Proofs.YtpkiepjmcepnoaaGreatDoor
namespace Go.Proofs.YtpkiepjmcepnoaaGreatDoor
open Go.ChangeShapes Go.WideShapes Go.ChangeAt Go.RowKit
set_option linter.unusedVariables false
def strN (l:List Nat):ByteArray:=strOfNums (l.map (fun x:Nat=>(x:Int)))
theorem bytesN_strN (l:List Nat) (h:∀x∈l,x<256):bytesN (strN l)=l:=by
 unfold bytesN strN
 rw[strOfNums_data,List.map_map,List.map_map]
 conv=>rhs;rw[←List.map_id l]
 refine List.map_congr_left fun x hx=>?_
 have:=h x hx
 simp[UInt8.toNat_ofNat_of_lt' this]
theorem step2 (c x y:Nat) (hc:c<65536) (hx:x<256) (hy:y<256):crcStep (crcStep c x) y=crcBits 16 (c^^^(x*256+y)):=by
 have h1:∀d z,d<65536→z<256→crcStep d z=crcBits 8 (d^^^z*256):=by
  intro d z hd hz
  rw[step_bits d z hd hz]
  have h1:=fold_xor (List.replicate 8 false) (byteBits z) d 0 rfl
  have h2:zipX (List.replicate 8 false) (byteBits z)=byteBits z:=by simp[zipX,byteBits,List.replicate]
  rw[h2,Nat.xor_zero,fold_zeros,bits8 z hz]at h1
  rw[h1,crcBits_xor]
 have e:x*256+y=x*256^^^y:=by
  have h:=split256 (x*256+y) (by omega)
  rw[show(x*256+y)/256=x by omega,show(x*256+y)%256=y by omega]at h
  exact h
 rw[h1 _ y (crcStep_lt c x hc hx) hy,h1 c x hc hx,←low8 y hy,←crcBits_xor,←crcBits_add,e,Nat.xor_assoc]
theorem xor_eq_zero' (a b:Nat) (h:a^^^b=0):a=b:=by
 have h1:(a^^^b)^^^b=0^^^b:=by rw[h]
 rwa [Nat.xor_assoc,Nat.xor_self,Nat.xor_zero,Nat.zero_xor]at h1
theorem crcFrom_two (c:Nat) (l:List Nat) (x y:Nat):crcFrom c (l++[x,y])=crcStep (crcStep (crcFrom c l) x) y:=by simp[crcFrom]
theorem bytesN_extract (s:ByteArray) (n:Nat):bytesN (s.extract 0 n)=(bytesN s).take n:=by
 unfold bytesN
 rw[←List.map_take]
 congr 1
 simp[ByteArray.data_extract,List.extract]
theorem fits_iff (s:ByteArray) (h2:2≤s.size):sumFits s↔crcFrom 65535 (bytesN s)=0:=by
 obtain⟨n,hn⟩:∃n,s.size=n+2:=⟨s.size-2,by omega⟩
 have hl:(bytesN s).length=n+2:=by rw[bytesN_length,hn]
 have hlt:=bytesN_lt s
 unfold sumFits
 rw[show s.size-2=n by omega,show s.size-1=n+1 by omega,bytesN_extract]
 generalize bytesN s=l at *
 have hsplit:l=l.take n++[l.getD n 0,l.getD (n+1) 0]:=by
  apply List.ext_getElem?
  intro i
  by_cases h:i<n
  ·rw[List.getElem?_append_left (by simp;omega),List.getElem?_take_of_lt h]
  ·rw[List.getElem?_append_right (by simp;omega)]
   simp only[List.length_take,hl]
   by_cases h3:i=n
   ·subst h3
    rw[show i-min i (i+2)=0 by omega]
    simp[List.getD_eq_getElem?_getD,show i<l.length by omega]
   ·by_cases h4:i=n+1
    ·subst h4
     rw[show n+1-min n (n+2)=1 by omega]
     simp[List.getD_eq_getElem?_getD,show n+1<l.length by omega]
    ·rw[List.getElem?_eq_none (by omega),List.getElem?_eq_none (by simp;omega)]
 have hx:l.getD n 0<256:=by
  rw[List.getD_eq_getElem?_getD,List.getElem?_eq_getElem (by omega)];exact hlt _ (List.getElem_mem _)
 have hy:l.getD (n+1) 0<256:=by
  rw[List.getD_eq_getElem?_getD,List.getElem?_eq_getElem (by omega)];exact hlt _ (List.getElem_mem _)
 have hc:crcFrom 65535 (l.take n)<65536:=crcFrom_lt _ _ (by omega) (fun x hx=>hlt x (List.mem_of_mem_take hx))
 unfold crcSum
 conv=>rhs;rw[hsplit]
 rw[crcFrom_two,step2 _ _ _ hc hx hy]
 generalize l.getD n 0=x at *
 generalize l.getD (n+1) 0=y at *
 generalize crcFrom 65535 (l.take n)=c at *
 constructor
 ·rintro⟨h3,h4⟩
  have:c=x*256+y:=by omega
  rw[this,Nat.xor_self,crcBits_zero]
 ·intro h
  have h3:=crcBits_inj 16 _ (Nat.xor_lt_two_pow (n:=16) hc (by omega)) h
  have h4:=xor_eq_zero' _ _ h3
  omega
theorem bytesN_append (s t:ByteArray):bytesN (s++t)=bytesN s++bytesN t:=by
 unfold bytesN
 simp
theorem bytesN_put (s:ByteArray):bytesN (putS s)=bytesN s++[crcSum (bytesN s)/256,crcSum (bytesN s)%256]:=by
 have hc:=crcSum_lt s
 unfold putS
 rw[bytesN_append]
 congr 1
 have h:=bytesN_strN [crcSum (bytesN s)/256,crcSum (bytesN s)%256] (by intro x hx;simp at hx;omega)
 rw[←h]
 unfold strN crcHi crcLo
 rfl
theorem put_zero (s:ByteArray):crcFrom 65535 (bytesN (putS s))=0:=by
 have hc:=crcSum_lt s
 rw[bytesN_put,crcFrom_two,show crcFrom 65535 (bytesN s)=crcSum (bytesN s)from rfl,step2 _ _ _ hc (by omega) (by omega)]
 rw[show crcSum (bytesN s)/256*256+crcSum (bytesN s)%256=crcSum (bytesN s) by omega,Nat.xor_self,crcBits_zero]
theorem put_size (s:ByteArray):(putS s).size=s.size+2:=by
 rw[←bytesN_length,bytesN_put,List.length_append,bytesN_length];rfl
theorem good_put (s:ByteArray):sumFits (putS s):=(fits_iff _ (by rw[put_size];omega)).2 (put_zero s)
end Go.Proofs.YtpkiepjmcepnoaaGreatDoor
