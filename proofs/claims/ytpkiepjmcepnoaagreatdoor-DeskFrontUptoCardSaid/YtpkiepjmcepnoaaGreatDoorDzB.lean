/- A part of a proof. -/
import Derived.Test.YtpkiepjmcepnoaaGreatDoorPtA
import Derived.Test.YtpkiepjmcepnoaaGreatDoorDzA
import Derived.WalkLawsBesides
import Derived.Lib.ConvBytes
import Derived.Lib.AppendIntMem
import Derived.Deep.DeepCutAuto
import Derived.Deep.RegionHeld3
import Derived.OwnWalk
import Derived.Test.YtpkiepjmcepnoaaGreatDoorPtI
import Derived.Test.YtpkiepjmcepnoaaGreatDoorPtT
import Derived.Laws.AppendOwn
import Derived.Test.YtpkiepjmcepnoaaGreatDoorPtF
import Derived.Lib.Builder
import Derived.Lib.AppendStr
import Derived.Lib.UnsafeStr
import Derived.Lib.OthersKept
set_option maxHeartbeats 16000000
set_option maxRecDepth 100000
set_option linter.unusedVariables false
namespace Go.Proofs.YtpkiepjmcepnoaaGreatDoor
open Go.ChangeShapes Go.WideShapes Go.ChangeAt Go.RowKit
def wrongP (c:Int):List PanicEntry:=[{v:=.iface 96 (.agg #[.int .i64 c]),recovered:=false}]
theorem must_ok (w:World):Calls Tryz.prog 33 #[.int .i64 0] w fun e w'=>e=.returned (.tuple #[])∧w=w':=by
 go_enter Tryz.func33,Tryz.ntmps33
 go_wp2
 go_end0
 exact⟨rfl,rfl⟩
theorem must_no (c:Int) (hc:c≠0) (w:World):Calls Tryz.prog 33 #[.int .i64 c] w fun e w'=>e=.panicked (wrongP c)∧w=w':=by
 have h1:(c != 0)=true:=by simpa using hc
 go_enter Tryz.func33,Tryz.ntmps33
 go_wp2
 exact⟨rfl,rfl,rfl⟩
theorem bytes_some {bs:ByteArray} (h:0<bs.size):bs.toList.isEmpty=false:=by
 rw[ByteArray.toList_eq]
 cases hl:bs.data.toList with
 |nil=>have:bs.size=0:=by rw[ByteArray.size,←Array.length_toList,hl];rfl
       omega
 |cons a l=>rfl
def isD (b:UInt8):Bool:=decide (48≤b.toNat)&&decide (b.toNat≤57)
def valD (l:List UInt8):Int:=l.foldl (fun n b=>10*n+((b.toNat:Int)-48)) 0
def numN (l:List UInt8):Option Int:=
 if Lib.trimPrefix l [45]=[]∨6<(Lib.trimPrefix l [45]).length then none
 else if(Lib.trimPrefix l [45]).all isD=true then some (if Lib.trimPrefix l [45]=l then valD (Lib.trimPrefix l [45])else-(valD (Lib.trimPrefix l [45])))else none
theorem valD_snoc (l:List UInt8) (b:UInt8):valD (l++[b])=10*valD l+((b.toNat:Int)-48):=by unfold valD;rw[List.foldl_append];rfl
theorem valD_bd:∀(n:Nat) (l:List UInt8),l.length=n→n≤6→l.all isD=true→0≤valD l∧valD l<10^n
 |0,l,h,_,_=>by
  obtain rfl:=List.eq_nil_of_length_eq_zero h
  exact⟨by decide,by decide⟩
 |n+1,l,h,hn,ha=>by
  rcases List.eq_nil_or_concat l with rfl|⟨L,b,rfl⟩
  ·cases h
  ·have h1:L.length=n:=by simpa using h
   have h2:L.all isD=true∧isD b=true:=by simpa[List.all_append,Bool.and_eq_true]using ha
   obtain⟨k1,k2⟩:=valD_bd n L h1 (by omega) h2.1
   have h3:=h2.2
   simp only[isD,Bool.and_eq_true,decide_eq_true_eq]at h3
   rw[List.concat_eq_append,valD_snoc,Int.pow_succ]
   omega
theorem valD_six {l:List UInt8} (h:l.length≤6) (ha:l.all isD=true):0≤valD l∧valD l<1000000:=by
 obtain⟨h1,h2⟩:=valD_bd l.length l rfl h ha
 have h3:(10:Int)^l.length≤10^6:=by
  have:=Nat.pow_le_pow_right (n:=10) (by decide) h
  exact_mod_cast this
 have h4:(10:Int)^6=1000000:=by decide
 omega
def numE (l:List UInt8):Ending:=match numN l with|some n=>.returned (.int .i64 n)|none=>.panicked (wrongP 10)
theorem number_is (s:ByteArray) (w:World):Calls Tryz.prog 36 #[.string s] w fun e w'=>e=numE s.data.toList∧Below w.heap.size w w':=by
 obtain⟨t,ht⟩:∃t,Lib.trimPrefix s.data.toList [45]=t:=⟨_,rfl⟩
 have HTP:Hid (∀w,Calls Tryz.prog 61 #[.string s,.string ⟨#[45]⟩] w fun e w'=>e=.returned (.string ⟨t.toArray⟩)∧w'=w):=qh (fun w=>by have h:=Tryz.strings_TrimPrefix s ⟨#[45]⟩ w;rw[←ht];exact h)
 by_cases h0:t=[]
 ·have HE:Hid (numE s.data.toList=.panicked (wrongP 10)):=qh (by unfold numE numN;rw[ht,if_pos (.inl h0)])
  subst h0
  go_enter Tryz.func36,Tryz.ntmps36
  go_wp2_with fail
  refine(HTP.out _).mono ?_
  rintro e w1 ⟨rfl,rfl⟩
  go_wp2_with fail
  refine(must_no 10 (by decide) _).mono ?_
  rintro e w2 ⟨rfl,rfl⟩
  exact⟨rfl,HE.out.symm,bLr⟩
 ·have ht0:0<t.length:=List.length_pos_iff.2 h0
  have hsz:(⟨t.toArray⟩:ByteArray).size=t.length:=rfl
  by_cases h6:6<t.length
  ·have HE:Hid (numE s.data.toList=.panicked (wrongP 10)):=qh (by unfold numE numN;rw[ht,if_pos (.inr h6)])
   have d6:decide ((6:Int)<(t.length:Int))=true:=decide_eq_true (by omega)
   go_enter Tryz.func36,Tryz.ntmps36
   go_wp2_with fail
   refine(HTP.out _).mono ?_
   rintro e w1 ⟨rfl,rfl⟩
   go_wp2_with fail
   refine(must_no 10 (by decide) _).mono ?_
   rintro e w2 ⟨rfl,rfl⟩
   exact⟨rfl,HE.out.symm,bLr⟩
  ·have d6:decide ((6:Int)<(t.length:Int))=false:=decide_eq_false (by omega)
   obtain⟨q,hq⟩:∃q:ByteArray,(⟨t.toArray⟩:ByteArray)=q:=⟨_,rfl⟩
   have hqs:q.size=t.length:=by rw[←hq];rfl
   have hqd:q.data.toList=t:=by rw[←hq]
   have hqe:=bytes_some (bs:=q) (by omega)
   have hcv:∀W:World,(convert 9 136 (.string q)).run Tryz.prog W=.ok (.slice (some ⟨W.heap.size,0,none⟩) t.length (grownCap W q.size 0 5)) (Lib.bytesWorld W 5 q):=fun W=>by
    have:=Lib.run_convert_string_bytes (P:=Tryz.prog) W 9 136 5 q Tryz.underlying9 Tryz.underlying136 Tryz.underlying5
    rw[hqs]at this⊢
    exact this
   have hb1:Below w.heap.size w (Lib.bytesWorld w 5 q):=⟨rfl,by simp[Lib.bytesWorld,World.freeze,World.alloc,World.drew,-World.alloc_eq,-World.drew_eq],rfl,by rw[Lib.bytesWorld_size];omega,fun k hk=>Lib.bytesWorld_at_old _ _ _ _ hk⟩
   have hc1:∀j,j<t.length→(Lib.bytesWorld w 5 q).cell? ⟨w.heap.size,j,none⟩=some (.int .u8 ((t.getD j 0).toNat:Int)):=fun j hj=>by
    have:=Lib.bytesWorld_cell w 5 q j (by omega)
    rw[hqd]at this
    exact this
   have hz1:=Lib.bytesWorld_size w 5 q
   have HB1:=qh hb1;have HC1:=qh hc1
   rw[hq]at HTP
   clear hb1 hc1 hsz hqd
   go_enter Tryz.func36,Tryz.ntmps36
   go_wp2_with fail
   refine(HTP.out _).mono ?_
   rintro e w1 ⟨rfl,rfl⟩
   go_upto_region 5 with(fail)
   go_wp2_with fail
   obtain⟨W1,hW1⟩:∃x,Lib.bytesWorld w1 5 q=x:=⟨_,rfl⟩
   rw[hW1]at HB1 HC1 hz1⊢
   clear hW1 hcv HTP
   go_loopw [4,20] (fun n i wr=>∃k:Nat,k≤t.length∧i=.int .i64 k∧n=.int .i64 (valD (t.take k))∧(t.take k).all isD=true∧wr=W1) (fun _ i _=>t.length-(intOf i).toNat)
   case atStart=>exact⟨0,Nat.zero_le _,rfl,rfl,rfl,rfl⟩
   case round=>
    obtain⟨k,hk,rfl,rfl,ha,rfl⟩:=hrel
    have HA:=qh ha
    clear ha
    by_cases hlt:k<t.length
    ·have d1:(k:Int)<(t.length:Int):=by omega
     have hc:=HC1.out k hlt
     obtain⟨b,hb⟩:∃b,t.getD k 0=b:=⟨_,rfl⟩
     rw[hb]at hc
     have hbk:t[k]?=some b:=by rw[List.getD_eq_getElem?_getD,List.getElem?_eq_getElem hlt]at hb;rw[List.getElem?_eq_getElem hlt,←hb];rfl
     have htk:t.take (k+1)=t.take k++[b]:=by rw[List.take_add_one,hbk];rfl
     have hbl:=b.toNat_lt
     obtain⟨v,hv⟩:∃v,valD (t.take k)=v:=⟨_,rfl⟩
     have hvb:=valD_six (l:=t.take k) (by rw[List.length_take];omega) HA.out
     rw[hv]at hvb⊢
     have HV:=qh hv
     have HT:=qh htk
     obtain⟨c,hcb⟩:∃c:Nat,b.toNat=c:=⟨_,rfl⟩
     have HCB:=qh hcb
     rw[hcb]at hc hbl
     clear hb hv htk hcb
     by_cases hd:isD b=true
     ·have hd2:48≤c∧c≤57:=by
       have:=hd
       simp only[isD,Bool.and_eq_true,decide_eq_true_eq,HCB.out]at this
       exact this
      have e1:decide ((c:Int)<48)=false:=decide_eq_false (by omega)
      have e2:decide ((57:Int)<(c:Int))=false:=decide_eq_false (by omega)
      have w1:IntKind.i64.wrap (10*v)=10*v:=IntWalk.i64_in _ (by omega)
      have w2:IntKind.u8.wrap ((c:Int)-48)=(c:Int)-48:=by simp only[IntKind.wrap,IntKind.bits,IntKind.signed];simp;omega
      have w3:IntKind.i64.wrap ((c:Int)-48)=(c:Int)-48:=IntWalk.i64_in _ (by omega)
      have w4:IntKind.i64.wrap (10*v+((c:Int)-48))=10*v+((c:Int)-48):=IntWalk.i64_in _ (by omega)
      go_wp2_with fail
      go_roundw
      case rel=>exact⟨k+1,by omega,by go_num,by rw[HT.out,valD_snoc,HV.out,HCB.out],by rw[HT.out,List.all_append,HA.out];simp[hd],by first|rfl|trivial⟩
      case measure=>simp[intOf];omega
     ·have HE:Hid (numE s.data.toList=.panicked (wrongP 10)):=qh (by
       unfold numE numN
       rw[ht,if_neg (by rintro(h|h);exact h0 h;exact h6 h),if_neg (by intro h;exact hd (List.all_eq_true.1 h b (List.mem_of_getElem? hbk)))])
      have hd2:c<48∨57<c:=by
       have:=hd
       simp only[isD,Bool.and_eq_true,decide_eq_true_eq,HCB.out]at this
       omega
      rcases hd2 with h|h
      ·have e1:decide ((c:Int)<48)=true:=decide_eq_true (by omega)
       go_wp2_with fail
       refine(must_no 10 (by decide) _).mono ?_
       rintro e w2 ⟨rfl,rfl⟩
       exact⟨rfl,HE.out.symm,HB1.out⟩
      ·have e1:decide ((c:Int)<48)=false:=decide_eq_false (by omega)
       have e2:decide ((57:Int)<(c:Int))=true:=decide_eq_true (by omega)
       go_wp2_with fail
       refine(must_no 10 (by decide) _).mono ?_
       rintro e w2 ⟨rfl,rfl⟩
       exact⟨rfl,HE.out.symm,HB1.out⟩
    ·obtain rfl:k=t.length:=by omega
     have ha:=HA.out
     rw[List.take_length]at ha⊢
     by_cases hts:t=s.data.toList
     ·have HE:Hid (numE s.data.toList=.returned (.int .i64 (valD t))):=qh (by
       unfold numE numN
       rw[ht,if_neg (by rintro(h|h);exact h0 h;exact h6 h),if_pos ha,if_pos hts])
      have hqq:(q.toList==s.toList)=true:=by rw[ByteArray.toList_eq,ByteArray.toList_eq,←hts,←hq];simp
      go_wp2_with fail
      go_ret
      exact⟨HE.out.symm,HB1.out⟩
     ·have HE:Hid (numE s.data.toList=.returned (.int .i64 (-(valD t)))):=qh (by
       unfold numE numN
       rw[ht,if_neg (by rintro(h|h);exact h0 h;exact h6 h),if_pos ha,if_neg hts])
      have hqq:(q.toList==s.toList)=false:=by
       rw[ByteArray.toList_eq,ByteArray.toList_eq,←hq]
       rw[beq_eq_false_iff_ne]
       simpa using hts
      have hvb:=valD_six (l:=t) (by omega) ha
      have w1:IntKind.i64.wrap (-(valD t))= -(valD t):=IntWalk.i64_in _ (by omega)
      go_wp2_with fail
      go_ret
      exact⟨HE.out.symm,HB1.out⟩
theorem numN_bd {l:List UInt8} {n:Int} (h:numN l=some n): -1000000<n∧n<1000000:=by
 unfold numN at h
 split at h
 ·cases h
 ·rename_i h1
  split at h
  ·rename_i h2
   have:=valD_six (l:=Lib.trimPrefix l [45]) (by have:=fun h=>h1 (.inr h);omega) h2
   cases h
   split<;>omega
  ·cases h
def laneE (l:List UInt8):Ending:=match numN l with|some n=>if 0≤n∧n<4 then .returned (.int .i64 n)else .panicked (wrongP 1)|none=>.panicked (wrongP 10)
theorem laneOf_is (s:ByteArray) (w:World):Calls Tryz.prog 59 #[.string s] w fun e w'=>e=laneE s.data.toList∧Below w.heap.size w w':=by
 have HN:=qh (number_is s)
 cases hn:numN s.data.toList with
 |none=>
  have HE:Hid (laneE s.data.toList=.panicked (wrongP 10)):=qh (by unfold laneE;rw[hn])
  have HF:Hid (numE s.data.toList=.panicked (wrongP 10)):=qh (by unfold numE;rw[hn])
  clear hn
  go_enter Tryz.func59,Tryz.ntmps59
  go_wp2_with fail
  refine(HN.out _).mono ?_
  rintro e w1 ⟨rfl,hb⟩
  rw[HF.out]
  exact⟨rfl,HE.out.symm,hb⟩
 |some n=>
  have hnb:=numN_bd hn
  have HF:Hid (numE s.data.toList=.returned (.int .i64 n)):=qh (by unfold numE;rw[hn])
  by_cases h:0≤n∧n<4
  ·have HE:Hid (laneE s.data.toList=.returned (.int .i64 n)):=qh (by unfold laneE;rw[hn];exact if_pos h)
   have e1:decide (n<0)=false:=decide_eq_false (by omega)
   have e2:decide ((4:Int)≤n)=false:=decide_eq_false (by omega)
   clear hn
   go_enter Tryz.func59,Tryz.ntmps59
   go_wp2_with fail
   refine(HN.out _).mono ?_
   rintro e w1 ⟨rfl,hb⟩
   rw[HF.out]
   go_wp2_with fail
   go_ret
   exact⟨HE.out.symm,hb⟩
  ·have HE:Hid (laneE s.data.toList=.panicked (wrongP 1)):=qh (by unfold laneE;rw[hn];exact if_neg h)
   clear hn
   rcases(by omega:n<0∨(0≤n∧4≤n))with h1|⟨h1,h2⟩
   ·have e1:decide (n<0)=true:=decide_eq_true h1
    go_enter Tryz.func59,Tryz.ntmps59
    go_wp2_with fail
    refine(HN.out _).mono ?_
    rintro e w1 ⟨rfl,hb⟩
    rw[HF.out]
    have HB:=qh hb
    clear hb
    go_wp2_with fail
    refine(must_no 1 (by decide) _).mono ?_
    rintro e w2 ⟨rfl,rfl⟩
    exact⟨rfl,HE.out.symm,HB.out⟩
   ·have e1:decide (n<0)=false:=decide_eq_false (by omega)
    have e2:decide ((4:Int)≤n)=true:=decide_eq_true h2
    go_enter Tryz.func59,Tryz.ntmps59
    go_wp2_with fail
    refine(HN.out _).mono ?_
    rintro e w1 ⟨rfl,hb⟩
    rw[HF.out]
    have HB:=qh hb
    clear hb
    go_wp2_with fail
    refine(must_no 1 (by decide) _).mono ?_
    rintro e w2 ⟨rfl,rfl⟩
    exact⟨rfl,HE.out.symm,HB.out⟩
def fixI (n:Int):Int:=(n*65536).tdiv 100
theorem fixI_bd {n:Int} (h: -1000000<n∧n<1000000): -700000000≤fixI n∧fixI n≤700000000:=by
 unfold fixI
 by_cases h0:0≤n*65536
 ·rw[Int.tdiv_eq_ediv_of_nonneg h0];omega
 ·rw[show n*65536= -(-(n*65536))from by omega,Int.neg_tdiv,Int.tdiv_eq_ediv_of_nonneg (by omega)];omega
def fixN (l:List UInt8):Option Int:=(numN l).map fixI
def fixE (l:List UInt8):Ending:=match fixN l with|some n=>.returned (.int .i32 n)|none=>.panicked (wrongP 10)
theorem fixN_bd {l:List UInt8} {n:Int} (h:fixN l=some n): -2147483648≤n∧n≤2147483647:=by
 unfold fixN at h
 cases hn:numN l with
 |none=>rw[hn]at h;cases h
 |some m=>
  rw[hn]at h
  cases h
  have:=fixI_bd (numN_bd hn)
  show-2147483648≤fixI m∧fixI m≤2147483647
  omega
theorem fixed_is (s:ByteArray) (w:World):Calls Tryz.prog 38 #[.string s] w fun e w'=>e=fixE s.data.toList∧Below w.heap.size w w':=by
 have HN:=qh (number_is s)
 cases hn:numN s.data.toList with
 |none=>
  have HE:Hid (fixE s.data.toList=.panicked (wrongP 10)):=qh (by unfold fixE fixN;rw[hn];rfl)
  have HF:Hid (numE s.data.toList=.panicked (wrongP 10)):=qh (by unfold numE;rw[hn])
  clear hn
  go_enter Tryz.func38,Tryz.ntmps38
  go_wp2_with fail
  refine(HN.out _).mono ?_
  rintro e w1 ⟨rfl,hb⟩
  rw[HF.out]
  exact⟨rfl,HE.out.symm,hb⟩
 |some n=>
  have hnb:=numN_bd hn
  have hfb:=fixI_bd hnb
  have HF:Hid (numE s.data.toList=.returned (.int .i64 n)):=qh (by unfold numE;rw[hn])
  have HE:Hid (fixE s.data.toList=.returned (.int .i32 ((n*65536).tdiv 100))):=qh (by unfold fixE fixN;rw[hn];rfl)
  have w1:IntKind.i64.wrap (n*65536)=n*65536:=IntWalk.i64_in _ (by omega)
  have w2:IntKind.i64.wrap ((n*65536).tdiv 100)=(n*65536).tdiv 100:=IntWalk.i64_in _ (by unfold fixI at hfb;omega)
  have w3:IntKind.i32.wrap ((n*65536).tdiv 100)=(n*65536).tdiv 100:=IntWalk.i32_in _ (by unfold fixI at hfb;omega)
  clear hn hfb
  go_enter Tryz.func38,Tryz.ntmps38
  go_wp2_with fail
  refine(HN.out _).mono ?_
  rintro e w1 ⟨rfl,hb⟩
  rw[HF.out]
  go_wp2_with fail
  go_ret
  exact⟨HE.out.symm,hb⟩
def hunI (x:Int):Int:=(x*100).tdiv 65536
def hunS (x:Int):List UInt8:=Lib.itoa (hunI x)
theorem hunI_bd {x:Int} (h: -2147483648≤x∧x≤2147483647): -3276800≤hunI x∧hunI x≤3276800:=by
 unfold hunI
 by_cases h0:0≤x*100
 ·rw[Int.tdiv_eq_ediv_of_nonneg h0];omega
 ·rw[show x*100= -(-(x*100))from by omega,Int.neg_tdiv,Int.tdiv_eq_ediv_of_nonneg (by omega)];omega
abbrev PowAt (w : World) : Prop := Lib.TabIs Tryz.prog w "internal/strconv.uint64pow10" .u64 Lib.pow10Tab
def Libs (w:World):Prop:=PowAt w∧∃m:Int,w.cell? ⟨0,0,none⟩=some (.int .i64 m)
theorem Libs.later {w w':World} (h:Libs w) (hb:Below w.heap.size w w'):Libs w':=
 ⟨Lib.tabBelow_of_tabIs h.1 w' hb,by obtain⟨m,hm⟩:=h.2;exact⟨m,(hb.cell (p:=⟨0,0,none⟩) (World.block_lt_of_cell? _ _ hm)).trans hm⟩⟩
theorem itoa_is (n:Int) (h0: -9223372036854775808≤n) (h1:n≤9223372036854775807) (w:World) (hl:Libs w):Calls Tryz.prog 20 #[.int .i64 n] w fun e w'=>e=.returned (.string ⟨(Lib.itoa n).toArray⟩)∧Below w.heap.size w w':=
 (Tryz.strconv_Itoa n h0 h1 w hl.1).mono fun e w' ⟨h,k,os,e2⟩=>⟨h,e2▸Lib.below_grow _ _ (Nat.le_refl _) _ _⟩
theorem hundredths_is (x:Int) (hx: -2147483648≤x∧x≤2147483647) (w:World) (hl:Libs w):Calls Tryz.prog 63 #[.int .i32 x] w fun e w'=>e=.returned (.string ⟨(hunS x).toArray⟩)∧Below w.heap.size w w':=by
 have hb:=hunI_bd hx
 have w1:IntKind.i64.wrap (x*100)=x*100:=IntWalk.i64_in _ (by omega)
 have w2:IntKind.i64.wrap ((x*100).tdiv 65536)=(x*100).tdiv 65536:=IntWalk.i64_in _ (by unfold hunI at hb;omega)
 have w3:IntKind.i64.wrap x=x:=IntWalk.i64_in _ (by omega)
 have HT:=qh hl.1
 have HB:=qh hb
 clear hl hb
 go_enter Tryz.func63,Tryz.ntmps63
 go_wp2_with fail
 refine(Tryz.strconv_FormatInt_10 (hunI x) (by have:=HB.out;omega) (by have:=HB.out;omega) _ HT.out).mono ?_
 rintro e w1 ⟨rfl,k,os,rfl⟩
 go_wp2_with fail
 go_ret
 exact⟨rfl,Lib.below_grow _ _ (Nat.le_refl _) _ _⟩
def strLay (s:ByteArray):List Value:=[.string s]
theorem strLay_len (s:ByteArray):(strLay s).length=1:=rfl
abbrev lst (s:ByteArray):List UInt8:=s.data.toList
def fixAll:List ByteArray→Option (List Int)
 |[]=>some []
 |s::r=>match fixN (lst s),fixAll r with|some n,some ns=>some (n::ns)|_,_=>none
def dmV (xs:List Int):Int×Int:=voteE xs (List.replicate xs.length true)
inductive Ans where
 |ok (s:List UInt8)
 |err (c:Int)
def Ans.end:Ans→Ending
 |.ok s=>.returned (.string ⟨s.toArray⟩)
 |.err c=>.panicked (wrongP c)
def midO (ls:List ByteArray):Ans:=match fixAll ls with|none=>.err 10|some xs=>if(dmV xs).2=0 then .ok (hunS (dmV xs).1)else .err (dmV xs).2
theorem fixAll_snoc (s:ByteArray):∀ls:List ByteArray,fixAll (ls++[s])=match fixAll ls,fixN (lst s)with|some xs,some n=>some (xs++[n])|_,_=>none
 |[]=>by
  simp only[List.nil_append,fixAll]
  cases fixN (lst s)<;>rfl
 |a::r=>by
  simp only[List.cons_append,fixAll]
  rw[fixAll_snoc s r]
  cases fixN (lst a)<;>cases fixAll r<;>cases fixN (lst s)<;>rfl
theorem fixAll_len:∀{ls:List ByteArray} {xs:List Int},fixAll ls=some xs→xs.length=ls.length
 |[],xs,h=>by cases h;rfl
 |a::r,xs,h=>by
  simp only[fixAll]at h
  split at h
  ·rename_i n ns h1 h2
   cases h
   simp[fixAll_len h2]
  ·cases h
theorem fixAll_bd:∀{ls:List ByteArray} {xs:List Int},fixAll ls=some xs→∀x∈xs,-2147483648≤x∧x≤2147483647
 |[],xs,h,x,hx=>by cases h;cases hx
 |a::r,xs,h,x,hx=>by
  simp only[fixAll]at h
  split at h
  ·rename_i n ns h1 h2
   cases h
   rcases List.mem_cons.1 hx with rfl|hx
   ·exact fixN_bd h1
   ·exact fixAll_bd h2 x hx
  ·cases h
theorem fixAll_none {ls:List ByteArray} {k:Nat} {s:ByteArray} (hk:ls[k]?=some s) (h:fixN (lst s)=none):fixAll ls=none:=by
 induction ls generalizing k with
 |nil=>cases hk
 |cons a r ih=>
  simp only[fixAll]
  cases k with
  |zero=>cases hk;rw[h]
  |succ k=>
   rw[ih hk]
   cases fixN (lst a)<;>rfl
theorem row_ne {w:World} {base n m k1 k2:Nat} {e1 e2:TypeId} {v u:Value} {xs ys:List Value} (hne:e1≠e2) (h:w.ownsRow base e1 k1 v n xs) (g:w.ownsRow base e2 k2 u m ys):v.ownBlock=none∨v.ownBlock≠u.ownBlock:=by
 rcases h.2 with⟨rfl,-⟩|⟨a,c,cur,rfl,-,h1,-⟩
 ·exact .inl rfl
 ·refine .inr fun e=>?_
  rcases g.2 with⟨rfl,-⟩|⟨a2,c2,cur2,rfl,-,h2,-⟩
  ·cases e
  ·cases e
   rw[h1]at h2
   cases h2
   exact hne rfl
theorem cells_add {w:World} {b:Nat} {vs:List Value} (h:CellsAt w b vs):∀(j:Nat) u,vs[j]?=some u→w.cell? ((⟨b,0,none⟩:Addr).add j)=some u:=fun j u hj=>by
 have h1:=h.at_ j hj
 cases j<;>simpa[Addr.add]using h1
theorem own_bools' {E:TypeId} {w:World} {base:Nat} {xs:List Bool} {v:Value} (h:w.ownsRow base E 1 v xs.length (xs.map .bool)):BoolsAt w v xs:=by
 by_cases h0:xs=[]
 ·subst h0
  rcases h.2 with⟨hv,-⟩|⟨g,cap,cur,hv,-⟩
  ·exact .inl ⟨rfl,.inl hv⟩
  ·exact .inl ⟨rfl,.inr ⟨_,cap,hv⟩⟩
 ·rcases h.2 with⟨-,hn⟩|⟨g,cap,cur,hv,hb,hblk,hl,hm,-,-⟩
  ·exact absurd (List.eq_nil_of_length_eq_zero hn) h0
  ·subst hv
   refine .inr ⟨List.length_pos_iff.2 h0,g,0,cap,rfl,hl,by unfold maxLen at hm;exact hm,fun i hi=>?_⟩
   rw[Nat.zero_add,h.cellAt i (by omega)]
   simp[hi]
theorem hear_mem {xs:List Int} {os:List Bool} {y:Int}:∀k,y∈hearK xs os k→∃i,y=xs.getD i 0
 |0,h=>by cases h
 |k+1,h=>by
  unfold hearK at h
  split at h
  ·rcases List.mem_append.1 h with h|h
   ·exact hear_mem k h
   ·exact⟨k,by simpa using h⟩
  ·exact hear_mem k h
theorem dmV_bd {xs:List Int} (h:∀x∈xs,-2147483648≤x∧x≤2147483647): -2147483648≤(dmV xs).1∧(dmV xs).1≤2147483647:=by
 unfold dmV voteE midE
 split
 ·split
  ·decide
  ·split
   ·decide
   ·rename_i h1 h2
    have hm:=midI_mem (xs:=hearK xs (List.replicate xs.length true) xs.length) (by omega)
    obtain⟨i,hi⟩:=hear_mem _ hm
    show-2147483648≤midI _∧midI _≤2147483647
    rw[hi,List.getD_eq_getElem?_getD]
    cases e:xs[i]? with
    |none=>decide
    |some y=>exact h y (List.mem_of_getElem? e)
 ·show-2147483648≤(0:Int)∧(0:Int)≤2147483647;decide
def MidRel (w:World) (ls:List ByteArray) (x o i:Value) (wr:World):Prop:=∃k:Nat,k≤ls.length∧i=.int .i64 k∧∃xs,fixAll (ls.take k)=some xs∧wr.ownsRow w.heap.size 21 1 x k (xs.map (.int .i32))∧wr.ownsRow w.heap.size 4 1 o k (List.replicate k (.bool true))∧Below w.heap.size w wr
theorem info32:(Tryz.prog.info? 21).map (fun i=>(i.zero,i.size,i.bytes))=some (some (.int .i32 0),1,4):=by kernel_rfl
theorem infoBl:(Tryz.prog.info? 4).map (fun i=>(i.zero,i.size,i.bytes))=some (some (.bool false),1,1):=by kernel_rfl
theorem mid_is (ls:List ByteArray) (v:Value) (w:World) (h:RecsAt 1 strLay w v ls) (hl:ls.length≤5000) (ht:Libs w):Calls Tryz.prog 43 #[v] w fun e w'=>e=(midO ls).end∧Below w.heap.size w w':=by
 obtain⟨a,c,rfl⟩:=h.len
 have HR:=qh h
 have HT:=qh ht
 clear h ht
 obtain⟨i0,hi,hz0,hz1,hz2⟩:=info_parts info32
 obtain⟨j0,hj,hy0,hy1,hy2⟩:=info_parts infoBl
 have HI:=qh hi;have HZ0:=qh hz0;have HZ1:=qh hz1;have HZ2:=qh hz2
 have HJ:=qh hj;have HY0:=qh hy0;have HY1:=qh hy1;have HY2:=qh hy2
 clear hi hz0 hz1 hz2 hj hy0 hy1 hy2
 go_enter Tryz.func43,Tryz.ntmps43
 go_wp2_with fail
 go_loopw [3,4,11] (fun x o i wr=>MidRel w ls x o i wr) (fun _ _ i _=>ls.length-(intOf i).toNat)
 case atStart=>exact⟨0,Nat.zero_le _,rfl,[],rfl,World.ownsRow_nil _ _ _ _,World.ownsRow_nil _ _ _ _,bLr⟩
 case round=>
  obtain⟨k,hk,rfl,xs,hxs,hox,hoo,hb⟩:=hrel
  have HXS:=qh hxs;have HOX:=qh hox;have HOO:=qh hoo;have HB:=qh hb
  clear hxs hox hoo hb
  by_cases hlt:k<ls.length
  ·have d1:(k:Int)<(ls.length:Int):=by omega
   have d2:k+1≤c:=by
    obtain⟨s,hs⟩:∃s,ls[k]?=some s:=⟨_,List.getElem?_eq_getElem hlt⟩
    obtain⟨b,off,cap,hv,h1,h2,-⟩:=HR.out.at_ hs
    cases hv;omega
   obtain⟨s,hs⟩:∃s,ls[k]?=some s:=⟨_,List.getElem?_eq_getElem hlt⟩
   obtain⟨b,off,cap,hv,h1,h2,hc⟩:=HR.out.at_ hs
   cases hv
   have c0:wr.cell? ⟨b,off+k,none⟩=some (.string s):=by
    have h3:=hc 0 (by omega)
    have h4:w.cell? ⟨b,off+k,none⟩=some (.string s):=by simpa[strLay]using h3
    rw[HB.out.cell (p:=⟨b,off+k,none⟩) (World.block_lt_of_cell? _ _ h4)];exact h4
   have hwk:IntKind.i64.wrap ((k:Int)+1)=(k:Int)+1:=IntWalk.i64_in _ (by omega)
   have htk:ls.take (k+1)=ls.take k++[s]:=by rw[List.take_add_one,hs];rfl
   have HTK:=qh htk;have HS:=qh hs
   clear hc htk hs
   cases hf:fixN (lst s)with
   |none=>
    have HE:Hid ((midO ls).end=.panicked (wrongP 10)):=qh (by unfold midO;rw[fixAll_none HS.out hf];rfl)
    have HF:Hid (fixE (lst s)=.panicked (wrongP 10)):=qh (by unfold fixE;rw[hf])
    clear hf
    go_wp2_with fail
    refine(fixed_is s _).mono ?_
    rintro e w1 ⟨rfl,hb1⟩
    rw[HF.out]
    exact⟨rfl,HE.out.symm,HB.out.trans (hb1.mono HB.out.size)⟩
   |some n=>
    have HF:Hid (fixE (lst s)=.returned (.int .i32 n)):=qh (by unfold fixE;rw[hf])
    have HN:=qh hf
    clear hf
    go_upto_region 6 with(fail)
    go_wp2_with fail
    refine(fixed_is s _).mono ?_
    rintro e w1 ⟨rfl,hb1⟩
    rw[HF.out]
    have b2:Below wr.heap.size wr (w1.alloc (.cells #[.int .i32 n] 21)):=hb1.trans (((bLr).alloc (Nat.le_refl _) _).mono hb1.size)
    have OX:Hid ((w1.alloc (.cells #[.int .i32 n] 21)).ownsRow w.heap.size 21 1 u3 k (xs.map (.int .i32))):=qh (HOX.out.kept (grown_of_below b2 none) (by by_cases e:u3.ownBlock=none;exact .inl e;exact .inr e))
    have OO:Hid ((w1.alloc (.cells #[.int .i32 n] 21)).ownsRow w.heap.size 4 1 u4 k (List.replicate k (.bool true))):=qh (HOO.out.kept (grown_of_below b2 none) (by by_cases e:u4.ownBlock=none;exact .inl e;exact .inr e))
    have CX:Hid (∀(j:Nat) u,[Value.int .i32 n][j]?=some u→(w1.alloc (.cells #[.int .i32 n] 21)).cell? ((⟨w1.heap.size,0,none⟩:Addr).add j)=some u):=qh (cells_add (CellsAt.new' rfl rfl))
    have HB2:=qh (HB.out.trans (b2.mono HB.out.size))
    clear hb1 b2
    have hxl:xs.length=k:=by rw[fixAll_len HXS.out,List.length_take];omega
    go_upto_region 7 with(first|(at_builtin;refine wpList_append_own _ rfl _ _ 68 rfl w.heap.size 21 i0 (.int .i32 0) 1 4 Tryz.underlying68 HI.out HZ0.out HZ1.out HZ2.out rfl (by decide) _ _ _ rfl OX.out ⟨w1.heap.size,0,none⟩ 1 1 [.int .i32 n] rfl rfl CX.out (by intro u hu;simp at hu;subst hu;rfl) (by unfold maxLen;omega) (by omega) HB2.out.size ?_;intro x2 wx hox hgx hnx)|(at_builtin;refine wpList_append_own _ rfl _ _ 150 rfl w.heap.size 4 j0 (.bool false) 1 1 Tryz.underlying150 HJ.out HY0.out HY1.out HY2.out rfl (by decide) _ _ _ rfl ((OO.out.kept hgx (row_ne (by decide) OO.out OX.out)).kept (World.grownBy_alloc wx (.cells #[.bool true] 4) none) (by by_cases e:u4.ownBlock=none;exact .inl e;exact .inr e)) ⟨wx.heap.size,0,none⟩ 1 1 [.bool true] rfl rfl (cells_add (CellsAt.new' rfl rfl)) (by intro u hu;simp at hu;subst hu;rfl) (by unfold maxLen;omega) (by omega) (Nat.le_trans HB2.out.size (Nat.le_trans hgx.size (by simp))) ?_;intro o2 wo hoo hgo hno))
    have hox2:(wx.alloc (.cells #[.bool true] 4)).ownsRow w.heap.size 21 1 x2 (k+1) (xs.map (.int .i32)++[.int .i32 n]):=hox.kept (World.grownBy_alloc wx (.cells #[.bool true] 4) none) (by by_cases e:x2.ownBlock=none;exact .inl e;exact .inr e)
    have OO2:(wx.alloc (.cells #[.bool true] 4)).ownsRow w.heap.size 4 1 u4 k (List.replicate k (.bool true)):=(OO.out.kept hgx (row_ne (by decide) OO.out OX.out)).kept (World.grownBy_alloc wx (.cells #[.bool true] 4) none) (by by_cases e:u4.ownBlock=none;exact .inl e;exact .inr e)
    have HOX3:=qh (hox2.kept hgo (row_ne (by decide) hox2 OO2))
    have HOO3:=qh hoo
    have HB3:Hid (Below w.heap.size w wo):=qh (((HB2.out.grown hgx HB2.out.size (fun j e=>(OX.out.lt j e).1)).alloc (Nat.le_trans HB2.out.size hgx.size) _).grown hgo (Nat.le_trans HB2.out.size (Nat.le_trans hgx.size (by simp))) (fun j e=>(OO2.lt j e).1))
    clear hox hgx hnx hoo hgo hno hox2 OO2 OX OO CX HB2
    go_wp2_with fail
    go_roundw
    case rel=>exact⟨k+1,by omega,by go_num,xs++[n],by rw[HTK.out,fixAll_snoc,HXS.out,HN.out],by rw[List.map_append];exact HOX3.out,by rw[List.replicate_succ'];exact HOO3.out,HB3.out⟩
    case measure=>simp[intOf];omega
  ·obtain rfl:k=ls.length:=by omega
   have hxs:=HXS.out
   rw[List.take_length]at hxs
   have hxl:=fixAll_len hxs
   have VX:IntsAt .i32 wr u3 xs:=own_ints' (by rw[hxl];exact HOX.out)
   have VO:BoolsAt wr u4 (List.replicate xs.length true):=own_bools' (by rw[hxl,List.length_replicate,List.map_replicate];exact HOO.out)
   have hmv:=qh (vmid_is xs (List.replicate xs.length true) u3 u4 wr VX VO (by omega) (by rw[List.length_replicate];omega))
   have hbd:=dmV_bd (fixAll_bd hxs)
   have HPT:=qh (HT.out.later HB.out)
   obtain⟨m,hm⟩:∃m,dmV xs=m:=⟨_,rfl⟩
   have hm2:voteE xs (List.replicate xs.length true)=m:=hm
   have HMO:Hid (midO ls=if m.2=0 then .ok (hunS m.1)else .err m.2):=qh (by unfold midO;rw[hxs];show(if(dmV xs).2=0 then _ else _)=_;rw[hm])
   rw[hm2]at hmv
   rw[hm]at hbd
   have HBD:=qh hbd
   obtain⟨m1,m2⟩:=m
   clear hm hm2 hxs hxl VX VO hbd
   by_cases h0:m2=0
   ·subst h0
    have HE:Hid ((midO ls).end=.returned (.string ⟨(hunS m1).toArray⟩)):=qh (by rw[HMO.out];rfl)
    go_wp2_with fail
    refine hmv.out.mono ?_
    rintro e w1 ⟨rfl,hb1⟩
    have HB1:=qh hb1
    clear hb1
    go_wp2_with fail
    refine(must_ok _).mono ?_
    rintro e w2 ⟨rfl,rfl⟩
    go_wp2_with fail
    refine(hundredths_is m1 HBD.out _ (HPT.out.later HB1.out)).mono ?_
    rintro e w3 ⟨rfl,hb3⟩
    have hb:=HB.out.trans ((HB1.out.trans (hb3.mono HB1.out.size)).mono HB.out.size)
    go_wp2_with fail
    go_ret
    exact⟨HE.out.symm,hb⟩
   ·have HE:Hid ((midO ls).end=.panicked (wrongP m2)):=qh (by rw[HMO.out];show(if m2=0 then _ else _:Ans).end=_;rw[if_neg h0];rfl)
    go_wp2_with fail
    refine hmv.out.mono ?_
    rintro e w1 ⟨rfl,hb1⟩
    have HB1:=qh hb1
    clear hb1
    go_wp2_with fail
    refine(must_no m2 h0 _).mono ?_
    rintro e w2 ⟨rfl,rfl⟩
    exact⟨rfl,HE.out.symm,HB.out.trans (HB1.out.mono HB.out.size)⟩
def digB (k:Nat):UInt8:=UInt8.ofNat (48+k)
def digL (n:Nat):List UInt8:=if n<10 then[digB n]else digL (n/10)++[digB (n%10)]
termination_by n
decreasing_by omega
def digS (n:Nat):ByteArray:=⟨(digL n).toArray⟩
theorem digL_lt {n:Nat} (h:n<10):digL n=[digB n]:=by rw[digL,if_pos h]
theorem digL_ge {n:Nat} (h:¬n<10):digL n=digL (n/10)++[digB (n%10)]:=by rw[digL,if_neg h]
theorem digL_len:∀(k n:Nat),n<10^k→0<k→(digL n).length≤k:=by
 intro k
 induction k with
 |zero=>intro n _ h;omega
 |succ k ih=>
  intro n hn _
  by_cases h:n<10
  ·rw[digL_lt h];simp
  ·rw[digL_ge h,List.length_append]
   have hk:0<k:=by
    rcases Nat.eq_zero_or_pos k with h0|h0
    ·subst h0;simp at hn;omega
    ·exact h0
   have:=ih (n/10) (by rw[Nat.pow_succ]at hn;omega) hk
   simp;omega
theorem digS_size (k n:Nat) (h:n<10^k) (hk:0<k):(digS n).size≤k:=by
 unfold digS;exact digL_len k n h hk
theorem conv_one (k:Nat) (hk:k<10) (b:Nat) (w:World) (hc:w.cell? ⟨b,0,none⟩=some (.int .u8 (48+(k:Int)))):
  (convert 136 9 (.slice (some ⟨b,0,none⟩) 1 1)).run Tryz.prog w=.ok (.string ⟨#[digB k]⟩) w:=by
 rw[run_convert_bytes_arg (P:=Tryz.prog) w 136 5 Tryz.underlying136 Tryz.underlying5 b 0 1 1 [48+(k:Int)] rfl (fun i hi=>by
  obtain rfl:i=0:=by omega
  simpa using hc) 9 Tryz.underlying9]
 congr 2
theorem digits_is (n:Nat) (hn:n≤9223372036854775807):∀(w:World),
  Calls Tryz.prog 67 #[.int .i64 n] w fun e w'=>e=.returned (.string (digS n))∧Below w.heap.size w w':=by
 induction n using Nat.strongRecOn with
 |_ n ih=>
  intro w
  by_cases h:n<10
  ·have h1:(n:Int)<10:=by omega
   have h2:IntKind.u8.wrap (n:Int)=n:=IntWalk.u8_in _ (by omega)
   have h3:IntKind.u8.wrap (48+(n:Int))=48+n:=IntWalk.u8_in _ (by omega)
   have h4:=conv_one n h w.heap.size (w.alloc (.cells #[.int .u8 (48+(n:Int))] 5)) (by simp)
   go_enter Tryz.func67,Tryz.ntmps67
   go_wp2
   go_ret
   refine⟨?_,by repeat(first|with_reducible exact bLr|((with_reducible refine Below.setCell ?_ ?_ _);rotate_left;(·first|omega|(simp<;>omega)))|with_reducible refine below_drewN ?_ _|with_reducible refine Below.drew ?_|((with_reducible refine Below.alloc ?_ ?_ _);rotate_left;(·first|omega|(simp<;>omega)))|exact bLr|refine Below.setCell ?_ (by first|omega|(simp<;>omega)) _|refine below_drewN ?_ _|refine Below.drew ?_|refine Below.alloc ?_ (by first|omega|(simp<;>omega)) _)⟩
   unfold digS
   rw[digL_lt h]
   rfl
  ·have h1:¬(n:Int)<10:=by omega
   have hd:digS n=⟨(digL (n/10)++[digB (n%10)]).toArray⟩:=by unfold digS;rw[digL_ge h]
   obtain⟨m,hm⟩:∃m:Nat,n/10=m:=⟨_,rfl⟩
   obtain⟨r,hr⟩:∃r:Nat,n%10=r:=⟨_,rfl⟩
   have hq:(n:Int)/10=(m:Int):=by omega
   have hr':(n:Int)%10=(r:Int):=by omega
   rw[hm,hr]at hd
   have HD:=qh hd
   have hr10:r<10:=by omega
   have hq2:(n:Int).tdiv 10=(m:Int):=by rw[Int.tdiv_eq_ediv_of_nonneg (by omega)];exact hq
   have hr2:(n:Int).tmod 10=(r:Int):=by rw[Int.tmod_eq_emod_of_nonneg (by omega)];exact hr'
   have IH:=qh (ih m (by omega) (by omega))
   have h2:IntKind.i64.wrap (m:Int)=m:=IntWalk.i64_in _ (by omega)
   have h4:IntKind.u8.wrap (r:Int)=r:=IntWalk.u8_in _ (by omega)
   have h5:IntKind.u8.wrap (48+(r:Int))=48+r:=IntWalk.u8_in _ (by omega)
   have hcv:∀(b:Nat) (W:World),W.cell? ⟨b,0,none⟩=some (.int .u8 (48+(r:Int)))→(convert 136 9 (.slice (some ⟨b,0,none⟩) 1 1)).run Tryz.prog W=.ok (.string ⟨#[digB r]⟩) W:=fun b W h=>conv_one r hr10 b W h
   have hsz:(digS m).size≤19:=digS_size 19 m (by omega) (by omega)
   have hs1:¬(9223372036854775807<(digS m).size+1):=by omega
   have hs2:¬(9223372036854775806<(digS m).size):=by omega
   clear hd ih hm hr hr10 hn h hsz
   go_enter Tryz.func67,Tryz.ntmps67
   go_wp2_with fail
   go_region_with (go_at_call 67;refine(IH.out _).mono ?_;rintro e w1 ⟨rfl,hb1⟩;have z1:w.heap.size≤w1.heap.size:=(by have z2:=hb1.size;simp at z2;omega);have c1:_→w1.cell? ⟨w.heap.size,0,none⟩=some (.int .u8 (48+(r:Int))):=fun h=>cell_later hb1 h;(try simp at c1))
   all_goals
    go_wp2
    go_ret
    refine⟨?_,by repeat(first|with_reducible exact bLr|((with_reducible refine Below.setCell ?_ ?_ _);rotate_left;(·first|omega|(simp<;>omega)))|with_reducible refine below_drewN ?_ _|with_reducible refine Below.drew ?_|((with_reducible refine Below.trans ?_ (Below.mono hb1 ?_));rotate_left;(·first|omega|(simp<;>omega)))|((with_reducible refine Below.alloc ?_ ?_ _);rotate_left;(·first|omega|(simp<;>omega)))|exact bLr|refine Below.setCell ?_ (by first|omega|(simp<;>omega)) _|refine below_drewN ?_ _|refine Below.drew ?_|refine Below.trans ?_ (Below.mono hb1 (by first|omega|(simp<;>omega)))|refine Below.alloc ?_ (by first|omega|(simp<;>omega)) _)⟩
    have e2:digS n=digS m++⟨#[digB r]⟩:=by rw[HD.out];unfold digS;rw[ByteArray.mk_append_mk]
    rw[e2]
    rfl
abbrev TBuild:TypeId:=141
abbrev TByte:TypeId:=5
theorem own_later {w w':World} {base B:Nat} {e:TypeId} {size:Nat} {v:Value} {n:Nat} {xs:List Value} (h:w.ownsRow base e size v n xs) (hb:Below B w w') (hB:w.heap.size≤B):w'.ownsRow base e size v n xs:=by
 obtain⟨h0,h1|⟨g,cap,cur,e1,e2,e3,e4⟩⟩:=h
 ·exact⟨h0,.inl h1⟩
 ·refine⟨h0,.inr ⟨g,cap,cur,e1,e2,?_,e4⟩⟩
  rw[hb.block g (Nat.lt_of_lt_of_le (Array.getElem?_eq_some_iff.1 e3).1 hB)]
  exact e3
theorem bat_later {w w':World} {T e:TypeId} {B b:Nat} {p:Value} {bs:List Value} (h:Lib.BuilderAt T e B b p bs w) (hb:Below w.heap.size w w'):Lib.BuilderAt T e B b p bs w':=by
 have hl:=h.lt
 obtain⟨h1,v,h2,h3,h4⟩:=h
 exact⟨h1,v,(hb.block b hl).trans h2,own_later h3 hb (Nat.le_refl _),h4⟩
theorem isb_later {w w':World} {T e:TypeId} {B b:Nat} {bs:List Value} (h:Lib.IsBuilder T e B b bs w) (hb:Below w.heap.size w w'):Lib.IsBuilder T e B b bs w':=
 h.imp (fun h=>bat_later h hb) (fun h=>bat_later h hb)
theorem isb_mono {w:World} {T e:TypeId} {B B' b:Nat} {bs:List Value} (h:Lib.IsBuilder T e B b bs w) (hb:B'≤B):Lib.IsBuilder T e B' b bs w:=by
 have f:∀p,Lib.BuilderAt T e B b p bs w→Lib.BuilderAt T e B' b p bs w:=by
  rintro p ⟨h1,v,h2,h3,h4⟩
  exact⟨by omega,v,h2,⟨h3.1,h3.2.imp id fun⟨g,cap,cur,e1,e2,e3⟩=>⟨g,cap,cur,e1,by omega,e3⟩⟩,h4⟩
 exact h.imp (f _) (f _)
theorem infoB:(Tryz.prog.info? 5).map (fun i=>(i.zero,i.size,i.bytes))=some (some (.int .u8 0),1,1):=by kernel_rfl
theorem copyCheck_used (b:Nat) (w:World) (h0:w.cell? ⟨b,0,none⟩=some (.pointer (some ⟨b,0,none⟩))):
  Calls Tryz.prog 94 #[.pointer (some ⟨b,0,none⟩)] w fun e w'=>e=.returned (.tuple #[])∧w'=w:=by
 obtain⟨j,hj,-⟩:=Option.map_eq_some_iff.1 (show(Tryz.prog.info? 141).map (·.size)=some 2 by kernel_rfl)
 go_enter Tryz.func94,Tryz.ntmps94
 go_wp2
 rw[Lib.run_neq_ptr_same w _ Tryz.underlying139 hj]
 go_wp2
 go_end0
 exact⟨rfl,rfl⟩
theorem copyCheck_fresh (b:Nat) (w:World) (h0:w.cell? ⟨b,0,none⟩=some (.pointer none)) (hsh:w.shape? b=some (TBuild,2)) (hfz:w.frozen? ⟨b,0,none⟩=false):
  Calls Tryz.prog 94 #[.pointer (some ⟨b,0,none⟩)] w fun e w'=>e=.returned (.tuple #[])∧w'=w.setCell ⟨b,0,none⟩ (.pointer (some ⟨b,0,none⟩)):=by
 obtain⟨j,hj,hjs⟩:=Option.map_eq_some_iff.1 (show(Tryz.prog.info? 141).map (·.size)=some 2 by kernel_rfl)
 go_enter Tryz.func94,Tryz.ntmps94
 go_wp2
 rw[Lib.run_to_unsafe w ⟨b,0,none⟩ Tryz.underlying139 Tryz.underlying224 hj (by rw[hjs];decide) hsh (Nat.zero_lt_succ 1)]
 simp only[Result.andThen]
 rw[Oper.upon_value]
 go_wp2
 rw[run_callFunc_extern Tryz.func132 (by kernel_rfl) (by kernel_rfl) (by kernel_rfl) (e:=Extern.AbiNoEscape.same) (by kernel_rfl)]
 rw[Lib.run_noEscape]
 simp only[Result.andThen]
 rw[Oper.upon_value]
 go_wp2
 rw[Lib.run_from_unsafe w ⟨b,0,none⟩ Tryz.underlying224 Tryz.underlying139 hj hsh (by kernel_rfl)]
 simp only[Result.andThen]
 rw[Oper.upon_value]
 go_wp2
 go_end0
 exact⟨rfl,rfl⟩
theorem copyCheck_is (B b:Nat) (bs:List Value) (w:World) (h:Lib.IsBuilder TBuild TByte B b bs w):
  Calls Tryz.prog 94 #[.pointer (some ⟨b,0,none⟩)] w fun e w'=>e=.returned (.tuple #[])∧Lib.BuilderAt TBuild TByte B b (.pointer (some ⟨b,0,none⟩)) bs w'∧Below B w w'∧Lib.OthersKept TByte (some b) w w':=by
 rcases h with h|h
 ·refine(copyCheck_fresh b w h.cell0 h.shape h.frozen0).mono ?_
  rintro e w' ⟨rfl,rfl⟩
  exact⟨rfl,h.used _,(Below.refl B w).setCell (p:=⟨b,0,none⟩) h.1 _,(Lib.OthersKept.refl _ _ w).setCell ⟨b,0,none⟩ rfl _⟩
 ·refine(copyCheck_used b w h.cell0).mono ?_
  rintro e w' ⟨rfl,rfl⟩
  exact⟨rfl,h,Below.refl B _,Lib.OthersKept.refl _ _ _⟩
theorem write_is (B b:Nat) (bs:List Value) (s:ByteArray) (w:World) (h:Lib.IsBuilder TBuild TByte B b bs w) (hlen:bs.length+s.size≤140737488355328) (hBw:B≤w.heap.size):
  Calls Tryz.prog 66 #[.pointer (some ⟨b,0,none⟩),.string s] w fun e w'=>e=.returned (.tuple #[.int .i64 s.size,.nilIface])∧Lib.BuilderAt TBuild TByte B b (.pointer (some ⟨b,0,none⟩)) (bs++Lib.strCells s) w'∧Below B w w'∧Lib.OthersKept TByte (some b) w w':=by
 obtain⟨i0,hi,hz0,hz1,hz2⟩:=info_parts infoB
 go_enter Tryz.func66,Tryz.ntmps66
 go_wp2_with (go_at_call 94;refine(copyCheck_is B b bs _ h).mono ?_)
 rintro e w1 ⟨rfl,h1,hb1,hk1⟩
 obtain⟨hB,v,hbk,hown,hne⟩:=h1
 have c0:w1.cell? ⟨b,0,none⟩=some (.pointer (some ⟨b,0,none⟩)):=by rw[Lib.cell_of_heap hbk];rfl
 have c1:w1.cell? ⟨b,1,none⟩=some v:=by rw[Lib.cell_of_heap hbk];rfl
 go_wp2_with (at_builtin;refine Lib.wpList_append_own_string _ rfl _ _ 136 9 rfl B TByte i0 Tryz.underlying136 Tryz.underlying9 hi hz0 hz1 hz2 _ _ _ rfl hown s rfl ?c3 ?c4 ?c5 ?_)
 case c3=>unfold maxLen;omega
 case c4=>omega
 case c5=>have:=hb1.size;omega
 intro v' w2 hown' hgrow _
 have hlt:b<w1.heap.size:=by
  rcases Nat.lt_or_ge b w1.heap.size with h'|h'
  ·exact h'
  ·simp[Array.getElem?_eq_none h']at hbk
 have hb2:w2.heap[b]?=some (.cells #[.pointer (some ⟨b,0,none⟩),v] TBuild (0,0)):=by
  rw[hgrow.block b hlt (fun e=>hne e.symm)]
  exact hbk
 have d0:w2.cell? ⟨b,0,none⟩=some (.pointer (some ⟨b,0,none⟩)):=by rw[Lib.cell_of_heap hb2];rfl
 have d1:w2.cell? ⟨b,1,none⟩=some v:=by rw[Lib.cell_of_heap hb2];rfl
 have f1:w2.frozen? ⟨b,1,none⟩=false:=Lib.frozen_of_heap hb2 1
 obtain⟨ao,n',cap,rfl⟩:∃ao n' cap,v'=.slice ao n' cap:=by
  rcases hown'.2 with⟨hv,_⟩|⟨g,cap,cur,hv,_⟩
  ·exact⟨_,_,_,hv⟩
  ·exact⟨_,_,_,hv⟩
 go_wp2
 go_ret2
 refine⟨rfl,?_,?_,?_⟩
 ·exact Lib.BuilderAt.put (T:=TBuild) (e:=TByte) hB hb2 (bs':=bs++Lib.strCells s) (by simpa[Lib.strCells_length]using hown') (by decide)
 ·exact(hb1.grown hgrow (by have:=hb1.size;omega) (fun k hk=>(hown.lt k hk).1)).setCell (p:=⟨b,1,none⟩) hB _
 ·refine(hk1.grown hgrow (fun g hg=>?_)).setCell ⟨b,1,none⟩ rfl _
  rcases hown.2 with⟨rfl,_⟩|⟨g',cap',cur,rfl,_,hgg,_⟩
  ·simp[Value.ownBlock]at hg
  ·simp[Value.ownBlock]at hg
   subst hg
   exact⟨_,_,hgg⟩
def entS (x:EntR):List UInt8:=digL x.1.toNat++[58]++digL x.2.1.toNat++[58]++digL x.2.2.1.toNat++[120]++digL x.2.2.2.toNat++[10]
def textL (xs:List EntR):List UInt8:=xs.flatMap entS
structure TxS (W w:World) (p:Nat) (vs:List Value) (b:Nat) (bs:List Value):Prop where
 C:CellsAt W p vs
 E:W.heap[p]?=some (.cells vs.toArray 143 (0,0))
 I:Lib.IsBuilder TBuild TByte w.heap.size b bs W
 B:Below w.heap.size w W
theorem TxS.call {W W' w:World} {p:Nat} {vs:List Value} {b:Nat} {bs:List Value} (h:TxS W w p vs b bs) (hb:Below W.heap.size W W'):TxS W' w p vs b bs:=
 ⟨h.C.call hb,(hb.block p h.C.lt).trans h.E,isb_later h.I hb,h.B.trans (hb.mono h.B.size)⟩
theorem TxS.drew {W w:World} {p:Nat} {vs:List Value} {b:Nat} {bs:List Value} (h:TxS W w p vs b bs):TxS W.drew w p vs b bs:=⟨h.C,h.E,h.I,h.B.drew⟩
theorem byteCells_app (l m:List UInt8):Lib.byteCells (l++m)=Lib.byteCells l++Lib.byteCells m:=by simp[Lib.byteCells]
theorem textL_take {xs:List EntR} {k:Nat} {x:EntR} (h:xs[k]?=some x):textL (xs.take (k+1))=textL (xs.take k)++entS x:=by
 obtain⟨hl,rfl⟩:=List.getElem?_eq_some_iff.1 h
 unfold textL
 rw[List.take_succ_eq_append_getElem hl,List.flatMap_append,List.flatMap_cons,List.flatMap_nil,List.append_nil]
theorem entS_len {x:EntR} (h:entOk x):(entS x).length≤100:=by
 obtain⟨⟨a1,a2⟩,⟨b1,b2⟩,⟨c1,c2⟩,d1,d2⟩:=h
 have e1:=digL_len 19 x.1.toNat (by omega) (by omega)
 have e2:=digL_len 19 x.2.1.toNat (by omega) (by omega)
 have e3:=digL_len 19 x.2.2.1.toNat (by omega) (by omega)
 have e4:=digL_len 19 x.2.2.2.toNat (by omega) (by omega)
 simp only[entS,List.length_append,List.length_cons,List.length_nil]
 omega
theorem textL_len {xs:List EntR} (h:LogFr xs xs.length):∀k,k≤xs.length→(textL (xs.take k)).length≤100*k:=by
 intro k
 induction k with
 |zero=>intro _;simp[textL]
 |succ k ih=>
  intro hk
  have hx:xs[k]?=some xs[k]:=List.getElem?_eq_getElem (by omega)
  have hd:xs.getD k ent0=xs[k]:=by rw[List.getD_eq_getElem?_getD,hx];rfl
  have:=entS_len (hd▸(h k (by omega)).1)
  rw[textL_take hx,List.length_append]
  have:=ih (by omega)
  omega
theorem text_ok (xs:List EntR) (v:Value) (w:World) (hv:RecsAt 4 entLay w v xs) (hok:LogOk xs):
  Calls Tryz.prog 40 #[v] w fun e w'=>e=.returned (.tuple #[.string ⟨(textL xs).toArray⟩,.int .i64 0])∧Below w.heap.size w w':=by
 obtain⟨a,cap,rfl⟩:=hv.len
 have HV:=qh hv
 have HOK:=qh hok
 have hl32:xs.length≤32:=hok.1
 clear hv hok
 go_enter Tryz.func40,Tryz.ntmps40
 go_wp2_with fail
 refine(logCheck_is xs _ _ HV.out (by omega)).mono ?_
 rintro e w1 ⟨he,-,hb⟩
 obtain rfl:=he HOK.out
 clear he
 have z1:=hb.size
 have HB1:=qh hb
 clear hb
 have HI1:=qh (Lib.fresh_isBuilder TBuild TByte w1)
 go_wp2_with fail
 go_loopw [15] (fun i wr=>(∃k:Nat,k≤xs.length∧i=.int .i64 k∧Lib.IsBuilder TBuild TByte w.heap.size w1.heap.size (Lib.byteCells (textL (xs.take k))) wr)∧Below w.heap.size w wr) (fun i _=>xs.length-(intOf i).toNat)
 case atStart=>
  exact⟨⟨0,Nat.zero_le _,rfl,isb_mono HI1.out z1⟩,HB1.out.alloc z1 _⟩
 case round=>
  obtain⟨⟨k,hk,rfl,hI⟩,hB⟩:=hrel
  have zB:=hB.size
  by_cases hlt:k<xs.length
  ·obtain⟨x,hx⟩:∃x,xs[k]?=some x:=⟨_,List.getElem?_eq_getElem hlt⟩
   obtain⟨b0,off,cap',hv',hl1,hl2,hc⟩:=HV.out.at_ hx
   cases hv'
   have hxd:xs.getD k ent0=x:=by rw[List.getD_eq_getElem?_getD,hx];rfl
   have hxo:entOk x:=hxd▸(HOK.out.2 k hlt).1
   have hel:=entS_len hxo
   have htl:=textL_len HOK.out.2 k hk
   have hst:=textL_take hx
   have hof:entS x=digL x.1.toNat++[58]++digL x.2.1.toNat++[58]++digL x.2.2.1.toNat++[120]++digL x.2.2.2.toNat++[10]:=rfl
   obtain⟨f,l,c,m⟩:=x
   have c0:=cell_later hB (hc 0 (by omega))
   have c1:=cell_later hB (hc 1 (by omega))
   have c2:=cell_later hB (hc 2 (by omega))
   have c3:=cell_later hB (hc 3 (by omega))
   obtain⟨⟨p1,p2⟩,⟨p3,p4⟩,⟨p5,p6⟩,p7,p8⟩:=hxo
   simp only at p1 p2 p3 p4 p5 p6 p7 p8 hof
   obtain⟨nf,rfl⟩:∃n:Nat,f=n:=⟨f.toNat,by omega⟩
   obtain⟨nl,rfl⟩:∃n:Nat,l=n:=⟨l.toNat,by omega⟩
   obtain⟨nc,rfl⟩:∃n:Nat,c=n:=⟨c.toNat,by omega⟩
   obtain⟨nm,rfl⟩:∃n:Nat,m=n:=⟨m.toNat,by omega⟩
   change wr.cell? ⟨b0,off+k*4,none⟩=some (.int .i64 nf)at c0
   change wr.cell? ⟨b0,off+k*4+1,none⟩=some (.int .i64 nl)at c1
   change wr.cell? ⟨b0,off+k*4+2,none⟩=some (.int .i64 nc)at c2
   change wr.cell? ⟨b0,off+k*4+3,none⟩=some (.int .i64 nm)at c3
   simp only[Int.toNat_natCast]at hof
   obtain⟨es,hes⟩:∃es,entS ((nf:Int),(nl:Int),(nc:Int),(nm:Int))=es:=⟨_,rfl⟩
   rw[hes]at hof hel hst
   have g0:=digS_size 19 nf (by omega) (by omega)
   have g1:=digS_size 19 nl (by omega) (by omega)
   have g2:=digS_size 19 nc (by omega) (by omega)
   have g3:=digS_size 19 nm (by omega) (by omega)
   have D0:Hid (∀W:World,Calls Tryz.prog 67 #[.int .i64 nf] W fun e w'=>e=.returned (.string (digS nf))∧Below W.heap.size W w'):=fun W=>digits_is nf (by omega) W
   have D1:Hid (∀W:World,Calls Tryz.prog 67 #[.int .i64 nl] W fun e w'=>e=.returned (.string (digS nl))∧Below W.heap.size W w'):=fun W=>digits_is nl (by omega) W
   have D2:Hid (∀W:World,Calls Tryz.prog 67 #[.int .i64 nc] W fun e w'=>e=.returned (.string (digS nc))∧Below W.heap.size W w'):=fun W=>digits_is nc (by omega) W
   have D3:Hid (∀W:World,Calls Tryz.prog 67 #[.int .i64 nm] W fun e w'=>e=.returned (.string (digS nm))∧Below W.heap.size W w'):=fun W=>digits_is nm (by omega) W
   have hof7:digS nf++⟨#[58]⟩++digS nl++⟨#[58]⟩++digS nc++⟨#[120]⟩++digS nm++⟨#[10]⟩=(⟨es.toArray⟩:ByteArray):=by
    rw[hof];unfold digS;simp[ByteArray.mk_append_mk]
   generalize digS nf=s0 at *
   generalize digS nl=s1 at *
   generalize digS nc=s2 at *
   generalize digS nm=s3 at *
   obtain⟨a1,ha1⟩:∃z,s0++⟨#[58]⟩=z:=⟨_,rfl⟩
   have qa1:a1.size=s0.size+1:=by rw[←ha1];rw[ByteArray.size_append];first|done|rfl
   rw[ha1]at hof7
   obtain⟨a2,ha2⟩:∃z,a1++s1=z:=⟨_,rfl⟩
   have qa2:a2.size=a1.size+s1.size:=by rw[←ha2];rw[ByteArray.size_append];first|done|rfl
   rw[ha2]at hof7
   obtain⟨a3,ha3⟩:∃z,a2++⟨#[58]⟩=z:=⟨_,rfl⟩
   have qa3:a3.size=a2.size+1:=by rw[←ha3];rw[ByteArray.size_append];first|done|rfl
   rw[ha3]at hof7
   obtain⟨a4,ha4⟩:∃z,a3++s2=z:=⟨_,rfl⟩
   have qa4:a4.size=a3.size+s2.size:=by rw[←ha4];rw[ByteArray.size_append];first|done|rfl
   rw[ha4]at hof7
   obtain⟨a5,ha5⟩:∃z,a4++⟨#[120]⟩=z:=⟨_,rfl⟩
   have qa5:a5.size=a4.size+1:=by rw[←ha5];rw[ByteArray.size_append];first|done|rfl
   rw[ha5]at hof7
   obtain⟨a6,ha6⟩:∃z,a5++s3=z:=⟨_,rfl⟩
   have qa6:a6.size=a5.size+s3.size:=by rw[←ha6];rw[ByteArray.size_append];first|done|rfl
   rw[ha6]at hof7
   obtain⟨a7,ha7⟩:∃z,a6++⟨#[10]⟩=z:=⟨_,rfl⟩
   have qa7:a7.size=a6.size+1:=by rw[←ha7];rw[ByteArray.size_append];first|done|rfl
   rw[ha7]at hof7
   have wa1:¬(9223372036854775807<s0.size+1):=by omega
   have va1:¬(9223372036854775806<s0.size):=by omega
   have wa2:¬(9223372036854775807<a1.size+s1.size):=by omega
   have wa3:¬(9223372036854775807<a2.size+1):=by omega
   have va3:¬(9223372036854775806<a2.size):=by omega
   have wa4:¬(9223372036854775807<a3.size+s2.size):=by omega
   have wa5:¬(9223372036854775807<a4.size+1):=by omega
   have va5:¬(9223372036854775806<a4.size):=by omega
   have wa6:¬(9223372036854775807<a5.size+s3.size):=by omega
   have wa7:¬(9223372036854775807<a6.size+1):=by omega
   have va7:¬(9223372036854775806<a6.size):=by omega
   have HI:=qh hI;have HB:=qh hB;have HST:=qh hst;have H7:=qh hof7
   have es7:a7.size=es.length:=by rw[hof7];simp[ByteArray.size]
   have zbW:w1.heap.size<wr.heap.size:=by rcases hI with h|h<;>exact h.lt
   have e5:(k:Int)<(xs.length:Int):=by omega
   have e6:k+1≤cap:=by omega
   obtain⟨bs,hbs⟩:∃bs,Lib.byteCells (textL (xs.take k))=bs:=⟨_,rfl⟩
   have hbl:bs.length≤100*k:=by rw[←hbs,Lib.byteCells_length];exact htl
   have hbl2:bs.length+a7.size≤140737488355328:=by omega
   clear hc hx hxd hI hB hof hst hof7 hes hel htl qa1 qa2 qa3 qa4 qa5 qa6 qa7 g0 g1 g2 g3 hbl p1 p2 p3 p4 p5 p6 p7 p8 es7
   go_upto_region 8 with(fail)
   have HZ:Hid (TxS (wr.alloc (.cells #[.int .i64 nf,.int .i64 nl,.int .i64 nc,.int .i64 nm] 143)) w wr.heap.size [.int .i64 nf,.int .i64 nl,.int .i64 nc,.int .i64 nm] w1.heap.size bs):=⟨CellsAt.new wr _ _ _ rfl,heap_alloc_new wr _,isb_later (hbs▸HI.out) ((bLr).alloc (Nat.le_refl _) _),HB.out.alloc zB _⟩
   clear c0 c1 c2 c3
   have tok0:=True.intro
   have y0:=HZ.out.C.at_ 0 rfl;have y1:=HZ.out.C.at_ 1 rfl;have y2:=HZ.out.C.at_ 2 rfl;have y3:=HZ.out.C.at_ 3 rfl
   go_region_held3 (fun w'=>w'.cell? ⟨wr.heap.size,0,none⟩=some (.int .i64 nf)∧w'.cell? ⟨wr.heap.size,1,none⟩=some (.int .i64 nl)∧w'.cell? ⟨wr.heap.size,2,none⟩=some (.int .i64 nc)∧w'.cell? ⟨wr.heap.size,3,none⟩=some (.int .i64 nm)) (first|exact⟨x0,x1,x2,x3⟩|exact⟨y0,y1,y2,y3⟩|go_keep) (first|(have tk:=tok0;clear tk tok0;have tok1:=True.intro;go_at_call 67;refine(D0.out _).mono ?_;rintro eA wA ⟨rfl,hbA⟩;have ZZ:TxS wA w wr.heap.size [.int .i64 nf,.int .i64 nl,.int .i64 nc,.int .i64 nm] w1.heap.size bs:=(by first|exact ZZ.call hbA|exact HZ.out.drew.call hbA|exact HZ.out.call hbA);have x0:=ZZ.C.at_ 0 rfl;have x1:=ZZ.C.at_ 1 rfl;have x2:=ZZ.C.at_ 2 rfl;have x3:=ZZ.C.at_ 3 rfl;have xz:=ZZ.C.lt)|(have tk:=tok1;clear tk tok1;have tok2:=True.intro;go_at_call 67;refine(D1.out _).mono ?_;rintro eA wA ⟨rfl,hbA⟩;have ZZ:TxS wA w wr.heap.size [.int .i64 nf,.int .i64 nl,.int .i64 nc,.int .i64 nm] w1.heap.size bs:=(by first|exact ZZ.call hbA|exact HZ.out.drew.call hbA|exact HZ.out.call hbA);have x0:=ZZ.C.at_ 0 rfl;have x1:=ZZ.C.at_ 1 rfl;have x2:=ZZ.C.at_ 2 rfl;have x3:=ZZ.C.at_ 3 rfl;have xz:=ZZ.C.lt)|(have tk:=tok2;clear tk tok2;have tok3:=True.intro;go_at_call 67;refine(D2.out _).mono ?_;rintro eA wA ⟨rfl,hbA⟩;have ZZ:TxS wA w wr.heap.size [.int .i64 nf,.int .i64 nl,.int .i64 nc,.int .i64 nm] w1.heap.size bs:=(by first|exact ZZ.call hbA|exact HZ.out.drew.call hbA|exact HZ.out.call hbA);have x0:=ZZ.C.at_ 0 rfl;have x1:=ZZ.C.at_ 1 rfl;have x2:=ZZ.C.at_ 2 rfl;have x3:=ZZ.C.at_ 3 rfl;have xz:=ZZ.C.lt)|(have tk:=tok3;clear tk tok3;have tok4:=True.intro;go_at_call 67;refine(D3.out _).mono ?_;rintro eA wA ⟨rfl,hbA⟩;have ZZ:TxS wA w wr.heap.size [.int .i64 nf,.int .i64 nl,.int .i64 nc,.int .i64 nm] w1.heap.size bs:=(by first|exact ZZ.call hbA|exact HZ.out.drew.call hbA|exact HZ.out.call hbA);have x0:=ZZ.C.at_ 0 rfl;have x1:=ZZ.C.at_ 1 rfl;have x2:=ZZ.C.at_ 2 rfl;have x3:=ZZ.C.at_ 3 rfl;have xz:=ZZ.C.lt)|(go_at_call 66;refine(write_is w.heap.size w1.heap.size bs a7 _ (by exact ZZ.I) hbl2 (by exact ZZ.B.size)).mono ?_;rintro eW wW ⟨rfl,hIW,hbW,hkW⟩;have EW:=hkW _ _ ZZ.E (by intro h;injection h with h;omega) (by intro c fz h;injection h with _ h;revert h;decide);have x0:wW.cell? ⟨wr.heap.size,0,none⟩=some (.int .i64 nf):=(by rw[Lib.cell_of_heap EW];rfl);have x1:wW.cell? ⟨wr.heap.size,1,none⟩=some (.int .i64 nl):=(by rw[Lib.cell_of_heap EW];rfl);have x2:wW.cell? ⟨wr.heap.size,2,none⟩=some (.int .i64 nc):=(by rw[Lib.cell_of_heap EW];rfl);have x3:wW.cell? ⟨wr.heap.size,3,none⟩=some (.int .i64 nm):=(by rw[Lib.cell_of_heap EW];rfl)))
   all_goals
    have hIx:Lib.IsBuilder TBuild TByte w.heap.size w1.heap.size (bs++Lib.strCells a7) wW:=.inr hIW
    have hBx:=ZZ.B.trans hbW
    have hst7:Lib.byteCells (textL (xs.take (k+1)))=bs++Lib.strCells a7:=by
     rw[HST.out,byteCells_app,hbs,H7.out]
     rfl
    have HI7:Hid (Lib.IsBuilder TBuild TByte w.heap.size w1.heap.size (Lib.byteCells (textL (xs.take (k+1)))) wW):=hst7▸hIx
    have HB7:=qh hBx
    clear hst7 hIx hBx HI HB HST H7 HZ ZZ hIW hbW x0 x1 x2 x3 xz
    go_wp2
    go_roundw
    case rel=>exact⟨⟨k+1,by omega,by go_num,HI7.out⟩,HB7.out⟩
    case measure=>simp[intOf];omega
  ·obtain rfl:k=xs.length:=by omega
   have HI:=qh hI;have HB:=qh hB
   have e9:xs.take xs.length=xs:=List.take_length
   clear hI hB
   go_wp2_with fail
   refine(Tryz.Builder_String_any w.heap.size w1.heap.size (textL xs) _ (by have:=HI.out;rw[e9]at this;exact this) (by exact zB)).mono ?_
   rintro e w9 ⟨rfl,hb9⟩
   go_wp2
   go_ret2
   exact⟨rfl,HB.out.trans hb9⟩
end Go.Proofs.YtpkiepjmcepnoaaGreatDoor
