/- A part of a proof. -/
import Derived.WalkLawsBesides
import Derived.Deep.DeepCutAuto
import Derived.Lib.Hide
import Derived.BigQuiet
import Derived.Deep.QuietTactic
import Derived.LoopN
import Derived.RegionTactic
import Derived.ChangeAlike
import Derived.Test.YtpkiepjmcepnoaaGreatDoorPtA
set_option maxHeartbeats 16000000
set_option maxRecDepth 100000
namespace Go.Proofs.YtpkiepjmcepnoaaGreatDoor
open Go.ChangeShapes Go.WideShapes Go.ChangeAt Go.RowKit
set_option linter.unusedVariables false
theorem clamp_any (a b c:Int) (w:World):
  Calls Tryz.prog 117 #[.int .i32 a,.int .i32 b,.int .i32 c] w fun e w'=>e=.returned (.int .i32 (clampI a b c))∧w=w':=by
 go_enter Tryz.func117,Tryz.ntmps117
 go_wp2
 all_goals
  go_ret
  refine⟨ret_int ?_,rfl⟩
  unfold clampI
  omega
theorem to32_any (n:Int) (w:World):
  Calls Tryz.prog 55 #[.int .i64 n] w fun e w'=>e=.returned (.int .i32 (sat32 n))∧w=w':=by
 go_enter Tryz.func55,Tryz.ntmps55
 go_wp2
 all_goals
  go_ret
  refine⟨ret_int ?_,rfl⟩
  unfold sat32
  omega
theorem add_any (a b:Int) (ha: -2147483648≤a∧a≤2147483647) (hb: -2147483648≤b∧b≤2147483647) (w:World):
  Calls Tryz.prog 149 #[.int .i32 a,.int .i32 b] w fun e w'=>e=.returned (.int .i32 (sat32 (a+b)))∧w=w':=by
 go_enter Tryz.func149,Tryz.ntmps149
 go_wp2_with (go_at_call 55;refine(to32_any _ _).mono ?_;rintro e w' ⟨rfl,rfl⟩)
 go_ret
 exact⟨ret_int rfl,rfl⟩
theorem sub_any (a b:Int) (ha: -2147483648≤a∧a≤2147483647) (hb: -2147483648≤b∧b≤2147483647) (w:World):
  Calls Tryz.prog 54 #[.int .i32 a,.int .i32 b] w fun e w'=>e=.returned (.int .i32 (sat32 (a-b)))∧w=w':=by
 go_enter Tryz.func54,Tryz.ntmps54
 go_wp2_with (go_at_call 55;refine(to32_any _ _).mono ?_;rintro e w' ⟨rfl,rfl⟩)
 go_ret
 exact⟨ret_int rfl,rfl⟩
theorem neg_any (a:Int) (ha: -2147483648≤a∧a≤2147483647) (w:World):
  Calls Tryz.prog 148 #[.int .i32 a] w fun e w'=>e=.returned (.int .i32 (sat32 (-a)))∧w=w':=by
 go_enter Tryz.func148,Tryz.ntmps148
 go_wp2_with (go_at_call 55;refine(to32_any _ _).mono ?_;rintro e w' ⟨rfl,rfl⟩)
 go_ret
 exact⟨ret_int rfl,rfl⟩
theorem abs_any (a:Int) (ha: -2147483648≤a∧a≤2147483647) (w:World):
  Calls Tryz.prog 151 #[.int .i32 a] w fun e w'=>e=.returned (.int .i32 (sat32 (absI a)))∧w=w':=by
 go_enter Tryz.func151,Tryz.ntmps151
 go_wp2_with (go_at_call 148;refine(neg_any _ (by omega) _).mono ?_;rintro e w' ⟨rfl,rfl⟩)
 all_goals
  go_ret
  refine⟨ret_int ?_,rfl⟩
  unfold absI sat32
  omega
def shiftI (a n:Int):Int:=if n<0 then a/2^(min (-n) 31).toNat else sat32 (a*2^(min n 31).toNat)
theorem two_pow_31 (k:Int) (hk:0≤k∧k≤31):1≤(2:Int)^k.toNat∧(2:Int)^k.toNat≤2147483648:=by
 have h1:2^k.toNat≤2^31:=Nat.pow_le_pow_right (by omega) (by omega)
 have h2:0<2^k.toNat:=Nat.pow_pos (by omega)
 have h3:((2^k.toNat:Nat):Int)=(2:Int)^k.toNat:=by simp
 omega
theorem shiftI_bd (a n:Int) (ha: -2147483648≤a∧a≤2147483647): -2147483648≤shiftI a n∧shiftI a n≤2147483647:=by
 unfold shiftI
 split
 ·have hp:=two_pow_31 (min (-n) 31) (by omega)
  constructor
  ·have:=Int.ediv_le_ediv (a:=-2147483648) (b:=a) (c:=2^(min (-n) 31).toNat) (by omega) ha.1
   have h2: -2147483648≤ -2147483648/(2:Int)^(min (-n) 31).toNat:=(Int.le_ediv_iff_mul_le (by omega)).2 (by omega)
   omega
  ·have h2:a/(2:Int)^(min (-n) 31).toNat≤2147483647:=by
    by_cases h:0≤a
    ·exact Int.le_trans (Int.ediv_le_self _ h) ha.2
    ·have:=Int.ediv_neg_of_neg_of_pos (a:=a) (b:=2^(min (-n) 31).toNat) (by omega) (by omega);omega
   exact h2
 ·exact sat32_bd _
theorem shift_up (a n:Int) (ha: -2147483648≤a∧a≤2147483647) (hn:0≤n∧n≤31) (w:World):
  Calls Tryz.prog 150 #[.int .i32 a,.int .i64 n] w fun e w'=>e=.returned (.int .i32 (sat32 (a*2^n.toNat)))∧w=w':=by
 have hp:=two_pow_31 n hn
 have hm: -4611686018427387904≤a*2^n.toNat∧a*2^n.toNat≤4611686018427387904:=by
  have h1:(a*2^n.toNat).natAbs≤2147483648*2147483648:=by
   rw[Int.natAbs_mul];exact Nat.mul_le_mul (by omega) (by omega)
  omega
 go_enter Tryz.func150,Tryz.ntmps150
 go_wp2_with (go_at_call 55;refine(to32_any _ _).mono ?_;rintro e w' ⟨rfl,rfl⟩)
 all_goals
  go_ret
  exact⟨ret_int rfl,rfl⟩
theorem shift_over (a n:Int) (ha: -2147483648≤a∧a≤2147483647) (hn:31<n) (w:World):
  Calls Tryz.prog 150 #[.int .i32 a,.int .i64 n] w fun e w'=>e=.returned (.int .i32 (sat32 (a*2147483648)))∧w=w':=by
 go_enter Tryz.func150,Tryz.ntmps150
 go_wp2_with (go_at_call 55;refine(to32_any _ _).mono ?_;rintro e w' ⟨rfl,rfl⟩)
 all_goals
  go_ret
  exact⟨ret_int rfl,rfl⟩
theorem shift_down (a n:Int) (ha: -2147483648≤a∧a≤2147483647) (hn:n<0∧ -31≤n) (w:World):
  Calls Tryz.prog 150 #[.int .i32 a,.int .i64 n] w fun e w'=>e=.returned (.int .i32 (a/2^(-n).toNat))∧w=w':=by
 go_enter Tryz.func150,Tryz.ntmps150
 go_wp2
 all_goals
  go_ret
  exact⟨ret_int rfl,rfl⟩
theorem shift_under (a n:Int) (ha: -2147483648≤a∧a≤2147483647) (hn:n< -31) (w:World):
  Calls Tryz.prog 150 #[.int .i32 a,.int .i64 n] w fun e w'=>e=.returned (.int .i32 (a/2147483648))∧w=w':=by
 go_enter Tryz.func150,Tryz.ntmps150
 go_wp2
 all_goals
  go_ret
  exact⟨ret_int rfl,rfl⟩
theorem shift_any (a n:Int) (ha: -2147483648≤a∧a≤2147483647) (w:World):
  Calls Tryz.prog 150 #[.int .i32 a,.int .i64 n] w fun e w'=>e=.returned (.int .i32 (shiftI a n))∧w=w':=by
 unfold shiftI
 rcases(by omega:n< -31∨(n<0∧ -31≤n)∨(0≤n∧n≤31)∨31<n)with h|h|h|h
 ·rw[if_pos (by omega),show min (-n) 31=31 from by omega];exact shift_under a n ha h w
 ·rw[if_pos (by omega),show min (-n) 31= -n from by omega];exact shift_down a n ha h w
 ·rw[if_neg (by omega),show min n 31=n from by omega];exact shift_up a n ha h w
 ·rw[if_neg (by omega),show min n 31=31 from by omega];exact shift_over a n ha h w
theorem near_any (n:Int) (h: -9223372036854775808≤n∧n≤9223372036854000000) (w:World):
  Calls Tryz.prog 75 #[.int .i64 n,.int .i64 16] w fun e w'=>e=.returned (.int .i64 (nearI n))∧w=w':=by
 go_enter Tryz.func75,Tryz.ntmps75
 go_wp2
 go_ret
 exact⟨ret_int rfl,rfl⟩
theorem mul_any (a b:Int) (ha: -2147483648≤a∧a≤2147483647) (hb: -2147483648≤b∧b≤2147483647) (w:World):
  Calls Tryz.prog 56 #[.int .i32 a,.int .i32 b] w fun e w'=>e=.returned (.int .i32 (mulI a b))∧w=w':=by
 have hm:=mul_bd a b ha hb
 go_enter Tryz.func56,Tryz.ntmps56
 go_wp2_with (first|(go_at_call 75;refine(near_any _ (by omega) _).mono ?_;rintro e w' ⟨rfl,rfl⟩)|(go_at_call 55;refine(to32_any _ _).mono ?_;rintro e w' ⟨rfl,rfl⟩))
 go_ret
 exact⟨ret_int rfl,rfl⟩
theorem div_any (a b:Int) (ha: -2147483648≤a∧a≤2147483647) (hb: -2147483648≤b∧b≤2147483647) (w:World):
  Calls Tryz.prog 53 #[.int .i32 a,.int .i32 b] w fun e w'=>e=.returned (.int .i32 (divI a b))∧w=w':=by
 by_cases h:b=0
 ·subst h
  have e:divI a 0=if 0<a then 2147483647 else if a<0 then-2147483648 else 0:=by unfold divI;simp
  rw[e]
  go_enter Tryz.func53,Tryz.ntmps53
  go_wp2
  all_goals
   go_ret
   refine⟨ret_int ?_,rfl⟩
   omega
 ·have e:divI a b=sat32 ((a*65536).tdiv b):=by unfold divI;rw[if_pos h]
  rw[e]
  have hq:=tdiv_bd (a*65536) b
  have h2:absI (a*65536)≤140737488355328:=by unfold absI;omega
  have h3:(b==0)=false:=by simpa using h
  have h4:(b != 0)=true:=by simpa using h
  go_enter Tryz.func53,Tryz.ntmps53
  go_wp2_with (go_at_call 55;refine(to32_any _ _).mono ?_;rintro e w' ⟨rfl,rfl⟩)
  all_goals
   go_ret
   exact⟨ret_int rfl,rfl⟩
theorem toward_any (y x k:Int) (hy: -2147483648≤y∧y≤2147483647) (hx: -2147483648≤x∧x≤2147483647) (hk:0≤k∧k≤30) (w:World):
  Calls Tryz.prog 170 #[.int .i32 y,.int .i32 x,.int .i64 k] w fun e w'=>e=.returned (.int .i32 (towardI y x (2^k.toNat)))∧w=w':=by
 have hp:=two_pow_bd k hk
 generalize hP:(2:Int)^k.toNat=p at hp⊢
 by_cases h:y≤x
 ·have hd:=tdiv_pos_bd (x-y) p hp.1 (by omega)
  go_enter Tryz.func170,Tryz.ntmps170
  go_wp2
  all_goals
   go_ret
   refine⟨ret_int ?_,rfl⟩
   unfold towardI
   split<;>(try split)<;>(try split)<;>first|omega|simp_all
 ·have hd:=tdiv_neg_bd (x-y) p hp.1 (by omega)
  go_enter Tryz.func170,Tryz.ntmps170
  go_wp2
  all_goals
   go_ret
   refine⟨ret_int ?_,rfl⟩
   unfold towardI
   split<;>(try split)<;>(try split)<;>first|omega|simp_all
theorem low_yes (y x k:Int) (hy: -2147483648≤y∧y≤2147483647) (hx: -2147483648≤x∧x≤2147483647) (hk:0≤k∧k≤30) (w:World):
  Calls Tryz.prog 153 #[.int .i32 y,.int .i32 x,.int .i64 k] w fun e w'=>e=.returned (.tuple #[.int .i32 (towardI y x (2^k.toNat)),.int .i64 0])∧w=w':=by
 go_enter Tryz.func153,Tryz.ntmps153
 go_wp2_with (go_at_call 170;refine(toward_any _ _ _ (by omega) (by omega) (by omega) _).mono ?_;rintro e w' ⟨rfl,rfl⟩)
 go_ret2
 exact⟨rfl,rfl⟩
theorem low_no (y x k:Int) (hk:k<0∨30<k) (w:World):
  Calls Tryz.prog 153 #[.int .i32 y,.int .i32 x,.int .i64 k] w fun e w'=>e=.returned (.tuple #[.int .i32 0,.int .i64 1])∧w=w':=by
 go_enter Tryz.func153,Tryz.ntmps153
 go_wp2
 all_goals
  go_ret2
  exact⟨rfl,rfl⟩
def lowI (y x k:Int):Int:=if 0≤k∧k≤30 then towardI y x (2^k.toNat)else 0
def lowE (k:Int):Int:=if 0≤k∧k≤30 then 0 else 1
theorem lowI_yes (y x k:Int) (h:0≤k∧k≤30):lowI y x k=towardI y x (2^k.toNat):=if_pos h
theorem lowI_no (y x k:Int) (h:¬(0≤k∧k≤30)):lowI y x k=0:=if_neg h
theorem lowE_yes (k:Int) (h:0≤k∧k≤30):lowE k=0:=if_pos h
theorem lowE_no (k:Int) (h:¬(0≤k∧k≤30)):lowE k=1:=if_neg h
theorem low_any (y x k:Int) (hy: -2147483648≤y∧y≤2147483647) (hx: -2147483648≤x∧x≤2147483647) (w:World):
  Calls Tryz.prog 153 #[.int .i32 y,.int .i32 x,.int .i64 k] w fun e w'=>e=.returned (.tuple #[.int .i32 (lowI y x k),.int .i64 (lowE k)])∧w=w':=by
 by_cases h:0≤k∧k≤30
 ·rw[lowI_yes y x k h,lowE_yes k h];exact low_yes y x k hy hx h w
 ·rw[lowI_no y x k h,lowE_no k h];exact low_no y x k (by omega) w
def tripB (on:Bool) (x high low:Int):Bool:=if on then decide (min high low≤x)else decide (max high low<x)
theorem trip_any (on:Bool) (x high low:Int) (w:World):
  Calls Tryz.prog 57 #[.bool on,.int .i32 x,.int .i32 high,.int .i32 low] w fun e w'=>e=.returned (.bool (tripB on x high low))∧w=w':=by
 cases on
 all_goals
  go_enter Tryz.func57,Tryz.ntmps57
  go_wp2
  all_goals
   go_ret
   refine⟨ret_bool ?_,rfl⟩
   simp only[tripB,if_true,Bool.false_eq_true,if_false]
   exact decide_eq_decide.2 (by omega)
def rateI (y x m:Int):Int:=clampI x (sat32 (y-sat32 (absI m))) (sat32 (y+sat32 (absI m)))
theorem rate_any (y x m:Int) (hy: -2147483648≤y∧y≤2147483647) (hx: -2147483648≤x∧x≤2147483647) (hm: -2147483648≤m∧m≤2147483647) (w:World):
  Calls Tryz.prog 118 #[.int .i32 y,.int .i32 x,.int .i32 m] w fun e w'=>e=.returned (.int .i32 (rateI y x m))∧w=w':=by
 have hb:=sat32_bd (absI m)
 go_enter Tryz.func118,Tryz.ntmps118
 go_wp2_with (first|(go_at_call 151;refine(abs_any _ (by omega) _).mono ?_;rintro e w' ⟨rfl,rfl⟩)|(go_at_call 54;refine(sub_any _ _ (by omega) (by omega) _).mono ?_;rintro e w' ⟨rfl,rfl⟩)|(go_at_call 149;refine(add_any _ _ (by omega) (by omega) _).mono ?_;rintro e w' ⟨rfl,rfl⟩)|(go_at_call 117;refine(clamp_any _ _ _ _).mono ?_;rintro e w' ⟨rfl,rfl⟩))
 go_ret
 exact⟨ret_int rfl,rfl⟩
def CountOk (up down most n:Int):Prop:=1≤up∧up≤1000∧0≤down∧down≤1000∧1≤most∧most≤1000∧0≤n∧n≤most
theorem countCheck_yes (up down most n:Int) (set:Bool) (w:World) (h:CountOk up down most n):
  Calls Tryz.prog 52 #[.agg #[.int .i64 up,.int .i64 down,.int .i64 most],.agg #[.int .i64 n,.bool set]] w fun e w'=>e=.returned (.int .i64 0)∧Below w.heap.size w w':=by
 obtain⟨d0,d1,d2,d3,d4,d5,d6,d7⟩:decide (up<1)=false∧decide (1000<up)=false∧decide (down<0)=false∧decide (1000<down)=false∧decide (most<1)=false∧decide (1000<most)=false∧decide (n<0)=false∧decide (most<n)=false:=by
  obtain⟨g0,g1,g2,g3,g4,g5,g6,g7⟩:=h
  exact⟨decide_eq_false (by omega),decide_eq_false (by omega),decide_eq_false (by omega),decide_eq_false (by omega),decide_eq_false (by omega),decide_eq_false (by omega),decide_eq_false (by omega),decide_eq_false (by omega)⟩
 go_enter Tryz.func52,Tryz.ntmps52
 go_wp2
 go_ret
 exact⟨rfl,(((bLr).alloc (Nat.le_refl _) _).alloc (by simp) _)⟩
theorem countCheck_no (up down most n:Int) (set:Bool) (w:World) (h:¬CountOk up down most n):
  Calls Tryz.prog 52 #[.agg #[.int .i64 up,.int .i64 down,.int .i64 most],.agg #[.int .i64 n,.bool set]] w fun e w'=>e=.returned (.int .i64 1)∧Below w.heap.size w w':=by
 have h':(decide (up<1)=true)∨(decide (up<1)=false∧decide (1000<up)=true)∨(decide (up<1)=false∧decide (1000<up)=false∧decide (down<0)=true)∨(decide (up<1)=false∧decide (1000<up)=false∧decide (down<0)=false∧decide (1000<down)=true)∨(decide (up<1)=false∧decide (1000<up)=false∧decide (down<0)=false∧decide (1000<down)=false∧decide (most<1)=true)∨(decide (up<1)=false∧decide (1000<up)=false∧decide (down<0)=false∧decide (1000<down)=false∧decide (most<1)=false∧decide (1000<most)=true)∨(decide (up<1)=false∧decide (1000<up)=false∧decide (down<0)=false∧decide (1000<down)=false∧decide (most<1)=false∧decide (1000<most)=false∧decide (n<0)=true)∨(decide (up<1)=false∧decide (1000<up)=false∧decide (down<0)=false∧decide (1000<down)=false∧decide (most<1)=false∧decide (1000<most)=false∧decide (n<0)=false∧decide (most<n)=true):=by simp only[decide_eq_false_iff_not,decide_eq_true_eq];unfold CountOk at h;omega
 clear h
 rcases h' with g0|⟨g0,g1⟩|⟨g0,g1,g2⟩|⟨g0,g1,g2,g3⟩|⟨g0,g1,g2,g3,g4⟩|⟨g0,g1,g2,g3,g4,g5⟩|⟨g0,g1,g2,g3,g4,g5,g6⟩|⟨g0,g1,g2,g3,g4,g5,g6,g7⟩
 all_goals
  go_enter Tryz.func52,Tryz.ntmps52
  go_wp2
  go_ret
  exact⟨rfl,(((bLr).alloc (Nat.le_refl _) _).alloc (by simp) _)⟩
def cntN (up down most n:Int) (bad:Bool):Int:=if bad then min most (n+up)else max 0 (n-down)
def cntS (up down most n:Int) (set bad:Bool):Bool:=set||(cntN up down most n bad==most)
theorem countStep_yes (up down most n n':Int) (set set' bad:Bool) (w:World) (h:CountOk up down most n) (hn:cntN up down most n bad=n') (hs:cntS up down most n set bad=set'):
  Calls Tryz.prog 169 #[.agg #[.int .i64 up,.int .i64 down,.int .i64 most],.agg #[.int .i64 n,.bool set],.bool bad] w fun e w'=>e=.returned (.tuple #[.agg #[.int .i64 n',.bool set'],.int .i64 0])∧Below w.heap.size w w':=by
 have H:=qh h
 obtain⟨b0,b1,b2,b3,b4,b5,b6,b7⟩:=h
 have hs2:(set||(n'==most))=set':=by rw[←hs,←hn];rfl
 have HS:=qh hs2
 clear hs hs2
 have hn2:(bad=true∧most<n+up∧n'=most)∨(bad=true∧n+up≤most∧n'=n+up)∨(bad=false∧0<n-down∧n'=n-down)∨(bad=false∧n-down≤0∧n'=0):=by
  rw[←hn];unfold cntN;cases bad<;>simp<;>omega
 clear hn
 rcases hn2 with⟨rfl,g,rfl⟩|⟨rfl,g,rfl⟩|⟨rfl,g,rfl⟩|⟨rfl,g,rfl⟩
 all_goals
  cases set
  all_goals
   go_enter Tryz.func169,Tryz.ntmps169
   go_wp2_with fail
   refine(countCheck_yes _ _ _ _ _ _ H.out).mono ?_
   rintro e w1 ⟨rfl,hb⟩
   have hz:=hb.size
   obtain⟨hc,hf⟩:=Open.bcell hb
   simp at hz
   go_wp2
   all_goals
    refine bodyPost_ret (v:=.tuple #[.agg #[.int .i64 _,.bool set'],.int .i64 0]) (by rw[←HS.out];simp[results,Tryz.results169,go_sem,hc];try omega) rfl ⟨rfl,?_⟩
    repeat(first|exact bLr|refine Below.setCell ?_ (by simp;try omega) _|refine Below.trans ?_ (Below.mono hb (by simp;try omega))|refine Below.alloc ?_ (by simp;try omega) _)
def ModeOk (m:Int) (p g:Bool):Prop:=m=1∨(m=2∧p=true)∨(m=3∧g=true)
theorem modeCheck_yes (m:Int) (p g:Bool) (w:World) (h:ModeOk m p g):
  Calls Tryz.prog 142 #[.agg #[.int .i64 m,.bool p,.bool g]] w fun e w'=>e=.returned (.int .i64 0)∧w.alloc (.cells #[.int .i64 m,.bool p,.bool g] 67)=w':=by
 rcases h with rfl|⟨rfl,rfl⟩|⟨rfl,rfl⟩
 ·cases p<;>cases g
  all_goals
   go_enter Tryz.func142,Tryz.ntmps142
   go_wp2
   go_ret
   exact⟨rfl,rfl⟩
 ·cases g
  all_goals
   go_enter Tryz.func142,Tryz.ntmps142
   go_wp2
   go_ret
   exact⟨rfl,rfl⟩
 ·cases p
  all_goals
   go_enter Tryz.func142,Tryz.ntmps142
   go_wp2
   go_ret
   exact⟨rfl,rfl⟩
def askI (m:Int) (p g:Bool) (want:Int):(Int×Bool×Bool)×Int:=
 if want<1∨3<want then((0,false,false),1)else if want=m then((m,p,g),0)
 else if(want=2∧(m≠1∨p=false))∨(want≠2∧g=false)then((0,false,false),8)else((want,if want=3 then false else p,g),0)
theorem ask_any (m:Int) (p g:Bool) (want m' e:Int) (p' g':Bool) (w:World) (h:ModeOk m p g) (hw:want=0∨want=1∨want=2∨want=3) (hr:askI m p g want=((m',p',g'),e)):
  Calls Tryz.prog 107 #[.agg #[.int .i64 m,.bool p,.bool g],.int .i64 want] w fun e' w'=>e'=.returned (.tuple #[.agg #[.int .i64 m',.bool p',.bool g'],.int .i64 e])∧Below w.heap.size w w':=by
 have H:=qh h
 rcases(by unfold ModeOk at h;omega:m=1∨m=2∨m=3)with rfl|rfl|rfl<;>rcases hw with rfl|rfl|rfl|rfl<;>cases p<;>cases g<;>simp[ModeOk]at h<;>simp[askI]at hr
 all_goals
  obtain⟨⟨rfl,rfl,rfl⟩,rfl⟩:=hr
  go_enter Tryz.func107,Tryz.ntmps107
  go_wp2_with fail
  refine(modeCheck_yes _ _ _ _ H.out).mono ?_
  rintro e1 w1 ⟨rfl,rfl⟩
  go_wp2
  refine bodyPost_ret (v:=.tuple #[.agg #[_,_,_],_]) (by simp[results,Tryz.results107,go_sem]) rfl ⟨rfl,?_⟩
  repeat(first|(with_reducible first|exact bLr)|((with_reducible first|refine bLs ?_ ?_ _|refine bLa ?_ ?_ _);·first|omega|(simp<;>omega))|with_reducible first|refine bLn ?_ _|refine bLd ?_)
def groundI (m:Int) (on:Bool):Int:=if m=3∧on=false then 1 else m
theorem ground_any (m:Int) (p g on:Bool) (m':Int) (w:World) (h:ModeOk m p g) (hr:groundI m on=m'):
  Calls Tryz.prog 106 #[.agg #[.int .i64 m,.bool p,.bool g],.bool on] w fun e' w'=>e'=.returned (.tuple #[.agg #[.int .i64 m',.bool p,.bool on],.int .i64 0])∧Below w.heap.size w w':=by
 have H:=qh h
 rcases(by unfold ModeOk at h;omega:m=1∨m=2∨m=3)with rfl|rfl|rfl<;>cases on<;>simp[groundI]at hr
 all_goals
  subst hr
  clear h
  go_enter Tryz.func106,Tryz.ntmps106
  go_wp2_with fail
  refine(modeCheck_yes _ _ _ _ H.out).mono ?_
  rintro e1 w1 ⟨rfl,rfl⟩
  go_wp2
  refine bodyPost_ret (v:=.tuple #[.agg #[_,_,_],_]) (by simp[results,Tryz.results106,go_sem]) rfl ⟨rfl,?_⟩
  repeat(first|(with_reducible first|exact bLr)|((with_reducible first|refine bLs ?_ ?_ _|refine bLa ?_ ?_ _);·first|omega|(simp<;>omega))|with_reducible first|refine bLn ?_ _|refine bLd ?_)
def testedI (m:Int) (p g pass:Bool):(Int×Bool×Bool)×Int:=if m≠1∨g=false then((0,false,false),8)else((m,pass,g),0)
theorem tested_any (m:Int) (p g pass:Bool) (m' e:Int) (p' g':Bool) (w:World) (h:ModeOk m p g) (hr:testedI m p g pass=((m',p',g'),e)):
  Calls Tryz.prog 109 #[.agg #[.int .i64 m,.bool p,.bool g],.bool pass] w fun e' w'=>e'=.returned (.tuple #[.agg #[.int .i64 m',.bool p',.bool g'],.int .i64 e])∧Below w.heap.size w w':=by
 have H:=qh h
 rcases(by unfold ModeOk at h;omega:m=1∨m=2∨m=3)with rfl|rfl|rfl<;>cases g<;>simp[testedI]at hr
 all_goals
  obtain⟨⟨rfl,rfl,rfl⟩,rfl⟩:=hr
  clear h
  go_enter Tryz.func109,Tryz.ntmps109
  go_wp2_with fail
  refine(modeCheck_yes _ _ _ _ H.out).mono ?_
  rintro e1 w1 ⟨rfl,rfl⟩
  go_wp2
  refine bodyPost_ret (v:=.tuple #[.agg #[_,_,_],_]) (by simp[results,Tryz.results109,go_sem]) rfl ⟨rfl,?_⟩
  repeat(first|(with_reducible first|exact bLr)|((with_reducible first|refine bLs ?_ ?_ _|refine bLa ?_ ?_ _);·first|omega|(simp<;>omega))|with_reducible first|refine bLn ?_ _|refine bLd ?_)
def senseBad (sum wide full:Int):Prop:=sum<1∨wide<0∨full<0
def senseOff (a b sum wide:Int):Prop:=wide<a+b-sum∨wide< -(a+b-sum)∨a+b<1
def senseP (a b sum wide full:Int):Int:=mulI (divI (sat32 (a-b)) (sat32 (a+b))) full
theorem sense_bad (a b sum wide full:Int) (w:World) (h:senseBad sum wide full):
  Calls Tryz.prog 29 #[.int .i32 a,.int .i32 b,.agg #[.int .i32 sum,.int .i32 wide,.int .i32 full]] w fun e w'=>e=.returned (.tuple #[.int .i32 0,.bool false,.int .i64 1])∧Below w.heap.size w w':=by
 have h':decide (sum<1)=true∨(decide (sum<1)=false∧decide (wide<0)=true)∨(decide (sum<1)=false∧decide (wide<0)=false∧decide (full<0)=true):=by
  simp only[decide_eq_false_iff_not,decide_eq_true_eq];unfold senseBad at h;omega
 clear h
 rcases h' with h|⟨h,h'⟩|⟨h,h',h''⟩
 all_goals
  go_enter Tryz.func29,Tryz.ntmps29
  go_wp2
  go_ret3
  exact⟨rfl,(bLr).alloc (Nat.le_refl _) _⟩
theorem sense_off (a b sum wide full:Int) (w:World) (ha: -2147483648≤a∧a≤2147483647) (hb: -2147483648≤b∧b≤2147483647) (hs: -2147483648≤sum∧sum≤2147483647) (hw: -2147483648≤wide∧wide≤2147483647)
  (h:¬senseBad sum wide full) (g:senseOff a b sum wide):
  Calls Tryz.prog 29 #[.int .i32 a,.int .i32 b,.agg #[.int .i32 sum,.int .i32 wide,.int .i32 full]] w fun e w'=>e=.returned (.tuple #[.int .i32 0,.bool false,.int .i64 0])∧Below w.heap.size w w':=by
 obtain⟨h1,h2,h3⟩:decide (sum<1)=false∧decide (wide<0)=false∧decide (full<0)=false:=by
  simp only[decide_eq_false_iff_not];unfold senseBad at h;omega
 have g':decide (wide<a+b-sum)=true∨(decide (wide<a+b-sum)=false∧decide (wide< -(a+b-sum))=true)∨(decide (wide<a+b-sum)=false∧decide (wide< -(a+b-sum))=false∧decide (a+b<1)=true):=by
  simp only[decide_eq_false_iff_not,decide_eq_true_eq];unfold senseOff at g;omega
 clear h g
 rcases g' with g|⟨g,g'⟩|⟨g,g',g''⟩
 all_goals
  go_enter Tryz.func29,Tryz.ntmps29
  go_wp2
  go_ret3
  exact⟨rfl,(bLr).alloc (Nat.le_refl _) _⟩
theorem sense_tells (a b sum wide full:Int) (w:World) (ha: -2147483648≤a∧a≤2147483647) (hb: -2147483648≤b∧b≤2147483647) (hs: -2147483648≤sum∧sum≤2147483647) (hw: -2147483648≤wide∧wide≤2147483647)
  (hf: -2147483648≤full∧full≤2147483647) (h:¬senseBad sum wide full) (g:¬senseOff a b sum wide):
  Calls Tryz.prog 29 #[.int .i32 a,.int .i32 b,.agg #[.int .i32 sum,.int .i32 wide,.int .i32 full]] w fun e w'=>e=.returned (.tuple #[.int .i32 (senseP a b sum wide full),.bool true,.int .i64 0])∧Below w.heap.size w w':=by
 obtain⟨h1,h2,h3⟩:decide (sum<1)=false∧decide (wide<0)=false∧decide (full<0)=false:=by
  simp only[decide_eq_false_iff_not];unfold senseBad at h;omega
 obtain⟨g1,g2,g3⟩:decide (wide<a+b-sum)=false∧decide (wide< -(a+b-sum))=false∧decide (a+b<1)=false:=by
  simp only[decide_eq_false_iff_not];unfold senseOff at g;omega
 have b1:=sat32_bd (a-b);have b2:=sat32_bd (a+b);have b3:=divI_bd (sat32 (a-b)) (sat32 (a+b))
 clear h g
 go_enter Tryz.func29,Tryz.ntmps29
 go_wp2_with (first|(go_at_call 54;refine(sub_any _ _ (by omega) (by omega) _).mono ?_;rintro e w' ⟨rfl,rfl⟩)|(go_at_call 55;refine(to32_any _ _).mono ?_;rintro e w' ⟨rfl,rfl⟩)|(go_at_call 53;refine(div_any _ _ (by omega) (by omega) _).mono ?_;rintro e w' ⟨rfl,rfl⟩)|(go_at_call 56;refine(mul_any _ _ (by omega) (by omega) _).mono ?_;rintro e w' ⟨rfl,rfl⟩))
 go_ret3
 exact⟨rfl,(bLr).alloc (Nat.le_refl _) _⟩
def sensE (sum wide full:Int):Int:=if sum<1∨wide<0∨full<0 then 1 else 0
def sensOk (a b sum wide full:Int):Bool:=if sum<1∨wide<0∨full<0 then false else if wide<a+b-sum∨wide< -(a+b-sum)∨a+b<1 then false else true
def sensP (a b sum wide full:Int):Int:=if sensOk a b sum wide full then senseP a b sum wide full else 0
theorem sensP_bd (a b sum wide full:Int): -2147483648≤sensP a b sum wide full∧sensP a b sum wide full≤2147483647:=by
 unfold sensP;split
 ·exact mulI_bd _ _
 ·omega
theorem sense_any (a b sum wide full:Int) (w:World) (ha: -2147483648≤a∧a≤2147483647) (hb: -2147483648≤b∧b≤2147483647) (hs: -2147483648≤sum∧sum≤2147483647) (hw: -2147483648≤wide∧wide≤2147483647)
  (hf: -2147483648≤full∧full≤2147483647):
  Calls Tryz.prog 29 #[.int .i32 a,.int .i32 b,.agg #[.int .i32 sum,.int .i32 wide,.int .i32 full]] w fun e w'=>e=.returned (.tuple #[.int .i32 (sensP a b sum wide full),.bool (sensOk a b sum wide full),.int .i64 (sensE sum wide full)])∧Below w.heap.size w w':=by
 by_cases h:senseBad sum wide full
 ·have e1:sensOk a b sum wide full=false:=if_pos h
  have e2:sensE sum wide full=1:=if_pos h
  have e3:sensP a b sum wide full=0:=by unfold sensP;rw[e1];rfl
  rw[e1,e2,e3];exact sense_bad a b sum wide full w h
 ·have e2:sensE sum wide full=0:=if_neg h
  by_cases g:senseOff a b sum wide
  ·have e1:sensOk a b sum wide full=false:=(if_neg h).trans (if_pos g)
   have e3:sensP a b sum wide full=0:=by unfold sensP;rw[e1];rfl
   rw[e1,e2,e3];exact sense_off a b sum wide full w ha hb hs hw h g
  ·have e1:sensOk a b sum wide full=true:=(if_neg h).trans (if_neg g)
   have e3:sensP a b sum wide full=senseP a b sum wide full:=by unfold sensP;rw[e1];rfl
   rw[e1,e2,e3];exact sense_tells a b sum wide full w ha hb hs hw hf h g
def srcI (a b:Bool) (lane:Int):Int×Int:=
 if lane=0 then(if a then(0,0)else(0,7))
 else if lane=1 then(if a then(0,0)else if b then(1,0)else(0,7))
 else if lane=2 then(if b then(1,0)else(0,7))
 else(if b then(1,0)else if a then(0,0)else(0,7))
theorem source_in (a b:Bool) (lane k e:Int) (w:World) (hl:lane=0∨lane=1∨lane=2∨lane=3) (h:srcI a b lane=(k,e)):
  Calls Tryz.prog 144 #[.agg #[.bool a,.bool b],.int .i64 lane] w fun e' w'=>e'=.returned (.tuple #[.int .i64 k,.int .i64 e])∧w.alloc (.cells #[.bool a,.bool b] 73)=w':=by
 rcases hl with rfl|rfl|rfl|rfl<;>cases a<;>cases b
 all_goals
  simp only[srcI]at h
  simp at h
  obtain⟨rfl,rfl⟩:=h
  go_enter Tryz.func144,Tryz.ntmps144
  go_wp2
  go_ret2
  exact⟨rfl,rfl⟩
theorem supply_00 (p q:Int) (w:World):
  Calls Tryz.prog 110 #[.agg #[.bool false,.bool false],.agg #[.int .i32 p,.int .i32 q]] w fun e' w'=>e'=.returned (.tuple #[.agg #[.int .i32 0,.int .i32 0,.int .i32 0,.int .i32 0],.agg #[.bool false,.bool false,.bool false,.bool false]])∧Below w.heap.size w w':=by
 go_enter Tryz.func110,Tryz.ntmps110
 go_wp2
 refine wp_loop_rounds 5 ?_
 iterate 4
  rw[rounds_succ]
  go_wp2_with (go_at_call 144;refine(source_in _ _ _ _ _ _ (by omega) (by rfl)).mono ?_;rintro e w' ⟨rfl,rfl⟩)
 rw[rounds_succ]
 go_wp2
 go_region
 all_goals
  go_wp2
  refine bodyPost_ret (v:=.tuple #[.agg #[.int .i32 0,.int .i32 0,.int .i32 0,.int .i32 0],.agg #[.bool false,.bool false,.bool false,.bool false]]) (by simp[results,Tryz.results110,go_sem]) rfl ⟨rfl,?_⟩
  repeat(first|(with_reducible first|exact bLr)|((with_reducible first|refine bLs ?_ ?_ _|refine bLa ?_ ?_ _);·first|omega|(simp<;>omega))|with_reducible first|refine bLn ?_ _|refine bLd ?_)
theorem supply_10 (p q:Int) (w:World):
  Calls Tryz.prog 110 #[.agg #[.bool true,.bool false],.agg #[.int .i32 p,.int .i32 q]] w fun e' w'=>e'=.returned (.tuple #[.agg #[.int .i32 p,.int .i32 p,.int .i32 0,.int .i32 p],.agg #[.bool true,.bool true,.bool false,.bool true]])∧Below w.heap.size w w':=by
 go_enter Tryz.func110,Tryz.ntmps110
 go_wp2
 refine wp_loop_rounds 5 ?_
 iterate 4
  rw[rounds_succ]
  go_wp2_with (go_at_call 144;refine(source_in _ _ _ _ _ _ (by omega) (by rfl)).mono ?_;rintro e w' ⟨rfl,rfl⟩)
 rw[rounds_succ]
 go_wp2
 go_region
 all_goals
  go_wp2
  refine bodyPost_ret (v:=.tuple #[.agg #[.int .i32 p,.int .i32 p,.int .i32 0,.int .i32 p],.agg #[.bool true,.bool true,.bool false,.bool true]]) (by simp[results,Tryz.results110,go_sem]) rfl ⟨rfl,?_⟩
  repeat(first|(with_reducible first|exact bLr)|((with_reducible first|refine bLs ?_ ?_ _|refine bLa ?_ ?_ _);·first|omega|(simp<;>omega))|with_reducible first|refine bLn ?_ _|refine bLd ?_)
theorem supply_01 (p q:Int) (w:World):
  Calls Tryz.prog 110 #[.agg #[.bool false,.bool true],.agg #[.int .i32 p,.int .i32 q]] w fun e' w'=>e'=.returned (.tuple #[.agg #[.int .i32 0,.int .i32 q,.int .i32 q,.int .i32 q],.agg #[.bool false,.bool true,.bool true,.bool true]])∧Below w.heap.size w w':=by
 go_enter Tryz.func110,Tryz.ntmps110
 go_wp2
 refine wp_loop_rounds 5 ?_
 iterate 4
  rw[rounds_succ]
  go_wp2_with (go_at_call 144;refine(source_in _ _ _ _ _ _ (by omega) (by rfl)).mono ?_;rintro e w' ⟨rfl,rfl⟩)
 rw[rounds_succ]
 go_wp2
 go_region
 all_goals
  go_wp2
  refine bodyPost_ret (v:=.tuple #[.agg #[.int .i32 0,.int .i32 q,.int .i32 q,.int .i32 q],.agg #[.bool false,.bool true,.bool true,.bool true]]) (by simp[results,Tryz.results110,go_sem]) rfl ⟨rfl,?_⟩
  repeat(first|(with_reducible first|exact bLr)|((with_reducible first|refine bLs ?_ ?_ _|refine bLa ?_ ?_ _);·first|omega|(simp<;>omega))|with_reducible first|refine bLn ?_ _|refine bLd ?_)
theorem supply_11 (p q:Int) (w:World):
  Calls Tryz.prog 110 #[.agg #[.bool true,.bool true],.agg #[.int .i32 p,.int .i32 q]] w fun e' w'=>e'=.returned (.tuple #[.agg #[.int .i32 p,.int .i32 p,.int .i32 q,.int .i32 q],.agg #[.bool true,.bool true,.bool true,.bool true]])∧Below w.heap.size w w':=by
 go_enter Tryz.func110,Tryz.ntmps110
 go_wp2
 refine wp_loop_rounds 5 ?_
 iterate 4
  rw[rounds_succ]
  go_wp2_with (go_at_call 144;refine(source_in _ _ _ _ _ _ (by omega) (by rfl)).mono ?_;rintro e w' ⟨rfl,rfl⟩)
 rw[rounds_succ]
 go_wp2
 go_region
 all_goals
  go_wp2
  refine bodyPost_ret (v:=.tuple #[.agg #[.int .i32 p,.int .i32 p,.int .i32 q,.int .i32 q],.agg #[.bool true,.bool true,.bool true,.bool true]]) (by simp[results,Tryz.results110,go_sem]) rfl ⟨rfl,?_⟩
  repeat(first|(with_reducible first|exact bLr)|((with_reducible first|refine bLs ?_ ?_ _|refine bLa ?_ ?_ _);·first|omega|(simp<;>omega))|with_reducible first|refine bLn ?_ _|refine bLd ?_)
end Go.Proofs.YtpkiepjmcepnoaaGreatDoor
