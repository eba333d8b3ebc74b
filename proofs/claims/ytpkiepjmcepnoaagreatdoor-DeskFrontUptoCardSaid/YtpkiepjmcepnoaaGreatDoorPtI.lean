/- A part of a proof. -/
import Derived.OwnWalk
import Derived.Test.YtpkiepjmcepnoaaGreatDoorPtA
import Derived.Test.YtpkiepjmcepnoaaGreatDoorPtG
import Derived.Test.YtpkiepjmcepnoaaGreatDoorPtH
set_option maxHeartbeats 16000000
set_option maxRecDepth 100000
namespace Go.Proofs.YtpkiepjmcepnoaaGreatDoor
open Go.ChangeShapes Go.WideShapes Go.ChangeAt Go.RowKit
set_option linter.unusedVariables false
def hearK (xs:List Int) (oks:List Bool):Nat→List Int
 |0=>[]
 |k+1=>if oks.getD k false then hearK xs oks k++[xs.getD k 0]else hearK xs oks k
theorem hear_len (xs:List Int) (oks:List Bool) (k:Nat):(hearK xs oks k).length≤k:=by
 induction k with
 |zero=>simp[hearK]
 |succ k ih=>
  simp only[hearK]
  split
  ·simp;omega
  ·omega
theorem infoH:(Tryz.prog.info? 21).map (fun i=>(i.zero,i.size,i.bytes))=some (some (.int .i32 0),1,4):=by kernel_rfl
def HearRel (w0:World) (xs:List Int) (oks:List Bool) (v x:Value) (w:World):Prop:=∃k:Nat,k≤xs.length∧x=.int .i64 k∧w.ownsRow w0.heap.size 21 1 v (hearK xs oks k).length ((hearK xs oks k).map (.int .i32))∧Below w0.heap.size w0 w
def HearPost (w0:World) (xs:List Int) (oks:List Bool) (e:Ending) (w:World):Prop:=∃v,e=.returned (.tuple #[v,.int .i64 0])∧w.ownsRow w0.heap.size 21 1 v (hearK xs oks xs.length).length ((hearK xs oks xs.length).map (.int .i32))∧Below w0.heap.size w0 w
theorem heard_is (xs:List Int) (oks:List Bool) (v u:Value) (w:World) (hv:IntsAt .i32 w v xs) (hu:BoolsAt w u oks) (hl:xs.length≤64) (he:xs.length=oks.length):
  Calls Tryz.prog 95 #[v,u] w (HearPost w xs oks):=by
 obtain⟨i0,hi0,hz0,hz1,hz2⟩:=info_parts infoH
 have HV:=qh hv;have HU:=qh hu
 obtain⟨av,cv,rfl⟩:=HV.out.len
 obtain⟨au,cu,rfl⟩:=HU.out.len
 have hne:((xs.length:Int) != (oks.length:Int))=false:=by simp;omega
 have HE:=qh he
 clear hv hu he
 go_enter Tryz.func95,Tryz.ntmps95
 go_wp2
 go_loopw [6,19] (fun o x wr=>HearRel w xs oks o x wr) (fun _ x _=>xs.length-(intOf x).toNat)
 case atStart=>exact⟨0,by omega,rfl,World.ownsRow_nil _ _ _ _,bLr⟩
 case round=>
  obtain⟨k,hk,rfl,hown,hB⟩:=hrel
  have HO:=qh hown;have HB:=qh hB
  clear hB
  have hhl:=hear_len xs oks k
  by_cases hlt:k<xs.length
  ·rcases HV.out with⟨h0,-⟩|⟨-,b,off,cp,hae,hl1,hm1,hc⟩
   ·rw[h0]at hlt;simp at hlt
   rcases HU.out with⟨h0,-⟩|⟨-,b2,off2,cp2,hae2,hl2,hm2,hc2⟩
   ·have:=HE.out;rw[h0,List.length_nil]at this;omega
   simp only[Value.slice.injEq,true_and]at hae hae2
   obtain⟨rfl,rfl⟩:=hae
   obtain⟨rfl,rfl⟩:=hae2
   have hlt2:k<oks.length:=by have:=HE.out;omega
   have x1:=cell_later HB.out (hc k hlt)
   have x2:=cell_later HB.out (hc2 k hlt2)
   obtain⟨x,hxe⟩:∃x,xs.getD k 0=x:=⟨_,rfl⟩
   obtain⟨y,hye⟩:∃y,oks.getD k false=y:=⟨_,rfl⟩
   rw[hxe]at x1
   rw[hye]at x2
   have hst:hearK xs oks (k+1)=if y then hearK xs oks k++[x]else hearK xs oks k:=by rw[hearK,hxe,hye]
   have HST:=qh hst
   have d1:(k:Int)<(xs.length:Int):=by omega
   have d2:(k:Int)<(oks.length:Int):=by omega
   have hsz:=HB.out.size
   clear hc hc2 hxe hye hst
   cases y
   ·clear hown
    go_wp2
    go_round
    case rel=>exact⟨k+1,by omega,by go_num,by rw[HST.out];exact HO.out,HB.out⟩
    case measure=>simp[intOf];omega
   ·have hsz1:w.heap.size≤(wr.alloc (.cells #[.int .i32 x] 21)).heap.size:=by simp;omega
    go_wp2_with (at_builtin;refine wpList_append_own _ rfl _ _ 68 rfl w.heap.size 21 i0 (.int .i32 0) 1 4 Tryz.underlying68 hi0 hz0 hz1 hz2 rfl (by decide) _ _ _ rfl (hown.alloc _) ⟨wr.heap.size,0,none⟩ 1 1 [.int .i32 x] rfl rfl (by intro j u h;cases j<;>simp at h;subst h;first|(simp[Addr.add];done)|(simp[Addr.add];go_simp)) (by simp[Value.oneCell']) (by unfold maxLen;omega) (by omega) hsz1 ?_;intro v' w1 hown' hgrow _)
    have BG:Below w.heap.size wr w1:=((bLr).alloc hsz _).grown hgrow hsz1 (fun j e=>(HO.out.lt j e).1)
    go_roundw
    case rel=>exact⟨k+1,by omega,by go_num,by rw[HST.out];simpa using hown',HB.out.trans BG⟩
    case measure=>simp[intOf];omega
  ·obtain rfl:k=xs.length:=by omega
   clear hown
   go_wp2
   go_ret2
   exact⟨_,rfl,HO.out,HB.out⟩
theorem own_cells {w:World} {B:Nat} {E:TypeId} {g cap n:Nat} {xs:List Int} (h:w.ownsRow B E 1 (.slice (some ⟨g,0,none⟩) n cap) n (S32.vals xs)) (hn:n=xs.length):CellsAt w g (S32.vals xs):=
 ⟨fun j v hj=>by
  rw[h.cellAt j (by have:=(List.getElem?_eq_some_iff.1 hj).1;simp at this;omega)];exact hj,fun o=>h.frozenAt o,(h.lt g rfl).2⟩
def sort32 (xs:List Int):List Int:=xs.mergeSort fun x y=>decide (x≤y)
theorem sort32_perm (xs:List Int):(sort32 xs).Perm xs:=List.mergeSort_perm _ _
theorem sort32_sorted (xs:List Int):(sort32 xs).Pairwise (· ≤ ·):=by
 have:=List.pairwise_mergeSort (le:=fun x y:Int=>decide (x≤y)) (by intro a b c;simp;omega) (by intro a b;simp;omega) xs
 exact this.imp (by intro a b h;simpa using h)
theorem sorted_is {xs M:List Int} (hp:M.Perm xs) (hs:S32.SortedOn M 0 xs.length):M=sort32 xs:=by
 have hM:M.Pairwise (· ≤ ·):=by
  rw[List.pairwise_iff_getElem]
  intro i j hi hj hij
  have:=hs i j (Nat.zero_le _) hij (by rw[←hp.length_eq];exact hj)
  simpa[List.getD_eq_getElem?_getD,List.getElem?_eq_getElem hi,List.getElem?_eq_getElem hj]using this
 exact List.Perm.eq_of_pairwise (by intro a b _ _ h1 h2;omega) hM (sort32_sorted xs) (hp.trans (sort32_perm xs).symm)
def midI (xs:List Int):Int:=(sort32 xs).getD ((xs.length-1)/2) 0
theorem sort32_len (xs:List Int):(sort32 xs).length=xs.length:=(sort32_perm xs).length_eq
theorem midI_at {xs:List Int} (h:0<xs.length):∃hh:(xs.length-1)/2<(sort32 xs).length,midI xs=(sort32 xs)[(xs.length-1)/2]:=by
 have hh:(xs.length-1)/2<(sort32 xs).length:=by rw[sort32_len];omega
 exact⟨hh,by unfold midI;rw[List.getD_eq_getElem?_getD,List.getElem?_eq_getElem hh];rfl⟩
theorem midI_mem {xs:List Int} (h:0<xs.length):midI xs∈xs:=by
 obtain⟨hh,e⟩:=midI_at h
 rw[e]
 exact(sort32_perm xs).mem_iff.1 (List.getElem_mem hh)
def midE (xs:List Int):Int×Int:=if xs.length=0 then(0,7)else if 64<xs.length then(0,2)else(midI xs,0)
theorem midE_in {xs:List Int} (h:0<xs.length) (h2:xs.length≤64):midE xs=(midI xs,0):=by unfold midE;rw[if_neg (by omega),if_neg (by omega)]
theorem middle_is (xs:List Int) (v:Value) (w:World) (hv:IntsAt .i32 w v xs):
  Calls Tryz.prog 96 #[v] w fun e w'=>e=.returned (.tuple #[.int .i32 (midE xs).1,.int .i64 (midE xs).2])∧Below w.heap.size w w':=by
 have HV:=qh hv
 obtain⟨av,cv,rfl⟩:=HV.out.len
 clear hv
 by_cases h0:xs.length=0
 ·have he:midE xs=(0,7):=by unfold midE;rw[if_pos h0]
  rw[he]
  have q1:((xs.length:Int)==0)=true:=by rw[h0];rfl
  clear he HV
  go_enter Tryz.func96,Tryz.ntmps96
  go_wp2
  go_ret2
  exact⟨rfl,by first|exact bLr|repeat(first|(with_reducible first|exact bLr)|((with_reducible first|refine bLs ?_ ?_ _|refine bLa ?_ ?_ _);·first|omega|(simp<;>omega))|with_reducible first|refine bLn ?_ _|refine bLd ?_)⟩
 ·by_cases h64:64<xs.length
  ·have he:midE xs=(0,2):=by unfold midE;rw[if_neg h0,if_pos h64]
   rw[he]
   have q1:((xs.length:Int)==0)=false:=by rw[beq_eq_false_iff_ne];omega
   have q2:(64:Int)<(xs.length:Int):=by omega
   clear he HV
   go_enter Tryz.func96,Tryz.ntmps96
   go_wp2
   go_ret2
   exact⟨rfl,by first|exact bLr|repeat(first|(with_reducible first|exact bLr)|((with_reducible first|refine bLs ?_ ?_ _|refine bLa ?_ ?_ _);·first|omega|(simp<;>omega))|with_reducible first|refine bLn ?_ _|refine bLd ?_)⟩
  ·rw[midE_in (by omega) (by omega)]
   have q1:((xs.length:Int)==0)=false:=by rw[beq_eq_false_iff_ne];omega
   have q2:¬(64:Int)<(xs.length:Int):=by omega
   go_enter Tryz.func96,Tryz.ntmps96
   go_wp2_with fail
   refine(clone_i32 xs _ _ HV.out (by omega)).mono ?_
   rintro e1 w1 ⟨v1,rfl,hown,hb⟩
   rcases own_form hown with⟨-,hn⟩|⟨g,cap,rfl,hg,hg2,hcap,hcm⟩
   ·omega
   have HB:=qh hb
   have hc:=own_cells hown rfl
   have HC:=qh hc
   clear hown hb hc
   go_wp2_with fail
   refine(S32.sort_is g cap xs _ (by omega) HC.out).mono ?_
   rintro e2 w2 ⟨rfl,M,hR,hS,hO⟩
   have hM:=sorted_is (hS.perm (Nat.le_refl _)) hO
   have hml:M.length=xs.length:=hS.len
   have hcx:=S32.val_cell hR.c ((xs.length-1)/2) (by omega)
   have HG:=qh (HB.out.grown hR.g HB.out.size (fun j e=>by cases e;exact hg))
   rw[hM]at hcx
   change w2.cell? ⟨g,(xs.length-1)/2,none⟩=some (.int .i32 (midI xs))at hcx
   have e1:IntKind.i64.wrap ((xs.length:Int)-1)=(xs.length:Int)-1:=IntWalk.i64_in _ (by omega)
   have e2:(0:Int)≤(xs.length:Int)-1:=by omega
   have e3:(((xs.length:Int)-1)/2).toNat=(xs.length-1)/2:=by omega
   have e4:((xs.length:Int)-1)/2<(xs.length:Int):=by omega
   have e5:(0:Int)≤((xs.length:Int)-1)/2:=by omega
   obtain⟨y,hy⟩:∃y,midI xs=y:=⟨_,rfl⟩
   rw[hy]at hcx
   have HY:=qh hy
   clear hR hS hO hM hml hy
   go_wp2
   go_ret2
   exact⟨by rw[HY.out];rfl,HG.out⟩
def hearE (xs:List Int) (oks:List Bool):Int:=if 64<xs.length then 2 else if xs.length=oks.length then 0 else 4
theorem heard_not (xs:List Int) (oks:List Bool) (v u:Value) (w:World) (hv:IntsAt .i32 w v xs) (hu:BoolsAt w u oks) (hx:xs.length≤9223372036854775807) (hy:oks.length≤9223372036854775807) (h:hearE xs oks≠0):
  Calls Tryz.prog 95 #[v,u] w fun e w'=>e=.returned (.tuple #[.slice none 0 0,.int .i64 (hearE xs oks)])∧w=w':=by
 obtain⟨av,cv,rfl⟩:=hv.len
 obtain⟨au,cu,rfl⟩:=hu.len
 clear hv hu
 by_cases h64:64<xs.length
 ·have he:hearE xs oks=2:=by unfold hearE;rw[if_pos h64]
  rw[he]
  have q2:(64:Int)<(xs.length:Int):=by omega
  clear he h
  go_enter Tryz.func95,Tryz.ntmps95
  go_wp2
  go_ret2
  exact⟨rfl,rfl⟩
 ·have hne:xs.length≠oks.length:=by intro e;apply h;unfold hearE;rw[if_neg h64,if_pos e]
  have he:hearE xs oks=4:=by unfold hearE;rw[if_neg h64,if_neg hne]
  rw[he]
  have q2:¬(64:Int)<(xs.length:Int):=by omega
  have q3:((xs.length:Int) != (oks.length:Int))=true:=by simp;omega
  clear he h hne
  go_enter Tryz.func95,Tryz.ntmps95
  go_wp2
  go_ret2
  exact⟨rfl,rfl⟩
def voteE (xs:List Int) (oks:List Bool):Int×Int:=if hearE xs oks=0 then midE (hearK xs oks xs.length)else(0,hearE xs oks)
theorem vmid_is (xs:List Int) (oks:List Bool) (v u:Value) (w:World) (hv:IntsAt .i32 w v xs) (hu:BoolsAt w u oks) (hx:xs.length≤9223372036854775807) (hy:oks.length≤9223372036854775807):
  Calls Tryz.prog 71 #[v,u] w fun e w'=>e=.returned (.tuple #[.int .i32 (voteE xs oks).1,.int .i64 (voteE xs oks).2])∧Below w.heap.size w w':=by
 have HV:=qh hv;have HU:=qh hu
 clear hv hu
 by_cases h:hearE xs oks=0
 ·have he:voteE xs oks=midE (hearK xs oks xs.length):=by unfold voteE;rw[if_pos h]
  have h64:¬64<xs.length:=by intro e;unfold hearE at h;rw[if_pos e]at h;omega
  have HE:=qh (show xs.length=oks.length by
   by_cases e:xs.length=oks.length
   ·exact e
   ·unfold hearE at h;rw[if_neg h64,if_neg e]at h;omega)
  rw[he]
  obtain⟨hs,hhs⟩:∃hs,hearK xs oks xs.length=hs:=⟨_,rfl⟩
  rw[hhs]
  obtain⟨m,hm⟩:∃m,midE hs=m:=⟨_,rfl⟩
  rw[hm]
  have HHS:=qh hhs;have HM:=qh hm
  clear he h hhs hm
  go_enter Tryz.func71,Tryz.ntmps71
  go_wp2_with fail
  refine(heard_is xs oks v u _ HV.out HU.out (by omega) HE.out).mono ?_
  rintro e1 w1 ⟨v1,rfl,hown,hb⟩
  have HI:=qh (own_ints' hown)
  have HB:=qh hb
  clear hown hb
  rw[HHS.out]at HI
  go_wp2_with fail
  refine(middle_is hs v1 _ HI.out).mono ?_
  rw[HM.out]
  rintro e2 w2 ⟨rfl,hb2⟩
  have HB2:=qh (HB.out.trans (hb2.mono HB.out.size))
  clear hb2
  go_wp2
  go_ret2
  exact⟨rfl,HB2.out⟩
 ·have he:voteE xs oks=(0,hearE xs oks):=by unfold voteE;rw[if_neg h]
  rw[he]
  have hc:(hearE xs oks != 0)=true:=by simpa using h
  clear he
  go_enter Tryz.func71,Tryz.ntmps71
  go_wp2_with fail
  refine(heard_not xs oks v u _ HV.out HU.out hx hy h).mono ?_
  rintro e1 w1 ⟨rfl,rfl⟩
  go_wp2
  go_ret2
  exact⟨rfl,bLr⟩
end Go.Proofs.YtpkiepjmcepnoaaGreatDoor
