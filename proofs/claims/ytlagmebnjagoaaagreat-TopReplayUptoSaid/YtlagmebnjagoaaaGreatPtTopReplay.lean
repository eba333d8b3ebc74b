/- TopReplay: whatever the setup and the inputs are, the law answers true and leaves memory as it was. -/
import Derived.Test.YtlagmebnjagoaaaGreatPtWTwo
import Derived.Test.YtlagmebnjagoaaaGreatPtConI
import Derived.Test.YtlagmebnjagoaaaGreatPtZh
import Derived.Test.YtlagmebnjagoaaaGreatPtBulk
import Derived.Deep.CondSized
namespace Go.Proofs.YtlagmebnjagoaaaGreat.topReplay
open Go.ChangeShapes Go.WideShapes Go.ChangeAt Go.RowKit Go.Proofs.YtlagmebnjagoaaaGreat Go.Proofs.YtlagmebnjagoaaaGreat.Open
set_option linter.unusedVariables false
set_option maxHeartbeats 16000000
set_option maxRecDepth 100000
theorem box_new {wr w7 w8 : World} {Z L : List Value} {arr : Array Value} {T : TypeId} (ha : arr = Z.toArray) (h7 : wr.alloc (.cells arr T) = w7) (hl : L.length = Z.length) (h8 : w7.setCells wr.heap.size 0 L.toArray.toList = w8) :
    w7.there wr.heap.size 0 L.toArray.size ∧ CellsAt w8 wr.heap.size L ∧ Below wr.heap.size wr w8:=by
  subst ha h7 h8
  have Z7 : CellsAt (wr.alloc (.cells Z.toArray T)) wr.heap.size Z:=CellsAt.new' rfl rfl
  exact ⟨Z7.there (by rw [List.size_toArray,hl];exact Nat.le_refl _),Z7.row L hl,below_setCells (Nat.le_refl _) _ 0 _ ((Below.refl _ _).alloc (Nat.le_refl _) _)⟩
theorem infoG_stat : (Tryz.prog.info? 62).map (fun i => (i.zero,i.size,i.bytes)) = some (some (.agg #[.int .i64 0,.int .i64 0,.bool false,.bool false,.int .i64 0,.bool false,.int .i64 0,.int .i64 0,.bool false,.int .i64 0,.int .i64 0,.bool false,.int .i64 0,.int .i64 0,.bool false,.int .i64 0,.int .i64 0,.int .i64 0,.bool false,.int .i32 0,.int .i32 0,.int .i32 0,.int .i32 0,.int .i32 0,.int .i32 0,.int .i32 0,.slice none 0 0]),27,200):=by kernel_rfl
theorem inL_one (I : Inp) : ∀ u ∈ inL I,u.oneCell' = true:=by
  intro u hu
  simp only [inL,List.mem_cons,List.not_mem_nil,or_false] at hu
  rcases hu with rfl | rfl | rfl | rfl | rfl | rfl | rfl | rfl | rfl | rfl | rfl | rfl <;> rfl
theorem inLs_one (xs : List Inp) : ∀ u ∈ xs.flatMap inL,u.oneCell' = true:=fun u hu => by
  obtain ⟨x,-,hx⟩:=List.mem_flatMap.1 hu
  exact inL_one x u hx
theorem stat_one (D : Dyn) (q : Option Addr) (n c : Nat) : ∀ u ∈ statL D (.slice q n c),u.oneCell' = true:=by
  intro u hu
  simp only [statL,List.mem_cons,List.not_mem_nil,or_false] at hu
  rcases hu with rfl | rfl | rfl | rfl | rfl | rfl | rfl | rfl | rfl | rfl | rfl | rfl | rfl | rfl | rfl | rfl | rfl | rfl | rfl | rfl | rfl | rfl | rfl | rfl | rfl | rfl | rfl <;> rfl
theorem runD_app (S : Stp) (xs ys : List Inp) : ∀ k,k ≤ xs.length → runD S (xs ++ ys) k = runD S xs k
  | 0,_ => rfl
  | k + 1,h => by
    show frameL S (runD S (xs ++ ys) k) ((xs ++ ys).getD k default) = frameL S (runD S xs k) (xs.getD k default)
    rw [runD_app S xs ys k (by omega)]
    congr 1
    rw [List.getD_eq_getElem?_getD,List.getD_eq_getElem?_getD,List.getElem?_append_left (by omega)]
theorem tol_row {base : Nat} {w : World} {b1 b2 k : Nat} {q : Option Addr} {c : Nat} {ts : List (Dyn × Value)} (h : Tol base w b1 b2 (.slice q ts.length c) ts) {p : Dyn × Value} (hk : ts[k]? = some p) : ∃ g o,q = some ⟨g,o,none⟩ ∧ w.rangeAt g (o + k * 27) (statL p.1 p.2) ∧ g < w.heap.size:=by
  obtain ⟨g,o,cap,hv,h1,h2,hc⟩:=(own_recs (xs:=ts) h.own (fun _ => rfl)).at_ hk
  cases hv
  refine ⟨g,o,rfl,fun j v hj => ?_,?_⟩
  · have hj2 : j < 27:=(List.getElem?_eq_some_iff.1 hj).1
    rw [hc j hj2];exact hj
  · exact World.block_lt_of_cell? _ _ ((hc 0 (by omega)).trans (rfl : (st27 p)[0]? = some (.int .i64 p.1.frame)))
theorem ts_snoc {F : Nat → Dyn} {ts : List (Dyn × Value)} {k : Nat} {D : Dyn} {u : Value} (h : ∀ (i : Nat) p,ts[i]? = some p → p.1 = F (i + 1)) (hl : ts.length = k) (hD : F (k + 1) = D) : ∀ (i : Nat) p,(ts ++ [(D,u)])[i]? = some p → p.1 = F (i + 1):=fun i p hp => by
  by_cases hi : i < ts.length
  · rw [List.getElem?_append_left hi] at hp;exact h i p hp
  · rw [List.getElem?_append_right (by omega)] at hp
    cases e : i - ts.length with
    | zero =>
      rw [e] at hp;cases hp
      rw [show i = k from by omega];exact hD.symm
    | succ j => rw [e] at hp;simp at hp
def R1 (w : World) (b1 b2 : Nat) (S : Stp) (xs : List Inp) (tv i : Value) (wr : World) : Prop:=∃ k : Nat,k ≤ xs.length ∧ i = .int .i64 k ∧ ∃ a1 a2 v ts,Two S w wr b1 b2 a1 a2 (runD S xs k) newD v ∧ Tol w.heap.size wr b1 b2 tv ts ∧ Clear tv b1 b2 a1 a2 ∧ ts.length = k ∧ ∀ (i : Nat) p,ts[i]? = some p → p.1 = runD S xs (i + 1)
def R2 (w : World) (b1 b2 : Nat) (S : Stp) (D : Dyn) (zs : List Inp) (tv cv : Value) (ts : List (Dyn × Value)) (i : Value) (wr : World) : Prop:=∃ k : Nat,k ≤ zs.length ∧ i = .int .i64 k ∧ (∃ a1 a2 v,Two S w wr b1 b2 a1 a2 D (runD S zs k) v) ∧ Tol w.heap.size wr b1 b2 tv ts ∧ RecsAt 12 inL wr cv zs
theorem way {S : Stp} {ap : Option Addr} {cp : Nat} {xs ys : List Inp} {la ma : Option Addr} {lc mc : Nat} {w : World} (hp : RecsAt 3 pointLay w (.slice ap S.prof.length cp) S.prof) (hl : S.prof.length ≤ 9223372036854775807) (hin : StpIn S) (hx : RecsAt 12 inL w (.slice la xs.length lc) xs) (hok : ∀ I ∈ xs,InpOk I) (hxl : xs.length ≤ 1048576) (hy : RecsAt 12 inL w (.slice ma ys.length mc) ys) (hoy : ∀ I ∈ ys,InpOk I) (hyl : ys.length ≤ 1048576) :
    Calls Tryz.prog 7 #[stpV S (.slice ap S.prof.length cp),.slice la xs.length lc,.slice ma ys.length mc] w fun e w' => e = .returned (.bool true) ∧ Below w.heap.size w w':=by
  obtain ⟨w3,hw3⟩ : ∃ x,w.alloc (.cells #[.int .i32 S.gain,.int .i64 S.drag,.int .i32 S.low,.int .i32 S.high,.int .i32 S.rate,.int .i64 S.soft,.int .i32 S.P,.int .i32 S.I,.int .i32 S.D,.int .i32 S.lo,.int .i32 S.hi,.int .i32 S.m0,.int .i32 S.m1,.int .i32 S.m2,.int .i32 S.m3,.int .i32 S.m4,.int .i64 S.up,.int .i64 S.down,.int .i64 S.most,.int .i32 S.sum,.int .i32 S.wide,.int .i32 S.full,.slice ap S.prof.length cp,.int .i32 S.oh,.int .i32 S.ol,.int .i64 S.bits,.int .i32 S.trim] 37) = x:=⟨_,rfl⟩
  have b3 : Below w.heap.size w w3:=hw3 ▸ (Below.refl _ _).alloc (Nat.le_refl _) _
  have C3 : CellsAt w3 w.heap.size [.int .i32 S.gain,.int .i64 S.drag,.int .i32 S.low,.int .i32 S.high,.int .i32 S.rate,.int .i64 S.soft,.int .i32 S.P,.int .i32 S.I,.int .i32 S.D,.int .i32 S.lo,.int .i32 S.hi,.int .i32 S.m0,.int .i32 S.m1,.int .i32 S.m2,.int .i32 S.m3,.int .i32 S.m4,.int .i64 S.up,.int .i64 S.down,.int .i64 S.most,.int .i32 S.sum,.int .i32 S.wide,.int .i32 S.full,.slice ap S.prof.length cp,.int .i32 S.oh,.int .i32 S.ol,.int .i64 S.bits,.int .i32 S.trim]:=hw3 ▸ CellsAt.new' rfl rfl
  have HI12 : Hid ((Tryz.prog.info? 48).map (·.size) = some 12):=Lib.hid (by kernel_rfl)
  have HI27 : Hid ((Tryz.prog.info? 62).map (·.size) = some 27):=Lib.hid (by kernel_rfl)
  have HIS : Hid ((Tryz.prog.info? 37).map (·.size) = some 27):=Lib.hid (by kernel_rfl)
  have HC3:=Lib.hid C3
  have HB3:=Lib.hid b3
  have HW3:=Lib.hid hw3
  have HP:=Lib.hid hp
  have HX:=Lib.hid hx;have HY:=Lib.hid hy
  have HOK:=Lib.hid hok;have HOY:=Lib.hid hoy
  have HIN:=Lib.hid hin
  clear hp hin hx hok hy hoy b3 C3 hw3
  go_enter Tryz.func7,Tryz.ntmps7
  go_upto_region 1 with (fail)
  rw [HW3.out]
  clear HW3
  go_wp2_with fail
  refine (works_is _).mono ?_
  rintro e4 w4 ⟨rfl,hb4⟩
  have HC4:=Lib.hid (HC3.out.call hb4)
  have B4:=HB3.out.trans (hb4.mono HB3.out.size)
  have HB4:=Lib.hid B4
  have HP4:=Lib.hid (HP.out.later pointLay_len B4 (Nat.le_refl _))
  clear B4 hb4 HC3 HB3
  by_cases hc : chkE S = 0
  case neg =>
    obtain ⟨c,hcc⟩ : ∃ x,chkE S = x:=⟨_,rfl⟩
    have HNO : Hid (∀ w',Below w4.heap.size w4 w' → Calls Tryz.prog 10 #[stpV S (.slice ap S.prof.length cp)] w' fun e w'' => e = .returned (.tuple #[.pointer none,.int .i64 c]) ∧ Below w'.heap.size w' w''):=Lib.hid (fun w' hb => by rw [← hcc];exact new_no (HP4.out.later pointLay_len hb (Nat.le_refl _)) hl HIN.out hc)
    rw [hcc] at hc
    have d1 : (c == 0) = false:=by simpa using hc
    have d2 : (c != 0) = true:=by simpa using hc
    have RNG:=Lib.hid HC4.out.range
    clear hcc hc
    go_upto_region 3 with (fail)
    go_wp2_with (refine wpList_load_mid rfl 37 (.tmp 3) rfl w.heap.size 0 rfl _ _ RNG.out Tryz.underlying37 rfl HIS.out ?_)
    refine (HNO.out _ (Below.refl _ _)).mono ?_
    rintro e5 w5 ⟨rfl,hb5⟩
    have RNG:=Lib.hid (HC4.out.call hb5).range
    have HB5:=Lib.hid hb5
    clear hb5
    go_upto_region 4 with (fail)
    go_wp2_with (refine wpList_load_mid rfl 37 (.tmp 3) rfl w.heap.size 0 rfl _ _ RNG.out Tryz.underlying37 rfl HIS.out ?_)
    refine (HNO.out _ HB5.out).mono ?_
    rintro e6 w6 ⟨rfl,hb6⟩
    have HB6:=Lib.hid (HB4.out.trans ((HB5.out.trans (hb6.mono HB5.out.size)).mono HB4.out.size))
    clear hb6 HNO HB5 RNG HC4
    go_wp2_with fail
    go_ret
    exact ⟨by simp,HB6.out⟩
  have HSO:=Lib.hid (chkE_zero HIN.out hc)
  have RNG:=Lib.hid HC4.out.range
  clear hc
  go_upto_region 3 with (fail)
  go_wp2_with (refine wpList_load_mid rfl 37 (.tmp 3) rfl w.heap.size 0 rfl _ _ RNG.out Tryz.underlying37 rfl HIS.out ?_)
  refine (new_yes (S:=S.withAv (fun _ => False)) HP4.out (HSO.out.withAv _) (fun c h => h.elim)).mono ?_
  rintro e5 w5 ⟨b1,vp1,rfl,hb1,hW1,hb5,-⟩
  have HW1:=Lib.hid hW1
  have HB5:=Lib.hid (HB4.out.trans (hb5.mono HB4.out.size))
  have HP5:=Lib.hid (HP4.out.later pointLay_len hb5 (Nat.le_refl _))
  have Hwb : Hid (w.heap.size ≤ b1):=Lib.hid (Nat.le_trans HB4.out.size hb1)
  have RNG:=Lib.hid (HC4.out.call hb5).range
  clear hb1 hW1 hb5 HP4 HB4 HC4
  go_upto_region 4 with (fail)
  go_wp2_with (refine wpList_load_mid rfl 37 (.tmp 3) rfl w.heap.size 0 rfl _ _ RNG.out Tryz.underlying37 rfl HIS.out ?_)
  refine (new_yes (S:=S.withAv (fun c => c = b1)) HP5.out (HSO.out.withAv _) (fun c h => by cases h;exact HW1.out.lt)).mono ?_
  rintro e6 w6 ⟨b2,vp2,rfl,hb2,hW2,hb6,-⟩
  have hW1 : WAt w6 b1 (S.withAv (fun c => False ∨ c = b2)) newD vp1 (.slice none 0 0) (.slice none 0 0):=HW1.out.more hb6 hb2 hW2.lt
  have HT6 : Hid (Two S w w6 b1 b2 (fun c => False ∨ c = b2) (fun c => c = b1) (runD S xs 0) newD (vp1,.slice none 0 0,.slice none 0 0,vp2,.slice none 0 0,.slice none 0 0)):=Lib.hid ⟨HB5.out.trans (hb6.mono HB5.out.size),Hwb.out,Nat.le_trans HB5.out.size hb2,by have:=HW1.out.lt;omega,.inr rfl,rfl,hW1,hW2⟩
  have HL6 : Hid (Tol w.heap.size w6 b1 b2 (.slice none 0 0) []):=Lib.hid ⟨World.ownsRow_nil _ _ _ _,by simp [Value.ownBlock],by simp [Value.ownBlock],fun p hp => by cases hp⟩
  have HCL : Hid (Clear (.slice none 0 0) b1 b2 (fun c => False ∨ c = b2) (fun c => c = b1)):=Lib.hid (fun c hc => by cases hc)
  clear hb2 hW2 hb6 hW1 HW1 HP5 HB5 RNG
  have hxi : (xs.length : Int) ≤ 1048576:=by omega
  go_wp2_with fail
  go_loopw [11,40] (fun tv i wr => R1 w b1 b2 S xs tv i wr) (fun _ i _ => xs.length - (intOf i).toNat)
  case atStart => exact ⟨0,Nat.zero_le _,rfl,_,_,_,[],HT6.out,HL6.out,HCL.out,rfl,fun i p h => by simp at h⟩
  case round =>
    clear HT6 HL6 HCL
    obtain ⟨k,hk,rfl,a1,a2,⟨vp1,vl1,vg1,vp2,vl2,vg2⟩,ts,hT,hL,hcl,hlen,hts⟩:=hrel
    have HT:=Lib.hid hT;have HL:=Lib.hid hL;have HCL:=Lib.hid hcl;have HLN:=Lib.hid hlen;have HTS:=Lib.hid hts
    clear hT hL hcl hlen hts
    obtain ⟨tv,htv⟩ : ∃ x,x = u11:=⟨_,rfl⟩
    subst htv
    by_cases hk1 : k < xs.length
    · have hk2 : (k : Int) < (xs.length : Int):=by omega
      have hk3 : (0 : Int) ≤ (k : Int):=by omega
      have hwk : IntKind.i64.wrap ((k : Int) + 1) = (k : Int) + 1:=IntWalk.i64_in _ (by omega)
      go_upto_region 10 with (fail)
      obtain ⟨wo,hwo⟩ : ∃ x,x = wr:=⟨_,rfl⟩
      subst hwo
      obtain ⟨bx,ox,hla,hrow,hbx⟩:=recs_row HX.out hk1
      subst hla
      obtain ⟨I,hI⟩ : ∃ x,xs.getD k default = x:=⟨_,rfl⟩
      rw [hI] at hrow
      have HRW : Hid (wo.rangeAt bx (ox + k * 12) (inL I)):=Lib.hid (fun j v hj => by rw [HT.out.below.cell (p:=⟨bx,ox + k * 12 + j,none⟩) hbx];exact hrow j v hj)
      have HIok : Hid (InpOk I):=Lib.hid (HOK.out I (by rw [← hI,List.getD_eq_getElem?_getD,List.getElem?_eq_getElem hk1];exact List.getElem_mem hk1))
      obtain ⟨w11,hw11⟩ : ∃ x,wo.alloc (.cells #[.string ⟨#[]⟩,.int .i32 0,.int .i32 0,.int .i32 0,.int .i64 0,.int .i64 0,.int .i64 0,.int .i64 0,.bool false,.int .i64 0,.bool false,.int .i64 0] 48) = x:=⟨_,rfl⟩
      obtain ⟨w12,hw12⟩ : ∃ x,w11.setCells wo.heap.size 0 (inL I).toArray.toList = x:=⟨_,rfl⟩
      obtain ⟨HTH,C12,b12⟩:=box_new (L:=inL I) (Z:=[.string ⟨#[]⟩,.int .i32 0,.int .i32 0,.int .i32 0,.int .i64 0,.int .i64 0,.int .i64 0,.int .i64 0,.bool false,.int .i64 0,.bool false,.int .i64 0]) rfl hw11 rfl hw12
      have HTH:=Lib.hid HTH
      have HON : Hid ((inL I).toArray.all (·.oneCell') = true):=Lib.hid (by kernel_rfl)
      have HT12:=Lib.hid (HT.out.call b12)
      have HL12:=Lib.hid (HL.out.call b12)
      have HC12:=Lib.hid C12
      have HW11:=Lib.hid hw11;have HW12:=Lib.hid hw12
      have HIe:=Lib.hid hI
      clear hrow hI hw11 hw12 C12 b12 HT HL
      go_upto_region 11 with (first | (refine wpList_load_mid rfl 48 (.tmp 42) rfl _ _ rfl _ _ HRW.out Tryz.underlying48 rfl HI12.out ?_) | (refine wpList_store_mid rfl 48 (.tmp 13) (.tmp 43) rfl wo.heap.size 0 (inL I).toArray rfl rfl (by rw [HW11.out];exact HTH.out) HI12.out HON.out ?_))
      rw [HW11.out,HW12.out]
      clear HW11 HW12 HTH HON HRW
      go_wp2_with (refine wpList_load_mid rfl 48 (.tmp 13) rfl wo.heap.size 0 rfl _ _ HC12.out.range Tryz.underlying48 rfl HI12.out ?_)
      obtain ⟨D1,hD1⟩ : ∃ x,runD S xs (k + 1) = x:=⟨_,rfl⟩
      have hfr:=wframe_is (I:=I) HT12.out.W1 (HSO.out.withAv _) ((runD_good HSO.out xs k).withAv _) HIok.out
      have e1 : frameL (S.withAv a1) (runD S xs k) I = D1:=by rw [← hD1,← HIe.out];exact frameL_av S _ _ _
      rw [e1] at hfr
      have HD1:=Lib.hid hD1
      refine hfr.mono ?_
      clear hfr e1 hD1 HIe
      rintro e13 w13 ⟨v13,vl13,vg13,rfl,hW,hg,hO,-⟩
      obtain ⟨q13,c13,hv⟩:=own_sliceW hO
      subst hv
      have T13:=HT12.out.left hW hg
      have L13:=HL12.out.far hg (fun c e => .inl (by cases e;rfl))
      have R13:=own_recs (xs:=D1.log) hO entLay_len
      have l1:=HT12.out.W1.lt;have l2:=HT12.out.W2.lt
      have hn13 : ∀ c,(Value.slice q13 D1.log.length c13).ownBlock = some c → b1 ≠ c ∧ b2 ≠ c ∧ tv.ownBlock ≠ some c ∧ c < w13.heap.size:=fun c hc => by
        have h1:=hO.lt c hc
        exact ⟨by omega,by omega,fun e => by have:=(HL12.out.own.lt c e).2;omega,h1.2⟩
      obtain ⟨w14,hw14⟩ : ∃ x,w13.alloc (.cells (statL D1 (.slice q13 D1.log.length c13)).toArray 62) = x:=⟨_,rfl⟩
      have b14 : Below w13.heap.size w13 w14:=hw14 ▸ (Below.refl _ _).alloc (Nat.le_refl _) _
      have C14 : CellsAt w14 w13.heap.size (statL D1 (.slice q13 D1.log.length c13)):=hw14 ▸ CellsAt.new' rfl rfl
      have HT14:=Lib.hid (T13.call b14)
      have HL14:=Lib.hid (L13.call b14)
      have HR14:=Lib.hid (R13.later entLay_len b14 (Nat.le_refl _))
      have HN14 : Hid (∀ c,(Value.slice q13 D1.log.length c13).ownBlock = some c → b1 ≠ c ∧ b2 ≠ c ∧ tv.ownBlock ≠ some c ∧ c < w14.heap.size):=Lib.hid (fun c hc => by obtain ⟨k1,k2,k3,k4⟩:=hn13 c hc;exact ⟨k1,k2,k3,Nat.lt_of_lt_of_le k4 b14.size⟩)
      have HS14 : Hid (∀ j u,(statL D1 (.slice q13 D1.log.length c13))[j]? = some u → w14.cell? ((⟨w13.heap.size,0,none⟩ : Addr).add j) = some u):=Lib.hid (fun j u hj => by have h:=C14.at_ j hj;cases j <;> simpa [Addr.add] using h)
      have HB14 : Hid (w.heap.size ≤ w14.heap.size):=Lib.hid HT14.out.below.size
      have HW14:=Lib.hid hw14
      obtain ⟨i0,hi,hz0,hz1,hz2⟩:=info_parts infoG_stat
      have HI:=Lib.hid hi;have HZ0:=Lib.hid hz0;have HZ1:=Lib.hid hz1;have HZ2:=Lib.hid hz2
      have HM : Hid (ts.length + 1 ≤ 1048576):=Lib.hid (by have:=HLN.out;omega)
      clear hW hg hO T13 L13 R13 l1 l2 hn13 hw14 b14 C14 hi hz0 hz1 hz2 HT12 HL12 HC12
      go_upto_region 12 with (first | (refine wpList_buildSlice rfl 77 62 1 _ rfl (statL D1 (.slice q13 D1.log.length c13)).toArray i0 (.agg #[.int .i64 0,.int .i64 0,.bool false,.bool false,.int .i64 0,.bool false,.int .i64 0,.int .i64 0,.bool false,.int .i64 0,.int .i64 0,.bool false,.int .i64 0,.int .i64 0,.bool false,.int .i64 0,.int .i64 0,.int .i64 0,.bool false,.int .i32 0,.int .i32 0,.int .i32 0,.int .i32 0,.int .i32 0,.int .i32 0,.int .i32 0,.slice none 0 0]) Tryz.underlying77 HI.out HZ0.out (by rw [HZ1.out];decide) (by rw [HZ1.out];decide) (by rw [HZ1.out];kernel_rfl) ?_;rw [HW14.out]) | (refine wpList_append_new rfl _ _ 77 rfl w.heap.size 62 i0 (.agg #[.int .i64 0,.int .i64 0,.bool false,.bool false,.int .i64 0,.bool false,.int .i64 0,.int .i64 0,.bool false,.int .i64 0,.int .i64 0,.bool false,.int .i64 0,.int .i64 0,.bool false,.int .i64 0,.int .i64 0,.int .i64 0,.bool false,.int .i32 0,.int .i32 0,.int .i32 0,.int .i32 0,.int .i32 0,.int .i32 0,.int .i32 0,.slice none 0 0]) 27 200 Tryz.underlying77 HI.out HZ0.out HZ1.out HZ2.out rfl (by decide) _ _ _ rfl HL14.out.own ⟨w13.heap.size,0,none⟩ 1 (statL D1 (.slice q13 D1.log.length c13)) rfl rfl HS14.out (stat_one _ _ _ _) (by have:=HM.out;unfold maxLen;omega) (by have:=HM.out;omega) HB14.out ?_;intro tv' w15 hown' hg15 hnew))
      obtain ⟨a1',a2',T15,hc15⟩:=HT14.out.push hg15 HCL.out (fun c hc => (HL14.out.own.lt c hc).1) hnew
      have HL15:=Lib.hid (HL14.out.push HT14.out.W1.lt HT14.out.W2.lt ⟨_,_,rfl⟩ HR14.out HN14.out hown' hg15 hnew)
      have HT15:=Lib.hid T15
      have HC15:=Lib.hid hc15
      clear hown' hg15 hnew T15 hc15 HT14 HL14 HR14 HN14 HS14 HB14 HW14 HCL HI HZ0 HZ1 HZ2
      go_wp2_with fail
      go_roundw
      (case rel => exact ⟨k + 1,by omega,by simp,_,_,_,_,(by rw [HD1.out];exact HT15.out),HL15.out,HC15.out,by rw [List.length_append,HLN.out];rfl,ts_snoc HTS.out HLN.out HD1.out⟩)
      (case measure => simp [intOf];omega)
    · obtain rfl : k = xs.length:=by omega
      obtain ⟨qt,ct,htv⟩:=own_sliceW HL.out.own
      subst htv
      obtain ⟨wo,hwo⟩ : ∃ x,x = wr:=⟨_,rfl⟩
      subst hwo
      obtain ⟨w20,hw20⟩ : ∃ x,wo.alloc (.cells #[.slice la xs.length lc,.slice ma ys.length mc] 38) = x:=⟨_,rfl⟩
      have b20 : Below wo.heap.size wo w20:=hw20 ▸ (Below.refl _ _).alloc (Nat.le_refl _) _
      have C20 : CellsAt w20 wo.heap.size [.slice la xs.length lc,.slice ma ys.length mc]:=hw20 ▸ CellsAt.new' rfl rfl
      have T20:=HT.out.call b20
      have hcat:=Lib.hid (concat_input wo.heap.size _ _ xs.length ys.length _ _ w20 (src_recs (HX.out.later inL_len T20.below (Nat.le_refl _)) (by decide) inL_len) (src_recs (HY.out.later inL_len T20.below (Nat.le_refl _)) (by decide) inL_len) (inLs_one xs) (inLs_one ys) (C20.at_ 0 rfl) (C20.at_ 1 rfl) (by omega))
      have HT20:=Lib.hid T20
      have HL20:=Lib.hid (HL.out.call b20)
      have HW20:=Lib.hid hw20
      clear hw20 b20 C20 T20 HT HL HCL
      go_wp2_with fail
      rw [HW20.out]
      refine hcat.out.mono ?_
      clear hcat HW20
      rintro e21 w21 ⟨cv,rfl,ho21,hb21⟩
      obtain ⟨zs,hzs⟩ : ∃ x,xs ++ ys = x:=⟨_,rfl⟩
      have hzl : xs.length + ys.length = zs.length:=by rw [← hzs,List.length_append]
      rw [hzl,← List.flatMap_append,hzs] at ho21
      obtain ⟨qc,cc,hcv⟩:=own_sliceW ho21
      subst hcv
      have HRZ:=Lib.hid (own_recs (xs:=zs) ho21 inL_len)
      have l1:=HT20.out.W1.lt;have l2:=HT20.out.W2.lt
      have HOB : Hid (∀ b' o n,qc = some ⟨b',o,n⟩ → b' ≠ b2):=Lib.hid (fun b' o n e => by subst e;have:=(ho21.lt b' rfl).1;omega)
      have HT21 : Hid (Two S w w21 b1 b2 a1 a2 (runD S xs xs.length) (runD S zs 0) (vp1,vl1,vg1,vp2,vl2,vg2)):=Lib.hid (HT20.out.call hb21)
      have HL21:=Lib.hid (HL20.out.call hb21)
      have HOZ : Hid (∀ I ∈ zs,InpOk I):=Lib.hid (by rw [← hzs];intro I hI;rcases List.mem_append.1 hI with h | h;exact HOK.out I h;exact HOY.out I h)
      have HDZ : Hid (∀ j,j < xs.length → runD S xs (j + 1) = runD S zs (j + 1)):=Lib.hid (fun j hj => by rw [← hzs];exact (runD_app S xs ys (j + 1) hj).symm)
      have hzm : (zs.length : Int) ≤ 2097152:=by omega
      clear ho21 hb21 l1 l2 HT20 HL20 hzs hzl HX HY HOK HOY
      obtain ⟨DE,hDE⟩ : ∃ x,runD S xs xs.length = x:=⟨_,rfl⟩
      rw [hDE] at HT21
      clear hDE
      go_wp2_with fail
      go_loopw [56] (fun i wr => R2 w b1 b2 S DE zs (.slice qt ts.length ct) (.slice qc zs.length cc) ts i wr) (fun i _ => zs.length - (intOf i).toNat)
      case atStart => exact ⟨0,Nat.zero_le _,rfl,⟨_,_,_,HT21.out⟩,HL21.out,HRZ.out⟩
      case round =>
        clear HT21 HL21 HRZ
        obtain ⟨k,hk,rfl,⟨a1,a2,⟨vp1,vl1,vg1,vp2,vl2,vg2⟩,hT⟩,hL,hZ⟩:=hrel
        have HT:=Lib.hid hT;have HL:=Lib.hid hL;have HZ:=Lib.hid hZ
        clear hT hL hZ
        by_cases hk1 : k < zs.length
        · have hk2 : (k : Int) < (zs.length : Int):=by omega
          have hk3 : (0 : Int) ≤ (k : Int):=by omega
          have hwk : IntKind.i64.wrap ((k : Int) + 1) = (k : Int) + 1:=IntWalk.i64_in _ (by omega)
          go_upto_region 15 with (fail)
          obtain ⟨wo,hwo⟩ : ∃ x,x = wr:=⟨_,rfl⟩
          subst hwo
          obtain ⟨bx,ox,hqc,hrow,hbx⟩:=recs_row HZ.out hk1
          subst hqc
          obtain ⟨I,hI⟩ : ∃ x,zs.getD k default = x:=⟨_,rfl⟩
          rw [hI] at hrow
          have HRW:=Lib.hid hrow
          have HIok : Hid (InpOk I):=Lib.hid (HOZ.out I (by rw [← hI,List.getD_eq_getElem?_getD,List.getElem?_eq_getElem hk1];exact List.getElem_mem hk1))
          obtain ⟨w31,hw31⟩ : ∃ x,wo.alloc (.cells #[.string ⟨#[]⟩,.int .i32 0,.int .i32 0,.int .i32 0,.int .i64 0,.int .i64 0,.int .i64 0,.int .i64 0,.bool false,.int .i64 0,.bool false,.int .i64 0] 48) = x:=⟨_,rfl⟩
          obtain ⟨w32,hw32⟩ : ∃ x,w31.setCells wo.heap.size 0 (inL I).toArray.toList = x:=⟨_,rfl⟩
          obtain ⟨HTH,C32,b32⟩:=box_new (L:=inL I) (Z:=[.string ⟨#[]⟩,.int .i32 0,.int .i32 0,.int .i32 0,.int .i64 0,.int .i64 0,.int .i64 0,.int .i64 0,.bool false,.int .i64 0,.bool false,.int .i64 0]) rfl hw31 rfl hw32
          have HTH:=Lib.hid HTH
          have HON : Hid ((inL I).toArray.all (·.oneCell') = true):=Lib.hid (by kernel_rfl)
          have HT32:=Lib.hid (HT.out.call b32)
          have HL32:=Lib.hid (HL.out.call b32)
          have HZ32:=Lib.hid (HZ.out.later inL_len b32 (Nat.le_refl _))
          have HC32:=Lib.hid C32
          have HW31:=Lib.hid hw31;have HW32:=Lib.hid hw32
          have HIe:=Lib.hid hI
          clear hrow hI hw31 hw32 C32 b32 HT HL HZ
          go_upto_region 16 with (first | (refine wpList_load_mid rfl 48 (.tmp 59) rfl _ _ rfl _ _ HRW.out Tryz.underlying48 rfl HI12.out ?_) | (refine wpList_store_mid rfl 48 (.tmp 15) (.tmp 60) rfl wo.heap.size 0 (inL I).toArray rfl rfl (by rw [HW31.out];exact HTH.out) HI12.out HON.out ?_))
          rw [HW31.out,HW32.out]
          clear HW31 HW32 HTH HON HRW
          go_wp2_with (refine wpList_load_mid rfl 48 (.tmp 15) rfl wo.heap.size 0 rfl _ _ HC32.out.range Tryz.underlying48 rfl HI12.out ?_)
          obtain ⟨D1,hD1⟩ : ∃ x,runD S zs (k + 1) = x:=⟨_,rfl⟩
          have hfr:=wframe_is (I:=I) HT32.out.W2 (HSO.out.withAv _) ((runD_good HSO.out zs k).withAv _) HIok.out
          have e1 : frameL (S.withAv a2) (runD S zs k) I = D1:=by rw [← hD1,← HIe.out];exact frameL_av S _ _ _
          rw [e1] at hfr
          have HLE : Hid (D1.log.length ≤ 9223372036854775807):=Lib.hid (by rw [← hD1];have:=(runD_good HSO.out zs (k + 1)).log.1;omega)
          have HD1:=Lib.hid hD1
          refine hfr.mono ?_
          clear hfr e1 hD1 HIe
          rintro e33 w33 ⟨v33,vl33,vg33,rfl,hW,hg,hO,-⟩
          obtain ⟨q33,c33,hv⟩:=own_sliceW hO
          subst hv
          have T33:=HT32.out.right hW hg
          have L33:=HL32.out.far hg (fun c e => .inr (by cases e;rfl))
          have Z33:=recs_off inL_len (by decide) HZ32.out (fun b' o n l c e => by cases e;exact HOB.out _ _ _ rfl) hg
          have R33:=own_recs (xs:=D1.log) hO entLay_len
          obtain ⟨w34,hw34⟩ : ∃ x,w33.alloc (.cells #[.int .i64 0,.int .i64 0,.bool false,.bool false,.int .i64 0,.bool false,.int .i64 0,.int .i64 0,.bool false,.int .i64 0,.int .i64 0,.bool false,.int .i64 0,.int .i64 0,.bool false,.int .i64 0,.int .i64 0,.int .i64 0,.bool false,.int .i32 0,.int .i32 0,.int .i32 0,.int .i32 0,.int .i32 0,.int .i32 0,.int .i32 0,.slice none 0 0] 62) = x:=⟨_,rfl⟩
          obtain ⟨w35,hw35⟩ : ∃ x,w34.setCells w33.heap.size 0 (statL D1 (.slice q33 D1.log.length c33)).toArray.toList = x:=⟨_,rfl⟩
          obtain ⟨HTH,X35,b35⟩:=box_new (L:=statL D1 (.slice q33 D1.log.length c33)) (Z:=[.int .i64 0,.int .i64 0,.bool false,.bool false,.int .i64 0,.bool false,.int .i64 0,.int .i64 0,.bool false,.int .i64 0,.int .i64 0,.bool false,.int .i64 0,.int .i64 0,.bool false,.int .i64 0,.int .i64 0,.int .i64 0,.bool false,.int .i32 0,.int .i32 0,.int .i32 0,.int .i32 0,.int .i32 0,.int .i32 0,.int .i32 0,.slice none 0 0]) rfl hw34 rfl hw35
          have HTH:=Lib.hid HTH
          have HON : Hid ((statL D1 (.slice q33 D1.log.length c33)).toArray.all (·.oneCell') = true):=Lib.hid (by kernel_rfl)
          have HT35:=Lib.hid (T33.call b35)
          have HL35:=Lib.hid (L33.call b35)
          have HZ35:=Lib.hid (Z33.later inL_len b35 (Nat.le_refl _))
          have HR35:=Lib.hid (R33.later entLay_len b35 (Nat.le_refl _))
          have HX35:=Lib.hid X35
          have HW34:=Lib.hid hw34;have HW35:=Lib.hid hw35
          clear hW hg hO T33 L33 Z33 R33 hw34 hw35 X35 b35 HT32 HL32 HZ32 HC32
          go_upto_region 17 with (refine wpList_store_mid rfl 62 (.tmp 16) (.tmp 63) rfl w33.heap.size 0 (statL D1 (.slice q33 D1.log.length c33)).toArray rfl rfl (by rw [HW34.out];exact HTH.out) HI27.out HON.out ?_)
          rw [HW34.out,HW35.out]
          clear HW34 HW35 HTH HON
          by_cases hkt : k < ts.length
          · have hkt2 : (k : Int) < (ts.length : Int):=by omega
            obtain ⟨p,hp⟩ : ∃ p,ts[k]? = some p:=⟨_,List.getElem?_eq_getElem hkt⟩
            have hpD : p.1 = D1:=(HTS.out k p hp).trans ((HDZ.out k (by have:=HLN.out;omega)).trans HD1.out)
            obtain ⟨⟨q,c,hq⟩,hrp,-⟩:=HL35.out.each p (List.mem_of_getElem? hp)
            obtain ⟨g,o,hqt,hrow,hgz⟩:=tol_row HL35.out hp
            subst hqt
            obtain ⟨pD,pv⟩:=p
            simp only at hpD hq hrp hrow
            subst hpD
            subst hq
            have HRP:=Lib.hid hrp
            have HRO:=Lib.hid hrow
            clear hrp hrow hp
            obtain ⟨XV,hXV⟩ : ∃ v,Value.agg (statL pD (.slice q33 pD.log.length c33)).toArray = v:=⟨_,rfl⟩
            obtain ⟨PV,hPV⟩ : ∃ v,Value.agg (statL pD (.slice q pD.log.length c)).toArray = v:=⟨_,rfl⟩
            have ld1:=run_loadAt_mid (P:=Tryz.prog) w35.drew w33.heap.size 0 62 _ _ HX35.out.range Tryz.underlying62 rfl HI27.out
            have ld2:=run_loadAt_mid (P:=Tryz.prog) w35.drew g (o + k * 27) 62 _ _ HRO.out Tryz.underlying62 rfl HI27.out
            rw [hXV] at ld1
            rw [hPV] at ld2
            have HXV:=Lib.hid hXV;have HPV:=Lib.hid hPV
            clear hXV hPV
            go_wp2_with fail
            refine wp_region_still_tail 10 (by kernel_rfl) (by kernel_rfl) ?_
            simp only [List.take_succ_cons,List.take_zero,List.drop_succ_cons,List.drop_zero]
            change wpStill _ _ w35.drew _ _ _
            repeat still_step
            refine wpStill_load_mid (by rfl) 62 (.tmp 16) rfl _ _ rfl ld1 ?_
            repeat still_step
            refine wpStill_load_mid (by rfl) 62 (.tmp 72) rfl _ _ rfl ld2 ?_
            refine wpStill_nil ?_
            change wpList _ _ _ _ _ w35.drew
            have bd : Below w35.heap.size w35 w35.drew:=(Below.refl _ _).drew
            clear ld1 ld2
            obtain ⟨w36,hw36⟩ : ∃ x,w35.drew = x:=⟨_,rfl⟩
            rw [hw36] at bd ⊢
            go_wp2_with fail
            rw [← HXV.out,← HPV.out]
            refine (same_is (D:=pD) (HR35.out.later entLay_len bd (Nat.le_refl _)) (HRP.out.later entLay_len bd (Nat.le_refl _)) HLE.out).mono ?_
            rintro e37 w37 ⟨rfl,hb37⟩
            have b37 : Below w35.heap.size w35 w37:=bd.trans (hb37.mono bd.size)
            have HT37:=Lib.hid (HT35.out.call b37)
            have HL37:=Lib.hid (HL35.out.call b37)
            have HZ37:=Lib.hid (HZ35.out.later inL_len b37 (Nat.le_refl _))
            clear bd hw36 hb37 b37 HT35 HL35 HZ35 HR35 HX35 HRP HRO
            go_wp2_with fail
            go_roundw
            (case rel => exact ⟨k + 1,by omega,by simp,⟨_,_,_,by rw [HD1.out];exact HT37.out⟩,HL37.out,HZ37.out⟩)
            (case measure => simp [intOf];omega)
          · have hkt2 : decide ((k : Int) < (ts.length : Int)) = false:=by simp only [decide_eq_false_iff_not];omega
            clear HX35 HR35
            go_wp2_with fail
            go_quiet (fail)
            go_wp2_with fail
            go_roundw
            (case rel => exact ⟨k + 1,by omega,by simp,⟨_,_,_,by rw [HD1.out];exact HT35.out.call (drewN_below _ _)⟩,HL35.out.call (drewN_below _ _),HZ35.out.later inL_len (drewN_below _ _) (Nat.le_refl _)⟩)
            (case measure => simp [intOf];omega)
        · obtain rfl : k = zs.length:=by omega
          have HB:=Lib.hid HT.out.below
          clear HT HL HZ
          go_wp2_with fail
          go_ret
          exact ⟨rfl,HB.out⟩
theorem law (gain drag low high rate soft P I D lo hi m0 m1 m2 m3 m4 up down most sum wide full : Int) (pa : Option Addr) (pl pc : Nat) (ps : List PointR) (oh ol bits trim : Int) (la : Option Addr) (ll lc : Nat) (ls : List Inp) (ma : Option Addr) (ml mc : Nat) (ms : List Inp) (w : World) (hgain : -2147483648 ≤ gain ∧ gain ≤ 2147483647) (hdrag : -9223372036854775808 ≤ drag ∧ drag ≤ 9223372036854775807) (hlow : -2147483648 ≤ low ∧ low ≤ 2147483647) (hhigh : -2147483648 ≤ high ∧ high ≤ 2147483647) (hrate : -2147483648 ≤ rate ∧ rate ≤ 2147483647) (hsoft : -9223372036854775808 ≤ soft ∧ soft ≤ 9223372036854775807) (hP : -2147483648 ≤ P ∧ P ≤ 2147483647) (hI : -2147483648 ≤ I ∧ I ≤ 2147483647) (hD : -2147483648 ≤ D ∧ D ≤ 2147483647) (hlo : -2147483648 ≤ lo ∧ lo ≤ 2147483647) (hhi : -2147483648 ≤ hi ∧ hi ≤ 2147483647) (hm0 : -2147483648 ≤ m0 ∧ m0 ≤ 2147483647) (hm1 : -2147483648 ≤ m1 ∧ m1 ≤ 2147483647) (hm2 : -2147483648 ≤ m2 ∧ m2 ≤ 2147483647) (hm3 : -2147483648 ≤ m3 ∧ m3 ≤ 2147483647) (hm4 : -2147483648 ≤ m4 ∧ m4 ≤ 2147483647) (hup : -9223372036854775808 ≤ up ∧ up ≤ 9223372036854775807) (hdown : -9223372036854775808 ≤ down ∧ down ≤ 9223372036854775807) (hmost : -9223372036854775808 ≤ most ∧ most ≤ 9223372036854775807) (hsum : -2147483648 ≤ sum ∧ sum ≤ 2147483647) (hwide : -2147483648 ≤ wide ∧ wide ≤ 2147483647) (hfull : -2147483648 ≤ full ∧ full ≤ 2147483647) (hps : IsRecs 3 pointLay pointFit w pa pl pc ps) (hoh : -2147483648 ≤ oh ∧ oh ≤ 2147483647) (hol : -2147483648 ≤ ol ∧ ol ≤ 2147483647) (hbits : -9223372036854775808 ≤ bits ∧ bits ≤ 9223372036854775807) (htrim : -2147483648 ≤ trim ∧ trim ≤ 2147483647) (hls : IsRecs 12 inL InpOk w la ll lc ls) (hcap : ll ≤ lc ∧ lc ≤ 1048576) (hms : IsRecs 12 inL InpOk w ma ml mc ms) (hcam : ml ≤ mc ∧ mc ≤ 1048576) :
    Calls Tryz.prog 7 #[.agg #[.int .i32 gain,.int .i64 drag,.int .i32 low,.int .i32 high,.int .i32 rate,.int .i64 soft,.int .i32 P,.int .i32 I,.int .i32 D,.int .i32 lo,.int .i32 hi,.int .i32 m0,.int .i32 m1,.int .i32 m2,.int .i32 m3,.int .i32 m4,.int .i64 up,.int .i64 down,.int .i64 most,.int .i32 sum,.int .i32 wide,.int .i32 full,.slice pa pl pc,.int .i32 oh,.int .i32 ol,.int .i64 bits,.int .i32 trim],.slice la ll lc,.slice ma ml mc] w fun e w' => e = .returned (.bool true) ∧ Below w.heap.size w w':=by
  obtain ⟨p1,p2,p3⟩:=isRecs_recs hps (by omega) pointLay_len
  obtain ⟨l1,l2,l3⟩:=isRecs_recs hls (by omega) inL_len
  obtain ⟨n1,n2,n3⟩:=isRecs_recs hms (by omega) inL_len
  have h:=@way { gain:=gain,drag:=drag,low:=low,high:=high,rate:=rate,soft:=soft,P:=P,I:=I,D:=D,lo:=lo,hi:=hi,m0:=m0,m1:=m1,m2:=m2,m3:=m3,m4:=m4,up:=up,down:=down,most:=most,sum:=sum,wide:=wide,full:=full,oh:=oh,ol:=ol,bits:=bits,trim:=trim,prof:=ps.take pl,av:=fun _ => False } pa pc (ls.take ll) (ms.take ml) la ma lc mc w (by rw [show (ps.take pl).length = pl from p2];exact p1) (by have h2:=hps;rcases h2 with ⟨-,h2,-⟩ | ⟨_,-,h2,h3,-⟩ <;> (show (ps.take pl).length ≤ _;rw [p2];first | omega | (simp only [maxLen] at h3;omega))) ⟨hgain,hdrag,hlow,hhigh,hrate,hsoft,hP,hI,hD,hlo,hhi,hm0,hm1,hm2,hm3,hm4,hup,hdown,hmost,hsum,hwide,hfull,hoh,hol,hbits,htrim,p3⟩ (by rw [l2];exact l1) l3 (by rw [l2];omega) (by rw [n2];exact n1) n3 (by rw [n2];omega)
  rw [l2,n2] at h
  rw [show (Stp.prof { gain:=gain,drag:=drag,low:=low,high:=high,rate:=rate,soft:=soft,P:=P,I:=I,D:=D,lo:=lo,hi:=hi,m0:=m0,m1:=m1,m2:=m2,m3:=m3,m4:=m4,up:=up,down:=down,most:=most,sum:=sum,wide:=wide,full:=full,oh:=oh,ol:=ol,bits:=bits,trim:=trim,prof:=ps.take pl,av:=fun _ => False }) = ps.take pl from rfl,p2] at h
  exact h
set_option maxRecDepth 100000 in
theorem contract (H : Type) (enc : TypeId × Value → H) (W : World) (base : Nat) (args : Array Value) (ds gs : List (DataW H)) (before : List MemPlace)
    (hval0 : ∀ (j : Nat) t v,Tryz.f7.params[j]? = some t → args[j]? = some v → Value.okWide Tryz.prog W .any base t v)
    (hW : DataW.Whole enc Tryz.prog Tryz.f7.params.toList Rows.topReplaySpec.vars false W args.toList ds gs before) (hk : Rows.uptoSmall H (ds ++ gs) = true) (hsz0 : (DataW.weightsEach Tryz.prog (Tryz.f7.params.toList ++ Rows.topReplaySpec.plain.varTypes Tryz.prog) (ds ++ gs)).all (· ≤ reachBytes) = true) :
    Calls Tryz.prog 7 args W fun e W' => ∃ v,e = .returned v ∧ Rows.topReplaySpec.post enc Tryz.prog Tryz.f7 false true false false W args v W':=by
  have hsz : (DataW.weightsEach Tryz.prog (Tryz.f7.params.toList ++ Rows.topReplaySpec.plain.varTypes Tryz.prog) (ds ++ gs)).all (· ≤ reachBytes) = true:=hsz0
  have hval : ∀ (j : Nat) t v,Tryz.f7.params[j]? = some t → args[j]? = some v → Value.okWide Tryz.prog W .any base t v:=hval0
  have hW':=hW
  obtain ⟨p,q,hA0,hV,rfl,hfz,hnd⟩:=hW
  have hA : DataW.TrodAll enc Tryz.prog W 0 (fun _ => true) true Tryz.f7.params.toList args.toList ds p:=hA0
  rw [Tryz.params7] at hA hval hsz
  obtain ⟨v0,vs0,d0,ds0,p0,q0,hargs,rfl,rfl,h0,r0⟩:=trodAll_cons hA
  obtain ⟨v1,vs1,d1,ds1,p1,q1,rfl,rfl,rfl,h1,r1⟩:=trodAll_cons r0
  obtain ⟨v2,vs2,d2,ds2,p2,q2,rfl,rfl,rfl,h2,r2⟩:=trodAll_cons r1
  obtain ⟨rfl,rfl,rfl⟩:=trodAll_nil r2
  obtain rfl : args = #[v0,v1,v2]:=by cases args;simp_all
  obtain ⟨rfl,rfl⟩:=trodVars_none hV
  have k0:=h0
  have lt0 : ∀ x ∈ p0,x.block < W.heap.size:=by obtain ⟨m,hm⟩:=k0;exact DataW.trod_lt m _ _ _ hm
  have k1:=h1
  have lt1 : ∀ x ∈ p1,x.block < W.heap.size:=by obtain ⟨m,hm⟩:=k1;exact DataW.trod_lt m _ _ _ hm
  have k2:=h2
  have lt2 : ∀ x ∈ p2,x.block < W.heap.size:=by obtain ⟨m,hm⟩:=k2;exact DataW.trod_lt m _ _ _ hm
  obtain ⟨cs0,rfl,lf0_0⟩:=open_flat 12 [21,3,21,21,21,3,21,21,21,21,21,21,21,21,21,21,3,3,3,21,21,21,35,21,21,3,21] (by kernel_rfl) (by kernel_rfl) (by kernel_rfl) (hval 0 37 v0 rfl rfl) h0
  obtain ⟨c0_0,r0_0,rfl,y0_0,lf0_1⟩:=leafs_cons lf0_0
  obtain ⟨a0_0,rfl,w0_0⟩:=leaf_int Tryz.underlying21 y0_0
  obtain ⟨c0_1,r0_1,rfl,y0_1,lf0_2⟩:=leafs_cons lf0_1
  obtain ⟨a0_1,rfl,w0_1⟩:=leaf_int Tryz.underlying3 y0_1
  obtain ⟨c0_2,r0_2,rfl,y0_2,lf0_3⟩:=leafs_cons lf0_2
  obtain ⟨a0_2,rfl,w0_2⟩:=leaf_int Tryz.underlying21 y0_2
  obtain ⟨c0_3,r0_3,rfl,y0_3,lf0_4⟩:=leafs_cons lf0_3
  obtain ⟨a0_3,rfl,w0_3⟩:=leaf_int Tryz.underlying21 y0_3
  obtain ⟨c0_4,r0_4,rfl,y0_4,lf0_5⟩:=leafs_cons lf0_4
  obtain ⟨a0_4,rfl,w0_4⟩:=leaf_int Tryz.underlying21 y0_4
  obtain ⟨c0_5,r0_5,rfl,y0_5,lf0_6⟩:=leafs_cons lf0_5
  obtain ⟨a0_5,rfl,w0_5⟩:=leaf_int Tryz.underlying3 y0_5
  obtain ⟨c0_6,r0_6,rfl,y0_6,lf0_7⟩:=leafs_cons lf0_6
  obtain ⟨a0_6,rfl,w0_6⟩:=leaf_int Tryz.underlying21 y0_6
  obtain ⟨c0_7,r0_7,rfl,y0_7,lf0_8⟩:=leafs_cons lf0_7
  obtain ⟨a0_7,rfl,w0_7⟩:=leaf_int Tryz.underlying21 y0_7
  obtain ⟨c0_8,r0_8,rfl,y0_8,lf0_9⟩:=leafs_cons lf0_8
  obtain ⟨a0_8,rfl,w0_8⟩:=leaf_int Tryz.underlying21 y0_8
  obtain ⟨c0_9,r0_9,rfl,y0_9,lf0_10⟩:=leafs_cons lf0_9
  obtain ⟨a0_9,rfl,w0_9⟩:=leaf_int Tryz.underlying21 y0_9
  obtain ⟨c0_10,r0_10,rfl,y0_10,lf0_11⟩:=leafs_cons lf0_10
  obtain ⟨a0_10,rfl,w0_10⟩:=leaf_int Tryz.underlying21 y0_10
  obtain ⟨c0_11,r0_11,rfl,y0_11,lf0_12⟩:=leafs_cons lf0_11
  obtain ⟨a0_11,rfl,w0_11⟩:=leaf_int Tryz.underlying21 y0_11
  obtain ⟨c0_12,r0_12,rfl,y0_12,lf0_13⟩:=leafs_cons lf0_12
  obtain ⟨a0_12,rfl,w0_12⟩:=leaf_int Tryz.underlying21 y0_12
  obtain ⟨c0_13,r0_13,rfl,y0_13,lf0_14⟩:=leafs_cons lf0_13
  obtain ⟨a0_13,rfl,w0_13⟩:=leaf_int Tryz.underlying21 y0_13
  obtain ⟨c0_14,r0_14,rfl,y0_14,lf0_15⟩:=leafs_cons lf0_14
  obtain ⟨a0_14,rfl,w0_14⟩:=leaf_int Tryz.underlying21 y0_14
  obtain ⟨c0_15,r0_15,rfl,y0_15,lf0_16⟩:=leafs_cons lf0_15
  obtain ⟨a0_15,rfl,w0_15⟩:=leaf_int Tryz.underlying21 y0_15
  obtain ⟨c0_16,r0_16,rfl,y0_16,lf0_17⟩:=leafs_cons lf0_16
  obtain ⟨a0_16,rfl,w0_16⟩:=leaf_int Tryz.underlying3 y0_16
  obtain ⟨c0_17,r0_17,rfl,y0_17,lf0_18⟩:=leafs_cons lf0_17
  obtain ⟨a0_17,rfl,w0_17⟩:=leaf_int Tryz.underlying3 y0_17
  obtain ⟨c0_18,r0_18,rfl,y0_18,lf0_19⟩:=leafs_cons lf0_18
  obtain ⟨a0_18,rfl,w0_18⟩:=leaf_int Tryz.underlying3 y0_18
  obtain ⟨c0_19,r0_19,rfl,y0_19,lf0_20⟩:=leafs_cons lf0_19
  obtain ⟨a0_19,rfl,w0_19⟩:=leaf_int Tryz.underlying21 y0_19
  obtain ⟨c0_20,r0_20,rfl,y0_20,lf0_21⟩:=leafs_cons lf0_20
  obtain ⟨a0_20,rfl,w0_20⟩:=leaf_int Tryz.underlying21 y0_20
  obtain ⟨c0_21,r0_21,rfl,y0_21,lf0_22⟩:=leafs_cons lf0_21
  obtain ⟨a0_21,rfl,w0_21⟩:=leaf_int Tryz.underlying21 y0_21
  obtain ⟨c0_22,r0_22,rfl,y0_22,lf0_23⟩:=leafs_cons lf0_22
  obtain ⟨a0_22,len0_22,cap0_22,z0_22,rfl,w0_22⟩:=leaf_recs (ts:=[21,3,21]) 3 pointLay pointFit 12 Tryz.underlying35 (by kernel_rfl) (by kernel_rfl) rfl point_dec y0_22
  obtain ⟨c0_23,r0_23,rfl,y0_23,lf0_24⟩:=leafs_cons lf0_23
  obtain ⟨a0_23,rfl,w0_23⟩:=leaf_int Tryz.underlying21 y0_23
  obtain ⟨c0_24,r0_24,rfl,y0_24,lf0_25⟩:=leafs_cons lf0_24
  obtain ⟨a0_24,rfl,w0_24⟩:=leaf_int Tryz.underlying21 y0_24
  obtain ⟨c0_25,r0_25,rfl,y0_25,lf0_26⟩:=leafs_cons lf0_25
  obtain ⟨a0_25,rfl,w0_25⟩:=leaf_int Tryz.underlying3 y0_25
  obtain ⟨c0_26,r0_26,rfl,y0_26,lf0_27⟩:=leafs_cons lf0_26
  obtain ⟨a0_26,rfl,w0_26⟩:=leaf_int Tryz.underlying21 y0_26
  obtain rfl:=leafs_nil lf0_27
  obtain ⟨sa1,sl1,sc1,rfl⟩:=okWide_slice Tryz.underlying38 (hval 1 38 v1 rfl rfl)
  obtain ⟨a1,len1,cap1,z1,e1,w1⟩:=leaf_recsW (ts:=[9,21,21,21,3,3,3,3,4,3,4,3]) 12 inL InpOk 12 (Tryz.underlying38) (by kernel_rfl) (by kernel_rfl) rfl inp_dec (by obtain ⟨fuel,hf⟩:=h1;exact ⟨fuel,_,by simpa [Value.cells] using hf,weights_of hsz (j:=1) (t:=38) rfl rfl⟩)
  simp only [Value.slice.injEq] at e1
  obtain ⟨rfl,rfl,rfl⟩:=e1
  have R1:=Bulk.cap_small Tryz.underlying38 k1 (fun elems spare hd => by have h1:=Nat.le_trans (Bulk.part_le (d:=d1) (l:=[d0,d1,d2] ++ []) (by simp)) (Bulk.bound hk);rw [hd] at h1;have h2:=Bulk.slice_le elems spare;omega)
  obtain ⟨sa2,sl2,sc2,rfl⟩:=okWide_slice Tryz.underlying38 (hval 2 38 v2 rfl rfl)
  obtain ⟨a2,len2,cap2,z2,e2,w2⟩:=leaf_recsW (ts:=[9,21,21,21,3,3,3,3,4,3,4,3]) 12 inL InpOk 12 (Tryz.underlying38) (by kernel_rfl) (by kernel_rfl) rfl inp_dec (by obtain ⟨fuel,hf⟩:=h2;exact ⟨fuel,_,by simpa [Value.cells] using hf,weights_of hsz (j:=2) (t:=38) rfl rfl⟩)
  simp only [Value.slice.injEq] at e2
  obtain ⟨rfl,rfl,rfl⟩:=e2
  have R2:=Bulk.cap_small Tryz.underlying38 k2 (fun elems spare hd => by have h1:=Nat.le_trans (Bulk.part_le (d:=d2) (l:=[d0,d1,d2] ++ []) (by simp)) (Bulk.bound hk);rw [hd] at h1;have h2:=Bulk.slice_le elems spare;omega)
  clear hA0 hval0
  refine (law a0_0 a0_1 a0_2 a0_3 a0_4 a0_5 a0_6 a0_7 a0_8 a0_9 a0_10 a0_11 a0_12 a0_13 a0_14 a0_15 a0_16 a0_17 a0_18 a0_19 a0_20 a0_21 a0_22 len0_22 cap0_22 z0_22 a0_23 a0_24 a0_25 a0_26 sa1 sl1 sc1 z1 sa2 sl2 sc2 z2 W (bounds_i32 w0_0) (bounds_i64 w0_1) (bounds_i32 w0_2) (bounds_i32 w0_3) (bounds_i32 w0_4) (bounds_i64 w0_5) (bounds_i32 w0_6) (bounds_i32 w0_7) (bounds_i32 w0_8) (bounds_i32 w0_9) (bounds_i32 w0_10) (bounds_i32 w0_11) (bounds_i32 w0_12) (bounds_i32 w0_13) (bounds_i32 w0_14) (bounds_i32 w0_15) (bounds_i64 w0_16) (bounds_i64 w0_17) (bounds_i64 w0_18) (bounds_i32 w0_19) (bounds_i32 w0_20) (bounds_i32 w0_21) w0_22 (bounds_i32 w0_23) (bounds_i32 w0_24) (bounds_i64 w0_25) (bounds_i32 w0_26) w1 R1 w2 R2).mono fun e W' ⟨he,bel⟩ => ?_
  subst he
  exact ⟨_,rfl,_,_,_,[],_,[],hW',trodAll_mk1 (shut_bool Tryz.underlying4 _),(trodAll_cons_mk (Below.trod laidOut (by kernel_rfl) (of_decide_eq_true (by kernel_rfl)) k0 bel lt0) (trodAll_cons_mk (Below.trod laidOut (by kernel_rfl) (of_decide_eq_true (by kernel_rfl)) k1 bel lt1) (trodAll_cons_mk (Below.trod laidOut (by kernel_rfl) (of_decide_eq_true (by kernel_rfl)) k2 bel lt2) trodAll_mk0))),rfl,bel.frame _,fun h => by cases h⟩
set_option maxRecDepth 100000 in
theorem lifted (os : Os) (started : os.Started) (H : Type) (enc : TypeId × Value → H) (F : Stop.Interp) :
    ReturnsInHanded {} Tryz.checked os 7 .any ((Rows.OpenSpec.upto Rows.topReplaySpec).pre6 enc Tryz.prog Tryz.f7 Rows.topReplayUptoRow.domain false) (((Rows.OpenSpec.upto Rows.topReplaySpec).at F).post enc Tryz.prog Tryz.f7 false true false false):=by
  refine returnsInHanded_of_cond_sized (C:=Tryz.checked) (s:=Rows.OpenSpec.upto Rows.topReplaySpec) (k:=Rows.uptoSmall) rfl own started (by kernel_rfl) Tryz.func7
    (OpenSpec.witness (enc:=enc) (C:=Tryz.checked) (s:=Rows.OpenSpec.upto Rows.topReplaySpec) (k:=Rows.uptoSmall) rfl false ⟨#[],#[.agg #[.int .i32 0,.int .i64 0,.int .i32 0,.int .i32 0,.int .i32 0,.int .i64 0,.int .i32 0,.int .i32 0,.int .i32 0,.int .i32 0,.int .i32 0,.int .i32 0,.int .i32 0,.int .i32 0,.int .i32 0,.int .i32 0,.int .i64 0,.int .i64 0,.int .i64 0,.int .i32 0,.int .i32 0,.int .i32 0,.slice none 0 0,.int .i32 0,.int .i32 0,.int .i64 0,.int .i32 0],.slice none 0 0,.slice none 0 0],[]⟩ 8 (by kernel_rfl) (by kernel_rfl) (by kernel_rfl)
      (x:=([.agg [.agg [.lit (.int .i32 0),.lit (.int .i64 0),.lit (.int .i32 0),.lit (.int .i32 0)],.agg [.lit (.int .i32 0),.lit (.int .i64 0),.agg [.lit (.int .i32 0),.lit (.int .i32 0),.lit (.int .i32 0),.lit (.int .i32 0),.lit (.int .i32 0)]],.agg [.agg [.lit (.int .i32 0),.lit (.int .i32 0),.lit (.int .i32 0),.lit (.int .i32 0),.lit (.int .i32 0)],.agg [.lit (.int .i64 0),.lit (.int .i64 0),.lit (.int .i64 0)]],.agg [.lit (.int .i32 0),.lit (.int .i32 0),.lit (.int .i32 0)],.nil,.lit (.int .i32 0),.lit (.int .i32 0),.lit (.int .i64 0),.lit (.int .i32 0)],.nil,.nil],[],[])) (by kernel_rfl) rfl (by kernel_rfl)) ?_
  intro W base args ds gs before hval hW _ hk hsz _
  exact contract H enc W base args ds gs before hval hW hk hsz
theorem over : Rows.topReplayUptoRow.holds Tryz.pinned (Rows.OpenSpec.upto Rows.topReplaySpec) :=
  OpenClaim.holds_of_cond 7 Tryz.f7 rfl rfl rfl rfl rfl rfl rfl ⟨rfl,rfl,rfl,rfl,rfl⟩ rfl rfl rfl rfl rfl (by kernel_rfl) Tryz.func7 (by kernel_rfl)
    (of_decide_eq_true (by kernel_rfl)) (by unfold Func.isWrapper;first | (rw [if_pos (by decide +kernel)];kernel_rfl) | (rw [if_neg (by decide +kernel)];exact ⟨rfl,rfl⟩))
    (fun os started H enc _ F => lifted os started H enc F)
theorem proved : Rows.TopReplayUptoSaid:=over
#print axioms proved

end Go.Proofs.YtlagmebnjagoaaaGreat.topReplay
