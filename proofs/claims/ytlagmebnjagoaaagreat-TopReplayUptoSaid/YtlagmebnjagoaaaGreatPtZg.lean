/- A part of a proof. -/
import Derived.Great.Ranges
import Derived.Great.BuildSlice
import Derived.Test.YtlagmebnjagoaaaGreatPtQ
import Derived.Test.YtlagmebnjagoaaaGreatPtZb
import Derived.Test.YtlagmebnjagoaaaGreatPtZd
import Derived.Test.YtlagmebnjagoaaaGreatPtZc
set_option maxHeartbeats 16000000
set_option maxRecDepth 100000
namespace Go.Proofs.YtlagmebnjagoaaaGreat
open Go.ChangeShapes Go.WideShapes Go.ChangeAt Go.RowKit
set_option linter.unusedVariables false
theorem infoPt : (Tryz.prog.info? 83).map (fun i => (i.zero,i.size,i.bytes)) = some (some (.agg #[.int .i32 0,.int .i64 0,.int .i32 0]),3,24):=by kernel_rfl
theorem clone_pt (m : Nat) (news : List Value) (v : Value) (w : World) (hv : SrcAt w v 3 m news) (ho : ∀ u ∈ news,u.oneCell' = true) (hx : m * 24 ≤ 140737488351232) :
    Calls Tryz.prog 23 #[v] w (CatPost w 83 3 m news):=by
  obtain ⟨i0,hi,hz0,hz1,hz2⟩:=info_parts infoPt
  have hnil:=@Lib.run_eql_slice_nil Tryz.prog
  have hw0 : w.heap.size ≤ (w.alloc (.cells #[] 83)).heap.size:=by simp
  have how:=own_empty w 83 3
  have HS:=Lib.hid (hv.below ((Below.refl w.heap.size w).alloc (Nat.le_refl _) (.cells #[] 83)) (Nat.le_refl _))
  have HO:=Lib.hid ho
  rcases hv with ⟨c,rfl,rfl,rfl,rfl⟩ | ⟨ad,c,rfl,-⟩
  · go_enter Tryz.func23,Tryz.ntmps23
    go_wp2
    go_ret
    exact ⟨_,rfl,World.ownsRow_nil _ _ _ _,Below.refl _ _⟩
  · clear ho
    go_enter Tryz.func23,Tryz.ntmps23
    go_wp2_with (at_builtin;refine wpList_append_src rfl _ _ 35 rfl w.heap.size 83 i0 (.agg #[.int .i32 0,.int .i64 0,.int .i32 0]) 3 24 Tryz.underlying35 hi hz0 hz1 hz2 rfl (by decide) _ _ _ rfl how _ m news rfl HS.out HO.out (by unfold maxLen;omega) (by omega) hw0 ?_;intro v' w1 hown' hgrow)
    go_ret
    rw [Nat.zero_add,List.nil_append] at hown'
    exact ⟨_,rfl,hown',((Below.refl _ _).alloc (Nat.le_refl _) _).grown hgrow hw0 (fun k e => by cases e;exact Nat.le_refl _)⟩
theorem pt_one (xs : List PointR) : ∀ u ∈ xs.flatMap pointLay,u.oneCell' = true:=by
  intro u hu
  obtain ⟨x,-,hx⟩:=List.mem_flatMap.1 hu
  simp only [pointLay,List.mem_cons,List.not_mem_nil,or_false] at hx
  rcases hx with rfl | rfl | rfl <;> rfl
theorem new_no {S : Stp} {vp : Value} {w : World} (hp : RecsAt 3 pointLay w vp S.prof) (hl : S.prof.length ≤ 9223372036854775807) (hin : StpIn S) (hc : chkE S ≠ 0) :
    Calls Tryz.prog 10 #[stpV S vp] w fun e w' => e = .returned (.tuple #[.pointer none,.int .i64 (chkE S)]) ∧ Below w.heap.size w w':=by
  obtain ⟨ap,cp,hvp⟩:=hp.len
  subst hvp
  obtain ⟨w3,hw3⟩ : ∃ x,w.alloc (.cells #[.int .i32 S.gain,.int .i64 S.drag,.int .i32 S.low,.int .i32 S.high,.int .i32 S.rate,.int .i64 S.soft,.int .i32 S.P,.int .i32 S.I,.int .i32 S.D,.int .i32 S.lo,.int .i32 S.hi,.int .i32 S.m0,.int .i32 S.m1,.int .i32 S.m2,.int .i32 S.m3,.int .i32 S.m4,.int .i64 S.up,.int .i64 S.down,.int .i64 S.most,.int .i32 S.sum,.int .i32 S.wide,.int .i32 S.full,.slice ap S.prof.length cp,.int .i32 S.oh,.int .i32 S.ol,.int .i64 S.bits,.int .i32 S.trim] 37) = x:=⟨_,rfl⟩
  have HW3:=Lib.hid hw3
  have b3 : Below w.heap.size w w3:=hw3 ▸ (Below.refl _ _).alloc (Nat.le_refl _) _
  have C3 : CellsAt w3 w.heap.size (setA S (.slice ap S.prof.length cp)):=hw3 ▸ CellsAt.new' rfl rfl
  have HCK:=Lib.hid (check_is (hp.later pointLay_len b3 (Nat.le_refl _)) hl hin)
  obtain ⟨c,hcc⟩ : ∃ x,chkE S = x:=⟨_,rfl⟩
  rw [hcc] at HCK hc ⊢
  have d1 : (c == 0) = false:=by simpa using hc
  have B3:=Lib.hid b3
  have RNG:=Lib.hid C3.range
  have HI : Hid ((Tryz.prog.info? 37).map (·.size) = some 27):=Lib.hid (by kernel_rfl)
  clear hcc hp hl hin b3 hw3 C3
  go_enter Tryz.func10,Tryz.ntmps10
  go_upto_region 1 with (fail)
  rw [HW3.out]
  clear HW3
  go_wp2_with (refine wpList_load_mid rfl 37 (.tmp 1) rfl w.heap.size 0 rfl [.int .i32 S.gain,.int .i64 S.drag,.int .i32 S.low,.int .i32 S.high,.int .i32 S.rate,.int .i64 S.soft,.int .i32 S.P,.int .i32 S.I,.int .i32 S.D,.int .i32 S.lo,.int .i32 S.hi,.int .i32 S.m0,.int .i32 S.m1,.int .i32 S.m2,.int .i32 S.m3,.int .i32 S.m4,.int .i64 S.up,.int .i64 S.down,.int .i64 S.most,.int .i32 S.sum,.int .i32 S.wide,.int .i32 S.full,.slice ap S.prof.length cp,.int .i32 S.oh,.int .i32 S.ol,.int .i64 S.bits,.int .i32 S.trim] _ RNG.out Tryz.underlying37 rfl HI.out ?_)
  refine HCK.out.mono ?_
  rintro e4 w4 ⟨rfl,hb4⟩
  go_wp2_with fail
  exact bodyPost_ret (v:=.tuple #[.pointer none,.int .i64 c]) (by simp [results,Tryz.results10,go_sem]) rfl ⟨rfl,B3.out.trans (hb4.mono B3.out.size)⟩
theorem new_yes {S : Stp} {vp : Value} {w : World} (hp : RecsAt 3 pointLay w vp S.prof) (hS : StpOk S) (hav : ∀ c,S.av c → c < w.heap.size) :
    Calls Tryz.prog 10 #[stpV S vp] w fun e w' => ∃ b vp',e = .returned (.tuple #[ptr b,.int .i64 0]) ∧ w.heap.size ≤ b ∧ WAt w' b S newD vp' (.slice none 0 0) (.slice none 0 0) ∧ Below w.heap.size w w' ∧ w'.ownsRow w.heap.size 83 3 vp' S.prof.length (S.prof.flatMap pointLay):=by
  have hl : S.prof.length ≤ 16:=hS.pts.2.1
  obtain ⟨ap,cp,hvp⟩:=hp.len
  subst hvp
  obtain ⟨w3,hw3⟩ : ∃ x,w.alloc (.cells #[.int .i32 S.gain,.int .i64 S.drag,.int .i32 S.low,.int .i32 S.high,.int .i32 S.rate,.int .i64 S.soft,.int .i32 S.P,.int .i32 S.I,.int .i32 S.D,.int .i32 S.lo,.int .i32 S.hi,.int .i32 S.m0,.int .i32 S.m1,.int .i32 S.m2,.int .i32 S.m3,.int .i32 S.m4,.int .i64 S.up,.int .i64 S.down,.int .i64 S.most,.int .i32 S.sum,.int .i32 S.wide,.int .i32 S.full,.slice ap S.prof.length cp,.int .i32 S.oh,.int .i32 S.ol,.int .i64 S.bits,.int .i32 S.trim] 37) = x:=⟨_,rfl⟩
  have HW3:=Lib.hid hw3
  have b3 : Below w.heap.size w w3:=hw3 ▸ (Below.refl _ _).alloc (Nat.le_refl _) _
  have C3 : CellsAt w3 w.heap.size (setA S (.slice ap S.prof.length cp)):=hw3 ▸ CellsAt.new' rfl rfl
  have HC3:=Lib.hid C3
  have HP3:=Lib.hid (hp.later pointLay_len b3 (Nat.le_refl _))
  have hck:=check_is HP3.out (by omega) hS.inn
  rw [chkE_ok hS] at hck
  have HCK:=Lib.hid hck
  have B3:=Lib.hid b3
  have RNG:=Lib.hid C3.range
  have HI : Hid ((Tryz.prog.info? 37).map (·.size) = some 27):=Lib.hid (by kernel_rfl)
  clear hp hS b3 hw3 C3 hck
  go_enter Tryz.func10,Tryz.ntmps10
  go_upto_region 1 with (fail)
  rw [HW3.out]
  clear HW3
  go_wp2_with (refine wpList_load_mid rfl 37 (.tmp 1) rfl w.heap.size 0 rfl [.int .i32 S.gain,.int .i64 S.drag,.int .i32 S.low,.int .i32 S.high,.int .i32 S.rate,.int .i64 S.soft,.int .i32 S.P,.int .i32 S.I,.int .i32 S.D,.int .i32 S.lo,.int .i32 S.hi,.int .i32 S.m0,.int .i32 S.m1,.int .i32 S.m2,.int .i32 S.m3,.int .i32 S.m4,.int .i64 S.up,.int .i64 S.down,.int .i64 S.most,.int .i32 S.sum,.int .i32 S.wide,.int .i32 S.full,.slice ap S.prof.length cp,.int .i32 S.oh,.int .i32 S.ol,.int .i64 S.bits,.int .i32 S.trim] _ RNG.out Tryz.underlying37 rfl HI.out ?_)
  refine HCK.out.mono ?_
  rintro e4 w4 ⟨rfl,hb4⟩
  have C4:=HC3.out.call hb4
  have HC4:=Lib.hid C4
  have B4:=Lib.hid (B3.out.trans (hb4.mono B3.out.size))
  have HP4:=Lib.hid (HP3.out.later pointLay_len hb4 (Nat.le_refl _))
  clear hb4 HCK RNG
  have y22:=C4.at_ 22 rfl;have yz:=C4.lt
  clear C4
  go_upto_region 4 with (fail)
  go_wp2_with fail
  refine (clone_pt S.prof.length (S.prof.flatMap pointLay) _ _ (src_recs HP4.out (by decide) pointLay_len) (pt_one _) (by omega)).mono ?_
  rintro e5 w5 ⟨v5,rfl,hown5,hb5⟩
  obtain ⟨a5,c5,hv5⟩:=own_sliceW hown5
  subst hv5
  have C5:=HC4.out.call hb5
  have HC5:=Lib.hid (C5.set_ 22 (by simp [setA]) (.slice a5 S.prof.length c5))
  have B5:=Lib.hid ((B4.out.trans (hb5.mono B4.out.size)).setCell (p:=⟨w.heap.size,22,none⟩) (Nat.le_refl _) (.slice a5 S.prof.length c5))
  have hz5 : w.heap.size < w4.heap.size:=HC4.out.lt
  have HO5 : Hid ((w5.setCell ⟨w.heap.size,22,none⟩ (.slice a5 S.prof.length c5)).ownsRow (w.heap.size + 1) 83 3 (.slice a5 S.prof.length c5) S.prof.length (S.prof.flatMap pointLay)):=Lib.hid (own_mono4 (hown5.kept (grown_setW w5 w.heap.size 22 _) (.inr (fun e => by have:=(hown5.lt _ e).1;omega))) (by omega))
  have y22:=C5.at_ 22 rfl;have f22:=C5.2.1 22;have yz:=C5.lt
  clear C5 hb5 hown5
  go_upto_region 5 with (fail)
  have RNG : Hid ((w5.setCell ⟨w.heap.size,22,none⟩ (.slice a5 S.prof.length c5)).rangeAt w.heap.size 0 [.int .i32 S.gain,.int .i64 S.drag,.int .i32 S.low,.int .i32 S.high,.int .i32 S.rate,.int .i64 S.soft,.int .i32 S.P,.int .i32 S.I,.int .i32 S.D,.int .i32 S.lo,.int .i32 S.hi,.int .i32 S.m0,.int .i32 S.m1,.int .i32 S.m2,.int .i32 S.m3,.int .i32 S.m4,.int .i64 S.up,.int .i64 S.down,.int .i64 S.most,.int .i32 S.sum,.int .i32 S.wide,.int .i32 S.full,(.slice a5 S.prof.length c5),.int .i32 S.oh,.int .i32 S.ol,.int .i64 S.bits,.int .i32 S.trim]):=Lib.hid HC5.out.range
  obtain ⟨w6,hw6⟩ : ∃ x,w5.setCell ⟨w.heap.size,22,none⟩ (.slice a5 S.prof.length c5) = x:=⟨_,rfl⟩
  rw [hw6] at HC5 B5 HO5 RNG ⊢
  clear hw6 y22 f22 yz HC4 B4 HP4
  obtain ⟨LL,hLL⟩ : ∃ x,lay S newD (.slice a5 S.prof.length c5) (.slice none 0 0) (.slice none 0 0) = x:=⟨_,rfl⟩
  have HLL:=Lib.hid hLL
  clear hLL
  go_wp2_with (first | (refine wpList_load_mid rfl 37 (.tmp 1) rfl w.heap.size 0 rfl [.int .i32 S.gain,.int .i64 S.drag,.int .i32 S.low,.int .i32 S.high,.int .i32 S.rate,.int .i64 S.soft,.int .i32 S.P,.int .i32 S.I,.int .i32 S.D,.int .i32 S.lo,.int .i32 S.hi,.int .i32 S.m0,.int .i32 S.m1,.int .i32 S.m2,.int .i32 S.m3,.int .i32 S.m4,.int .i64 S.up,.int .i64 S.down,.int .i64 S.most,.int .i32 S.sum,.int .i32 S.wide,.int .i32 S.full,(.slice a5 S.prof.length c5),.int .i32 S.oh,.int .i32 S.ol,.int .i64 S.bits,.int .i32 S.trim] _ RNG.out Tryz.underlying37 rfl HI.out ?_) | (refine wpList_buildTo rfl 103 _ rfl _ rfl LL.toArray (by rw [← HLL.out];kernel_rfl) ?_) | (refine wpList_boxTo rfl 103 _ rfl _ rfl _ rfl LL.toArray rfl ?_))
  refine bodyPost_ret (v:=.tuple #[ptr w6.heap.size,.int .i64 0]) (by simp [results,Tryz.results10,go_sem]) rfl ⟨_,_,rfl,B5.out.size,?_,B5.out.alloc B5.out.size _,own_mono4 (HO5.out.alloc _) (by omega)⟩
  have hb : w.heap.size + 1 ≤ w6.heap.size:=HC5.out.lt
  exact ⟨CellsAt.new' rfl (by rw [HLL.out]),(own_recs HO5.out pointLay_len).later pointLay_len ((Below.refl _ _).alloc (Nat.le_refl _) _) (Nat.le_refl _),own_ints' (World.ownsRow_nil _ 0 21 1),own_recs (World.ownsRow_nil _ 0 72 4) entLay_len,⟨fun b1 o n l c e => (by have:=(HO5.out.lt b1 (by rw [e];rfl)).2;omega),fun c hc => OffB.own HO5.out (by have:=hav c hc;omega),fun b' o n l c e => (by have:=(HO5.out.lt b' (by rw [e];rfl)).2;simp;omega)⟩,⟨OffB.nil _,fun _ _ => OffB.nil _,fun b' o n l c e => by cases e⟩,⟨OffB.nil _,fun _ _ => OffB.nil _,fun b' o n l c e => by cases e⟩,fun c hc => (by have:=hav c hc;simp;omega)⟩
def nomS : Stp:={ gain:=8192,drag:=0,low:=-6553600,high:=6553600,rate:=131072,soft:=1,P:=32768,I:=0,D:=0,lo:=-524288,hi:=524288,m0:=65536,m1:=65536,m2:=2621440,m3:=786432,m4:=0,up:=2,down:=1,most:=10,sum:=655360,wide:=65536,full:=6553600,oh:=32768,ol:=16384,bits:=3,trim:=131072,prof:=[(655360,60,131072),(-655360,60,131072)],av:=fun _ => False }
theorem nom_in : StpIn nomS:=by
  refine ⟨?_,?_,?_,?_,?_,?_,?_,?_,?_,?_,?_,?_,?_,?_,?_,?_,?_,?_,?_,?_,?_,?_,?_,?_,?_,?_,?_⟩ <;> first | (simp only [nomS];omega) | skip
  intro y hy
  simp only [nomS,List.mem_cons,List.not_mem_nil,or_false] at hy
  rcases hy with rfl | rfl <;> (unfold pointFit;simp)
theorem nom_ok : StpOk nomS:={
  inn:=nom_in
  ram:=by unfold ramBad;simp only [nomS];omega
  srv:=by unfold ServoOk pidBad;simp only [nomS];omega
  wat:=by simp only [nomS];omega
  cnt:=by unfold CountOk;simp only [nomS];omega
  pts:=by
    refine ⟨by decide,by decide,fun i x hx => ?_⟩
    rcases i with _ | _ | i
    · simp [nomS] at hx;subst hx;unfold ptOk;simp
    · simp [nomS] at hx;subst hx;unfold ptOk;simp
    · simp [nomS] at hx
  sns:=by simp only [nomS];omega
  oil:=by simp only [nomS];omega
  evn:=by simp only [nomS];omega }
theorem nominal_is (w : World) : Calls Tryz.prog 14 #[] w fun e w' => ∃ g,e = .returned (stpV nomS (.slice (some ⟨g,0,none⟩) 2 2)) ∧ w'.ownsRow w.heap.size 83 3 (.slice (some ⟨g,0,none⟩) 2 2) 2 (nomS.prof.flatMap pointLay) ∧ Below w.heap.size w w':=by
  have HI : Hid ((Tryz.prog.info? 37).map (·.size) = some 27):=Lib.hid (by kernel_rfl)
  obtain ⟨w3,hw3⟩ : ∃ x,w.alloc (.cells #[.int .i32 0,.int .i64 0,.int .i32 0,.int .i32 0,.int .i32 0,.int .i64 0,.int .i32 0,.int .i32 0,.int .i32 0,.int .i32 0,.int .i32 0,.int .i32 0,.int .i32 0,.int .i32 0,.int .i32 0,.int .i32 0,.int .i64 0,.int .i64 0,.int .i64 0,.int .i32 0,.int .i32 0,.int .i32 0,.slice none 0 0,.int .i32 0,.int .i32 0,.int .i64 0,.int .i32 0] 37) = x:=⟨_,rfl⟩
  have Z3 : CellsAt w3 w.heap.size [.int .i32 0,.int .i64 0,.int .i32 0,.int .i32 0,.int .i32 0,.int .i64 0,.int .i32 0,.int .i32 0,.int .i32 0,.int .i32 0,.int .i32 0,.int .i32 0,.int .i32 0,.int .i32 0,.int .i32 0,.int .i32 0,.int .i64 0,.int .i64 0,.int .i64 0,.int .i32 0,.int .i32 0,.int .i32 0,.slice none 0 0,.int .i32 0,.int .i32 0,.int .i64 0,.int .i32 0]:=hw3 ▸ CellsAt.new' rfl rfl
  have z3 : w3.heap.size = w.heap.size + 1:=by rw [← hw3];simp
  have B3 : Below w.heap.size w w3:=hw3 ▸ (Below.refl _ _).alloc (Nat.le_refl _) _
  obtain ⟨w4,hw4⟩ : ∃ x,w3.alloc (.cells #[.int .i32 655360,.int .i64 60,.int .i32 131072,.int .i32 (-655360),.int .i64 60,.int .i32 131072] 83) = x:=⟨_,rfl⟩
  have Z4 : CellsAt w4 w.heap.size [.int .i32 0,.int .i64 0,.int .i32 0,.int .i32 0,.int .i32 0,.int .i64 0,.int .i32 0,.int .i32 0,.int .i32 0,.int .i32 0,.int .i32 0,.int .i32 0,.int .i32 0,.int .i32 0,.int .i32 0,.int .i32 0,.int .i64 0,.int .i64 0,.int .i64 0,.int .i32 0,.int .i32 0,.int .i32 0,.slice none 0 0,.int .i32 0,.int .i32 0,.int .i64 0,.int .i32 0]:=hw4 ▸ Z3.alloc _
  have O4 : w4.ownsRow w3.heap.size 83 3 (.slice (some ⟨w3.heap.size,0,none⟩) 2 2) 2 #[.int .i32 655360,.int .i64 60,.int .i32 131072,.int .i32 (-655360),.int .i64 60,.int .i32 131072].toList:=hw4 ▸ World.ownsRow_lit w3 #[.int .i32 655360,.int .i64 60,.int .i32 131072,.int .i32 (-655360),.int .i64 60,.int .i32 131072] 2 (Nat.le_refl _) (by unfold maxLen;omega) rfl
  have HTH : Hid (w4.there w.heap.size 0 (setA nomS (.slice (some ⟨w3.heap.size,0,none⟩) 2 2)).toArray.size):=Lib.hid (Z4.there (n:=27) (Nat.le_refl _))
  have HRG:=Lib.hid (Z4.row (setA nomS (.slice (some ⟨w3.heap.size,0,none⟩) 2 2)) rfl)
  have HOW:=Lib.hid (own_setCells O4 (by omega : w.heap.size < w3.heap.size) 0 (setA nomS (.slice (some ⟨w3.heap.size,0,none⟩) 2 2)))
  have HBE:=Lib.hid (below_setCells (Nat.le_refl _) (setA nomS (.slice (some ⟨w3.heap.size,0,none⟩) 2 2)) 0 w4 (hw4 ▸ B3.alloc (by omega) _))
  have HON : Hid ((setA nomS (.slice (some ⟨w3.heap.size,0,none⟩) 2 2)).toArray.all (·.oneCell') = true):=Lib.hid (by kernel_rfl)
  have HW3:=Lib.hid hw3
  have HW4:=Lib.hid hw4
  have Hz3:=Lib.hid z3
  clear Z3 Z4 O4 B3 hw3 hw4 z3
  go_enter Tryz.func14,Tryz.ntmps14
  go_upto_region 1 with (fail)
  rw [HW3.out]
  go_wp2_with (first | (refine wpList_buildTo rfl 37 _ rfl _ rfl (setA nomS (.slice (some ⟨w3.heap.size,0,none⟩) 2 2)).toArray (by kernel_rfl) ?_) | (refine wpList_store_mid rfl 37 (.tmp 0) (.tmp 11) rfl w.heap.size 0 (setA nomS (.slice (some ⟨w3.heap.size,0,none⟩) 2 2)).toArray rfl rfl (by rw [HW4.out];exact HTH.out) HI.out HON.out ?_))
  rw [HW4.out]
  exact bodyPost_ret (v:=stpV nomS (.slice (some ⟨w3.heap.size,0,none⟩) 2 2)) (results_cell_mid rfl _ _ w.heap.size (setA nomS (.slice (some ⟨w3.heap.size,0,none⟩) 2 2)) _ rfl HRG.out.range Tryz.underlying37 rfl HI.out) rfl ⟨_,rfl,own_mono4 HOW.out (by have:=Hz3.out;omega),HBE.out⟩
def calmI : Inp:={ cmd:=⟨#[]⟩,p0:=65536,p1:=65536,load:=0,f:=fun _ => 0,ground:=true,ask:=0,tries:=false,reset:=-1 }
theorem calm_is (w : World) : Calls Tryz.prog 15 #[] w fun e w' => e = .returned (inV calmI) ∧ Below w.heap.size w w':=by
  have HI : Hid ((Tryz.prog.info? 48).map (·.size) = some 12):=Lib.hid (by kernel_rfl)
  obtain ⟨w3,hw3⟩ : ∃ x,w.alloc (.cells #[.string ⟨#[]⟩,.int .i32 0,.int .i32 0,.int .i32 0,.int .i64 0,.int .i64 0,.int .i64 0,.int .i64 0,.bool false,.int .i64 0,.bool false,.int .i64 0] 48) = x:=⟨_,rfl⟩
  have Z3 : CellsAt w3 w.heap.size [.string ⟨#[]⟩,.int .i32 0,.int .i32 0,.int .i32 0,.int .i64 0,.int .i64 0,.int .i64 0,.int .i64 0,.bool false,.int .i64 0,.bool false,.int .i64 0]:=hw3 ▸ CellsAt.new' rfl rfl
  have B3 : Below w.heap.size w w3:=hw3 ▸ (Below.refl _ _).alloc (Nat.le_refl _) _
  have HTH : Hid (w3.there w.heap.size 0 (inL calmI).toArray.size):=Lib.hid (Z3.there (n:=12) (Nat.le_refl _))
  have HRG:=Lib.hid (Z3.row (inL calmI) rfl)
  have HBE:=Lib.hid (below_setCells (Nat.le_refl _) (inL calmI) 0 w3 B3)
  have HON : Hid ((inL calmI).toArray.all (·.oneCell') = true):=Lib.hid (by kernel_rfl)
  have HW3:=Lib.hid hw3
  clear Z3 B3 hw3
  go_enter Tryz.func15,Tryz.ntmps15
  go_upto_region 1 with (fail)
  rw [HW3.out]
  go_wp2_with (first | (refine wpList_buildTo rfl 48 _ rfl _ rfl (inL calmI).toArray (by kernel_rfl) ?_) | (refine wpList_store_mid rfl 48 (.tmp 0) (.tmp 2) rfl w.heap.size 0 (inL calmI).toArray rfl rfl HTH.out HI.out HON.out ?_))
  exact bodyPost_ret (v:=inV calmI) (results_cell_mid rfl _ _ w.heap.size (inL calmI) _ rfl HRG.out.range Tryz.underlying48 rfl HI.out) rfl ⟨rfl,HBE.out⟩
theorem command_is (q x : Int) (w : World) (hq : 0 ≤ q ∧ q ≤ 255) (hx : -2147483648 ≤ x ∧ x ≤ 2147483647) : Calls Tryz.prog 17 #[.int .u8 q,.int .i32 x] w fun e w' => e = .returned (.string (packS 2 0 q [x])) ∧ Below w.heap.size w w':=by
  obtain ⟨w4,hw4⟩ : ∃ y,w.alloc (.cells #[.int .i32 x] 21) = y:=⟨_,rfl⟩
  have O4 : w4.ownsRow w.heap.size 21 1 (.slice (some ⟨w.heap.size,0,none⟩) 1 1) 1 #[.int .i32 x].toList:=hw4 ▸ World.ownsRow_lit w #[.int .i32 x] 1 (Nat.le_refl _) (by unfold maxLen;omega) rfl
  have HPK:=Lib.hid (pack_yes 2 0 q (.slice (some ⟨w.heap.size,0,none⟩) 1 1) [x] w4 (own_ints' O4) (.inr rfl) (by omega) hq (by simp) (by simpa using hx))
  have HB : Hid (Below w.heap.size w w4):=Lib.hid (hw4 ▸ (Below.refl _ _).alloc (Nat.le_refl _) _)
  have HW4:=Lib.hid hw4
  clear O4 hw4
  go_enter Tryz.func17,Tryz.ntmps17
  go_wp2_with fail
  rw [HW4.out]
  refine HPK.out.mono ?_
  rintro e5 w5 ⟨rfl,hb5⟩
  go_wp2_with fail
  go_ret
  exact ⟨rfl,HB.out.trans (hb5.mono HB.out.size)⟩
theorem sat32_of {n : Int} (h : -2147483648 ≤ n ∧ n ≤ 2147483647) : sat32 n = n:=by unfold sat32;omega
theorem blind0 : blindB 0 = false:=by kernel_rfl
theorem stuck0 : stuckB 0 = false:=by kernel_rfl
def seen (x : Int) : Int:=100 * x.tdiv 100
theorem tdiv_pos {a b : Int} (h : 0 ≤ a) : a.tdiv b = a / b:=Int.tdiv_eq_ediv_of_nonneg h
theorem tdiv_negI {a b : Int} : (-a).tdiv b = -(a.tdiv b):=Int.neg_tdiv _ _
theorem seen_bd {x : Int} : x - 99 ≤ seen x ∧ seen x ≤ x + 99 ∧ (0 ≤ x → 0 ≤ seen x ∧ seen x ≤ x) ∧ (x ≤ 0 → x ≤ seen x ∧ seen x ≤ 0):=by
  unfold seen
  by_cases h : 0 ≤ x
  · rw [tdiv_pos h];omega
  · obtain ⟨y,rfl⟩ : ∃ y,x = -y:=⟨-x,by omega⟩
    rw [tdiv_negI,tdiv_pos (by omega)];omega
theorem tdiv_mul {a b c : Int} (hb : 0 < b) (hc : 0 < c) : (a * c).tdiv (b * c) = a.tdiv b:=Int.mul_tdiv_mul_of_pos_left _ _ hc
theorem sense_nom {x : Int} (h : -6553600 ≤ x ∧ x ≤ 6553600) : snsP nomS x 0 = seen x ∧ snsO nomS x 0 = true:=by
  obtain ⟨q,hq⟩ : ∃ q,x.tdiv 100 = q:=⟨_,rfl⟩
  have hs:=@seen_bd x
  unfold seen at hs
  rw [hq] at hs
  have hqb : -65536 ≤ q ∧ q ≤ 65536:=by omega
  have e1 : divI x 6553600 = q:=by
    unfold divI
    rw [if_pos (by decide),show (6553600 : Int) = 100 * 65536 from rfl,tdiv_mul (by decide) (by decide),hq]
    exact sat32_of (by omega)
  have e2 : mulI q 655360 = 10 * q:=by unfold mulI nearI;rw [sat32_of (by omega)];omega
  have e3 : coilX nomS x = 10 * q:=by
    unfold coilX;simp only [nomS];rw [e1,e2];unfold clampI;omega
  have e4 : coilH nomS x = 327680 + 5 * q:=by
    unfold coilH;rw [e3];simp only [nomS];rw [tdiv_pos (by omega)];omega
  have e5 : coilA nomS x 0 = 327680 + 5 * q:=by unfold coilA;rw [blind0,e4];rfl
  have e6 : coilB nomS x = 327680 - 5 * q:=by unfold coilB;rw [e4];simp only [nomS];omega
  have e7 : snsO nomS x 0 = true:=by
    have h1 : ¬ ((655360 : Int) < 1 ∨ (65536 : Int) < 0 ∨ (6553600 : Int) < 0):=by omega
    have h2 : ¬ ((65536 : Int) < 327680 + 5 * q + (327680 - 5 * q) - 655360 ∨ (65536 : Int) < -(327680 + 5 * q + (327680 - 5 * q) - 655360) ∨ 327680 + 5 * q + (327680 - 5 * q) < 1):=by omega
    unfold snsO;rw [e5,e6]
    exact (if_neg h1).trans (if_neg h2)
  refine ⟨?_,e7⟩
  unfold snsP sensP
  have e8 : sensOk (coilA nomS x 0) (coilB nomS x) nomS.sum nomS.wide nomS.full = true:=e7
  rw [e8,if_pos rfl]
  unfold senseP
  rw [e5,e6]
  have a1 : sat32 (327680 + 5 * q - (327680 - 5 * q)) = 10 * q:=by rw [sat32_of (by omega)];omega
  have a2 : sat32 (327680 + 5 * q + (327680 - 5 * q)) = 655360:=by rw [sat32_of (by omega)];omega
  rw [a1,a2]
  have a3 : divI (10 * q) 655360 = q:=by
    unfold divI
    rw [if_pos (by decide),show (10 * q * 65536 : Int) = q * 655360 from by omega,Int.mul_tdiv_cancel _ (by decide)]
    exact sat32_of (by omega)
  rw [a3]
  simp only [nomS]
  unfold mulI nearI seen
  rw [sat32_of (by omega),hq]
  omega
theorem mid_const (m : Int) : midI [m,m,m,m] = m:=by
  have:=midI_mem (xs:=[m,m,m,m]) (by simp)
  simpa using this
theorem mid_nom {x : Int} {F : Nat → Int} (h : -6553600 ≤ x ∧ x ≤ 6553600) (hF : ∀ j,j < 4 → F j = 0) : midS nomS x F = seen x:=by
  have h0:=hF 0 (by omega);have h1:=hF 1 (by omega);have h2:=hF 2 (by omega);have h3:=hF 3 (by omega)
  have e : midV nomS x F = (seen x,0):=by
    unfold midV
    simp only [p4,b4,h0,h1,h2,h3,(sense_nom h).1,(sense_nom h).2]
    show voteE [seen x,seen x,seen x,seen x] [true,true,true,true] = _
    unfold voteE
    rw [if_pos (by rfl)]
    show midE [seen x,seen x,seen x,seen x] = _
    unfold midE
    rw [if_neg (by simp),if_neg (by simp),mid_const]
  unfold midS;rw [e];rfl
theorem mulI_zero (e : Int) : mulI 0 e = 0:=by unfold mulI nearI;rw [Int.zero_mul];decide
def gS (g W : Int) : Int:=clampI W (g - 131072) (g + 131072)
def toldS (e : Int) : Int:=clampI ((e + 1) / 2) (-524288) 524288
def vS (v g W x : Int) : Int:=towardI v (toldS (gS g W - seen x)) 2
def xS (x v : Int) : Int:=clampI (x + (v + 2) / 4) (-6553600) 6553600
def tS (t W : Int) : Int:=clampI (gS t W) (-6553600) 6553600
def In (x : Int) : Prop:=-6553600 ≤ x ∧ x ≤ 6553600
theorem gS_in {g W : Int} (hg : In g) (hW : In W) : In (gS g W):=by unfold In gS clampI at *;omega
theorem tS_in (t W : Int) : In (tS t W):=by unfold In tS clampI;omega
theorem xS_in (x v : Int) : In (xS x v):=by unfold In xS clampI;omega
theorem toldS_bd (e : Int) : -524288 ≤ toldS e ∧ toldS e ≤ 524288:=by unfold toldS clampI;omega
theorem vS_bd {v g W x : Int} (h : -524288 ≤ v ∧ v ≤ 524288) : -524288 ≤ vS v g W x ∧ vS v g W x ≤ 524288:=by
  have h1:=toldS_bd (gS g W - seen x)
  have h2:=towardI_bd v (toldS (gS g W - seen x)) 2 (by decide)
  unfold vS;omega
theorem seen_in {x : Int} (h : In x) : In (seen x):=by
  have:=@seen_bd x;unfold In at *
  by_cases h0 : 0 ≤ x
  · have:=this.2.2.1 h0;omega
  · have:=this.2.2.2 (by omega);omega
theorem rate_nom {g W : Int} (hg : In g) : rateI g W 131072 = gS g W:=by
  unfold In at hg
  unfold rateI gS
  rw [show sat32 (absI 131072) = 131072 from by decide,sat32_of (by omega),sat32_of (by omega)]
theorem told_nom {l e : Int} (he : -20000000 ≤ e ∧ e ≤ 20000000) : pidTold 32768 0 0 (-524288) 524288 0 l e = toldS e ∧ pidNext 32768 0 0 (-524288) 524288 0 l e = 0:=by
  have hs : pidSum 0 (-524288) 524288 0 e = 0:=by unfold pidSum;rw [mulI_zero];decide
  have hm : mulI 32768 e = (e + 1) / 2:=by unfold mulI nearI;rw [sat32_of (by omega)];omega
  constructor
  · unfold pidTold pidOut toldS
    have hX : sat32 ((e + 1) / 2) = (e + 1) / 2:=sat32_of (by omega)
    simp only [hs,hm,mulI_zero,Int.add_zero,hX]
  · unfold pidNext;split
    · rfl
    · exact hs
theorem step_nom {g v W x l : Int} (hg : In g) (hW : In W) (hx : In x) : stepD nomS W (seen x) (g,0,l,v) = (gS g W,0,gS g W - seen x,vS v g W x):=by
  have h1:=gS_in hg hW;have h2:=seen_in hx
  have h3 : sat32 (gS g W - seen x) = gS g W - seen x:=sat32_of (by unfold In at h1 h2;omega)
  have h4:=told_nom (l:=l) (e:=gS g W - seen x) (by unfold In at h1 h2;omega)
  show (rateI g W 131072,pidNext 32768 0 0 (-524288) 524288 0 l (sat32 (rateI g W 131072 - seen x)),sat32 (rateI g W 131072 - seen x),towardI v (pidTold 32768 0 0 (-524288) 524288 0 l (sat32 (rateI g W 131072 - seen x))) (2 ^ (1 : Int).toNat)) = _
  rw [rate_nom hg,h3,h4.1,h4.2]
  rfl
theorem push_nom {v : Int} (h : -524288 ≤ v ∧ v ≤ 524288) : pushedI 1 v 65536 = v:=by
  unfold pushedI
  rw [if_pos rfl,show max (0 : Int) 65536 = 65536 from by decide]
  unfold mulI nearI;rw [sat32_of (by omega)];omega
theorem fight_nom {v : Int} (h : -524288 ≤ v ∧ v ≤ 524288) : fightI 1 1 0 0 v v 0 0 1 v = 0:=by
  unfold fightI
  rw [if_pos rfl]
  have e1 : fSum 1 1 0 0 v v 0 0 4 = 2 * v:=by simp [fSum,actI];omega
  have e2 : fMany 1 1 0 0 4 = 2:=by decide
  rw [e1,e2,Int.mul_tdiv_cancel_left _ (by decide),Int.sub_self];decide
theorem ram_nom {x v : Int} (hx : In x) (h : -524288 ≤ v ∧ v ≤ 524288) : ramPos 8192 0 (-6553600) 6553600 x 0 (sel 1 1 0 0) (sel v v 0 0) = xS x v:=by
  unfold In at hx
  have e1 : forceK (sel 1 1 0 0) (sel v v 0 0) 0 4 = 2 * v:=by
    simp only [forceK,pushI,sel]
    simp only [Int.neg_zero,if_true,if_false,Int.zero_ne_one,sat32_of (show -2147483648 ≤ (0 : Int) ∧ (0 : Int) ≤ 2147483647 by omega),Int.zero_add,sat32_of (show -2147483648 ≤ v ∧ v ≤ 2147483647 by omega)]
    rw [sat32_of (by omega)];omega
  have e2 : dragK (sel 1 1 0 0) 0 4 = 0:=by decide
  unfold ramPos wayI
  rw [e1,e2]
  have e3 : mulI 8192 (2 * v) = (v + 2) / 4:=by unfold mulI nearI;rw [sat32_of (by omega)];omega
  rw [e3]
  have e4 : shiftI ((v + 2) / 4) (-0) = (v + 2) / 4:=by
    unfold shiftI
    rw [if_neg (by decide)]
    show sat32 ((v + 2) / 4 * 2 ^ (0 : Nat)) = _
    rw [Int.pow_zero,Int.mul_one,sat32_of (by omega)]
  rw [e4,sat32_of (by omega)]
  rfl
structure Heal (D : Dyn) (g v x t W : Int) : Prop where
  oa : D.oa = true
  ob : D.ob = true
  ok : ∀ j,j < 4 → OkS (D.team j)
  tf : ∀ j,j < 4 → (D.team j).2.1 = false
  tm : ∀ j,j < 4 → (D.team j).1 = if j < 2 then 1 else 0
  dv : ∀ j,j < 2 → ∃ l,D.drv j = (g,0,l,v)
  off : ∀ j,j < 4 → D.off j = 0
  cn : ∀ j k,j < 2 → D.cnts j k = (0,false)
  lost : D.lost = false
  pos : D.pos = x
  track : D.track = t
  want : D.want = W
  hx : In x
  hg : In g
  hW : In W
  ht : In t
  hv : -524288 ≤ v ∧ v ≤ 524288
structure Still (I : Inp) : Prop where
  p0 : I.p0 = 65536
  p1 : I.p1 = 65536
  load : I.load = 0
  f : ∀ j,j < 4 → I.f j = 0
theorem anyI_no {C : Cnts} : ∀ k,(∀ i,i < k → (C i).2 = false) → anyI C k = false
  | 0,_ => rfl
  | k + 1,h => by unfold anyI;rw [anyI_no k (fun i hi => h i (by omega)),h k (by omega)];rfl
theorem logI_no {f lane : Int} {C : Cnts} {L : List EntR} : ∀ k,(∀ i,i < k → (C i).2 = false) → logI f lane C L k = L
  | 0,_ => rfl
  | k + 1,h => by unfold logI;rw [h k (by omega),logI_no k (fun i hi => h i (by omega))];rfl
theorem logF_no {f : Int} {C : Nat → Cnts} {L : List EntR} : ∀ k,(∀ j,j < k → ∀ i,i < 5 → (C j i).2 = false) → logF f C L k = L
  | 0,_ => rfl
  | k + 1,h => by unfold logF;rw [logF_no k (fun j hj => h j (by omega)),logI_no 5 (h k (by omega))]
theorem four4_at {α : Type} (f : Nat → α) {j : Nat} (h : j < 4) : four4 f j = f j:=by
  rcases (by omega : j = 0 ∨ j = 1 ∨ j = 2 ∨ j = 3) with rfl | rfl | rfl | rfl <;> rfl
theorem rank_all {fs os : Nat → Bool} : ∀ k,(∀ j,j < k → fs j = false ∧ os j = true) → rankU fs os k = k
  | 0,_ => rfl
  | k + 1,h => by unfold rankU;rw [rank_all k (fun j hj => h j (by omega)),(h k (by omega)).1,(h k (by omega)).2];rfl
theorem plan_all {T : Team} {fl os : Nat → Bool} (hok : ∀ j,j < 4 → OkS (T j)) (hf : ∀ j,j < 4 → (T j).2.1 = false) (hl : ∀ j,j < 4 → fl j = false) (ho : ∀ j,j < 4 → os j = true) :
    (∀ j,j < 4 → (planT T fl os j).1 = (if j < 2 then 1 else 0) ∧ (planT T fl os j).2.1 = false ∧ OkS (planT T fl os j)) ∧ (planU T fl os).length = 4 ∧ actN (planC T fl os) 4 = 2:=by
  have hp : ∀ j,j < 4 → failP T fl j = false:=fun j hj => by unfold failP;rw [hf j hj,hl j hj];rfl
  have hm : manyP T fl os = 4:=rank_all 4 (fun j hj => ⟨hp j hj,ho j hj⟩)
  have hq : ∀ j,j < 4 → (planT T fl os j).1 = (if j < 2 then 1 else 0) ∧ (planT T fl os j).2.1 = false ∧ OkS (planT T fl os j):=fun j hj => by
    obtain ⟨h1,h2,h3,-⟩:=planT_lane T fl os hok j hj
    rw [hm,hp j hj,ho j hj,rank_all j (fun i hi => ⟨hp i (by omega),ho i (by omega)⟩)] at h1
    rw [hp j hj] at h2
    exact ⟨h1,h2,h3⟩
  refine ⟨hq,by rw [planU_len T fl os hok,hm],?_⟩
  rw [actI_planT T fl os hok 4 (by omega)]
  simp only [actN,(hq 0 (by omega)).1,(hq 1 (by omega)).1,(hq 2 (by omega)).1,(hq 3 (by omega)).1]
  decide
theorem supP_all {p : Int} {j : Nat} (h : j < 4) : supP true true p p j = p:=by
  rcases (by omega : j = 0 ∨ j = 1 ∨ j = 2 ∨ j = 3) with rfl | rfl | rfl | rfl <;> rfl
theorem supH_all {j : Nat} (h : j < 4) : supH true true j = true:=by
  rcases (by omega : j = 0 ∨ j = 1 ∨ j = 2 ∨ j = 3) with rfl | rfl | rfl | rfl <;> rfl
theorem even_nom {m : Int} : evenI m 0 0 3 131072 = 0:=by
  unfold evenI;split
  · decide
  · decide
theorem opD6_pos (S : Stp) (D : Dyn) (I : Inp) : (opD6 S D I).pos = opX S D I:=by simp only [opD6,opD5,opD4,opD3,opD2]
theorem opD6_track (S : Stp) (D : Dyn) (I : Inp) : (opD6 S D I).track = clampI (rateI D.track D.want S.rate) S.low S.high:=by simp only [opD6,opD5,opD4,opD3]
theorem opD6_want (S : Stp) (D : Dyn) (I : Inp) : (opD6 S D I).want = D.want:=by simp only [opD6,opD5,opD4,opD3,opD2,opD1]
theorem opD6_mode (S : Stp) (D : Dyn) (I : Inp) : (opD6 S D I).mm = D.mm ∧ (opD6 S D I).mp = D.mp ∧ (opD6 S D I).mg = D.mg ∧ (opD6 S D I).oa = D.oa ∧ (opD6 S D I).ob = D.ob:=by simp only [opD6,opD5,opD4,opD3,opD2,opD1,and_self]
theorem opD6_link (S : Stp) (D : Dyn) (I : Inp) : (opD6 S D I).ws = D.ws ∧ (opD6 S D I).lh = D.lh ∧ (opD6 S D I).lg = D.lg ∧ (opD6 S D I).lq = D.lq:=by simp only [opD6,opD5,opD4,opD3,opD2,opD1,and_self]
theorem opD6_drv (S : Stp) (D : Dyn) (I : Inp) : (opD6 S D I).drv = drvN S D (opMid S D I):=by simp only [opD6,opD5,opD4,opD3,opD2,opD1]
theorem opD6_off (S : Stp) (D : Dyn) (I : Inp) : (opD6 S D I).off = fun j => evenI (D.team j).1 (D.off j) (opFight S D I j) S.bits S.trim:=by simp only [opD6,opD5]
theorem opD6_cnts (S : Stp) (D : Dyn) (I : Inp) : (opD6 S D I).cnts = fltC S (opD3 S D I) I (vlvN S D (opMid S D I)) (opFight S D I):=by simp only [opD6,opD5,opD4]
theorem opD6_log (S : Stp) (D : Dyn) (I : Inp) : (opD6 S D I).log = logF D.frame (fltC S (opD3 S D I) I (vlvN S D (opMid S D I)) (opFight S D I)) D.log 4:=by simp only [opD6,opD5,opD4]
theorem opD6_team (S : Stp) (D : Dyn) (I : Inp) : (opD6 S D I).team = planT D.team (four4 (opF S D I)) (four4 (supH D.oa D.ob)):=by simp only [opD6]
theorem opD6_us (S : Stp) (D : Dyn) (I : Inp) : (opD6 S D I).us = opN S D I ∧ (opD6 S D I).ac = actN (planC D.team (four4 (opF S D I)) (four4 (supH D.oa D.ob))) 4 ∧ (opD6 S D I).lost = (opN S D I == 0):=by simp only [opD6,and_self]
theorem opD3_fields (S : Stp) (D : Dyn) (I : Inp) : (opD3 S D I).pos = opX S D I ∧ (opD3 S D I).team = D.team ∧ (opD3 S D I).cnts = D.cnts ∧ (opD3 S D I).spool = spoN S D (opMid S D I) I.f ∧ (opD3 S D I).track = clampI (rateI D.track D.want S.rate) S.low S.high:=by simp only [opD3,opD2,opD1,and_self]
structure HealPost (D D' : Dyn) : Prop where
  log : D'.log = D.log
  mode : D'.mm = D.mm ∧ D'.mp = D.mp ∧ D'.mg = D.mg ∧ D'.oa = D.oa ∧ D'.ob = D.ob
  link : D'.ws = D.ws ∧ D'.lh = D.lh ∧ D'.lg = D.lg ∧ D'.lq = D.lq
  us : D'.us = 4
  ac : D'.ac = 2
theorem op_heal {D : Dyn} {I : Inp} {g v x t W : Int} (h : Heal D g v x t W) (hI : Still I) (hn : -2621440 ≤ seen (xS x (vS v g W x)) - tS t W ∧ seen (xS x (vS v g W x)) - tS t W ≤ 2621440) :
    Heal (opD nomS D I) (gS g W) (vS v g W x) (xS x (vS v g W x)) (tS t W) W ∧ HealPost D (opD nomS D I):=by
  obtain ⟨u,hu⟩ : ∃ y,vS v g W x = y:=⟨_,rfl⟩
  rw [hu] at hn ⊢
  have hub : -524288 ≤ u ∧ u ≤ 524288:=hu ▸ vS_bd h.hv
  have hf:=hI.f
  have hM : opMid nomS D I = seen x:=by unfold opMid;rw [h.pos];exact mid_nom h.hx hf
  have hdrv : ∀ j,j < 2 → drvN nomS D (seen x) j = (gS g W,0,gS g W - seen x,u):=fun j hj => by
    obtain ⟨l,hl⟩:=h.dv j hj
    unfold drvN
    rw [if_pos (by rw [h.tm j (by omega),if_pos hj]),h.want,hl,step_nom h.hg h.hW h.hx,hu]
  have hval : ∀ j,j < 4 → valN nomS D (seen x) j = if j < 2 then u else 0:=fun j hj => by
    unfold valN
    by_cases hj2 : j < 2
    · obtain ⟨l,hl⟩:=h.dv j hj2
      rw [if_pos (by rw [h.tm j hj,if_pos hj2]),if_pos hj2,h.want,hl,step_nom h.hg h.hW h.hx,hu]
    · rw [if_neg (by rw [h.tm j hj,if_neg hj2];decide),if_neg hj2]
  have hvlv : ∀ j,j < 4 → vlvN nomS D (seen x) j = if j < 2 then u else 0:=fun j hj => by
    unfold vlvN trimI
    rw [hval j hj,h.off j hj,Int.add_zero,sat32_of]
    split <;> omega
  have hspo : ∀ j,j < 4 → spoN nomS D (seen x) I.f j = if j < 2 then u else 0:=fun j hj => by
    unfold spoN
    rw [hf j hj,stuck0]
    exact hvlv j hj
  have hpush : ∀ j,j < 4 → opPush nomS D I j = if j < 2 then u else 0:=fun j hj => by
    unfold opPush
    rw [hM,hspo j hj,h.oa,h.ob,hI.p0,hI.p1,supP_all hj,h.tm j hj]
    by_cases hj2 : j < 2
    · rw [if_pos hj2,if_pos hj2];exact push_nom hub
    · rw [if_neg hj2,if_neg hj2];rfl
  have t0:=h.tm 0 (by omega);have t1:=h.tm 1 (by omega);have t2:=h.tm 2 (by omega);have t3:=h.tm 3 (by omega)
  have p0:=hpush 0 (by omega);have p1:=hpush 1 (by omega);have p2:=hpush 2 (by omega);have p3:=hpush 3 (by omega)
  simp only [Nat.reduceLT,if_true,if_false,Nat.lt_irrefl] at t0 t1 t2 t3 p0 p1 p2 p3
  have hfight : ∀ j,j < 4 → opFight nomS D I j = 0:=fun j hj => by
    unfold opFight
    rw [t0,t1,t2,t3,p0,p1,p2,p3,hpush j hj,h.tm j hj]
    by_cases hj2 : j < 2
    · rw [if_pos hj2,if_pos hj2];exact fight_nom hub
    · rw [if_neg hj2,if_neg hj2];rfl
  have hX : opX nomS D I = xS x u:=by
    unfold opX
    rw [t0,t1,t2,t3,p0,p1,p2,p3,h.pos,hI.load]
    exact ram_nom h.hx hub
  have hT : clampI (rateI D.track D.want nomS.rate) nomS.low nomS.high = tS t W:=by
    rw [h.track,h.want]
    show clampI (rateI t W 131072) (-6553600) 6553600 = _
    rw [rate_nom h.ht];rfl
  obtain ⟨f1,f2,f3,f4,f5⟩:=opD3_fields nomS D I
  have hm3 : midS nomS (opD3 nomS D I).pos I.f = seen (xS x u):=by rw [f1,hX];exact mid_nom (xS_in _ _) hf
  have hsg : ∀ j,j < 2 → ∀ k,signs nomS (opD3 nomS D I) I (vlvN nomS D (opMid nomS D I)) (opFight nomS D I) j k = false:=fun j hj k => by
    have hs:=sense_nom (xS_in x u)
    have hso : snoF nomS (opD3 nomS D I) I j = true:=by unfold snoF;rw [f1,hX,hf j (by omega)];exact hs.2
    have hsf : snsF nomS (opD3 nomS D I) I j = seen (xS x u):=by unfold snsF;rw [f1,hX,hf j (by omega)];exact hs.1
    match k with
    | 0 =>
      show offB (vlvN nomS D (opMid nomS D I) j) ((opD3 nomS D I).spool j) 65536 = false
      rw [f4,hM,hvlv j (by omega),hspo j (by omega)]
      unfold offB;simp
    | 1 =>
      show offB (if snoF nomS (opD3 nomS D I) I j then snsF nomS (opD3 nomS D I) I j else midS nomS (opD3 nomS D I).pos I.f) (midS nomS (opD3 nomS D I).pos I.f) 65536 = false
      rw [hso,hsf,hm3]
      unfold offB;simp
    | 2 =>
      show offB (if snoF nomS (opD3 nomS D I) I j then snsF nomS (opD3 nomS D I) I j else midS nomS (opD3 nomS D I).pos I.f) (opD3 nomS D I).track 2621440 = false
      rw [hso,hsf,f5,hT]
      unfold offB
      simp only [if_true,Bool.or_eq_false_iff,decide_eq_false_iff_not]
      omega
    | 3 =>
      show forceB (opFight nomS D I j) 786432 = false
      rw [hfight j (by omega)];decide
    | k + 4 =>
      show (!snoF nomS (opD3 nomS D I) I j) = false
      rw [hso];rfl
  have hC : ∀ j,j < 4 → ∀ k,fltC nomS (opD3 nomS D I) I (vlvN nomS D (opMid nomS D I)) (opFight nomS D I) j k = (0,false):=fun j hj k => by
    unfold fltC
    rw [f2,f3,h.tm j hj]
    by_cases hj2 : j < 2
    · rw [if_pos hj2,if_pos rfl]
      unfold cntsN
      rw [hsg j hj2 k,h.cn j k hj2]
      rfl
    · rw [if_neg hj2,if_neg (by decide)];rfl
  have hF : ∀ j,j < 4 → opF nomS D I j = false:=fun j hj => by
    unfold opF fltB
    exact anyI_no 5 (fun i _ => by rw [hC j hj i])
  have hpl:=plan_all (T:=D.team) (fl:=four4 (opF nomS D I)) (os:=four4 (supH D.oa D.ob)) h.ok h.tf (fun j hj => by rw [four4_at _ hj];exact hF j hj) (fun j hj => by rw [four4_at _ hj,h.oa,h.ob];exact supH_all hj)
  have hN : opN nomS D I = 4:=by unfold opN;rw [hpl.2.1];rfl
  obtain ⟨u1,u2,u3⟩:=opD6_us nomS D I
  have hlost : (opD6 nomS D I).lost = false:=by rw [u3,hN];rfl
  have hop : opD nomS D I = opD6 nomS D I:=by unfold opD;rw [if_neg (by rw [hlost];simp)]
  rw [hop]
  obtain ⟨m1,m2,m3,m4,m5⟩:=opD6_mode nomS D I
  refine ⟨⟨m4.trans h.oa,m5.trans h.ob,?_,?_,?_,?_,?_,?_,hlost,?_,?_,?_,xS_in _ _,gS_in h.hg h.hW,h.hW,tS_in _ _,hub⟩,⟨?_,⟨m1,m2,m3,m4,m5⟩,opD6_link nomS D I,u1.trans hN,u2.trans hpl.2.2⟩⟩
  · intro j hj;rw [opD6_team];exact (hpl.1 j hj).2.2
  · intro j hj;rw [opD6_team];exact (hpl.1 j hj).2.1
  · intro j hj;rw [opD6_team];exact (hpl.1 j hj).1
  · intro j hj;rw [opD6_drv,hM];exact ⟨_,hdrv j hj⟩
  · intro j hj;rw [opD6_off]
    show evenI (D.team j).1 (D.off j) (opFight nomS D I j) 3 131072 = 0
    rw [h.off j hj,hfight j hj];exact even_nom
  · intro j k hj;rw [opD6_cnts];exact hC j (by omega) k
  · rw [opD6_pos,hX]
  · rw [opD6_track,hT]
  · rw [opD6_want,h.want]
  · rw [opD6_log];exact logF_no 4 (fun j hj i _ => by rw [hC j hj i])
def trlN : Trl:=⟨8192,0,-6553600,6553600,131072,1,32768,0,0,-524288,524288,65536,0,false⟩
theorem rig_one : framesS trlN (655360) 60 ⟨0,0,0,0,0,0⟩ = ⟨642783,909,655360,0,13486,7269⟩:=by kernel_rfl
theorem rig_two : framesS trlN (-655360) 60 ⟨642783,909,655360,0,13486,7269⟩ = ⟨-625140,-2183,-655360,0,-32403,-17463⟩:=by kernel_rfl
theorem rig_test : testS trlN [(655360,60,131072),(-655360,60,131072)] 0 ⟨0,0,0,0,0,0⟩ = (2,⟨-625140,-2183,-655360,0,-32403,-17463⟩):=by
  have h1 : framesS trlN (655360,(60 : Int),(131072 : Int)).1 (655360,(60 : Int),(131072 : Int)).2.1.toNat ⟨0,0,0,0,0,0⟩ = ⟨642783,909,655360,0,13486,7269⟩:=rig_one
  have h2 : framesS trlN (-655360,(60 : Int),(131072 : Int)).1 (-655360,(60 : Int),(131072 : Int)).2.1.toNat ⟨642783,909,655360,0,13486,7269⟩ = ⟨-625140,-2183,-655360,0,-32403,-17463⟩:=rig_two
  rw [testS_on (by rw [h1];unfold offS;simp only;omega),h1,testS_on (by rw [h2];unfold offS;simp only;omega),h2]
  rfl
theorem op_start {D : Dyn} {I : Inp} (hI : Still I) (oa : D.oa = true) (ob : D.ob = true) (ok : ∀ j,j < 4 → OkS (D.team j)) (tm : ∀ j,j < 4 → (D.team j).1 = 0 ∧ (D.team j).2.1 = false) (off : ∀ j,j < 4 → D.off j = 0) (lost : D.lost = false) (pos : D.pos = 0) (track : D.track = 0) (want : D.want = 0) :
    Heal (opD nomS D I) 0 0 0 0 0 ∧ HealPost D (opD nomS D I):=by
  have hf:=hI.f
  have h0 : In 0:=by unfold In;omega
  have hM : opMid nomS D I = 0:=by unfold opMid;rw [pos,mid_nom h0 hf];decide
  have hdrv : ∀ j,j < 4 → drvN nomS D 0 j = (0,0,0,0):=fun j hj => by
    unfold drvN;rw [if_neg (by rw [(tm j hj).1];decide)]
  have hvlv : ∀ j,j < 4 → vlvN nomS D 0 j = 0:=fun j hj => by
    unfold vlvN trimI valN
    rw [if_neg (by rw [(tm j hj).1];decide),off j hj];decide
  have hspo : ∀ j,j < 4 → spoN nomS D 0 I.f j = 0:=fun j hj => by
    unfold spoN;rw [hf j hj,stuck0];exact hvlv j hj
  have hpush : ∀ j,j < 4 → opPush nomS D I j = 0:=fun j hj => by
    unfold opPush pushedI;rw [if_neg (by rw [(tm j hj).1];decide)]
  have t0:=(tm 0 (by omega)).1;have t1:=(tm 1 (by omega)).1;have t2:=(tm 2 (by omega)).1;have t3:=(tm 3 (by omega)).1
  have hfight : ∀ j,j < 4 → opFight nomS D I j = 0:=fun j hj => by
    unfold opFight fightI;rw [if_neg (by rw [(tm j hj).1];decide)]
  have hX : opX nomS D I = 0:=by
    unfold opX
    rw [t0,t1,t2,t3,hpush 0 (by omega),hpush 1 (by omega),hpush 2 (by omega),hpush 3 (by omega),pos,hI.load]
    decide
  have hT : clampI (rateI D.track D.want nomS.rate) nomS.low nomS.high = 0:=by rw [track,want];decide
  obtain ⟨f1,f2,f3,f4,f5⟩:=opD3_fields nomS D I
  have hC : ∀ j,j < 4 → ∀ k,fltC nomS (opD3 nomS D I) I (vlvN nomS D (opMid nomS D I)) (opFight nomS D I) j k = (0,false):=fun j hj k => by
    unfold fltC
    rw [f2,if_neg (by rw [(tm j hj).1];decide)];rfl
  have hF : ∀ j,j < 4 → opF nomS D I j = false:=fun j hj => by
    unfold opF fltB
    exact anyI_no 5 (fun i _ => by rw [hC j hj i])
  have hpl:=plan_all (T:=D.team) (fl:=four4 (opF nomS D I)) (os:=four4 (supH D.oa D.ob)) ok (fun j hj => (tm j hj).2) (fun j hj => by rw [four4_at _ hj];exact hF j hj) (fun j hj => by rw [four4_at _ hj,oa,ob];exact supH_all hj)
  have hN : opN nomS D I = 4:=by unfold opN;rw [hpl.2.1];rfl
  obtain ⟨u1,u2,u3⟩:=opD6_us nomS D I
  have hlost : (opD6 nomS D I).lost = false:=by rw [u3,hN];rfl
  have hop : opD nomS D I = opD6 nomS D I:=by unfold opD;rw [if_neg (by rw [hlost];simp)]
  rw [hop]
  obtain ⟨m1,m2,m3,m4,m5⟩:=opD6_mode nomS D I
  refine ⟨⟨m4.trans oa,m5.trans ob,?_,?_,?_,?_,?_,?_,hlost,?_,?_,?_,h0,h0,h0,h0,by omega⟩,⟨?_,⟨m1,m2,m3,m4,m5⟩,opD6_link nomS D I,u1.trans hN,u2.trans hpl.2.2⟩⟩
  · intro j hj;rw [opD6_team];exact (hpl.1 j hj).2.2
  · intro j hj;rw [opD6_team];exact (hpl.1 j hj).2.1
  · intro j hj;rw [opD6_team];exact (hpl.1 j hj).1
  · intro j hj;rw [opD6_drv,hM];exact ⟨_,hdrv j (by omega)⟩
  · intro j hj;rw [opD6_off]
    show evenI (D.team j).1 (D.off j) (opFight nomS D I j) 3 131072 = 0
    rw [off j hj,hfight j hj];exact even_nom
  · intro j k hj;rw [opD6_cnts];exact hC j (by omega) k
  · rw [opD6_pos,hX]
  · rw [opD6_track,hT]
  · rw [opD6_want,want]
  · rw [opD6_log];exact logF_no 4 (fun j hj i _ => by rw [hC j hj i])
structure Fly (D : Dyn) (g v x t W q : Int) : Prop where
  heal : Heal D g v x t W
  mm : D.mm = 2
  log : D.log = []
  ws : D.lh = true → 0 < D.ws.length → D.ws.getD 0 0 = W
  lq : D.lh = true → D.lq = q
structure Calm (I : Inp) : Prop where
  still : Still I
  ground : I.ground = false
  ask : I.ask = 0
  tries : I.tries = false
theorem trip_oil (o : Bool) : tripB o 65536 32768 16384 = true:=by cases o <;> decide
theorem hear_calm {D : Dyn} {I : Inp} (hI : Calm I) (hm : D.mm = 2) {X : Dyn} (hX : wantD (cmdD (tickD (tickF D)) I.cmd) = X) (hXm : X.mm = 2) : hearD (tickF D) I = { X with mm:=2,mg:=false }:=by
  unfold hearD askD
  rw [hX,hI.ask,if_pos rfl,hI.ground]
  unfold groundD groundI
  rw [hXm,if_neg (by simp)]
theorem want_same {X : Dyn} {W : Int} (hw : X.want = W) (hs : X.lh = true → 0 < X.ws.length → X.ws.getD 0 0 = W) : wantD X = X:=by
  unfold wantD
  split
  · rename_i h
    rw [hs h.1 h.2.2,← hw]
  · rfl
theorem frame_calm {D : Dyn} {I : Inp} (hI : Calm I) {Y : Dyn} (hY : hearD (tickF D) I = Y) (hm : Y.mm = 2) : frameL nomS D I = opD nomS { Y with oa:=true,ob:=true } I:=by
  unfold frameL
  rw [hY]
  have e : oilD nomS Y I = { Y with oa:=true,ob:=true }:=by
    unfold oilD
    rw [hI.still.p0,hI.still.p1]
    show ({ Y with oa:=tripB Y.oa 65536 32768 16384,ob:=tripB Y.ob 65536 32768 16384 } : Dyn) = _
    rw [trip_oil,trip_oil]
  rw [e]
  have et : ∀ Z,triedD nomS Z I = Z:=fun Z => by unfold triedD;rw [if_neg (by rw [hI.tries];decide)]
  rw [et]
  unfold movedD
  rw [if_pos hm]
def Near (g v x t W : Int) : Prop:=-2621440 ≤ seen (xS x (vS v g W x)) - tS t W ∧ seen (xS x (vS v g W x)) - tS t W ≤ 2621440
theorem fly_step {D : Dyn} {I : Inp} {g v x t W q : Int} (h : Fly D g v x t W q) (hI : Calm I) (hc : I.cmd.toList.isEmpty = true) (hn : Near g v x t W) :
    Fly (frameL nomS D I) (gS g W) (vS v g W x) (xS x (vS v g W x)) (tS t W) W q ∧ (frameL nomS D I).us = 4 ∧ (frameL nomS D I).ac = 2:=by
  have e1 : wantD (cmdD (tickD (tickF D)) I.cmd) = tickD (tickF D):=by
    rw [cmdD_none _ hc]
    exact want_same (X:=tickD (tickF D)) (W:=W) h.heal.want h.ws
  have e2:=hear_calm hI h.mm e1 h.mm
  rw [frame_calm hI e2 rfl]
  have hh : Heal ({ ({ tickD (tickF D) with mm:=2,mg:=false } : Dyn) with oa:=true,ob:=true } : Dyn) g v x t W :=
    { h.heal with oa:=rfl,ob:=rfl }
  obtain ⟨k1,k2⟩:=op_heal hh hI.still hn
  exact ⟨⟨k1,k2.mode.1,k2.log.trans h.log,fun hl => by rw [k2.link.1];exact h.ws (k2.link.2.1 ▸ hl),fun hl => by rw [k2.link.2.2.2];exact h.lq (k2.link.2.1 ▸ hl)⟩,k2.us,k2.ac⟩
theorem bytes_loop (bs : ByteArray) : ∀ (n i : Nat) (r : List UInt8),bs.size - i = n → (ByteArray.toList.loop bs i r).length = r.length + n
  | 0,i,r,h => by unfold ByteArray.toList.loop;rw [if_neg (by omega)];simp
  | n + 1,i,r,h => by unfold ByteArray.toList.loop;rw [if_pos (by omega),bytes_loop bs n (i + 1) _ (by omega)];simp;omega
theorem bytes_len (bs : ByteArray) : bs.toList.length = bs.size:=by
  unfold ByteArray.toList;rw [bytes_loop bs bs.size 0 [] (by omega)];simp
theorem fly_cmd {D : Dyn} {I : Inp} {g v x t W q c q' : Int} (h : Fly D g v x t W q) (hI : Calm I) (hc : I.cmd = packS 2 0 q' [c]) (hq : 0 ≤ q' ∧ q' ≤ 255) (hC : In c) (hnew : D.lh = false ∨ newB q' q = true) (hn : Near g v x t c) :
    Fly (frameL nomS D I) (gS g c) (vS v g c x) (xS x (vS v g c x)) (tS t c) c q' ∧ (frameL nomS D I).us = 4 ∧ (frameL nomS D I).ac = 2:=by
  have hcb : ∀ y ∈ [c],-2147483648 ≤ y ∧ y ≤ 2147483647:=fun y hy => by
    have : y = c:=by simpa using hy
    unfold In at hC;omega
  obtain ⟨r1,r2,r3,r4,r5⟩:=pack_read 2 0 q' [c] (.inr rfl) (by omega) hq (by simp) hcb
  have hne : I.cmd.toList.isEmpty = false:=by
    rw [hc]
    have hs:=pack_size 2 0 q' [c]
    cases hl : (packS 2 0 q' [c]).toList with
    | nil =>
      exfalso
      have h2:=bytes_len (packS 2 0 q' [c])
      rw [hl,hs] at h2
      simp at h2
    | cons a l => rfl
  have hok : CmdOk (tickD (tickF D)) I.cmd:=by
    rw [hc]
    refine ⟨r1,?_⟩
    rcases hnew with h1 | h1
    · exact .inl h1
    · by_cases hl : D.lh = true
      · by_cases hg : (tickD (tickF D)).lg < 100
        · refine .inr (.inr ⟨hl,hg,?_⟩)
          rw [r4]
          show newB q' D.lq = true
          rw [h.lq hl];exact h1
        · exact .inr (.inl ⟨hl,hg⟩)
      · refine .inl ?_
        show D.lh = false
        cases hx : D.lh with
        | false => rfl
        | true => exact absurd hx hl
  have e1 : wantD (cmdD (tickD (tickF D)) I.cmd) = { tickD (tickF D) with lk:=2,ll:=0,lq:=q',ws:=[c],lh:=true,lg:=0,want:=c }:=by
    rw [cmdD_ok hne hok,hc,r2,r3,r4,r5]
    unfold wantD
    rw [if_pos ⟨rfl,by show (0 : Int) ≤ 10;omega,by show 0 < 1;omega⟩]
    rfl
  have e2:=hear_calm hI h.mm e1 h.mm
  rw [frame_calm hI e2 rfl]
  have hh : Heal ({ ({ ({ tickD (tickF D) with lk:=2,ll:=0,lq:=q',ws:=[c],lh:=true,lg:=0,want:=c } : Dyn) with mm:=2,mg:=false } : Dyn) with oa:=true,ob:=true } : Dyn) g v x t c :=
    { h.heal with oa:=rfl,ob:=rfl,want:=rfl,hW:=hC }
  obtain ⟨k1,k2⟩:=op_heal hh hI.still hn
  exact ⟨⟨k1,k2.mode.1,k2.log.trans h.log,fun _ _ => by rw [k2.link.1];rfl,fun _ => k2.link.2.2.2⟩,k2.us,k2.ac⟩
def tryI : Inp:={ calmI with tries:=true }
def goI : Inp:={ calmI with ask:=2,ground:=false }
noncomputable def flyD : Dyn:=frameL nomS (frameL nomS newD tryI) goI
theorem try_still : Still tryI:=⟨rfl,rfl,rfl,fun _ _ => rfl⟩
theorem go_still : Still goI:=⟨rfl,rfl,rfl,fun _ _ => rfl⟩
theorem tst_nom {D : Dyn} {I : Inp} (hI : Still I) (hp : D.pos = 0) (hv : D.vel = 0) {j : Nat} (hj : j < 4) : badJ nomS D I j = false:=by
  have e : tstJ nomS D I j = (2,⟨-625140,-2183,-655360,0,-32403,-17463⟩):=by
    unfold tstJ
    rw [hp,hv]
    have et : trlJ nomS I j = trlN:=by
      unfold trlJ
      rw [hI.p0,hI.p1,hI.load,hI.f j hj,stuck0]
      split <;> rfl
    rw [et];exact rig_test
  unfold badJ
  rw [e,hI.f j hj,blind0];rfl
theorem start_one : ∃ D,frameL nomS newD tryI = D ∧ D.mm = 1 ∧ D.mp = true ∧ D.mg = true ∧ (∀ j,j < 4 → D.team j = (0,false,0)) ∧ (∀ j,j < 4 → D.off j = 0) ∧ D.lost = false ∧ D.pos = 0 ∧ D.track = 0 ∧ D.want = 0 ∧ D.log = [] ∧ D.lh = false:=by
  refine ⟨_,rfl,?_⟩
  have e1 : hearD (tickF newD) tryI = { newD with frame:=1 }:=by
    unfold hearD
    have ec : cmdD (tickD (tickF newD)) tryI.cmd = tickD (tickF newD):=cmdD_none _ (by decide +kernel)
    rw [ec]
    rfl
  have e2 : oilD nomS { newD with frame:=1 } tryI = { newD with frame:=1,oa:=true,ob:=true }:=by
    unfold oilD
    show ({ newD with frame:=1,oa:=tripB false 65536 32768 16384,ob:=tripB false 65536 32768 16384 } : Dyn) = _
    rw [trip_oil]
  obtain ⟨D1,hD1⟩ : ∃ x,({ newD with frame:=1,oa:=true,ob:=true } : Dyn) = x:=⟨_,rfl⟩
  have ep : tryPass nomS D1 tryI 4 = true:=by
    have hb : ∀ j,j < 4 → badJ nomS D1 tryI j = false:=fun j hj => tst_nom try_still (by rw [← hD1];rfl) (by rw [← hD1];rfl) hj
    simp only [tryPass,hb 0 (by omega),hb 1 (by omega),hb 2 (by omega),hb 3 (by omega)];rfl
  have el : tryLog nomS D1 tryI 4 = D1.log:=by
    have hb : ∀ j,j < 4 → badJ nomS D1 tryI j = false:=fun j hj => tst_nom try_still (by rw [← hD1];rfl) (by rw [← hD1];rfl) hj
    simp only [tryLog,hb 0 (by omega),hb 1 (by omega),hb 2 (by omega),hb 3 (by omega)];rfl
  have e3 : triedD nomS D1 tryI = { D1 with mp:=true }:=by
    unfold triedD
    rw [if_pos (by rfl)]
    unfold tryD
    rw [ep,el,← hD1]
    rfl
  have e4 : frameL nomS newD tryI = restD nomS { D1 with mp:=true } tryI:=by
    unfold frameL
    rw [e1,e2,hD1,e3]
    unfold movedD
    rw [if_neg (by rw [← hD1];decide)]
  have et : ∀ j,j < 4 → restTm { D1 with mp:=true } tryI j = (0,false,0):=fun j hj => by
    unfold restTm
    rw [if_neg (by rintro ⟨⟨h,-⟩,-⟩;have h2 : (0 : Int) ≤ -1:=h;omega)]
    unfold restT tk
    rw [if_pos hj,← hD1]
    show nx ((0 : Int),false,(0 : Int)) 2 = (0,false,0)
    decide +kernel
  have ex : restX nomS { D1 with mp:=true } tryI = 0:=by
    unfold restX modeS
    rw [et 0 (by omega),et 1 (by omega),et 2 (by omega),et 3 (by omega),← hD1]
    decide +kernel
  rw [e4]
  refine ⟨by rw [← hD1];rfl,rfl,by rw [← hD1];rfl,et,fun _ _ => rfl,rfl,ex,ex,ex,by rw [← hD1];rfl,by rw [← hD1];rfl⟩
theorem ask_go (X : Dyn) (hm : X.mm = 1) (hp : X.mp = true) (hg : X.mg = false) : askD X 2 = { X with mm:=2,mp:=true,mg:=false }:=by
  have ea : askI 1 true false 2 = ((2,true,false),0):=by decide
  unfold askD
  rw [if_neg (by decide),hm,hp,hg,ea,if_pos rfl]
theorem fly_start : Fly flyD 0 0 0 0 0 0 ∧ flyD.lh = false ∧ flyD.us = 4 ∧ flyD.ac = 2:=by
  obtain ⟨D,hD,m1,m2,m3,tm,off,lost,pos,track,want,log,lh⟩:=start_one
  unfold flyD
  rw [hD]
  have e1 : hearD (tickF D) goI = { tickD (tickF D) with mm:=2,mp:=true,mg:=false }:=by
    unfold hearD
    have ec : cmdD (tickD (tickF D)) goI.cmd = tickD (tickF D):=cmdD_none _ (by decide +kernel)
    rw [ec]
    have ew : wantD (tickD (tickF D)) = tickD (tickF D):=by
      unfold wantD
      rw [if_neg (by rintro ⟨h,-⟩;have : D.lh = true:=h;rw [lh] at this;cases this)]
    rw [ew]
    have eg : groundD (tickD (tickF D)) goI.ground = { tickD (tickF D) with mm:=1,mg:=false }:=by
      unfold groundD groundI
      show ({ tickD (tickF D) with mm:=if D.mm = 3 ∧ false = false then 1 else D.mm,mg:=false } : Dyn) = _
      rw [m1];rfl
    rw [eg]
    exact ask_go _ rfl m2 rfl
  have e2 : frameL nomS D goI = opD nomS { ({ tickD (tickF D) with mm:=2,mp:=true,mg:=false } : Dyn) with oa:=true,ob:=true } goI:=by
    unfold frameL
    rw [e1]
    have eo : oilD nomS ({ tickD (tickF D) with mm:=2,mp:=true,mg:=false } : Dyn) goI = { ({ tickD (tickF D) with mm:=2,mp:=true,mg:=false } : Dyn) with oa:=true,ob:=true }:=by
      unfold oilD
      show ({ ({ tickD (tickF D) with mm:=2,mp:=true,mg:=false } : Dyn) with oa:=tripB D.oa 65536 32768 16384,ob:=tripB D.ob 65536 32768 16384 } : Dyn) = _
      rw [trip_oil,trip_oil]
    rw [eo]
    unfold triedD movedD
    rfl
  rw [e2]
  obtain ⟨k1,k2⟩:=op_start (D:={ ({ tickD (tickF D) with mm:=2,mp:=true,mg:=false } : Dyn) with oa:=true,ob:=true }) go_still rfl rfl (fun j hj => by show OkS (D.team j);rw [tm j hj];unfold OkS LaneOk;simp) (fun j hj => by show (D.team j).1 = 0 ∧ (D.team j).2.1 = false;rw [tm j hj];exact ⟨rfl,rfl⟩) off lost pos track want
  have hl : (opD nomS { ({ tickD (tickF D) with mm:=2,mp:=true,mg:=false } : Dyn) with oa:=true,ob:=true } goI).lh = false:=k2.link.2.1.trans lh
  exact ⟨⟨k1,k2.mode.1,k2.log.trans log,fun h => (by rw [hl] at h;cases h),fun h => (by rw [hl] at h;cases h)⟩,hl,k2.us,k2.ac⟩
structure Mo where
  (g v x t : Int)
def Mo.next (m : Mo) (W : Int) : Mo:=⟨gS m.g W,vS m.v m.g W m.x,xS m.x (vS m.v m.g W m.x),tS m.t W⟩
def Mo.run (m : Mo) (W : Int) : Nat → Mo
  | 0 => m
  | n + 1 => (m.run W n).next W
theorem Mo.run_inn (m : Mo) (W : Int) : ∀ n,m.run W (n + 1) = (m.next W).run W n
  | 0 => rfl
  | n + 1 => by
    show (m.run W (n + 1)).next W = ((m.next W).run W n).next W
    rw [Mo.run_inn m W n]
def FlyM (D : Dyn) (m : Mo) (W q : Int) : Prop:=Fly D m.g m.v m.x m.t W q
def NearM (m : Mo) (W : Int) : Prop:=Near m.g m.v m.x m.t W
instance (m : Mo) (W : Int) : Decidable (NearM m W):=by unfold NearM Near;infer_instance
def chkM (W lo hi : Int) : Nat → Mo → Bool
  | 0,m => decide (lo < m.x) && decide (m.x < hi)
  | n + 1,m => decide (NearM m W) && chkM W lo hi n (m.next W)
theorem chkM_is {W lo hi : Int} : ∀ n (m : Mo),chkM W lo hi n m = true → (∀ k,k < n → NearM (m.run W k) W) ∧ lo < (m.run W n).x ∧ (m.run W n).x < hi
  | 0,m,h => by
    simp only [chkM,Bool.and_eq_true,decide_eq_true_eq] at h
    exact ⟨fun k hk => absurd hk (by omega),h⟩
  | n + 1,m,h => by
    simp only [chkM,Bool.and_eq_true,decide_eq_true_eq] at h
    obtain ⟨h1,h2⟩:=h
    obtain ⟨h3,h4⟩:=chkM_is n _ h2
    refine ⟨fun k hk => ?_,by rw [Mo.run_inn];exact h4⟩
    cases k with
    | zero => exact h1
    | succ k => rw [Mo.run_inn];exact h3 k (by omega)
def wkI : Inp:={ calmI with ground:=false,cmd:=packS 2 0 1 [327680] }
def quI : Inp:={ calmI with ground:=false }
theorem qu_calm : Calm quI:=⟨⟨rfl,rfl,rfl,fun _ _ => rfl⟩,rfl,rfl,rfl⟩
theorem wk_calm : Calm wkI:=⟨⟨rfl,rfl,rfl,fun _ _ => rfl⟩,rfl,rfl,rfl⟩
noncomputable def itD (D : Dyn) : Nat → Dyn
  | 0 => D
  | n + 1 => frameL nomS (itD D n) quI
theorem fly_run {D : Dyn} {m : Mo} {W q : Int} (h : FlyM D m W q) : ∀ n,(∀ k,k < n → NearM (m.run W k) W) → FlyM (itD D n) (m.run W n) W q ∧ (0 < n → (itD D n).us = 4 ∧ (itD D n).ac = 2)
  | 0,_ => ⟨h,fun h => absurd h (by omega)⟩
  | n + 1,hn => by
    obtain ⟨h1,-⟩:=fly_run h n (fun k hk => hn k (by omega))
    obtain ⟨h2,h3,h4⟩:=fly_step h1 qu_calm (by decide +kernel) (hn n (by omega))
    exact ⟨h2,fun _ => ⟨h3,h4⟩⟩
noncomputable def wkD : Dyn:=frameL nomS flyD wkI
theorem wk_fly : FlyM wkD (Mo.next ⟨0,0,0,0⟩ 327680) 327680 1 :=
  (fly_cmd fly_start.1 wk_calm rfl (by omega) (by unfold In;omega) (.inl fly_start.2.1) (by unfold Near;decide +kernel)).1
theorem wk_chk : chkM 327680 262144 393216 100 (Mo.next ⟨0,0,0,0⟩ 327680) = true:=by decide +kernel
theorem wk_end : (itD wkD 100).ac = 2 ∧ (itD wkD 100).want = 327680 ∧ 262144 < (itD wkD 100).pos ∧ (itD wkD 100).pos < 393216 ∧ (itD wkD 100).log = []:=by
  obtain ⟨h1,h2⟩:=chkM_is _ _ wk_chk
  obtain ⟨h3,h4⟩:=fly_run wk_fly 100 h1
  refine ⟨(h4 (by omega)).2,h3.heal.want,?_,?_,h3.log⟩
  · rw [h3.heal.pos];exact h2.1
  · rw [h3.heal.pos];exact h2.2
theorem it_good {D : Dyn} (h : DynOk nomS D) : ∀ n,DynOk nomS (itD D n)
  | 0 => h
  | n + 1 => frameL_good nom_ok quI (it_good h n)
end Go.Proofs.YtlagmebnjagoaaaGreat
