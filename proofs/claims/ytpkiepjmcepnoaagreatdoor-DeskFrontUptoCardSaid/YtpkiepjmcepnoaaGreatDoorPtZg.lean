/- world.New: a new world. -/
import Derived.Great.Ranges
import Derived.Great.BuildSlice
import Derived.Test.YtpkiepjmcepnoaaGreatDoorPtQ
import Derived.Test.YtpkiepjmcepnoaaGreatDoorPtZb
import Derived.Test.YtpkiepjmcepnoaaGreatDoorPtZc
set_option maxHeartbeats 16000000
set_option maxRecDepth 100000
namespace Go.Proofs.YtpkiepjmcepnoaaGreatDoor
open Go.ChangeShapes Go.WideShapes Go.ChangeAt Go.RowKit
set_option linter.unusedVariables false
theorem infoPt:(Tryz.prog.info? 65).map (fun i=>(i.zero,i.size,i.bytes))=some (some (.agg #[.int .i32 0,.int .i64 0,.int .i32 0]),3,24):=by kernel_rfl
theorem clone_pt (m:Nat) (news:List Value) (v:Value) (w:World) (hv:SrcAt w v 3 m news) (ho:∀u∈news,u.oneCell'=true) (hx:m*24≤140737488351232):
  Calls Tryz.prog 18 #[v] w (CatPost w 65 3 m news):=by
 obtain⟨i0,hi,hz0,hz1,hz2⟩:=info_parts infoPt
 have hnil:=@Lib.run_eql_slice_nil Tryz.prog
 have hw0:w.heap.size≤(w.alloc (.cells #[] 65)).heap.size:=by simp
 have how:=own_empty w 65 3
 have HS:=qh (hv.below ((Below.refl w.heap.size w).alloc (Nat.le_refl _) (.cells #[] 65)) (Nat.le_refl _))
 have HO:=qh ho
 rcases hv with⟨c,rfl,rfl,rfl,rfl⟩|⟨ad,c,rfl,-⟩
 ·go_enter Tryz.func18,Tryz.ntmps18
  go_wp2
  go_ret
  exact⟨_,rfl,World.ownsRow_nil _ _ _ _,bLr⟩
 ·clear ho
  go_enter Tryz.func18,Tryz.ntmps18
  go_wp2_with (at_builtin;refine wpList_append_src rfl _ _ 47 rfl w.heap.size 65 i0 (.agg #[.int .i32 0,.int .i64 0,.int .i32 0]) 3 24 Tryz.underlying47 hi hz0 hz1 hz2 rfl (by decide) _ _ _ rfl how _ m news rfl HS.out HO.out (by unfold maxLen;omega) (by omega) hw0 ?_;intro v' w1 hown' hgrow)
  go_ret
  rw[Nat.zero_add,List.nil_append]at hown'
  exact⟨_,rfl,hown',((bLr).alloc (Nat.le_refl _) _).grown hgrow hw0 (fun k e=>by cases e;exact Nat.le_refl _)⟩
theorem pt_one (xs:List PointR):∀u∈xs.flatMap pointLay,u.oneCell'=true:=by
 intro u hu
 obtain⟨x,-,hx⟩:=List.mem_flatMap.1 hu
 simp only[pointLay,List.mem_cons,List.not_mem_nil,or_false]at hx
 rcases hx with rfl|rfl|rfl<;>rfl
theorem new_no {S:Stp} {vp:Value} {w:World} (hp:RecsAt 3 pointLay w vp S.prof) (hl:S.prof.length≤9223372036854775807) (hin:StpIn S) (hc:chkE S≠0):
  Calls Tryz.prog 11 #[stpV S vp] w fun e w'=>e=.returned (.tuple #[.pointer none,.int .i64 (chkE S)])∧Below w.heap.size w w':=by
 obtain⟨ap,cp,hvp⟩:=hp.len
 subst hvp
 obtain⟨w3,hw3⟩:∃x,w.alloc (.cells #[.int .i32 S.gain,.int .i64 S.drag,.int .i32 S.low,.int .i32 S.high,.int .i32 S.rate,.int .i64 S.soft,.int .i32 S.P,.int .i32 S.I,.int .i32 S.D,.int .i32 S.lo,.int .i32 S.hi,.int .i32 S.m0,.int .i32 S.m1,.int .i32 S.m2,.int .i32 S.m3,.int .i32 S.m4,.int .i64 S.up,.int .i64 S.down,.int .i64 S.most,.int .i32 S.sum,.int .i32 S.wide,.int .i32 S.full,.slice ap S.prof.length cp,.int .i32 S.oh,.int .i32 S.ol,.int .i64 S.bits,.int .i32 S.trim] 49)=x:=⟨_,rfl⟩
 have HW3:=qh hw3
 have b3:Below w.heap.size w w3:=hw3▸(bLr).alloc (Nat.le_refl _) _
 have C3:CellsAt w3 w.heap.size (setA S (.slice ap S.prof.length cp)):=hw3▸CellsAt.new' rfl rfl
 have HCK:=qh (check_is (hp.later pointLay_len b3 (Nat.le_refl _)) hl hin)
 obtain⟨c,hcc⟩:∃x,chkE S=x:=⟨_,rfl⟩
 rw[hcc]at HCK hc⊢
 have d1:(c==0)=false:=by simpa using hc
 have B3:=qh b3
 have RNG:=qh C3.range
 have HI:Hid ((Tryz.prog.info? 49).map (·.size)=some 27):=qh (by kernel_rfl)
 clear hcc hp hl hin b3 hw3 C3
 go_enter Tryz.func11,Tryz.ntmps11
 go_upto_region 1 with(fail)
 rw[HW3.out]
 clear HW3
 go_wp2_with (refine wpList_load_mid rfl 49 (.tmp 1) rfl w.heap.size 0 rfl [.int .i32 S.gain,.int .i64 S.drag,.int .i32 S.low,.int .i32 S.high,.int .i32 S.rate,.int .i64 S.soft,.int .i32 S.P,.int .i32 S.I,.int .i32 S.D,.int .i32 S.lo,.int .i32 S.hi,.int .i32 S.m0,.int .i32 S.m1,.int .i32 S.m2,.int .i32 S.m3,.int .i32 S.m4,.int .i64 S.up,.int .i64 S.down,.int .i64 S.most,.int .i32 S.sum,.int .i32 S.wide,.int .i32 S.full,.slice ap S.prof.length cp,.int .i32 S.oh,.int .i32 S.ol,.int .i64 S.bits,.int .i32 S.trim] _ RNG.out Tryz.underlying49 rfl HI.out ?_)
 refine HCK.out.mono ?_
 rintro e4 w4 ⟨rfl,hb4⟩
 go_wp2_with fail
 exact bodyPost_ret (v:=.tuple #[.pointer none,.int .i64 c]) (by simp[results,Tryz.results11,go_sem]) rfl ⟨rfl,B3.out.trans (hb4.mono B3.out.size)⟩
theorem new_yes {S:Stp} {vp:Value} {w:World} (hp:RecsAt 3 pointLay w vp S.prof) (hS:StpOk S) (hav:∀c,S.av c→c<w.heap.size):
  Calls Tryz.prog 11 #[stpV S vp] w fun e w'=>∃b vp',e=.returned (.tuple #[ptr b,.int .i64 0])∧w.heap.size≤b∧WAt w' b S newD vp' (.slice none 0 0) (.slice none 0 0)∧Below w.heap.size w w'∧w'.ownsRow w.heap.size 65 3 vp' S.prof.length (S.prof.flatMap pointLay):=by
 have hl:S.prof.length≤16:=hS.pts.2.1
 obtain⟨ap,cp,hvp⟩:=hp.len
 subst hvp
 obtain⟨w3,hw3⟩:∃x,w.alloc (.cells #[.int .i32 S.gain,.int .i64 S.drag,.int .i32 S.low,.int .i32 S.high,.int .i32 S.rate,.int .i64 S.soft,.int .i32 S.P,.int .i32 S.I,.int .i32 S.D,.int .i32 S.lo,.int .i32 S.hi,.int .i32 S.m0,.int .i32 S.m1,.int .i32 S.m2,.int .i32 S.m3,.int .i32 S.m4,.int .i64 S.up,.int .i64 S.down,.int .i64 S.most,.int .i32 S.sum,.int .i32 S.wide,.int .i32 S.full,.slice ap S.prof.length cp,.int .i32 S.oh,.int .i32 S.ol,.int .i64 S.bits,.int .i32 S.trim] 49)=x:=⟨_,rfl⟩
 have HW3:=qh hw3
 have b3:Below w.heap.size w w3:=hw3▸(bLr).alloc (Nat.le_refl _) _
 have C3:CellsAt w3 w.heap.size (setA S (.slice ap S.prof.length cp)):=hw3▸CellsAt.new' rfl rfl
 have HC3:=qh C3
 have HP3:=qh (hp.later pointLay_len b3 (Nat.le_refl _))
 have hck:=check_is HP3.out (by omega) hS.inn
 rw[chkE_ok hS]at hck
 have HCK:=qh hck
 have B3:=qh b3
 have RNG:=qh C3.range
 have HI:Hid ((Tryz.prog.info? 49).map (·.size)=some 27):=qh (by kernel_rfl)
 clear hp hS b3 hw3 C3 hck
 go_enter Tryz.func11,Tryz.ntmps11
 go_upto_region 1 with(fail)
 rw[HW3.out]
 clear HW3
 go_wp2_with (refine wpList_load_mid rfl 49 (.tmp 1) rfl w.heap.size 0 rfl [.int .i32 S.gain,.int .i64 S.drag,.int .i32 S.low,.int .i32 S.high,.int .i32 S.rate,.int .i64 S.soft,.int .i32 S.P,.int .i32 S.I,.int .i32 S.D,.int .i32 S.lo,.int .i32 S.hi,.int .i32 S.m0,.int .i32 S.m1,.int .i32 S.m2,.int .i32 S.m3,.int .i32 S.m4,.int .i64 S.up,.int .i64 S.down,.int .i64 S.most,.int .i32 S.sum,.int .i32 S.wide,.int .i32 S.full,.slice ap S.prof.length cp,.int .i32 S.oh,.int .i32 S.ol,.int .i64 S.bits,.int .i32 S.trim] _ RNG.out Tryz.underlying49 rfl HI.out ?_)
 refine HCK.out.mono ?_
 rintro e4 w4 ⟨rfl,hb4⟩
 have C4:=HC3.out.call hb4
 have HC4:=qh C4
 have B4:=qh (B3.out.trans (hb4.mono B3.out.size))
 have HP4:=qh (HP3.out.later pointLay_len hb4 (Nat.le_refl _))
 clear hb4 HCK RNG
 have y22:=C4.at_ 22 rfl;have yz:=C4.lt
 clear C4
 go_upto_region 4 with(fail)
 go_wp2_with fail
 refine(clone_pt S.prof.length (S.prof.flatMap pointLay) _ _ (src_recs HP4.out (by decide) pointLay_len) (pt_one _) (by omega)).mono ?_
 rintro e5 w5 ⟨v5,rfl,hown5,hb5⟩
 obtain⟨a5,c5,hv5⟩:=own_sliceW hown5
 subst hv5
 have C5:=HC4.out.call hb5
 have HC5:=qh (C5.set_ 22 (by simp[setA]) (.slice a5 S.prof.length c5))
 have B5:=qh ((B4.out.trans (hb5.mono B4.out.size)).setCell (p:=⟨w.heap.size,22,none⟩) (Nat.le_refl _) (.slice a5 S.prof.length c5))
 have hz5:w.heap.size<w4.heap.size:=HC4.out.lt
 have HO5:Hid ((w5.setCell ⟨w.heap.size,22,none⟩ (.slice a5 S.prof.length c5)).ownsRow (w.heap.size+1) 65 3 (.slice a5 S.prof.length c5) S.prof.length (S.prof.flatMap pointLay)):=qh (own_mono4 (hown5.kept (grown_setW w5 w.heap.size 22 _) (.inr (fun e=>by have:=(hown5.lt _ e).1;omega))) (by omega))
 have y22:=C5.at_ 22 rfl;have f22:=C5.2.1 22;have yz:=C5.lt
 clear C5 hb5 hown5
 go_upto_region 5 with(fail)
 have RNG:Hid ((w5.setCell ⟨w.heap.size,22,none⟩ (.slice a5 S.prof.length c5)).rangeAt w.heap.size 0 [.int .i32 S.gain,.int .i64 S.drag,.int .i32 S.low,.int .i32 S.high,.int .i32 S.rate,.int .i64 S.soft,.int .i32 S.P,.int .i32 S.I,.int .i32 S.D,.int .i32 S.lo,.int .i32 S.hi,.int .i32 S.m0,.int .i32 S.m1,.int .i32 S.m2,.int .i32 S.m3,.int .i32 S.m4,.int .i64 S.up,.int .i64 S.down,.int .i64 S.most,.int .i32 S.sum,.int .i32 S.wide,.int .i32 S.full,(.slice a5 S.prof.length c5),.int .i32 S.oh,.int .i32 S.ol,.int .i64 S.bits,.int .i32 S.trim]):=qh HC5.out.range
 obtain⟨w6,hw6⟩:∃x,w5.setCell ⟨w.heap.size,22,none⟩ (.slice a5 S.prof.length c5)=x:=⟨_,rfl⟩
 rw[hw6]at HC5 B5 HO5 RNG⊢
 clear hw6 y22 f22 yz HC4 B4 HP4
 obtain⟨LL,hLL⟩:∃x,lay S newD (.slice a5 S.prof.length c5) (.slice none 0 0) (.slice none 0 0)=x:=⟨_,rfl⟩
 have HLL:=qh hLL
 clear hLL
 go_wp2_with (first|(refine wpList_load_mid rfl 49 (.tmp 1) rfl w.heap.size 0 rfl [.int .i32 S.gain,.int .i64 S.drag,.int .i32 S.low,.int .i32 S.high,.int .i32 S.rate,.int .i64 S.soft,.int .i32 S.P,.int .i32 S.I,.int .i32 S.D,.int .i32 S.lo,.int .i32 S.hi,.int .i32 S.m0,.int .i32 S.m1,.int .i32 S.m2,.int .i32 S.m3,.int .i32 S.m4,.int .i64 S.up,.int .i64 S.down,.int .i64 S.most,.int .i32 S.sum,.int .i32 S.wide,.int .i32 S.full,(.slice a5 S.prof.length c5),.int .i32 S.oh,.int .i32 S.ol,.int .i64 S.bits,.int .i32 S.trim] _ RNG.out Tryz.underlying49 rfl HI.out ?_)|(refine wpList_buildTo rfl 94 _ rfl _ rfl LL.toArray (by rw[←HLL.out];kernel_rfl) ?_)|(refine wpList_boxTo rfl 94 _ rfl _ rfl _ rfl LL.toArray rfl ?_))
 refine bodyPost_ret (v:=.tuple #[ptr w6.heap.size,.int .i64 0]) (by simp[results,Tryz.results11,go_sem]) rfl ⟨_,_,rfl,B5.out.size,?_,B5.out.alloc B5.out.size _,own_mono4 (HO5.out.alloc _) (by omega)⟩
 have hb:w.heap.size+1≤w6.heap.size:=HC5.out.lt
 exact⟨CellsAt.new' rfl (by rw[HLL.out]),(own_recs HO5.out pointLay_len).later pointLay_len ((bLr).alloc (Nat.le_refl _) _) (Nat.le_refl _),own_ints' (World.ownsRow_nil _ 0 21 1),own_recs (World.ownsRow_nil _ 0 143 4) entLay_len,⟨fun b1 o n l c e=>(by have:=(HO5.out.lt b1 (by rw[e];rfl)).2;omega),fun c hc=>OffB.own HO5.out (by have:=hav c hc;omega),fun b' o n l c e=>(by have:=(HO5.out.lt b' (by rw[e];rfl)).2;simp;omega)⟩,⟨OffB.nil _,fun _ _=>OffB.nil _,fun b' o n l c e=>by cases e⟩,⟨OffB.nil _,fun _ _=>OffB.nil _,fun b' o n l c e=>by cases e⟩,fun c hc=>(by have:=hav c hc;simp;omega)⟩
def nomS:Stp:={gain:=8192,drag:=0,low:=-6553600,high:=6553600,rate:=131072,soft:=1,P:=32768,I:=0,D:=0,lo:=-524288,hi:=524288,m0:=65536,m1:=65536,m2:=2621440,m3:=786432,m4:=0,up:=2,down:=1,most:=10,sum:=655360,wide:=65536,full:=6553600,oh:=32768,ol:=16384,bits:=3,trim:=131072,prof:=[(655360,60,131072),(-655360,60,131072)],av:=fun _=>False}
theorem nom_in:StpIn nomS:=by
 refine⟨?_,?_,?_,?_,?_,?_,?_,?_,?_,?_,?_,?_,?_,?_,?_,?_,?_,?_,?_,?_,?_,?_,?_,?_,?_,?_,?_⟩<;>first|(simp only[nomS];omega)|skip
 intro y hy
 simp only[nomS,List.mem_cons,List.not_mem_nil,or_false]at hy
 rcases hy with rfl|rfl<;>(unfold pointFit;simp)
theorem nom_ok:StpOk nomS:={
 inn:=nom_in
 ram:=by unfold ramBad;simp only[nomS];omega
 srv:=by unfold ServoOk pidBad;simp only[nomS];omega
 wat:=by simp only[nomS];omega
 cnt:=by unfold CountOk;simp only[nomS];omega
 pts:=by
  refine⟨by decide,by decide,fun i x hx=>?_⟩
  rcases i with _|_|i
  ·simp[nomS]at hx;subst hx;unfold ptOk;simp
  ·simp[nomS]at hx;subst hx;unfold ptOk;simp
  ·simp[nomS]at hx
 sns:=by simp only[nomS];omega
 oil:=by simp only[nomS];omega
 evn:=by simp only[nomS];omega}
theorem nominal_is (w:World):Calls Tryz.prog 12 #[] w fun e w'=>∃g,e=.returned (stpV nomS (.slice (some ⟨g,0,none⟩) 2 2))∧w'.ownsRow w.heap.size 65 3 (.slice (some ⟨g,0,none⟩) 2 2) 2 (nomS.prof.flatMap pointLay)∧Below w.heap.size w w':=by
 have HI:Hid ((Tryz.prog.info? 49).map (·.size)=some 27):=qh (by kernel_rfl)
 obtain⟨w3,hw3⟩:∃x,w.alloc (.cells #[.int .i32 0,.int .i64 0,.int .i32 0,.int .i32 0,.int .i32 0,.int .i64 0,.int .i32 0,.int .i32 0,.int .i32 0,.int .i32 0,.int .i32 0,.int .i32 0,.int .i32 0,.int .i32 0,.int .i32 0,.int .i32 0,.int .i64 0,.int .i64 0,.int .i64 0,.int .i32 0,.int .i32 0,.int .i32 0,.slice none 0 0,.int .i32 0,.int .i32 0,.int .i64 0,.int .i32 0] 49)=x:=⟨_,rfl⟩
 have Z3:CellsAt w3 w.heap.size [.int .i32 0,.int .i64 0,.int .i32 0,.int .i32 0,.int .i32 0,.int .i64 0,.int .i32 0,.int .i32 0,.int .i32 0,.int .i32 0,.int .i32 0,.int .i32 0,.int .i32 0,.int .i32 0,.int .i32 0,.int .i32 0,.int .i64 0,.int .i64 0,.int .i64 0,.int .i32 0,.int .i32 0,.int .i32 0,.slice none 0 0,.int .i32 0,.int .i32 0,.int .i64 0,.int .i32 0]:=hw3▸CellsAt.new' rfl rfl
 have z3:w3.heap.size=w.heap.size+1:=by rw[←hw3];simp
 have B3:Below w.heap.size w w3:=hw3▸(bLr).alloc (Nat.le_refl _) _
 obtain⟨w4,hw4⟩:∃x,w3.alloc (.cells #[.int .i32 655360,.int .i64 60,.int .i32 131072,.int .i32 (-655360),.int .i64 60,.int .i32 131072] 65)=x:=⟨_,rfl⟩
 have Z4:CellsAt w4 w.heap.size [.int .i32 0,.int .i64 0,.int .i32 0,.int .i32 0,.int .i32 0,.int .i64 0,.int .i32 0,.int .i32 0,.int .i32 0,.int .i32 0,.int .i32 0,.int .i32 0,.int .i32 0,.int .i32 0,.int .i32 0,.int .i32 0,.int .i64 0,.int .i64 0,.int .i64 0,.int .i32 0,.int .i32 0,.int .i32 0,.slice none 0 0,.int .i32 0,.int .i32 0,.int .i64 0,.int .i32 0]:=hw4▸Z3.alloc _
 have O4:w4.ownsRow w3.heap.size 65 3 (.slice (some ⟨w3.heap.size,0,none⟩) 2 2) 2 #[.int .i32 655360,.int .i64 60,.int .i32 131072,.int .i32 (-655360),.int .i64 60,.int .i32 131072].toList:=hw4▸World.ownsRow_lit w3 #[.int .i32 655360,.int .i64 60,.int .i32 131072,.int .i32 (-655360),.int .i64 60,.int .i32 131072] 2 (Nat.le_refl _) (by unfold maxLen;omega) rfl
 have HTH:Hid (w4.there w.heap.size 0 (setA nomS (.slice (some ⟨w3.heap.size,0,none⟩) 2 2)).toArray.size):=qh (Z4.there (n:=27) (Nat.le_refl _))
 have HRG:=qh (Z4.row (setA nomS (.slice (some ⟨w3.heap.size,0,none⟩) 2 2)) rfl)
 have HOW:=qh (own_setCells O4 (by omega:w.heap.size<w3.heap.size) 0 (setA nomS (.slice (some ⟨w3.heap.size,0,none⟩) 2 2)))
 have HBE:=qh (below_setCells (Nat.le_refl _) (setA nomS (.slice (some ⟨w3.heap.size,0,none⟩) 2 2)) 0 w4 (hw4▸B3.alloc (by omega) _))
 have HON:Hid ((setA nomS (.slice (some ⟨w3.heap.size,0,none⟩) 2 2)).toArray.all (·.oneCell')=true):=qh (by kernel_rfl)
 have HW3:=qh hw3
 have HW4:=qh hw4
 have Hz3:=qh z3
 clear Z3 Z4 O4 B3 hw3 hw4 z3
 go_enter Tryz.func12,Tryz.ntmps12
 go_upto_region 1 with(fail)
 rw[HW3.out]
 go_wp2_with (first|(refine wpList_buildTo rfl 49 _ rfl _ rfl (setA nomS (.slice (some ⟨w3.heap.size,0,none⟩) 2 2)).toArray (by kernel_rfl) ?_)|(refine wpList_store_mid rfl 49 (.tmp 0) (.tmp 11) rfl w.heap.size 0 (setA nomS (.slice (some ⟨w3.heap.size,0,none⟩) 2 2)).toArray rfl rfl (by rw[HW4.out];exact HTH.out) HI.out HON.out ?_))
 rw[HW4.out]
 exact bodyPost_ret (v:=stpV nomS (.slice (some ⟨w3.heap.size,0,none⟩) 2 2)) (results_cell_mid rfl _ _ w.heap.size (setA nomS (.slice (some ⟨w3.heap.size,0,none⟩) 2 2)) _ rfl HRG.out.range Tryz.underlying49 rfl HI.out) rfl ⟨_,rfl,own_mono4 HOW.out (by have:=Hz3.out;omega),HBE.out⟩
end Go.Proofs.YtpkiepjmcepnoaaGreatDoor
