/- A part of a proof. -/
import Derived.OneCell
import Derived.Test.YtpkiepjmcepnoaaGreatDoorPtQ
set_option maxHeartbeats 16000000
set_option maxRecDepth 100000
namespace Go.Proofs.YtpkiepjmcepnoaaGreatDoor
open Go.ChangeShapes Go.WideShapes Go.ChangeAt Go.RowKit
set_option linter.unusedVariables false
def FrameIs (s:ByteArray) (K L Q:Int) (WS:List Int):Prop:=kindI s=K∧laneI s=L∧(byteI s 1:Int)=Q∧wordsI s (byteI s 2)=WS
theorem frame_is (s:ByteArray) (h:ReadOk s) (K L Q:Int) (WS:List Int) (hq:FrameIs s K L Q WS) (w:World):
  Calls Tryz.prog 138 #[.string s] w fun e w'=>∃v,e=.returned (.tuple #[frameV K L Q v,.int .i64 0])∧w'.ownsRow w.heap.size 21 1 v WS.length (WS.map (.int .i32))∧Below w.heap.size w w':=by
 obtain⟨rfl,rfl,rfl,rfl⟩:=hq
 exact frame_ok s h w
theorem linkHear_no (k l q:Int) (v:Value) (ws:List Int) (h:Bool) (g d c:Int) (s:ByteArray) (w:World) (hv:IntsAt .i32 w v ws) (hn:ws.length≤9223372036854775807) (hk:I64B k) (hl:I64B l) (hc:linkChk k l q ws.length h g d=c) (h0:c≠0):
  Calls Tryz.prog 103 #[linkV k l q v h g d,.string s] w fun e w'=>e=.returned (.tuple #[linkV 0 0 0 (.slice none 0 0) false 0 0,.int .i64 c])∧Below w.heap.size w w':=by
 have HC:=qh hc
 have dc:(c != 0)=true:=by simpa using h0
 obtain⟨a,cap,rfl⟩:=hv.len
 clear hv hc h0
 go_enter Tryz.func103,Tryz.ntmps103
 go_wp2_with fail
 refine(linkCheck_any k l q a ws.length cap h g d _ hk hl hn).mono ?_
 rw[HC.out]
 rintro e1 w1 ⟨rfl,hb1⟩
 have A0:LinkAt w1 w.heap.size k l q (.slice a ws.length cap) h g d:=⟨cell_later hb1 (by go_simp),cell_later hb1 (by go_simp),cell_later hb1 (by go_simp),cell_later hb1 (by go_simp),cell_later hb1 (by go_simp),cell_later hb1 (by go_simp),cell_later hb1 (by go_simp),fun o=>by rw[hb1.frozen (by first|omega|(simp<;>omega))];go_simp⟩
 have A1:LinkAt w1 (w.heap.size+1) 0 0 0 (.slice none 0 0) false 0 0:=⟨cell_later hb1 (by go_simp),cell_later hb1 (by go_simp),cell_later hb1 (by go_simp),cell_later hb1 (by go_simp),cell_later hb1 (by go_simp),cell_later hb1 (by go_simp),cell_later hb1 (by go_simp),fun o=>by rw[hb1.frozen (by first|omega|(simp<;>omega))];go_simp⟩
 have HA1:=qh A1
 have z1:=A1.lt
 obtain⟨g0,g1,g2,g3,g4,g5,g6,gf⟩:=A1
 have B1:Below w.heap.size w w1:=by repeat(first|(with_reducible first|exact bLr)|((with_reducible first|refine bLs ?_ ?_ _|refine bLt hb1 ?_ ?_|refine bLa ?_ ?_ _);·first|omega|(simp<;>omega))|with_reducible first|refine bLn ?_ _|refine bLd ?_)
 have HA0:=qh A0;have HB1:=qh B1
 have z0:=A0.lt
 obtain⟨c0,c1,c2,c3,c4,c5,c6,cf⟩:=A0
 clear hb1 B1
 go_wp2
 have hW:=link_write HA1.out 0 0 0 (.slice none 0 0) false 0 0
 have hB9:Below w.heap.size w _:=wrLink_below HB1.out (show w.heap.size≤w.heap.size+1 by omega) 0 0 0 (.slice none 0 0) false 0 0
 unfold wrLink at hW hB9
 clear c0 c1 c2 c3 c4 c5 c6 cf g0 g1 g2 g3 g4 g5 g6 gf
 generalize hw9:(((((((_:World).setCell _ _).setCell _ _).setCell _ _).setCell _ _).setCell _ _).setCell _ _).setCell _ _=w9 at hW hB9⊢
 clear hw9
 obtain⟨r0,r1,r2,r3,r4,r5,r6,-⟩:=hW
 exact bodyPost_ret (v:=.tuple #[linkV 0 0 0 (.slice none 0 0) false 0 0,.int .i64 c]) (by simp[results,Tryz.results103,go_sem,r0,r1,r2,r3,r4,r5,r6]) rfl ⟨rfl,hB9⟩
def HearBad (w:World) (k l q:Int) (ws:List Int) (h:Bool) (g d c:Int) (e:Ending) (w':World):Prop:=
 ∃v,e=.returned (.tuple #[linkV k l q v h g d,.int .i64 c])∧w'.ownsRow w.heap.size 21 1 v ws.length (ws.map (.int .i32))∧Below w.heap.size w w'
theorem linkHear_bad (k l q:Int) (v:Value) (ws:List Int) (h:Bool) (g d d' c:Int) (s:ByteArray) (w:World) (hv:IntsAt .i32 w v ws) (hws:ws.length*4≤140737488351232) (hk:I64B k) (hl:I64B l) (hs:s.size≤140737488351232) (hc:linkChk k l q ws.length h g d=0) (hd':min 10000 (d+1)=d') (K L Q:Int) (WS:List Int) (hq:FrameIs s K L Q WS)
  (hbad:ReadErr s c∨(ReadOk s∧h=true∧g<100∧newB Q q=false∧c=6)):
  Calls Tryz.prog 103 #[linkV k l q v h g d,.string s] w (HearBad w k l q ws h g d' c):=by
 have hd:0≤d∧d≤10000:=by unfold linkChk at hc;split at hc<;>omega
 have HV:=qh hv;have HC:=qh hc;have HD:=qh hd';have HQ:=qh hq
 have hn:ws.length≤9223372036854775807:=by omega
 clear hv hc hd' hq
 obtain⟨a,cap,rfl⟩:=HV.out.len
 rcases hbad with hbad|⟨hok,rfl,hg,hnew,rfl⟩
 ·have HE:=qh hbad
  have hne:=hbad.ne
  have dc:(c != 0)=true:=by simpa using hne
  have dc2:(c==0)=false:=by simpa using hne
  clear hbad hne
  go_enter Tryz.func103,Tryz.ntmps103
  go_wp2_with fail
  refine(linkCheck_any k l q a ws.length cap h g d _ hk hl hn).mono ?_
  rw[HC.out]
  rintro e1 w1 ⟨rfl,hb1⟩
  have A0:LinkAt w1 w.heap.size k l q (.slice a ws.length cap) h g d:=⟨cell_later hb1 (by go_simp),cell_later hb1 (by go_simp),cell_later hb1 (by go_simp),cell_later hb1 (by go_simp),cell_later hb1 (by go_simp),cell_later hb1 (by go_simp),cell_later hb1 (by go_simp),fun o=>by rw[hb1.frozen (by first|omega|(simp<;>omega))];go_simp⟩
  have A1:LinkAt w1 (w.heap.size+1) 0 0 0 (.slice none 0 0) false 0 0:=⟨cell_later hb1 (by go_simp),cell_later hb1 (by go_simp),cell_later hb1 (by go_simp),cell_later hb1 (by go_simp),cell_later hb1 (by go_simp),cell_later hb1 (by go_simp),cell_later hb1 (by go_simp),fun o=>by rw[hb1.frozen (by first|omega|(simp<;>omega))];go_simp⟩
  have HA1:=qh A1
  have z1:=A1.lt
  obtain⟨g0,g1,g2,g3,g4,g5,g6,gf⟩:=A1
  have B1:Below w.heap.size w w1:=by repeat(first|(with_reducible first|exact bLr)|((with_reducible first|refine bLs ?_ ?_ _|refine bLt hb1 ?_ ?_|refine bLa ?_ ?_ _);·first|omega|(simp<;>omega))|with_reducible first|refine bLn ?_ _|refine bLd ?_)
  have HA0:=qh A0;have HB1:=qh B1
  have z0:=A0.lt
  obtain⟨c0,c1,c2,c3,c4,c5,c6,cf⟩:=A0
  clear hb1 B1
  go_wp2_with fail
  refine(frame_err s hs c HE.out _).mono ?_
  rintro e2 w2 ⟨rfl,hb2⟩
  have B2:Below w.heap.size w w2:=HB1.out.trans (hb2.mono HB1.out.size)
  have C0:=HA0.out.later hb2 HA0.out.lt
  have C1:=HA1.out.later hb2 HA1.out.lt
  have HB2:=qh B2;have HC1:=qh C1
  clear c0 c1 c2 c3 c4 c5 c6 cf g0 g1 g2 g3 g4 g5 g6 gf z0 z1 B2
  have z0:=C0.lt;have z1:=C1.lt
  obtain⟨c0,c1,c2,c3,c4,c5,c6,cf⟩:=C0
  obtain⟨g0,g1,g2,g3,g4,g5,g6,gf⟩:=C1
  go_wp2_with fail
  have HB2a:=qh (HB2.out.alloc HB2.out.size (.cells #[.int .i64 0,.int .i64 0,.int .u8 0,.slice none 0 0] 70))
  have HC1a:=qh (HC1.out.later ((Below.refl w2.heap.size w2).alloc (Nat.le_refl _) (.cells #[.int .i64 0,.int .i64 0,.int .u8 0,.slice none 0 0] 70)) HC1.out.lt)
  refine(linkBad_any k l q _ ws h g d d' _ (by exact HV.out.later HB2a.out (Nat.le_refl _)) hws hd HD.out).mono ?_
  rintro e3 w3 ⟨v3,rfl,hown3,hb3⟩
  obtain⟨a3,cap3,rfl⟩:=(own_ints' hown3).len
  have HB3:=qh (HB2a.out.trans (hb3.mono HB2a.out.size))
  have C1:=HC1a.out.later hb3 HC1a.out.lt
  have HD1:=qh C1;have HO3:=qh (own_mono hown3 (show w.heap.size+1+1≤_ from HC1a.out.lt))
  clear g0 g1 g2 g3 g4 g5 g6 gf z1 hown3 hb3
  have z1:=C1.lt
  obtain⟨g0,g1,g2,g3,g4,g5,g6,gf⟩:=C1
  go_wp2
  have hW:=link_write HD1.out k l q (.slice a3 ws.length cap3) h g d'
  have hB9:Below w.heap.size w _:=wrLink_below HB3.out (show w.heap.size≤w.heap.size+1 by omega) k l q (.slice a3 ws.length cap3) h g d'
  have hO9:=wrLink_own HO3.out (show w.heap.size+1<w.heap.size+1+1 by omega) k l q (.slice a3 ws.length cap3) h g d'
  unfold wrLink at hW hB9 hO9
  clear g0 g1 g2 g3 g4 g5 g6 gf
  generalize hw9:(((((((_:World).setCell _ _).setCell _ _).setCell _ _).setCell _ _).setCell _ _).setCell _ _).setCell _ _=w9 at hW hB9 hO9⊢
  clear hw9
  obtain⟨r0,r1,r2,r3,r4,r5,r6,-⟩:=hW
  exact bodyPost_ret (v:=.tuple #[linkV k l q (.slice a3 ws.length cap3) h g d',.int .i64 c]) (by simp[results,Tryz.results103,go_sem,r0,r1,r2,r3,r4,r5,r6]) rfl ⟨_,rfl,own_mono hO9 (by omega),hB9⟩
 ·have HOK:=qh hok;have HN:=qh hnew
  have dg:decide (g<100)=true:=decide_eq_true hg
  clear hok hnew hg
  go_enter Tryz.func103,Tryz.ntmps103
  go_wp2_with fail
  refine(linkCheck_any k l q a ws.length cap true g d _ hk hl hn).mono ?_
  rw[HC.out]
  rintro e1 w1 ⟨rfl,hb1⟩
  have A0:LinkAt w1 w.heap.size k l q (.slice a ws.length cap) true g d:=⟨cell_later hb1 (by go_simp),cell_later hb1 (by go_simp),cell_later hb1 (by go_simp),cell_later hb1 (by go_simp),cell_later hb1 (by go_simp),cell_later hb1 (by go_simp),cell_later hb1 (by go_simp),fun o=>by rw[hb1.frozen (by first|omega|(simp<;>omega))];go_simp⟩
  have A1:LinkAt w1 (w.heap.size+1) 0 0 0 (.slice none 0 0) false 0 0:=⟨cell_later hb1 (by go_simp),cell_later hb1 (by go_simp),cell_later hb1 (by go_simp),cell_later hb1 (by go_simp),cell_later hb1 (by go_simp),cell_later hb1 (by go_simp),cell_later hb1 (by go_simp),fun o=>by rw[hb1.frozen (by first|omega|(simp<;>omega))];go_simp⟩
  have HA1:=qh A1
  have z1:=A1.lt
  obtain⟨g0,g1,g2,g3,g4,g5,g6,gf⟩:=A1
  have B1:Below w.heap.size w w1:=by repeat(first|(with_reducible first|exact bLr)|((with_reducible first|refine bLs ?_ ?_ _|refine bLt hb1 ?_ ?_|refine bLa ?_ ?_ _);·first|omega|(simp<;>omega))|with_reducible first|refine bLn ?_ _|refine bLd ?_)
  have HA0:=qh A0;have HB1:=qh B1
  have z0:=A0.lt
  obtain⟨c0,c1,c2,c3,c4,c5,c6,cf⟩:=A0
  clear hb1 B1
  go_wp2_with fail
  refine(frame_is s HOK.out K L Q WS HQ.out _).mono ?_
  rintro e2 w2 ⟨v2,rfl,hown2,hb2⟩
  obtain⟨a2,cap2,rfl⟩:=(own_ints' hown2).len
  have HO2:=qh (own_mono hown2 HB1.out.size)
  clear hown2
  have B2:Below w.heap.size w w2:=HB1.out.trans (hb2.mono HB1.out.size)
  have C0:=HA0.out.later hb2 HA0.out.lt
  have C1:=HA1.out.later hb2 HA1.out.lt
  have HB2:=qh B2;have HC1:=qh C1
  clear c0 c1 c2 c3 c4 c5 c6 cf g0 g1 g2 g3 g4 g5 g6 gf z0 z1 B2
  have z0:=C0.lt;have z1:=C1.lt
  obtain⟨c0,c1,c2,c3,c4,c5,c6,cf⟩:=C0
  obtain⟨g0,g1,g2,g3,g4,g5,g6,gf⟩:=C1
  go_wp2_with fail
  refine(frameNewer_any _ _ _).mono ?_
  rw[HN.out]
  rintro e5 w5 ⟨rfl,rfl⟩
  go_wp2_with fail
  have HB2a:=qh (HB2.out.alloc HB2.out.size (.cells #[.int .i64 K,.int .i64 L,.int .u8 Q,.slice a2 WS.length cap2] 70))
  have HC1a:=qh (HC1.out.later ((Below.refl w2.heap.size w2).alloc (Nat.le_refl _) (.cells #[.int .i64 K,.int .i64 L,.int .u8 Q,.slice a2 WS.length cap2] 70)) HC1.out.lt)
  refine(linkBad_any k l q _ ws true g d d' _ (by exact HV.out.later HB2a.out (Nat.le_refl _)) hws hd HD.out).mono ?_
  rintro e3 w3 ⟨v3,rfl,hown3,hb3⟩
  obtain⟨a3,cap3,rfl⟩:=(own_ints' hown3).len
  have HB3:=qh (HB2a.out.trans (hb3.mono HB2a.out.size))
  have C1:=HC1a.out.later hb3 HC1a.out.lt
  have HD1:=qh C1;have HO3:=qh (own_mono hown3 (show w.heap.size+1+1≤_ from HC1a.out.lt))
  clear g0 g1 g2 g3 g4 g5 g6 gf z1 hown3 hb3
  have z1:=C1.lt
  obtain⟨g0,g1,g2,g3,g4,g5,g6,gf⟩:=C1
  go_wp2
  have hW:=link_write HD1.out k l q (.slice a3 ws.length cap3) true g d'
  have hB9:Below w.heap.size w _:=wrLink_below HB3.out (show w.heap.size≤w.heap.size+1 by omega) k l q (.slice a3 ws.length cap3) true g d'
  have hO9:=wrLink_own HO3.out (show w.heap.size+1<w.heap.size+1+1 by omega) k l q (.slice a3 ws.length cap3) true g d'
  unfold wrLink at hW hB9 hO9
  clear g0 g1 g2 g3 g4 g5 g6 gf
  generalize hw9:(((((((_:World).setCell _ _).setCell _ _).setCell _ _).setCell _ _).setCell _ _).setCell _ _).setCell _ _=w9 at hW hB9 hO9⊢
  clear hw9
  obtain⟨r0,r1,r2,r3,r4,r5,r6,-⟩:=hW
  exact bodyPost_ret (v:=.tuple #[linkV k l q (.slice a3 ws.length cap3) true g d',.int .i64 6]) (by simp[results,Tryz.results103,go_sem,r0,r1,r2,r3,r4,r5,r6]) rfl ⟨_,rfl,own_mono hO9 (by omega),hB9⟩
def HearOk (w:World) (K L Q:Int) (WS:List Int) (d:Int) (e:Ending) (w':World):Prop:=
 ∃v,e=.returned (.tuple #[linkV K L Q v true 0 d,.int .i64 0])∧w'.ownsRow w.heap.size 21 1 v WS.length (WS.map (.int .i32))∧Below w.heap.size w w'
theorem linkHear_ok (k l q:Int) (v:Value) (ws:List Int) (h:Bool) (g d:Int) (s:ByteArray) (w:World) (hv:IntsAt .i32 w v ws) (hn:ws.length≤9223372036854775807) (hk:I64B k) (hl:I64B l) (hc:linkChk k l q ws.length h g d=0) (hok:ReadOk s) (K L Q:Int) (WS:List Int) (hq:FrameIs s K L Q WS)
  (hnew:h=false∨(h=true∧¬g<100)∨(h=true∧g<100∧newB Q q=true)):
  Calls Tryz.prog 103 #[linkV k l q v h g d,.string s] w (HearOk w K L Q WS d):=by
 have HC:=qh hc;have HOK:=qh hok;have HQ:=qh hq
 obtain⟨a,cap,rfl⟩:=hv.len
 clear hv hc hok hq
 rcases hnew with rfl|⟨rfl,hg⟩|⟨rfl,hg,hnew⟩
 ·have hx:=0
  clear hx
  go_enter Tryz.func103,Tryz.ntmps103
  go_wp2_with fail
  refine(linkCheck_any k l q a ws.length cap false g d _ hk hl hn).mono ?_
  rw[HC.out]
  rintro e1 w1 ⟨rfl,hb1⟩
  have A0:LinkAt w1 w.heap.size k l q (.slice a ws.length cap) false g d:=⟨cell_later hb1 (by go_simp),cell_later hb1 (by go_simp),cell_later hb1 (by go_simp),cell_later hb1 (by go_simp),cell_later hb1 (by go_simp),cell_later hb1 (by go_simp),cell_later hb1 (by go_simp),fun o=>by rw[hb1.frozen (by first|omega|(simp<;>omega))];go_simp⟩
  have A1:LinkAt w1 (w.heap.size+1) 0 0 0 (.slice none 0 0) false 0 0:=⟨cell_later hb1 (by go_simp),cell_later hb1 (by go_simp),cell_later hb1 (by go_simp),cell_later hb1 (by go_simp),cell_later hb1 (by go_simp),cell_later hb1 (by go_simp),cell_later hb1 (by go_simp),fun o=>by rw[hb1.frozen (by first|omega|(simp<;>omega))];go_simp⟩
  have HA1:=qh A1
  have z1:=A1.lt
  obtain⟨g0,g1,g2,g3,g4,g5,g6,gf⟩:=A1
  have B1:Below w.heap.size w w1:=by repeat(first|(with_reducible first|exact bLr)|((with_reducible first|refine bLs ?_ ?_ _|refine bLt hb1 ?_ ?_|refine bLa ?_ ?_ _);·first|omega|(simp<;>omega))|with_reducible first|refine bLn ?_ _|refine bLd ?_)
  have HA0:=qh A0;have HB1:=qh B1
  have z0:=A0.lt
  obtain⟨c0,c1,c2,c3,c4,c5,c6,cf⟩:=A0
  clear hb1 B1
  go_wp2_with fail
  refine(frame_is s HOK.out K L Q WS HQ.out _).mono ?_
  rintro e2 w2 ⟨v2,rfl,hown2,hb2⟩
  obtain⟨a2,cap2,rfl⟩:=(own_ints' hown2).len
  have HO2:=qh (own_mono hown2 (show w.heap.size+1+1≤_ from HA1.out.lt))
  clear hown2
  have B2:Below w.heap.size w w2:=HB1.out.trans (hb2.mono HB1.out.size)
  have C0:=HA0.out.later hb2 HA0.out.lt
  have C1:=HA1.out.later hb2 HA1.out.lt
  have HB2:=qh B2;have HC1:=qh C1
  clear c0 c1 c2 c3 c4 c5 c6 cf g0 g1 g2 g3 g4 g5 g6 gf z0 z1 B2
  have z0:=C0.lt;have z1:=C1.lt
  obtain⟨c0,c1,c2,c3,c4,c5,c6,cf⟩:=C0
  obtain⟨g0,g1,g2,g3,g4,g5,g6,gf⟩:=C1
  go_wp2
  have hW:=link_write HC1.out K L Q (.slice a2 WS.length cap2) true 0 d
  have hB9:Below w.heap.size w _:=wrLink_below HB2.out (show w.heap.size≤w.heap.size+1 by omega) K L Q (.slice a2 WS.length cap2) true 0 d
  have hO9:=wrLink_own HO2.out (show w.heap.size+1<w.heap.size+1+1 by omega) K L Q (.slice a2 WS.length cap2) true 0 d
  unfold wrLink at hW hB9 hO9
  clear c0 c1 c2 c3 c4 c5 c6 cf g0 g1 g2 g3 g4 g5 g6 gf
  generalize hw9:(((((((_:World).setCell _ _).setCell _ _).setCell _ _).setCell _ _).setCell _ _).setCell _ _).setCell _ _=w9 at hW hB9 hO9⊢
  clear hw9
  have hW2:=hW.later ((Below.refl w9.heap.size w9).alloc (Nat.le_refl _) (.cells #[.int .i64 K,.int .i64 L,.int .u8 Q,.slice a2 WS.length cap2] 70)) hW.lt
  have hB10:=hB9.alloc hB9.size (.cells #[.int .i64 K,.int .i64 L,.int .u8 Q,.slice a2 WS.length cap2] 70)
  have hO10:=hO9.alloc (.cells #[.int .i64 K,.int .i64 L,.int .u8 Q,.slice a2 WS.length cap2] 70)
  clear hW hB9 hO9
  generalize w9.alloc (.cells #[.int .i64 K,.int .i64 L,.int .u8 Q,.slice a2 WS.length cap2] 70)=w10 at *
  obtain⟨r0,r1,r2,r3,r4,r5,r6,-⟩:=hW2
  exact bodyPost_ret (v:=.tuple #[linkV K L Q (.slice a2 WS.length cap2) true 0 d,.int .i64 0]) (by simp[results,Tryz.results103,go_sem,r0,r1,r2,r3,r4,r5,r6]) rfl ⟨_,rfl,own_mono hO10 (by omega),hB10⟩
 ·have hx:=0
  clear hx
  have dg:decide (g<100)=false:=decide_eq_false hg
  clear hg
  go_enter Tryz.func103,Tryz.ntmps103
  go_wp2_with fail
  refine(linkCheck_any k l q a ws.length cap true g d _ hk hl hn).mono ?_
  rw[HC.out]
  rintro e1 w1 ⟨rfl,hb1⟩
  have A0:LinkAt w1 w.heap.size k l q (.slice a ws.length cap) true g d:=⟨cell_later hb1 (by go_simp),cell_later hb1 (by go_simp),cell_later hb1 (by go_simp),cell_later hb1 (by go_simp),cell_later hb1 (by go_simp),cell_later hb1 (by go_simp),cell_later hb1 (by go_simp),fun o=>by rw[hb1.frozen (by first|omega|(simp<;>omega))];go_simp⟩
  have A1:LinkAt w1 (w.heap.size+1) 0 0 0 (.slice none 0 0) false 0 0:=⟨cell_later hb1 (by go_simp),cell_later hb1 (by go_simp),cell_later hb1 (by go_simp),cell_later hb1 (by go_simp),cell_later hb1 (by go_simp),cell_later hb1 (by go_simp),cell_later hb1 (by go_simp),fun o=>by rw[hb1.frozen (by first|omega|(simp<;>omega))];go_simp⟩
  have HA1:=qh A1
  have z1:=A1.lt
  obtain⟨g0,g1,g2,g3,g4,g5,g6,gf⟩:=A1
  have B1:Below w.heap.size w w1:=by repeat(first|(with_reducible first|exact bLr)|((with_reducible first|refine bLs ?_ ?_ _|refine bLt hb1 ?_ ?_|refine bLa ?_ ?_ _);·first|omega|(simp<;>omega))|with_reducible first|refine bLn ?_ _|refine bLd ?_)
  have HA0:=qh A0;have HB1:=qh B1
  have z0:=A0.lt
  obtain⟨c0,c1,c2,c3,c4,c5,c6,cf⟩:=A0
  clear hb1 B1
  go_wp2_with fail
  refine(frame_is s HOK.out K L Q WS HQ.out _).mono ?_
  rintro e2 w2 ⟨v2,rfl,hown2,hb2⟩
  obtain⟨a2,cap2,rfl⟩:=(own_ints' hown2).len
  have HO2:=qh (own_mono hown2 (show w.heap.size+1+1≤_ from HA1.out.lt))
  clear hown2
  have B2:Below w.heap.size w w2:=HB1.out.trans (hb2.mono HB1.out.size)
  have C0:=HA0.out.later hb2 HA0.out.lt
  have C1:=HA1.out.later hb2 HA1.out.lt
  have HB2:=qh B2;have HC1:=qh C1
  clear c0 c1 c2 c3 c4 c5 c6 cf g0 g1 g2 g3 g4 g5 g6 gf z0 z1 B2
  have z0:=C0.lt;have z1:=C1.lt
  obtain⟨c0,c1,c2,c3,c4,c5,c6,cf⟩:=C0
  obtain⟨g0,g1,g2,g3,g4,g5,g6,gf⟩:=C1
  go_wp2
  have hW:=link_write HC1.out K L Q (.slice a2 WS.length cap2) true 0 d
  have hB9:Below w.heap.size w _:=wrLink_below HB2.out (show w.heap.size≤w.heap.size+1 by omega) K L Q (.slice a2 WS.length cap2) true 0 d
  have hO9:=wrLink_own HO2.out (show w.heap.size+1<w.heap.size+1+1 by omega) K L Q (.slice a2 WS.length cap2) true 0 d
  unfold wrLink at hW hB9 hO9
  clear c0 c1 c2 c3 c4 c5 c6 cf g0 g1 g2 g3 g4 g5 g6 gf
  generalize hw9:(((((((_:World).setCell _ _).setCell _ _).setCell _ _).setCell _ _).setCell _ _).setCell _ _).setCell _ _=w9 at hW hB9 hO9⊢
  clear hw9
  have hW2:=hW.later ((Below.refl w9.heap.size w9).alloc (Nat.le_refl _) (.cells #[.int .i64 K,.int .i64 L,.int .u8 Q,.slice a2 WS.length cap2] 70)) hW.lt
  have hB10:=hB9.alloc hB9.size (.cells #[.int .i64 K,.int .i64 L,.int .u8 Q,.slice a2 WS.length cap2] 70)
  have hO10:=hO9.alloc (.cells #[.int .i64 K,.int .i64 L,.int .u8 Q,.slice a2 WS.length cap2] 70)
  clear hW hB9 hO9
  generalize w9.alloc (.cells #[.int .i64 K,.int .i64 L,.int .u8 Q,.slice a2 WS.length cap2] 70)=w10 at *
  obtain⟨r0,r1,r2,r3,r4,r5,r6,-⟩:=hW2
  exact bodyPost_ret (v:=.tuple #[linkV K L Q (.slice a2 WS.length cap2) true 0 d,.int .i64 0]) (by simp[results,Tryz.results103,go_sem,r0,r1,r2,r3,r4,r5,r6]) rfl ⟨_,rfl,own_mono hO10 (by omega),hB10⟩
 ·have hx:=0
  clear hx
  have HN:=qh hnew
  have dg:decide (g<100)=true:=decide_eq_true hg
  clear hnew hg
  go_enter Tryz.func103,Tryz.ntmps103
  go_wp2_with fail
  refine(linkCheck_any k l q a ws.length cap true g d _ hk hl hn).mono ?_
  rw[HC.out]
  rintro e1 w1 ⟨rfl,hb1⟩
  have A0:LinkAt w1 w.heap.size k l q (.slice a ws.length cap) true g d:=⟨cell_later hb1 (by go_simp),cell_later hb1 (by go_simp),cell_later hb1 (by go_simp),cell_later hb1 (by go_simp),cell_later hb1 (by go_simp),cell_later hb1 (by go_simp),cell_later hb1 (by go_simp),fun o=>by rw[hb1.frozen (by first|omega|(simp<;>omega))];go_simp⟩
  have A1:LinkAt w1 (w.heap.size+1) 0 0 0 (.slice none 0 0) false 0 0:=⟨cell_later hb1 (by go_simp),cell_later hb1 (by go_simp),cell_later hb1 (by go_simp),cell_later hb1 (by go_simp),cell_later hb1 (by go_simp),cell_later hb1 (by go_simp),cell_later hb1 (by go_simp),fun o=>by rw[hb1.frozen (by first|omega|(simp<;>omega))];go_simp⟩
  have HA1:=qh A1
  have z1:=A1.lt
  obtain⟨g0,g1,g2,g3,g4,g5,g6,gf⟩:=A1
  have B1:Below w.heap.size w w1:=by repeat(first|(with_reducible first|exact bLr)|((with_reducible first|refine bLs ?_ ?_ _|refine bLt hb1 ?_ ?_|refine bLa ?_ ?_ _);·first|omega|(simp<;>omega))|with_reducible first|refine bLn ?_ _|refine bLd ?_)
  have HA0:=qh A0;have HB1:=qh B1
  have z0:=A0.lt
  obtain⟨c0,c1,c2,c3,c4,c5,c6,cf⟩:=A0
  clear hb1 B1
  go_wp2_with fail
  refine(frame_is s HOK.out K L Q WS HQ.out _).mono ?_
  rintro e2 w2 ⟨v2,rfl,hown2,hb2⟩
  obtain⟨a2,cap2,rfl⟩:=(own_ints' hown2).len
  have HO2:=qh (own_mono hown2 (show w.heap.size+1+1≤_ from HA1.out.lt))
  clear hown2
  have B2:Below w.heap.size w w2:=HB1.out.trans (hb2.mono HB1.out.size)
  have C0:=HA0.out.later hb2 HA0.out.lt
  have C1:=HA1.out.later hb2 HA1.out.lt
  have HB2:=qh B2;have HC1:=qh C1
  clear c0 c1 c2 c3 c4 c5 c6 cf g0 g1 g2 g3 g4 g5 g6 gf z0 z1 B2
  have z0:=C0.lt;have z1:=C1.lt
  obtain⟨c0,c1,c2,c3,c4,c5,c6,cf⟩:=C0
  obtain⟨g0,g1,g2,g3,g4,g5,g6,gf⟩:=C1
  go_wp2_with fail
  refine(frameNewer_any _ _ _).mono ?_
  rw[HN.out]
  rintro e5 w5 ⟨rfl,rfl⟩
  go_wp2
  have hW:=link_write HC1.out K L Q (.slice a2 WS.length cap2) true 0 d
  have hB9:Below w.heap.size w _:=wrLink_below HB2.out (show w.heap.size≤w.heap.size+1 by omega) K L Q (.slice a2 WS.length cap2) true 0 d
  have hO9:=wrLink_own HO2.out (show w.heap.size+1<w.heap.size+1+1 by omega) K L Q (.slice a2 WS.length cap2) true 0 d
  unfold wrLink at hW hB9 hO9
  clear c0 c1 c2 c3 c4 c5 c6 cf g0 g1 g2 g3 g4 g5 g6 gf
  generalize hw9:(((((((_:World).setCell _ _).setCell _ _).setCell _ _).setCell _ _).setCell _ _).setCell _ _).setCell _ _=w9 at hW hB9 hO9⊢
  clear hw9
  have hW2:=hW.later ((Below.refl w9.heap.size w9).alloc (Nat.le_refl _) (.cells #[.int .i64 K,.int .i64 L,.int .u8 Q,.slice a2 WS.length cap2] 70)) hW.lt
  have hB10:=hB9.alloc hB9.size (.cells #[.int .i64 K,.int .i64 L,.int .u8 Q,.slice a2 WS.length cap2] 70)
  have hO10:=hO9.alloc (.cells #[.int .i64 K,.int .i64 L,.int .u8 Q,.slice a2 WS.length cap2] 70)
  clear hW hB9 hO9
  generalize w9.alloc (.cells #[.int .i64 K,.int .i64 L,.int .u8 Q,.slice a2 WS.length cap2] 70)=w10 at *
  obtain⟨r0,r1,r2,r3,r4,r5,r6,-⟩:=hW2
  exact bodyPost_ret (v:=.tuple #[linkV K L Q (.slice a2 WS.length cap2) true 0 d,.int .i64 0]) (by simp[results,Tryz.results103,go_sem,r0,r1,r2,r3,r4,r5,r6]) rfl ⟨_,rfl,own_mono hO10 (by omega),hB10⟩
end Go.Proofs.YtpkiepjmcepnoaaGreatDoor
