/- A part of a proof. -/
import Derived.Test.YtpkiepjmcepnoaaGreatDoorPtX
import Derived.Test.YtpkiepjmcepnoaaGreatDoorPtZb
set_option maxHeartbeats 16000000
set_option maxRecDepth 100000
namespace Go.Proofs.YtpkiepjmcepnoaaGreatDoor
open Go.ChangeShapes Go.WideShapes Go.ChangeAt Go.RowKit
set_option linter.unusedVariables false
def hdAt:Nat→Code→Code
 |0,.seq a _=>a
 |n+1,.seq _ b=>hdAt n b
 |_,c=>c
def rsAt:Nat→Code→Code
 |0,.seq _ b=>b
 |n+1,.seq _ b=>rsAt n b
 |_,c=>c
noncomputable def opBody:Code:=(Tryz.f82.body).getD .skip
def OpPost (b:Nat) (S:Stp) (D:Dyn) (I:Inp) (vp vl:Value) (w:World) (e:Ending) (w':World):Prop:=e=.returned (.tuple #[])∧∃vg',WAt w' b S (opD S D I) vp vl vg'∧w.grownBy w' (some b)
noncomputable def opQ (b:Nat) (S:Stp) (D:Dyn) (I:Inp) (vp vl:Value) (w:World):Exit→Act→World→Prop:=bodyPost Tryz.prog Tryz.f82 (OpPost b S D I vp vl w)
theorem opD6_frame (S:Stp) (D:Dyn) (I:Inp):(opD6 S D I).frame=D.frame:=by simp only[opD6,opD5,opD4,opD3,opD2,opD1]
def OpAIs:Prop:=∀(b:Nat) (S:Stp) (D:Dyn) (I:Inp) (vp vl vg:Value) (w:World) (wa:World) (vga:Value) (b4 b5 g9 g10 g11 g13:Nat) (HH:Nat→Bool) (VV:Nat→Int) (M:Nat→Int) (PU:Nat→Int) (FT:Nat→Int) (F:Nat→Bool) (u1 u2 u3 u4 u6 u7 u8 u9 u12 u14 u15 u16 u17 u18 u19 u20 u21 u22 u23 u24 u25 u26 u27 u28 u29 u30 u31 u32 u33 u34 u35 u36 u37 u38 u39 u40 u41 u42 u43 u44 u45 u46 u47 u48 u49 u50 u51 u52 u53 u54 u55 u56 u57 u58 u59 u60 u61 u62 u63 u64 u65 u66 u67 u68 u69 u70 u71 u72 u73 u74 u75 u76 u77 u78 u79 u80 u81 u82 u83 u84 u85 u86 u87 u88 u89 u90 u91 u92 u93 u94 u95 u96 u97 u98 u99 u100 u101 u102 u103 u104 u105 u106 u107 u108 u109 u110 u111 u112 u113 u114 u115 u116 u117 u118 u119 u120 u121 u122 u123 u124 u125 u126 u127 u128 u129 u130 u131 u132 u133 u134 u135 u136 u137 u138 u139 u140 u141 u142 u143 u144 u145 u146 u147 u148 u149 u150 u151 u152 u153 u154 u155 u156 u157 u158 u159 u160 u161 u162 u163 u164 u165:Value) (K:Act→World→Prop),WAt w b S D vp vl vg→StpOk S→DynOk S D→InpOk I→(supH D.oa D.ob)=HH→(vlvN S D (opMid S D I))=VV→(fun j=>(D.team j).1)=M→(opPush S D I)=PU→(opFight S D I)=FT→(opF S D I)=F→OpAt wa w b S (opD4 S D I) vp vl vga I [(g13,boolc F),(g11,i32c FT),(b4,i32c PU),(g10,i64c M),(g9,i32c VV),(b5,boolc HH)]→(∀a w',(rsAt 10 opBody).wp Tryz.prog (opQ b S D I vp vl w) a w'→K a w')→(hdAt 10 opBody).wp Tryz.prog (Exit.then K (opQ b S D I vp vl w)) ⟨List.toArray (ptr b::u1::u2::u3::u4:: .pointer (some ⟨b5,0,none⟩)::u6::u7::u8::u9:: .pointer (some ⟨g10,0,none⟩):: .pointer (some ⟨g11,0,none⟩)::u12:: .pointer (some ⟨g13,0,none⟩)::u14::u15::u16::u17::u18::u19::u20::u21::u22::u23::u24::u25::u26::u27::u28::u29::u30::u31::u32::u33::u34::u35::u36::u37::u38::u39::u40::u41::u42::u43::u44::u45::u46::u47::u48::u49::u50::u51::u52::u53::u54::u55::u56::u57::u58::u59::u60::u61::u62::u63::u64::u65::u66::u67::u68::u69::u70::u71::u72::u73::u74::u75::u76::u77::u78::u79::u80::u81::u82::u83::u84::u85::u86::u87::u88::u89::u90::u91::u92::u93::u94::u95::u96::u97::u98::u99::u100::u101::u102::u103::u104::u105::u106::u107::u108::u109::u110::u111::u112::u113::u114::u115::u116::u117::u118::u119::u120::u121::u122::u123::u124::u125::u126::u127::u128::u129::u130::u131::u132::u133::u134::u135::u136::u137::u138::u139::u140::u141::u142::u143::u144::u145::u146::u147::u148::u149::u150::u151::u152::u153::u154::u155::u156::u157::u158::u159::u160::u161::u162::u163::u164::u165::[]),[]⟩ wa
def OpBIs:Prop:=∀(b:Nat) (S:Stp) (D:Dyn) (I:Inp) (vp vl vg:Value) (w:World) (wa:World) (b4 b5 g9 g10 g11:Nat) (HH:Nat→Bool) (VV:Nat→Int) (M:Nat→Int) (PU:Nat→Int) (FT:Nat→Int) (u1 u2 u4 u6 u7 u8 u12 u13 u14 u15 u16 u17 u18 u19 u20 u21 u22 u23 u24 u25 u26 u27 u28 u29 u30 u31 u32 u33 u34 u35 u36 u37 u38 u39 u40 u41 u42 u43 u44 u45 u46 u47 u48 u49 u50 u51 u52 u53 u54 u55 u56 u57 u58 u59 u60 u61 u62 u63 u64 u65 u66 u67 u68 u69 u70 u71 u72 u73 u74 u75 u76 u77 u78 u79 u80 u81 u82 u83 u84 u85 u86 u87 u88 u89 u90 u91 u92 u93 u94 u95 u96 u97 u98 u99 u100 u101 u102 u103 u104 u105 u106 u107 u108 u109 u110 u111 u112 u113 u114 u115 u116 u117 u118 u119 u120 u121 u122 u123 u124 u125 u126 u127 u128 u129 u130 u131 u132 u133 u134 u135 u136 u137 u138 u139 u140 u141 u142 u143 u144 u145 u146 u147 u148 u149 u150 u151 u152 u153 u154 u155 u156 u157 u158 u159 u160 u161 u162 u163 u164 u165:Value) (K:Act→World→Prop),WAt w b S D vp vl vg→StpOk S→DynOk S D→InpOk I→(supH D.oa D.ob)=HH→(vlvN S D (opMid S D I))=VV→(fun j=>(D.team j).1)=M→(opPush S D I)=PU→(opFight S D I)=FT→OpAt wa w b S (opD2 S D I) vp vl vg I [(g11,i32c FT),(b4,i32c PU),(g10,i64c M),(g9,i32c VV),(b5,boolc HH)]→(∀a w',(rsAt 8 opBody).wp Tryz.prog (opQ b S D I vp vl w) a w'→K a w')→(hdAt 8 opBody).wp Tryz.prog (Exit.then K (opQ b S D I vp vl w)) ⟨List.toArray (ptr b::u1::u2:: .pointer (some ⟨w.heap.size,0,none⟩)::u4:: .pointer (some ⟨b5,0,none⟩)::u6::u7::u8:: .pointer (some ⟨g9,0,none⟩):: .pointer (some ⟨g10,0,none⟩):: .pointer (some ⟨g11,0,none⟩)::u12::u13::u14::u15::u16::u17::u18::u19::u20::u21::u22::u23::u24::u25::u26::u27::u28::u29::u30::u31::u32::u33::u34::u35::u36::u37::u38::u39::u40::u41::u42::u43::u44::u45::u46::u47::u48::u49::u50::u51::u52::u53::u54::u55::u56::u57::u58::u59::u60::u61::u62::u63::u64::u65::u66::u67::u68::u69::u70::u71::u72::u73::u74::u75::u76::u77::u78::u79::u80::u81::u82::u83::u84::u85::u86::u87::u88::u89::u90::u91::u92::u93::u94::u95::u96::u97::u98::u99::u100::u101::u102::u103::u104::u105::u106::u107::u108::u109::u110::u111::u112::u113::u114::u115::u116::u117::u118::u119::u120::u121::u122::u123::u124::u125::u126::u127::u128::u129::u130::u131::u132::u133::u134::u135::u136::u137::u138::u139::u140::u141::u142::u143::u144::u145::u146::u147::u148::u149::u150::u151::u152::u153::u154::u155::u156::u157::u158::u159::u160::u161::u162::u163::u164::u165::[]),[]⟩ wa
def OpCIs:Prop:=∀(b:Nat) (S:Stp) (D:Dyn) (I:Inp) (vp vl vg:Value) (w:World) (wa:World) (b4 b5 g9 g10:Nat) (PP:Nat→Int) (HH:Nat→Bool) (VV:Nat→Int) (SP:Nat→Int) (M:Nat→Int) (u1 u2 u6 u7 u8 u11 u12 u13 u14 u15 u16 u17 u18 u19 u20 u21 u22 u23 u24 u25 u26 u27 u28 u29 u30 u31 u32 u33 u34 u35 u36 u37 u38 u39 u40 u41 u42 u43 u44 u45 u46 u47 u48 u49 u50 u51 u52 u53 u54 u55 u56 u57 u58 u59 u60 u61 u62 u63 u64 u65 u66 u67 u68 u69 u70 u71 u72 u73 u74 u75 u76 u77 u78 u79 u80 u81 u82 u83 u84 u85 u86 u87 u88 u89 u90 u91 u92 u93 u94 u95 u96 u97 u98 u99 u100 u101 u102 u103 u104 u105 u106 u107 u108 u109 u110 u111 u112 u113 u114 u115 u116 u117 u118 u119 u120 u121 u122 u123 u124 u125 u126 u127 u128 u129 u130 u131 u132 u133 u134 u135 u136 u137 u138 u139 u140 u141 u142 u143 u144 u145 u146 u147 u148 u149 u150 u151 u152 u153 u154 u155 u156 u157 u158 u159 u160 u161 u162 u163 u164 u165:Value) (K:Act→World→Prop),WAt w b S D vp vl vg→StpOk S→DynOk S D→InpOk I→(supP D.oa D.ob I.p0 I.p1)=PP→(supH D.oa D.ob)=HH→(vlvN S D (opMid S D I))=VV→(spoN S D (opMid S D I) I.f)=SP→(fun j=>(D.team j).1)=M→w.heap.size<b4→b4≠b5→b4<g9→b5<g9→g9<g10→OpAt wa w b S (opD1 S D I) vp vl vg I [(g10,i64c M),(g9,i32c VV),(b4,i32c PP),(b5,boolc HH)]→(∀a w',(rsAt 5 opBody).wp Tryz.prog (opQ b S D I vp vl w) a w'→K a w')→(hdAt 5 opBody).wp Tryz.prog (Exit.then K (opQ b S D I vp vl w)) ⟨List.toArray (ptr b::u1::u2:: .pointer (some ⟨w.heap.size,0,none⟩):: .pointer (some ⟨b4,0,none⟩):: .pointer (some ⟨b5,0,none⟩)::u6::u7::u8:: .pointer (some ⟨g9,0,none⟩):: .pointer (some ⟨g10,0,none⟩)::u11::u12::u13::u14::u15::u16::u17::u18::u19::u20::u21::u22::u23::u24::u25::u26::u27::u28::u29::u30::u31::u32::u33::u34::u35::u36::u37::u38::u39::u40::u41::u42::u43::u44::u45::u46::u47::u48::u49::u50::u51::u52::u53::u54::u55::u56::u57::u58::u59::u60::u61::u62::u63::u64::u65::u66::u67::u68::u69::u70::u71::u72::u73::u74::u75::u76::u77::u78::u79::u80::u81::u82::u83::u84::u85::u86::u87::u88::u89::u90::u91::u92::u93::u94::u95::u96::u97::u98::u99::u100::u101::u102::u103::u104::u105::u106::u107::u108::u109::u110::u111::u112::u113::u114::u115::u116::u117::u118::u119::u120::u121::u122::u123::u124::u125::u126::u127::u128::u129::u130::u131::u132::u133::u134::u135::u136::u137::u138::u139::u140::u141::u142::u143::u144::u145::u146::u147::u148::u149::u150::u151::u152::u153::u154::u155::u156::u157::u158::u159::u160::u161::u162::u163::u164::u165::[]),[]⟩ wa
def OpEIs:Prop:=∀(b:Nat) (S:Stp) (D:Dyn) (I:Inp) (vp vl vg:Value) (w:World) (wa:World) (b4 b5:Nat) (PP:Nat→Int) (HH:Nat→Bool) (u1 u2 u6 u7 u8 u9 u10 u11 u12 u13 u14 u15 u16 u17 u18 u19 u20 u21 u22 u23 u24 u25 u26 u27 u28 u29 u30 u31 u32 u33 u34 u35 u36 u37 u38 u39 u40 u41 u42 u43 u44 u45 u46 u47 u48 u49 u50 u51 u52 u53 u54 u55 u56 u57 u58 u59 u60 u61 u62 u63 u64 u65 u66 u67 u68 u69 u70 u71 u72 u73 u74 u75 u76 u77 u78 u79 u80 u81 u82 u83 u84 u85 u86 u87 u88 u89 u90 u91 u92 u93 u94 u95 u96 u97 u98 u99 u100 u101 u102 u103 u104 u105 u106 u107 u108 u109 u110 u111 u112 u113 u114 u115 u116 u117 u118 u119 u120 u121 u122 u123 u124 u125 u126 u127 u128 u129 u130 u131 u132 u133 u134 u135 u136 u137 u138 u139 u140 u141 u142 u143 u144 u145 u146 u147 u148 u149 u150 u151 u152 u153 u154 u155 u156 u157 u158 u159 u160 u161 u162 u163 u164 u165:Value) (K:Act→World→Prop),WAt w b S D vp vl vg→StpOk S→DynOk S D→InpOk I→(supP D.oa D.ob I.p0 I.p1)=PP→(supH D.oa D.ob)=HH→w.heap.size<b4→b4≠b5→OpAt wa w b S D vp vl vg I [(b4,i32c PP),(b5,boolc HH)]→(∀a w',(rsAt 2 opBody).wp Tryz.prog (opQ b S D I vp vl w) a w'→K a w')→(hdAt 2 opBody).wp Tryz.prog (Exit.then K (opQ b S D I vp vl w)) ⟨List.toArray (ptr b::u1::u2:: .pointer (some ⟨w.heap.size,0,none⟩):: .pointer (some ⟨b4,0,none⟩):: .pointer (some ⟨b5,0,none⟩)::u6::u7::u8::u9::u10::u11::u12::u13::u14::u15::u16::u17::u18::u19::u20::u21::u22::u23::u24::u25::u26::u27::u28::u29::u30::u31::u32::u33::u34::u35::u36::u37::u38::u39::u40::u41::u42::u43::u44::u45::u46::u47::u48::u49::u50::u51::u52::u53::u54::u55::u56::u57::u58::u59::u60::u61::u62::u63::u64::u65::u66::u67::u68::u69::u70::u71::u72::u73::u74::u75::u76::u77::u78::u79::u80::u81::u82::u83::u84::u85::u86::u87::u88::u89::u90::u91::u92::u93::u94::u95::u96::u97::u98::u99::u100::u101::u102::u103::u104::u105::u106::u107::u108::u109::u110::u111::u112::u113::u114::u115::u116::u117::u118::u119::u120::u121::u122::u123::u124::u125::u126::u127::u128::u129::u130::u131::u132::u133::u134::u135::u136::u137::u138::u139::u140::u141::u142::u143::u144::u145::u146::u147::u148::u149::u150::u151::u152::u153::u154::u155::u156::u157::u158::u159::u160::u161::u162::u163::u164::u165::[]),[]⟩ wa
theorem opB (ha:OpAIs):OpBIs:=by
 intro b S D I vp vl vg w wa b4 b5 g9 g10 g11 HH VV M PU FT u1 u2 u4 u6 u7 u8 u12 u13 u14 u15 u16 u17 u18 u19 u20 u21 u22 u23 u24 u25 u26 u27 u28 u29 u30 u31 u32 u33 u34 u35 u36 u37 u38 u39 u40 u41 u42 u43 u44 u45 u46 u47 u48 u49 u50 u51 u52 u53 u54 u55 u56 u57 u58 u59 u60 u61 u62 u63 u64 u65 u66 u67 u68 u69 u70 u71 u72 u73 u74 u75 u76 u77 u78 u79 u80 u81 u82 u83 u84 u85 u86 u87 u88 u89 u90 u91 u92 u93 u94 u95 u96 u97 u98 u99 u100 u101 u102 u103 u104 u105 u106 u107 u108 u109 u110 u111 u112 u113 u114 u115 u116 u117 u118 u119 u120 u121 u122 u123 u124 u125 u126 u127 u128 u129 u130 u131 u132 u133 u134 u135 u136 u137 u138 u139 u140 u141 u142 u143 u144 u145 u146 u147 u148 u149 u150 u151 u152 u153 u154 u155 u156 u157 u158 u159 u160 u161 u162 u163 u164 u165 K hW0 hS hD hI hHH hVV hM hPU hFT  hA0 hK
 unfold opQ at hK⊢
 have hK2:=hK
 conv at hK2=>intro a w';arg 1;arg 2;whnf
 conv=>arg 2;whnf
 clear hK
 have HS:=qh hS;have HD:=qh hD;have HI:=qh hI;have HW0:=qh hW0
 have hbw:=hW0.lt
 have HOA:=qh ha
 have HHH:=qh hHH
 have HVV:=qh hVV
 have HM:=qh hM
 have HPU:=qh hPU
 have HFT:=qh hFT
 have HA:=qh hA0
 have HFB0:Hid (∀j,j<4→ -2147483648≤FT j∧FT j≤2147483647):=qh (fun j _=>by rw[←HFT.out];exact opFight_bd S D I j)
 have k0:wa.cell? ⟨b,117,none⟩=some (.int .i32 D.track):=HA.out.r.wat.c.at_ 117 rfl
 have k1:wa.cell? ⟨b,35,none⟩=some (.int .i32 D.want):=HA.out.r.wat.c.at_ 35 rfl
 have k2:=HA.out.r.wat.c.at_ 4 rfl;have k3:=HA.out.r.wat.c.at_ 2 rfl;have k4:=HA.out.r.wat.c.at_ 3 rfl
 have kf:=HA.out.r.wat.c.2.1 117;have kz:=HA.out.r.wat.lt
 have htr:=HD.out.track;have hwn:=HD.out.want;have hrt:=HS.out.inn.rate
 clear ha hW0 hS hD hI hA0 hHH hVV hM hPU hFT
 refine wp_region_still_tail 31 (by kernel_rfl) (by kernel_rfl) ?_
 simp only[List.take_succ_cons,List.take_zero,List.drop_succ_cons,List.drop_zero]
 repeat still_step
 still_call (stillL (rate_any D.track D.want S.rate htr hwn hrt _))
 repeat still_step
 still_call (stillL (clamp_any _ _ _ _))
 repeat still_step
 refine wpStill_nil ?_
 change wpList _ _ _ _ _ wa.drew
 obtain⟨tk,htk⟩:∃x,clampI (rateI D.track D.want S.rate) S.low S.high=x:=⟨_,rfl⟩
 rw[htk]
 obtain⟨w15,hw15⟩:∃x,(wa.setCell ⟨b,117,none⟩ (.int .i32 tk)).drew=x:=⟨_,rfl⟩
 have A15:=(HA.out.grow hbw (grown_setW wa b 117 (.int .i32 tk)) (HA.out.r.wat.trackSet tk)).call hbw ((bLr).drew)
 rw[hw15]at A15
 have e3:({opD2 S D I with track:=tk}:Dyn)=opD3 S D I:=by rw[←htk];rfl
 have A15:OpAt w15 w b S (opD3 S D I) vp vl vg I [(g11,i32c FT),(b4,i32c PU),(g10,i64c M),(g9,i32c VV),(b5,boolc HH)]:=by rw[←e3];exact A15
 have HA15:=qh A15
 have HW15:=qh hw15
 have HD3:=qh (opD3_good HS.out I HD.out)
 have HVB:Hid (∀j,j<4→ -2147483648≤VV j∧VV j≤2147483647):=qh (fun j _=>by rw[←HVV.out];exact sat32_bd _)
 have hmb:=midS_bd S (opD3 S D I).pos I.f (by have hp:=HD3.out.pos;have hl:=HS.out.inn.low;have hh:=HS.out.inn.high;exact⟨by omega,by omega⟩)
 have hfl:=faults_is A15.r.wat HS.out HD3.out VV FT HVB.out HFB0.out hmb
 obtain⟨F,hF⟩:∃f,fltB S (opD3 S D I) I VV FT=f:=⟨_,rfl⟩
 rw[hF]at hfl
 have HFL:=qh hfl
 have HF:Hid (opF S D I=F):=qh (by rw[←hF,←HVV.out,←HFT.out];rfl)
 have e4:Hid (({opD3 S D I with cnts:=fltC S (opD3 S D I) I VV FT,log:=logF (opD3 S D I).frame (fltC S (opD3 S D I) I VV FT) (opD3 S D I).log 4}:Dyn)=opD4 S D I):=qh (by rw[←HVV.out,←HFT.out];rfl)
 clear hw15 e3 A15 htk hfl hF hmb
 go_upto_region 9 with(fail)
 rw[HW15.out]
 clear HW15 HA k0 k1 k2 k3 k4 kf kz htr hwn hrt
 have C5:=(HA15.out.o _ (.tail _ (.tail _ (.tail _ (.head _))))).2
 have C11:=(HA15.out.o _ (.head _)).2
 have p0:w15.cell? ⟨g9,0,none⟩=some (.int .i32 (VV 0)):=C5.at_ 0 rfl;have p1:w15.cell? ⟨g9,1,none⟩=some (.int .i32 (VV 1)):=C5.at_ 1 rfl;have p2:w15.cell? ⟨g9,2,none⟩=some (.int .i32 (VV 2)):=C5.at_ 2 rfl;have p3:w15.cell? ⟨g9,3,none⟩=some (.int .i32 (VV 3)):=C5.at_ 3 rfl
 have pz:=C5.lt
 have c0:w15.cell? ⟨g11,0,none⟩=some (.int .i32 (FT 0)):=C11.at_ 0 rfl;have c1:w15.cell? ⟨g11,1,none⟩=some (.int .i32 (FT 1)):=C11.at_ 1 rfl;have c2:w15.cell? ⟨g11,2,none⟩=some (.int .i32 (FT 2)):=C11.at_ 2 rfl;have c3:w15.cell? ⟨g11,3,none⟩=some (.int .i32 (FT 3)):=C11.at_ 3 rfl
 have cz:=C11.lt
 have i0:=HA15.out.r.ci.at_ 0 rfl;have i1:=HA15.out.r.ci.at_ 1 rfl;have i2:=HA15.out.r.ci.at_ 2 rfl;have i3:=HA15.out.r.ci.at_ 3 rfl;have i4:=HA15.out.r.ci.at_ 4 rfl;have i5:=HA15.out.r.ci.at_ 5 rfl;have i6:=HA15.out.r.ci.at_ 6 rfl;have i7:=HA15.out.r.ci.at_ 7 rfl;have i8:=HA15.out.r.ci.at_ 8 rfl;have i9:=HA15.out.r.ci.at_ 9 rfl;have i10:=HA15.out.r.ci.at_ 10 rfl;have i11:=HA15.out.r.ci.at_ 11 rfl
 have iz2:=HA15.out.r.ci.lt
 clear C5 C11
 go_wp2_with fail
 refine HFL.out.mono ?_
 rintro e16 w16 ⟨rfl,vg16,hW16,hg16⟩
 have hz16:=hg16.size
 have A16:=HA15.out.grow hbw hg16 hW16
 rw[e4.out]at A16
 have A17:=A16.new hbw (boolc F) #[.bool (F 0),.bool (F 1),.bool (F 2),.bool (F 3)] 197 rfl
 obtain⟨w17,hw17⟩:∃x,w16.alloc (.cells #[.bool (F 0),.bool (F 1),.bool (F 2),.bool (F 3)] 197)=x:=⟨_,rfl⟩
 rw[hw17]at A17
 have HA17:=qh A17
 have HW17:=qh hw17
 clear hW16 hg16 A16 A17 hw17 HA15 HFL e4 p0 p1 p2 p3 pz c0 c1 c2 c3 cz i0 i1 i2 i3 i4 i5 i6 i7 i8 i9 i10 i11 iz2
 go_upto_region 10 with(fail)
 rw[HW17.out]
 exact HOA.out _ _ _ _ _ _ _ _ _ _ _ _ _ _ _ _ _ _ _ _ _ _ _ _ _ _ _ _ _ _ _ _ _ _ _ _ _ _ _ _ _ _ _ _ _ _ _ _ _ _ _ _ _ _ _ _ _ _ _ _ _ _ _ _ _ _ _ _ _ _ _ _ _ _ _ _ _ _ _ _ _ _ _ _ _ _ _ _ _ _ _ _ _ _ _ _ _ _ _ _ _ _ _ _ _ _ _ _ _ _ _ _ _ _ _ _ _ _ _ _ _ _ _ _ _ _ _ _ _ _ _ _ _ _ _ _ _ _ _ _ _ _ _ _ _ _ _ _ _ _ _ _ _ _ _ _ _ _ _ _ _ _ _ _ _ _ _ _ _ _ _ _ _ _ _ _ _ _ _ _ _ _ _ _ HW0.out HS.out HD.out HI.out HHH.out HVV.out HM.out HPU.out HFT.out HF.out  HA17.out (by assumption)
theorem opC (hb0:OpBIs):OpCIs:=by
 intro b S D I vp vl vg w wa b4 b5 g9 g10 PP HH VV SP M u1 u2 u6 u7 u8 u11 u12 u13 u14 u15 u16 u17 u18 u19 u20 u21 u22 u23 u24 u25 u26 u27 u28 u29 u30 u31 u32 u33 u34 u35 u36 u37 u38 u39 u40 u41 u42 u43 u44 u45 u46 u47 u48 u49 u50 u51 u52 u53 u54 u55 u56 u57 u58 u59 u60 u61 u62 u63 u64 u65 u66 u67 u68 u69 u70 u71 u72 u73 u74 u75 u76 u77 u78 u79 u80 u81 u82 u83 u84 u85 u86 u87 u88 u89 u90 u91 u92 u93 u94 u95 u96 u97 u98 u99 u100 u101 u102 u103 u104 u105 u106 u107 u108 u109 u110 u111 u112 u113 u114 u115 u116 u117 u118 u119 u120 u121 u122 u123 u124 u125 u126 u127 u128 u129 u130 u131 u132 u133 u134 u135 u136 u137 u138 u139 u140 u141 u142 u143 u144 u145 u146 u147 u148 u149 u150 u151 u152 u153 u154 u155 u156 u157 u158 u159 u160 u161 u162 u163 u164 u165 K hW0 hS hD hI hPP hHH hVV hSP hM q0 q1 q2 q3 q4 hA0 hK
 unfold opQ at hK⊢
 have hK2:=hK
 conv at hK2=>intro a w';arg 1;arg 2;whnf
 conv=>arg 2;whnf
 clear hK
 have HS:=qh hS;have HD:=qh hD;have HI:=qh hI;have HW0:=qh hW0
 have hbw:=hW0.lt
 have HOB:=qh hb0
 have HPP:=qh hPP
 have HHH:=qh hHH
 have HVV:=qh hVV
 have HSP:=qh hSP
 have HM:=qh hM
 have HA:=qh hA0
 have h4:=q0;have n45:=q1;have z4:=q2;have z5:=q3;have z57:=q4
 have HPU0:Hid (∀w,Calls Tryz.prog 114 #[i32A SP,teamM D,i32A PP] w fun e w'=>e=.returned (.tuple #[i32A (opPush S D I),.int .i64 0])∧Below w.heap.size w w'):=qh (by rw[←HSP.out,←HPP.out];exact opPush_is HS.out HD.out HI.out)
 have HFI0:=qh (opFight_is (S:=S) (I:=I) HD.out)
 have HST0:=qh (opStep_is HS.out HD.out HI.out)
 obtain⟨PU,hPU⟩:∃f,opPush S D I=f:=⟨_,rfl⟩
 obtain⟨FT,hFT⟩:∃f,opFight S D I=f:=⟨_,rfl⟩
 obtain⟨X,hX⟩:∃x,opX S D I=x:=⟨_,rfl⟩
 obtain⟨V,hV⟩:∃x,sat32 (X-D.pos)=x:=⟨_,rfl⟩
 have hM0:(D.team 0).1=M 0:=by rw[←HM.out]
 have hM1:(D.team 1).1=M 1:=by rw[←HM.out]
 have hM2:(D.team 2).1=M 2:=by rw[←HM.out]
 have hM3:(D.team 3).1=M 3:=by rw[←HM.out]
 dsimp only[teamM]at HPU0 HFI0 HST0
 rw[hM0,hM1,hM2,hM3]at HPU0 HFI0 HST0
 rw[hPU]at HPU0 HFI0 HST0
 rw[hFT]at HFI0
 rw[hX,hV]at HST0
 have HPU:=qh hPU;have HFT:=qh hFT;have HX:=qh hX;have HV:=qh hV
 clear hM0 hM1 hM2 hM3 hPU hFT hX hV
 have C10:=(HA.out.o _ (.head _)).2
 have C4:=(HA.out.o _ (.tail _ (.tail _ (.head _)))).2
 have c0:wa.cell? ⟨g10,0,none⟩=some (.int .i64 (M 0)):=C10.at_ 0 rfl
 have c1:wa.cell? ⟨g10,1,none⟩=some (.int .i64 (M 1)):=C10.at_ 1 rfl
 have c2:wa.cell? ⟨g10,2,none⟩=some (.int .i64 (M 2)):=C10.at_ 2 rfl
 have c3:wa.cell? ⟨g10,3,none⟩=some (.int .i64 (M 3)):=C10.at_ 3 rfl
 have cz:=C10.lt
 have p0:wa.cell? ⟨b4,0,none⟩=some (.int .i32 (PP 0)):=C4.at_ 0 rfl;have p1:wa.cell? ⟨b4,1,none⟩=some (.int .i32 (PP 1)):=C4.at_ 1 rfl;have p2:wa.cell? ⟨b4,2,none⟩=some (.int .i32 (PP 2)):=C4.at_ 2 rfl;have p3:wa.cell? ⟨b4,3,none⟩=some (.int .i32 (PP 3)):=C4.at_ 3 rfl
 have pz:=C4.lt
 have s0:wa.cell? ⟨b,113,none⟩=some (.int .i32 (SP 0)):=(by rw[←HSP.out];exact HA.out.r.wat.c.at_ 113 rfl);have s1:wa.cell? ⟨b,114,none⟩=some (.int .i32 (SP 1)):=(by rw[←HSP.out];exact HA.out.r.wat.c.at_ 114 rfl);have s2:wa.cell? ⟨b,115,none⟩=some (.int .i32 (SP 2)):=(by rw[←HSP.out];exact HA.out.r.wat.c.at_ 115 rfl);have s3:wa.cell? ⟨b,116,none⟩=some (.int .i32 (SP 3)):=(by rw[←HSP.out];exact HA.out.r.wat.c.at_ 116 rfl)
 have sz:=HA.out.r.wat.lt
 clear hb0 C10 C4 hW0 hS hD hI hA0 hPP hHH hVV hSP hM q0 q1 q2 q3 q4
 refine wp_region_any (by kernel_rfl) ?_
 change wpAny _ _ _ _ _ _ _ (World.drew _)
 refine wpAny_head 0 6 5 (by kernel_rfl) rfl ?_
 simp only[List.drop_zero,List.take_succ_cons,List.take_zero]
 repeat still_step
 refine wpStill_nil ?_
 refine wpAny_ready (rs:=[6]) (by kernel_rfl) (by simp) (AllReady.cons rfl (fun K hK=>?_) AllReady.nil)
 go_simp
 refine(HPU0.out _).mono ?_
 rintro e9 w9 ⟨rfl,hb9⟩
 have hbb9:Below wa.heap.size wa w9:=((Below.refl wa.heap.size wa).drew).trans (hb9.mono (by simp))
 have A9:=HA.out.call hbw hbb9
 have HA9:=qh A9
 have C9:=(A9.o _ (.tail _ (.tail _ (.head _)))).2
 have x0:=C9.at_ 0 rfl;have x1:=C9.at_ 1 rfl;have x2:=C9.at_ 2 rfl;have x3:=C9.at_ 3 rfl
 have xf0:=C9.2.1 0;have xf1:=C9.2.1 1;have xf2:=C9.2.1 2;have xf3:=C9.2.1 3;have xz:=C9.lt
 have HC9:=qh C9
 clear hb9 hbb9 A9 C9 HA HPU0 c0 c1 c2 c3 cz p0 p1 p2 p3 pz s0 s1 s2 s3 sz
 refine hK _ _ ?_
 clear hK K
 refine wpAny_ready (rs:=[7]) (by kernel_rfl) (by simp) (AllReady.cons rfl (fun K hK=>?_) AllReady.nil)
 go_simp
 refine hK _ _ ?_
 clear hK K
 refine wpAny_take (i:=8) (v:=i32A PU) rfl (by kernel_rfl) (by kernel_rfl) (by kernel_rfl) (fun _ _ _ h=>h) (Or.inl ⟨by rfl,by intro W;go_simp⟩) ?_
 refine wpAny_take (i:=9) (v:=.int .i64 0) rfl (by kernel_rfl) (by kernel_rfl) (by kernel_rfl) (fun _ _ _ h=>h) (Or.inl ⟨by rfl,by intro W;go_simp⟩) ?_
 refine wpAny_ready (rs:=[10]) (by kernel_rfl) (by simp) (AllReady.cons rfl (fun K hK=>?_) AllReady.nil)
 go_simp
 refine hK _ _ ?_
 clear hK K
 refine⟨by kernel_rfl,?_⟩
 have A10:OpAt (set4 w9 b4 (.int .i32 (PU 0)) (.int .i32 (PU 1)) (.int .i32 (PU 2)) (.int .i32 (PU 3))) w b S (opD1 S D I) vp vl vg I ((b4,i32c PU)::[(g10,i64c M),(g9,i32c VV),(b5,boolc HH)]):=HA9.out.put4 HW0.out rfl rfl h4 HC9.out _ _ _ _ (by
  intro p hp
  rcases List.mem_cons.1 hp with rfl|hp
  ·exact⟨.head _,by show g10≠b4;omega⟩
  rcases List.mem_cons.1 hp with rfl|hp
  ·exact⟨.tail _ (.head _),by show g9≠b4;omega⟩
  rcases List.mem_cons.1 hp with rfl|hp
  ·exact⟨.tail _ (.tail _ (.tail _ (.head _))),by show b5≠b4;omega⟩
  ·cases hp)
 obtain⟨w10,hw10⟩:∃x,set4 w9 b4 (.int .i32 (PU 0)) (.int .i32 (PU 1)) (.int .i32 (PU 2)) (.int .i32 (PU 3))=x:=⟨_,rfl⟩
 rw[hw10]at A10
 dsimp only[set4]at hw10
 rw[hw10]
 have z10:w9.heap.size=w10.heap.size:=by rw[←hw10];simp[World.setCell]
 have HA10:=qh A10
 have C4:=(A10.o _ (.head _)).2
 have C10:=(A10.o _ (.tail _ (.head _))).2
 have p0:w10.cell? ⟨b4,0,none⟩=some (.int .i32 (PU 0)):=C4.at_ 0 rfl;have p1:w10.cell? ⟨b4,1,none⟩=some (.int .i32 (PU 1)):=C4.at_ 1 rfl;have p2:w10.cell? ⟨b4,2,none⟩=some (.int .i32 (PU 2)):=C4.at_ 2 rfl;have p3:w10.cell? ⟨b4,3,none⟩=some (.int .i32 (PU 3)):=C4.at_ 3 rfl
 have pz:=C4.lt
 have c0:w10.cell? ⟨g10,0,none⟩=some (.int .i64 (M 0)):=C10.at_ 0 rfl;have c1:w10.cell? ⟨g10,1,none⟩=some (.int .i64 (M 1)):=C10.at_ 1 rfl;have c2:w10.cell? ⟨g10,2,none⟩=some (.int .i64 (M 2)):=C10.at_ 2 rfl;have c3:w10.cell? ⟨g10,3,none⟩=some (.int .i64 (M 3)):=C10.at_ 3 rfl
 have cz:=C10.lt
 clear hw10 A10 C4 C10 HA9 HC9 x0 x1 x2 x3 xf0 xf1 xf2 xf3 xz
 go_wp2_with fail
 refine(HFI0.out _).mono ?_
 rintro e11 w11 ⟨rfl,hb11⟩
 have A12:=(HA10.out.call hbw hb11).new hbw (i32c FT) #[.int .i32 (FT 0),.int .i32 (FT 1),.int .i32 (FT 2),.int .i32 (FT 3)] 83 rfl
 obtain⟨w12,hw12⟩:∃x,w11.alloc (.cells #[.int .i32 (FT 0),.int .i32 (FT 1),.int .i32 (FT 2),.int .i32 (FT 3)] 83)=x:=⟨_,rfl⟩
 rw[hw12]at A12
 have HA12:=qh A12
 have HW12:=qh hw12
 have z11:=hb11.size
 clear A12 hw12 hb11 HA10 HFI0 p0 p1 p2 p3 pz c0 c1 c2 c3 cz
 go_upto_region 7 with(fail)
 rw[HW12.out]
 have C4:=(HA12.out.o _ (.tail _ (.head _))).2
 have C10:=(HA12.out.o _ (.tail _ (.tail _ (.head _)))).2
 have p0:w12.cell? ⟨b4,0,none⟩=some (.int .i32 (PU 0)):=C4.at_ 0 rfl;have p1:w12.cell? ⟨b4,1,none⟩=some (.int .i32 (PU 1)):=C4.at_ 1 rfl;have p2:w12.cell? ⟨b4,2,none⟩=some (.int .i32 (PU 2)):=C4.at_ 2 rfl;have p3:w12.cell? ⟨b4,3,none⟩=some (.int .i32 (PU 3)):=C4.at_ 3 rfl
 have pz:=C4.lt
 have c0:w12.cell? ⟨g10,0,none⟩=some (.int .i64 (M 0)):=C10.at_ 0 rfl;have c1:w12.cell? ⟨g10,1,none⟩=some (.int .i64 (M 1)):=C10.at_ 1 rfl;have c2:w12.cell? ⟨g10,2,none⟩=some (.int .i64 (M 2)):=C10.at_ 2 rfl;have c3:w12.cell? ⟨g10,3,none⟩=some (.int .i64 (M 3)):=C10.at_ 3 rfl
 have cz:=C10.lt
 have g0:=HA12.out.r.wat.c.at_ 0 rfl;have g1:=HA12.out.r.wat.c.at_ 1 rfl;have g2:=HA12.out.r.wat.c.at_ 2 rfl;have g3:=HA12.out.r.wat.c.at_ 3 rfl
 have r0:w12.cell? ⟨b,118,none⟩=some (.int .i32 D.pos):=HA12.out.r.wat.c.at_ 118 rfl
 have r1:w12.cell? ⟨b,119,none⟩=some (.int .i32 D.vel):=HA12.out.r.wat.c.at_ 119 rfl
 have rz:=HA12.out.r.wat.lt
 have y3:w12.cell? ⟨w.heap.size,3,none⟩=some (.int .i32 I.load):=HA12.out.r.ci.at_ 3 rfl
 have yz:=HA12.out.r.ci.lt
 clear C4 C10 HW12
 refine wp_region_any (by kernel_rfl) ?_
 change wpAny _ _ _ _ _ _ _ (World.drew _)
 refine wpAny_take (i:=0) (v:=ptr b) rfl (by kernel_rfl) (by kernel_rfl) (by kernel_rfl) (fun _ _ _ h=>h) (Or.inl ⟨by rfl,by intro W;go_simp⟩) ?_
 refine wpAny_head 1 14 7 (by kernel_rfl) rfl ?_
 simp only[List.drop_succ_cons,List.drop_zero,List.take_succ_cons,List.take_zero]
 repeat still_step
 refine wpStill_nil ?_
 refine wpAny_ready (rs:=[14]) (by kernel_rfl) (by simp) (AllReady.cons rfl (fun K hK=>?_) AllReady.nil)
 go_simp
 refine(HST0.out _).mono ?_
 rintro e13 w13 ⟨rfl,hb13⟩
 have hbb13:Below w12.heap.size w12 w13:=((Below.refl w12.heap.size w12).drew).trans (hb13.mono (by simp))
 have A13:=HA12.out.call hbw hbb13
 have f0:=A13.r.wat.c.2.1 118;have f1:=A13.r.wat.c.2.1 119
 have fa0:w13.cell? ⟨b,118,none⟩=some (.int .i32 D.pos):=A13.r.wat.c.at_ 118 rfl
 have fa1:w13.cell? ⟨b,119,none⟩=some (.int .i32 D.vel):=A13.r.wat.c.at_ 119 rfl
 have tz1:=A13.r.wat.lt
 have HA13:=qh A13
 clear A13 hb13 hbb13 HST0 HA12 g0 g1 g2 g3 r0 r1 rz y3 yz p0 p1 p2 p3 pz c0 c1 c2 c3 cz
 refine hK _ _ ?_
 clear hK K
 refine wpAny_ready (rs:=[15]) (by kernel_rfl) (by simp) (AllReady.cons rfl (fun K hK=>?_) AllReady.nil)
 go_simp
 refine hK _ _ ?_
 clear hK K
 refine wpAny_take (i:=16) (v:=.agg #[.int .i32 X,.int .i32 V]) rfl (by kernel_rfl) (by kernel_rfl) (by kernel_rfl) (fun _ _ _ h=>h) (Or.inl ⟨by rfl,by intro W;go_simp⟩) ?_
 refine wpAny_take (i:=17) (v:=.int .i64 0) rfl (by kernel_rfl) (by kernel_rfl) (by kernel_rfl) (fun _ _ _ h=>h) (Or.inl ⟨by rfl,by intro W;go_simp⟩) ?_
 refine wpAny_ready (rs:=[18]) (by kernel_rfl) (by simp) (AllReady.cons rfl (fun K hK=>?_) AllReady.nil)
 go_simp
 refine hK _ _ ?_
 clear hK K
 refine wpAny_ready (rs:=[19]) (by kernel_rfl) (by simp) (AllReady.cons rfl (fun K hK=>?_) AllReady.nil)
 go_simp
 refine hK _ _ ?_
 clear hK K
 refine wpAny_ready (rs:=[20]) (by kernel_rfl) (by simp) (AllReady.cons rfl (fun K hK=>?_) AllReady.nil)
 go_simp
 refine hK _ _ ?_
 clear hK K
 refine⟨by kernel_rfl,?_⟩
 have A14:=HA13.out.grow hbw (grown_setV w13 b X V) (HA13.out.r.wat.ramSet X V)
 obtain⟨w14,hw14⟩:∃x,setV w13 b X V=x:=⟨_,rfl⟩
 rw[hw14]at A14
 dsimp only[setV]at hw14
 rw[hw14]
 have e2:({opD1 S D I with pos:=X,vel:=V}:Dyn)=opD2 S D I:=by rw[←HV.out,←HX.out];rfl
 rw[e2]at A14
 have HA14:=qh A14
 clear hw14 A14 HA13 f0 f1 fa0 fa1 tz1 e2
 go_upto_region 8 with(fail)
 exact HOB.out _ _ _ _ _ _ _ _ _ _ _ _ _ _ _ _ _ _ _ _ _ _ _ _ _ _ _ _ _ _ _ _ _ _ _ _ _ _ _ _ _ _ _ _ _ _ _ _ _ _ _ _ _ _ _ _ _ _ _ _ _ _ _ _ _ _ _ _ _ _ _ _ _ _ _ _ _ _ _ _ _ _ _ _ _ _ _ _ _ _ _ _ _ _ _ _ _ _ _ _ _ _ _ _ _ _ _ _ _ _ _ _ _ _ _ _ _ _ _ _ _ _ _ _ _ _ _ _ _ _ _ _ _ _ _ _ _ _ _ _ _ _ _ _ _ _ _ _ _ _ _ _ _ _ _ _ _ _ _ _ _ _ _ _ _ _ _ _ _ _ _ _ _ _ _ _ _ _ _ _ HW0.out HS.out HD.out HI.out HHH.out HVV.out HM.out HPU.out HFT.out  HA14.out (by assumption)
theorem opE (hc0:OpCIs):OpEIs:=by
 intro b S D I vp vl vg w wa b4 b5 PP HH u1 u2 u6 u7 u8 u9 u10 u11 u12 u13 u14 u15 u16 u17 u18 u19 u20 u21 u22 u23 u24 u25 u26 u27 u28 u29 u30 u31 u32 u33 u34 u35 u36 u37 u38 u39 u40 u41 u42 u43 u44 u45 u46 u47 u48 u49 u50 u51 u52 u53 u54 u55 u56 u57 u58 u59 u60 u61 u62 u63 u64 u65 u66 u67 u68 u69 u70 u71 u72 u73 u74 u75 u76 u77 u78 u79 u80 u81 u82 u83 u84 u85 u86 u87 u88 u89 u90 u91 u92 u93 u94 u95 u96 u97 u98 u99 u100 u101 u102 u103 u104 u105 u106 u107 u108 u109 u110 u111 u112 u113 u114 u115 u116 u117 u118 u119 u120 u121 u122 u123 u124 u125 u126 u127 u128 u129 u130 u131 u132 u133 u134 u135 u136 u137 u138 u139 u140 u141 u142 u143 u144 u145 u146 u147 u148 u149 u150 u151 u152 u153 u154 u155 u156 u157 u158 u159 u160 u161 u162 u163 u164 u165 K hW0 hS hD hI hPP hHH q0 q1 hA0 hK
 unfold opQ at hK⊢
 have hK2:=hK
 conv at hK2=>intro a w';arg 1;arg 2;whnf
 conv=>arg 2;whnf
 clear hK
 have HS:=qh hS;have HD:=qh hD;have HI:=qh hI;have HW0:=qh hW0
 have hbw:=hW0.lt
 have HOC:=qh hc0
 have HPP:=qh hPP
 have HHH:=qh hHH
 have HA:=qh hA0
 have h4:=q0;have n45:=q1
 have HI12:Hid ((Tryz.prog.info? 55).map (·.size)=some 12):=qh (by kernel_rfl)
 have RGA:=qh hA0.r.ci.range
 have z4c:=(hA0.o _ (.head _)).2.lt
 have z5c:=(hA0.o _ (.tail _ (.head _))).2.lt
 obtain⟨P,hP⟩:∃P,snsF S D I=P:=⟨_,rfl⟩
 obtain⟨O,hO⟩:∃O,snoF S D I=O:=⟨_,rfl⟩
 obtain⟨mid,hmid⟩:∃x,opMid S D I=x:=⟨_,rfl⟩
 have hsn:Calls Tryz.prog 111 #[ptr b,inV I] wa fun e w'=>e=.returned (.tuple #[i32A (snsF S D I),boolA (snoF S D I),.int .i32 (opMid S D I)])∧Below wa.heap.size wa w':=sense_is HA.out.r.wat HS.out HD.out
 rw[hP,hO,hmid]at hsn
 have HMB:Hid (-2147483648≤mid∧mid≤2147483647):=qh (by
  rw[←hmid]
  have hp:=HD.out.pos;have hl:=HS.out.inn.low;have hh:=HS.out.inn.high
  exact midS_bd S D.pos I.f ⟨by omega,by omega⟩)
 have HMID:=qh hmid
 have HSN:=qh hsn
 clear hc0 hW0 hS hD hI hA0 hPP hHH q0 q1 hP hO hmid hsn
 go_wp2_with (refine wpList_load_mid rfl 55 (.tmp 3) rfl w.heap.size 0 rfl [.string I.cmd,.int .i32 I.p0,.int .i32 I.p1,.int .i32 I.load,.int .i64 (I.f 0),.int .i64 (I.f 1),.int .i64 (I.f 2),.int .i64 (I.f 3),.bool I.ground,.int .i64 I.ask,.bool I.tries,.int .i64 I.reset] _ HA.out.r.ci.range Tryz.underlying55 rfl HI12.out ?_)
 refine HSN.out.mono ?_
 rintro e2 w2 ⟨rfl,hb2⟩
 clear HSN
 obtain⟨w4,hw4⟩:∃x,((w2.alloc (.cells #[.int .i32 (P 0),.int .i32 (P 1),.int .i32 (P 2),.int .i32 (P 3)] 83)).alloc (.cells #[.bool (O 0),.bool (O 1),.bool (O 2),.bool (O 3)] 197))=x:=⟨_,rfl⟩
 have A4:OpAt w4 w b S D vp vl vg I [(b4,i32c PP),(b5,boolc HH)]:=HA.out.call hbw (hw4▸((hb2.alloc (by have:=hb2.size;omega) _).alloc (by have:=hb2.size;simp;omega) _))
 have HA4:=qh A4
 have HW4:=qh hw4
 have z24:wa.heap.size≤w4.heap.size:=by rw[←hw4];have:=hb2.size;simp;omega
 clear HA hw4 hb2 A4
 go_upto_region 3 with(fail)
 rw[HW4.out]
 clear HW4
 go_wp2_with (refine wpList_load_mid rfl 55 (.tmp 3) rfl w.heap.size 0 rfl [.string I.cmd,.int .i32 I.p0,.int .i32 I.p1,.int .i32 I.load,.int .i64 (I.f 0),.int .i64 (I.f 1),.int .i64 (I.f 2),.int .i64 (I.f 3),.bool I.ground,.int .i64 I.ask,.bool I.tries,.int .i64 I.reset] _ HA4.out.r.ci.range Tryz.underlying55 rfl HI12.out ?_)
 refine(drive_is HA4.out.r.wat HS.out HD.out mid HMB.out).mono ?_
 rintro e5 w5 ⟨rfl,hW5,hg5⟩
 have A5:=HA4.out.grow hbw hg5 hW5
 have z45:=hg5.size
 have e1:({D with drv:=drvN S D mid,spool:=spoN S D mid I.f}:Dyn)=opD1 S D I:=by rw[←HMID.out];rfl
 have A5:OpAt w5 w b S (opD1 S D I) vp vl vg I [(b4,i32c PP),(b5,boolc HH)]:=by rw[←e1];exact A5
 obtain⟨VV,hVV⟩:∃f,vlvN S D mid=f:=⟨_,rfl⟩
 rw[hVV]
 have HVV:Hid (vlvN S D (opMid S D I)=VV):=qh (by rw[HMID.out];exact hVV)
 have A6:=A5.new hbw (i32c VV) #[.int .i32 (VV 0),.int .i32 (VV 1),.int .i32 (VV 2),.int .i32 (VV 3)] 83 rfl
 obtain⟨w6,hw6⟩:∃x,w5.alloc (.cells #[.int .i32 (VV 0),.int .i32 (VV 1),.int .i32 (VV 2),.int .i32 (VV 3)] 83)=x:=⟨_,rfl⟩
 have z56:w6.heap.size=w5.heap.size+1:=by rw[←hw6];simp
 rw[hw6]at A6
 have HA6:=qh A6
 have HW6:=qh hw6
 obtain⟨M,hM⟩:∃f:Nat→Int,(fun j=>(D.team j).1)=f:=⟨_,rfl⟩
 have hM0:(D.team 0).1=M 0:=by rw[←hM]
 have hM1:(D.team 1).1=M 1:=by rw[←hM]
 have hM2:(D.team 2).1=M 2:=by rw[←hM]
 have hM3:(D.team 3).1=M 3:=by rw[←hM]
 have hmod:Calls Tryz.prog 113 #[ptr b] w6 (fun e w'=>e=.returned (teamM D)∧Below w6.heap.size w6 w'):=by have h6:=modes_is A6.r.wat;exact h6
 dsimp only[teamM]at hmod
 rw[hM0,hM1,hM2,hM3]at hmod
 have HM:=qh hM
 have HMO:=qh hmod
 clear hW5 hg5 A5 A6 HA4 hVV hw6 e1 hM hM0 hM1 hM2 hM3 hmod
 go_upto_region 4 with(fail)
 rw[HW6.out]
 clear HW6
 go_wp2_with fail
 refine HMO.out.mono ?_
 clear HMO
 rintro e7 w7 ⟨rfl,hb7⟩
 have A8:=(HA6.out.call hbw hb7).new hbw (i64c M) #[.int .i64 (M 0),.int .i64 (M 1),.int .i64 (M 2),.int .i64 (M 3)] 53 rfl
 obtain⟨w8,hw8⟩:∃x,w7.alloc (.cells #[.int .i64 (M 0),.int .i64 (M 1),.int .i64 (M 2),.int .i64 (M 3)] 53)=x:=⟨_,rfl⟩
 rw[hw8]at A8
 have HA8:=qh A8
 have HW8:=qh hw8
 have z57:w5.heap.size<w7.heap.size:=by have:=hb7.size;omega
 have z4:b4<w5.heap.size:=by omega
 have z5:b5<w5.heap.size:=by omega
 clear A8 hw8 hb7 HA6
 go_upto_region 5 with(fail)
 rw[HW8.out]
 exact HOC.out _ _ _ _ _ _ _ _ _ _ _ _ _ _ _ _ _ _ _ _ _ _ _ _ _ _ _ _ _ _ _ _ _ _ _ _ _ _ _ _ _ _ _ _ _ _ _ _ _ _ _ _ _ _ _ _ _ _ _ _ _ _ _ _ _ _ _ _ _ _ _ _ _ _ _ _ _ _ _ _ _ _ _ _ _ _ _ _ _ _ _ _ _ _ _ _ _ _ _ _ _ _ _ _ _ _ _ _ _ _ _ _ _ _ _ _ _ _ _ _ _ _ _ _ _ _ _ _ _ _ _ _ _ _ _ _ _ _ _ _ _ _ _ _ _ _ _ _ _ _ _ _ _ _ _ _ _ _ _ _ _ _ _ _ _ _ _ _ _ _ _ _ _ _ _ _ _ _ _ HW0.out HS.out HD.out HI.out HPP.out HHH.out HVV.out rfl HM.out h4 n45 z4 z5 z57 HA8.out (by assumption)
def Op1Is:Prop:=∀(b:Nat) (S:Stp) (D:Dyn) (I:Inp) (vp vl vg:Value) (w w3:World) (PP:Nat→Int) (HH:Nat→Bool) (K:Act→World→Prop) (Q:Exit→Act→World→Prop),b<w.heap.size→w.heap.size<w3.heap.size→OpAt w3 w b S D vp vl vg I []→(∀w',Calls Tryz.prog 110 #[.agg #[.bool D.oa,.bool D.ob],.agg #[.int .i32 I.p0,.int .i32 I.p1]] w' fun e' w''=>e'=.returned (.tuple #[i32A PP,boolA HH])∧Below w'.heap.size w' w'')→
    (∀(b4 b5:Nat) (wx:World) (x15 x16 x17 x18 x19 x20 x21 x22 x23 x24:Value),w.heap.size<b4→b4≠b5→OpAt wx w b S D vp vl vg I [(b4,i32c PP),(b5,boolc HH)]→K ⟨List.toArray (ptr b::inV I::undef:: .pointer (some ⟨w.heap.size,0,none⟩):: .pointer (some ⟨b4,0,none⟩):: .pointer (some ⟨b5,0,none⟩)::undef::undef::undef::undef::undef::undef::undef::undef::undef::x15::x16::x17::x18::x19::x20::x21::x22::x23::x24::undef::undef::undef::undef::undef::undef::undef::undef::undef::undef::undef::undef::undef::undef::undef::undef::undef::undef::undef::undef::undef::undef::undef::undef::undef::undef::undef::undef::undef::undef::undef::undef::undef::undef::undef::undef::undef::undef::undef::undef::undef::undef::undef::undef::undef::undef::undef::undef::undef::undef::undef::undef::undef::undef::undef::undef::undef::undef::undef::undef::undef::undef::undef::undef::undef::undef::undef::undef::undef::undef::undef::undef::undef::undef::undef::undef::undef::undef::undef::undef::undef::undef::undef::undef::undef::undef::undef::undef::undef::undef::undef::undef::undef::undef::undef::undef::undef::undef::undef::undef::undef::undef::undef::undef::undef::undef::undef::undef::undef::undef::undef::undef::undef::undef::undef::undef::undef::undef::undef::undef::undef::undef::undef::undef::undef::undef::undef::undef::undef::undef::undef::undef::undef::undef::undef::undef::undef::undef::undef::undef::undef::[]),[]⟩ wx)→(hdAt 1 opBody).wp Tryz.prog (Exit.then K Q) ⟨List.toArray (ptr b::inV I::undef:: .pointer (some ⟨w.heap.size,0,none⟩)::undef::undef::undef::undef::undef::undef::undef::undef::undef::undef::undef::undef::undef::undef::undef::undef::undef::undef::undef::undef::undef::undef::undef::undef::undef::undef::undef::undef::undef::undef::undef::undef::undef::undef::undef::undef::undef::undef::undef::undef::undef::undef::undef::undef::undef::undef::undef::undef::undef::undef::undef::undef::undef::undef::undef::undef::undef::undef::undef::undef::undef::undef::undef::undef::undef::undef::undef::undef::undef::undef::undef::undef::undef::undef::undef::undef::undef::undef::undef::undef::undef::undef::undef::undef::undef::undef::undef::undef::undef::undef::undef::undef::undef::undef::undef::undef::undef::undef::undef::undef::undef::undef::undef::undef::undef::undef::undef::undef::undef::undef::undef::undef::undef::undef::undef::undef::undef::undef::undef::undef::undef::undef::undef::undef::undef::undef::undef::undef::undef::undef::undef::undef::undef::undef::undef::undef::undef::undef::undef::undef::undef::undef::undef::undef::undef::undef::undef::undef::undef::undef::undef::undef::undef::undef::undef::undef::undef::undef::undef::undef::undef::undef::[]),[]⟩ w3
theorem op1:Op1Is:=by
 intro b S D I vp vl vg w w3 PP HH K Q hbw z3 R3 hsp hX
 conv=>arg 2;whnf
 have HR3:=qh R3
 have HSP:=qh hsp
 have HX:=qh hX
 have oz:=R3.r.wat.lt
 have iz:=R3.r.ci.lt
 have KB:∀W,Below w3.heap.size w3 W→W.cell? ⟨b,39,none⟩=some (.bool D.oa)∧W.cell? ⟨b,40,none⟩=some (.bool D.ob)∧W.cell? ⟨w.heap.size,1,none⟩=some (.int .i32 I.p0)∧W.cell? ⟨w.heap.size,2,none⟩=some (.int .i32 I.p1):=fun W hW=>⟨(HR3.out.r.call hbw hW).wat.c.at_ 39 rfl,(HR3.out.r.call hbw hW).wat.c.at_ 40 rfl,(HR3.out.r.call hbw hW).ci.at_ 1 rfl,(HR3.out.r.call hbw hW).ci.at_ 2 rfl⟩
 have K0:=KB w3 (bLr)
 have K0d:=KB w3.drew (bLr).drew
 clear R3 hsp hX
 go_region_held3 (fun w'=>w'.cell? ⟨b,39,none⟩=some (.bool D.oa)∧w'.cell? ⟨b,40,none⟩=some (.bool D.ob)∧w'.cell? ⟨w.heap.size,1,none⟩=some (.int .i32 I.p0)∧w'.cell? ⟨w.heap.size,2,none⟩=some (.int .i32 I.p1)) (first|with_reducible exact K0|with_reducible exact K0d|(with_reducible refine KB _ ?_;repeat(first|with_reducible exact hbb|with_reducible exact bLr|with_reducible refine Below.setCell ?_ (by first|omega|(simp<;>omega)) _|with_reducible refine Below.drew ?_|with_reducible refine Below.alloc ?_ (by first|omega|(simp<;>omega)) _))) ((go_at_call 110;refine(HSP.out _).mono ?_;rintro e4 w4 ⟨rfl,hb4⟩;have hbb:Below w3.heap.size w3 w4:=(by first|exact((Below.refl w3.heap.size w3).drew).trans (hb4.mono (by simp))|exact(((Below.refl w3.heap.size w3).alloc (Nat.le_refl _) _).drew).trans (hb4.mono (by simp))|exact((((Below.refl w3.heap.size w3).alloc (Nat.le_refl _) _).alloc (by simp) _).drew).trans (hb4.mono (by simp;omega)));obtain⟨chb4,fhb4⟩:=Open.bcell hb4;have zhb4:=hb4.size;try(simp at zhb4);try(have y4:w3.heap.size<w4.heap.size:=by omega);try(have y5:w3.heap.size+1<w4.heap.size:=by omega);try(have Ca:CellsAt w4 w3.heap.size [.int .i32 0,.int .i32 0,.int .i32 0,.int .i32 0]:=((CellsAt.new' rfl rfl:CellsAt (w3.alloc (.cells #[.int .i32 0,.int .i32 0,.int .i32 0,.int .i32 0] 83)) w3.heap.size [.int .i32 0,.int .i32 0,.int .i32 0,.int .i32 0]).drew).call hb4);try(have Ca:CellsAt w4 w3.heap.size [.bool false,.bool false,.bool false,.bool false]:=((CellsAt.new' rfl rfl:CellsAt (w3.alloc (.cells #[.bool false,.bool false,.bool false,.bool false] 197)) w3.heap.size [.bool false,.bool false,.bool false,.bool false]).drew).call hb4);try(have Ca:CellsAt w4 w3.heap.size [.int .i32 0,.int .i32 0,.int .i32 0,.int .i32 0]:=(((CellsAt.new' rfl rfl:CellsAt (w3.alloc (.cells #[.int .i32 0,.int .i32 0,.int .i32 0,.int .i32 0] 83)) w3.heap.size [.int .i32 0,.int .i32 0,.int .i32 0,.int .i32 0]).alloc (.cells #[.bool false,.bool false,.bool false,.bool false] 197)).drew).call hb4);try(have Cb:CellsAt w4 (w3.heap.size+1) [.bool false,.bool false,.bool false,.bool false]:=((CellsAt.new' (by simp) rfl:CellsAt ((w3.alloc (.cells #[.int .i32 0,.int .i32 0,.int .i32 0,.int .i32 0] 83)).alloc (.cells #[.bool false,.bool false,.bool false,.bool false] 197)) (w3.heap.size+1) [.bool false,.bool false,.bool false,.bool false]).drew).call hb4);try(have Ca:CellsAt w4 w3.heap.size [.bool false,.bool false,.bool false,.bool false]:=(((CellsAt.new' rfl rfl:CellsAt (w3.alloc (.cells #[.bool false,.bool false,.bool false,.bool false] 197)) w3.heap.size [.bool false,.bool false,.bool false,.bool false]).alloc (.cells #[.int .i32 0,.int .i32 0,.int .i32 0,.int .i32 0] 83)).drew).call hb4);try(have Cb:CellsAt w4 (w3.heap.size+1) [.int .i32 0,.int .i32 0,.int .i32 0,.int .i32 0]:=((CellsAt.new' (by simp) rfl:CellsAt ((w3.alloc (.cells #[.bool false,.bool false,.bool false,.bool false] 197)).alloc (.cells #[.int .i32 0,.int .i32 0,.int .i32 0,.int .i32 0] 83)) (w3.heap.size+1) [.int .i32 0,.int .i32 0,.int .i32 0,.int .i32 0]).drew).call hb4);try(have ka0:=Ca.at_ 0 rfl);try(have kfa0:=Ca.2.1 0);try(have ka1:=Ca.at_ 1 rfl);try(have kfa1:=Ca.2.1 1);try(have ka2:=Ca.at_ 2 rfl);try(have kfa2:=Ca.2.1 2);try(have ka3:=Ca.at_ 3 rfl);try(have kfa3:=Ca.2.1 3);try(have kza:=Ca.lt);try(have kb0:=Cb.at_ 0 rfl);try(have kfb0:=Cb.2.1 0);try(have kb1:=Cb.at_ 1 rfl);try(have kfb1:=Cb.2.1 1);try(have kb2:=Cb.at_ 2 rfl);try(have kfb2:=Cb.2.1 2);try(have kb3:=Cb.at_ 3 rfl);try(have kfb3:=Cb.2.1 3);try(have kzb:=Cb.lt)))
 all_goals
  have hz4:=hbb.size
  try(have Ca:CellsAt w4 w3.heap.size [.int .i32 0,.int .i32 0,.int .i32 0,.int .i32 0]:=(by first|exact CellsAt.call (CellsAt.drew (CellsAt.new' rfl rfl)) hb4|exact CellsAt.call (CellsAt.drew (CellsAt.alloc (CellsAt.new' rfl rfl) _)) hb4))
  try(have Ca:CellsAt w4 w3.heap.size [.bool false,.bool false,.bool false,.bool false]:=(by first|exact CellsAt.call (CellsAt.drew (CellsAt.new' rfl rfl)) hb4|exact CellsAt.call (CellsAt.drew (CellsAt.alloc (CellsAt.new' rfl rfl) _)) hb4))
  try(have Cb:CellsAt w4 (w3.heap.size+1) [.int .i32 0,.int .i32 0,.int .i32 0,.int .i32 0]:=(CellsAt.call (CellsAt.drew (CellsAt.new' (Array.size_push _).symm rfl)) hb4))
  try(have Cb:CellsAt w4 (w3.heap.size+1) [.bool false,.bool false,.bool false,.bool false]:=(CellsAt.call (CellsAt.drew (CellsAt.new' (Array.size_push _).symm rfl)) hb4))
  refine HX.out _ _ _ _ _ _ _ _ _ _ _ _ _ ?_ ?_ ⟨HR3.out.r.call hbw ?_,fun p hp=>?_⟩
  ·first|omega|(simp;omega)
  ·first|omega|(simp;omega)
  ·repeat(first|(with_reducible first|exact bLr|exact hbb)|((with_reducible first|refine bLs ?_ ?_ _|refine bLa ?_ ?_ _);·first|omega|(simp<;>omega))|with_reducible first|refine bLn ?_ _|refine bLd ?_)
  ·rcases List.mem_cons.1 hp with rfl|hp
   ·refine⟨by first|(show w.heap.size≤_;omega)|(simp;omega),?_⟩
    dsimp only[i32c]
    first|(with_reducible refine CellsAt.alloc (CellsAt.new' ?_ ?_) _<;>(first|(with_reducible rfl)|(simp;done)))|(with_reducible refine CellsAt.new' ?_ ?_<;>(first|(with_reducible rfl)|(simp;done)|(simp[World.setCell];done)))|(with_reducible refine CellsAt.alloc (CellsAt.four Ca _ _ _ _) _)|(with_reducible refine CellsAt.other4 (CellsAt.four Ca _ _ _ _) ?_ _ _ _ _;focus omega)|(with_reducible refine CellsAt.four (CellsAt.other4 Cb ?_ _ _ _ _) _ _ _ _;focus omega)|(with_reducible refine CellsAt.other4 (CellsAt.four Cb _ _ _ _) ?_ _ _ _ _;focus omega)|(with_reducible refine CellsAt.four (CellsAt.other4 Ca ?_ _ _ _ _) _ _ _ _;focus omega)
   rcases List.mem_cons.1 hp with rfl|hp
   ·refine⟨by first|(show w.heap.size≤_;omega)|(simp;omega),?_⟩
    dsimp only[boolc]
    first|(with_reducible refine CellsAt.alloc (CellsAt.new' ?_ ?_) _<;>(first|(with_reducible rfl)|(simp;done)))|(with_reducible refine CellsAt.new' ?_ ?_<;>(first|(with_reducible rfl)|(simp;done)|(simp[World.setCell];done)))|(with_reducible refine CellsAt.alloc (CellsAt.four Ca _ _ _ _) _)|(with_reducible refine CellsAt.other4 (CellsAt.four Ca _ _ _ _) ?_ _ _ _ _;focus omega)|(with_reducible refine CellsAt.four (CellsAt.other4 Cb ?_ _ _ _ _) _ _ _ _;focus omega)|(with_reducible refine CellsAt.other4 (CellsAt.four Cb _ _ _ _) ?_ _ _ _ _;focus omega)|(with_reducible refine CellsAt.four (CellsAt.other4 Ca ?_ _ _ _ _) _ _ _ _;focus omega)
   ·cases hp
end Go.Proofs.YtpkiepjmcepnoaaGreatDoor
