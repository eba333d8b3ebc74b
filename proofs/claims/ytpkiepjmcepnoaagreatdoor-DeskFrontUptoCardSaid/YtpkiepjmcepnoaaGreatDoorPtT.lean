/- A part of a proof. -/
import Derived.StillTail
import Derived.StillTailTactics
import Derived.Test.YtpkiepjmcepnoaaGreatDoorPtB
import Derived.Test.YtpkiepjmcepnoaaGreatDoorPtD
import Derived.Test.YtpkiepjmcepnoaaGreatDoorPtE
import Derived.Test.YtpkiepjmcepnoaaGreatDoorPtF
import Derived.Test.YtpkiepjmcepnoaaGreatDoorPtN
import Derived.Test.YtpkiepjmcepnoaaGreatDoorPtO
import Derived.Test.YtpkiepjmcepnoaaGreatDoorPtQ
set_option maxHeartbeats 16000000
set_option maxRecDepth 100000
namespace Go.Proofs.YtpkiepjmcepnoaaGreatDoor
open Go.ChangeShapes Go.WideShapes Go.ChangeAt Go.RowKit
set_option linter.unusedVariables false
structure Stp where
 (gain drag low high rate soft P I D lo hi m0 m1 m2 m3 m4 up down most sum wide full oh ol bits trim:Int)
 prof:List PointR
 av:Nat→Prop
structure Dyn where
 (frame lk ll lq:Int)
 ws:List Int
 lh:Bool
 (lg ld want mm:Int)
 (mp mg oa ob:Bool)
 team:Team
 drv:Nat→Int×Int×Int×Int
 off:Nat→Int
 cnts:Nat→Cnts
 spool:Nat→Int
 (track pos vel us ac:Int)
 lost:Bool
 log:List EntR
def lay (S:Stp) (D:Dyn) (vp vl vg:Value):List Value:=[.int .i32 S.gain,.int .i64 S.drag,.int .i32 S.low,.int .i32 S.high,.int .i32 S.rate,.int .i64 S.soft,.int .i32 S.P,.int .i32 S.I,.int .i32 S.D,.int .i32 S.lo,.int .i32 S.hi,.int .i32 S.m0,.int .i32 S.m1,.int .i32 S.m2,.int .i32 S.m3,.int .i32 S.m4,.int .i64 S.up,.int .i64 S.down,.int .i64 S.most,.int .i32 S.sum,.int .i32 S.wide,.int .i32 S.full,vp,.int .i32 S.oh,.int .i32 S.ol,.int .i64 S.bits,.int .i32 S.trim,.int .i64 D.frame,.int .i64 D.lk,.int .i64 D.ll,.int .u8 D.lq,vl,.bool D.lh,.int .i64 D.lg,.int .i64 D.ld,.int .i32 D.want,.int .i64 D.mm,.bool D.mp,.bool D.mg,.bool D.oa,.bool D.ob,.int .i64 (D.team 0).1,.bool (D.team 0).2.1,.int .i64 (D.team 0).2.2,.int .i64 (D.team 1).1,.bool (D.team 1).2.1,.int .i64 (D.team 1).2.2,.int .i64 (D.team 2).1,.bool (D.team 2).2.1,.int .i64 (D.team 2).2.2,.int .i64 (D.team 3).1,.bool (D.team 3).2.1,.int .i64 (D.team 3).2.2,.int .i32 (D.drv 0).1,.int .i32 (D.drv 0).2.1,.int .i32 (D.drv 0).2.2.1,.int .i32 (D.drv 0).2.2.2,.int .i32 (D.drv 1).1,.int .i32 (D.drv 1).2.1,.int .i32 (D.drv 1).2.2.1,.int .i32 (D.drv 1).2.2.2,.int .i32 (D.drv 2).1,.int .i32 (D.drv 2).2.1,.int .i32 (D.drv 2).2.2.1,.int .i32 (D.drv 2).2.2.2,.int .i32 (D.drv 3).1,.int .i32 (D.drv 3).2.1,.int .i32 (D.drv 3).2.2.1,.int .i32 (D.drv 3).2.2.2,.int .i32 (D.off 0),.int .i32 (D.off 1),.int .i32 (D.off 2),.int .i32 (D.off 3),.int .i64 (D.cnts 0 0).1,.bool (D.cnts 0 0).2,.int .i64 (D.cnts 0 1).1,.bool (D.cnts 0 1).2,.int .i64 (D.cnts 0 2).1,.bool (D.cnts 0 2).2,.int .i64 (D.cnts 0 3).1,.bool (D.cnts 0 3).2,.int .i64 (D.cnts 0 4).1,.bool (D.cnts 0 4).2,.int .i64 (D.cnts 1 0).1,.bool (D.cnts 1 0).2,.int .i64 (D.cnts 1 1).1,.bool (D.cnts 1 1).2,.int .i64 (D.cnts 1 2).1,.bool (D.cnts 1 2).2,.int .i64 (D.cnts 1 3).1,.bool (D.cnts 1 3).2,.int .i64 (D.cnts 1 4).1,.bool (D.cnts 1 4).2,.int .i64 (D.cnts 2 0).1,.bool (D.cnts 2 0).2,.int .i64 (D.cnts 2 1).1,.bool (D.cnts 2 1).2,.int .i64 (D.cnts 2 2).1,.bool (D.cnts 2 2).2,.int .i64 (D.cnts 2 3).1,.bool (D.cnts 2 3).2,.int .i64 (D.cnts 2 4).1,.bool (D.cnts 2 4).2,.int .i64 (D.cnts 3 0).1,.bool (D.cnts 3 0).2,.int .i64 (D.cnts 3 1).1,.bool (D.cnts 3 1).2,.int .i64 (D.cnts 3 2).1,.bool (D.cnts 3 2).2,.int .i64 (D.cnts 3 3).1,.bool (D.cnts 3 3).2,.int .i64 (D.cnts 3 4).1,.bool (D.cnts 3 4).2,.int .i32 (D.spool 0),.int .i32 (D.spool 1),.int .i32 (D.spool 2),.int .i32 (D.spool 3),.int .i32 D.track,.int .i32 D.pos,.int .i32 D.vel,.int .i64 D.us,.int .i64 D.ac,.bool D.lost,vg]
theorem lay_len (S:Stp) (D:Dyn) (vp vl vg:Value):(lay S D vp vl vg).length=124:=rfl
def OffB (b:Nat) (v:Value):Prop:=∀b' o n l c,v=.slice (some ⟨b',o,n⟩) l c→b'≠b
def OffA (w:World) (b:Nat) (av:Nat→Prop) (v:Value):Prop:=OffB b v∧(∀c,av c→OffB c v)∧∀b' o n l c,v=.slice (some ⟨b',o,n⟩) l c→b'<w.heap.size
theorem OffA.later {w w':World} {b:Nat} {av:Nat→Prop} {v:Value} (h:OffA w b av v) (hs:w.heap.size≤w'.heap.size):OffA w' b av v:=⟨h.1,h.2.1,fun b' o n l c e=>Nat.lt_of_lt_of_le (h.2.2 b' o n l c e) hs⟩
theorem OffB.own {w:World} {base b k n:Nat} {e:TypeId} {v:Value} {xs:List Value} (h:w.ownsRow base e k v n xs) (hb:b<base):OffB b v:=by
 rintro b' o m l c rfl
 rcases h.2 with⟨h1,-⟩|⟨g',cap',cur,h1,h2,-⟩
 ·cases h1
 ·cases h1;omega
theorem OffA.own {w:World} {base b k n:Nat} {e:TypeId} {v:Value} {xs:List Value} {av:Nat→Prop} (h:w.ownsRow base e k v n xs) (hb:b<base) (ha:∀c,av c→c<base):OffA w b av v:=⟨OffB.own h hb,fun c hc=>OffB.own h (ha c hc),fun b' o n l c e=>by subst e;exact(h.lt b' rfl).2⟩
theorem OffB.nil (b:Nat) {l c:Nat}:OffB b (.slice none l c):=by
 rintro b' o m l c h;cases h
theorem own_sliceW {w:World} {base k n:Nat} {e:TypeId} {v:Value} {xs:List Value} (h:w.ownsRow base e k v n xs):∃a c,v=.slice a n c:=by
 rcases h.2 with⟨rfl,rfl⟩|⟨g,cap,cur,rfl,-⟩
 ·exact⟨_,_,rfl⟩
 ·exact⟨_,_,rfl⟩
theorem grown_of_below {w w':World} (h:Below w.heap.size w w') (r:Option Nat):w.grownBy w' r:=⟨h.os,h.tape,h.output,h.size,fun k hk _=>h.block k hk⟩
theorem below_of_grown {w0 w w':World} {B b:Nat} (h:Below B w0 w) (hg:w.grownBy w' (some b)) (hb:B≤b) (hz:B≤w.heap.size):Below B w0 w':=h.grown hg hz (fun j e=>by cases e;exact hb)
theorem far_cells {w w':World} {b p:Nat} {vs:List Value} (h:CellsAt w b vs) (g:w.grownBy w' (some p)) (hne:b≠p):CellsAt w' b vs:=by
 have hb:=g.block b h.lt (by simpa using hne)
 refine⟨fun j v hj=>?_,fun o=>?_,Nat.lt_of_lt_of_le h.lt g.size⟩
 ·rw[World.cell?_of_block (a:=⟨b,j,none⟩) hb];exact h.1 j v hj
 ·rw[World.frozen?_of_block (a:=⟨b,o,none⟩) hb];exact h.2.1 o
theorem ints_off {K:IntKind} {w w':World} {v:Value} {xs:List Int} {b:Nat} (h:IntsAt K w v xs) (hn:OffB b v) (hg:w.grownBy w' (some b)):IntsAt K w' v xs:=by
 rcases h with h|⟨h0,b',off,cap,rfl,hl,hm,hx⟩
 ·exact .inl h
 ·refine .inr ⟨h0,b',off,cap,rfl,hl,hm,fun i hi=>?_⟩
  have h1:=hx i hi
  rw[World.cell?_of_block (a:=⟨b',off+i,none⟩) (hg.block b' (World.block_lt_of_cell? _ _ h1) (by simpa using hn b' off none _ _ rfl))]
  exact h1
theorem recs_off {α:Type} {k:Nat} {lay:α→List Value} {w w':World} {v:Value} {xs:List α} {b:Nat} (hk:∀x,(lay x).length=k) (h0:0<k) (h:RecsAt k lay w v xs) (hn:OffB b v) (hg:w.grownBy w' (some b)):RecsAt k lay w' v xs:=by
 rcases h with h|⟨h1,b',off,cap,rfl,hl,hm,hx⟩
 ·exact .inl h
 ·refine .inr ⟨h1,b',off,cap,rfl,hl,hm,fun i x hi j hj=>?_⟩
  have h2:=hx i x hi j hj
  obtain⟨u,hu⟩:∃u,(lay x)[j]?=some u:=⟨_,List.getElem?_eq_getElem (by rw[hk];exact hj)⟩
  rw[hu]at h2
  rw[World.cell?_of_block (hg.block b' (World.block_lt_of_cell? _ _ h2) (by simpa using hn b' off none _ _ rfl)),h2,hu]
theorem grown_own {w w1:World} {r:Option Nat} {c j:Nat} {v:Value} (h:w.grownBy w1 r) (hc:w.heap.size≤c):w.grownBy (w1.setCell ⟨c,j,none⟩ v) r:=
 ⟨h.os,h.tape,h.output,by simpa[World.setCell]using h.size,fun k hk hr=>by rw[heap_setCell_other w1 ⟨c,j,none⟩ k v (by show k≠c;omega)];exact h.block k hk hr⟩
theorem grown_setW (w:World) (b n:Nat) (u:Value):w.grownBy (w.setCell ⟨b,n,none⟩ u) (some b):=
 ⟨rfl,rfl,rfl,by simp[World.setCell],fun k _ hk=>heap_setCell_other w ⟨b,n,none⟩ k u (fun e=>hk (by rw[e]))⟩
structure WAt (w:World) (b:Nat) (S:Stp) (D:Dyn) (vp vl vg:Value):Prop where
 c:CellsAt w b (lay S D vp vl vg)
 p:RecsAt 3 pointLay w vp S.prof
 l:IntsAt .i32 w vl D.ws
 g:RecsAt 4 entLay w vg D.log
 np:OffA w b S.av vp
 nl:OffA w b S.av vl
 ng:OffA w b S.av vg
 hv:∀c,S.av c→c<w.heap.size
theorem WAt.lt {w:World} {b:Nat} {S:Stp} {D:Dyn} {vp vl vg:Value} (h:WAt w b S D vp vl vg):b<w.heap.size:=h.c.lt
theorem WAt.call {w w':World} {b:Nat} {S:Stp} {D:Dyn} {vp vl vg:Value} (h:WAt w b S D vp vl vg) (hb:Below w.heap.size w w'):WAt w' b S D vp vl vg:=
 ⟨h.c.call hb,h.p.later pointLay_len hb (Nat.le_refl _),h.l.later hb (Nat.le_refl _),h.g.later entLay_len hb (Nat.le_refl _),h.np.later hb.size,h.nl.later hb.size,h.ng.later hb.size,fun c hc=>Nat.lt_of_lt_of_le (h.hv c hc) hb.size⟩
theorem WAt.turn {w w':World} {b:Nat} {S:Stp} {D D':Dyn} {vp vl vg:Value} {L:List Value} (h:WAt w b S D vp vl vg) (hg:w.grownBy w' (some b)) (hc:CellsAt w' b L) (hL:L=lay S D' vp vl vg) (hw:D'.ws=D.ws) (hl:D'.log=D.log):WAt w' b S D' vp vl vg:=
 ⟨hL▸hc,recs_off pointLay_len (by decide) h.p h.np.1 hg,by rw[hw];exact ints_off h.l h.nl.1 hg,by rw[hl];exact recs_off entLay_len (by decide) h.g h.ng.1 hg,h.np.later hg.size,h.nl.later hg.size,h.ng.later hg.size,fun c hc=>Nat.lt_of_lt_of_le (h.hv c hc) hg.size⟩
theorem WAt.set {w:World} {b i:Nat} {v:Value} {S:Stp} {D D':Dyn} {vp vl vg:Value} (h:WAt w b S D vp vl vg) (hi:i<124) (hL:(lay S D vp vl vg).set i v=lay S D' vp vl vg) (hw:D'.ws=D.ws) (hl:D'.log=D.log):WAt (w.setCell ⟨b,i,none⟩ v) b S D' vp vl vg:=
 h.turn (grown_setW w b i v) (h.c.set_ i (by rw[lay_len];exact hi) v) hL hw hl
structure StpIn (S:Stp):Prop where
 gain: -2147483648≤S.gain∧S.gain≤2147483647
 drag: -9223372036854775808≤S.drag∧S.drag≤9223372036854775807
 low: -2147483648≤S.low∧S.low≤2147483647
 high: -2147483648≤S.high∧S.high≤2147483647
 rate: -2147483648≤S.rate∧S.rate≤2147483647
 soft: -9223372036854775808≤S.soft∧S.soft≤9223372036854775807
 P: -2147483648≤S.P∧S.P≤2147483647
 I: -2147483648≤S.I∧S.I≤2147483647
 D: -2147483648≤S.D∧S.D≤2147483647
 lo: -2147483648≤S.lo∧S.lo≤2147483647
 hi: -2147483648≤S.hi∧S.hi≤2147483647
 m0: -2147483648≤S.m0∧S.m0≤2147483647
 m1: -2147483648≤S.m1∧S.m1≤2147483647
 m2: -2147483648≤S.m2∧S.m2≤2147483647
 m3: -2147483648≤S.m3∧S.m3≤2147483647
 m4: -2147483648≤S.m4∧S.m4≤2147483647
 up: -9223372036854775808≤S.up∧S.up≤9223372036854775807
 down: -9223372036854775808≤S.down∧S.down≤9223372036854775807
 most: -9223372036854775808≤S.most∧S.most≤9223372036854775807
 sum: -2147483648≤S.sum∧S.sum≤2147483647
 wide: -2147483648≤S.wide∧S.wide≤2147483647
 full: -2147483648≤S.full∧S.full≤2147483647
 oh: -2147483648≤S.oh∧S.oh≤2147483647
 ol: -2147483648≤S.ol∧S.ol≤2147483647
 bits: -9223372036854775808≤S.bits∧S.bits≤9223372036854775807
 trim: -2147483648≤S.trim∧S.trim≤2147483647
 prof:∀y∈S.prof,pointFit y
structure StpOk (S:Stp):Prop where
 inn:StpIn S
 ram:¬ramBad S.gain S.drag S.low S.high 0
 srv:ServoOk S.rate S.soft S.lo S.hi 0
 wat:0≤S.m0∧0≤S.m1∧0≤S.m2∧0≤S.m3∧0≤S.m4
 cnt:CountOk S.up S.down S.most 0
 pts:PointsOk S.prof
 sns:1≤S.sum∧0≤S.wide∧0≤S.full
 oil:0≤S.ol∧S.ol≤S.oh
 evn:0≤S.bits∧S.bits≤30∧0≤S.trim
structure DynOk (S:Stp) (D:Dyn):Prop where
 frame:0≤D.frame∧D.frame≤1073741824
 link:linkChk D.lk D.ll D.lq D.ws.length D.lh D.lg D.ld=0
 lkb:I64B D.lk∧I64B D.ll
 lqb:0≤D.lq∧D.lq≤255
 ws:∀x∈D.ws,-2147483648≤x∧x≤2147483647
 want: -2147483648≤D.want∧D.want≤2147483647
 mode:ModeOk D.mm D.mp D.mg
 team:∀j,j<4→OkS (D.team j)
 drv:∀j,j<4→(-2147483648≤(D.drv j).1∧(D.drv j).1≤2147483647)∧(S.lo≤(D.drv j).2.1∧(D.drv j).2.1≤S.hi)∧(-2147483648≤(D.drv j).2.2.1∧(D.drv j).2.2.1≤2147483647)∧(-2147483648≤(D.drv j).2.2.2∧(D.drv j).2.2.2≤2147483647)
 off:∀j,j<4→ -S.trim≤D.off j∧D.off j≤S.trim
 cnts:∀j k,j<4→k<5→CountOk S.up S.down S.most (D.cnts j k).1
 spool:∀j,j<4→ -2147483648≤D.spool j∧D.spool j≤2147483647
 track: -2147483648≤D.track∧D.track≤2147483647
 pos:S.low≤D.pos∧D.pos≤S.high
 vel: -2147483648≤D.vel∧D.vel≤2147483647
 log:LogOk D.log
 last:0<D.log.length→(D.log.getD (D.log.length-1) ent0).1≤D.frame
structure Inp where
 cmd:ByteArray
 (p0 p1 load:Int)
 f:Nat→Int
 ground:Bool
 ask:Int
 tries:Bool
 reset:Int
abbrev inV (I:Inp):Value:=.agg #[.string I.cmd,.int .i32 I.p0,.int .i32 I.p1,.int .i32 I.load,.int .i64 (I.f 0),.int .i64 (I.f 1),.int .i64 (I.f 2),.int .i64 (I.f 3),.bool I.ground,.int .i64 I.ask,.bool I.tries,.int .i64 I.reset]
def inL (I:Inp):List Value:=[.string I.cmd,.int .i32 I.p0,.int .i32 I.p1,.int .i32 I.load,.int .i64 (I.f 0),.int .i64 (I.f 1),.int .i64 (I.f 2),.int .i64 (I.f 3),.bool I.ground,.int .i64 I.ask,.bool I.tries,.int .i64 I.reset]
theorem inL_f (I:Inp) {k:Nat} (h:k<4):(inL I)[4+k]?=some (.int .i64 (I.f k)):=by
 rcases(by omega:k=0∨k=1∨k=2∨k=3)with rfl|rfl|rfl|rfl<;>rfl
structure InpOk (I:Inp):Prop where
 cmd:I.cmd.size≤140737488351232
 p0: -2147483648≤I.p0∧I.p0≤2147483647
 p1: -2147483648≤I.p1∧I.p1≤2147483647
 load: -2147483648≤I.load∧I.load≤2147483647
 f:∀k,k<4→ -9223372036854775808≤I.f k∧I.f k≤9223372036854775807
 ask: -9223372036854775808≤I.ask∧I.ask≤9223372036854775807
 reset: -9223372036854775808≤I.reset∧I.reset≤9223372036854775807
def blindB (f:Int):Bool:=bits BinOp.and IntKind.i64 f 2 != 0
def stuckB (f:Int):Bool:=bits BinOp.and IntKind.i64 f 1 != 0
abbrev ptr (b:Nat):Value:=.pointer (some ⟨b,0,none⟩)
end Go.Proofs.YtpkiepjmcepnoaaGreatDoor
namespace Go.Proofs.YtpkiepjmcepnoaaGreatDoor
set_option linter.unusedVariables false
section
variable {P:Program} {ops:Array Oper} {md:Region.Mode} {w:World}
def laterB (md:Region.Mode) (ops:Array Oper) (n:Nat):Bool:=
 (List.range ops.size).all fun t=>decide (t≤n)||(List.range t).any fun s=>decide (n≤s)&&Region.waitsFor md ops t s
def soonB (md:Region.Mode) (ops:Array Oper) (m n:Nat):Bool:=
 (List.range n).all fun i=>decide (i<m)||(List.range (n+1)).any fun j=>decide (i<j)&&Region.waitsFor md ops j i
def Heads (md:Region.Mode) (ops:Array Oper) (m n:Nat):Prop:=
 ∀listed,HeadInv md ops n listed→∀i,m≤i→i<n→listed.getD i true=false→∀t,n≤t→t∉Region.ready md ops listed
theorem waits_not_ready {listed:Array Bool} {t s:Nat} (h:Region.waitsFor md ops t s=true) (hs:listed.getD s true=false):t∉Region.ready md ops listed:=by
 intro hr
 obtain⟨o,ho,e,he,hb,hon⟩:=Region.waitsFor_spec h
 obtain⟨-,o2,ho2,hall⟩:=mem_ready.1 hr
 rw[ho]at ho2;cases ho2
 have:=hall e he hb
 rw[hon,getD_both hs]at this
 cases this
theorem heads_of {m n:Nat} (hs:soonB md ops m n=true) (hl:laterB md ops n=true):Heads md ops m n:=by
 intro listed inv
 have key:∀d i,n-i=d→m≤i→i<n→listed.getD i true=false→n∉Region.ready md ops listed:=by
  intro d
  induction d using Nat.strongRecOn with
  |_ d ih=>
   intro i hd hmi hi hun
   have h0:=List.all_eq_true.1 hs i (List.mem_range.2 hi)
   have h1:((List.range (n+1)).any fun j=>decide (i<j)&&Region.waitsFor md ops j i)=true:=by
    simp only[Bool.or_eq_true,decide_eq_true_eq]at h0
    rcases h0 with h0|h0
    ·omega
    ·exact h0
   obtain⟨j,hj,hj2⟩:=List.any_eq_true.1 h1
   simp only[Bool.and_eq_true,decide_eq_true_eq]at hj2
   have hjn:=List.mem_range.1 hj
   by_cases hjn2:j=n
   ·subst hjn2;exact waits_not_ready hj2.2 hun
   ·cases hj3:listed.getD j true with
    |false=>exact ih (n-j) (by omega) j rfl (by omega) (by omega) hj3
    |true=>
     exfalso
     obtain⟨o,ho,e,he,hb,hon⟩:=Region.waitsFor_spec hj2.2
     have hsz:=(Array.getElem?_eq_some_iff.1 ho).1
     have hj4:listed.getD j false=true:=by
      have hjs:j<listed.size:=by rw[inv.size];exact hsz
      simp only[Array.getD,hjs,dif_pos]at hj3⊢
      exact hj3
     have:=inv.closed j o ho hj4 e he hb
     rw[hon,getD_both hun]at this
     cases this
 intro i hmi hi hun t ht
 by_cases htn:t=n
 ·subst htn;exact key _ i rfl hmi hi hun
 ·intro hr
  obtain⟨-,o,ho,-⟩:=mem_ready.1 hr
  have hsz:=(Array.getElem?_eq_some_iff.1 ho).1
  have h1:=List.all_eq_true.1 hl t (List.mem_range.2 hsz)
  simp only[Bool.or_eq_true,decide_eq_true_eq]at h1
  rcases h1 with h1|h1
  ·omega
  ·obtain⟨s,hs2,hs3⟩:=List.any_eq_true.1 h1
   simp only[Bool.and_eq_true,decide_eq_true_eq]at hs3
   have hst:=List.mem_range.1 hs2
   exact waits_not_ready hs3.2 (inv.tail s hs3.1 (by omega)) hr
theorem head_first {m n i:Nat} {oi:Oper} {v:Value} {L:Array Bool→Act→Prop} (HW:Heads md ops m n) (hmi:m≤i) (hi:ops[i]?=some oi) (hsel:∀(j:Nat) (o:Oper) cs b,ops[j]?=some o→o.op≠ .select cs b) (hin:i<n)
  (hdone:∀listed a,L listed a→∀j∈Region.ready md ops listed,n≤j):
  ∀(f:Nat) (listed:Array Bool) (a:Act),HeadInv md ops n listed→
   (∀j oj,ops[j]?=some oj→j≠i→listed.getD j true=false→(∀e∈oj.after,Region.binds md e=true→e.on≠i)→oi.apart ops oj=true)→
   i∈Region.ready md ops listed→YieldsAt P ops w oi v a→
   wpAnyL P md ops w n L f (listed.setIfInBounds i true) (a.put oi.dst v)→wpAnyL P md ops w n L (f+1) listed a
 |f,listed,a,inv,hfree,hr,hy,H=>by
  have hun:=(mem_ready.1 hr).1
  refine⟨List.ne_nil_of_mem hr,fun j hj=>?_⟩
  have hjn:j<n:=Nat.lt_of_not_le fun h=>HW listed inv i hmi hin hun j h hj
  refine⟨hjn,?_⟩
  by_cases hji:j=i
  ·subst hji;exact hy.stOp hi H
  ·cases f with
   |zero=>exact absurd (hdone _ _ H j (ready_mono hj hji)) (by omega)
   |succ f=>
    have h1:=(H.2 j (ready_mono hj hji)).2
    obtain⟨hjun,oj,hoj,hall⟩:=mem_ready.1 hj
    have hno:∀e∈oj.after,Region.binds md e=true→e.on≠i:=fun e he hb heq=>by
     have h2:=hall e he hb
     rw[heq,getD_both hun]at h2
     cases h2
    refine stOp_mono (fun a' h3=>head_first HW hmi hi hsel hin hdone f (listed.setIfInBounds j true) a' (inv.set hj hjn) ?_ (ready_mono hr (Ne.symm hji)) h3.1 ?_) (stOp_put hoj (hfree j oj hoj hji hjun hno) (fun cs b=>hsel i oi cs b hi) (fun cs b=>hsel j oj cs b hoj) hy h1)
    ·intro k ok hk hki hkun hkno
     refine hfree k ok hk hki ?_ hkno
     by_cases hjk:j=k
     ·subst hjk;exact hjun
     ·rwa [getD_set_ne true hjk]at hkun
    ·rw[Array.setIfInBounds_comm _ _ hji]
     exact h3.2
def marks:Nat→Nat→Array Bool→Array Bool
 |0,_,listed=>listed
 |f+1,k,listed=>marks f (k+1) (listed.setIfInBounds k true)
def orderB (md:Region.Mode) (ops:Array Oper):Nat→Nat→Array Bool→Bool
 |0,k,listed=>(Region.ready md ops listed).all fun j=>decide (k≤j)
 |f+1,k,listed=>(Region.ready md ops listed).contains k&&Region.free md ops listed k&&orderB md ops f (k+1) (listed.setIfInBounds k true)
theorem head_lex {m n:Nat} {Lq:Act→Prop} (HW:Heads md ops m n) (hsel:Region.noSelect ops=true):
  ∀(l:List Oper) (k:Nat) (listed:Array Bool) (a:Act),(∀j,j<l.length→l[j]?=ops[k+j]?)→m≤k→k+l.length=n→HeadInv md ops n listed→
  orderB md ops l.length k listed=true→wpStill P ops w Lq l a→
  wpAnyL P md ops w n (fun listed' a'=>(listed'=marks l.length k listed∧∀j∈Region.ready md ops listed',n≤j)∧Lq a') l.length listed a
 |[],k,listed,a,_,hmk,hk,_,hB,h=>by
  have:k=n:=by simpa using hk
  subst this
  refine⟨⟨rfl,fun j hj=>?_⟩,h⟩
  have:=List.all_eq_true.1 hB j hj
  simpa using this
 |o::l,k,listed,a,hl,hmk,hk,inv,hB,h=>by
  have h0:ops[k]?=some o:=by simpa using(hl 0 (by simp)).symm
  simp only[List.length_cons,orderB,Bool.and_eq_true]at hB
  obtain⟨⟨hr,hf⟩,hB'⟩:=hB
  have hkn:k<n:=by simp only[List.length_cons]at hk;omega
  have hr':k∈Region.ready md ops listed:=by simpa using hr
  have hst:stOp P ops w k (wpStill P ops w Lq l) a:=by unfold stOp;simp only[h0];exact h
  obtain⟨v,hy,hK⟩:=yieldsAt_of_stOp h0 hst
  exact head_first HW hmk h0 (Region.noSelect_spec hsel) hkn (fun listed' a' hL=>hL.1.2) l.length listed a inv (Region.free_spec h0 hf) hr' hy
   (head_lex HW hsel l (k+1) _ _ (fun j hj=>by have:=hl (j+1) (by simp;omega);simpa[Nat.add_assoc,Nat.add_comm 1 j]using this) (by omega) (by simp only[List.length_cons]at hk;omega) (inv.set hr' hkn) hB' hK)
def invB (md:Region.Mode) (ops:Array Oper) (n:Nat) (listed:Array Bool):Bool:=
 decide (listed.size=ops.size)&&((List.range ops.size).all fun j=> !listed.getD j false||((ops[j]?).map fun o=>o.after.all fun e=> !Region.binds md e||listed.getD e.on false).getD true)&&(List.range ops.size).all fun t=>decide (t<n)|| !listed.getD t true
theorem inv_of {n:Nat} {listed:Array Bool} (h:invB md ops n listed=true):HeadInv md ops n listed:=by
 simp only[invB,Bool.and_eq_true,decide_eq_true_eq]at h
 obtain⟨⟨h1,h2⟩,h3⟩:=h
 refine⟨h1,fun j oj hj hl e he hb=>?_,fun t ht hts=>?_⟩
 ·have h4:=List.all_eq_true.1 h2 j (List.mem_range.2 (Array.getElem?_eq_some_iff.1 hj).1)
  rw[hj,hl]at h4
  simp only[Bool.not_true,Bool.false_or,Option.map_some,Option.getD_some]at h4
  have h5:=Array.all_eq_true'.1 h4 e he
  rw[hb]at h5
  simpa using h5
 ·have h4:=List.all_eq_true.1 h3 t (List.mem_range.2 hts)
  simp only[Bool.or_eq_true,decide_eq_true_eq]at h4
  rcases h4 with h4|h4
  ·omega
  ·simpa using h4
def headB (md:Region.Mode) (ops:Array Oper) (m n:Nat) (listed:Array Bool):Bool:=
 Region.noSelect ops&&decide (m≤n)&&decide (n<ops.size)&&invB md ops n listed&&soonB md ops m n&&laterB md ops n&&orderB md ops (n-m) m listed
theorem wpAny_head {Q:Exit→Act→World→Prop} {fuel:Nat} {listed:Array Bool} {a:Act} {l:List Oper} (m n g:Nat) (hB:headB md l.toArray m n listed=true) (hf:fuel=(n-m)+g)
  (h:wpStill P l.toArray w (fun a'=>wpAny P md l.toArray Q g (marks (n-m) m listed) a' w) ((l.drop m).take (n-m)) a):wpAny P md l.toArray Q fuel listed a w:=by
 simp only[headB,Bool.and_eq_true,decide_eq_true_eq]at hB
 obtain⟨⟨⟨⟨⟨⟨hsel,hmn⟩,hn⟩,hi⟩,hs⟩,hc⟩,hlex⟩:=hB
 have hn':n<l.length:=by simpa using hn
 have htl:((l.drop m).take (n-m)).length=n-m:=by simp;omega
 have H:=head_lex (md:=md) (heads_of hs hc) hsel ((l.drop m).take (n-m)) m listed a (fun j hj=>by
  have hj':j<n-m:=by rw[htl]at hj;exact hj
  simp[hj',List.getElem?_drop]) (Nat.le_refl _) (by omega) (inv_of hi) (by rw[htl];exact hlex) h
 have:=wpAny_of_head (Q':=Q) (g:=g) (fun listed a' hL=>by
  have h2:=hL.2
  rw[hL.1.1,htl]
  exact h2) _ _ _ H
 rw[htl,←hf]at this
 exact this
end
end Go.Proofs.YtpkiepjmcepnoaaGreatDoor
