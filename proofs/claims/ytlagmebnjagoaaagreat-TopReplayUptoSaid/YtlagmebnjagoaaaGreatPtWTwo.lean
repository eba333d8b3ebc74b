/- Two worlds side by side, and a list of what one of them told. -/
import Derived.Test.YtlagmebnjagoaaaGreatPtSameS
import Derived.Laws.AppendOwn
import Derived.OwnWalk
import Derived.StillTailTactics
import Derived.Deep.MidRow
namespace Go.Proofs.YtlagmebnjagoaaaGreat
open Go.ChangeShapes Go.WideShapes Go.ChangeAt Go.RowKit
set_option linter.unusedVariables false

theorem drewN_below (w : World) (n : Nat) : Below w.heap.size w (w.drewN n):=below_drewN (Below.refl _ _) n
theorem far_opt {w w' : World} {b : Nat} {r : Option Nat} {S : Stp} {D : Dyn} {vp vl vg : Value} (h : WAt w b S D vp vl vg) (hg : w.grownBy w' r) (hr : ∀ c,r = some c → b ≠ c ∧ S.av c) : WAt w' b S D vp vl vg:=by
  cases r with
  | none => exact h.call ⟨hg.os,hg.tape,hg.output,hg.size,fun k hk => hg.block k hk (by simp)⟩
  | some c => exact h.far hg (hr c rfl).1 (hr c rfl).2
theorem far_more {w w' : World} {b c : Nat} {r : Option Nat} {S : Stp} {a : Nat → Prop} {D : Dyn} {vp vl vg : Value} (h : WAt w b (S.withAv a) D vp vl vg) (hg : w.grownBy w' r) (hr : ∀ d,r = some d → b ≠ d ∧ a d) (hc : w.heap.size ≤ c) (hc2 : c < w'.heap.size) : WAt w' b (S.withAv (fun x => a x ∨ x = c)) D vp vl vg:=by
  have k:=far_opt h hg hr
  have m : ∀ {v : Value},OffA w b (S.withAv a).av v → OffA w' b (S.withAv (fun x => a x ∨ x = c)).av v:=fun {v} o =>
    ⟨o.1,fun x hx => hx.elim (o.2.1 x) (fun e b' q n l c' e' => by have:=o.2.2 b' q n l c' e';omega),(o.later hg.size).2.2⟩
  exact ⟨k.c,k.p,k.l,k.g,m h.np,m h.nl,m h.ng,fun x hx => hx.elim (k.hv x) (fun e => by omega)⟩
structure Two (S : Stp) (w0 w : World) (b1 b2 : Nat) (a1 a2 : Nat → Prop) (D1 D2 : Dyn) (v : Value × Value × Value × Value × Value × Value) : Prop where
  below : Below w0.heap.size w0 w
  h1 : w0.heap.size ≤ b1
  h2 : w0.heap.size ≤ b2
  ne : b1 ≠ b2
  x1 : a1 b2
  x2 : a2 b1
  W1 : WAt w b1 (S.withAv a1) D1 v.1 v.2.1 v.2.2.1
  W2 : WAt w b2 (S.withAv a2) D2 v.2.2.2.1 v.2.2.2.2.1 v.2.2.2.2.2
section
variable {S : Stp} {w0 w w' : World} {b1 b2 : Nat} {a1 a2 : Nat → Prop} {D1 D2 D' : Dyn} {v : Value × Value × Value × Value × Value × Value} {tv tv' vl vg : Value} {ts : List (Dyn × Value)}
theorem Two.call (h : Two S w0 w b1 b2 a1 a2 D1 D2 v) (hb : Below w.heap.size w w') : Two S w0 w' b1 b2 a1 a2 D1 D2 v :=
  ⟨h.below.trans (hb.mono h.below.size),h.h1,h.h2,h.ne,h.x1,h.x2,h.W1.call hb,h.W2.call hb⟩
theorem Two.left (h : Two S w0 w b1 b2 a1 a2 D1 D2 v) (hW : WAt w' b1 (S.withAv a1) D' v.1 vl vg) (hg : w.grownBy w' (some b1)) : Two S w0 w' b1 b2 a1 a2 D' D2 (v.1,vl,vg,v.2.2.2) :=
  ⟨below_of_grown h.below hg h.h1 h.below.size,h.h1,h.h2,h.ne,h.x1,h.x2,hW,h.W2.far hg (Ne.symm h.ne) h.x2⟩
theorem Two.right (h : Two S w0 w b1 b2 a1 a2 D1 D2 v) (hW : WAt w' b2 (S.withAv a2) D' v.2.2.2.1 vl vg) (hg : w.grownBy w' (some b2)) : Two S w0 w' b1 b2 a1 a2 D1 D' (v.1,v.2.1,v.2.2.1,v.2.2.2.1,vl,vg) :=
  ⟨below_of_grown h.below hg h.h2 h.below.size,h.h1,h.h2,h.ne,h.x1,h.x2,h.W1.far hg h.ne h.x1,hW⟩
def Clear (v : Value) (b1 b2 : Nat) (a1 a2 : Nat → Prop) : Prop:=∀ c,v.ownBlock = some c → b1 ≠ c ∧ b2 ≠ c ∧ a1 c ∧ a2 c
def NewB (w w' : World) (tv tv' : Value) : Prop:=tv'.ownBlock = tv.ownBlock ∨ ∃ c,tv'.ownBlock = some c ∧ w.heap.size ≤ c ∧ c < w'.heap.size
theorem Two.push (h : Two S w0 w b1 b2 a1 a2 D1 D2 v) (hg : w.grownBy w' tv.ownBlock) (hc : Clear tv b1 b2 a1 a2) (hu : ∀ c,tv.ownBlock = some c → w0.heap.size ≤ c) (hn : NewB w w' tv tv') : ∃ a1' a2',Two S w0 w' b1 b2 a1' a2' D1 D2 v ∧ Clear tv' b1 b2 a1' a2':=by
  have hb : Below w0.heap.size w0 w':=h.below.grown hg h.below.size hu
  have r1 : ∀ d,tv.ownBlock = some d → b1 ≠ d ∧ a1 d:=fun d e => ⟨(hc d e).1,(hc d e).2.2.1⟩
  have r2 : ∀ d,tv.ownBlock = some d → b2 ≠ d ∧ a2 d:=fun d e => ⟨(hc d e).2.1,(hc d e).2.2.2⟩
  rcases hn with hn | ⟨c,hn,h1,h2⟩
  · exact ⟨a1,a2,⟨hb,h.h1,h.h2,h.ne,h.x1,h.x2,far_opt h.W1 hg r1,far_opt h.W2 hg r2⟩,fun d e => hc d (hn ▸ e)⟩
  · have l1:=h.W1.lt;have l2:=h.W2.lt
    exact ⟨_,_,⟨hb,h.h1,h.h2,h.ne,.inl h.x1,.inl h.x2,far_more h.W1 hg r1 h1 h2,far_more h.W2 hg r2 h1 h2⟩,fun d e => by rw [hn] at e;cases e;exact ⟨by omega,by omega,.inr rfl,.inr rfl⟩⟩
abbrev st27 (p : Dyn × Value) : List Value:=statL p.1 p.2
structure Tol (base : Nat) (w : World) (b1 b2 : Nat) (tv : Value) (ts : List (Dyn × Value)) : Prop where
  own : w.ownsRow base 62 27 tv ts.length (ts.flatMap st27)
  n1 : tv.ownBlock ≠ some b1
  n2 : tv.ownBlock ≠ some b2
  each : ∀ p ∈ ts,(∃ q c,p.2 = .slice q p.1.log.length c) ∧ RecsAt 4 entLay w p.2 p.1.log ∧ ∀ c,p.2.ownBlock = some c → b1 ≠ c ∧ b2 ≠ c ∧ tv.ownBlock ≠ some c ∧ c < w.heap.size
theorem recs_opt {u : Value} {xs : List EntR} {r : Option Nat} (h : RecsAt 4 entLay w u xs) (hg : w.grownBy w' r) (hr : ∀ c,r = some c → u.ownBlock ≠ some c) : RecsAt 4 entLay w' u xs:=by
  cases r with
  | none => exact h.later entLay_len ⟨hg.os,hg.tape,hg.output,hg.size,fun k hk => hg.block k hk (by simp)⟩ (Nat.le_refl _)
  | some c => exact recs_off entLay_len (by decide) h (fun b' o n l c' e => by subst e;exact fun e => hr c rfl (by rw [← e];rfl)) hg
theorem Tol.far {base : Nat} {r : Option Nat} (h : Tol base w b1 b2 tv ts) (hg : w.grownBy w' r) (hr : ∀ c,r = some c → c = b1 ∨ c = b2) : Tol base w' b1 b2 tv ts:=by
  refine ⟨h.own.kept hg ?_,h.n1,h.n2,fun p hp => ?_⟩
  · by_cases e : tv.ownBlock = none
    · exact .inl e
    · refine .inr fun e2 => ?_
      obtain ⟨c,hc⟩:=Option.ne_none_iff_exists'.1 e
      rcases hr c (e2 ▸ hc) with rfl | rfl
      · exact h.n1 hc
      · exact h.n2 hc
  · obtain ⟨h1,h2,h3⟩:=h.each p hp
    refine ⟨h1,recs_opt h2 hg (fun c e e2 => ?_),fun c e => ?_⟩
    · rcases hr c e with rfl | rfl
      · exact (h3 _ e2).1 rfl
      · exact (h3 _ e2).2.1 rfl
    · obtain ⟨k1,k2,k3,k4⟩:=h3 c e
      exact ⟨k1,k2,k3,Nat.lt_of_lt_of_le k4 hg.size⟩
theorem Tol.call {base : Nat} (h : Tol base w b1 b2 tv ts) (hb : Below w.heap.size w w') : Tol base w' b1 b2 tv ts:=h.far (grown_of_below hb none) (fun c e => by cases e)
theorem Tol.push {base : Nat} {D : Dyn} {u : Value} (h : Tol base w b1 b2 tv ts) (l1 : b1 < w.heap.size) (l2 : b2 < w.heap.size) (hq : ∃ q c,u = .slice q D.log.length c) (hu : RecsAt 4 entLay w u D.log) (hn : ∀ c,u.ownBlock = some c → b1 ≠ c ∧ b2 ≠ c ∧ tv.ownBlock ≠ some c ∧ c < w.heap.size)
    (ho : w'.ownsRow base 62 27 tv' (ts.length + 1) (ts.flatMap st27 ++ statL D u)) (hg : w.grownBy w' tv.ownBlock) (hw : NewB w w' tv tv') : Tol base w' b1 b2 tv' (ts ++ [(D,u)]):=by
  have hd : ∀ c,c < w.heap.size → tv.ownBlock ≠ some c → tv'.ownBlock ≠ some c:=fun c hc hne e => by
    rcases hw with h1 | ⟨d,h1,h2,-⟩
    · exact hne (h1 ▸ e)
    · rw [h1] at e;cases e;omega
  refine ⟨by rw [List.length_append,List.flatMap_append];simpa using ho,hd b1 l1 h.n1,hd b2 l2 h.n2,fun p hp => ?_⟩
  have key : (∃ q c,p.2 = .slice q p.1.log.length c) ∧ RecsAt 4 entLay w p.2 p.1.log ∧ ∀ c,p.2.ownBlock = some c → b1 ≠ c ∧ b2 ≠ c ∧ tv.ownBlock ≠ some c ∧ c < w.heap.size:=by
    rcases List.mem_append.1 hp with hp | hp
    · exact h.each p hp
    · obtain rfl : p = (D,u):=by simpa using hp
      exact ⟨hq,hu,hn⟩
  obtain ⟨k1,k2,k3⟩:=key
  refine ⟨k1,recs_opt k2 hg (fun c e e2 => (k3 c e2).2.2.1 e),fun c e => ?_⟩
  obtain ⟨m1,m2,m3,m4⟩:=k3 c e
  exact ⟨m1,m2,hd c m4 m3,Nat.lt_of_lt_of_le m4 hg.size⟩
end
theorem wpStill_load_mid {P : Program} {ops : Array Oper} {w : World} {Q : Act → Prop} {a : Act} {o : Oper} {rest : List Oper} {v : Value} (hw : Region.wanted o (yielded ops a.tmps) = true) (ty : TypeId) (x : Operand) (ho : o.op = .load ty x) (b : Nat) (i : Nat) (hx : a.eval x = .pointer (some ⟨b,i,none⟩))
    (hr : (Instr.loadAt ty (.pointer (some ⟨b,i,none⟩))).run P w = .ok v w) (h : wpStill P ops w Q rest (a.put o.dst v)) : wpStill P ops w Q (o :: rest) a:=by
  unfold wpStill
  rw [if_pos hw]
  unfold Oper.still execOp
  simp only [ho,hx,Sem.run_bind,hr,Result.andThen_ok,Sem.run_pure]
  exact ⟨rfl,h⟩
theorem wpList_append_new {P : Program} {w : World} {ops : Array Oper} {rest : List Oper} {o : Oper} {a : Act} {Q : Exit → Act → World → Prop} (hgd : o.guard = none) (s x : Operand) (t : TypeId)
    (ho : o.op = .call { callee:=.builtin .append,args:=#[s,x],argTypes:=#[t,t] })
    (base : Nat) (e : TypeId) (i : TypeInfo) (z : Value) (size bytes : Nat) (ht : P.underlying t = some (.slice e)) (hi : P.info? e = some i) (hz : i.zero = some z)
    (hsize : i.size = size) (hby : i.bytes = bytes) (hzs : z.cells.size = size) (hsz : 0 < size)
    (v : Value) (n : Nat) (xs : List Value) (hs : a.eval s = v) (hown : w.ownsRow base e size v n xs)
    (ad : Addr) (c : Nat) (news : List Value) (hx : a.eval x = .slice (some ad) 1 c) (hl : news.length = size) (hnews : ∀ j u,news[j]? = some u → w.cell? (ad.add j) = some u) (h1 : ∀ u ∈ news,u.oneCell' = true)
    (h63 : n + 1 ≤ maxLen) (hbytes : (n + 1) * bytes ≤ 140737488355328) (hbase : base ≤ w.heap.size)
    (h : ∀ v' w',w'.ownsRow base e size v' (n + 1) (xs ++ news) → w.grownBy w' v.ownBlock → NewB w w' v v' → wpList P ops Q rest (a.put o.dst v') w') : wpList P ops Q (o :: rest) a w:=by
  have hl' : news.length = 1 * size:=by omega
  obtain ⟨v',w',hr,h2,h3,-⟩:=run_append_own (P:=P) w base t o.type e i z size bytes ht hi hz hsize hby hzs hsz v n xs hown ad 1 c news hl' hnews h1 h63 hbytes hbase
  have hsmall : n + 1 ≤ 9223372036854775807:=by simp only [maxLen] at h63;omega
  have hw : NewB w w' v v':=by
    subst hsize
    subst hby
    rcases hown.2 with ⟨rfl,rfl⟩ | ⟨g,cap,cur,rfl,hbg,hg,hnc,hcm,hcs,htake⟩
    · have hr2:=run_append_nil (P:=P) w t o.type e i z ht hi hz ad 1 c news hl' hnews (by omega) (by omega) (by omega)
      rw [hr] at hr2
      cases hr2
      exact .inr ⟨_,rfl,Nat.le_refl _,by simp⟩
    · by_cases hroom : n + 1 ≤ cap
      · have hfit : n * i.size + news.length ≤ cur.size:=by rw [hl',hcs,← Nat.add_mul];exact Nat.mul_le_mul_right _ hroom
        have hr2:=run_append_room (P:=P) w t o.type e i ht hi g n cap cur hg ad 1 c news hl' hnews h1 hroom hfit
        rw [hr] at hr2
        cases hr2
        exact .inl rfl
      · have holds : ∀ j u,xs[j]? = some u → w.cell? ((⟨g,0,none⟩ : Addr).add j) = some u:=hown.cells (g:=g) rfl
        have hr2:=run_append_grow (P:=P) w t o.type e i z ht hi hz ⟨g,0,none⟩ n cap xs hown.1 holds ad 1 c news hl' hnews (by omega) (by omega) (growslice_fits (by omega) hbytes)
        rw [hr] at hr2
        cases hr2
        exact .inr ⟨_,rfl,Nat.le_refl _,by simp⟩
  refine wpList_plain hgd fun _ hK => ?_
  unfold Oper.wp execOp
  simp only [ho,resolve,invoke,builtin,Sem.run_bind,Sem.run_pure,Result.andThen_ok,List.map_toArray,List.map_cons,List.map_nil,hs,hx,hr]
  exact hK _ _ (h v' w' h2 h3 hw)

end Go.Proofs.YtlagmebnjagoaaaGreat
