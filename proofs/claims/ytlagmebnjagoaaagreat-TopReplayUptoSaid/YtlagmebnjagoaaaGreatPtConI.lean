/- slices.Concat of two lists of inputs. -/
import Derived.Test.YtlagmebnjagoaaaGreatPtF
import Derived.Lib.Hide
import Derived.Lib.AppendZeros
import Derived.Laws.AppendOwn
import Derived.Laws.AppendOwnNone
import Derived.OwnWalk
namespace Go.Proofs.YtlagmebnjagoaaaGreat
open Go.ChangeShapes Go.WideShapes Go.ChangeAt Go.RowKit
set_option linter.unusedVariables false

theorem SrcAt.form {w : World} {s : Value} {size m : Nat} {news : List Value} (h : SrcAt w s size m news) : ∃ a c,s = .slice a m c:=by
  rcases h with ⟨c,rfl,rfl,rfl,-⟩ | ⟨ad,c,rfl,-⟩
  · exact ⟨_,_,rfl⟩
  · exact ⟨_,_,rfl⟩
theorem wpList_append_room_src {P : Program} {w : World} {ops : Array Oper} {rest : List Oper} {o : Oper} {a : Act} {Q : Exit → Act → World → Prop} (hgd : o.guard = none) (s x : Operand) (t : TypeId)
    (ho : o.op = .call { callee:=.builtin .append,args:=#[s,x],argTypes:=#[t,t] })
    (base : Nat) (e : TypeId) (i : TypeInfo) (size : Nat) (ht : P.underlying t = some (.slice e)) (hi : P.info? e = some i) (hsize : i.size = size)
    (g k cap : Nat) (xs : List Value) (hs : a.eval s = .slice (some ⟨g,0,none⟩) k cap) (hown : w.ownsRow base e size (.slice (some ⟨g,0,none⟩) k cap) k xs)
    (sv : Value) (m : Nat) (news : List Value) (hx : a.eval x = sv) (hsrc : SrcAt w sv size m news) (h1 : ∀ u ∈ news,u.oneCell' = true) (b1 : k + m ≤ cap)
    (h : ∀ w',w'.ownsRow base e size (.slice (some ⟨g,0,none⟩) (k + m) cap) (k + m) (xs ++ news) → w.grownBy w' (some g) → wpList P ops Q rest (a.put o.dst (.slice (some ⟨g,0,none⟩) (k + m) cap)) w') : wpList P ops Q (o :: rest) a w:=by
  rcases hsrc with ⟨c,rfl,rfl,rfl,rfl⟩ | ⟨ad,c,rfl,hl,hc⟩
  · exact wpList_append_fits_any w hgd s x t ho base e i size ht hi hsize g k cap xs hs hown none 0 0 [] hx (by simp) (fun _ => ⟨rfl,rfl⟩) (by intro ad h;cases h) h1 b1 h
  · exact wpList_append_fits w hgd s x t ho base e i size ht hi hsize g k cap xs hs hown ad m c news hx hl hc h1 b1 h
def GrewPost (w : World) (E : TypeId) (k n : Nat) (e : Ending) (w' : World) : Prop:=∃ v,e = .returned v ∧ ((n = 0 ∧ v = .slice none 0 0) ∨ ∃ g cap,v = .slice (some ⟨g,0,none⟩) 0 cap ∧ n ≤ cap ∧ cap ≤ 9223372036854775807) ∧ w'.ownsRow w.heap.size E k v 0 [] ∧ Below w.heap.size w w'
theorem grew_own {w : World} {E : TypeId} {k n : Nat} {z : Value} {old : Nat} (hz : z.cells.size = k) (hn : n ≤ maxLen) :
    (w.drew.alloc (.cells (Builtin.zeroCells z.cells n ++ Builtin.zeroCells z.cells (grownCap w n old E - n)) E)).ownsRow w.heap.size E k (.slice (some ⟨w.heap.size,0,none⟩) 0 (grownCap w n old E)) 0 []:=by
  have h1:=grownCap_ge w n old E
  refine ⟨by simp,.inr ⟨w.heap.size,_,_,rfl,Nat.le_refl _,heap_alloc_new w.drew _,Nat.zero_le _,grownCap_le_maxLen w n old E hn,?_,by simp⟩⟩
  rw [Array.size_append,size_zeroCells,size_zeroCells,hz,← Nat.add_mul]
  congr 1
  omega

theorem infoG_input : (Tryz.prog.info? 48).map (fun i => (i.zero,i.size,i.bytes)) = some (some (.agg #[.string ByteArray.empty,.int .i32 0,.int .i32 0,.int .i32 0,.int .i64 0,.int .i64 0,.int .i64 0,.int .i64 0,.bool false,.int .i64 0,.bool false,.int .i64 0]),12,96):=by kernel_rfl
set_option maxHeartbeats 1000000 in
set_option maxRecDepth 100000 in
theorem grow_input (n : Nat) (z : Int) (hz : z = (n : Int)) (w : World) (hn : n * 96 ≤ 281474976710656) :
    Calls Tryz.prog 31 #[.slice none 0 0,.int .i64 z] w (GrewPost w 48 12 n):=by
  obtain ⟨i0,hi,hz0,hz1,hz2⟩:=info_parts infoG_input
  subst hz
  by_cases h0 : n = 0
  · subst h0
    go_enter Tryz.func31,Tryz.ntmps31
    go_wp2
    all_goals
      go_ret
      exact ⟨_,rfl,.inl ⟨rfl,rfl⟩,World.ownsRow_nil _ _ _ _,Below.refl _ _⟩
  · have hr:=Lib.hid (Lib.run_append_nil_zeros (P:=Tryz.prog) w 38 3 38 48 i0 (.agg #[.string ByteArray.empty,.int .i32 0,.int .i32 0,.int .i32 0,.int .i64 0,.int .i64 0,.int .i64 0,.int .i64 0,.bool false,.int .i64 0,.bool false,.int .i64 0]) .i64 .i64 Tryz.underlying38 Tryz.underlying3 hi hz0 n (by omega) (by rw [hz1];decide) (by omega) (by rw [hz2];omega))
    have ho:=Lib.hid (grew_own (w:=w) (E:=48) (k:=12) (n:=n) (z:=.agg #[.string ByteArray.empty,.int .i32 0,.int .i32 0,.int .i32 0,.int .i64 0,.int .i64 0,.int .i64 0,.int .i64 0,.bool false,.int .i64 0,.bool false,.int .i64 0]) (old:=0) rfl (by unfold maxLen;omega))
    have hb:=Lib.hid (((Below.refl w.heap.size w).drew).alloc (Nat.le_refl _) (.cells (Builtin.zeroCells (Value.cells (.agg #[.string ByteArray.empty,.int .i32 0,.int .i32 0,.int .i32 0,.int .i64 0,.int .i64 0,.int .i64 0,.int .i64 0,.bool false,.int .i64 0,.bool false,.int .i64 0])) n ++ Builtin.zeroCells (Value.cells (.agg #[.string ByteArray.empty,.int .i32 0,.int .i32 0,.int .i32 0,.int .i64 0,.int .i64 0,.int .i64 0,.int .i64 0,.bool false,.int .i64 0,.bool false,.int .i64 0])) (grownCap w n 0 48 - n)) 48))
    have hc:=grownCap_ge w n 0 48
    have hm:=grownCap_le_maxLen w n 0 48 (by unfold maxLen;omega)
    unfold maxLen at hm
    generalize grownCap w n 0 48 = c at *
    generalize w.drew.alloc (.cells (Builtin.zeroCells (Value.cells (.agg #[.string ByteArray.empty,.int .i32 0,.int .i32 0,.int .i32 0,.int .i64 0,.int .i64 0,.int .i64 0,.int .i64 0,.bool false,.int .i64 0,.bool false,.int .i64 0])) n ++ Builtin.zeroCells (Value.cells (.agg #[.string ByteArray.empty,.int .i32 0,.int .i32 0,.int .i32 0,.int .i64 0,.int .i64 0,.int .i64 0,.int .i64 0,.bool false,.int .i64 0,.bool false,.int .i64 0])) (c - n)) 48) = w1 at *
    have d1 : decide ((n : Int) < 0) = false:=by first | (simp;done) | (simp;omega)
    have d3 : 0 < n:=by omega
    clear h0 hi hz0 hz1 hz2
    go_enter Tryz.func31,Tryz.ntmps31
    go_wp2_with (at_builtin;refine Lib.wpList_append_run _ rfl _ _ _ _ rfl _ _ rfl rfl _ _ hr.out ?_)
    go_ret
    exact ⟨_,rfl,.inr ⟨_,c,rfl,hc,by omega⟩,ho.out,hb.out⟩

set_option maxHeartbeats 2000000 in
theorem concat_input (p : Nat) (v1 v2 : Value) (n1 n2 : Nat) (c1 c2 : List Value) (w : World) (h1 : SrcAt w v1 12 n1 c1) (h2 : SrcAt w v2 12 n2 c2) (o1 : ∀ u ∈ c1,u.oneCell' = true) (o2 : ∀ u ∈ c2,u.oneCell' = true)
    (p0 : w.cell? ⟨p,0,none⟩ = some v1) (p1 : w.cell? ⟨p,1,none⟩ = some v2) (hn : (n1 + n2) * 96 ≤ 281474976710656) :
    Calls Tryz.prog 18 #[.slice (some ⟨p,0,none⟩) 2 2] w (CatPost w 48 12 (n1 + n2) (c1 ++ c2)):=by
  obtain ⟨i0,hi,hz0,hz1,hz2⟩:=info_parts infoG_input
  obtain ⟨a1,d1,rfl⟩:=h1.form
  obtain ⟨a2,d2,rfl⟩:=h2.form
  have H1:=Lib.hid h1;have H2:=Lib.hid h2;have O1:=Lib.hid o1;have O2:=Lib.hid o2
  have t1 : decide ((n1 : Int) < 0) = false:=by first | (simp;done) | (simp;omega)
  have t2 : decide ((n1 : Int) + (n2 : Int) < 0) = false:=by first | (simp;done) | (simp;omega)
  clear h1 h2 o1 o2
  go_enter Tryz.func18,Tryz.ntmps18
  go_wp2
  refine wp_loop_rounds 3 ?_
  rw [rounds_succ];go_wp2
  rw [rounds_succ];go_wp2
  rw [rounds_succ];go_wp2_with fail
  refine (grow_input (n1 + n2) _ (by simp) _ hn).mono ?_
  rintro e w1 ⟨v0,rfl,hform,hown,hb⟩
  have zp : p < w.heap.size:=World.block_lt_of_cell? _ _ p1
  replace p0:=cell_later hb p0
  replace p1:=cell_later hb p1
  have zb:=hb.size
  have HO:=Lib.hid hown;have HB:=Lib.hid hb
  clear hown hb
  rcases hform with ⟨h0,rfl⟩ | ⟨g,cap,rfl,hcap,hcm⟩
  · have e1 : n1 = 0:=by omega
    have e2 : n2 = 0:=by omega
    have E1:=Lib.hid e1;have E2:=Lib.hid e2
    clear h0 e1 e2
    go_wp2
    refine wp_loop_rounds 3 ?_
    rw [rounds_succ]
    go_wp2_with (at_builtin;refine wpList_append_src rfl _ _ 38 rfl w.heap.size 48 i0 (.agg #[.string ByteArray.empty,.int .i32 0,.int .i32 0,.int .i32 0,.int .i64 0,.int .i64 0,.int .i64 0,.int .i64 0,.bool false,.int .i64 0,.bool false,.int .i64 0]) 12 96 Tryz.underlying38 hi hz0 hz1 hz2 rfl (by decide) _ _ _ rfl HO.out _ n1 c1 rfl (H1.out.below HB.out (Nat.le_refl _)) O1.out ?x1 ?x2 zb ?_)
    case x1 => rw [E1.out];decide
    case x2 => rw [E1.out];decide
    intro v3 w3 hown hg
    try rw [Nat.zero_add,List.nil_append] at hown
    have B3 : Below w.heap.size w1 w3:=(Below.refl _ _).grown hg zb (fun j hj => (HO.out.lt j hj).1)
    have HO3:=Lib.hid hown
    have HB3:=Lib.hid (HB.out.trans B3)
    have z3:=B3.size
    replace p0:=(B3.cell (p:=⟨p,0,none⟩) zp).trans p0
    replace p1:=(B3.cell (p:=⟨p,1,none⟩) zp).trans p1
    clear hown hg B3
    go_wp2
    rw [rounds_succ]
    go_wp2_with (at_builtin;refine wpList_append_src rfl _ _ 38 rfl w.heap.size 48 i0 (.agg #[.string ByteArray.empty,.int .i32 0,.int .i32 0,.int .i32 0,.int .i64 0,.int .i64 0,.int .i64 0,.int .i64 0,.bool false,.int .i64 0,.bool false,.int .i64 0]) 12 96 Tryz.underlying38 hi hz0 hz1 hz2 rfl (by decide) _ _ _ rfl HO3.out _ n2 c2 rfl (H2.out.below HB3.out (Nat.le_refl _)) O2.out ?y1 ?y2 (Nat.le_trans zb z3) ?_)
    case y1 => rw [E1.out,E2.out];decide
    case y2 => rw [E1.out,E2.out];decide
    intro v4 w4 hown hg
    try rw [List.append_assoc] at hown
    have B4 : Below w.heap.size w3 w4:=(Below.refl _ _).grown hg (Nat.le_trans zb z3) (fun j hj => (HO3.out.lt j hj).1)
    have HO4:=Lib.hid hown
    have HB4:=Lib.hid (HB3.out.trans B4)
    clear hown hg B4
    go_wp2
    rw [rounds_succ]
    go_wp2
    go_ret
    exact ⟨_,rfl,HO4.out,HB4.out⟩
  · go_wp2
    refine wp_loop_rounds 3 ?_
    rw [rounds_succ]
    go_wp2_with (at_builtin;refine wpList_append_room_src rfl _ _ 38 rfl w.heap.size 48 i0 12 Tryz.underlying38 hi hz1 g 0 cap [] rfl HO.out _ n1 c1 rfl (H1.out.below HB.out (Nat.le_refl _)) O1.out (by omega) ?_)
    intro w3 hown hg
    have B3 : Below w.heap.size w1 w3:=(Below.refl _ _).grown hg zb (fun j hj => (HO.out.lt j hj).1)
    have HO3:=Lib.hid hown
    have HB3:=Lib.hid (HB.out.trans B3)
    have z3:=B3.size
    replace p0:=(B3.cell (p:=⟨p,0,none⟩) zp).trans p0
    replace p1:=(B3.cell (p:=⟨p,1,none⟩) zp).trans p1
    clear hown hg B3
    go_wp2
    rw [rounds_succ]
    go_wp2_with (at_builtin;refine wpList_append_room_src rfl _ _ 38 rfl w.heap.size 48 i0 12 Tryz.underlying38 hi hz1 g n1 cap c1 rfl HO3.out _ n2 c2 rfl (H2.out.below HB3.out (Nat.le_refl _)) O2.out hcap ?_)
    intro w4 hown hg
    have B4 : Below w.heap.size w3 w4:=(Below.refl _ _).grown hg (Nat.le_trans zb z3) (fun j hj => (HO3.out.lt j hj).1)
    have HO4:=Lib.hid hown
    have HB4:=Lib.hid (HB3.out.trans B4)
    clear hown hg B4
    go_wp2
    rw [rounds_succ]
    go_wp2
    go_ret
    exact ⟨_,rfl,HO4.out,HB4.out⟩

end Go.Proofs.YtlagmebnjagoaaaGreat
