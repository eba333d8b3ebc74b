/- What table.Turn computes: a loop over slices.Backward. -/
import Derived.RangeFuncNested
import Derived.RangeFuncBound
import Derived.RangeFuncCalls
import Derived.RangeFuncLeaves
import Derived.Shelf.Abstract
import Derived.Shelf.RegionOpen
import Derived.OwnWalkIn
import Derived.TacticsInMore
import Derived.LoopNIn
import Derived.LoopIn
import Derived.Maps.OwnIn
import Derived.Deep.AppendLies
import Derived.Test.YtglagndpholejaaTab
import Derived.Test.YtglagndpholejaaCells
import Derived.Test.YtglagndpholejaaAmple
namespace Go.Proofs.Ytglagndpholejaa
open Go.ChangeShapes Go.WideShapes Go.ChangeAt Go.RowKit Go.Proofs.Ytglagndpholejaa.Open Go.Shelf
set_option linter.unusedVariables false
attribute [local go_sem] Oper.semAt_some

abbrev TI32 : TypeId := 21
abbrev TSl : TypeId := 22
abbrev TTab : TypeId := 24
/-- what a round keeps: what lay below p, and the box of the iterator -/
def KpB (p Bs : Nat) (W W' : World) : Prop := Below p W W' ∧ W'.heap[Bs]? = W.heap[Bs]?
theorem kpB_t {p Bs : Nat} {A B C : World} (h : KpB p Bs A B) (k : KpB p Bs B C) : KpB p Bs A C := ⟨h.1.trans k.1, k.2.trans h.2⟩
theorem kpB_b {p Bs : Nat} {w : World} (hp : p ≤ w.heap.size) (hB : Bs < w.heap.size) : ∀ (W : World) (l : Nat) (o o' : Obj), w.heap.size ≤ l → W.heap[l]? = some o → o.isCells = false → o.isWalk = false → KpB p Bs W (W.putObj l o') :=
  fun W l o o' hl h h1 h2 => ⟨belowK_b hp W l o o' hl h h1 h2, World.putObj_heap_other (by omega)⟩
/-- the indices that come: the last one first -/
def downL (lx k : Nat) : List Nat := (List.range k).map fun j => lx - 1 - j
theorem downL_succ (lx k : Nat) : downL lx (k + 1) = downL lx k ++ [lx - 1 - k] := by simp [downL, List.range_succ]
theorem downL_len (lx k : Nat) : (downL lx k).length = k := by simp [downL]
abbrev Ix (lx : Nat) := { k : Nat // k < lx }
def encI {lx : Nat} (g : Nat → Int) (x : Ix lx) : Array Value := #[.int .i64 (x.1 : Int), .int .i32 (g x.1)]
set_option maxRecDepth 100000 in
set_option maxHeartbeats 2000000 in
theorem backward1_in (F : Fence) (n : Nat) (h8 : F.fn 66) (hro : F.round = none) (hn : 1 ≤ n) (l Bs p b off len cap : Nat) (g : Nat → Int) (hlen : 1 ≤ len ∧ len ≤ 64) (hb : b < p) (J Jx : List (Ix len) → World → Prop)
    (hY : ∀ pre x W, J pre W → pre.length < len → YieldAt F (n - 1) Try.prog l #[.int .i64 (x.1 : Int), .int .i32 (g x.1)] W fun e W' =>
      (e = .returned (.bool true) ∧ J (pre ++ [x]) W' ∧ KpB p Bs W W') ∨ (e = .returned (.bool false) ∧ Jx (pre ++ [x]) W'))
    (W : World) (hBs : W.cell? ⟨Bs, 0, none⟩ = some (.slice (some ⟨b, off, none⟩) len cap)) (hc : ∀ j, j < len → W.cell? ⟨b, off + j, none⟩ = some (.int .i32 (g j))) (h0 : J [] W) :
    CallsIn F n Try.prog 66 #[.func (.yield l) #[] #[], .pointer (some ⟨Bs, 0, none⟩)] W fun e W' => (∃ v, e = .returned v) ∧
      ((∃ ys : List (Ix len), ys.map (·.1) = downL len len ∧ J ys W') ∨ (∃ pre : List (Ix len), True ∧ Jx pre W')) := by
  refine callsIn_of_wp Try.func66 rfl h8 ?_ hro
  simp only [Try.ntmps66, List.size_toArray, List.length_cons, List.length_nil, Nat.reduceAdd, Nat.reduceSub, Array.replicate_succ, Array.replicate_zero, List.push_toArray, List.append_toArray, List.nil_append, List.cons_append]
  have f1 : IntKind.i64.wrap ((len : Int) - 1) = (len : Int) - 1 := IntWalk.i64_in _ (by omega)
  gi_wp2
  gi_loopw [3] (fun i wr => ∃ r : Nat, r ≤ len ∧ i = .int .i64 ((r : Int) - 1) ∧ KpB p Bs W wr ∧ ∃ pre : List (Ix len), pre.map (·.1) = downL len (len - r) ∧ J pre wr) (fun i _ => (intOf i + 1).toNat)
  case atStart => exact ⟨len, Nat.le_refl _, rfl, ⟨Below.refl _ _, rfl⟩, [], by simp [downL], h0⟩
  case round =>
    obtain ⟨r, hr, rfl, hK, pre, hpre, hJs⟩ := hrel
    have hbx : wr.cell? ⟨Bs, 0, none⟩ = some (.slice (some ⟨b, off, none⟩) len cap) := by rw [World.cell?_of_block (a := ⟨Bs, 0, none⟩) hK.2]; exact hBs
    rcases r with _ | r
    · have d0 : decide (((0 : Nat) : Int) - 1 ≥ 0) = false := by decide
      gi_wp2
      go_end0
      exact ⟨⟨_, rfl⟩, .inl ⟨pre, hpre, hJs⟩⟩
    · have hcx : wr.cell? ⟨b, off + r, none⟩ = some (.int .i32 (g r)) := (hK.1.cell (p := ⟨b, off + r, none⟩) hb).trans (hc r (by omega))
      have hpl : pre.length = len - (r + 1) := by have := congrArg List.length hpre; rw [List.length_map, downL_len] at this; exact this
      obtain ⟨fn, tmps, assign, body, hy, hR⟩ := hY pre ⟨r, by omega⟩ wr hJs (by omega)
      dsimp only at hy
      have er : (((r + 1 : Nat) : Int) - 1) = (r : Int) := by omega
      rw [er]
      have e1 : (r : Int) < (len : Int) := by omega
      have e2 : (0 : Int) ≤ (r : Int) := by omega
      have f2 : IntKind.i64.wrap ((r : Int) - 1) = (r : Int) - 1 := IntWalk.i64_in _ (by omega)
      have HPRE := Lib.hid hpre; have HK := Lib.hid hK
      clear hpre hK hpl er
      gi_wp2
      refine hR.mono ?_
      rintro e W3 (⟨rfl, hJ3, hk3⟩ | ⟨rfl, hJx3⟩)
      · gi_wp2
        go_roundw
        case rel => exact ⟨r, by omega, by first | rfl | simp, kpB_t HK.out hk3, pre ++ [⟨r, by omega⟩], by rw [List.map_append, HPRE.out, show len - r = (len - (r + 1)) + 1 by omega, downL_succ]; congr 1; simp; omega, hJ3⟩
        case measure => first | (simp [intOf]; done) | (simp [intOf]; omega)
      · gi_wp2
        refine bodyPost_ret (results_none rfl _ _ _) rfl ?_
        exact ⟨⟨_, rfl⟩, .inr ⟨_, trivial, hJx3⟩⟩
set_option maxHeartbeats 1000000 in
theorem backward_in (F : Fence) (n : Nat) (h5 : F.fn 46) (hro : F.round = none) (a : Option Addr) (len cap : Nat) (w : World) :
    CallsIn F n Try.prog 46 #[.slice a len cap] w fun e w' => e = .returned (.func (.func 66) #[] #[.pointer (some ⟨w.heap.size, 0, none⟩)]) ∧ w' = w.alloc (.cells #[.slice a len cap] TSl) := by
  refine callsIn_of_wp Try.func46 rfl h5 ?_ hro
  simp only [Try.ntmps46, List.size_toArray, List.length_cons, List.length_nil, Nat.reduceAdd, Nat.reduceSub, Array.replicate_succ, Array.replicate_zero, List.push_toArray, List.append_toArray, List.nil_append, List.cons_append]
  gi_wp2
  go_ret
  exact ⟨rfl, rfl⟩
theorem backward_stops (F : Fence) (n : Nat) (h8 : F.fn 66) (hro : F.round = none) (hn : 1 ≤ n) (Bs p b off len cap : Nat) (g : Nat → Int) (hlen : 1 ≤ len ∧ len ≤ 64) (hb : b < p) (w : World) (hp : p ≤ w.heap.size) (hBl : Bs < w.heap.size)
    (hBs : w.cell? ⟨Bs, 0, none⟩ = some (.slice (some ⟨b, off, none⟩) len cap)) (hc : ∀ j, j < len → w.cell? ⟨b, off + j, none⟩ = some (.int .i32 (g j))) :
    SeqStopsK F n Try.prog 66 #[.pointer (some ⟨Bs, 0, none⟩)] (encI (lx := len) g) (KpB p Bs) (fun ys => ys.map (·.1) = downL len len) (fun _ => True) len w := fun l J Jx W hW _ _ hY h0 => by
  exact backward1_in F n h8 hro hn l Bs p b off len cap g hlen hb J Jx hY W ((hW.cell (p := ⟨Bs, 0, none⟩) hBl).trans hBs) (fun j hj => (hW.cell (p := ⟨b, off + j, none⟩) (by show b < w.heap.size; omega)).trans (hc j hj)) h0
theorem CellsAt.grown {W W' : World} {b : Nat} {vs : List Value} {row : Option Nat} (h : CellsAt W b vs) (hg : W.grownBy W' row) (hne : row ≠ some b) : CellsAt W' b vs := by
  have hbk := hg.block b h.lt (fun e => hne e.symm)
  exact ⟨fun j v hj => by rw [World.cell?_of_block (a := ⟨b, j, none⟩) hbk]; exact h.1 j v hj, fun o => by rw [World.frozen?_of_block (a := ⟨b, o, none⟩) hbk]; exact h.2.1 o, Nat.lt_of_lt_of_le h.lt hg.size⟩
theorem own_grown {W W' : World} {base k n : Nat} {E : TypeId} {v : Value} {xs : List Value} {row : Option Nat} (h : W.ownsRow base E k v n xs) (hg : W.grownBy W' row) (hne : ∀ k, v.ownBlock = some k → row ≠ some k) : W'.ownsRow base E k v n xs := by
  refine ⟨h.1, h.2.imp id fun ⟨g', cap, cur, e1, e2, e3, e4⟩ => ⟨g', cap, cur, e1, e2, ?_, e4⟩⟩
  subst e1
  rw [hg.block g' (Array.getElem?_eq_some_iff.1 e3).1 (fun e => hne g' rfl e.symm)]; exact e3
theorem own_cells' {W : World} {base k n j : Nat} {E : TypeId} {v : Value} {xs : List Value} (h : W.ownsRow base E k v n xs) (e : v.ownBlock = some j) : ∃ cur, W.heap[j]? = some (.cells cur E (0, 0)) := by
  rcases h.2 with ⟨rfl, -⟩ | ⟨g, cap, cur, rfl, -, e3, -⟩
  · simp [Value.ownBlock] at e
  · have : g = j := by simpa [Value.ownBlock] using e
    subst this; exact ⟨cur, e3⟩
theorem own_slice {W : World} {base k n : Nat} {E : TypeId} {v : Value} {xs : List Value} (h : W.ownsRow base E k v n xs) : ∃ a m c, v = .slice a m c := by
  rcases h.2 with ⟨rfl, -⟩ | ⟨g, cap, cur, rfl, -⟩
  · exact ⟨_, _, _, rfl⟩
  · exact ⟨_, _, _, rfl⟩
theorem CellsAt.src1 {w : World} {b : Nat} {u : Value} (h : CellsAt w b [u]) : ∀ j v, [u][j]? = some v → w.cell? ((⟨b, 0, none⟩ : Addr).add j) = some v := fun j v hj => by
  have := h.1 j v hj
  cases j <;> simpa [Addr.add] using this
/-- between two rounds -/
structure TurnSt (W w : World) (q : Nat) (sx sy vx vy : Value) (lx ly : List Int) : Prop where
  T : CellsAt W w.heap.size [sx, sy]
  R : CellsAt W (w.heap.size + 1) [.slice none 0 0, .slice none 0 0]
  O : CellsAt W q [vx, vy]
  BX : W.heap[q + 1]? = some (.cells #[sx] TSl (0, 0))
  X : W.ownsRow (q + 2) TI32 1 vx lx.length (lx.map (.int .i32))
  Y : W.ownsRow (q + 2) TI32 1 vy ly.length (ly.map (.int .i32))
  ne : ∀ k, vx.ownBlock = some k → vy.ownBlock ≠ some k
  B : Below w.heap.size w W
  lq : w.heap.size + 1 < q
  lw : q + 2 ≤ W.heap.size
section
variable {W W' w : World} {q : Nat} {sx sy vx vy v' : Value} {lx ly : List Int}
/-- blocks that are none of its cells may turn -/
theorem TurnSt.turn {row : Option Nat} (h : TurnSt W w q sx sy vx vy lx ly) (hg : W.grownBy W' row) (hr : ∀ r, row = some r → q + 2 ≤ r ∧ ∃ o : Obj, W.heap[r]? = some o ∧ o.isCells = false) : TurnSt W' w q sx sy vx vy lx ly := by
  have hlq := h.lq
  have no : ∀ {v : Value} {xs : List Value} {n : Nat}, W.ownsRow (q + 2) TI32 1 v n xs → ∀ k, v.ownBlock = some k → row ≠ some k := fun ho k e er => by
    obtain ⟨cur, hc⟩ := own_cells' ho e
    obtain ⟨-, o, h1, h2⟩ := hr k er
    rw [hc] at h1; cases h1; cases h2
  refine ⟨h.T.grown hg (fun e => ?_), h.R.grown hg (fun e => ?_), h.O.grown hg (fun e => ?_), ?_, own_grown h.X hg (no h.X), own_grown h.Y hg (no h.Y), h.ne, h.B.grown hg h.B.size (fun k e => by have := (hr k e).1; omega), h.lq, Nat.le_trans h.lw hg.size⟩
  · have := (hr _ e).1; omega
  · have := (hr _ e).1; omega
  · have := (hr _ e).1; omega
  · rw [hg.block (q + 1) (by have := h.lw; omega) (fun e => by have := (hr _ e.symm).1; omega)]; exact h.BX
theorem TurnSt.alloc (h : TurnSt W w q sx sy vx vy lx ly) (o : Obj) : TurnSt (W.alloc o) w q sx sy vx vy lx ly := h.turn (World.grownBy_alloc W o none) (fun r e => by cases e)
theorem TurnSt.drew (h : TurnSt W w q sx sy vx vy lx ly) : TurnSt W.drew w q sx sy vx vy lx ly := ⟨h.T, h.R, h.O, h.BX, h.X, h.Y, h.ne, h.B.drew, h.lq, h.lw⟩
theorem TurnSt.midX (h : TurnSt W w q sx sy vx vy lx ly) (hg : W.grownBy W' vx.ownBlock) : CellsAt W' q [vx, vy] := h.O.grown hg (fun e => by have := (h.X.lt q e).1; omega)
theorem TurnSt.midY (h : TurnSt W w q sx sy vx vy lx ly) (hg : W.grownBy W' vy.ownBlock) : CellsAt W' q [vx, vy] := h.O.grown hg (fun e => by have := (h.Y.lt q e).1; omega)
theorem TurnSt.pushX {x : Int} (h : TurnSt W w q sx sy vx vy lx ly) (ho : W'.ownsRow (q + 2) TI32 1 v' (lx.length + 1) (lx.map (.int .i32) ++ [.int .i32 x])) (hg : W.grownBy W' vx.ownBlock) (hb : v'.ownBlock = vx.ownBlock ∨ v'.ownBlock = some W.heap.size) :
    TurnSt (W'.setCell ⟨q, 0, none⟩ v') w q sx sy v' vy (lx ++ [x]) ly := by
  have hlq := h.lq
  have hbase : ∀ k, vx.ownBlock = some k → q + 2 ≤ k := fun k e => (h.X.lt k e).1
  refine ⟨(h.T.grown hg (fun e => by have := hbase _ e; omega)).other (by omega) _ _, (h.R.grown hg (fun e => by have := hbase _ e; omega)).other (by omega) _ _, (h.midX hg).set2_0, ?_, ?_, ?_, ?_, ?_, h.lq, ?_⟩
  · rw [heap_setCell_other W' ⟨q, 0, none⟩ (q + 1) v' (by show q + 1 ≠ q; omega), hg.block (q + 1) (by have := h.lw; omega) (fun e => by have := hbase _ e.symm; omega)]; exact h.BX
  · have h2 := own_far ho (grown_setB W' q 0 v') (fun e => by have := (ho.lt q e).1; omega)
    simpa using h2
  · exact own_far (own_grown h.Y hg (fun k e e' => h.ne k e' e)) (grown_setB W' q 0 v') (fun e => by have := (h.Y.lt q e).1; omega)
  · intro k e e'
    rcases hb with hb | hb
    · exact h.ne k (hb ▸ e) e'
    · rw [hb] at e; injection e with e; have := (h.Y.lt k e').2; omega
  · exact (h.B.grown hg h.B.size (fun k e => by have := hbase k e; omega)).setCell (p := ⟨q, 0, none⟩) (by show w.heap.size ≤ q; omega) _
  · have := h.lw; have := hg.size; simp [World.setCell]; omega
theorem TurnSt.pushY {x : Int} (h : TurnSt W w q sx sy vx vy lx ly) (ho : W'.ownsRow (q + 2) TI32 1 v' (ly.length + 1) (ly.map (.int .i32) ++ [.int .i32 x])) (hg : W.grownBy W' vy.ownBlock) (hb : v'.ownBlock = vy.ownBlock ∨ v'.ownBlock = some W.heap.size) :
    TurnSt (W'.setCell ⟨q, 1, none⟩ v') w q sx sy vx v' lx (ly ++ [x]) := by
  have hlq := h.lq
  have hbase : ∀ k, vy.ownBlock = some k → q + 2 ≤ k := fun k e => (h.Y.lt k e).1
  refine ⟨(h.T.grown hg (fun e => by have := hbase _ e; omega)).other (by omega) _ _, (h.R.grown hg (fun e => by have := hbase _ e; omega)).other (by omega) _ _, (h.midY hg).set2_1, ?_, ?_, ?_, ?_, ?_, h.lq, ?_⟩
  · rw [heap_setCell_other W' ⟨q, 1, none⟩ (q + 1) v' (by show q + 1 ≠ q; omega), hg.block (q + 1) (by have := h.lw; omega) (fun e => by have := hbase _ e.symm; omega)]; exact h.BX
  · exact own_far (own_grown h.X hg (fun k e e' => h.ne k e e')) (grown_setB W' q 1 v') (fun e => by have := (h.X.lt q e).1; omega)
  · have h2 := own_far ho (grown_setB W' q 1 v') (fun e => by have := (ho.lt q e).1; omega)
    simpa using h2
  · intro k e e'
    rcases hb with hb | hb
    · exact h.ne k e (hb ▸ e')
    · rw [hb] at e'; injection e' with e'; have := (h.X.lt k e).2; omega
  · exact (h.B.grown hg h.B.size (fun k e => by have := hbase k e; omega)).setCell (p := ⟨q, 1, none⟩) (by show w.heap.size ≤ q; omega) _
  · have := h.lw; have := hg.size; simp [World.setCell]; omega
theorem others_own {base k n : Nat} {E : TypeId} {v : Value} {xs : List Value} (h : W.ownsRow base E k v n xs) (hg : W.grownBy W' v.ownBlock) : KeepsOthers W W' :=
  KeepsOthers.of_grownBy hg (fun j o e ho => by
    obtain ⟨cur, hc⟩ := own_cells' h e
    rw [hc] at ho; cases ho; rfl)
theorem TurnSt.kp {vx2 vy2 : Value} {lx2 ly2 : List Int} (h : TurnSt W w q sx sy vx vy lx ly) (h2 : TurnSt W' w q sx sy vx2 vy2 lx2 ly2) (hb : Below w.heap.size W W') : KpB w.heap.size (q + 1) W W' := ⟨hb, by rw [h.BX, h2.BX]⟩
end
/-- a region's steps inside a round, out of the plain ones -/
theorem upon_in {P : Program} {o : Oper} {a : Act} {K : Act → World → Prop} {Q : Exit → Act → World → Prop} {l n : Nat} {r : Result Next} (h : o.upon P a K Q r) : o.uponIn (Fence.wide.inRound l) n P a K Q r := by
  match r, h with
  | .ok (.value v) w', h => exact h
  | .ok .skip w', h => exact h
  | .ok (.defer d) w', h => exact h
  | .ok (.enter f args) w', h => exact ⟨fun hh => (by cases hh), CallsIn.inRound l (callsIn_wide.2 h)⟩
  | .ok (.row row args) w', h => exact ⟨fun hh => (by cases hh), fun c cs _ => let ⟨v, w2, r, st⟩ := h c cs; ⟨v, w2, r, stepsIn_wide.2 st⟩⟩
  | .halt (.panic v) w', h => exact h
theorem wpAnyIn_of {P : Program} {ops : Array Oper} {md : Region.Mode} {Q : Exit → Act → World → Prop} {l n : Nat} (hlo : LetsOut Q → False) (hd : ∀ (i : Nat) (o : Oper), ops[i]? = some o → ∀ c, o.op ≠ .defer c) :
    ∀ (fuel : Nat) (listed : Array Bool) (a : Act) (w : World), wpAny P md ops Q fuel listed a w → wpAnyIn (Fence.wide.inRound l) n P md ops Q fuel listed a w := by
  intro fuel
  induction fuel with
  | zero => intro listed a w h; exact h
  | succ fuel ih =>
    intro listed a w h
    refine ⟨h.1, fun i hi => ?_⟩
    have h2 := h.2 i hi
    unfold wpOp at h2
    unfold wpOpIn
    cases ho : ops[i]? with
    | none => rw [ho] at h2; exact ih _ _ _ h2
    | some o =>
      rw [ho] at h2
      simp only at h2 ⊢
      split
      · rename_i hw
        rw [if_pos hw] at h2
        refine Oper.wpIn_mono (fun a w h => ih _ _ _ h) ⟨fun f _ => trivial, ?_⟩
        rw [Oper.semAt_plain _ _ _ (hd i o ho)]
        rcases h2 with h2 | ⟨_, h2⟩
        · exact upon_in h2
        · exact (hlo h2).elim
      · rename_i hw
        rw [if_neg hw] at h2
        exact ⟨fun f _ => trivial, ih _ _ _ h2⟩
/-- what a round's steps keep -/
def Stp (p : Nat) (W W' : World) : Prop := KeepsOthers W W' ∧ Below p W W'
section
variable {p : Nat} {W W' W'' : World}
theorem Stp.refl : Stp p W W := ⟨KeepsOthers.refl _, Below.refl _ _⟩
theorem Stp.alloc (h : Stp p W W') (hp : p ≤ W'.heap.size) (o : Obj) : Stp p W (W'.alloc o) := ⟨h.1.trans (KeepsOthers.alloc _ _), h.2.alloc hp o⟩
theorem Stp.drew (h : Stp p W W') : Stp p W W'.drew := ⟨h.1.trans (KeepsOthers.drew _), h.2.drew⟩
theorem Stp.set (h : Stp p W W') {b : Nat} (hp : p ≤ b) (j : Nat) (u : Value) : Stp p W (W'.setCell ⟨b, j, none⟩ u) := ⟨h.1.trans (KeepsOthers.setCell _ _ _), h.2.setCell (p := ⟨b, j, none⟩) hp _⟩
theorem Stp.grown {base k n : Nat} {E : TypeId} {v : Value} {xs : List Value} (h : Stp p W W') (ho : W'.ownsRow base E k v n xs) (hp : p ≤ base) (hs : p ≤ W'.heap.size) (hg : W'.grownBy W'' v.ownBlock) : Stp p W W'' :=
  ⟨h.1.trans (others_own ho hg), h.2.grown hg hs (fun j e => by have := (ho.lt j e).1; omega)⟩
end
def TurnPost (lx : Nat) (xs ys : List Int) (w : World) (e : Ending) (w' : World) : Prop :=
  ∃ vx vy, e = .returned (.tuple #[.agg #[vx, vy], .int .i64 0]) ∧ w'.ownsRow w.heap.size TI32 1 vx lx ((downL lx lx).map fun k => .int .i32 (-(xs.getD k 0))) ∧ w'.ownsRow w.heap.size TI32 1 vy lx ((downL lx lx).map fun k => .int .i32 (ys.getD k 0)) ∧
    (∀ k, vx.ownBlock = some k → vy.ownBlock ≠ some k) ∧ Below w.heap.size w w'
set_option maxRecDepth 100000 in
set_option maxHeartbeats 8000000 in
theorem turn_yes (ax : Option Addr) (lx cx : Nat) (xs : List Int) (ay : Option Addr) (ly cy : Nat) (ys : List Int) (w : World) (hx : RowL .i32 w ax lx cx xs) (hy : RowL .i32 w ay ly cy ys) (hok : TabOk lx ly xs) (hlow : ∀ j, j < lx → -2147483647 ≤ xs.getD j 0 ∧ xs.getD j 0 ≤ 2147483647) :
    Calls Try.prog 10 #[.agg #[.slice ax lx cx, .slice ay ly cy]] w (TurnPost lx xs ys w) := by
  have HX := Lib.hid hx; have HY := Lib.hid hy
  have HE := Lib.hid (tabChk_ok.2 hok)
  have hl := hy.maxLen
  obtain ⟨k1, k2, rfl, hris⟩ := hok
  obtain ⟨b, off, rfl, hlx, -, -, hcx, hwx⟩ := hx.pos (by omega)
  obtain ⟨c, on, rfl, hly, -, -, hcy, hwy⟩ := hy.pos (by omega)
  obtain ⟨g, hg⟩ : ∃ g : Nat → Int, g = fun j => xs.getD j 0 := ⟨_, rfl⟩
  obtain ⟨gy, hgy⟩ : ∃ g : Nat → Int, g = fun j => ys.getD j 0 := ⟨_, rfl⟩
  have hb : b < w.heap.size := by have := World.block_lt_of_cell? _ _ (hcx 0 (by omega)); simpa using this
  have hc : c < w.heap.size := by have := World.block_lt_of_cell? _ _ (hcy 0 (by omega)); simpa using this
  have hcx' : ∀ i, i < lx → w.cell? ⟨b, off + i, none⟩ = some (.int .i32 (g i)) := by rw [hg]; exact hcx
  have hcy' : ∀ i, i < lx → w.cell? ⟨c, on + i, none⟩ = some (.int .i32 (gy i)) := by rw [hgy]; exact hcy
  have hlow' : ∀ j, j < lx → -2147483647 ≤ g j ∧ g j ≤ 2147483647 := by rw [hg]; exact hlow
  have HCX := Lib.hid hcx'; have HCY := Lib.hid hcy'; have HLO := Lib.hid hlow'; have HG := Lib.hid hg; have HGY := Lib.hid hgy
  obtain ⟨i0, hi, hz0, hz1, hz2⟩ := info_parts (show (Try.prog.info? 21).map (fun i => (i.zero, i.size, i.bytes)) = some (some (.int .i32 0), 1, 4) by kernel_rfl)
  clear hx hy hcx hcy hwx hwy hris hlow hcx' hcy' hlow' hg hgy
  refine (callsIn_wide (n := 9)).1 ?_
  refine callsIn_of_wp_marks Try.func10 rfl trivial ?_ rfl
  simp only [Try.ntmps10, List.size_toArray, List.length_cons, List.length_nil, Nat.reduceAdd, Nat.reduceSub, Array.replicate_succ, Array.replicate_zero, List.push_toArray, List.append_toArray, List.nil_append, List.cons_append]
  have HB0 : Hid (Below w.heap.size w ((w.alloc (.cells #[.slice (some ⟨b, off, none⟩) lx cx, .slice (some ⟨c, on, none⟩) lx cy] TTab)).alloc (.cells #[.slice none 0 0, .slice none 0 0] TTab))) := ((Below.refl w.heap.size w).alloc (Nat.le_refl _) _).alloc (by simp) _
  have HT0 : Hid (CellsAt ((w.alloc (.cells #[.slice (some ⟨b, off, none⟩) lx cx, .slice (some ⟨c, on, none⟩) lx cy] TTab)).alloc (.cells #[.slice none 0 0, .slice none 0 0] TTab)) w.heap.size [.slice (some ⟨b, off, none⟩) lx cx, .slice (some ⟨c, on, none⟩) lx cy]) := (CellsAt.new w _ _ _ rfl).alloc _
  have HR0 : Hid (CellsAt ((w.alloc (.cells #[.slice (some ⟨b, off, none⟩) lx cx, .slice (some ⟨c, on, none⟩) lx cy] TTab)).alloc (.cells #[.slice none 0 0, .slice none 0 0] TTab)) (w.heap.size + 1) [.slice none 0 0, .slice none 0 0]) := CellsAt.new' (by simp) rfl
  have hne0 : (g 0 == -2147483648) = false := by rw [beq_eq_false_iff_ne]; have := HLO.out 0 (by omega); omega
  have HCH : Hid (∀ W : World, Below w.heap.size w W → Calls Try.prog 45 #[.agg #[.slice (some ⟨b, off, none⟩) lx cx, .slice (some ⟨c, on, none⟩) lx cy]] W fun e' w' => e' = .returned (.int .i64 0) ∧ Below W.heap.size W w') := fun W hW => tabCheck_any _ _ _ _ _ _ _ W (HX.out.later hW) hl 0 HE.out
  clear HX HY HE
  gi_wp2_with (first
    | (refine ⟨trivial, ?_⟩; gi_at_call 45; refine (callsIn_wide.2 (HCH.out _ HB0.out)).mono ?_
       rintro e1 w1 ⟨rfl, hb1⟩
       have HB1 := Lib.hid (HB0.out.trans (hb1.mono HB0.out.size)); have HT1 := Lib.hid (HT0.out.call hb1); have HR1 := Lib.hid (HR0.out.call hb1)
       have t0 := HT1.out.at_ 0 rfl; have t1 := HT1.out.at_ 1 rfl; have tz := HT1.out.lt; have rz := HR1.out.lt
       have x0 : w1.cell? ⟨b, off, none⟩ = some (.int .i32 (g 0)) := (HB1.out.cell (p := ⟨b, off, none⟩) hb).trans (HCX.out 0 (by omega))
       clear hb1)
    | (refine ⟨trivial, ?_⟩; gi_at_call 46; refine (backward_in Fence.wide _ trivial rfl _ _ _ _).mono ?_; rintro e w2 ⟨rfl, rfl⟩))
  clear t0 t1 x0 hne0
  have hsz0 : ((w1.alloc (.cells #[.slice none 0 0, .slice none 0 0] TTab)).alloc (.cells #[.slice (some ⟨b, off, none⟩) lx cx] TSl)).heap.size = w1.heap.size + 2 := by simp
  have HST0 : Hid (TurnSt ((w1.alloc (.cells #[.slice none 0 0, .slice none 0 0] TTab)).alloc (.cells #[.slice (some ⟨b, off, none⟩) lx cx] TSl)) w w1.heap.size (.slice (some ⟨b, off, none⟩) lx cx) (.slice (some ⟨c, on, none⟩) lx cy) (.slice none 0 0) (.slice none 0 0) [] []) :=
    ⟨(HT1.out.alloc _).alloc _, (HR1.out.alloc _).alloc _, (CellsAt.new w1 _ _ _ rfl).alloc _, by
      have := heap_alloc_new (w1.alloc (.cells #[.slice none 0 0, .slice none 0 0] TTab)) (.cells #[.slice (some ⟨b, off, none⟩) lx cx] TSl)
      rw [World.size_alloc] at this
      exact this, World.ownsRow_nil _ _ _ _, World.ownsRow_nil _ _ _ _, fun k e => by simp [Value.ownBlock] at e, (HB1.out.alloc HB1.out.size _).alloc (by simp; have := HB1.out.size; omega) _, rz, by rw [hsz0]; exact Nat.le_refl _⟩
  generalize (w1.alloc (.cells #[.slice none 0 0, .slice none 0 0] TTab)).alloc (.cells #[.slice (some ⟨b, off, none⟩) lx cx] TSl) = W0 at *
  clear HB1 HT1 HR1 HB0 HT0 HR0
  generalize w1.heap.size = q at *
  refine wpIn_rangeFunc_ownG rfl (by decide) (gf := 66) (lb := #[.pointer (some ⟨q + 1, 0, none⟩)]) rfl trivial (enters_of Try.func66 (by kernel_rfl) rfl)
    (backward_stops Fence.wide _ trivial rfl (by decide) (q + 1) w.heap.size b off lx cx g ⟨k1, k2⟩ hb W0 HST0.out.B.size (by omega) (by simp [World.cell?, HST0.out.BX]) (fun j hj => (HST0.out.B.cell (p := ⟨b, off + j, none⟩) hb).trans (HCX.out j hj))) kpB_t (kpB_b HST0.out.B.size (by omega)) (Below.refl _ _) (fun _ => rfl)
    (fun pre W => ∃ vx vy, TurnSt W w q (.slice (some ⟨b, off, none⟩) lx cx) (.slice (some ⟨c, on, none⟩) lx cy) vx vy (pre.map fun k => -(g k.1)) (pre.map fun k => gy k.1)) (fun _ _ _ => False)
    (fun s A B row hs hg hr => by obtain ⟨vx, vy, h⟩ := hs; exact ⟨vx, vy, h.turn hg (fun r e => ⟨by have := (hr r e).1; omega, (hr r e).2⟩)⟩)
    (fun _ _ _ _ _ hs _ _ => hs) ⟨_, _, HST0.out⟩
    (fun x => { tmps := #[.agg #[.slice (some ⟨b, off, none⟩) lx cx, .slice (some ⟨c, on, none⟩) lx cy], .pointer (some ⟨w.heap.size, 0, none⟩), .pointer (some ⟨w.heap.size + 1, 0, none⟩), .int .i64 0, .int .i64 0, .pointer (some ⟨q, 0, none⟩), .int .i64 (x.1 : Int), .int .i32 (g x.1), .agg #[.slice (some ⟨b, off, none⟩) lx cx, .slice (some ⟨c, on, none⟩) lx cy], .int .i64 0, .int .i64 0, .bool false, undef, undef, .pointer (some ⟨w.heap.size, 0, none⟩), .slice (some ⟨b, off, none⟩) lx cx, .pointer (some ⟨b, off, none⟩), .int .i32 (g 0), .bool false, undef, .pointer (some ⟨w.heap.size, 0, none⟩), .slice (some ⟨b, off, none⟩) lx cx, .func (.func 66) #[] #[.pointer (some ⟨q + 1, 0, none⟩)], .int .i64 (x.1 : Int), .int .i32 (g x.1), undef, undef, undef, undef, undef, undef, undef, undef, undef, undef, undef, undef, undef, undef, undef, undef, undef, undef], defers := [] }) ?assign ?body ?done ?stop
  case assign =>
    intro l x W K hK
    dsimp only [encI]
    gi_wp2
    exact hK
  case body =>
    rintro l pre x W ⟨vx, vy, h⟩ hpl
    have HS := Lib.hid h
    have o0 := h.O.at_ 0 rfl; have o1 := h.O.at_ 1 rfl; have oz := h.O.lt
    have t1 := h.T.at_ 1 rfl; have tz1 := h.T.lt
    obtain ⟨k, hk⟩ := x
    have e1 := (h.B.cell (p := ⟨c, on + k, none⟩) hc).trans (HCY.out k hk)
    have hgk := HLO.out k hk
    have f1 : IntKind.i32.wrap (-(g k)) = -(g k) := IntWalk.i32_in _ (by omega)
    have dk : (k : Int) < (lx : Int) := by omega
    have n1 : ¬ q = w.heap.size := by omega
    have n2 : ¬ q = c := by omega
    have n3 : ¬ w.heap.size = q := by omega
    have n4 : ¬ c = q := by omega
    have lW := h.lw
    have tok1 := True.intro
    dsimp only
    clear h
    have zW := HS.out.B.size
    have lxl : (pre.map fun k : Ix lx => -(g k.1)).length = pre.length := List.length_map ..
    have lyl : (pre.map fun k : Ix lx => gy k.1).length = pre.length := List.length_map ..
    gi_wp2_with
        (gi_at_builtin; refine wpListIn_append_own_at _ rfl _ _ TSl rfl (q + 2) TI32 i0 (.int .i32 0) 1 4 Try.underlying22 hi hz0 hz1 hz2 rfl (by decide) _ _ _ rfl (HS.out.alloc (.cells #[.int .i32 (-(g k))] TI32)).X ⟨W.heap.size, 0, none⟩ 1 1 [.int .i32 (-(g k))] rfl rfl (CellsAt.new W [.int .i32 (-(g k))] #[.int .i32 (-(g k))] TI32 rfl).src1 (by simp [Value.oneCell']) (by simp [maxLen]; omega) (by simp; omega) (by simp; omega) ?_
         intro v' w2 hown' hgrow _ hblk
         obtain ⟨a2, m2, c2, rfl⟩ := own_slice hown'
         have H2 := Lib.hid ((HS.out.alloc (.cells #[.int .i32 (-(g k))] TI32)).pushX hown' hgrow hblk)
         have S2 := Lib.hid (((Stp.refl.alloc zW (.cells #[.int .i32 (-(g k))] TI32)).grown (HS.out.alloc (.cells #[.int .i32 (-(g k))] TI32)).X (by omega) (by simp; omega) hgrow).set (b := q) (by omega) 0 (.slice a2 m2 c2))
         have M2 := (HS.out.alloc (.cells #[.int .i32 (-(g k))] TI32)).midX hgrow
         have p0 := M2.at_ 0 rfl; have pz := M2.lt; have pf := M2.2.1 0
         clear hown' hgrow hblk M2)
    have BB2 := S2.out.2.cell (p := ⟨c, on + k, none⟩) hc
    rw [e1] at BB2
    clear p0 pz pf o0 o1 oz t1 tz1 e1
    generalize w2.setCell ⟨q, 0, none⟩ (.slice a2 m2 c2) = w3 at *
    have o1 := H2.out.O.at_ 1 rfl; have oz := H2.out.O.lt; have of1 := H2.out.O.2.1 1
    have t1 := H2.out.T.at_ 1 rfl; have tz1 := H2.out.T.lt
    have lW3 := H2.out.lw
    have hmx : Try.prog.follows .mixedOrders = true := by kernel_rfl
    have HW : Hid (TurnSt (w3.drew.alloc (.cells #[.int .i32 (gy k)] TI32)) w q (.slice (some ⟨b, off, none⟩) lx cx) (.slice (some ⟨c, on, none⟩) lx cy) (.slice a2 m2 c2) vy (pre.map (fun k : Ix lx => -(g k.1)) ++ [-(g k)]) (pre.map fun k : Ix lx => gy k.1)) := H2.out.drew.alloc _
    have HYn : Hid ((w3.drew.alloc (.cells #[.int .i32 (gy k)] TI32)).ownsRow (q + 2) TI32 1 vy pre.length ((pre.map fun k : Ix lx => gy k.1).map (.int .i32))) := (by have h := HW.out.Y; rw [lyl] at h; exact h)
    have HC1 : Hid (CellsAt (w3.drew.alloc (.cells #[.int .i32 (gy k)] TI32)) w3.heap.size [.int .i32 (gy k)]) := CellsAt.new w3.drew _ _ _ rfl
    have S3 : Hid (Stp w.heap.size W (w3.drew.alloc (.cells #[.int .i32 (gy k)] TI32))) := S2.out.drew.alloc H2.out.B.size _
    refine wpIn_region_any hmx (wpAnyIn_of (fun h => ?_) ?_ _ _ _ _ ?_)
    · obtain ⟨_, _, h⟩ := h; exact h
    · intro i o ho c' e
      have hm := List.mem_of_getElem? (l := [_, _, _, _, _, _, _, _, _, _, _]) (by simpa using ho)
      simp only [List.mem_cons, List.not_mem_nil, or_false] at hm
      rcases hm with rfl | rfl | rfl | rfl | rfl | rfl | rfl | rfl | rfl | rfl | rfl <;> cases e
    · change wpAny _ _ _ _ _ _ _ (World.drew _)
      refine wpAny_take (i := 0) (v := .pointer (some ⟨q, 1, none⟩)) rfl (by kernel_rfl) (by kernel_rfl) (by kernel_rfl) (fun _ _ _ h => h) (Or.inl ⟨by rfl, by intro W; go_simp⟩) ?_
      refine wpAny_take (i := 2) (v := .pointer (some ⟨w.heap.size, 1, none⟩)) rfl (by kernel_rfl) (by kernel_rfl) (by kernel_rfl) (fun _ _ _ h => h) (Or.inl ⟨by rfl, by intro W; go_simp⟩) ?_
      refine wpAny_take (i := 4) (v := .int .i64 (k : Int)) rfl (by kernel_rfl) (by kernel_rfl) (by kernel_rfl) (fun _ _ _ h => h) (Or.inl ⟨by rfl, by intro W; go_simp⟩) ?_
      refine wpAny_ready (rs := [1, 3]) (by kernel_rfl) (by simp) (AllReady.cons rfl (fun K hK => ?_) (AllReady.cons rfl (fun K hK => ?_) AllReady.nil))
      · go_simp
        refine hK _ _ ?_
        clear hK K
        refine wpAny_ready (rs := [3]) (by kernel_rfl) (by simp) (AllReady.cons rfl (fun K hK => ?_) AllReady.nil)
        go_simp
        refine hK _ _ ?_
        clear hK K
        refine wpAny_take (i := 5) (v := .pointer (some ⟨c, on + k, none⟩)) rfl (by kernel_rfl) (by kernel_rfl) (by kernel_rfl) (fun _ _ _ h => h) (Or.inl ⟨by rfl, by intro W; go_simp⟩) ?_
        refine wpAny_ready (rs := [6]) (by kernel_rfl) (by simp) (AllReady.cons rfl (fun K hK => ?_) AllReady.nil)
        go_simp
        refine hK _ _ ?_
        clear hK K
        refine wpAny_ready (rs := [7]) (by kernel_rfl) (by simp) (AllReady.cons rfl (fun K hK => ?_) AllReady.nil)
        go_simp
        refine hK _ _ ?_
        clear hK K
        refine wpAny_ready (rs := [8]) (by kernel_rfl) (by simp) (AllReady.cons rfl (fun K hK => ?_) AllReady.nil)
        refine step_append_lies _ rfl (.tmp 33) (.tmp 39) TSl rfl (q + 2) TI32 i0 (.int .i32 0) 1 4 Try.underlying22 hi hz0 hz1 hz2 rfl (by decide) vy _ _ (by simp [Act.eval]) HYn.out ⟨w3.heap.size, 0, none⟩ 1 1 [.int .i32 (gy k)] (by simp [Act.eval]) rfl HC1.out.src1 (by simp [Value.oneCell']) (by decide) (by unfold maxLen; omega) (by omega) HW.out.lw _ rfl ?_
        intro g4 c4 w4 hown4 hgrow4 hat4 hlt4
        have hblk4 : (Value.slice (some ⟨g4, 0, none⟩) (pre.length + 1) c4).ownBlock = vy.ownBlock ∨ (Value.slice (some ⟨g4, 0, none⟩) (pre.length + 1) c4).ownBlock = some (w3.drew.alloc (.cells #[.int .i32 (gy k)] TI32)).heap.size := by
          rcases hat4 with h | h
          · exact .inl h.symm
          · exact .inr (by rw [h]; rfl)
        have H4 := Lib.hid (HW.out.pushY (by rw [lyl]; exact hown4) hgrow4 hblk4)
        have S4 := Lib.hid ((S3.out.grown HW.out.Y (by omega) HW.out.B.size hgrow4).set (b := q) (by omega) 1 (.slice (some ⟨g4, 0, none⟩) (pre.length + 1) c4))
        have M4 := HW.out.midY hgrow4
        have p1 := M4.at_ 1 rfl; have pz := M4.lt; have pf1 := M4.2.1 1
        clear hown4 hgrow4 hblk4 hat4 M4
        refine hK _ _ ?_
        clear hK K
        refine wpAny_take (i := 9) (v := .pointer (some ⟨q, 1, none⟩)) rfl (by kernel_rfl) (by kernel_rfl) (by kernel_rfl) (fun _ _ _ h => h) (Or.inl ⟨by rfl, by intro W; go_simp⟩) ?_
        refine wpAny_ready (rs := [10]) (by kernel_rfl) (by simp) (AllReady.cons rfl (fun K hK => ?_) AllReady.nil)
        go_simp
        refine hK _ _ ?_
        clear hK K
        refine wpAny_done (by kernel_rfl) ?_ _
        exact ⟨S4.out.1.from _, HS.out.kp H4.out S4.out.2, _, _, by have h4 := H4.out; simp only [List.map_append, List.map_cons, List.map_nil]; exact h4⟩
      · go_simp
        refine hK _ _ ?_
        clear hK K
        refine wpAny_take (i := 5) (v := .pointer (some ⟨c, on + k, none⟩)) rfl (by kernel_rfl) (by kernel_rfl) (by kernel_rfl) (fun _ _ _ h => h) (Or.inl ⟨by rfl, by intro W; go_simp⟩) ?_
        refine wpAny_ready (rs := [1, 6]) (by kernel_rfl) (by simp) (AllReady.cons rfl (fun K hK => ?_) (AllReady.cons rfl (fun K hK => ?_) AllReady.nil))
        · go_simp
          refine hK _ _ ?_
          clear hK K
          refine wpAny_ready (rs := [6]) (by kernel_rfl) (by simp) (AllReady.cons rfl (fun K hK => ?_) AllReady.nil)
          go_simp
          refine hK _ _ ?_
          clear hK K
          refine wpAny_ready (rs := [7]) (by kernel_rfl) (by simp) (AllReady.cons rfl (fun K hK => ?_) AllReady.nil)
          go_simp
          refine hK _ _ ?_
          clear hK K
          refine wpAny_ready (rs := [8]) (by kernel_rfl) (by simp) (AllReady.cons rfl (fun K hK => ?_) AllReady.nil)
          refine step_append_lies _ rfl (.tmp 33) (.tmp 39) TSl rfl (q + 2) TI32 i0 (.int .i32 0) 1 4 Try.underlying22 hi hz0 hz1 hz2 rfl (by decide) vy _ _ (by simp [Act.eval]) HYn.out ⟨w3.heap.size, 0, none⟩ 1 1 [.int .i32 (gy k)] (by simp [Act.eval]) rfl HC1.out.src1 (by simp [Value.oneCell']) (by decide) (by unfold maxLen; omega) (by omega) HW.out.lw _ rfl ?_
          intro g4 c4 w4 hown4 hgrow4 hat4 hlt4
          have hblk4 : (Value.slice (some ⟨g4, 0, none⟩) (pre.length + 1) c4).ownBlock = vy.ownBlock ∨ (Value.slice (some ⟨g4, 0, none⟩) (pre.length + 1) c4).ownBlock = some (w3.drew.alloc (.cells #[.int .i32 (gy k)] TI32)).heap.size := by
            rcases hat4 with h | h
            · exact .inl h.symm
            · exact .inr (by rw [h]; rfl)
          have H4 := Lib.hid (HW.out.pushY (by rw [lyl]; exact hown4) hgrow4 hblk4)
          have S4 := Lib.hid ((S3.out.grown HW.out.Y (by omega) HW.out.B.size hgrow4).set (b := q) (by omega) 1 (.slice (some ⟨g4, 0, none⟩) (pre.length + 1) c4))
          have M4 := HW.out.midY hgrow4
          have p1 := M4.at_ 1 rfl; have pz := M4.lt; have pf1 := M4.2.1 1
          clear hown4 hgrow4 hblk4 hat4 M4
          refine hK _ _ ?_
          clear hK K
          refine wpAny_take (i := 9) (v := .pointer (some ⟨q, 1, none⟩)) rfl (by kernel_rfl) (by kernel_rfl) (by kernel_rfl) (fun _ _ _ h => h) (Or.inl ⟨by rfl, by intro W; go_simp⟩) ?_
          refine wpAny_ready (rs := [10]) (by kernel_rfl) (by simp) (AllReady.cons rfl (fun K hK => ?_) AllReady.nil)
          go_simp
          refine hK _ _ ?_
          clear hK K
          refine wpAny_done (by kernel_rfl) ?_ _
          exact ⟨S4.out.1.from _, HS.out.kp H4.out S4.out.2, _, _, by have h4 := H4.out; simp only [List.map_append, List.map_cons, List.map_nil]; exact h4⟩
        · go_simp
          refine hK _ _ ?_
          clear hK K
          refine wpAny_ready (rs := [1, 7]) (by kernel_rfl) (by simp) (AllReady.cons rfl (fun K hK => ?_) (AllReady.cons rfl (fun K hK => ?_) AllReady.nil))
          · go_simp
            refine hK _ _ ?_
            clear hK K
            refine wpAny_ready (rs := [7]) (by kernel_rfl) (by simp) (AllReady.cons rfl (fun K hK => ?_) AllReady.nil)
            go_simp
            refine hK _ _ ?_
            clear hK K
            refine wpAny_ready (rs := [8]) (by kernel_rfl) (by simp) (AllReady.cons rfl (fun K hK => ?_) AllReady.nil)
            refine step_append_lies _ rfl (.tmp 33) (.tmp 39) TSl rfl (q + 2) TI32 i0 (.int .i32 0) 1 4 Try.underlying22 hi hz0 hz1 hz2 rfl (by decide) vy _ _ (by simp [Act.eval]) HYn.out ⟨w3.heap.size, 0, none⟩ 1 1 [.int .i32 (gy k)] (by simp [Act.eval]) rfl HC1.out.src1 (by simp [Value.oneCell']) (by decide) (by unfold maxLen; omega) (by omega) HW.out.lw _ rfl ?_
            intro g4 c4 w4 hown4 hgrow4 hat4 hlt4
            have hblk4 : (Value.slice (some ⟨g4, 0, none⟩) (pre.length + 1) c4).ownBlock = vy.ownBlock ∨ (Value.slice (some ⟨g4, 0, none⟩) (pre.length + 1) c4).ownBlock = some (w3.drew.alloc (.cells #[.int .i32 (gy k)] TI32)).heap.size := by
              rcases hat4 with h | h
              · exact .inl h.symm
              · exact .inr (by rw [h]; rfl)
            have H4 := Lib.hid (HW.out.pushY (by rw [lyl]; exact hown4) hgrow4 hblk4)
            have S4 := Lib.hid ((S3.out.grown HW.out.Y (by omega) HW.out.B.size hgrow4).set (b := q) (by omega) 1 (.slice (some ⟨g4, 0, none⟩) (pre.length + 1) c4))
            have M4 := HW.out.midY hgrow4
            have p1 := M4.at_ 1 rfl; have pz := M4.lt; have pf1 := M4.2.1 1
            clear hown4 hgrow4 hblk4 hat4 M4
            refine hK _ _ ?_
            clear hK K
            refine wpAny_take (i := 9) (v := .pointer (some ⟨q, 1, none⟩)) rfl (by kernel_rfl) (by kernel_rfl) (by kernel_rfl) (fun _ _ _ h => h) (Or.inl ⟨by rfl, by intro W; go_simp⟩) ?_
            refine wpAny_ready (rs := [10]) (by kernel_rfl) (by simp) (AllReady.cons rfl (fun K hK => ?_) AllReady.nil)
            go_simp
            refine hK _ _ ?_
            clear hK K
            refine wpAny_done (by kernel_rfl) ?_ _
            exact ⟨S4.out.1.from _, HS.out.kp H4.out S4.out.2, _, _, by have h4 := H4.out; simp only [List.map_append, List.map_cons, List.map_nil]; exact h4⟩
          · go_simp
            refine hK _ _ ?_
            clear hK K
            refine wpAny_ready (rs := [1]) (by kernel_rfl) (by simp) (AllReady.cons rfl (fun K hK => ?_) AllReady.nil)
            go_simp
            refine hK _ _ ?_
            clear hK K
            refine wpAny_ready (rs := [8]) (by kernel_rfl) (by simp) (AllReady.cons rfl (fun K hK => ?_) AllReady.nil)
            refine step_append_lies _ rfl (.tmp 33) (.tmp 39) TSl rfl (q + 2) TI32 i0 (.int .i32 0) 1 4 Try.underlying22 hi hz0 hz1 hz2 rfl (by decide) vy _ _ (by simp [Act.eval]) HYn.out ⟨w3.heap.size, 0, none⟩ 1 1 [.int .i32 (gy k)] (by simp [Act.eval]) rfl HC1.out.src1 (by simp [Value.oneCell']) (by decide) (by unfold maxLen; omega) (by omega) HW.out.lw _ rfl ?_
            intro g4 c4 w4 hown4 hgrow4 hat4 hlt4
            have hblk4 : (Value.slice (some ⟨g4, 0, none⟩) (pre.length + 1) c4).ownBlock = vy.ownBlock ∨ (Value.slice (some ⟨g4, 0, none⟩) (pre.length + 1) c4).ownBlock = some (w3.drew.alloc (.cells #[.int .i32 (gy k)] TI32)).heap.size := by
              rcases hat4 with h | h
              · exact .inl h.symm
              · exact .inr (by rw [h]; rfl)
            have H4 := Lib.hid (HW.out.pushY (by rw [lyl]; exact hown4) hgrow4 hblk4)
            have S4 := Lib.hid ((S3.out.grown HW.out.Y (by omega) HW.out.B.size hgrow4).set (b := q) (by omega) 1 (.slice (some ⟨g4, 0, none⟩) (pre.length + 1) c4))
            have M4 := HW.out.midY hgrow4
            have p1 := M4.at_ 1 rfl; have pz := M4.lt; have pf1 := M4.2.1 1
            clear hown4 hgrow4 hblk4 hat4 M4
            refine hK _ _ ?_
            clear hK K
            refine wpAny_take (i := 9) (v := .pointer (some ⟨q, 1, none⟩)) rfl (by kernel_rfl) (by kernel_rfl) (by kernel_rfl) (fun _ _ _ h => h) (Or.inl ⟨by rfl, by intro W; go_simp⟩) ?_
            refine wpAny_ready (rs := [10]) (by kernel_rfl) (by simp) (AllReady.cons rfl (fun K hK => ?_) AllReady.nil)
            go_simp
            refine hK _ _ ?_
            clear hK K
            refine wpAny_done (by kernel_rfl) ?_ _
            exact ⟨S4.out.1.from _, HS.out.kp H4.out S4.out.2, _, _, by have h4 := H4.out; simp only [List.map_append, List.map_cons, List.map_nil]; exact h4⟩
  case done =>
    rintro D ys' W hD hys ⟨vx, vy, h⟩ hK
    have HS := Lib.hid h
    obtain ⟨ax', nx', cx', rfl⟩ := own_slice h.X
    obtain ⟨ay', ny', cy', rfl⟩ := own_slice h.Y
    have o0 := h.O.at_ 0 rfl; have o1 := h.O.at_ 1 rfl; have oz := h.O.lt
    have r0 := h.R.at_ 0 rfl; have r1 := h.R.at_ 1 rfl; have rz1 := h.R.lt
    have rf0 := h.R.2.1 0; have rf1 := h.R.2.1 1
    have hlen : ys'.length = lx := by have := congrArg List.length hys; rw [List.length_map, downL_len] at this; exact this
    have HLEN := Lib.hid hlen; have HYS := Lib.hid hys
    clear h hlen hys
    gi_wp2
    have hK2 := ((KeepsOthers.setCell W ⟨w.heap.size + 1, 0, none⟩ (.slice ax' nx' cx')).trans (KeepsOthers.setCell _ ⟨w.heap.size + 1, 1, none⟩ (.slice ay' ny' cy'))).same D _ hK rfl
    have hg3 := grownBy_putObj' ((W.setCell ⟨w.heap.size + 1, 0, none⟩ (.slice ax' nx' cx')).setCell ⟨w.heap.size + 1, 1, none⟩ (.slice ay' ny' cy')) D (.deferred none)
    have R2 := (HS.out.R.set2_0 (v0 := .slice ax' nx' cx')).set2_1 (v1 := .slice ay' ny' cy')
    have R3 := R2.grown hg3 (fun e => by injection e with e; omega)
    have c0 := R3.at_ 0 rfl; have c1 := R3.at_ 1 rfl
    have far : ∀ {v : Value} {n : Nat} {xs : List Value}, W.ownsRow (q + 2) TI32 1 v n xs → (((W.setCell ⟨w.heap.size + 1, 0, none⟩ (.slice ax' nx' cx')).setCell ⟨w.heap.size + 1, 1, none⟩ (.slice ay' ny' cy')).putObj D (.deferred none)).ownsRow w.heap.size TI32 1 v n xs := fun ho => by
      have h1 := own_far ho (grown_setB W (w.heap.size + 1) 0 (.slice ax' nx' cx')) (fun e => by have := (ho.lt _ e).1; omega)
      have h2 := own_far h1 (grown_setB _ (w.heap.size + 1) 1 (.slice ay' ny' cy')) (fun e => by have := (ho.lt _ e).1; omega)
      have h3 := own_grown h2 hg3 (fun k e e' => by
        injection e' with e'
        subst e'
        obtain ⟨cur, hc⟩ := own_cells' h2 e
        rw [hK2] at hc; cases hc)
      exact own_monoA h3 (by omega)
    refine ⟨by simp, .inl ⟨_, _, rfl, run_takeDeferred hK2, ?_⟩⟩
    refine ⟨.tuple #[.agg #[.slice ax' nx' cx', .slice ay' ny' cy'], .int .i64 0], by simp [results, Try.f10, go_sem, c0, c1], _, _, rfl, ?_, ?_, HS.out.ne, ?_⟩
    · have h := far HS.out.X
      have e1 : (ys'.map fun k => -(g k.1)).map (Value.int .i32) = (downL lx lx).map fun k => .int .i32 (-(xs.getD k 0)) := by rw [← HYS.out, HG.out]; simp
      rw [e1, List.length_map, HLEN.out] at h
      exact h
    · have h := far HS.out.Y
      have e1 : (ys'.map fun k => gy k.1).map (Value.int .i32) = (downL lx lx).map fun k => .int .i32 (ys.getD k 0) := by rw [← HYS.out, HGY.out]; simp
      rw [e1, List.length_map, HLEN.out] at h
      exact h
    · have h2 := (HS.out.B.setCell (p := ⟨w.heap.size + 1, 0, none⟩) (by show w.heap.size ≤ w.heap.size + 1; omega) (.slice ax' nx' cx')).setCell (p := ⟨w.heap.size + 1, 1, none⟩) (by show w.heap.size ≤ w.heap.size + 1; omega) (.slice ay' ny' cy')
      exact h2.grown hg3 h2.size (fun k e => by injection e with e; omega)
  case stop =>
    rintro D c' pre W _ _ h _
    exact h.elim

end Go.Proofs.Ytglagndpholejaa
