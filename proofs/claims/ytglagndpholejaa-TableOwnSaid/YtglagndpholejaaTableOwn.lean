/- TableOwn: whatever the table, the number and the list are, the law answers true and leaves memory as it was. -/
import Derived.Test.YtglagndpholejaaTabNo
import Derived.Test.YtglagndpholejaaAmple
import Derived.Test.YtglagndpholejaaOpenS
import Derived.Deep.RegionHeld3
import Derived.Deep.DeepCutAuto
namespace Go.Proofs.Ytglagndpholejaa.tableOwn
open Go.ChangeShapes Go.WideShapes Go.ChangeAt Go.RowKit Go.Proofs.Ytglagndpholejaa Go.Proofs.Ytglagndpholejaa.Open
set_option linter.unusedVariables false
abbrev OwnI (w : World) (B : Nat) (v : Value) (l : List Int) : Prop := w.ownsRow B TI32 1 v l.length (l.map (.int .i32))
theorem one_i32 (xs : List Int) : ∀ u ∈ xs.map (Value.int .i32), u.oneCell' = true := by intro u hu; obtain ⟨x, -, rfl⟩ := List.mem_map.1 hu; rfl
/-- what table.Turn tells, come what may -/
def TurnAny (w : World) (e : Ending) (w' : World) : Prop :=
  ∃ vx vy r zx zy, e = .returned (.tuple #[.agg #[vx, vy], .int .i64 r]) ∧ OwnI w' w.heap.size vx zx ∧ OwnI w' w.heap.size vy zy ∧ (∀ k, vx.ownBlock = some k → vy.ownBlock ≠ some k) ∧ zx.length ≤ 64 ∧ zy.length ≤ 64 ∧ Below w.heap.size w w'
theorem turn_any (ax : Option Addr) (lx cx : Nat) (xs : List Int) (ay : Option Addr) (ly cy : Nat) (ys : List Int) (w : World) (hx : RowL .i32 w ax lx cx xs) (hy : RowL .i32 w ay ly cy ys) (hwx : ∀ j, -2147483648 ≤ xs.getD j 0 ∧ xs.getD j 0 ≤ 2147483647) :
    Calls Try.prog 10 #[.agg #[.slice ax lx cx, .slice ay ly cy]] w (TurnAny w) := by
  have no : ∀ e w', TurnNone w e w' → TurnAny w e w' := by
    rintro e w' ⟨⟨r, -, rfl⟩, hb⟩
    exact ⟨_, _, r, [], [], rfl, World.ownsRow_nil _ _ _ _, World.ownsRow_nil _ _ _ _, fun k e => by simp [Value.ownBlock] at e, by decide, by decide, hb⟩
  by_cases hgo : TabOk lx ly xs ∧ xs.getD 0 0 ≠ -2147483648
  · obtain ⟨hok, hne⟩ := hgo
    refine (turn_yes ax lx cx xs ay ly cy ys w hx hy hok (fun j hj => ?_)).mono ?_
    · have h1 := hwx j; have h2 := hwx 0; have h3 := rising_le hok.2.2.2 (i := 0) (j := j) (by omega) hj
      omega
    · rintro e w' ⟨vx, vy, rfl, h1, h2, h3, hb⟩
      rw [negL_cells] at h1
      rw [revL_cells] at h2
      have k2 := hok.2.1
      exact ⟨vx, vy, 0, negL lx xs, revL lx ys, rfl, by unfold OwnI; rw [negL_len]; exact h1, by unfold OwnI; rw [revL_len]; exact h2, h3, by rw [negL_len]; exact k2, by rw [revL_len]; exact k2, hb⟩
  · by_cases hc : tabChk lx ly xs = 0
    · have hok := tabChk_ok.1 hc
      exact (turn_least _ _ _ xs _ _ _ _ hx hy.maxLen hok (Classical.byContradiction fun h => hgo ⟨hok, h⟩)).mono no
    · exact (turn_no _ _ _ xs _ _ _ _ hx hy.maxLen _ rfl hc).mono no
def Any2 (w : World) (e : Ending) (w' : World) : Prop := (∃ a b, e = .returned (.tuple #[.int .i32 a, .int .i64 b])) ∧ Below w.heap.size w w'
theorem at_any (ax : Option Addr) (lx cx : Nat) (xs : List Int) (ay : Option Addr) (ly cy : Nat) (ys : List Int) (x : Int) (w : World) (hx : RowL .i32 w ax lx cx xs) (hy : RowL .i32 w ay ly cy ys) (hb : -2147483648 ≤ x ∧ x ≤ 2147483647) :
    Calls Try.prog 12 #[.agg #[.slice ax lx cx, .slice ay ly cy], .int .i32 x] w (Any2 w) := by
  by_cases hc : tabChk lx ly xs = 0
  · exact (at_yes _ _ _ xs _ _ _ ys x w hx hy hb (tabChk_ok.1 hc) _ rfl).mono fun e w' h => ⟨⟨_, _, h.1⟩, h.2⟩
  · exact (at_no _ _ _ xs _ _ _ x w hx hy.maxLen _ rfl hc).mono fun e w' h => ⟨⟨_, _, h.1⟩, h.2⟩
theorem back_any (ax : Option Addr) (lx cx : Nat) (xs : List Int) (ay : Option Addr) (ly cy : Nat) (ys : List Int) (x : Int) (w : World) (hx : RowL .i32 w ax lx cx xs) (hy : RowL .i32 w ay ly cy ys) (hb : -2147483648 ≤ x ∧ x ≤ 2147483647) :
    Calls Try.prog 15 #[.agg #[.slice ax lx cx, .slice ay ly cy], .int .i32 x] w (Any2 w) := by
  by_cases hc : tabChk lx ly xs = 0
  · exact (back_yes _ _ _ xs _ _ _ ys x w hx hy hb (tabChk_ok.1 hc) _ _ rfl rfl).mono fun e w' h => ⟨⟨_, _, h.1⟩, h.2⟩
  · exact (back_no _ _ _ xs _ _ _ x w hx hy.maxLen _ rfl hc).mono fun e w' h => ⟨⟨_, _, h.1⟩, h.2⟩
theorem wf_i32 {x : Int} (h : -2147483648 ≤ x ∧ x ≤ 2147483647) : (Lit.int .i32 x).wf = true := by
  have h2 : IntKind.i32.min = -2147483648 := rfl
  have h3 : IntKind.i32.max = 2147483647 := rfl
  show (decide (IntKind.i32.min ≤ x) && decide (x ≤ IntKind.i32.max)) = true
  rw [h2, h3, decide_eq_true h.1, decide_eq_true h.2]; rfl
abbrev frV (g : Nat) (xs : List Int) : Value := .slice (some ⟨g, 0, none⟩) xs.length (xs.length + 3)
abbrev OwnF (W : World) (M g : Nat) (xs : List Int) : Prop := W.ownsRow M TI32 1 (.slice (some ⟨g, 0, none⟩) (xs.length + 2) (xs.length + 3)) (xs.length + 2) (xs.map (.int .i32) ++ [.int .i32 77, .int .i32 77])
theorem front_low {W : World} {M g : Nat} {xs : List Int} (h : OwnF W M g xs) (hw : ∀ j, -2147483648 ≤ xs.getD j 0 ∧ xs.getD j 0 ≤ 2147483647) (hm : xs.length ≤ 281474976710656) : RowL .i32 W (some ⟨g, 0, none⟩) xs.length (xs.length + 3) xs := by
  refine ⟨by omega, by unfold maxLen; omega, fun h0 => ⟨g, 0, rfl, fun i hi => ?_⟩, fun i => wf_i32 (hw i)⟩
  rw [Nat.zero_add, h.cellAt i (by omega), List.getElem?_append_left (by simpa using hi), List.getElem?_map, List.getD_eq_getElem?_getD, List.getElem?_eq_getElem hi]; rfl
theorem front_ints {W : World} {M g : Nat} {xs : List Int} (h : OwnF W M g xs) (hm : xs.length ≤ 281474976710656) : IntsAt .i32 W (frV g xs) xs := by
  by_cases h0 : xs = []
  · subst h0; exact .inl ⟨rfl, .inr ⟨_, _, rfl⟩⟩
  · refine .inr ⟨List.length_pos_iff.2 h0, g, 0, _, rfl, by omega, by omega, fun i hi => ?_⟩
    rw [Nat.zero_add, h.cellAt i (by omega), List.getElem?_append_left (by simpa using hi), List.getElem?_map, List.getD_eq_getElem?_getD, List.getElem?_eq_getElem hi]; rfl
theorem front_spare {W : World} {M g : Nat} {xs : List Int} (h : OwnF W M g xs) : W.cell? ⟨g, xs.length, none⟩ = some (.int .i32 77) ∧ W.cell? ⟨g, xs.length + 1, none⟩ = some (.int .i32 77) := by
  constructor
  · rw [h.cellAt _ (by omega), List.getElem?_append_right (by simp)]; simp
  · rw [h.cellAt _ (by omega), List.getElem?_append_right (by simp)]; simp
/-- while the two rows and the table in front of them are made, in whatever order -/
structure Mk (W w : World) (M : Nat) (sx sy : Value) (xs ys : List Int) (oa ob op : Option Nat) : Prop where
  T : CellsAt W w.heap.size [sx, sy]
  b : Below w.heap.size w W
  m : w.heap.size < M
  z : M ≤ W.heap.size
  A : ∀ g, oa = some g → OwnF W M g xs
  Bo : ∀ g, ob = some g → OwnF W M g ys
  N : ∀ p, op = some p → CellsAt W p [.slice none 0 0, .slice none 0 0] ∧ M ≤ p
  ab : ∀ g h, oa = some g → ob = some h → g ≠ h
  ap : ∀ g p, oa = some g → op = some p → p ≠ g
  bp : ∀ g p, ob = some g → op = some p → p ≠ g
section
variable {W W' w : World} {M : Nat} {sx sy : Value} {xs ys : List Int} {oa ob op : Option Nat}
theorem Mk.call (h : Mk W w M sx sy xs ys oa ob op) (hb : Below W.heap.size W W') : Mk W' w M sx sy xs ys oa ob op :=
  ⟨h.T.call hb, h.b.trans (hb.mono h.b.size), h.m, Nat.le_trans h.z hb.size, fun g e => own_later (h.A g e) hb (Nat.le_refl _), fun g e => own_later (h.Bo g e) hb (Nat.le_refl _), fun p e => ⟨(h.N p e).1.call hb, (h.N p e).2⟩, h.ab, h.ap, h.bp⟩
theorem Mk.drew (h : Mk W w M sx sy xs ys oa ob op) : Mk W.drew w M sx sy xs ys oa ob op := h.call (Below.refl _ _).drew
theorem Mk.callA {g : Nat} (h : Mk W w M sx sy xs ys none ob op) (hb : Below W.heap.size W W') (ho : OwnF W' W.heap.size g xs) : Mk W' w M sx sy xs ys (some g) ob op := by
  have h1 := h.call hb
  have hg := own_blk ho
  refine ⟨h1.T, h1.b, h1.m, h1.z, fun g' e => ?_, h1.Bo, h1.N, fun g' k e e' => ?_, fun g' p e e' => ?_, h1.bp⟩
  · cases e; exact own_monoA ho h.z
  · cases e; have := (own_blk (h.Bo k e')).2; omega
  · cases e; have := (h.N p e').1.lt; omega
theorem Mk.callB {g : Nat} (h : Mk W w M sx sy xs ys oa none op) (hb : Below W.heap.size W W') (ho : OwnF W' W.heap.size g ys) : Mk W' w M sx sy xs ys oa (some g) op := by
  have h1 := h.call hb
  have hg := own_blk ho
  refine ⟨h1.T, h1.b, h1.m, h1.z, h1.A, fun g' e => ?_, h1.N, fun k g' e e' => ?_, h1.ap, fun g' p e e' => ?_⟩
  · cases e; exact own_monoA ho h.z
  · cases e'; have := (own_blk (h.A k e)).2; omega
  · cases e; have := (h.N p e').1.lt; omega
theorem Mk.made (h : Mk W w M sx sy xs ys oa ob none) (T : TypeId) : Mk (W.alloc (.cells #[.slice none 0 0, .slice none 0 0] T)) w M sx sy xs ys oa ob (some W.heap.size) := by
  have h1 := h.call ((Below.refl _ _).alloc (Nat.le_refl _) (.cells #[.slice none 0 0, .slice none 0 0] T))
  refine ⟨h1.T, h1.b, h1.m, h1.z, h1.A, h1.Bo, fun p e => ?_, h1.ab, fun g p e e' => ?_, fun g p e e' => ?_⟩
  · cases e; exact ⟨CellsAt.new W _ _ _ rfl, h.z⟩
  · cases e'; have := (own_blk (h.A g e)).2; omega
  · cases e'; have := (own_blk (h.Bo g e)).2; omega
end
/-- the table with spare cells -/
structure Mid (W w : World) (M p gA gB : Nat) (sx sy : Value) (xs ys : List Int) : Prop where
  T : CellsAt W w.heap.size [sx, sy]
  I : CellsAt W p [frV gA xs, frV gB ys]
  A : OwnF W M gA xs
  Bo : OwnF W M gB ys
  b : Below w.heap.size w W
  m : w.heap.size < M
  mp : M ≤ p
  ab : gA ≠ gB
  ap : p ≠ gA
  bp : p ≠ gB
theorem Mid.call {W W' w : World} {M p gA gB : Nat} {sx sy : Value} {xs ys : List Int} (h : Mid W w M p gA gB sx sy xs ys) (hb : Below W.heap.size W W') : Mid W' w M p gA gB sx sy xs ys :=
  ⟨h.T.call hb, h.I.call hb, own_later h.A hb (Nat.le_refl _), own_later h.Bo hb (Nat.le_refl _), h.b.trans (hb.mono h.b.size), h.m, h.mp, h.ab, h.ap, h.bp⟩
theorem Mk.mid {W w : World} {M p gA gB : Nat} {sx sy : Value} {xs ys : List Int} (h : Mk W w M sx sy xs ys (some gA) (some gB) (some p)) : Mid ((W.setCell ⟨p, 0, none⟩ (frV gA xs)).setCell ⟨p, 1, none⟩ (frV gB ys)) w M p gA gB sx sy xs ys := by
  have hN := h.N p rfl
  have hm := h.m
  have e1 := h.ap gA p rfl rfl
  have e2 := h.bp gB p rfl rfl
  refine ⟨(h.T.other (by omega) _ _).other (by omega) _ _, (hN.1.set2_0).set2_1, ?_, ?_, (h.b.setCell (p := ⟨p, 0, none⟩) (by show w.heap.size ≤ p; omega) _).setCell (p := ⟨p, 1, none⟩) (by show w.heap.size ≤ p; omega) _, hm, hN.2, h.ab gA gB rfl rfl, e1, e2⟩
  · exact own_far (own_far (h.A gA rfl) (grown_setB W p 0 _) (fun e => e1 (by injection e with e; exact e.symm))) (grown_setB _ p 1 _) (fun e => e1 (by injection e with e; exact e.symm))
  · exact own_far (own_far (h.Bo gB rfl) (grown_setB W p 0 _) (fun e => e2 (by injection e with e; exact e.symm))) (grown_setB _ p 1 _) (fun e => e2 (by injection e with e; exact e.symm))
theorem Mk.mid' {W w : World} {M gA gB : Nat} {sx sy : Value} {xs ys : List Int} (h : Mk W w M sx sy xs ys (some gA) (some gB) none) (T : TypeId) : Mid (W.alloc (.cells #[frV gA xs, frV gB ys] T)) w M W.heap.size gA gB sx sy xs ys := by
  have h1 := h.call ((Below.refl _ _).alloc (Nat.le_refl _) (.cells #[frV gA xs, frV gB ys] T))
  have hA := (own_blk (h.A gA rfl)).2
  have hB := (own_blk (h.Bo gB rfl)).2
  exact ⟨h1.T, CellsAt.new W _ _ _ rfl, h1.A gA rfl, h1.Bo gB rfl, h1.b, h1.m, h.z, h.ab gA gB rfl rfl, by omega, by omega⟩
theorem low_one {w : World} {p : Int} {b : Nat} (h : w.cell? ⟨b, 0, none⟩ = some (.int .i32 p)) (hp : (Lit.int .i32 p).wf = true) : RowL .i32 w (some ⟨b, 0, none⟩) 1 1 [p] := by
  refine ⟨Nat.le_refl _, by unfold maxLen; omega, fun _ => ⟨b, 0, rfl, fun i hi => ?_⟩, fun i => ?_⟩
  · obtain rfl : i = 0 := by omega
    exact h
  · match i with
    | 0 => exact hp
    | i + 1 => rw [List.getD_eq_getElem?_getD, List.getElem?_eq_none (by simp)]; decide
set_option maxHeartbeats 1000000 in
theorem spoil_nil (x : Int) (w : World) : Calls Try.prog 18 #[.slice none 0 0, .int .i32 x] w fun e w' => e = .returned (.tuple #[]) ∧ w' = w := by
  go_enter Try.func18, Try.ntmps18
  go_wp2_with fail
  go_loopw [11] (fun i wr => i = .int .i64 0 ∧ wr = w) (fun _ _ => 0)
  case atStart => exact ⟨rfl, rfl⟩
  case round =>
    obtain ⟨rfl, rfl⟩ := hrel
    go_wp2
    go_end0
    exact ⟨rfl, rfl⟩
/-- what spoil leaves of a row of the call's own -/
theorem spoil_own {base : Nat} {v : Value} {zs : List Int} (x : Int) (w : World) (h : OwnI w base v zs) : Calls Try.prog 18 #[v, .int .i32 x] w fun e w' => e = .returned (.tuple #[]) ∧ w.grownBy w' v.ownBlock := by
  rcases h.2 with ⟨rfl, -⟩ | ⟨g, cap, cur, rfl, h1, h2, h3, h4, h5, h6⟩
  · refine (spoil_nil x w).mono ?_
    rintro e w' ⟨rfl, rfl⟩
    exact ⟨rfl, World.grownBy.refl _ _⟩
  · unfold maxLen at h4
    refine (spoil_i32 g zs.length cap x w ⟨cur, h2, h5⟩ h3 (by omega)).mono ?_
    rintro e w' ⟨rfl, hg⟩
    exact ⟨rfl, hg⟩
theorem blk_off {w w' : World} {g N : Nat} {E : TypeId} {row : Option Nat} (h : BlkOf w g E N) (hg : w.grownBy w' row) (hne : row ≠ some g) : BlkOf w' g E N := by
  obtain ⟨cur, h1, h2⟩ := h
  exact ⟨cur, (hg.block g (Array.getElem?_eq_some_iff.1 h1).1 (fun e => hne e.symm)).trans h1, h2⟩
/-- the end: two rows of the call's own, their copies, the turned table in front of them -/
structure Fin (W w : World) (p p2 B B2 gA gB : Nat) (vx vy cx cy : Value) (xs ys zx zy : List Int) : Prop where
  I : CellsAt W p [frV gA xs, frV gB ys]
  U : CellsAt W p2 [vx, vy]
  X : OwnI W B vx zx
  Y : OwnI W B vy zy
  CX : OwnI W B2 cx zx
  CY : OwnI W B2 cy zy
  b : Below w.heap.size w W
  pA : p ≠ gA
  pB : p ≠ gB
  lA : w.heap.size ≤ gA
  lB : w.heap.size ≤ gB
  lp : p < B
  hA : gA < B
  hB : gB < B
  h2 : B ≤ p2
  h3 : B ≤ B2
  h4 : p2 < B2
  fx : ∀ k, vx.ownBlock = some k → k < p2
  fy : ∀ k, vy.ownBlock = some k → k < p2
  ne : ∀ k, vx.ownBlock = some k → vy.ownBlock ≠ some k
theorem Fin.spoil {W W' w : World} {p p2 B B2 gA gB k : Nat} {vx vy cx cy : Value} {xs ys zx zy : List Int} (h : Fin W w p p2 B B2 gA gB vx vy cx cy xs ys zx zy) (hg : W.grownBy W' (some k)) (hk : k = gA ∨ k = gB) : Fin W' w p p2 B B2 gA gB vx vy cx cy xs ys zx zy := by
  have h1 := h.pA; have h2 := h.pB; have h3 := h.lA; have h4 := h.lB; have h5 := h.hA; have h6 := h.hB; have h7 := h.h2; have h8 := h.h3
  have own : ∀ {b : Nat} {v : Value} {l : List Int}, OwnI W b v l → B ≤ b → OwnI W' b v l := fun ho hb => own_far ho hg (fun e => by have := (ho.lt k e).1; omega)
  exact ⟨h.I.grown hg (fun e => by injection e with e; omega), h.U.grown hg (fun e => by injection e with e; omega), own h.X (Nat.le_refl _), own h.Y (Nat.le_refl _), own h.CX h8, own h.CY h8, h.b.grown hg h.b.size (fun j e => by injection e with e; omega), h1, h2, h3, h4, h.lp, h5, h6, h7, h8, h.h4, h.fx, h.fy, h.ne⟩
def Post (w : World) (e : Ending) (w' : World) : Prop := e = .returned (.bool true) ∧ Below w.heap.size w w'
set_option maxHeartbeats 8000000 in
set_option maxRecDepth 100000 in
theorem way (ax : Option Addr) (cx : Nat) (xs : List Int) (ay : Option Addr) (cy : Nat) (ys : List Int) (x : Int) (u : Value) (w : World) (hx : IntsAt .i32 w (.slice ax xs.length cx) xs) (hy : IntsAt .i32 w (.slice ay ys.length cy) ys) (hbx : -2147483648 ≤ x ∧ x ≤ 2147483647)
    (hwx : ∀ j, -2147483648 ≤ xs.getD j 0 ∧ xs.getD j 0 ≤ 2147483647) (hwy : ∀ j, -2147483648 ≤ ys.getD j 0 ∧ ys.getD j 0 ≤ 2147483647) (hlx : xs.length * 4 ≤ 140737488351232) (hly : ys.length * 4 ≤ 140737488351232) :
    Calls Try.prog 4 #[.agg #[.slice ax xs.length cx, .slice ay ys.length cy], .int .i32 x, u] w (Post w) := by
  have HX := Lib.hid hx; have HY := Lib.hid hy; have HWX := Lib.hid hwx; have HWY := Lib.hid hwy
  have K0 : Hid (TabOk 1 1 [0]) := (⟨by decide, by decide, rfl, by intro i hi; omega⟩ : TabOk 1 1 [0])
  have K1 : Hid (atI [0] [3] 1 9 = 3) := (by decide +kernel : atI [0] [3] 1 9 = 3)
  have F0 : Hid (CellsAt (((w.alloc (.cells #[.slice ax xs.length cx, .slice ay ys.length cy] TTab)).alloc (.cells #[.int .i32 0] TI32)).alloc (.cells #[.int .i32 3] TI32)) w.heap.size [.slice ax xs.length cx, .slice ay ys.length cy]) := ((CellsAt.new w _ _ _ rfl).alloc _).alloc _
  have F1 : Hid (CellsAt (((w.alloc (.cells #[.slice ax xs.length cx, .slice ay ys.length cy] TTab)).alloc (.cells #[.int .i32 0] TI32)).alloc (.cells #[.int .i32 3] TI32)) (w.heap.size + 1) [.int .i32 0]) := (CellsAt.new' (by simp) rfl : CellsAt _ _ _).alloc _
  have F2 : Hid (CellsAt (((w.alloc (.cells #[.slice ax xs.length cx, .slice ay ys.length cy] TTab)).alloc (.cells #[.int .i32 0] TI32)).alloc (.cells #[.int .i32 3] TI32)) (w.heap.size + 1 + 1) [.int .i32 3]) := CellsAt.new' (by simp) rfl
  have FB : Hid (Below w.heap.size w (((w.alloc (.cells #[.slice ax xs.length cx, .slice ay ys.length cy] TTab)).alloc (.cells #[.int .i32 0] TI32)).alloc (.cells #[.int .i32 3] TI32))) := (((Below.refl w.heap.size w).alloc (Nat.le_refl _) _).alloc (by simp) _).alloc (by simp; omega) _
  clear hx hy hwx hwy
  go_enter Try.func4, Try.ntmps4
  go_wp2_with fail
  refine (at_yes _ 1 1 [0] _ 1 1 [3] 9 _ (low_one (F1.out.at_ 0 rfl) (by decide)) (low_one (F2.out.at_ 0 rfl) (by decide)) (by decide) K0.out 3 K1.out).mono ?_
  rintro e w1 ⟨rfl, hb1⟩
  have B1 := Lib.hid (FB.out.trans (hb1.mono FB.out.size)); have T1 := Lib.hid (F0.out.call hb1)
  clear hb1 FB F0 F1 F2
  have z1 := T1.out.lt
  go_upto_region 4 with (fail)
  have HM : Hid (Mk w1 w w1.heap.size (.slice ax xs.length cx) (.slice ay ys.length cy) xs ys none none none) := ⟨T1.out, B1.out, z1, Nat.le_refl _, fun g e => by (cases e), fun g e => by (cases e), fun g e => by (cases e), fun g h e => by (cases e), fun g h e => by (cases e), fun g h e => by (cases e)⟩
  have t0 := T1.out.at_ 0 rfl; have t1 := T1.out.at_ 1 rfl
  have MD : Hid (Mk w1.drew w w1.heap.size (.slice ax xs.length cx) (.slice ay ys.length cy) xs ys none none none) := HM.out.drew
  have MN : Hid (Mk (w1.drew.alloc (.cells #[.slice none 0 0, .slice none 0 0] TTab)) w w1.heap.size (.slice ax xs.length cx) (.slice ay ys.length cy) xs ys none none (some w1.heap.size)) := HM.out.drew.made TTab
  have MQ : Hid (Mk (w1.alloc (.cells #[.slice none 0 0, .slice none 0 0] TTab)).drew w w1.heap.size (.slice ax xs.length cx) (.slice ay ys.length cy) xs ys none none (some w1.heap.size)) := (HM.out.made TTab).drew
  have q0 := MQ.out.T.at_ 0 rfl; have q1 := MQ.out.T.at_ 1 rfl
  have d0 := MD.out.T.at_ 0 rfl; have d1 := MD.out.T.at_ 1 rfl; have m0 := MN.out.T.at_ 0 rfl; have m1 := MN.out.T.at_ 1 rfl
  go_cut [9] (fun s wx => ∃ p gA gB, s = .pointer (some ⟨p, 0, none⟩) ∧ Mid wx w w1.heap.size p gA gB (.slice ax xs.length cx) (.slice ay ys.length cy) xs ys)
  case first =>
    clear HM
    have tokA := True.intro
    go_region_held3 (fun w' => w'.cell? ⟨w.heap.size, 0, none⟩ = some (.slice ax xs.length cx) ∧ w'.cell? ⟨w.heap.size, 1, none⟩ = some (.slice ay ys.length cy)) (first | with_reducible exact ⟨x0, x1⟩ | with_reducible exact ⟨i0, i1⟩ | with_reducible exact ⟨d0, d1⟩ | with_reducible exact ⟨m0, m1⟩ | with_reducible exact ⟨t0, t1⟩ | with_reducible exact ⟨q0, q1⟩ | go_keep | (refine ⟨?_, ?_⟩ <;> repeat (first | with_reducible exact x0 | with_reducible exact x1 | with_reducible refine cell_off (by omega) ?_ | with_reducible refine cell_new' ?_))) (first
      | (have tk := tokA; clear tk tokA; have tokB := True.intro
         go_at_call 14
         refine (ample_i32 xs.length (xs.map (.int .i32)) (.slice ax xs.length cx) 77 _ (src_ints (HX.out.later (by first | with_reducible exact MD.out.b | with_reducible exact MN.out.b | with_reducible exact MQ.out.b) (Nat.le_refl _))) (one_i32 _) (by omega)).mono ?_
         rintro eA wA ⟨gA, rfl, hoA, hbA⟩
         first
           | (have II : Mk wA w w1.heap.size (.slice ax xs.length cx) (.slice ay ys.length cy) xs ys (some gA) none none := (by with_reducible exact MD.out.callA hbA hoA); have IN : Mk (wA.alloc (.cells #[.slice none 0 0, .slice none 0 0] TTab)) w w1.heap.size (.slice ax xs.length cx) (.slice ay ys.length cy) xs ys (some gA) none (some wA.heap.size) := II.made TTab; have i0 := IN.T.at_ 0 rfl; have i1 := IN.T.at_ 1 rfl)
           | (have II : Mk wA w w1.heap.size (.slice ax xs.length cx) (.slice ay ys.length cy) xs ys (some gA) none (some w1.heap.size) := (by with_reducible exact MN.out.callA hbA hoA); have nn := (II.N _ rfl).1; have n0 := nn.at_ 0 rfl; have n1 := nn.at_ 1 rfl; have nz := nn.lt; have nf0 := nn.2.1 0; have nf1 := nn.2.1 1)
           | (have II : Mk wA w w1.heap.size (.slice ax xs.length cx) (.slice ay ys.length cy) xs ys (some gA) none (some w1.heap.size) := (by with_reducible exact MQ.out.callA hbA hoA); have nn := (II.N _ rfl).1; have n0 := nn.at_ 0 rfl; have n1 := nn.at_ 1 rfl; have nz := nn.lt; have nf0 := nn.2.1 0; have nf1 := nn.2.1 1)
         have x0 := II.T.at_ 0 rfl; have x1 := II.T.at_ 1 rfl; have xz := II.T.lt
         clear hbA hoA)
      | (have tk := tokB; clear tk tokB
         go_at_call 14
         refine (ample_i32 ys.length (ys.map (.int .i32)) (.slice ay ys.length cy) 77 _ (src_ints (HY.out.later (by first | with_reducible exact II.b | with_reducible exact IN.b) (Nat.le_refl _))) (one_i32 _) (by omega)).mono ?_
         rintro eB wB ⟨gB, rfl, hoB, hbB⟩
         first
           | (have JJ : Mk wB w w1.heap.size (.slice ax xs.length cx) (.slice ay ys.length cy) xs ys (some gA) (some gB) none := (by with_reducible exact II.callB hbB hoB); have JN := JJ.made TTab; have i0 := JN.T.at_ 0 rfl; have i1 := JN.T.at_ 1 rfl)
           | (have JJ : Mk wB w w1.heap.size (.slice ax xs.length cx) (.slice ay ys.length cy) xs ys (some gA) (some gB) (some w1.heap.size) := (by with_reducible exact II.callB hbB hoB); have nn := (JJ.N _ rfl).1; have n0 := nn.at_ 0 rfl; have n1 := nn.at_ 1 rfl; have nz := nn.lt; have nf0 := nn.2.1 0; have nf1 := nn.2.1 1)
           | (have JJ : Mk wB w w1.heap.size (.slice ax xs.length cx) (.slice ay ys.length cy) xs ys (some gA) (some gB) (some wA.heap.size) := (by with_reducible exact IN.callB hbB hoB); have nn := (JJ.N _ rfl).1; have n0 := nn.at_ 0 rfl; have n1 := nn.at_ 1 rfl; have nz := nn.lt; have nf0 := nn.2.1 0; have nf1 := nn.2.1 1)
         have x0 := JJ.T.at_ 0 rfl; have x1 := JJ.T.at_ 1 rfl; have xz := JJ.T.lt
         clear hbB hoB))
    all_goals
      clear t0 t1 d0 d1 m0 m1 q0 q1 x0 x1 xz MD MN MQ
      go_wp2_with fail
      go_meet
      first
        | exact ⟨_, gA, gB, rfl, JJ.mid' TTab⟩
        | exact ⟨_, gA, gB, rfl, JJ.mid⟩
  case rest =>
    obtain ⟨p, gA, gB, rfl, hM⟩ := hcut
    have M2 := Lib.hid hM
    have y0 := hM.I.at_ 0 rfl; have y1 := hM.I.at_ 1 rfl; have yz := hM.I.lt
    clear hM t0 t1 MD MN MQ HM T1 B1 d0 d1 m0 m1 q0 q1
    have hlx2 : xs.length ≤ 281474976710656 := by omega
    have hly2 : ys.length ≤ 281474976710656 := by omega
    go_wp2_with fail
    refine (turn_any _ _ _ xs _ _ _ ys _ (front_low M2.out.A HWX.out hlx2) (front_low M2.out.Bo HWY.out hly2) HWX.out).mono ?_
    rintro e w4 ⟨vx, vy, r, zx, zy, rfl, hX, hY, hne, hzx, hzy, hb4⟩
    obtain ⟨ox, mx, kx, rfl⟩ := own_slice hX
    obtain ⟨oy, my, ky, rfl⟩ := own_slice hY
    have M4 := Lib.hid (M2.out.call hb4)
    have HX4 := Lib.hid hX; have HY4 := Lib.hid hY; have HNE := Lib.hid hne
    have z4 := hb4.size
    have hpB := M2.out.I.lt
    have hgA := (own_blk M2.out.A).2; have hgB := (own_blk M2.out.Bo).2
    clear hb4 hX hY hne y0 y1 yz
    go_upto_region 6 with (fail)
    have hn4 : Below w4.heap.size w4 (w4.alloc (.cells #[.slice ox mx kx, .slice oy my ky] TTab)) := (Below.refl _ _).alloc (Nat.le_refl _) _
    have M5 := Lib.hid (M4.out.call hn4)
    have HX5 := Lib.hid (own_later HX4.out hn4 (Nat.le_refl _)); have HY5 := Lib.hid (own_later HY4.out hn4 (Nat.le_refl _))
    have U5 := Lib.hid (CellsAt.new w4 [.slice ox mx kx, .slice oy my ky] #[.slice ox mx kx, .slice oy my ky] TTab rfl)
    have fx : ∀ k, (Value.slice ox mx kx).ownBlock = some k → k < w4.heap.size := fun k e => (HX4.out.lt k e).2
    have fy : ∀ k, (Value.slice oy my ky).ownBlock = some k → k < w4.heap.size := fun k e => (HY4.out.lt k e).2
    have FX := Lib.hid fx; have FY := Lib.hid fy
    clear hn4 M4 HX4 HY4 fx fy M2
    generalize w4.alloc (.cells #[.slice ox mx kx, .slice oy my ky] TTab) = w5 at *
    have y0 := M5.out.I.at_ 0 rfl; have y1 := M5.out.I.at_ 1 rfl; have yz := M5.out.I.lt
    go_wp2_with fail
    refine (at_any _ _ _ xs _ _ _ ys x _ (front_low M5.out.A HWX.out hlx2) (front_low M5.out.Bo HWY.out hly2) hbx).mono ?_
    rintro e w6 ⟨⟨r6, s6, rfl⟩, hb6⟩
    have M6 := Lib.hid (M5.out.call hb6)
    have HX6 := Lib.hid (own_later HX5.out hb6 (Nat.le_refl _)); have HY6 := Lib.hid (own_later HY5.out hb6 (Nat.le_refl _)); have U6 := Lib.hid (U5.out.call hb6)
    clear hb6 y0 y1 yz M5 HX5 HY5 U5
    have y0 := M6.out.I.at_ 0 rfl; have y1 := M6.out.I.at_ 1 rfl; have yz := M6.out.I.lt
    go_wp2_with fail
    refine (back_any _ _ _ xs _ _ _ ys x _ (front_low M6.out.A HWX.out hlx2) (front_low M6.out.Bo HWY.out hly2) hbx).mono ?_
    rintro e w7 ⟨⟨r7, s7, rfl⟩, hb7⟩
    have M7 := Lib.hid (M6.out.call hb7)
    have HX7 := Lib.hid (own_later HX6.out hb7 (Nat.le_refl _)); have HY7 := Lib.hid (own_later HY6.out hb7 (Nat.le_refl _)); have U7 := Lib.hid (U6.out.call hb7)
    clear hb7 y0 y1 yz M6 HX6 HY6 U6
    have y0 := M7.out.I.at_ 0 rfl; have y1 := M7.out.I.at_ 1 rfl; have yz := M7.out.I.lt
    have t0 := M7.out.T.at_ 0 rfl; have t1 := M7.out.T.at_ 1 rfl; have tz := M7.out.T.lt
    go_wp2_with fail
    refine (stays_i32 xs gA _ 77 _ (front_ints M7.out.A hlx2) (HX.out.later M7.out.b (Nat.le_refl _)) hlx2 (front_spare M7.out.A).1 (front_spare M7.out.A).2).mono ?_
    rintro e w8 ⟨rfl, m8, rfl⟩
    go_wp2_with fail
    refine (stays_i32 ys gB _ 77 _ (by exact front_ints M7.out.Bo hly2) (by have h := HY.out.later M7.out.b (Nat.le_refl _); exact h) hly2 (by exact (front_spare M7.out.Bo).1) (by exact (front_spare M7.out.Bo).2)).mono ?_
    rintro e w9 ⟨rfl, m9, rfl⟩
    have hd9 : Below w7.heap.size w7 ((w7.drewN m8).drewN m9) := below_drewN (below_drewN (Below.refl _ _) m8) m9
    have M9 := Lib.hid (M7.out.call hd9)
    have HX9 := Lib.hid (own_later HX7.out hd9 (Nat.le_refl _)); have HY9 := Lib.hid (own_later HY7.out hd9 (Nat.le_refl _)); have U9 := Lib.hid (U7.out.call hd9)
    clear hd9 y0 y1 yz t0 t1 tz M7 HX7 HY7 U7
    generalize (w7.drewN m8).drewN m9 = w10 at *
    go_upto_region 10 with (fail)
    have u0 := U9.out.at_ 0 rfl; have u1 := U9.out.at_ 1 rfl; have uz := U9.out.lt
    have D9 : Hid (Below w10.heap.size w10 w10.drew) := (Below.refl _ _).drew
    have UD := Lib.hid (CellsAt.drew U9.out); have XD := Lib.hid (own_later HX9.out D9.out (Nat.le_refl _)); have YD := Lib.hid (own_later HY9.out D9.out (Nat.le_refl _)); have MD9 := Lib.hid (M9.out.call D9.out)
    have e0 := UD.out.at_ 0 rfl; have e1 := UD.out.at_ 1 rfl
    have tokA := True.intro
    have hz1 : zx.length * 4 ≤ 140737488351232 := by omega
    have hz2 : zy.length * 4 ≤ 140737488351232 := by omega
    go_region_held3 (fun w' => w'.cell? ⟨w4.heap.size, 0, none⟩ = some (.slice ox mx kx) ∧ w'.cell? ⟨w4.heap.size, 1, none⟩ = some (.slice oy my ky)) (first | with_reducible exact ⟨x0, x1⟩ | with_reducible exact ⟨e0, e1⟩ | with_reducible exact ⟨u0, u1⟩ | go_keep) (first
      | (have tk := tokA; clear tk tokA; have tokB := True.intro
         go_at_call 17
         refine (clone_i32 zx _ _ (own_ints' (by with_reducible exact XD.out)) hz1).mono ?_
         rintro eA wA ⟨vA, rfl, hoA, hbA⟩
         have UA := UD.out.call hbA
         have XA := own_later XD.out hbA (Nat.le_refl _); have YA := own_later YD.out hbA (Nat.le_refl _)
         have MA := MD9.out.call hbA
         have zA := hbA.size
         have x0 := UA.at_ 0 rfl; have x1 := UA.at_ 1 rfl; have xz := UA.lt
         clear hbA)
      | (have tk := tokB; clear tk tokB
         go_at_call 17
         refine (clone_i32 zy _ _ (own_ints' (by with_reducible exact YA)) hz2).mono ?_
         rintro eB wB ⟨vB, rfl, hoB, hbB⟩
         have UB := UA.call hbB
         have XB := own_later XA hbB (Nat.le_refl _); have YB := own_later YA hbB (Nat.le_refl _); have oAB := own_later hoA hbB (Nat.le_refl _)
         have MB := MA.call hbB
         have zB := hbB.size
         have x0 := UB.at_ 0 rfl; have x1 := UB.at_ 1 rfl; have xz := UB.lt
         clear hbB))
    have zD : w10.drew.heap.size = w10.heap.size := rfl
    have kA := (own_blk MB.A).1; have kB := (own_blk MB.Bo).1
    have FN : Hid (Fin wB w p w4.heap.size wc.heap.size w10.heap.size gA gB (.slice ox mx kx) (.slice oy my ky) vA vB xs ys zx zy) :=
      ⟨MB.I, UB, XB, YB, oAB, own_monoA hoB (by omega), MB.b, MB.ap, MB.bp, by omega, by omega, hpB, hgA.2, hgB.2, z4, by omega, uz, FX.out, FY.out, HNE.out⟩
    have HAB := Lib.hid MB.ab
    have KA := Lib.hid kA; have KB := Lib.hid kB
    have y0 := FN.out.I.at_ 0 rfl; have y1 := FN.out.I.at_ 1 rfl; have yz := FN.out.I.lt
    clear hoA hoB UA XA YA MA UB XB YB oAB MB kA kB x0 x1 xz e0 e1 u0 u1 uz UD XD YD MD9 M9 HX9 HY9 U9 D9 zA zB zD HNE FX FY
    go_wp2_with fail
    refine (spoil_i32 gA xs.length (xs.length + 3) 5 _ KA.out (by omega) (by omega)).mono ?_
    rintro e w11 ⟨rfl, hg11⟩
    have FN1 := Lib.hid (FN.out.spoil hg11 (.inl rfl))
    have KB1 := Lib.hid (blk_off KB.out hg11 (fun e => by injection e with e; exact HAB.out e))
    clear hg11 FN KA KB y0 y1 yz
    have y0 := FN1.out.I.at_ 0 rfl; have y1 := FN1.out.I.at_ 1 rfl; have yz := FN1.out.I.lt
    go_wp2_with fail
    refine (spoil_i32 gB ys.length (ys.length + 3) 5 _ KB1.out (by omega) (by omega)).mono ?_
    rintro e w12 ⟨rfl, hg12⟩
    have FN2 := Lib.hid (FN1.out.spoil hg12 (.inr rfl))
    clear hg12 FN1 KB1 y0 y1 yz
    have u0 := FN2.out.U.at_ 0 rfl; have u1 := FN2.out.U.at_ 1 rfl; have uz := FN2.out.U.lt
    have I1 := Lib.hid (own_ints' FN2.out.X); have I2 := Lib.hid (own_ints' FN2.out.CX); have I3 := Lib.hid (own_ints' FN2.out.Y); have I4 := Lib.hid (own_ints' FN2.out.CY)
    have hl1 : zx.length ≤ 9223372036854775807 := by omega
    have hl2 : zy.length ≤ 9223372036854775807 := by omega
    go_wp2_with fail
    refine (equal_i32 zx zx _ _ _ I1.out I2.out hl1 hl1).mono ?_
    rintro e w13 ⟨m13, rfl, rfl⟩
    rw [show decide (zx = zx) = true from decide_eq_true rfl]
    go_wp2_with fail
    refine (equal_i32 zy zy _ _ _ (by exact I3.out) (by exact I4.out) hl2 hl2).mono ?_
    rintro e w14 ⟨m14, rfl, rfl⟩
    rw [show decide (zy = zy) = true from decide_eq_true rfl]
    have hd14 : w12.grownBy ((w12.drewN m13).drewN m14) none := ⟨rfl, rfl, rfl, Nat.le_refl _, fun k _ _ => rfl⟩
    have BB := Lib.hid (below_drewN (below_drewN FN2.out.b m13) m14)
    have X5 : Hid (OwnI ((w12.drewN m13).drewN m14) wc.heap.size (.slice ox mx kx) zx) := FN2.out.X
    have Y5 : Hid (OwnI ((w12.drewN m13).drewN m14) wc.heap.size (.slice oy my ky) zy) := FN2.out.Y
    have C5 : Hid (OwnI ((w12.drewN m13).drewN m14) w10.heap.size vB zy) := FN2.out.CY
    have U5 : Hid (CellsAt ((w12.drewN m13).drewN m14) w4.heap.size [.slice ox mx kx, .slice oy my ky]) := FN2.out.U
    have FX := Lib.hid FN2.out.fx; have NE := Lib.hid FN2.out.ne
    have g1 := FN2.out.h2; have g2 := FN2.out.h4; have g3 := FN2.out.hA; have g4 := FN2.out.lA
    clear hd14 u0 u1 uz I1 I2 I3 I4 FN2
    generalize (w12.drewN m13).drewN m14 = w15 at *
    have u0 := U5.out.at_ 0 rfl; have u1 := U5.out.at_ 1 rfl; have uz := U5.out.lt
    go_wp2_with fail
    refine (spoil_own 9 _ X5.out).mono ?_
    rintro e w16 ⟨rfl, hg16⟩
    have U6 := Lib.hid (U5.out.grown hg16 (fun e => by have := FX.out _ e; omega))
    have Y6 := Lib.hid (own_ints' (own_grown Y5.out hg16 (fun k e e' => NE.out k e' e)))
    have C6 := Lib.hid (own_ints' (own_grown C5.out hg16 (fun k e e' => by have h1 := FX.out k e'; have h2 := (C5.out.lt k e).1; omega)))
    have B6 := Lib.hid (BB.out.grown hg16 BB.out.size (fun k e => by have := (X5.out.lt k e).1; omega))
    clear hg16 u0 u1 uz U5 Y5 C5 X5 BB
    have u0 := U6.out.at_ 0 rfl; have u1 := U6.out.at_ 1 rfl; have uz := U6.out.lt
    go_wp2_with fail
    refine (equal_i32 zy zy _ _ _ Y6.out C6.out hl2 hl2).mono ?_
    rintro e w17 ⟨m17, rfl, rfl⟩
    rw [show decide (zy = zy) = true from decide_eq_true rfl]
    go_wp2
    go_ret
    exact ⟨rfl, below_drewN B6.out m17⟩
theorem law (ax : Option Addr) (lx cx : Nat) (xs : List Int) (ay : Option Addr) (ly cy : Nat) (ys : List Int) (x : Int) (a2 : Option Addr) (l2 c2 : Nat) (zs : List Int) (w : World) (hx : Open.IsRow .i32 w ax lx cx xs) (hrx : lx ≤ cx ∧ cx * 4 ≤ 140737488351232) (hy : Open.IsRow .i32 w ay ly cy ys) (hry : ly ≤ cy ∧ cy * 4 ≤ 140737488351232) (hbx : -2147483648 ≤ x ∧ x ≤ 2147483647) (hz : Open.IsRow .i32 w a2 l2 c2 zs) :
    Calls Try.prog 4 #[.agg #[.slice ax lx cx, .slice ay ly cy], .int .i32 x, .slice a2 l2 c2] w fun e w' => e = .returned (.bool true) ∧ Below w.heap.size w w' := by
  obtain ⟨h1, e1⟩ := isRow_ints hx
  obtain ⟨h2, e2⟩ := isRow_ints hy
  have hbd : ∀ {a : Option Addr} {len cap n : Nat} {zs : List Int}, Open.IsRow .i32 w a len cap zs → ∀ j, -2147483648 ≤ (zs.take n).getD j 0 ∧ (zs.take n).getD j 0 ≤ 2147483647 := fun {a len cap n zs} h j => by
    by_cases hj : j < (zs.take n).length
    · rw [List.getD_eq_getElem?_getD, List.getElem?_eq_getElem hj]; exact isRow_bd h _ (List.mem_of_mem_take (List.getElem_mem hj))
    · rw [List.getD_eq_getElem?_getD, List.getElem?_eq_none (by omega)]; decide
  have := way ax cx (xs.take lx) ay cy (ys.take ly) x (.slice a2 l2 c2) w (by rw [e1]; exact h1) (by rw [e2]; exact h2) hbx (hbd hx) (hbd hy) (by omega) (by omega)
  rw [e1, e2] at this
  exact this
set_option maxRecDepth 100000 in
theorem lifted (os : Os) (started : os.Started) (H : Type) (enc : TypeId × Value → H) :
    ReturnsInHanded {} Try.checked os 4 .any (Rows.tableOwnSpec.pre6 enc Try.prog Try.f4 Rows.tableOwnRow.domain false) (Rows.tableOwnSpec.post enc Try.prog Try.f4 false true false false) := by
  refine returnsInHanded_of_change_sized (C := Try.checked) own started (by kernel_rfl) Try.func4
    (ChangeSpec.witness6 (enc := enc) (C := Try.checked) false ⟨#[], #[.agg #[.slice none 0 0, .slice none 0 0], .int .i32 0, .slice none 0 0], []⟩ 8 (by kernel_rfl) (by kernel_rfl) (by kernel_rfl) (by kernel_rfl)) ?_
  intro W base args ds gs before hval0 hW hcnd hsz0 _
  have hsz : (DataW.weightsEach Try.prog (Try.f4.params.toList ++ Rows.tableOwnSpec.plain.varTypes Try.prog) (ds ++ gs)).all (· ≤ reachBytes) = true := hsz0
  have hval : ∀ (j : Nat) t v, Try.f4.params[j]? = some t → args[j]? = some v → Value.okWide Try.prog W .any base t v := hval0
  have hW' := hW
  obtain ⟨p, q, hA0, hV, rfl, hfz, hnd⟩ := hW
  have hA : DataW.TrodAll enc Try.prog W 0 (fun _ => true) true Try.f4.params.toList args.toList ds p := hA0
  rw [Try.params4] at hA hval hsz
  obtain ⟨v0, vs0, d0, ds0, p0, q0, hargs, rfl, rfl, h0, r0⟩ := trodAll_cons hA
  obtain ⟨v1, vs1, d1, ds1, p1, q1, rfl, rfl, rfl, h1, r1⟩ := trodAll_cons r0
  obtain ⟨v2, vs2, d2, ds2, p2, q2, rfl, rfl, rfl, h2, r2⟩ := trodAll_cons r1
  obtain ⟨rfl, rfl, rfl⟩ := trodAll_nil r2
  obtain rfl : args = #[v0, v1, v2] := by cases args; simp_all
  obtain ⟨rfl, rfl⟩ := trodVars_none hV
  have k0 := h0
  have lt0 : ∀ x ∈ p0, x.block < W.heap.size := by obtain ⟨m, hm⟩ := k0; exact DataW.trod_lt m _ _ _ hm
  have k1 := h1
  have lt1 : ∀ x ∈ p1, x.block < W.heap.size := by obtain ⟨m, hm⟩ := k1; exact DataW.trod_lt m _ _ _ hm
  have k2 := h2
  have lt2 : ∀ x ∈ p2, x.block < W.heap.size := by obtain ⟨m, hm⟩ := k2; exact DataW.trod_lt m _ _ _ hm
  obtain ⟨cs0, rfl, lf0_0⟩ := open_flatS 12 [22, 22] (by kernel_rfl) (by kernel_rfl) (by kernel_rfl) (hval 0 24 v0 rfl rfl) h0 (weights_of hsz (j := 0) (t := 24) rfl rfl)
  obtain ⟨c0_0, r0_0, rfl, y0_0, yw0_0, lf0_1⟩ := leafsS_cons lf0_0
  obtain ⟨a0_0, len0_0, cap0_0, z0_0, rfl, w0_0⟩ := leaf_ints Try.underlying22 Try.underlying21 (by kernel_rfl) y0_0
  have Q0_0 := cap_leS (B := 4) Try.underlying22 (by kernel_rfl) yw0_0
  obtain ⟨c0_1, r0_1, rfl, y0_1, yw0_1, lf0_2⟩ := leafsS_cons lf0_1
  obtain ⟨a0_1, len0_1, cap0_1, z0_1, rfl, w0_1⟩ := leaf_ints Try.underlying22 Try.underlying21 (by kernel_rfl) y0_1
  have Q0_1 := cap_leS (B := 4) Try.underlying22 (by kernel_rfl) yw0_1
  obtain rfl := leafsS_nil lf0_2
  obtain ⟨a1, rfl, rfl, rfl, w1⟩ := open_int Try.underlying21 (hval 1 21 v1 rfl rfl) h1
  obtain ⟨sa2, sl2, sc2, rfl⟩ := okWide_slice Try.underlying22 (hval 2 22 v2 rfl rfl)
  obtain ⟨a2, len2, cap2, z2, e2, w2⟩ := leaf_ints (Try.underlying22) (Try.underlying21) (by kernel_rfl) (by obtain ⟨fuel, hf⟩ := h2; exact ⟨fuel, _, by simpa [Value.cells] using hf⟩)
  simp only [Value.slice.injEq] at e2
  obtain ⟨rfl, rfl, rfl⟩ := e2
  clear hA0 hval0
  refine (law a0_0 len0_0 cap0_0 z0_0 a0_1 len0_1 cap0_1 z0_1 a1 sa2 sl2 sc2 z2 W w0_0 Q0_0 w0_1 Q0_1 (bounds_i32 w1) w2).mono fun e W' ⟨he, bel⟩ => ?_
  subst he
  exact ⟨_, rfl, _, _, _, [], _, [], hW', trodAll_mk1 (shut_bool Try.underlying4 _), (trodAll_cons_mk (Below.trod laidOut (by kernel_rfl) (of_decide_eq_true (by kernel_rfl)) k0 bel lt0) (trodAll_cons_mk (Below.trod laidOut (by kernel_rfl) (of_decide_eq_true (by kernel_rfl)) k1 bel lt1) (trodAll_cons_mk (Below.trod laidOut (by kernel_rfl) (of_decide_eq_true (by kernel_rfl)) k2 bel lt2) trodAll_mk0))), rfl, bel.frame _, fun h => by cases h⟩
theorem over : Rows.tableOwnRow.holds Try.pinned (OpenSpec.ofChange Rows.tableOwnSpec) :=
  OpenClaim.holds_of_wide 4 Try.f4 rfl rfl rfl rfl rfl rfl rfl ⟨rfl, rfl, rfl, rfl, rfl⟩ rfl rfl rfl rfl rfl (by kernel_rfl) Try.func4 (by kernel_rfl)
    (of_decide_eq_true (by kernel_rfl)) (by unfold Func.isWrapper; first | (rw [if_pos (by decide +kernel)]; kernel_rfl) | (rw [if_neg (by decide +kernel)]; exact ⟨rfl, rfl⟩))
    (fun os started H enc _ => lifted os started H enc)
theorem proved : Rows.TableOwnSaid := over
#print axioms proved

end Go.Proofs.Ytglagndpholejaa.tableOwn
