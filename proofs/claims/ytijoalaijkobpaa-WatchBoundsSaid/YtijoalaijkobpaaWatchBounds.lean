/- WatchBounds: whatever the bounds and the lane are, the law answers true and leaves memory as it was. -/
import Derived.Test.YtijoalaijkobpaaWatchThree
import Derived.RegionTactic
import Derived.Deep.RegionHeld3
import Derived.Deep.DeepCutAuto
namespace Go.Proofs.Ytijoalaijkobpaa.watchBounds
open Go.ChangeShapes Go.WideShapes Go.ChangeAt Go.RowKit Go.Proofs.Ytijoalaijkobpaa Go.Proofs.Ytijoalaijkobpaa.Open
set_option linter.unusedVariables false
set_option linter.unusedSimpArgs false
/-- a watch lies in a block -/
def WatchAt (w : World) (b : Nat) (M : Nat → Int) (up down most : Int) : Prop :=
  (∀ j, j < 5 → w.cell? ⟨b, j, none⟩ = some (.int .i32 (M j))) ∧ w.cell? ⟨b, 5, none⟩ = some (.int .i64 up) ∧ w.cell? ⟨b, 6, none⟩ = some (.int .i64 down) ∧ w.cell? ⟨b, 7, none⟩ = some (.int .i64 most) ∧ (∀ o, w.frozen? ⟨b, o, none⟩ = false)
theorem WatchAt.lt {w : World} {b : Nat} {M : Nat → Int} {up down most : Int} (h : WatchAt w b M up down most) : b < w.heap.size := by
  have := World.block_lt_of_cell? _ _ h.2.1
  simpa using this
theorem WatchAt.later {w w' : World} {b B : Nat} {M : Nat → Int} {up down most : Int} (h : WatchAt w b M up down most) (hB : Below B w w') (hb : b < B) : WatchAt w' b M up down most :=
  ⟨fun j hj => (hB.cell hb).trans (h.1 j hj), (hB.cell hb).trans h.2.1, (hB.cell hb).trans h.2.2.1, (hB.cell hb).trans h.2.2.2.1, fun o => (hB.frozen hb).trans (h.2.2.2.2 o)⟩
theorem WatchAt.other {w : World} {b c o : Nat} {M : Nat → Int} {up down most : Int} (h : WatchAt w b M up down most) (hne : c ≠ b) (u : Value) : WatchAt (w.setCell ⟨c, o, none⟩ u) b M up down most := by
  have ne : ∀ {x : Nat}, (⟨c, o, none⟩ : Addr) ≠ ⟨b, x, none⟩ := fun e => hne (congrArg Addr.block e)
  obtain ⟨h0, h1, h2, h3, h4⟩ := h
  exact ⟨fun j hj => (World.cell?_setCell_other _ _ _ _ ne).trans (h0 j hj), (World.cell?_setCell_other _ _ _ _ ne).trans h1, (World.cell?_setCell_other _ _ _ _ ne).trans h2, (World.cell?_setCell_other _ _ _ _ ne).trans h3, fun x => by rw [World.frozen?_setCell]; exact h4 x⟩
/-- the greater bound, for the first k -/
def grI (M N : Nat → Int) (k : Nat) : Nat → Int := fun j => if j < k then max (M j) (N j) else M j
theorem WatchAt.grow {w : World} {b : Nat} {M N : Nat → Int} {k : Nat} {up down most : Int} (h : WatchAt w b (grI M N k) up down most) (hk : k < 5) (u : Int) (hu : max (M k) (N k) = u) : WatchAt (w.setCell ⟨b, k, none⟩ (.int .i32 u)) b (grI M N (k + 1)) up down most := by
  have ne : ∀ {x y : Nat}, x ≠ y → (⟨b, x, none⟩ : Addr) ≠ ⟨b, y, none⟩ := fun hxy e => hxy (congrArg Addr.off e)
  obtain ⟨h0, h1, h2, h3, h4⟩ := h
  refine ⟨fun j hj => ?_, (World.cell?_setCell_other _ _ _ _ (ne (by omega))).trans h1, (World.cell?_setCell_other _ _ _ _ (ne (by omega))).trans h2, (World.cell?_setCell_other _ _ _ _ (ne (by omega))).trans h3, fun x => by rw [World.frozen?_setCell]; exact h4 x⟩
  by_cases e : j = k
  · subst e
    rw [show grI M N (j + 1) j = u by unfold grI; rw [if_pos (by omega)]; exact hu]
    exact World.cell?_setCell_same _ _ _ (h0 j hj)
  · rw [World.cell?_setCell_other _ _ _ _ (ne (fun e2 => e e2.symm)), h0 j hj]
    congr 2
    unfold grI
    by_cases h5 : j < k
    · rw [if_pos h5, if_pos (by omega)]
    · rw [if_neg h5, if_neg (by omega)]
def LaneAt (w : World) (b : Nat) (a b' p m t f : Int) (v : Bool) : Prop :=
  w.cell? ⟨b, 0, none⟩ = some (.int .i32 a) ∧ w.cell? ⟨b, 1, none⟩ = some (.int .i32 b') ∧ w.cell? ⟨b, 2, none⟩ = some (.int .i32 p) ∧ w.cell? ⟨b, 3, none⟩ = some (.int .i32 m) ∧ w.cell? ⟨b, 4, none⟩ = some (.int .i32 t) ∧ w.cell? ⟨b, 5, none⟩ = some (.int .i32 f) ∧ w.cell? ⟨b, 6, none⟩ = some (.bool v)
theorem LaneAt.lt {w : World} {b : Nat} {a b' p m t f : Int} {v : Bool} (h : LaneAt w b a b' p m t f v) : b < w.heap.size := by
  have := World.block_lt_of_cell? _ _ h.1
  simpa using this
theorem LaneAt.later {w w' : World} {b B : Nat} {a b' p m t f : Int} {v : Bool} (h : LaneAt w b a b' p m t f v) (hB : Below B w w') (hb : b < B) : LaneAt w' b a b' p m t f v := by
  obtain ⟨h0, h1, h2, h3, h4, h5, h6⟩ := h
  exact ⟨(hB.cell hb).trans h0, (hB.cell hb).trans h1, (hB.cell hb).trans h2, (hB.cell hb).trans h3, (hB.cell hb).trans h4, (hB.cell hb).trans h5, (hB.cell hb).trans h6⟩
theorem LaneAt.other {w : World} {b c o : Nat} {a b' p m t f : Int} {v : Bool} (h : LaneAt w b a b' p m t f v) (hne : c ≠ b) (u : Value) : LaneAt (w.setCell ⟨c, o, none⟩ u) b a b' p m t f v := by
  have ne : ∀ {x : Nat}, (⟨c, o, none⟩ : Addr) ≠ ⟨b, x, none⟩ := fun e => hne (congrArg Addr.block e)
  obtain ⟨h0, h1, h2, h3, h4, h5, h6⟩ := h
  exact ⟨(World.cell?_setCell_other _ _ _ _ ne).trans h0, (World.cell?_setCell_other _ _ _ _ ne).trans h1, (World.cell?_setCell_other _ _ _ _ ne).trans h2, (World.cell?_setCell_other _ _ _ _ ne).trans h3, (World.cell?_setCell_other _ _ _ _ ne).trans h4, (World.cell?_setCell_other _ _ _ _ ne).trans h5, (World.cell?_setCell_other _ _ _ _ ne).trans h6⟩
def AllAt (w : World) (b bu : Nat) (M N U : Nat → Int) (up down most up' down' most' a b' p m t f : Int) (v : Bool) : Prop :=
  WatchAt w b M up down most ∧ WatchAt w (b + 1) N up' down' most' ∧ LaneAt w (b + 1 + 1) a b' p m t f v ∧ WatchAt w bu U up down most
def selA {α : Type} (a b c d e : α) : Nat → α := fun j => match j with | 0 => a | 1 => b | 2 => c | 3 => d | _ => e
def GrowRel (w : World) (bu : Nat) (M N : Nat → Int) (up down most up' down' most' a b' p m t f : Int) (v : Bool) (i : Value) (wr : World) : Prop :=
  ∃ k : Nat, k ≤ 5 ∧ i = .int .i64 k ∧ AllAt wr w.heap.size bu M N (grI M N k) up down most up' down' most' a b' p m t f v ∧ Below w.heap.size w wr
abbrev Held (m0 m1 m2 m3 m4 up down most n0 n1 n2 n3 n4 up' down' most' a b p m t f : Int) (v : Bool) (u0 u1 u2 u3 u4 : Int) (b0 bu : Nat) (W : World) : Prop :=
  W.cell? ⟨b0, 0, none⟩ = some (.int .i32 m0) ∧ W.cell? ⟨b0, 1, none⟩ = some (.int .i32 m1) ∧ W.cell? ⟨b0, 2, none⟩ = some (.int .i32 m2) ∧ W.cell? ⟨b0, 3, none⟩ = some (.int .i32 m3) ∧ W.cell? ⟨b0, 4, none⟩ = some (.int .i32 m4) ∧ W.cell? ⟨b0, 5, none⟩ = some (.int .i64 up) ∧ W.cell? ⟨b0, 6, none⟩ = some (.int .i64 down) ∧ W.cell? ⟨b0, 7, none⟩ = some (.int .i64 most) ∧ W.cell? ⟨b0 + 1, 0, none⟩ = some (.int .i32 n0) ∧ W.cell? ⟨b0 + 1, 1, none⟩ = some (.int .i32 n1) ∧ W.cell? ⟨b0 + 1, 2, none⟩ = some (.int .i32 n2) ∧ W.cell? ⟨b0 + 1, 3, none⟩ = some (.int .i32 n3) ∧ W.cell? ⟨b0 + 1, 4, none⟩ = some (.int .i32 n4) ∧ W.cell? ⟨b0 + 1, 5, none⟩ = some (.int .i64 up') ∧ W.cell? ⟨b0 + 1, 6, none⟩ = some (.int .i64 down') ∧ W.cell? ⟨b0 + 1, 7, none⟩ = some (.int .i64 most') ∧ W.cell? ⟨b0 + 1 + 1, 0, none⟩ = some (.int .i32 a) ∧ W.cell? ⟨b0 + 1 + 1, 1, none⟩ = some (.int .i32 b) ∧ W.cell? ⟨b0 + 1 + 1, 2, none⟩ = some (.int .i32 p) ∧ W.cell? ⟨b0 + 1 + 1, 3, none⟩ = some (.int .i32 m) ∧ W.cell? ⟨b0 + 1 + 1, 4, none⟩ = some (.int .i32 t) ∧ W.cell? ⟨b0 + 1 + 1, 5, none⟩ = some (.int .i32 f) ∧ W.cell? ⟨b0 + 1 + 1, 6, none⟩ = some (.bool v) ∧ W.cell? ⟨bu, 0, none⟩ = some (.int .i32 u0) ∧ W.cell? ⟨bu, 1, none⟩ = some (.int .i32 u1) ∧ W.cell? ⟨bu, 2, none⟩ = some (.int .i32 u2) ∧ W.cell? ⟨bu, 3, none⟩ = some (.int .i32 u3) ∧ W.cell? ⟨bu, 4, none⟩ = some (.int .i32 u4) ∧ W.cell? ⟨bu, 5, none⟩ = some (.int .i64 up) ∧ W.cell? ⟨bu, 6, none⟩ = some (.int .i64 down) ∧ W.cell? ⟨bu, 7, none⟩ = some (.int .i64 most)
theorem held_map {m0 m1 m2 m3 m4 up down most n0 n1 n2 n3 n4 up' down' most' a b p m t f : Int} {v : Bool} {u0 u1 u2 u3 u4 : Int} {b0 bu : Nat} {W W' : World} (h : Held m0 m1 m2 m3 m4 up down most n0 n1 n2 n3 n4 up' down' most' a b p m t f v u0 u1 u2 u3 u4 b0 bu W) (hk : ∀ (c o : Nat) (x : Value), (c = b0 ∨ c = b0 + 1 ∨ c = b0 + 1 + 1 ∨ c = bu) → W.cell? ⟨c, o, none⟩ = some x → W'.cell? ⟨c, o, none⟩ = some x) : Held m0 m1 m2 m3 m4 up down most n0 n1 n2 n3 n4 up' down' most' a b p m t f v u0 u1 u2 u3 u4 b0 bu W' := by
  obtain ⟨h0, h1, h2, h3, h4, h5, h6, h7, h8, h9, h10, h11, h12, h13, h14, h15, h16, h17, h18, h19, h20, h21, h22, h23, h24, h25, h26, h27, h28, h29, h30⟩ := h
  exact ⟨hk _ _ _ (.inl rfl) h0, hk _ _ _ (.inl rfl) h1, hk _ _ _ (.inl rfl) h2, hk _ _ _ (.inl rfl) h3, hk _ _ _ (.inl rfl) h4, hk _ _ _ (.inl rfl) h5, hk _ _ _ (.inl rfl) h6, hk _ _ _ (.inl rfl) h7, hk _ _ _ (.inr (.inl rfl)) h8, hk _ _ _ (.inr (.inl rfl)) h9, hk _ _ _ (.inr (.inl rfl)) h10, hk _ _ _ (.inr (.inl rfl)) h11, hk _ _ _ (.inr (.inl rfl)) h12, hk _ _ _ (.inr (.inl rfl)) h13, hk _ _ _ (.inr (.inl rfl)) h14, hk _ _ _ (.inr (.inl rfl)) h15, hk _ _ _ (.inr (.inr (.inl rfl))) h16, hk _ _ _ (.inr (.inr (.inl rfl))) h17, hk _ _ _ (.inr (.inr (.inl rfl))) h18, hk _ _ _ (.inr (.inr (.inl rfl))) h19, hk _ _ _ (.inr (.inr (.inl rfl))) h20, hk _ _ _ (.inr (.inr (.inl rfl))) h21, hk _ _ _ (.inr (.inr (.inl rfl))) h22, hk _ _ _ (.inr (.inr (.inr rfl))) h23, hk _ _ _ (.inr (.inr (.inr rfl))) h24, hk _ _ _ (.inr (.inr (.inr rfl))) h25, hk _ _ _ (.inr (.inr (.inr rfl))) h26, hk _ _ _ (.inr (.inr (.inr rfl))) h27, hk _ _ _ (.inr (.inr (.inr rfl))) h28, hk _ _ _ (.inr (.inr (.inr rfl))) h29, hk _ _ _ (.inr (.inr (.inr rfl))) h30⟩
theorem held_alloc {m0 m1 m2 m3 m4 up down most n0 n1 n2 n3 n4 up' down' most' a b p m t f : Int} {v : Bool} {u0 u1 u2 u3 u4 : Int} {b0 bu : Nat} {W : World} (h : Held m0 m1 m2 m3 m4 up down most n0 n1 n2 n3 n4 up' down' most' a b p m t f v u0 u1 u2 u3 u4 b0 bu W) (o : Obj) : Held m0 m1 m2 m3 m4 up down most n0 n1 n2 n3 n4 up' down' most' a b p m t f v u0 u1 u2 u3 u4 b0 bu (W.alloc o) :=
  held_map h fun c k x _ hx => (((Below.refl W.heap.size W).alloc (Nat.le_refl _) o).cell (p := ⟨c, k, none⟩) (by simpa using World.block_lt_of_cell? _ _ hx)).trans hx
theorem held_later {m0 m1 m2 m3 m4 up down most n0 n1 n2 n3 n4 up' down' most' a b p m t f : Int} {v : Bool} {u0 u1 u2 u3 u4 : Int} {b0 bu : Nat} {W W' : World} (h : Held m0 m1 m2 m3 m4 up down most n0 n1 n2 n3 n4 up' down' most' a b p m t f v u0 u1 u2 u3 u4 b0 bu W) (hb : Below W.heap.size W W') : Held m0 m1 m2 m3 m4 up down most n0 n1 n2 n3 n4 up' down' most' a b p m t f v u0 u1 u2 u3 u4 b0 bu W' :=
  held_map h fun c k x _ hx => (hb.cell (p := ⟨c, k, none⟩) (by simpa using World.block_lt_of_cell? _ _ hx)).trans hx
theorem held_set {m0 m1 m2 m3 m4 up down most n0 n1 n2 n3 n4 up' down' most' a b p m t f : Int} {v : Bool} {u0 u1 u2 u3 u4 : Int} {b0 bu q : Nat} {W : World} (h : Held m0 m1 m2 m3 m4 up down most n0 n1 n2 n3 n4 up' down' most' a b p m t f v u0 u1 u2 u3 u4 b0 bu W) (h0 : q ≠ b0 ∧ q ≠ b0 + 1 ∧ q ≠ b0 + 1 + 1 ∧ q ≠ bu) (r0 r1 r2 r3 r4 : Value) : Held m0 m1 m2 m3 m4 up down most n0 n1 n2 n3 n4 up' down' most' a b p m t f v u0 u1 u2 u3 u4 b0 bu (((((W.setCell ⟨q, 0, none⟩ r0).setCell ⟨q, 1, none⟩ r1).setCell ⟨q, 2, none⟩ r2).setCell ⟨q, 3, none⟩ r3).setCell ⟨q, 4, none⟩ r4) :=
  held_map h fun c k x hc hx => by
    have nb : ∀ (y : Nat), (⟨q, y, none⟩ : Addr) ≠ ⟨c, k, none⟩ := fun y e => by
      have : q = c := congrArg Addr.block e
      omega
    rw [World.cell?_setCell_other _ _ _ _ (nb _), World.cell?_setCell_other _ _ _ _ (nb _), World.cell?_setCell_other _ _ _ _ (nb _), World.cell?_setCell_other _ _ _ _ (nb _), World.cell?_setCell_other _ _ _ _ (nb _)]
    exact hx
theorem off_max (a b m n : Int) : offB a b (max m n) = (offB a b m && offB a b n) := by
  unfold offB
  by_cases h : m ≤ n
  · rw [show max m n = n by omega]
    by_cases h1 : n < a - b
    · simp [h1, show m < a - b by omega]
    · by_cases h2 : n < b - a
      · simp [h2, show m < b - a by omega]
      · simp [h1, h2]
  · rw [show max m n = m by omega]
    by_cases h1 : m < a - b
    · simp [h1, show n < a - b by omega]
    · by_cases h2 : m < b - a
      · simp [h2, show n < b - a by omega]
      · simp [h1, h2]
theorem force_max (f m n : Int) : forceB f (max m n) = (forceB f m && forceB f n) := by
  unfold forceB
  generalize sat32 (absI f) = g
  by_cases h1 : m < g <;> by_cases h2 : n < g <;> simp [h1, h2] <;> omega
set_option maxHeartbeats 8000000 in
set_option maxRecDepth 100000 in
theorem law (m0 m1 m2 m3 m4 up down most n0 n1 n2 n3 n4 up' down' most' a b p m t f : Int) (v : Bool) (w : World) (hm0 : -2147483648 ≤ m0 ∧ m0 ≤ 2147483647) (hm1 : -2147483648 ≤ m1 ∧ m1 ≤ 2147483647) (hm2 : -2147483648 ≤ m2 ∧ m2 ≤ 2147483647) (hm3 : -2147483648 ≤ m3 ∧ m3 ≤ 2147483647) (hm4 : -2147483648 ≤ m4 ∧ m4 ≤ 2147483647) (hup : -9223372036854775808 ≤ up ∧ up ≤ 9223372036854775807) (hdown : -9223372036854775808 ≤ down ∧ down ≤ 9223372036854775807) (hmost : -9223372036854775808 ≤ most ∧ most ≤ 9223372036854775807) (hn0 : -2147483648 ≤ n0 ∧ n0 ≤ 2147483647) (hn1 : -2147483648 ≤ n1 ∧ n1 ≤ 2147483647) (hn2 : -2147483648 ≤ n2 ∧ n2 ≤ 2147483647) (hn3 : -2147483648 ≤ n3 ∧ n3 ≤ 2147483647) (hn4 : -2147483648 ≤ n4 ∧ n4 ≤ 2147483647) (hup' : -9223372036854775808 ≤ up' ∧ up' ≤ 9223372036854775807) (hdown' : -9223372036854775808 ≤ down' ∧ down' ≤ 9223372036854775807) (hmost' : -9223372036854775808 ≤ most' ∧ most' ≤ 9223372036854775807) (ha : -2147483648 ≤ a ∧ a ≤ 2147483647) (hb : -2147483648 ≤ b ∧ b ≤ 2147483647) (hp : -2147483648 ≤ p ∧ p ≤ 2147483647) (hm : -2147483648 ≤ m ∧ m ≤ 2147483647) (ht : -2147483648 ≤ t ∧ t ≤ 2147483647) (hf : -2147483648 ≤ f ∧ f ≤ 2147483647) :
    Calls Try.prog 4 #[watchV m0 m1 m2 m3 m4 up down most, watchV n0 n1 n2 n3 n4 up' down' most', laneV a b p m t f v] w fun e w' => e = .returned (.bool true) ∧ Below w.heap.size w w' := by
  have eq0 : ∀ w : World, (Op.equalIn 10000 41 (.agg #[.bool false, .bool false, .bool false, .bool true, .bool true]) (.agg #[.bool false, .bool false, .bool false, .bool true, .bool true])).run Try.prog w = .ok true w := fun _ => by kernel_rfl
  go_enter Try.func4, Try.ntmps4
  go_wp2_with fail
  refine (look_is 0 0 0 0 0 0 0 0 0 0 0 0 0 (-1) false false false false true true _ (by decide) (by decide) (by decide) (by decide) (by decide) (by decide) (by decide) (by decide) (by decide) (by decide) (by decide) rfl rfl rfl (by decide) rfl).mono ?_
  rintro e1 w1 ⟨rfl, hb1⟩
  have hz1 := hb1.size
  simp at hz1
  have A0 : WatchAt w1 w.heap.size (selA m0 m1 m2 m3 m4) up down most := ⟨fun j hj => (by rcases (by omega : j = 0 ∨ j = 1 ∨ j = 2 ∨ j = 3 ∨ j = 4) with rfl | rfl | rfl | rfl | rfl <;> exact cell_later hb1 (by go_simp; rfl)), cell_later hb1 (by go_simp), cell_later hb1 (by go_simp), cell_later hb1 (by go_simp), fun o => by rw [hb1.frozen (by first | (simp; done) | omega | (simp; omega))]; go_simp⟩
  have A1 : WatchAt w1 (w.heap.size + 1) (selA n0 n1 n2 n3 n4) up' down' most' := ⟨fun j hj => (by rcases (by omega : j = 0 ∨ j = 1 ∨ j = 2 ∨ j = 3 ∨ j = 4) with rfl | rfl | rfl | rfl | rfl <;> exact cell_later hb1 (by go_simp; rfl)), cell_later hb1 (by go_simp), cell_later hb1 (by go_simp), cell_later hb1 (by go_simp), fun o => by rw [hb1.frozen (by first | (simp; done) | omega | (simp; omega))]; go_simp⟩
  have A2 : LaneAt w1 (w.heap.size + 1 + 1) a b p m t f v := ⟨cell_later hb1 (by go_simp), cell_later hb1 (by go_simp), cell_later hb1 (by go_simp), cell_later hb1 (by go_simp), cell_later hb1 (by go_simp), cell_later hb1 (by go_simp), cell_later hb1 (by go_simp)⟩
  have B1 : Below w.heap.size w w1 := by repeat (first | with_reducible exact Below.refl _ _ | ((with_reducible refine Below.setCell ?_ ?_ _); rotate_left; (· first | (simp; done) | omega | (simp; omega))) | with_reducible refine below_drewN ?_ _ | with_reducible refine Below.drew ?_ | ((with_reducible refine Below.trans ?_ (Below.mono hb1 ?_)); rotate_left; (· first | (simp; done) | omega | (simp; omega))) | ((with_reducible refine Below.alloc ?_ ?_ _); rotate_left; (· first | (simp; done) | omega | (simp; omega))) | exact Below.refl _ _ | refine Below.setCell ?_ (by first | (simp; done) | omega | (simp; omega)) _ | refine below_drewN ?_ _ | refine Below.drew ?_ | refine Below.trans ?_ (Below.mono hb1 (by first | (simp; done) | omega | (simp; omega))) | refine Below.alloc ?_ (by first | (simp; done) | omega | (simp; omega)) _)
  have HA0 := Lib.hid A0; have HA1 := Lib.hid A1; have HA2 := Lib.hid A2; have HB1 := Lib.hid B1
  obtain ⟨c, c5, c6, c7, cf⟩ := A0
  have c0 := c 0 (by omega); have c1 := c 1 (by omega); have c2 := c 2 (by omega); have c3 := c 3 (by omega); have c4 := c 4 (by omega)
  simp only [selA] at c0 c1 c2 c3 c4
  have s0 : w.heap.size < w1.heap.size := by omega
  have s1 : w.heap.size < w1.heap.size + 1 := by omega
  clear hb1 B1 A1 A2 c
  go_wp2
  have D0 : AllAt (((w1.alloc (.cells #[.bool false, .bool false, .bool false, .bool true, .bool true] 41)).alloc (.cells #[.int .i32 m0, .int .i32 m1, .int .i32 m2, .int .i32 m3, .int .i32 m4, .int .i64 up, .int .i64 down, .int .i64 most] 38))) w.heap.size (w1.heap.size + 1) (selA m0 m1 m2 m3 m4) (selA n0 n1 n2 n3 n4) (grI (selA m0 m1 m2 m3 m4) (selA n0 n1 n2 n3 n4) 0) up down most up' down' most' a b p m t f v := by
    refine ⟨(HA0.out.later ((Below.refl w1.heap.size w1).alloc (Nat.le_refl _) _) HA0.out.lt).later ((Below.refl _ _).alloc (Nat.le_refl _) _) (by simp; omega), (HA1.out.later ((Below.refl w1.heap.size w1).alloc (Nat.le_refl _) _) HA1.out.lt).later ((Below.refl _ _).alloc (Nat.le_refl _) _) (by have := HA1.out.lt; simp; omega), (HA2.out.later ((Below.refl w1.heap.size w1).alloc (Nat.le_refl _) _) HA2.out.lt).later ((Below.refl _ _).alloc (Nat.le_refl _) _) (by have := HA2.out.lt; simp; omega), ⟨fun j hj => ?_, by go_simp, by go_simp, by go_simp, fun o => by go_simp⟩⟩
    rcases (by omega : j = 0 ∨ j = 1 ∨ j = 2 ∨ j = 3 ∨ j = 4) with rfl | rfl | rfl | rfl | rfl <;> (simp only [grI, selA]; go_simp)
  have DB : Below w.heap.size w (((w1.alloc (.cells #[.bool false, .bool false, .bool false, .bool true, .bool true] 41)).alloc (.cells #[.int .i32 m0, .int .i32 m1, .int .i32 m2, .int .i32 m3, .int .i32 m4, .int .i64 up, .int .i64 down, .int .i64 most] 38))) := by have hB := HB1.out; repeat (first | with_reducible exact Below.refl _ _ | with_reducible exact hB | ((with_reducible refine Below.setCell ?_ ?_ _); rotate_left; (· first | (simp; done) | omega | (simp; omega))) | with_reducible refine below_drewN ?_ _ | with_reducible refine Below.drew ?_ | ((with_reducible refine Below.alloc ?_ ?_ _); rotate_left; (· first | (simp; done) | omega | (simp; omega))) | exact Below.refl _ _ | exact hB | refine Below.setCell ?_ (by first | (simp; done) | omega | (simp; omega)) _ | refine below_drewN ?_ _ | refine Below.drew ?_ | refine Below.alloc ?_ (by first | (simp; done) | omega | (simp; omega)) _)
  have HD0 := Lib.hid D0; have HDB := Lib.hid DB
  clear D0 DB c0 c1 c2 c3 c4 c5 c6 c7 cf
  generalize ((w1.alloc (.cells #[.bool false, .bool false, .bool false, .bool true, .bool true] 41)).alloc (.cells #[.int .i32 m0, .int .i32 m1, .int .i32 m2, .int .i32 m3, .int .i32 m4, .int .i64 up, .int .i64 down, .int .i64 most] 38)) = W0 at *
  have zbu : w.heap.size + 1 + 1 < w1.heap.size + 1 := by have := HA2.out.lt; omega
  go_loopw [21] (fun i wr => GrowRel w (w1.heap.size + 1) (selA m0 m1 m2 m3 m4) (selA n0 n1 n2 n3 n4) up down most up' down' most' a b p m t f v i wr) (fun i _ => 5 - (intOf i).toNat)
  case atStart => exact ⟨0, by omega, rfl, HD0.out, HDB.out⟩
  case round =>
    obtain ⟨k, hk, rfl, hA, hB⟩ := hrel
    have HA := Lib.hid hA; have HB := Lib.hid hB
    obtain ⟨hA0, hA1, hA2, hA3⟩ := hA
    have y0 := hA0.lt; have y1 := hA1.lt; have y2 := hA2.lt; have y3 := hA3.lt
    rcases (by omega : k = 0 ∨ k = 1 ∨ k = 2 ∨ k = 3 ∨ k = 4 ∨ k = 5) with rfl | rfl | rfl | rfl | rfl | rfl
    · have e0 := hA0.1 0 (by omega)
      have e1 := hA1.1 0 (by omega)
      have e3 := hA3.1 0 (by omega)
      have ef := hA3.2.2.2.2
      change wr.cell? _ = some (.int .i32 m0) at e0
      change wr.cell? _ = some (.int .i32 n0) at e1
      clear hA0 hA1 hA2 hA3 hB
      have HG : Hid (∀ u, max m0 n0 = u → AllAt (wr.setCell ⟨w1.heap.size + 1, 0, none⟩ (.int .i32 u)) w.heap.size (w1.heap.size + 1) (selA m0 m1 m2 m3 m4) (selA n0 n1 n2 n3 n4) (grI (selA m0 m1 m2 m3 m4) (selA n0 n1 n2 n3 n4) 1) up down most up' down' most' a b p m t f v) := ((fun u hu => ⟨HA.out.1.other (by omega) _, HA.out.2.1.other (by omega) _, HA.out.2.2.1.other (by omega) _, HA.out.2.2.2.grow (by omega) u hu⟩) : ∀ u, max m0 n0 = u → AllAt (wr.setCell ⟨w1.heap.size + 1, 0, none⟩ (.int .i32 u)) w.heap.size (w1.heap.size + 1) (selA m0 m1 m2 m3 m4) (selA n0 n1 n2 n3 n4) (grI (selA m0 m1 m2 m3 m4) (selA n0 n1 n2 n3 n4) 1) up down most up' down' most' a b p m t f v)
      rcases (by omega : m0 < n0 ∨ n0 < m0 ∨ m0 = n0) with g | g | g
      · go_wp2
        go_region
        go_wp2
        go_roundw
        case rel => exact ⟨1, by omega, rfl, HG.out _ (by omega), (HB.out.setCell (show w.heap.size ≤ w1.heap.size + 1 by omega) _).drew⟩
        case measure => simp [intOf]
      · go_wp2
        go_region
        go_wp2
        go_roundw
        case rel => exact ⟨1, by omega, rfl, HG.out _ (by omega), (HB.out.setCell (show w.heap.size ≤ w1.heap.size + 1 by omega) _).drew⟩
        case measure => simp [intOf]
      · have HE := Lib.hid g
        rw [← g] at e1
        clear g
        go_wp2
        go_region
        go_wp2
        go_roundw
        case rel => exact ⟨1, by omega, rfl, HG.out _ (by have := HE.out; omega), (HB.out.setCell (show w.heap.size ≤ w1.heap.size + 1 by omega) _).drew⟩
        case measure => simp [intOf]
    · have e0 := hA0.1 1 (by omega)
      have e1 := hA1.1 1 (by omega)
      have e3 := hA3.1 1 (by omega)
      have ef := hA3.2.2.2.2
      change wr.cell? _ = some (.int .i32 m1) at e0
      change wr.cell? _ = some (.int .i32 n1) at e1
      clear hA0 hA1 hA2 hA3 hB
      have HG : Hid (∀ u, max m1 n1 = u → AllAt (wr.setCell ⟨w1.heap.size + 1, 1, none⟩ (.int .i32 u)) w.heap.size (w1.heap.size + 1) (selA m0 m1 m2 m3 m4) (selA n0 n1 n2 n3 n4) (grI (selA m0 m1 m2 m3 m4) (selA n0 n1 n2 n3 n4) 2) up down most up' down' most' a b p m t f v) := ((fun u hu => ⟨HA.out.1.other (by omega) _, HA.out.2.1.other (by omega) _, HA.out.2.2.1.other (by omega) _, HA.out.2.2.2.grow (by omega) u hu⟩) : ∀ u, max m1 n1 = u → AllAt (wr.setCell ⟨w1.heap.size + 1, 1, none⟩ (.int .i32 u)) w.heap.size (w1.heap.size + 1) (selA m0 m1 m2 m3 m4) (selA n0 n1 n2 n3 n4) (grI (selA m0 m1 m2 m3 m4) (selA n0 n1 n2 n3 n4) 2) up down most up' down' most' a b p m t f v)
      rcases (by omega : m1 < n1 ∨ n1 < m1 ∨ m1 = n1) with g | g | g
      · go_wp2
        go_region
        go_wp2
        go_roundw
        case rel => exact ⟨2, by omega, rfl, HG.out _ (by omega), (HB.out.setCell (show w.heap.size ≤ w1.heap.size + 1 by omega) _).drew⟩
        case measure => simp [intOf]
      · go_wp2
        go_region
        go_wp2
        go_roundw
        case rel => exact ⟨2, by omega, rfl, HG.out _ (by omega), (HB.out.setCell (show w.heap.size ≤ w1.heap.size + 1 by omega) _).drew⟩
        case measure => simp [intOf]
      · have HE := Lib.hid g
        rw [← g] at e1
        clear g
        go_wp2
        go_region
        go_wp2
        go_roundw
        case rel => exact ⟨2, by omega, rfl, HG.out _ (by have := HE.out; omega), (HB.out.setCell (show w.heap.size ≤ w1.heap.size + 1 by omega) _).drew⟩
        case measure => simp [intOf]
    · have e0 := hA0.1 2 (by omega)
      have e1 := hA1.1 2 (by omega)
      have e3 := hA3.1 2 (by omega)
      have ef := hA3.2.2.2.2
      change wr.cell? _ = some (.int .i32 m2) at e0
      change wr.cell? _ = some (.int .i32 n2) at e1
      clear hA0 hA1 hA2 hA3 hB
      have HG : Hid (∀ u, max m2 n2 = u → AllAt (wr.setCell ⟨w1.heap.size + 1, 2, none⟩ (.int .i32 u)) w.heap.size (w1.heap.size + 1) (selA m0 m1 m2 m3 m4) (selA n0 n1 n2 n3 n4) (grI (selA m0 m1 m2 m3 m4) (selA n0 n1 n2 n3 n4) 3) up down most up' down' most' a b p m t f v) := ((fun u hu => ⟨HA.out.1.other (by omega) _, HA.out.2.1.other (by omega) _, HA.out.2.2.1.other (by omega) _, HA.out.2.2.2.grow (by omega) u hu⟩) : ∀ u, max m2 n2 = u → AllAt (wr.setCell ⟨w1.heap.size + 1, 2, none⟩ (.int .i32 u)) w.heap.size (w1.heap.size + 1) (selA m0 m1 m2 m3 m4) (selA n0 n1 n2 n3 n4) (grI (selA m0 m1 m2 m3 m4) (selA n0 n1 n2 n3 n4) 3) up down most up' down' most' a b p m t f v)
      rcases (by omega : m2 < n2 ∨ n2 < m2 ∨ m2 = n2) with g | g | g
      · go_wp2
        go_region
        go_wp2
        go_roundw
        case rel => exact ⟨3, by omega, rfl, HG.out _ (by omega), (HB.out.setCell (show w.heap.size ≤ w1.heap.size + 1 by omega) _).drew⟩
        case measure => simp [intOf]
      · go_wp2
        go_region
        go_wp2
        go_roundw
        case rel => exact ⟨3, by omega, rfl, HG.out _ (by omega), (HB.out.setCell (show w.heap.size ≤ w1.heap.size + 1 by omega) _).drew⟩
        case measure => simp [intOf]
      · have HE := Lib.hid g
        rw [← g] at e1
        clear g
        go_wp2
        go_region
        go_wp2
        go_roundw
        case rel => exact ⟨3, by omega, rfl, HG.out _ (by have := HE.out; omega), (HB.out.setCell (show w.heap.size ≤ w1.heap.size + 1 by omega) _).drew⟩
        case measure => simp [intOf]
    · have e0 := hA0.1 3 (by omega)
      have e1 := hA1.1 3 (by omega)
      have e3 := hA3.1 3 (by omega)
      have ef := hA3.2.2.2.2
      change wr.cell? _ = some (.int .i32 m3) at e0
      change wr.cell? _ = some (.int .i32 n3) at e1
      clear hA0 hA1 hA2 hA3 hB
      have HG : Hid (∀ u, max m3 n3 = u → AllAt (wr.setCell ⟨w1.heap.size + 1, 3, none⟩ (.int .i32 u)) w.heap.size (w1.heap.size + 1) (selA m0 m1 m2 m3 m4) (selA n0 n1 n2 n3 n4) (grI (selA m0 m1 m2 m3 m4) (selA n0 n1 n2 n3 n4) 4) up down most up' down' most' a b p m t f v) := ((fun u hu => ⟨HA.out.1.other (by omega) _, HA.out.2.1.other (by omega) _, HA.out.2.2.1.other (by omega) _, HA.out.2.2.2.grow (by omega) u hu⟩) : ∀ u, max m3 n3 = u → AllAt (wr.setCell ⟨w1.heap.size + 1, 3, none⟩ (.int .i32 u)) w.heap.size (w1.heap.size + 1) (selA m0 m1 m2 m3 m4) (selA n0 n1 n2 n3 n4) (grI (selA m0 m1 m2 m3 m4) (selA n0 n1 n2 n3 n4) 4) up down most up' down' most' a b p m t f v)
      rcases (by omega : m3 < n3 ∨ n3 < m3 ∨ m3 = n3) with g | g | g
      · go_wp2
        go_region
        go_wp2
        go_roundw
        case rel => exact ⟨4, by omega, rfl, HG.out _ (by omega), (HB.out.setCell (show w.heap.size ≤ w1.heap.size + 1 by omega) _).drew⟩
        case measure => simp [intOf]
      · go_wp2
        go_region
        go_wp2
        go_roundw
        case rel => exact ⟨4, by omega, rfl, HG.out _ (by omega), (HB.out.setCell (show w.heap.size ≤ w1.heap.size + 1 by omega) _).drew⟩
        case measure => simp [intOf]
      · have HE := Lib.hid g
        rw [← g] at e1
        clear g
        go_wp2
        go_region
        go_wp2
        go_roundw
        case rel => exact ⟨4, by omega, rfl, HG.out _ (by have := HE.out; omega), (HB.out.setCell (show w.heap.size ≤ w1.heap.size + 1 by omega) _).drew⟩
        case measure => simp [intOf]
    · have e0 := hA0.1 4 (by omega)
      have e1 := hA1.1 4 (by omega)
      have e3 := hA3.1 4 (by omega)
      have ef := hA3.2.2.2.2
      change wr.cell? _ = some (.int .i32 m4) at e0
      change wr.cell? _ = some (.int .i32 n4) at e1
      clear hA0 hA1 hA2 hA3 hB
      have HG : Hid (∀ u, max m4 n4 = u → AllAt (wr.setCell ⟨w1.heap.size + 1, 4, none⟩ (.int .i32 u)) w.heap.size (w1.heap.size + 1) (selA m0 m1 m2 m3 m4) (selA n0 n1 n2 n3 n4) (grI (selA m0 m1 m2 m3 m4) (selA n0 n1 n2 n3 n4) 5) up down most up' down' most' a b p m t f v) := ((fun u hu => ⟨HA.out.1.other (by omega) _, HA.out.2.1.other (by omega) _, HA.out.2.2.1.other (by omega) _, HA.out.2.2.2.grow (by omega) u hu⟩) : ∀ u, max m4 n4 = u → AllAt (wr.setCell ⟨w1.heap.size + 1, 4, none⟩ (.int .i32 u)) w.heap.size (w1.heap.size + 1) (selA m0 m1 m2 m3 m4) (selA n0 n1 n2 n3 n4) (grI (selA m0 m1 m2 m3 m4) (selA n0 n1 n2 n3 n4) 5) up down most up' down' most' a b p m t f v)
      rcases (by omega : m4 < n4 ∨ n4 < m4 ∨ m4 = n4) with g | g | g
      · go_wp2
        go_region
        go_wp2
        go_roundw
        case rel => exact ⟨5, by omega, rfl, HG.out _ (by omega), (HB.out.setCell (show w.heap.size ≤ w1.heap.size + 1 by omega) _).drew⟩
        case measure => simp [intOf]
      · go_wp2
        go_region
        go_wp2
        go_roundw
        case rel => exact ⟨5, by omega, rfl, HG.out _ (by omega), (HB.out.setCell (show w.heap.size ≤ w1.heap.size + 1 by omega) _).drew⟩
        case measure => simp [intOf]
      · have HE := Lib.hid g
        rw [← g] at e1
        clear g
        go_wp2
        go_region
        go_wp2
        go_roundw
        case rel => exact ⟨5, by omega, rfl, HG.out _ (by have := HE.out; omega), (HB.out.setCell (show w.heap.size ≤ w1.heap.size + 1 by omega) _).drew⟩
        case measure => simp [intOf]
    · rw [show ((5 : Nat) : Int) = 5 from rfl]
      obtain ⟨c, c5, c6, c7, -⟩ := hA0
      obtain ⟨d, d5, d6, d7, -⟩ := hA1
      obtain ⟨l0, l1, l2, l3, l4, l5, l6⟩ := hA2
      obtain ⟨g, g5, g6, g7, -⟩ := hA3
      have c0 : wr.cell? ⟨w.heap.size, 0, none⟩ = some (.int .i32 m0) := c 0 (by omega)
      have d0 : wr.cell? ⟨w.heap.size + 1, 0, none⟩ = some (.int .i32 n0) := d 0 (by omega)
      have g0 : wr.cell? ⟨w1.heap.size + 1, 0, none⟩ = some (.int .i32 (max m0 n0)) := g 0 (by omega)
      have c1 : wr.cell? ⟨w.heap.size, 1, none⟩ = some (.int .i32 m1) := c 1 (by omega)
      have d1 : wr.cell? ⟨w.heap.size + 1, 1, none⟩ = some (.int .i32 n1) := d 1 (by omega)
      have g1 : wr.cell? ⟨w1.heap.size + 1, 1, none⟩ = some (.int .i32 (max m1 n1)) := g 1 (by omega)
      have c2 : wr.cell? ⟨w.heap.size, 2, none⟩ = some (.int .i32 m2) := c 2 (by omega)
      have d2 : wr.cell? ⟨w.heap.size + 1, 2, none⟩ = some (.int .i32 n2) := d 2 (by omega)
      have g2 : wr.cell? ⟨w1.heap.size + 1, 2, none⟩ = some (.int .i32 (max m2 n2)) := g 2 (by omega)
      have c3 : wr.cell? ⟨w.heap.size, 3, none⟩ = some (.int .i32 m3) := c 3 (by omega)
      have d3 : wr.cell? ⟨w.heap.size + 1, 3, none⟩ = some (.int .i32 n3) := d 3 (by omega)
      have g3 : wr.cell? ⟨w1.heap.size + 1, 3, none⟩ = some (.int .i32 (max m3 n3)) := g 3 (by omega)
      have c4 : wr.cell? ⟨w.heap.size, 4, none⟩ = some (.int .i32 m4) := c 4 (by omega)
      have d4 : wr.cell? ⟨w.heap.size + 1, 4, none⟩ = some (.int .i32 n4) := d 4 (by omega)
      have g4 : wr.cell? ⟨w1.heap.size + 1, 4, none⟩ = some (.int .i32 (max m4 n4)) := g 4 (by omega)
      clear c d g hB hk
      obtain ⟨u0, hu0⟩ : ∃ u, max m0 n0 = u := ⟨_, rfl⟩
      rw [hu0] at g0
      have ub0 : -2147483648 ≤ u0 ∧ u0 ≤ 2147483647 := by omega
      obtain ⟨u1, hu1⟩ : ∃ u, max m1 n1 = u := ⟨_, rfl⟩
      rw [hu1] at g1
      have ub1 : -2147483648 ≤ u1 ∧ u1 ≤ 2147483647 := by omega
      obtain ⟨u2, hu2⟩ : ∃ u, max m2 n2 = u := ⟨_, rfl⟩
      rw [hu2] at g2
      have ub2 : -2147483648 ≤ u2 ∧ u2 ≤ 2147483647 := by omega
      obtain ⟨u3, hu3⟩ : ∃ u, max m3 n3 = u := ⟨_, rfl⟩
      rw [hu3] at g3
      have ub3 : -2147483648 ≤ u3 ∧ u3 ≤ 2147483647 := by omega
      obtain ⟨u4, hu4⟩ : ∃ u, max m4 n4 = u := ⟨_, rfl⟩
      rw [hu4] at g4
      have ub4 : -2147483648 ≤ u4 ∧ u4 ≤ 2147483647 := by omega
      obtain ⟨x0, hx0⟩ : ∃ r, offB a b m0 = r := ⟨_, rfl⟩
      obtain ⟨x1, hx1⟩ : ∃ r, offB p m m1 = r := ⟨_, rfl⟩
      obtain ⟨x2, hx2⟩ : ∃ r, offB p t m2 = r := ⟨_, rfl⟩
      obtain ⟨x3, hx3⟩ : ∃ r, forceB f m3 = r := ⟨_, rfl⟩
      obtain ⟨x4, hx4⟩ : ∃ r, (!v) = r := ⟨_, rfl⟩
      obtain ⟨y0', hy0⟩ : ∃ r, offB a b n0 = r := ⟨_, rfl⟩
      obtain ⟨y1', hy1⟩ : ∃ r, offB p m n1 = r := ⟨_, rfl⟩
      obtain ⟨y2', hy2⟩ : ∃ r, offB p t n2 = r := ⟨_, rfl⟩
      obtain ⟨y3', hy3⟩ : ∃ r, forceB f n3 = r := ⟨_, rfl⟩
      have hz0 : offB a b u0 = (x0 && y0') := by rw [← hu0, off_max, hx0, hy0]
      have hz1 : offB p m u1 = (x1 && y1') := by rw [← hu1, off_max, hx1, hy1]
      have hz2 : offB p t u2 = (x2 && y2') := by rw [← hu2, off_max, hx2, hy2]
      have hz3 : forceB f u3 = (x3 && y3') := by rw [← hu3, force_max, hx3, hy3]
      have hz4 : (!v) = x4 := hx4
      have LA := fun (w : World) => look_is m0 m1 m2 m3 m4 up down most a b p m t f v x0 x1 x2 x3 x4 w hm0 hm1 hm2 hm3 hm4 ha hb hp hm ht hf hx0 hx1 hx2 hx3 hx4
      have LB := fun (w : World) => look_is n0 n1 n2 n3 n4 up' down' most' a b p m t f v y0' y1' y2' y3' x4 w hn0 hn1 hn2 hn3 hn4 ha hb hp hm ht hf hy0 hy1 hy2 hy3 hx4
      have LC := fun (w : World) => look_is u0 u1 u2 u3 u4 up down most a b p m t f v (x0 && y0') (x1 && y1') (x2 && y2') (x3 && y3') x4 w ub0 ub1 ub2 ub3 ub4 ha hb hp hm ht hf hz0 hz1 hz2 hz3 hz4
      have HLA := Lib.hid LA; have HLB := Lib.hid LB; have HLC := Lib.hid LC
      clear LA LB LC hx0 hx1 hx2 hx3 hx4 hy0 hy1 hy2 hy3 hz0 hz1 hz2 hz3 hz4 hu0 hu1 hu2 hu3 hu4 ub0 ub1 ub2 ub3 ub4 hm0 hm1 hm2 hm3 hm4 hn0 hn1 hn2 hn3 hn4 ha hb hp hm ht hf hup hdown hmost hup' hdown' hmost'
      go_wp2_with fail
      refine wp_region_any (by kernel_rfl) ?_
      change wpAny _ _ _ _ _ _ _ (World.drew _)
      refine wpAny_front 12 (ThreeI (Held m0 m1 m2 m3 m4 up down most n0 n1 n2 n3 n4 up' down' most' a b p m t f v u0 u1 u2 u3 u4 w.heap.size (w1.heap.size + 1)) wr.heap.size w (watchV m0 m1 m2 m3 m4 up down most) (watchV n0 n1 n2 n3 n4 up' down' most') (watchV u0 u1 u2 u3 u4 up down most) (laneV a b p m t f v) (selA x0 x1 x2 x3 x4) (selA y0' y1' y2' y3' x4) (selA (x0 && y0') (x1 && y1') (x2 && y2') (x3 && y3') x4)) ?step ?last ?fin (by kernel_rfl) (by decide +kernel) ?start
      case start =>
        have hno : ∀ k, k < 15 → ¬ (Array.replicate 15 false).getD k false = true := by decide
        exact ⟨⟨c0, c1, c2, c3, c4, c5, c6, c7, d0, d1, d2, d3, d4, d5, d6, d7, l0, l1, l2, l3, l4, l5, l6, g0, g1, g2, g3, g4, g5, g6, g7⟩, HB.out.drew, Nat.le_refl _, undef, undef, undef, undef, undef, undef, undef, undef, undef, undef, undef, undef, by simp only [fill3, List.setIfInBounds_toArray, List.set_cons_zero, List.set_cons_succ], fun h => (hno 0 (by decide) h).elim, fun h => (hno 1 (by decide) h).elim, fun h => (hno 2 (by decide) h).elim, fun h => (hno 3 (by decide) h).elim, fun h => (hno 4 (by decide) h).elim, fun h => (hno 5 (by decide) h).elim, fun h => (hno 6 (by decide) h).elim, fun h => (hno 7 (by decide) h).elim, fun h => (hno 8 (by decide) h).elim, 0, 0, 0, fun h => (hno 9 (by decide) h).elim, fun h => (hno 10 (by decide) h).elim, fun h => (hno 11 (by decide) h).elim, fun h _ => (hno 9 (by decide) h).elim, fun h _ => (hno 9 (by decide) h).elim, fun h _ => (hno 10 (by decide) h).elim, by decide, by decide, by decide, fun h => (hno 8 (by decide) h).elim, fun h => (hno 5 (by decide) h).elim⟩
      case fin =>
        intro listed a9 w' hs hr hI
        obtain ⟨hH, hB, hsz, z37, z38, z39, z40, z41, z42, z43, z44, z45, x10, x11, x12, -, e0, e1, e2, e3, e4, e5, e6, e7, e8, p9, q9, r9, e9, e10, e11, d1, d2, d3, u12, u13, u14, v8, v5⟩ := hI
        exact absurd (all_listed (by decide +kernel) hs hr 12 (by decide)) (by rw [u12]; decide)
      case last =>
        intro fuel listed a9 w' i hs hc hI hi hge
        change listed.size = 15 at hs
        obtain ⟨hun, o, ho, hal⟩ := mem_ready.1 hi
        have hlt : i < 15 := (Array.getElem?_eq_some_iff.1 ho).1
        obtain ⟨hH, hB, hsz, z37, z38, z39, z40, z41, z42, z43, z44, z45, x10, x11, x12, rfl, e0, e1, e2, e3, e4, e5, e6, e7, e8, p9, q9, r9, e9, e10, e11, d1, d2, d3, u12, u13, u14, v8, v5⟩ := hI
        rcases (by omega : i = 13 ∨ i = 14 ∨ i = 12) with rfl | rfl | rfl
        · obtain rfl : o = _ := (Option.some.inj ho).symm
          have h12 : listed.getD 12 false = true := hal ⟨12, .chain⟩ (by simp) rfl
          rw [u12] at h12; cases h12
        · obtain rfl : o = _ := (Option.some.inj ho).symm
          have h12 : listed.getD 12 false = true := hal ⟨12, .phase⟩ (by simp) rfl
          rw [u12] at h12; cases h12
        · obtain rfl : o = _ := (Option.some.inj ho).symm
          have k8 : listed.getD 8 false = true := hal ⟨8, .chain⟩ (by simp) rfl
          have k5 : listed.getD 5 false = true := (v8 k8).1
          have k3 : listed.getD 3 false = true := (v5 k5).1
          have k4 : listed.getD 4 false = true := (v5 k5).2
          have k6 : listed.getD 6 false = true := (v8 k8).2.1
          have k7 : listed.getD 7 false = true := (v8 k8).2.2
          have k0 : listed.getD 0 false = true := hal ⟨0, .phase⟩ (by simp) rfl
          have k1 : listed.getD 1 false = true := hal ⟨1, .phase⟩ (by simp) rfl
          have k2 : listed.getD 2 false = true := hal ⟨2, .phase⟩ (by simp) rfl
          have k9 : listed.getD 9 false = true := hal ⟨9, .phase⟩ (by simp) rfl
          have k10 : listed.getD 10 false = true := hal ⟨10, .phase⟩ (by simp) rfl
          have k11 : listed.getD 11 false = true := hal ⟨11, .phase⟩ (by simp) rfl
          have hl := listed_is hs (fun j hj => by rcases (by omega : j = 0 ∨ j = 1 ∨ j = 2 ∨ j = 3 ∨ j = 4 ∨ j = 5 ∨ j = 6 ∨ j = 7 ∨ j = 8 ∨ j = 9 ∨ j = 10 ∨ j = 11 ∨ j = 12 ∨ j = 13 ∨ j = 14) with rfl | rfl | rfl | rfl | rfl | rfl | rfl | rfl | rfl | rfl | rfl | rfl | rfl | rfl | rfl <;> first | exact k0 | exact k1 | exact k2 | exact k3 | exact k4 | exact k5 | exact k6 | exact k7 | exact k8 | exact k9 | exact k10 | exact k11 | exact u12 | exact u13 | exact u14)
          subst hl
          obtain ⟨f, rfl⟩ : ∃ f, fuel = f + 3 := ⟨fuel - 3, by have h3 : 3 ≤ fuel := hc; omega⟩
          obtain rfl : z39 = .agg #[.bool x0, .bool x1, .bool x2, .bool x3, .bool x4] := e2 k2
          obtain rfl : z42 = .agg #[.bool y0', .bool y1', .bool y2', .bool y3', .bool x4] := e5 k5
          obtain rfl : z45 = .agg #[.bool (x0 && y0'), .bool (x1 && y1'), .bool (x2 && y2'), .bool (x3 && y3'), .bool x4] := e8 k8
          obtain ⟨rfl, hp1, hp2, hp3⟩ := e9 k9
          obtain ⟨rfl, hq1, hq2, hq3⟩ := e10 k10
          obtain ⟨rfl, hr1, hr2, hr3⟩ := e11 k11
          have npq := d1 k9 k10; have npr := d2 k9 k11; have nqr := d3 k10 k11
          clear hun ho hal hi hge hlt hs hc e0 e1 e2 e3 e4 e5 e6 e7 e8 e9 e10 e11 d1 d2 d3 u12 u13 u14 v8 v5 k0 k1 k2 k3 k4 k5 k6 k7 k8 k9 k10 k11
          simp only [fill3, List.setIfInBounds_toArray, List.set_cons_zero, List.set_cons_succ]
          have HHB := Lib.hid hB
          clear hH hB
          have HP := Lib.hid hp3; have HQ := Lib.hid hq3; have HR := Lib.hid hr3
          clear hp3 hq3 hr3
          obtain ⟨⟨t0, t1, t2, t3, t4, v0, v1, v2, v3, v4⟩, vf⟩ := HP.out
          have vf0 := vf 0; have vf1 := vf 1; have vf2 := vf 2; have vf3 := vf 3; have vf4 := vf 4
          refine wpAny_ready (rs := [12]) (by kernel_rfl) (by simp) (AllReady.cons rfl (fun K hK => ?_) AllReady.nil)
          go_simp
          refine hK _ _ ?_
          clear hK K v0 v1 v2 v3 v4 vf vf0 vf1 vf2 vf3 vf4
          have F1 : Hid (FiveIs (((((w'.setCell ⟨p9, 0, none⟩ (.bool x0)).setCell ⟨p9, 1, none⟩ (.bool x1)).setCell ⟨p9, 2, none⟩ (.bool x2)).setCell ⟨p9, 3, none⟩ (.bool x3)).setCell ⟨p9, 4, none⟩ (.bool x4)) p9 (selA x0 x1 x2 x3 x4)) := (five_same (R := (selA x0 x1 x2 x3 x4)) HP.out).1
          have HHB : Hid (Below w.heap.size w (((((w'.setCell ⟨p9, 0, none⟩ (.bool x0)).setCell ⟨p9, 1, none⟩ (.bool x1)).setCell ⟨p9, 2, none⟩ (.bool x2)).setCell ⟨p9, 3, none⟩ (.bool x3)).setCell ⟨p9, 4, none⟩ (.bool x4))) := ((((HHB.out.setCell (p := ⟨p9, 0, none⟩) (by show w.heap.size ≤ p9; have := HB.out.size; omega) _).setCell (p := ⟨p9, 1, none⟩) (by show w.heap.size ≤ p9; have := HB.out.size; omega) _).setCell (p := ⟨p9, 2, none⟩) (by show w.heap.size ≤ p9; have := HB.out.size; omega) _).setCell (p := ⟨p9, 3, none⟩) (by show w.heap.size ≤ p9; have := HB.out.size; omega) _).setCell (p := ⟨p9, 4, none⟩) (by show w.heap.size ≤ p9; have := HB.out.size; omega) _
          have zp9 : p9 < (((((w'.setCell ⟨p9, 0, none⟩ (.bool x0)).setCell ⟨p9, 1, none⟩ (.bool x1)).setCell ⟨p9, 2, none⟩ (.bool x2)).setCell ⟨p9, 3, none⟩ (.bool x3)).setCell ⟨p9, 4, none⟩ (.bool x4)).heap.size := by simpa using hp2
          have HQ : Hid (Room (((((w'.setCell ⟨p9, 0, none⟩ (.bool x0)).setCell ⟨p9, 1, none⟩ (.bool x1)).setCell ⟨p9, 2, none⟩ (.bool x2)).setCell ⟨p9, 3, none⟩ (.bool x3)).setCell ⟨p9, 4, none⟩ (.bool x4)) q9) := room_other (R := (selA x0 x1 x2 x3 x4)) HQ.out (Ne.symm npq)
          have zq9 : q9 < (((((w'.setCell ⟨p9, 0, none⟩ (.bool x0)).setCell ⟨p9, 1, none⟩ (.bool x1)).setCell ⟨p9, 2, none⟩ (.bool x2)).setCell ⟨p9, 3, none⟩ (.bool x3)).setCell ⟨p9, 4, none⟩ (.bool x4)).heap.size := by simpa using hq2
          have HR : Hid (Room (((((w'.setCell ⟨p9, 0, none⟩ (.bool x0)).setCell ⟨p9, 1, none⟩ (.bool x1)).setCell ⟨p9, 2, none⟩ (.bool x2)).setCell ⟨p9, 3, none⟩ (.bool x3)).setCell ⟨p9, 4, none⟩ (.bool x4)) r9) := room_other (R := (selA x0 x1 x2 x3 x4)) HR.out (Ne.symm npr)
          have zr9 : r9 < (((((w'.setCell ⟨p9, 0, none⟩ (.bool x0)).setCell ⟨p9, 1, none⟩ (.bool x1)).setCell ⟨p9, 2, none⟩ (.bool x2)).setCell ⟨p9, 3, none⟩ (.bool x3)).setCell ⟨p9, 4, none⟩ (.bool x4)).heap.size := by simpa using hr2
          generalize (((((w'.setCell ⟨p9, 0, none⟩ (.bool x0)).setCell ⟨p9, 1, none⟩ (.bool x1)).setCell ⟨p9, 2, none⟩ (.bool x2)).setCell ⟨p9, 3, none⟩ (.bool x3)).setCell ⟨p9, 4, none⟩ (.bool x4)) = W1 at *
          have hp2 := zp9; have hq2 := zq9; have hr2 := zr9
          obtain ⟨⟨t0, t1, t2, t3, t4, v0, v1, v2, v3, v4⟩, vf⟩ := HQ.out
          have vf0 := vf 0; have vf1 := vf 1; have vf2 := vf 2; have vf3 := vf 3; have vf4 := vf 4
          refine wpAny_ready (rs := [13]) (by kernel_rfl) (by simp) (AllReady.cons rfl (fun K hK => ?_) AllReady.nil)
          go_simp
          refine hK _ _ ?_
          clear hK K v0 v1 v2 v3 v4 vf vf0 vf1 vf2 vf3 vf4
          have F2 : Hid (FiveIs (((((W1.setCell ⟨q9, 0, none⟩ (.bool y0')).setCell ⟨q9, 1, none⟩ (.bool y1')).setCell ⟨q9, 2, none⟩ (.bool y2')).setCell ⟨q9, 3, none⟩ (.bool y3')).setCell ⟨q9, 4, none⟩ (.bool x4)) q9 (selA y0' y1' y2' y3' x4)) := (five_same (R := (selA y0' y1' y2' y3' x4)) HQ.out).1
          have HHB : Hid (Below w.heap.size w (((((W1.setCell ⟨q9, 0, none⟩ (.bool y0')).setCell ⟨q9, 1, none⟩ (.bool y1')).setCell ⟨q9, 2, none⟩ (.bool y2')).setCell ⟨q9, 3, none⟩ (.bool y3')).setCell ⟨q9, 4, none⟩ (.bool x4))) := ((((HHB.out.setCell (p := ⟨q9, 0, none⟩) (by show w.heap.size ≤ q9; have := HB.out.size; omega) _).setCell (p := ⟨q9, 1, none⟩) (by show w.heap.size ≤ q9; have := HB.out.size; omega) _).setCell (p := ⟨q9, 2, none⟩) (by show w.heap.size ≤ q9; have := HB.out.size; omega) _).setCell (p := ⟨q9, 3, none⟩) (by show w.heap.size ≤ q9; have := HB.out.size; omega) _).setCell (p := ⟨q9, 4, none⟩) (by show w.heap.size ≤ q9; have := HB.out.size; omega) _
          have zq9 : q9 < (((((W1.setCell ⟨q9, 0, none⟩ (.bool y0')).setCell ⟨q9, 1, none⟩ (.bool y1')).setCell ⟨q9, 2, none⟩ (.bool y2')).setCell ⟨q9, 3, none⟩ (.bool y3')).setCell ⟨q9, 4, none⟩ (.bool x4)).heap.size := by simpa using hq2
          have F1 : Hid (FiveIs (((((W1.setCell ⟨q9, 0, none⟩ (.bool y0')).setCell ⟨q9, 1, none⟩ (.bool y1')).setCell ⟨q9, 2, none⟩ (.bool y2')).setCell ⟨q9, 3, none⟩ (.bool y3')).setCell ⟨q9, 4, none⟩ (.bool x4)) p9 (selA x0 x1 x2 x3 x4)) := five_other (R := (selA y0' y1' y2' y3' x4)) F1.out npq
          have zp9 : p9 < (((((W1.setCell ⟨q9, 0, none⟩ (.bool y0')).setCell ⟨q9, 1, none⟩ (.bool y1')).setCell ⟨q9, 2, none⟩ (.bool y2')).setCell ⟨q9, 3, none⟩ (.bool y3')).setCell ⟨q9, 4, none⟩ (.bool x4)).heap.size := by simpa using hp2
          have HR : Hid (Room (((((W1.setCell ⟨q9, 0, none⟩ (.bool y0')).setCell ⟨q9, 1, none⟩ (.bool y1')).setCell ⟨q9, 2, none⟩ (.bool y2')).setCell ⟨q9, 3, none⟩ (.bool y3')).setCell ⟨q9, 4, none⟩ (.bool x4)) r9) := room_other (R := (selA y0' y1' y2' y3' x4)) HR.out (Ne.symm nqr)
          have zr9 : r9 < (((((W1.setCell ⟨q9, 0, none⟩ (.bool y0')).setCell ⟨q9, 1, none⟩ (.bool y1')).setCell ⟨q9, 2, none⟩ (.bool y2')).setCell ⟨q9, 3, none⟩ (.bool y3')).setCell ⟨q9, 4, none⟩ (.bool x4)).heap.size := by simpa using hr2
          generalize (((((W1.setCell ⟨q9, 0, none⟩ (.bool y0')).setCell ⟨q9, 1, none⟩ (.bool y1')).setCell ⟨q9, 2, none⟩ (.bool y2')).setCell ⟨q9, 3, none⟩ (.bool y3')).setCell ⟨q9, 4, none⟩ (.bool x4)) = W2 at *
          have hp2 := zp9; have hq2 := zq9; have hr2 := zr9
          obtain ⟨⟨t0, t1, t2, t3, t4, v0, v1, v2, v3, v4⟩, vf⟩ := HR.out
          have vf0 := vf 0; have vf1 := vf 1; have vf2 := vf 2; have vf3 := vf 3; have vf4 := vf 4
          refine wpAny_ready (rs := [14]) (by kernel_rfl) (by simp) (AllReady.cons rfl (fun K hK => ?_) AllReady.nil)
          go_simp
          refine hK _ _ ?_
          clear hK K v0 v1 v2 v3 v4 vf vf0 vf1 vf2 vf3 vf4
          have F3 : Hid (FiveIs (((((W2.setCell ⟨r9, 0, none⟩ (.bool (x0 && y0'))).setCell ⟨r9, 1, none⟩ (.bool (x1 && y1'))).setCell ⟨r9, 2, none⟩ (.bool (x2 && y2'))).setCell ⟨r9, 3, none⟩ (.bool (x3 && y3'))).setCell ⟨r9, 4, none⟩ (.bool x4)) r9 (selA (x0 && y0') (x1 && y1') (x2 && y2') (x3 && y3') x4)) := (five_same (R := (selA (x0 && y0') (x1 && y1') (x2 && y2') (x3 && y3') x4)) HR.out).1
          have HHB : Hid (Below w.heap.size w (((((W2.setCell ⟨r9, 0, none⟩ (.bool (x0 && y0'))).setCell ⟨r9, 1, none⟩ (.bool (x1 && y1'))).setCell ⟨r9, 2, none⟩ (.bool (x2 && y2'))).setCell ⟨r9, 3, none⟩ (.bool (x3 && y3'))).setCell ⟨r9, 4, none⟩ (.bool x4))) := ((((HHB.out.setCell (p := ⟨r9, 0, none⟩) (by show w.heap.size ≤ r9; have := HB.out.size; omega) _).setCell (p := ⟨r9, 1, none⟩) (by show w.heap.size ≤ r9; have := HB.out.size; omega) _).setCell (p := ⟨r9, 2, none⟩) (by show w.heap.size ≤ r9; have := HB.out.size; omega) _).setCell (p := ⟨r9, 3, none⟩) (by show w.heap.size ≤ r9; have := HB.out.size; omega) _).setCell (p := ⟨r9, 4, none⟩) (by show w.heap.size ≤ r9; have := HB.out.size; omega) _
          have zr9 : r9 < (((((W2.setCell ⟨r9, 0, none⟩ (.bool (x0 && y0'))).setCell ⟨r9, 1, none⟩ (.bool (x1 && y1'))).setCell ⟨r9, 2, none⟩ (.bool (x2 && y2'))).setCell ⟨r9, 3, none⟩ (.bool (x3 && y3'))).setCell ⟨r9, 4, none⟩ (.bool x4)).heap.size := by simpa using hr2
          have F1 : Hid (FiveIs (((((W2.setCell ⟨r9, 0, none⟩ (.bool (x0 && y0'))).setCell ⟨r9, 1, none⟩ (.bool (x1 && y1'))).setCell ⟨r9, 2, none⟩ (.bool (x2 && y2'))).setCell ⟨r9, 3, none⟩ (.bool (x3 && y3'))).setCell ⟨r9, 4, none⟩ (.bool x4)) p9 (selA x0 x1 x2 x3 x4)) := five_other (R := (selA (x0 && y0') (x1 && y1') (x2 && y2') (x3 && y3') x4)) F1.out npr
          have zp9 : p9 < (((((W2.setCell ⟨r9, 0, none⟩ (.bool (x0 && y0'))).setCell ⟨r9, 1, none⟩ (.bool (x1 && y1'))).setCell ⟨r9, 2, none⟩ (.bool (x2 && y2'))).setCell ⟨r9, 3, none⟩ (.bool (x3 && y3'))).setCell ⟨r9, 4, none⟩ (.bool x4)).heap.size := by simpa using hp2
          have F2 : Hid (FiveIs (((((W2.setCell ⟨r9, 0, none⟩ (.bool (x0 && y0'))).setCell ⟨r9, 1, none⟩ (.bool (x1 && y1'))).setCell ⟨r9, 2, none⟩ (.bool (x2 && y2'))).setCell ⟨r9, 3, none⟩ (.bool (x3 && y3'))).setCell ⟨r9, 4, none⟩ (.bool x4)) q9 (selA y0' y1' y2' y3' x4)) := five_other (R := (selA (x0 && y0') (x1 && y1') (x2 && y2') (x3 && y3') x4)) F2.out nqr
          have zq9 : q9 < (((((W2.setCell ⟨r9, 0, none⟩ (.bool (x0 && y0'))).setCell ⟨r9, 1, none⟩ (.bool (x1 && y1'))).setCell ⟨r9, 2, none⟩ (.bool (x2 && y2'))).setCell ⟨r9, 3, none⟩ (.bool (x3 && y3'))).setCell ⟨r9, 4, none⟩ (.bool x4)).heap.size := by simpa using hq2
          generalize (((((W2.setCell ⟨r9, 0, none⟩ (.bool (x0 && y0'))).setCell ⟨r9, 1, none⟩ (.bool (x1 && y1'))).setCell ⟨r9, 2, none⟩ (.bool (x2 && y2'))).setCell ⟨r9, 3, none⟩ (.bool (x3 && y3'))).setCell ⟨r9, 4, none⟩ (.bool x4)) = W3 at *
          have hp2 := zp9; have hq2 := zq9; have hr2 := zr9
          refine wpAny_done (by kernel_rfl) ?_ _
          have zw : w.heap.size ≤ W3.heap.size := HHB.out.size
          go_wp2_with fail
          go_loopw [46] (fun i wx => (∃ k : Nat, k ≤ 5 ∧ i = .int .i64 k) ∧ ∃ m, wx = W3.drewN m) (fun i _ => 5 - (intOf i).toNat)
          case atStart => exact ⟨⟨0, by omega, rfl⟩, 0, rfl⟩
          case round =>
            obtain ⟨⟨k, hk, rfl⟩, m3, rfl⟩ := hrel
            obtain ⟨q0, q1, q2, q3, q4⟩ := F1.out
            obtain ⟨s0', s1', s2', s3', s4'⟩ := F2.out
            obtain ⟨r0, r1, r2, r3, r4⟩ := F3.out
            simp only [selA] at q0 q1 q2 q3 q4 s0' s1' s2' s3' s4' r0 r1 r2 r3 r4
            rcases (by omega : k = 0 ∨ k = 1 ∨ k = 2 ∨ k = 3 ∨ k = 4 ∨ k = 5) with rfl | rfl | rfl | rfl | rfl | rfl
            · cases x0
              all_goals
                go_wp2
                go_quiet (fail)
                go_wp2
                go_roundw
                case rel => exact ⟨⟨1, by omega, rfl⟩, _, rfl⟩
                case measure => simp [intOf]
            · cases x1
              all_goals
                go_wp2
                go_quiet (fail)
                go_wp2
                go_roundw
                case rel => exact ⟨⟨2, by omega, rfl⟩, _, rfl⟩
                case measure => simp [intOf]
            · cases x2
              all_goals
                go_wp2
                go_quiet (fail)
                go_wp2
                go_roundw
                case rel => exact ⟨⟨3, by omega, rfl⟩, _, rfl⟩
                case measure => simp [intOf]
            · cases x3
              all_goals
                go_wp2
                go_quiet (fail)
                go_wp2
                go_roundw
                case rel => exact ⟨⟨4, by omega, rfl⟩, _, rfl⟩
                case measure => simp [intOf]
            · cases x4
              all_goals
                go_wp2
                go_quiet (fail)
                go_wp2
                go_roundw
                case rel => exact ⟨⟨5, by omega, rfl⟩, _, rfl⟩
                case measure => simp [intOf]
            · go_wp2
              go_ret
              exact ⟨rfl, below_drewN HHB.out m3⟩
      case step =>
        intro listed a9 w' i hs hI hi hlt
        change listed.size = 15 at hs
        obtain ⟨hun, o, ho, hal⟩ := mem_ready.1 hi
        obtain ⟨hH, hB, hsz, z37, z38, z39, z40, z41, z42, z43, z44, z45, x10, x11, x12, rfl, e0, e1, e2, e3, e4, e5, e6, e7, e8, p9, q9, r9, e9, e10, e11, d1, d2, d3, u12, u13, u14, v8, v5⟩ := hI
        rcases (by omega : i = 0 ∨ i = 1 ∨ i = 2 ∨ i = 3 ∨ i = 4 ∨ i = 5 ∨ i = 6 ∨ i = 7 ∨ i = 8 ∨ i = 9 ∨ i = 10 ∨ i = 11) with rfl | rfl | rfl | rfl | rfl | rfl | rfl | rfl | rfl | rfl | rfl | rfl
        · obtain rfl : o = _ := (Option.some.inj ho).symm
          have HHH := Lib.hid hH
          obtain ⟨b0, b1, b2, b3, b4, b5, b6, b7, b8, b9, b10, b11, b12, b13, b14, b15, b16, b17, b18, b19, b20, b21, b22, b23, b24, b25, b26, b27, b28, b29, b30⟩ := hH
          refine wpOp_of rfl (by rfl) (fun K hK => ?_)
          simp only [fill3, List.setIfInBounds_toArray, List.set_cons_zero, List.set_cons_succ]
          go_simp
          refine hK _ _ ?_
          clear hK K
          exact ⟨HHH.out, hB, hsz, (watchV m0 m1 m2 m3 m4 up down most), z38, z39, z40, z41, z42, z43, z44, z45, x10, x11, x12, by simp only [fill3, selA, List.setIfInBounds_toArray, List.set_cons_zero, List.set_cons_succ], fun _ => rfl, fun h => e1 (listed_up (by omega) (by decide) h), fun h => e2 (listed_up (by omega) (by decide) h), fun h => e3 (listed_up (by omega) (by decide) h), fun h => e4 (listed_up (by omega) (by decide) h), fun h => e5 (listed_up (by omega) (by decide) h), fun h => e6 (listed_up (by omega) (by decide) h), fun h => e7 (listed_up (by omega) (by decide) h), fun h => e8 (listed_up (by omega) (by decide) h), p9, q9, r9, fun h => e9 (listed_up (by omega) (by decide) h), fun h => e10 (listed_up (by omega) (by decide) h), fun h => e11 (listed_up (by omega) (by decide) h), fun h h' => d1 (listed_up (by omega) (by decide) h) (listed_up (by omega) (by decide) h'), fun h h' => d2 (listed_up (by omega) (by decide) h) (listed_up (by omega) (by decide) h'), fun h h' => d3 (listed_up (by omega) (by decide) h) (listed_up (by omega) (by decide) h'), ne_listed (by omega) (by decide) u12, ne_listed (by omega) (by decide) u13, ne_listed (by omega) (by decide) u14, fun h => (let g := v8 (listed_up (by omega) (by decide) h); ⟨up_listed (by omega) (g.1), up_listed (by omega) (g.2.1), up_listed (by omega) (g.2.2)⟩), fun h => (let g := v5 (listed_up (by omega) (by decide) h); ⟨up_listed (by omega) (g.1), up_listed (by omega) (g.2)⟩)⟩
        · obtain rfl : o = _ := (Option.some.inj ho).symm
          have HHH := Lib.hid hH
          obtain ⟨b0, b1, b2, b3, b4, b5, b6, b7, b8, b9, b10, b11, b12, b13, b14, b15, b16, b17, b18, b19, b20, b21, b22, b23, b24, b25, b26, b27, b28, b29, b30⟩ := hH
          refine wpOp_of rfl (by rfl) (fun K hK => ?_)
          simp only [fill3, List.setIfInBounds_toArray, List.set_cons_zero, List.set_cons_succ]
          go_simp
          refine hK _ _ ?_
          clear hK K
          exact ⟨HHH.out, hB, hsz, z37, (laneV a b p m t f v), z39, z40, z41, z42, z43, z44, z45, x10, x11, x12, by simp only [fill3, selA, List.setIfInBounds_toArray, List.set_cons_zero, List.set_cons_succ], fun h => e0 (listed_up (by omega) (by decide) h), fun _ => rfl, fun h => e2 (listed_up (by omega) (by decide) h), fun h => e3 (listed_up (by omega) (by decide) h), fun h => e4 (listed_up (by omega) (by decide) h), fun h => e5 (listed_up (by omega) (by decide) h), fun h => e6 (listed_up (by omega) (by decide) h), fun h => e7 (listed_up (by omega) (by decide) h), fun h => e8 (listed_up (by omega) (by decide) h), p9, q9, r9, fun h => e9 (listed_up (by omega) (by decide) h), fun h => e10 (listed_up (by omega) (by decide) h), fun h => e11 (listed_up (by omega) (by decide) h), fun h h' => d1 (listed_up (by omega) (by decide) h) (listed_up (by omega) (by decide) h'), fun h h' => d2 (listed_up (by omega) (by decide) h) (listed_up (by omega) (by decide) h'), fun h h' => d3 (listed_up (by omega) (by decide) h) (listed_up (by omega) (by decide) h'), ne_listed (by omega) (by decide) u12, ne_listed (by omega) (by decide) u13, ne_listed (by omega) (by decide) u14, fun h => (let g := v8 (listed_up (by omega) (by decide) h); ⟨up_listed (by omega) (g.1), up_listed (by omega) (g.2.1), up_listed (by omega) (g.2.2)⟩), fun h => (let g := v5 (listed_up (by omega) (by decide) h); ⟨up_listed (by omega) (g.1), up_listed (by omega) (g.2)⟩)⟩
        · obtain rfl : o = _ := (Option.some.inj ho).symm
          obtain rfl := e0 (hal ⟨0, .data⟩ (by simp) rfl)
          obtain rfl := e1 (hal ⟨1, .data⟩ (by simp) rfl)
          refine wpOp_of rfl (by rfl) (fun K hK => ?_)
          simp only [fill3, List.setIfInBounds_toArray, List.set_cons_zero, List.set_cons_succ]
          go_simp
          go_at_call 13
          refine (HLA.out _).mono ?_
          rintro e5 w5 ⟨rfl, hb5⟩
          try go_simp
          refine hK _ _ ?_
          clear hK K
          exact ⟨held_later hH hb5, hB.trans (hb5.mono hB.size), Nat.le_trans hsz hb5.size, (watchV m0 m1 m2 m3 m4 up down most), (laneV a b p m t f v), (.agg #[.bool ((selA x0 x1 x2 x3 x4) 0), .bool ((selA x0 x1 x2 x3 x4) 1), .bool ((selA x0 x1 x2 x3 x4) 2), .bool ((selA x0 x1 x2 x3 x4) 3), .bool ((selA x0 x1 x2 x3 x4) 4)]), z40, z41, z42, z43, z44, z45, x10, x11, x12, by simp only [fill3, selA, List.setIfInBounds_toArray, List.set_cons_zero, List.set_cons_succ], fun _ => rfl, fun _ => rfl, fun _ => rfl, fun h => e3 (listed_up (by omega) (by decide) h), fun h => e4 (listed_up (by omega) (by decide) h), fun h => e5 (listed_up (by omega) (by decide) h), fun h => e6 (listed_up (by omega) (by decide) h), fun h => e7 (listed_up (by omega) (by decide) h), fun h => e8 (listed_up (by omega) (by decide) h), p9, q9, r9, fun h => (let g := e9 (listed_up (by omega) (by decide) h); ⟨g.1, g.2.1, Nat.lt_of_lt_of_le g.2.2.1 hb5.size, room_later g.2.2.2 hb5 g.2.2.1⟩), fun h => (let g := e10 (listed_up (by omega) (by decide) h); ⟨g.1, g.2.1, Nat.lt_of_lt_of_le g.2.2.1 hb5.size, room_later g.2.2.2 hb5 g.2.2.1⟩), fun h => (let g := e11 (listed_up (by omega) (by decide) h); ⟨g.1, g.2.1, Nat.lt_of_lt_of_le g.2.2.1 hb5.size, room_later g.2.2.2 hb5 g.2.2.1⟩), fun h h' => d1 (listed_up (by omega) (by decide) h) (listed_up (by omega) (by decide) h'), fun h h' => d2 (listed_up (by omega) (by decide) h) (listed_up (by omega) (by decide) h'), fun h h' => d3 (listed_up (by omega) (by decide) h) (listed_up (by omega) (by decide) h'), ne_listed (by omega) (by decide) u12, ne_listed (by omega) (by decide) u13, ne_listed (by omega) (by decide) u14, fun h => (let g := v8 (listed_up (by omega) (by decide) h); ⟨up_listed (by omega) (g.1), up_listed (by omega) (g.2.1), up_listed (by omega) (g.2.2)⟩), fun h => (let g := v5 (listed_up (by omega) (by decide) h); ⟨up_listed (by omega) (g.1), up_listed (by omega) (g.2)⟩)⟩
        · obtain rfl : o = _ := (Option.some.inj ho).symm
          have HHH := Lib.hid hH
          obtain ⟨b0, b1, b2, b3, b4, b5, b6, b7, b8, b9, b10, b11, b12, b13, b14, b15, b16, b17, b18, b19, b20, b21, b22, b23, b24, b25, b26, b27, b28, b29, b30⟩ := hH
          refine wpOp_of rfl (by rfl) (fun K hK => ?_)
          simp only [fill3, List.setIfInBounds_toArray, List.set_cons_zero, List.set_cons_succ]
          go_simp
          refine hK _ _ ?_
          clear hK K
          exact ⟨HHH.out, hB, hsz, z37, z38, z39, (watchV n0 n1 n2 n3 n4 up' down' most'), z41, z42, z43, z44, z45, x10, x11, x12, by simp only [fill3, selA, List.setIfInBounds_toArray, List.set_cons_zero, List.set_cons_succ], fun h => e0 (listed_up (by omega) (by decide) h), fun h => e1 (listed_up (by omega) (by decide) h), fun h => e2 (listed_up (by omega) (by decide) h), fun _ => rfl, fun h => e4 (listed_up (by omega) (by decide) h), fun h => e5 (listed_up (by omega) (by decide) h), fun h => e6 (listed_up (by omega) (by decide) h), fun h => e7 (listed_up (by omega) (by decide) h), fun h => e8 (listed_up (by omega) (by decide) h), p9, q9, r9, fun h => e9 (listed_up (by omega) (by decide) h), fun h => e10 (listed_up (by omega) (by decide) h), fun h => e11 (listed_up (by omega) (by decide) h), fun h h' => d1 (listed_up (by omega) (by decide) h) (listed_up (by omega) (by decide) h'), fun h h' => d2 (listed_up (by omega) (by decide) h) (listed_up (by omega) (by decide) h'), fun h h' => d3 (listed_up (by omega) (by decide) h) (listed_up (by omega) (by decide) h'), ne_listed (by omega) (by decide) u12, ne_listed (by omega) (by decide) u13, ne_listed (by omega) (by decide) u14, fun h => (let g := v8 (listed_up (by omega) (by decide) h); ⟨up_listed (by omega) (g.1), up_listed (by omega) (g.2.1), up_listed (by omega) (g.2.2)⟩), fun h => (let g := v5 (listed_up (by omega) (by decide) h); ⟨up_listed (by omega) (g.1), up_listed (by omega) (g.2)⟩)⟩
        · obtain rfl : o = _ := (Option.some.inj ho).symm
          have HHH := Lib.hid hH
          obtain ⟨b0, b1, b2, b3, b4, b5, b6, b7, b8, b9, b10, b11, b12, b13, b14, b15, b16, b17, b18, b19, b20, b21, b22, b23, b24, b25, b26, b27, b28, b29, b30⟩ := hH
          refine wpOp_of rfl (by rfl) (fun K hK => ?_)
          simp only [fill3, List.setIfInBounds_toArray, List.set_cons_zero, List.set_cons_succ]
          go_simp
          refine hK _ _ ?_
          clear hK K
          exact ⟨HHH.out, hB, hsz, z37, z38, z39, z40, (laneV a b p m t f v), z42, z43, z44, z45, x10, x11, x12, by simp only [fill3, selA, List.setIfInBounds_toArray, List.set_cons_zero, List.set_cons_succ], fun h => e0 (listed_up (by omega) (by decide) h), fun h => e1 (listed_up (by omega) (by decide) h), fun h => e2 (listed_up (by omega) (by decide) h), fun h => e3 (listed_up (by omega) (by decide) h), fun _ => rfl, fun h => e5 (listed_up (by omega) (by decide) h), fun h => e6 (listed_up (by omega) (by decide) h), fun h => e7 (listed_up (by omega) (by decide) h), fun h => e8 (listed_up (by omega) (by decide) h), p9, q9, r9, fun h => e9 (listed_up (by omega) (by decide) h), fun h => e10 (listed_up (by omega) (by decide) h), fun h => e11 (listed_up (by omega) (by decide) h), fun h h' => d1 (listed_up (by omega) (by decide) h) (listed_up (by omega) (by decide) h'), fun h h' => d2 (listed_up (by omega) (by decide) h) (listed_up (by omega) (by decide) h'), fun h h' => d3 (listed_up (by omega) (by decide) h) (listed_up (by omega) (by decide) h'), ne_listed (by omega) (by decide) u12, ne_listed (by omega) (by decide) u13, ne_listed (by omega) (by decide) u14, fun h => (let g := v8 (listed_up (by omega) (by decide) h); ⟨up_listed (by omega) (g.1), up_listed (by omega) (g.2.1), up_listed (by omega) (g.2.2)⟩), fun h => (let g := v5 (listed_up (by omega) (by decide) h); ⟨up_listed (by omega) (g.1), up_listed (by omega) (g.2)⟩)⟩
        · obtain rfl : o = _ := (Option.some.inj ho).symm
          obtain rfl := e3 (hal ⟨3, .data⟩ (by simp) rfl)
          obtain rfl := e4 (hal ⟨4, .data⟩ (by simp) rfl)
          refine wpOp_of rfl (by rfl) (fun K hK => ?_)
          simp only [fill3, List.setIfInBounds_toArray, List.set_cons_zero, List.set_cons_succ]
          go_simp
          go_at_call 13
          refine (HLB.out _).mono ?_
          rintro e5 w5 ⟨rfl, hb5⟩
          try go_simp
          refine hK _ _ ?_
          clear hK K
          exact ⟨held_later hH hb5, hB.trans (hb5.mono hB.size), Nat.le_trans hsz hb5.size, z37, z38, z39, (watchV n0 n1 n2 n3 n4 up' down' most'), (laneV a b p m t f v), (.agg #[.bool ((selA y0' y1' y2' y3' x4) 0), .bool ((selA y0' y1' y2' y3' x4) 1), .bool ((selA y0' y1' y2' y3' x4) 2), .bool ((selA y0' y1' y2' y3' x4) 3), .bool ((selA y0' y1' y2' y3' x4) 4)]), z43, z44, z45, x10, x11, x12, by simp only [fill3, selA, List.setIfInBounds_toArray, List.set_cons_zero, List.set_cons_succ], fun h => e0 (listed_up (by omega) (by decide) h), fun h => e1 (listed_up (by omega) (by decide) h), fun h => e2 (listed_up (by omega) (by decide) h), fun _ => rfl, fun _ => rfl, fun _ => rfl, fun h => e6 (listed_up (by omega) (by decide) h), fun h => e7 (listed_up (by omega) (by decide) h), fun h => e8 (listed_up (by omega) (by decide) h), p9, q9, r9, fun h => (let g := e9 (listed_up (by omega) (by decide) h); ⟨g.1, g.2.1, Nat.lt_of_lt_of_le g.2.2.1 hb5.size, room_later g.2.2.2 hb5 g.2.2.1⟩), fun h => (let g := e10 (listed_up (by omega) (by decide) h); ⟨g.1, g.2.1, Nat.lt_of_lt_of_le g.2.2.1 hb5.size, room_later g.2.2.2 hb5 g.2.2.1⟩), fun h => (let g := e11 (listed_up (by omega) (by decide) h); ⟨g.1, g.2.1, Nat.lt_of_lt_of_le g.2.2.1 hb5.size, room_later g.2.2.2 hb5 g.2.2.1⟩), fun h h' => d1 (listed_up (by omega) (by decide) h) (listed_up (by omega) (by decide) h'), fun h h' => d2 (listed_up (by omega) (by decide) h) (listed_up (by omega) (by decide) h'), fun h h' => d3 (listed_up (by omega) (by decide) h) (listed_up (by omega) (by decide) h'), ne_listed (by omega) (by decide) u12, ne_listed (by omega) (by decide) u13, ne_listed (by omega) (by decide) u14, fun h => (let g := v8 (listed_up (by omega) (by decide) h); ⟨up_listed (by omega) (g.1), up_listed (by omega) (g.2.1), up_listed (by omega) (g.2.2)⟩), fun _ => ⟨up_listed (by omega) (hal ⟨3, .data⟩ (by simp) rfl), up_listed (by omega) (hal ⟨4, .data⟩ (by simp) rfl)⟩⟩
        · obtain rfl : o = _ := (Option.some.inj ho).symm
          have HHH := Lib.hid hH
          obtain ⟨b0, b1, b2, b3, b4, b5, b6, b7, b8, b9, b10, b11, b12, b13, b14, b15, b16, b17, b18, b19, b20, b21, b22, b23, b24, b25, b26, b27, b28, b29, b30⟩ := hH
          refine wpOp_of rfl (by rfl) (fun K hK => ?_)
          simp only [fill3, List.setIfInBounds_toArray, List.set_cons_zero, List.set_cons_succ]
          go_simp
          refine hK _ _ ?_
          clear hK K
          exact ⟨HHH.out, hB, hsz, z37, z38, z39, z40, z41, z42, (watchV u0 u1 u2 u3 u4 up down most), z44, z45, x10, x11, x12, by simp only [fill3, selA, List.setIfInBounds_toArray, List.set_cons_zero, List.set_cons_succ], fun h => e0 (listed_up (by omega) (by decide) h), fun h => e1 (listed_up (by omega) (by decide) h), fun h => e2 (listed_up (by omega) (by decide) h), fun h => e3 (listed_up (by omega) (by decide) h), fun h => e4 (listed_up (by omega) (by decide) h), fun h => e5 (listed_up (by omega) (by decide) h), fun _ => rfl, fun h => e7 (listed_up (by omega) (by decide) h), fun h => e8 (listed_up (by omega) (by decide) h), p9, q9, r9, fun h => e9 (listed_up (by omega) (by decide) h), fun h => e10 (listed_up (by omega) (by decide) h), fun h => e11 (listed_up (by omega) (by decide) h), fun h h' => d1 (listed_up (by omega) (by decide) h) (listed_up (by omega) (by decide) h'), fun h h' => d2 (listed_up (by omega) (by decide) h) (listed_up (by omega) (by decide) h'), fun h h' => d3 (listed_up (by omega) (by decide) h) (listed_up (by omega) (by decide) h'), ne_listed (by omega) (by decide) u12, ne_listed (by omega) (by decide) u13, ne_listed (by omega) (by decide) u14, fun h => (let g := v8 (listed_up (by omega) (by decide) h); ⟨up_listed (by omega) (g.1), up_listed (by omega) (g.2.1), up_listed (by omega) (g.2.2)⟩), fun h => (let g := v5 (listed_up (by omega) (by decide) h); ⟨up_listed (by omega) (g.1), up_listed (by omega) (g.2)⟩)⟩
        · obtain rfl : o = _ := (Option.some.inj ho).symm
          have HHH := Lib.hid hH
          obtain ⟨b0, b1, b2, b3, b4, b5, b6, b7, b8, b9, b10, b11, b12, b13, b14, b15, b16, b17, b18, b19, b20, b21, b22, b23, b24, b25, b26, b27, b28, b29, b30⟩ := hH
          refine wpOp_of rfl (by rfl) (fun K hK => ?_)
          simp only [fill3, List.setIfInBounds_toArray, List.set_cons_zero, List.set_cons_succ]
          go_simp
          refine hK _ _ ?_
          clear hK K
          exact ⟨HHH.out, hB, hsz, z37, z38, z39, z40, z41, z42, z43, (laneV a b p m t f v), z45, x10, x11, x12, by simp only [fill3, selA, List.setIfInBounds_toArray, List.set_cons_zero, List.set_cons_succ], fun h => e0 (listed_up (by omega) (by decide) h), fun h => e1 (listed_up (by omega) (by decide) h), fun h => e2 (listed_up (by omega) (by decide) h), fun h => e3 (listed_up (by omega) (by decide) h), fun h => e4 (listed_up (by omega) (by decide) h), fun h => e5 (listed_up (by omega) (by decide) h), fun h => e6 (listed_up (by omega) (by decide) h), fun _ => rfl, fun h => e8 (listed_up (by omega) (by decide) h), p9, q9, r9, fun h => e9 (listed_up (by omega) (by decide) h), fun h => e10 (listed_up (by omega) (by decide) h), fun h => e11 (listed_up (by omega) (by decide) h), fun h h' => d1 (listed_up (by omega) (by decide) h) (listed_up (by omega) (by decide) h'), fun h h' => d2 (listed_up (by omega) (by decide) h) (listed_up (by omega) (by decide) h'), fun h h' => d3 (listed_up (by omega) (by decide) h) (listed_up (by omega) (by decide) h'), ne_listed (by omega) (by decide) u12, ne_listed (by omega) (by decide) u13, ne_listed (by omega) (by decide) u14, fun h => (let g := v8 (listed_up (by omega) (by decide) h); ⟨up_listed (by omega) (g.1), up_listed (by omega) (g.2.1), up_listed (by omega) (g.2.2)⟩), fun h => (let g := v5 (listed_up (by omega) (by decide) h); ⟨up_listed (by omega) (g.1), up_listed (by omega) (g.2)⟩)⟩
        · obtain rfl : o = _ := (Option.some.inj ho).symm
          obtain rfl := e6 (hal ⟨6, .data⟩ (by simp) rfl)
          obtain rfl := e7 (hal ⟨7, .data⟩ (by simp) rfl)
          refine wpOp_of rfl (by rfl) (fun K hK => ?_)
          simp only [fill3, List.setIfInBounds_toArray, List.set_cons_zero, List.set_cons_succ]
          go_simp
          go_at_call 13
          refine (HLC.out _).mono ?_
          rintro e5 w5 ⟨rfl, hb5⟩
          try go_simp
          refine hK _ _ ?_
          clear hK K
          exact ⟨held_later hH hb5, hB.trans (hb5.mono hB.size), Nat.le_trans hsz hb5.size, z37, z38, z39, z40, z41, z42, (watchV u0 u1 u2 u3 u4 up down most), (laneV a b p m t f v), (.agg #[.bool ((selA (x0 && y0') (x1 && y1') (x2 && y2') (x3 && y3') x4) 0), .bool ((selA (x0 && y0') (x1 && y1') (x2 && y2') (x3 && y3') x4) 1), .bool ((selA (x0 && y0') (x1 && y1') (x2 && y2') (x3 && y3') x4) 2), .bool ((selA (x0 && y0') (x1 && y1') (x2 && y2') (x3 && y3') x4) 3), .bool ((selA (x0 && y0') (x1 && y1') (x2 && y2') (x3 && y3') x4) 4)]), x10, x11, x12, by simp only [fill3, selA, List.setIfInBounds_toArray, List.set_cons_zero, List.set_cons_succ], fun h => e0 (listed_up (by omega) (by decide) h), fun h => e1 (listed_up (by omega) (by decide) h), fun h => e2 (listed_up (by omega) (by decide) h), fun h => e3 (listed_up (by omega) (by decide) h), fun h => e4 (listed_up (by omega) (by decide) h), fun h => e5 (listed_up (by omega) (by decide) h), fun _ => rfl, fun _ => rfl, fun _ => rfl, p9, q9, r9, fun h => (let g := e9 (listed_up (by omega) (by decide) h); ⟨g.1, g.2.1, Nat.lt_of_lt_of_le g.2.2.1 hb5.size, room_later g.2.2.2 hb5 g.2.2.1⟩), fun h => (let g := e10 (listed_up (by omega) (by decide) h); ⟨g.1, g.2.1, Nat.lt_of_lt_of_le g.2.2.1 hb5.size, room_later g.2.2.2 hb5 g.2.2.1⟩), fun h => (let g := e11 (listed_up (by omega) (by decide) h); ⟨g.1, g.2.1, Nat.lt_of_lt_of_le g.2.2.1 hb5.size, room_later g.2.2.2 hb5 g.2.2.1⟩), fun h h' => d1 (listed_up (by omega) (by decide) h) (listed_up (by omega) (by decide) h'), fun h h' => d2 (listed_up (by omega) (by decide) h) (listed_up (by omega) (by decide) h'), fun h h' => d3 (listed_up (by omega) (by decide) h) (listed_up (by omega) (by decide) h'), ne_listed (by omega) (by decide) u12, ne_listed (by omega) (by decide) u13, ne_listed (by omega) (by decide) u14, fun _ => ⟨up_listed (by omega) (hal ⟨5, .chain⟩ (by simp) rfl), up_listed (by omega) (hal ⟨6, .data⟩ (by simp) rfl), up_listed (by omega) (hal ⟨7, .data⟩ (by simp) rfl)⟩, fun h => (let g := v5 (listed_up (by omega) (by decide) h); ⟨up_listed (by omega) (g.1), up_listed (by omega) (g.2)⟩)⟩
        · obtain rfl : o = _ := (Option.some.inj ho).symm
          refine wpOp_of rfl (by rfl) (fun K hK => ?_)
          simp only [fill3, List.setIfInBounds_toArray, List.set_cons_zero, List.set_cons_succ]
          go_simp
          refine hK _ _ ?_
          clear hK K
          have A5 := (Below.refl w'.heap.size w').alloc (Nat.le_refl _) (.cells #[.bool false, .bool false, .bool false, .bool false, .bool false] 41)
          exact ⟨held_later hH A5, hB.trans (A5.mono hB.size), Nat.le_trans hsz A5.size, z37, z38, z39, z40, z41, z42, z43, z44, z45, (.pointer (some ⟨w'.heap.size, 0, none⟩)), x11, x12, by simp only [fill3, selA, List.setIfInBounds_toArray, List.set_cons_zero, List.set_cons_succ], fun h => e0 (listed_up (by omega) (by decide) h), fun h => e1 (listed_up (by omega) (by decide) h), fun h => e2 (listed_up (by omega) (by decide) h), fun h => e3 (listed_up (by omega) (by decide) h), fun h => e4 (listed_up (by omega) (by decide) h), fun h => e5 (listed_up (by omega) (by decide) h), fun h => e6 (listed_up (by omega) (by decide) h), fun h => e7 (listed_up (by omega) (by decide) h), fun h => e8 (listed_up (by omega) (by decide) h), w'.heap.size, q9, r9, fun _ => ⟨rfl, hsz, by simp, room_new _⟩, fun h => (let g := e10 (listed_up (by omega) (by decide) h); ⟨g.1, g.2.1, Nat.lt_of_lt_of_le g.2.2.1 A5.size, room_later g.2.2.2 A5 g.2.2.1⟩), fun h => (let g := e11 (listed_up (by omega) (by decide) h); ⟨g.1, g.2.1, Nat.lt_of_lt_of_le g.2.2.1 A5.size, room_later g.2.2.2 A5 g.2.2.1⟩), fun _ h => (fun e => by have := (e10 (listed_up (by omega) (by decide) h)).2.2.1; omega), fun _ h => (fun e => by have := (e11 (listed_up (by omega) (by decide) h)).2.2.1; omega), fun h h' => d3 (listed_up (by omega) (by decide) h) (listed_up (by omega) (by decide) h'), ne_listed (by omega) (by decide) u12, ne_listed (by omega) (by decide) u13, ne_listed (by omega) (by decide) u14, fun h => (let g := v8 (listed_up (by omega) (by decide) h); ⟨up_listed (by omega) (g.1), up_listed (by omega) (g.2.1), up_listed (by omega) (g.2.2)⟩), fun h => (let g := v5 (listed_up (by omega) (by decide) h); ⟨up_listed (by omega) (g.1), up_listed (by omega) (g.2)⟩)⟩
        · obtain rfl : o = _ := (Option.some.inj ho).symm
          refine wpOp_of rfl (by rfl) (fun K hK => ?_)
          simp only [fill3, List.setIfInBounds_toArray, List.set_cons_zero, List.set_cons_succ]
          go_simp
          refine hK _ _ ?_
          clear hK K
          have A5 := (Below.refl w'.heap.size w').alloc (Nat.le_refl _) (.cells #[.bool false, .bool false, .bool false, .bool false, .bool false] 41)
          exact ⟨held_later hH A5, hB.trans (A5.mono hB.size), Nat.le_trans hsz A5.size, z37, z38, z39, z40, z41, z42, z43, z44, z45, x10, (.pointer (some ⟨w'.heap.size, 0, none⟩)), x12, by simp only [fill3, selA, List.setIfInBounds_toArray, List.set_cons_zero, List.set_cons_succ], fun h => e0 (listed_up (by omega) (by decide) h), fun h => e1 (listed_up (by omega) (by decide) h), fun h => e2 (listed_up (by omega) (by decide) h), fun h => e3 (listed_up (by omega) (by decide) h), fun h => e4 (listed_up (by omega) (by decide) h), fun h => e5 (listed_up (by omega) (by decide) h), fun h => e6 (listed_up (by omega) (by decide) h), fun h => e7 (listed_up (by omega) (by decide) h), fun h => e8 (listed_up (by omega) (by decide) h), p9, w'.heap.size, r9, fun h => (let g := e9 (listed_up (by omega) (by decide) h); ⟨g.1, g.2.1, Nat.lt_of_lt_of_le g.2.2.1 A5.size, room_later g.2.2.2 A5 g.2.2.1⟩), fun _ => ⟨rfl, hsz, by simp, room_new _⟩, fun h => (let g := e11 (listed_up (by omega) (by decide) h); ⟨g.1, g.2.1, Nat.lt_of_lt_of_le g.2.2.1 A5.size, room_later g.2.2.2 A5 g.2.2.1⟩), fun h _ => (fun e => by have := (e9 (listed_up (by omega) (by decide) h)).2.2.1; omega), fun h h' => d2 (listed_up (by omega) (by decide) h) (listed_up (by omega) (by decide) h'), fun _ h => (fun e => by have := (e11 (listed_up (by omega) (by decide) h)).2.2.1; omega), ne_listed (by omega) (by decide) u12, ne_listed (by omega) (by decide) u13, ne_listed (by omega) (by decide) u14, fun h => (let g := v8 (listed_up (by omega) (by decide) h); ⟨up_listed (by omega) (g.1), up_listed (by omega) (g.2.1), up_listed (by omega) (g.2.2)⟩), fun h => (let g := v5 (listed_up (by omega) (by decide) h); ⟨up_listed (by omega) (g.1), up_listed (by omega) (g.2)⟩)⟩
        · obtain rfl : o = _ := (Option.some.inj ho).symm
          refine wpOp_of rfl (by rfl) (fun K hK => ?_)
          simp only [fill3, List.setIfInBounds_toArray, List.set_cons_zero, List.set_cons_succ]
          go_simp
          refine hK _ _ ?_
          clear hK K
          have A5 := (Below.refl w'.heap.size w').alloc (Nat.le_refl _) (.cells #[.bool false, .bool false, .bool false, .bool false, .bool false] 41)
          exact ⟨held_later hH A5, hB.trans (A5.mono hB.size), Nat.le_trans hsz A5.size, z37, z38, z39, z40, z41, z42, z43, z44, z45, x10, x11, (.pointer (some ⟨w'.heap.size, 0, none⟩)), by simp only [fill3, selA, List.setIfInBounds_toArray, List.set_cons_zero, List.set_cons_succ], fun h => e0 (listed_up (by omega) (by decide) h), fun h => e1 (listed_up (by omega) (by decide) h), fun h => e2 (listed_up (by omega) (by decide) h), fun h => e3 (listed_up (by omega) (by decide) h), fun h => e4 (listed_up (by omega) (by decide) h), fun h => e5 (listed_up (by omega) (by decide) h), fun h => e6 (listed_up (by omega) (by decide) h), fun h => e7 (listed_up (by omega) (by decide) h), fun h => e8 (listed_up (by omega) (by decide) h), p9, q9, w'.heap.size, fun h => (let g := e9 (listed_up (by omega) (by decide) h); ⟨g.1, g.2.1, Nat.lt_of_lt_of_le g.2.2.1 A5.size, room_later g.2.2.2 A5 g.2.2.1⟩), fun h => (let g := e10 (listed_up (by omega) (by decide) h); ⟨g.1, g.2.1, Nat.lt_of_lt_of_le g.2.2.1 A5.size, room_later g.2.2.2 A5 g.2.2.1⟩), fun _ => ⟨rfl, hsz, by simp, room_new _⟩, fun h h' => d1 (listed_up (by omega) (by decide) h) (listed_up (by omega) (by decide) h'), fun h _ => (fun e => by have := (e9 (listed_up (by omega) (by decide) h)).2.2.1; omega), fun h _ => (fun e => by have := (e10 (listed_up (by omega) (by decide) h)).2.2.1; omega), ne_listed (by omega) (by decide) u12, ne_listed (by omega) (by decide) u13, ne_listed (by omega) (by decide) u14, fun h => (let g := v8 (listed_up (by omega) (by decide) h); ⟨up_listed (by omega) (g.1), up_listed (by omega) (g.2.1), up_listed (by omega) (g.2.2)⟩), fun h => (let g := v5 (listed_up (by omega) (by decide) h); ⟨up_listed (by omega) (g.1), up_listed (by omega) (g.2)⟩)⟩
set_option maxRecDepth 100000 in
theorem lifted (os : Os) (started : os.Started) (H : Type) (enc : TypeId × Value → H) :
    ReturnsInHanded {} Try.checked os 4 .any (Rows.watchBoundsSpec.pre6 enc Try.prog Try.f4 Rows.watchBoundsRow.domain false) (Rows.watchBoundsSpec.post enc Try.prog Try.f4 false true false false) := by
  refine returnsInHanded_of_change (C := Try.checked) own started (by kernel_rfl) Try.func4
    (ChangeSpec.witness6 (enc := enc) (C := Try.checked) false ⟨#[], #[.agg #[.int .i32 0, .int .i32 0, .int .i32 0, .int .i32 0, .int .i32 0, .int .i64 0, .int .i64 0, .int .i64 0], .agg #[.int .i32 0, .int .i32 0, .int .i32 0, .int .i32 0, .int .i32 0, .int .i64 0, .int .i64 0, .int .i64 0], .agg #[.int .i32 0, .int .i32 0, .int .i32 0, .int .i32 0, .int .i32 0, .int .i32 0, .bool false]], []⟩ 8 (by kernel_rfl) (by kernel_rfl) (by kernel_rfl) (by kernel_rfl)) ?_
  intro W base args ds gs before hval0 hW hcnd _
  have hval : ∀ (j : Nat) t v, Try.f4.params[j]? = some t → args[j]? = some v → Value.okWide Try.prog W .any base t v := hval0
  have hW' := hW
  obtain ⟨p, q, hA0, hV, rfl, hfz, hnd⟩ := hW
  have hA : DataW.TrodAll enc Try.prog W 0 (fun _ => true) true Try.f4.params.toList args.toList ds p := hA0
  rw [Try.params4] at hA hval
  obtain ⟨v0, vs0, d0, ds0, p0, q0, hargs, rfl, rfl, h0, r0⟩ := trodAll_cons hA
  obtain ⟨v1, vs1, d1, ds1, p1, q1, rfl, rfl, rfl, h1, r1⟩ := trodAll_cons r0
  obtain ⟨v2, vs2, d2, ds2, p2, q2, rfl, rfl, rfl, h2, r2⟩ := trodAll_cons r1
  obtain ⟨rfl, rfl, rfl⟩ := trodAll_nil r2
  obtain rfl : args = #[v0, v1, v2] := by cases args; simp_all
  obtain ⟨rfl, rfl⟩ := trodVars_none hV
  have k0 := h0
  have lt0 : ∀ x ∈ p0, x.block < W.heap.size := by obtain ⟨m, hm⟩ := k0; exact DataW.trod_lt m _ _ _ hm
  have k1 := h1
  have lt1 : ∀ x ∈ p1, x.block < W.heap.size := by obtain ⟨m, hm⟩ := k1; exact DataW.trod_lt m _ _ _ hm
  have k2 := h2
  have lt2 : ∀ x ∈ p2, x.block < W.heap.size := by obtain ⟨m, hm⟩ := k2; exact DataW.trod_lt m _ _ _ hm
  obtain ⟨cs0, rfl, lf0_0⟩ := open_flat 12 [21, 21, 21, 21, 21, 3, 3, 3] (by kernel_rfl) (by kernel_rfl) (by kernel_rfl) (hval 0 38 v0 rfl rfl) h0
  obtain ⟨c0_0, r0_0, rfl, y0_0, lf0_1⟩ := leafs_cons lf0_0
  obtain ⟨a0_0, rfl, w0_0⟩ := leaf_int Try.underlying21 y0_0
  obtain ⟨c0_1, r0_1, rfl, y0_1, lf0_2⟩ := leafs_cons lf0_1
  obtain ⟨a0_1, rfl, w0_1⟩ := leaf_int Try.underlying21 y0_1
  obtain ⟨c0_2, r0_2, rfl, y0_2, lf0_3⟩ := leafs_cons lf0_2
  obtain ⟨a0_2, rfl, w0_2⟩ := leaf_int Try.underlying21 y0_2
  obtain ⟨c0_3, r0_3, rfl, y0_3, lf0_4⟩ := leafs_cons lf0_3
  obtain ⟨a0_3, rfl, w0_3⟩ := leaf_int Try.underlying21 y0_3
  obtain ⟨c0_4, r0_4, rfl, y0_4, lf0_5⟩ := leafs_cons lf0_4
  obtain ⟨a0_4, rfl, w0_4⟩ := leaf_int Try.underlying21 y0_4
  obtain ⟨c0_5, r0_5, rfl, y0_5, lf0_6⟩ := leafs_cons lf0_5
  obtain ⟨a0_5, rfl, w0_5⟩ := leaf_int Try.underlying3 y0_5
  obtain ⟨c0_6, r0_6, rfl, y0_6, lf0_7⟩ := leafs_cons lf0_6
  obtain ⟨a0_6, rfl, w0_6⟩ := leaf_int Try.underlying3 y0_6
  obtain ⟨c0_7, r0_7, rfl, y0_7, lf0_8⟩ := leafs_cons lf0_7
  obtain ⟨a0_7, rfl, w0_7⟩ := leaf_int Try.underlying3 y0_7
  obtain rfl := leafs_nil lf0_8
  obtain ⟨cs1, rfl, lf1_0⟩ := open_flat 12 [21, 21, 21, 21, 21, 3, 3, 3] (by kernel_rfl) (by kernel_rfl) (by kernel_rfl) (hval 1 38 v1 rfl rfl) h1
  obtain ⟨c1_0, r1_0, rfl, y1_0, lf1_1⟩ := leafs_cons lf1_0
  obtain ⟨a1_0, rfl, w1_0⟩ := leaf_int Try.underlying21 y1_0
  obtain ⟨c1_1, r1_1, rfl, y1_1, lf1_2⟩ := leafs_cons lf1_1
  obtain ⟨a1_1, rfl, w1_1⟩ := leaf_int Try.underlying21 y1_1
  obtain ⟨c1_2, r1_2, rfl, y1_2, lf1_3⟩ := leafs_cons lf1_2
  obtain ⟨a1_2, rfl, w1_2⟩ := leaf_int Try.underlying21 y1_2
  obtain ⟨c1_3, r1_3, rfl, y1_3, lf1_4⟩ := leafs_cons lf1_3
  obtain ⟨a1_3, rfl, w1_3⟩ := leaf_int Try.underlying21 y1_3
  obtain ⟨c1_4, r1_4, rfl, y1_4, lf1_5⟩ := leafs_cons lf1_4
  obtain ⟨a1_4, rfl, w1_4⟩ := leaf_int Try.underlying21 y1_4
  obtain ⟨c1_5, r1_5, rfl, y1_5, lf1_6⟩ := leafs_cons lf1_5
  obtain ⟨a1_5, rfl, w1_5⟩ := leaf_int Try.underlying3 y1_5
  obtain ⟨c1_6, r1_6, rfl, y1_6, lf1_7⟩ := leafs_cons lf1_6
  obtain ⟨a1_6, rfl, w1_6⟩ := leaf_int Try.underlying3 y1_6
  obtain ⟨c1_7, r1_7, rfl, y1_7, lf1_8⟩ := leafs_cons lf1_7
  obtain ⟨a1_7, rfl, w1_7⟩ := leaf_int Try.underlying3 y1_7
  obtain rfl := leafs_nil lf1_8
  obtain ⟨cs2, rfl, lf2_0⟩ := open_flat 12 [21, 21, 21, 21, 21, 21, 4] (by kernel_rfl) (by kernel_rfl) (by kernel_rfl) (hval 2 40 v2 rfl rfl) h2
  obtain ⟨c2_0, r2_0, rfl, y2_0, lf2_1⟩ := leafs_cons lf2_0
  obtain ⟨a2_0, rfl, w2_0⟩ := leaf_int Try.underlying21 y2_0
  obtain ⟨c2_1, r2_1, rfl, y2_1, lf2_2⟩ := leafs_cons lf2_1
  obtain ⟨a2_1, rfl, w2_1⟩ := leaf_int Try.underlying21 y2_1
  obtain ⟨c2_2, r2_2, rfl, y2_2, lf2_3⟩ := leafs_cons lf2_2
  obtain ⟨a2_2, rfl, w2_2⟩ := leaf_int Try.underlying21 y2_2
  obtain ⟨c2_3, r2_3, rfl, y2_3, lf2_4⟩ := leafs_cons lf2_3
  obtain ⟨a2_3, rfl, w2_3⟩ := leaf_int Try.underlying21 y2_3
  obtain ⟨c2_4, r2_4, rfl, y2_4, lf2_5⟩ := leafs_cons lf2_4
  obtain ⟨a2_4, rfl, w2_4⟩ := leaf_int Try.underlying21 y2_4
  obtain ⟨c2_5, r2_5, rfl, y2_5, lf2_6⟩ := leafs_cons lf2_5
  obtain ⟨a2_5, rfl, w2_5⟩ := leaf_int Try.underlying21 y2_5
  obtain ⟨c2_6, r2_6, rfl, y2_6, lf2_7⟩ := leafs_cons lf2_6
  obtain ⟨a2_6, rfl⟩ := leaf_bool Try.underlying4 y2_6
  obtain rfl := leafs_nil lf2_7
  clear hA0 hval0
  refine (law a0_0 a0_1 a0_2 a0_3 a0_4 a0_5 a0_6 a0_7 a1_0 a1_1 a1_2 a1_3 a1_4 a1_5 a1_6 a1_7 a2_0 a2_1 a2_2 a2_3 a2_4 a2_5 a2_6 W (bounds_i32 w0_0) (bounds_i32 w0_1) (bounds_i32 w0_2) (bounds_i32 w0_3) (bounds_i32 w0_4) (bounds_i64 w0_5) (bounds_i64 w0_6) (bounds_i64 w0_7) (bounds_i32 w1_0) (bounds_i32 w1_1) (bounds_i32 w1_2) (bounds_i32 w1_3) (bounds_i32 w1_4) (bounds_i64 w1_5) (bounds_i64 w1_6) (bounds_i64 w1_7) (bounds_i32 w2_0) (bounds_i32 w2_1) (bounds_i32 w2_2) (bounds_i32 w2_3) (bounds_i32 w2_4) (bounds_i32 w2_5)).mono fun e W' ⟨he, bel⟩ => ?_
  subst he
  exact ⟨_, rfl, _, _, _, [], _, [], hW', trodAll_mk1 (shut_bool Try.underlying4 _), (trodAll_cons_mk (Below.trod laidOut (by kernel_rfl) (of_decide_eq_true (by kernel_rfl)) k0 bel lt0) (trodAll_cons_mk (Below.trod laidOut (by kernel_rfl) (of_decide_eq_true (by kernel_rfl)) k1 bel lt1) (trodAll_cons_mk (Below.trod laidOut (by kernel_rfl) (of_decide_eq_true (by kernel_rfl)) k2 bel lt2) trodAll_mk0))), rfl, bel.frame _, fun h => by cases h⟩
theorem over : Rows.watchBoundsRow.holds Try.pinned (OpenSpec.ofChange Rows.watchBoundsSpec) :=
  OpenClaim.holds_of_wide 4 Try.f4 rfl rfl rfl rfl rfl rfl rfl ⟨rfl, rfl, rfl, rfl, rfl⟩ rfl rfl rfl rfl rfl (by kernel_rfl) Try.func4 (by kernel_rfl)
    (of_decide_eq_true (by kernel_rfl)) (by unfold Func.isWrapper; first | (rw [if_pos (by decide +kernel)]; kernel_rfl) | (rw [if_neg (by decide +kernel)]; exact ⟨rfl, rfl⟩))
    (fun os started H enc _ => lifted os started H enc)
theorem proved : Rows.WatchBoundsSaid := over
#print axioms proved

end Go.Proofs.Ytijoalaijkobpaa.watchBounds
