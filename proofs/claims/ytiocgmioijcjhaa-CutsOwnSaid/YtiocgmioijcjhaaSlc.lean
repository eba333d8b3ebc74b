/- Contracts of the library's small functions on slices: Equal, Index, Contains. -/
import Derived.Test.YtiocgmioijcjhaaOpen
import Derived.Test.YtiocgmioijcjhaaNum
import Derived.Lib.Hide
import Derived.OwnWalk
import Derived.WalkSpells
namespace Go.Proofs.Ytiocgmioijcjhaa
open Go.ChangeShapes Go.WideShapes Go.ChangeAt Go.RowKit
set_option linter.unusedVariables false

/-- a slice of integers that reads as a list -/
def IntsAt (K : IntKind) (w : World) (v : Value) (xs : List Int) : Prop :=
  (xs = [] ∧ (v = .slice none 0 0 ∨ ∃ a cap, v = .slice (some a) 0 cap)) ∨
  (0 < xs.length ∧ ∃ b off cap, v = .slice (some ⟨b, off, none⟩) xs.length cap ∧ xs.length ≤ cap ∧ cap ≤ 9223372036854775807 ∧ ∀ i, i < xs.length → w.cell? ⟨b, off + i, none⟩ = some (.int K (xs.getD i 0)))
theorem IntsAt.drewN {K : IntKind} {w : World} {v : Value} {xs : List Int} (h : IntsAt K w v xs) (m : Nat) : IntsAt K (w.drewN m) v xs := h
theorem IntsAt.later {K : IntKind} {B : Nat} {w w' : World} {v : Value} {xs : List Int} (h : IntsAt K w v xs) (hb : Below B w w') (hB : w.heap.size ≤ B) : IntsAt K w' v xs := by
  rcases h with h | ⟨h0, b, off, cap, hv, hl, hm, hc⟩
  · exact .inl h
  · refine .inr ⟨h0, b, off, cap, hv, hl, hm, fun i hi => ?_⟩
    have := hc i hi
    rw [hb.cell (Nat.lt_of_lt_of_le (World.block_lt_of_cell? _ _ this) hB)]
    exact this
theorem IntsAt.len {K : IntKind} {w : World} {v : Value} {xs : List Int} (h : IntsAt K w v xs) : ∃ a cap, v = .slice a xs.length cap := by
  rcases h with ⟨rfl, rfl | ⟨a, cap, rfl⟩⟩ | ⟨h0, b, off, cap, rfl, -⟩
  · exact ⟨none, 0, rfl⟩
  · exact ⟨_, cap, rfl⟩
  · exact ⟨_, cap, rfl⟩
/-- a slice of bools that reads as a list -/
def BoolsAt (w : World) (v : Value) (xs : List Bool) : Prop :=
  (xs = [] ∧ (v = .slice none 0 0 ∨ ∃ a cap, v = .slice (some a) 0 cap)) ∨
  (0 < xs.length ∧ ∃ b off cap, v = .slice (some ⟨b, off, none⟩) xs.length cap ∧ xs.length ≤ cap ∧ cap ≤ 9223372036854775807 ∧ ∀ i, i < xs.length → w.cell? ⟨b, off + i, none⟩ = some (.bool (xs.getD i false)))
theorem BoolsAt.later {B : Nat} {w w' : World} {v : Value} {xs : List Bool} (h : BoolsAt w v xs) (hb : Below B w w') (hB : w.heap.size ≤ B) : BoolsAt w' v xs := by
  rcases h with h | ⟨h0, b, off, cap, hv, hl, hm, hc⟩
  · exact .inl h
  · refine .inr ⟨h0, b, off, cap, hv, hl, hm, fun i hi => ?_⟩
    have := hc i hi
    rw [hb.cell (Nat.lt_of_lt_of_le (World.block_lt_of_cell? _ _ this) hB)]
    exact this
theorem BoolsAt.len {w : World} {v : Value} {xs : List Bool} (h : BoolsAt w v xs) : ∃ a cap, v = .slice a xs.length cap := by
  rcases h with ⟨rfl, rfl | ⟨a, cap, rfl⟩⟩ | ⟨h0, b, off, cap, rfl, -⟩
  · exact ⟨none, 0, rfl⟩
  · exact ⟨_, cap, rfl⟩
  · exact ⟨_, cap, rfl⟩
theorem own_ints' {K : IntKind} {E : TypeId} {w : World} {base : Nat} {xs : List Int} {v : Value} (h : w.ownsRow base E 1 v xs.length (xs.map (.int K))) : IntsAt K w v xs := by
  by_cases h0 : xs = []
  · subst h0
    rcases h.2 with ⟨hv, -⟩ | ⟨g, cap, cur, hv, -⟩
    · exact .inl ⟨rfl, .inl hv⟩
    · exact .inl ⟨rfl, .inr ⟨_, cap, hv⟩⟩
  · rcases h.2 with ⟨-, hn⟩ | ⟨g, cap, cur, hv, hb, hblk, hl, hm, -, -⟩
    · exact absurd (List.eq_nil_of_length_eq_zero hn) h0
    · subst hv
      refine .inr ⟨List.length_pos_iff.2 h0, g, 0, cap, rfl, hl, by unfold maxLen at hm; exact hm, fun i hi => ?_⟩
      rw [Nat.zero_add, h.cellAt i (by omega)]
      simp [hi]
theorem own_bools' {E : TypeId} {w : World} {base : Nat} {xs : List Bool} {v : Value} (h : w.ownsRow base E 1 v xs.length (xs.map .bool)) : BoolsAt w v xs := by
  by_cases h0 : xs = []
  · subst h0
    rcases h.2 with ⟨hv, -⟩ | ⟨g, cap, cur, hv, -⟩
    · exact .inl ⟨rfl, .inl hv⟩
    · exact .inl ⟨rfl, .inr ⟨_, cap, hv⟩⟩
  · rcases h.2 with ⟨-, hn⟩ | ⟨g, cap, cur, hv, hb, hblk, hl, hm, -, -⟩
    · exact absurd (List.eq_nil_of_length_eq_zero hn) h0
    · subst hv
      refine .inr ⟨List.length_pos_iff.2 h0, g, 0, cap, rfl, hl, by unfold maxLen at hm; exact hm, fun i hi => ?_⟩
      rw [Nat.zero_add, h.cellAt i (by omega)]
      simp [hi]
theorem own_empty (w : World) (E : TypeId) (size : Nat) : (w.alloc (.cells #[] E)).ownsRow w.heap.size E size (.slice (some ⟨w.heap.size, 0, none⟩) 0 0) 0 [] :=
  ⟨by simp, .inr ⟨w.heap.size, 0, #[], rfl, Nat.le_refl _, (by show (w.heap.push _)[w.heap.size]? = _; simp), Nat.le_refl _, by unfold maxLen; omega, by simp, by simp⟩⟩
theorem isRow_ints {K : IntKind} {w : World} {a : Option Addr} {len cap : Nat} {zs : List Int} (h : Open.IsRow K w a len cap zs) : IntsAt K w (.slice a len cap) (zs.take len) ∧ (zs.take len).length = len := by
  by_cases h0 : len = 0
  · subst h0
    refine ⟨.inl ⟨by simp, ?_⟩, by simp⟩
    rcases h with ⟨rfl, -, rfl, -⟩ | ⟨x, rfl, -⟩
    · exact .inl rfl
    · exact .inr ⟨x, cap, rfl⟩
  · obtain ⟨b, off, rfl, hl, hm, hz, hc, -⟩ := h.pos (by omega)
    have e : (zs.take len).length = len := by simp; omega
    refine ⟨.inr ⟨by omega, b, off, cap, by rw [e], by omega, by unfold maxLen at hm; exact hm, fun i hi => ?_⟩, e⟩
    rw [hc i (by omega)]
    rw [List.getD_eq_getElem?_getD, List.getD_eq_getElem?_getD, List.getElem?_take]
    rw [if_pos (by omega)]
theorem isRow_bd {w : World} {a : Option Addr} {len cap : Nat} {zs : List Int} (h : Open.IsRow .i32 w a len cap zs) : ∀ x ∈ zs, -2147483648 ≤ x ∧ x ≤ 2147483647 := by
  rcases h with ⟨-, -, -, rfl⟩ | ⟨x, rfl, hl, hm, hz, hcell, hwz⟩
  · intro x hx; simp at hx
  · intro x hx; exact bounds_i32 (hwz x hx)
theorem isRowB_bools {w : World} {a : Option Addr} {len cap : Nat} {zs : List Bool} (h : Open.IsRowB w a len cap zs) : BoolsAt w (.slice a len cap) (zs.take len) ∧ (zs.take len).length = len := by
  by_cases h0 : len = 0
  · subst h0
    refine ⟨.inl ⟨by simp, ?_⟩, by simp⟩
    rcases h with ⟨rfl, -, rfl, -⟩ | ⟨x, rfl, -⟩
    · exact .inl rfl
    · exact .inr ⟨x, cap, rfl⟩
  · obtain ⟨b, off, rfl, hl, hm, hz, hc⟩ := h.pos (by omega)
    have e : (zs.take len).length = len := by simp; omega
    refine ⟨.inr ⟨by omega, b, off, cap, by rw [e], by omega, by unfold maxLen at hm; exact hm, fun i hi => ?_⟩, e⟩
    rw [hc i (by omega)]
    rw [List.getD_eq_getElem?_getD, List.getD_eq_getElem?_getD, List.getElem?_take]
    rw [if_pos (by omega)]
theorem own_later {w w' : World} {base B : Nat} {e : TypeId} {size : Nat} {v : Value} {n : Nat} {xs : List Value} (h : w.ownsRow base e size v n xs) (hb : Below B w w') (hB : w.heap.size ≤ B) : w'.ownsRow base e size v n xs := by
  obtain ⟨h0, h1 | ⟨g, cap, cur, e1, e2, e3, e4⟩⟩ := h
  · exact ⟨h0, .inl h1⟩
  · refine ⟨h0, .inr ⟨g, cap, cur, e1, e2, ?_, e4⟩⟩
    rw [hb.block g (Nat.lt_of_lt_of_le (Array.getElem?_eq_some_iff.1 e3).1 hB)]
    exact e3
theorem ints_nil {K : IntKind} {w w' : World} {v : Value} (h : IntsAt K w v []) : IntsAt K w' v [] := by
  rcases h with h | ⟨h, -⟩
  · exact .inl h
  · exact absurd h (by decide)
theorem eq_of_getD {α : Type} (d : α) {xs ys : List α} (hl : xs.length = ys.length) (h : ∀ j, j < xs.length → xs.getD j d = ys.getD j d) : xs = ys := by
  refine List.ext_getElem? fun j => ?_
  by_cases hj : j < xs.length
  · have := h j hj
    rw [List.getD_eq_getElem?_getD, List.getD_eq_getElem?_getD] at this
    rw [List.getElem?_eq_getElem hj, List.getElem?_eq_getElem (by omega)] at this ⊢
    simpa using this
  · rw [List.getElem?_eq_none (by omega), List.getElem?_eq_none (by omega)]
/-- where a number stands first in a list -/
def idxI (xs : List Int) (v : Int) : Int := match xs.findIdx? (· == v) with | some k => k | none => -1
theorem idxI_at {xs : List Int} {v : Int} {k : Nat} (hk : k < xs.length) (h : xs.getD k 0 = v) (hb : ∀ j, j < k → xs.getD j 0 ≠ v) : idxI xs v = k := by
  unfold idxI
  have : xs.findIdx? (· == v) = some k := by
    rw [List.findIdx?_eq_some_iff_getElem]
    refine ⟨hk, ?_, fun j hj => ?_⟩
    · rw [List.getD_eq_getElem?_getD, List.getElem?_eq_getElem hk] at h
      simpa using h
    · have h2 := hb j hj
      rw [List.getD_eq_getElem?_getD, List.getElem?_eq_getElem (by omega)] at h2
      simpa using h2
  rw [this]
theorem idxI_none {xs : List Int} {v : Int} (hb : ∀ j, j < xs.length → xs.getD j 0 ≠ v) : idxI xs v = -1 := by
  unfold idxI
  have : xs.findIdx? (· == v) = none := by
    rw [List.findIdx?_eq_none_iff]
    intro x hx
    obtain ⟨j, hj, rfl⟩ := List.getElem_of_mem hx
    have h2 := hb j hj
    rw [List.getD_eq_getElem?_getD, List.getElem?_eq_getElem hj] at h2
    simpa using h2
  rw [this]
def EqRel {α : Type} (d : α) (w : World) (xs ys : List α) (i : Value) (wr : World) : Prop := ∃ k m : Nat, k ≤ xs.length ∧ i = .int .i64 k ∧ wr = w.drewN m ∧ ∀ j, j < k → xs.getD j d = ys.getD j d
theorem EqRel.step {α : Type} {d : α} {xs ys : List α} {k : Nat} (h : ∀ j, j < k → xs.getD j d = ys.getD j d) (hk : xs.getD k d = ys.getD k d) : ∀ j, j < k + 1 → xs.getD j d = ys.getD j d := fun j hj => by
  by_cases e : j = k
  · rw [e]; exact hk
  · exact h j (by omega)
def IdxRel {α : Type} (d : α) (xs : List α) (v : α) (i : Value) : Prop := ∃ k : Nat, k ≤ xs.length ∧ i = .int .i64 k ∧ ∀ j, j < k → xs.getD j d ≠ v
theorem IdxRel.step {α : Type} {d v : α} {xs : List α} {k : Nat} (h : ∀ j, j < k → xs.getD j d ≠ v) (hk : xs.getD k d ≠ v) : ∀ j, j < k + 1 → xs.getD j d ≠ v := fun j hj => by
  by_cases e : j = k
  · rw [e]; exact hk
  · exact h j (by omega)
/-- behind a call of Equal -/
def EqPost {α : Type} [DecidableEq α] (w : World) (xs ys : List α) (e : Ending) (w' : World) : Prop := ∃ m, e = .returned (.bool (decide (xs = ys))) ∧ w' = w.drewN m

set_option maxHeartbeats 2000000 in
theorem equal_i64 (xs ys : List Int) (v u : Value) (w : World) (hv : IntsAt .i64 w v xs) (hu : IntsAt .i64 w u ys) (hx : xs.length ≤ 9223372036854775807) (hy : ys.length ≤ 9223372036854775807) :
    Calls Try.prog 15 #[v, u] w (EqPost w xs ys) := by
  by_cases hl : xs.length = ys.length
  · by_cases h0 : xs = []
    · subst h0
      obtain rfl : ys = [] := List.eq_nil_of_length_eq_zero (by simpa using hl.symm)
      obtain ⟨a, c, rfl⟩ := hv.len
      obtain ⟨b, d, rfl⟩ := hu.len
      clear hv hu hl hx hy
      simp only [List.length_nil]
      have hd : ¬ ((0 : Int) < 0) := by omega
      go_enter Try.func15, Try.ntmps15
      go_wp2
      go_loop [13] (fun i => i = .int .i64 0) (fun i => 0)
      case atStart => rfl
      case round =>
        subst hrel
        go_wp2
        go_ret
        exact ⟨0, by simp, rfl⟩
    · rcases hv with ⟨h1, -⟩ | ⟨h1, b, off, cap, rfl, hl1, hm1, hc⟩
      · exact absurd h1 h0
      rcases hu with ⟨h2, -⟩ | ⟨h2, b2, off2, cap2, rfl, hl2, hm2, hc2⟩
      · rw [h2] at hl; simp at hl; exact absurd hl h0
      have HC := Lib.hid hc; have HC2 := Lib.hid hc2; have HL := Lib.hid hl
      rw [← hl] at h2 hl2 hy ⊢
      clear hc hc2 hl h0
      have HL' := HL
      go_enter Try.func15, Try.ntmps15
      go_wp2
      go_loopw [13] (fun i wr => EqRel 0 w xs ys i wr) (fun i _ => xs.length - (intOf i).toNat)
      case atStart => exact ⟨0, 0, by omega, rfl, rfl, fun j hj => absurd hj (by omega)⟩
      case round =>
        obtain ⟨k, m, hk, rfl, rfl, hsame⟩ := hrel
        have HS := Lib.hid hsame
        clear hsame
        by_cases hlt : k < xs.length
        · have c1 := HC.out k hlt
          have c2 := HC2.out k (by rw [← HL.out]; exact hlt)
          obtain ⟨p, hp⟩ : ∃ p, xs.getD k 0 = p := ⟨_, rfl⟩
          obtain ⟨q, hq⟩ : ∃ q, ys.getD k 0 = q := ⟨_, rfl⟩
          rw [hp] at c1; rw [hq] at c2
          have HP := Lib.hid hp; have HQ := Lib.hid hq
          clear hp hq
          have d1 : (k : Int) < (xs.length : Int) := by omega
          by_cases hpq : p = q
          · subst hpq
            have dd : (p != p) = false := by simp
            go_wp2
            go_quiet (fail)
            go_wp2
            go_roundw
            case rel => exact ⟨k + 1, _, by omega, by go_num, rfl, EqRel.step HS.out (by rw [HP.out, HQ.out])⟩
            case measure => simp [intOf]; omega
          · have dd : (p != q) = true := by simpa using hpq
            have HN : Hid (decide (xs = ys) = false) := (decide_eq_false (fun e => hpq (by rw [← HP.out, ← HQ.out, e])) : decide (xs = ys) = false)
            clear hpq
            go_wp2
            go_quiet (fail)
            go_wp2
            go_ret
            exact ⟨m + nq, by rw [HN.out]; rfl, by first | rfl | exact World.drewN_drewN _ _ _⟩
        · obtain rfl : k = xs.length := by omega
          have HN : Hid (decide (xs = ys) = true) := (decide_eq_true (eq_of_getD 0 HL.out HS.out) : decide (xs = ys) = true)
          go_wp2
          go_ret
          exact ⟨m, by rw [HN.out]; rfl, rfl⟩
  · obtain ⟨a, c, rfl⟩ := hv.len
    obtain ⟨b, d, rfl⟩ := hu.len
    have hd : ((xs.length : Int) != (ys.length : Int)) = true := by rw [bne_iff_ne]; omega
    have HN : Hid (decide (xs = ys) = false) := (decide_eq_false (fun e => hl (by rw [e])) : decide (xs = ys) = false)
    clear hv hu hl
    go_enter Try.func15, Try.ntmps15
    go_wp2
    go_ret
    exact ⟨0, by rw [HN.out]; rfl, rfl⟩

set_option maxHeartbeats 2000000 in
theorem equal_u16 (xs ys : List Int) (v u : Value) (w : World) (hv : IntsAt .u16 w v xs) (hu : IntsAt .u16 w u ys) (hx : xs.length ≤ 9223372036854775807) (hy : ys.length ≤ 9223372036854775807) :
    Calls Try.prog 17 #[v, u] w (EqPost w xs ys) := by
  by_cases hl : xs.length = ys.length
  · by_cases h0 : xs = []
    · subst h0
      obtain rfl : ys = [] := List.eq_nil_of_length_eq_zero (by simpa using hl.symm)
      obtain ⟨a, c, rfl⟩ := hv.len
      obtain ⟨b, d, rfl⟩ := hu.len
      clear hv hu hl hx hy
      simp only [List.length_nil]
      have hd : ¬ ((0 : Int) < 0) := by omega
      go_enter Try.func17, Try.ntmps17
      go_wp2
      go_loop [13] (fun i => i = .int .i64 0) (fun i => 0)
      case atStart => rfl
      case round =>
        subst hrel
        go_wp2
        go_ret
        exact ⟨0, by simp, rfl⟩
    · rcases hv with ⟨h1, -⟩ | ⟨h1, b, off, cap, rfl, hl1, hm1, hc⟩
      · exact absurd h1 h0
      rcases hu with ⟨h2, -⟩ | ⟨h2, b2, off2, cap2, rfl, hl2, hm2, hc2⟩
      · rw [h2] at hl; simp at hl; exact absurd hl h0
      have HC := Lib.hid hc; have HC2 := Lib.hid hc2; have HL := Lib.hid hl
      rw [← hl] at h2 hl2 hy ⊢
      clear hc hc2 hl h0
      have HL' := HL
      go_enter Try.func17, Try.ntmps17
      go_wp2
      go_loopw [13] (fun i wr => EqRel 0 w xs ys i wr) (fun i _ => xs.length - (intOf i).toNat)
      case atStart => exact ⟨0, 0, by omega, rfl, rfl, fun j hj => absurd hj (by omega)⟩
      case round =>
        obtain ⟨k, m, hk, rfl, rfl, hsame⟩ := hrel
        have HS := Lib.hid hsame
        clear hsame
        by_cases hlt : k < xs.length
        · have c1 := HC.out k hlt
          have c2 := HC2.out k (by rw [← HL.out]; exact hlt)
          obtain ⟨p, hp⟩ : ∃ p, xs.getD k 0 = p := ⟨_, rfl⟩
          obtain ⟨q, hq⟩ : ∃ q, ys.getD k 0 = q := ⟨_, rfl⟩
          rw [hp] at c1; rw [hq] at c2
          have HP := Lib.hid hp; have HQ := Lib.hid hq
          clear hp hq
          have d1 : (k : Int) < (xs.length : Int) := by omega
          by_cases hpq : p = q
          · subst hpq
            have dd : (p != p) = false := by simp
            go_wp2
            go_quiet (fail)
            go_wp2
            go_roundw
            case rel => exact ⟨k + 1, _, by omega, by go_num, rfl, EqRel.step HS.out (by rw [HP.out, HQ.out])⟩
            case measure => simp [intOf]; omega
          · have dd : (p != q) = true := by simpa using hpq
            have HN : Hid (decide (xs = ys) = false) := (decide_eq_false (fun e => hpq (by rw [← HP.out, ← HQ.out, e])) : decide (xs = ys) = false)
            clear hpq
            go_wp2
            go_quiet (fail)
            go_wp2
            go_ret
            exact ⟨m + nq, by rw [HN.out]; rfl, by first | rfl | exact World.drewN_drewN _ _ _⟩
        · obtain rfl : k = xs.length := by omega
          have HN : Hid (decide (xs = ys) = true) := (decide_eq_true (eq_of_getD 0 HL.out HS.out) : decide (xs = ys) = true)
          go_wp2
          go_ret
          exact ⟨m, by rw [HN.out]; rfl, rfl⟩
  · obtain ⟨a, c, rfl⟩ := hv.len
    obtain ⟨b, d, rfl⟩ := hu.len
    have hd : ((xs.length : Int) != (ys.length : Int)) = true := by rw [bne_iff_ne]; omega
    have HN : Hid (decide (xs = ys) = false) := (decide_eq_false (fun e => hl (by rw [e])) : decide (xs = ys) = false)
    clear hv hu hl
    go_enter Try.func17, Try.ntmps17
    go_wp2
    go_ret
    exact ⟨0, by rw [HN.out]; rfl, rfl⟩

theorem info_i64 : (Try.prog.info? 3).map (fun i => (i.zero, i.size, i.bytes)) = some (some (.int .i64 0), 1, 8) := by kernel_rfl
/-- behind a copy -/
def ClonePost_i64 (w : World) (xs : List Int) (e : Ending) (w' : World) : Prop := ∃ v, e = .returned v ∧ w'.ownsRow w.heap.size 3 1 v xs.length (xs.map (.int .i64)) ∧ Below w.heap.size w w'
set_option maxHeartbeats 2000000 in
theorem clone_i64 (xs : List Int) (v : Value) (w : World) (hv : IntsAt .i64 w v xs) (hx : xs.length * 8 ≤ 140737488351232) :
    Calls Try.prog 35 #[v] w (ClonePost_i64 w xs) := by
  obtain ⟨i0, hi, hz0, hz1, hz2⟩ := info_parts info_i64
  have hnil := @Lib.run_eql_slice_nil Try.prog
  have hw0 : w.heap.size ≤ (w.alloc (.cells #[] 3)).heap.size := by simp
  rcases hv with ⟨rfl, rfl | ⟨a, cap, rfl⟩⟩ | ⟨h1, b, off, cap, rfl, hl1, hm1, hc⟩
  · go_enter Try.func35, Try.ntmps35
    go_wp2
    go_ret
    exact ⟨_, rfl, World.ownsRow_nil _ _ _ _, Below.refl _ _⟩
  · have how := own_empty w 3 1
    go_enter Try.func35, Try.ntmps35
    go_wp2_with (at_builtin; refine wpList_append_own _ rfl _ _ 28 rfl w.heap.size 3 i0 (.int .i64 0) 1 8 Try.underlying28 hi hz0 hz1 hz2 rfl (by decide) _ _ _ rfl how a 0 cap [] rfl rfl (by intro j u h; cases j <;> simp at h) (by simp) (by unfold maxLen; omega) (by omega) hw0 ?_; intro v' w1 hown' hgrow _)
    go_ret
    exact ⟨_, rfl, hown', ((Below.refl _ _).alloc (Nat.le_refl _) _).grown hgrow hw0 (fun k e => by cases e; exact Nat.le_refl _)⟩
  · have how := own_empty w 3 1
    have hsrc : ∀ (j : Nat) u, (xs.map (.int .i64))[j]? = some u → (w.alloc (.cells #[] 3)).cell? ((⟨b, off, none⟩ : Addr).add j) = some u := by
      intro j u h
      rw [List.getElem?_map] at h
      by_cases hj : j < xs.length
      · rw [List.getElem?_eq_getElem hj] at h
        simp only [Option.map_some, Option.some.injEq] at h
        subst h
        have h2 := hc j hj
        rw [List.getD_eq_getElem?_getD, List.getElem?_eq_getElem hj] at h2
        rw [World.cell?_alloc_lt _ _ _ (by have := World.block_lt_of_cell? _ _ h2; cases j <;> simpa [Addr.add] using this)]
        cases j <;> simpa [Addr.add] using h2
      · rw [List.getElem?_eq_none (by omega)] at h; simp at h
    have HS := Lib.hid hsrc
    clear hc hsrc
    go_enter Try.func35, Try.ntmps35
    go_wp2_with (at_builtin; refine wpList_append_own _ rfl _ _ 28 rfl w.heap.size 3 i0 (.int .i64 0) 1 8 Try.underlying28 hi hz0 hz1 hz2 rfl (by decide) _ _ _ rfl how ⟨b, off, none⟩ xs.length cap (xs.map (.int .i64)) rfl (by simp) HS.out (by intro u hu; obtain ⟨x, _, rfl⟩ := List.mem_map.1 hu; rfl) (by unfold maxLen; omega) (by omega) hw0 ?_; intro v' w1 hown' hgrow _)
    go_ret
    rw [Nat.zero_add, List.nil_append] at hown'
    exact ⟨_, rfl, hown', ((Below.refl _ _).alloc (Nat.le_refl _) _).grown hgrow hw0 (fun k e => by cases e; exact Nat.le_refl _)⟩

theorem info_u16 : (Try.prog.info? 23).map (fun i => (i.zero, i.size, i.bytes)) = some (some (.int .u16 0), 1, 2) := by kernel_rfl
/-- behind a copy -/
def ClonePost_u16 (w : World) (xs : List Int) (e : Ending) (w' : World) : Prop := ∃ v, e = .returned v ∧ w'.ownsRow w.heap.size 23 1 v xs.length (xs.map (.int .u16)) ∧ Below w.heap.size w w'
set_option maxHeartbeats 2000000 in
theorem clone_u16 (xs : List Int) (v : Value) (w : World) (hv : IntsAt .u16 w v xs) (hx : xs.length * 2 ≤ 140737488351232) :
    Calls Try.prog 26 #[v] w (ClonePost_u16 w xs) := by
  obtain ⟨i0, hi, hz0, hz1, hz2⟩ := info_parts info_u16
  have hnil := @Lib.run_eql_slice_nil Try.prog
  have hw0 : w.heap.size ≤ (w.alloc (.cells #[] 23)).heap.size := by simp
  rcases hv with ⟨rfl, rfl | ⟨a, cap, rfl⟩⟩ | ⟨h1, b, off, cap, rfl, hl1, hm1, hc⟩
  · go_enter Try.func26, Try.ntmps26
    go_wp2
    go_ret
    exact ⟨_, rfl, World.ownsRow_nil _ _ _ _, Below.refl _ _⟩
  · have how := own_empty w 23 1
    go_enter Try.func26, Try.ntmps26
    go_wp2_with (at_builtin; refine wpList_append_own _ rfl _ _ 37 rfl w.heap.size 23 i0 (.int .u16 0) 1 2 Try.underlying37 hi hz0 hz1 hz2 rfl (by decide) _ _ _ rfl how a 0 cap [] rfl rfl (by intro j u h; cases j <;> simp at h) (by simp) (by unfold maxLen; omega) (by omega) hw0 ?_; intro v' w1 hown' hgrow _)
    go_ret
    exact ⟨_, rfl, hown', ((Below.refl _ _).alloc (Nat.le_refl _) _).grown hgrow hw0 (fun k e => by cases e; exact Nat.le_refl _)⟩
  · have how := own_empty w 23 1
    have hsrc : ∀ (j : Nat) u, (xs.map (.int .u16))[j]? = some u → (w.alloc (.cells #[] 23)).cell? ((⟨b, off, none⟩ : Addr).add j) = some u := by
      intro j u h
      rw [List.getElem?_map] at h
      by_cases hj : j < xs.length
      · rw [List.getElem?_eq_getElem hj] at h
        simp only [Option.map_some, Option.some.injEq] at h
        subst h
        have h2 := hc j hj
        rw [List.getD_eq_getElem?_getD, List.getElem?_eq_getElem hj] at h2
        rw [World.cell?_alloc_lt _ _ _ (by have := World.block_lt_of_cell? _ _ h2; cases j <;> simpa [Addr.add] using this)]
        cases j <;> simpa [Addr.add] using h2
      · rw [List.getElem?_eq_none (by omega)] at h; simp at h
    have HS := Lib.hid hsrc
    clear hc hsrc
    go_enter Try.func26, Try.ntmps26
    go_wp2_with (at_builtin; refine wpList_append_own _ rfl _ _ 37 rfl w.heap.size 23 i0 (.int .u16 0) 1 2 Try.underlying37 hi hz0 hz1 hz2 rfl (by decide) _ _ _ rfl how ⟨b, off, none⟩ xs.length cap (xs.map (.int .u16)) rfl (by simp) HS.out (by intro u hu; obtain ⟨x, _, rfl⟩ := List.mem_map.1 hu; rfl) (by unfold maxLen; omega) (by omega) hw0 ?_; intro v' w1 hown' hgrow _)
    go_ret
    rw [Nat.zero_add, List.nil_append] at hown'
    exact ⟨_, rfl, hown', ((Below.refl _ _).alloc (Nat.le_refl _) _).grown hgrow hw0 (fun k e => by cases e; exact Nat.le_refl _)⟩

end Go.Proofs.Ytiocgmioijcjhaa
