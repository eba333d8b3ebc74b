/- What the functions of package link compute. -/
import Derived.Test.YtglagndpholejaaFrameSame
import Derived.OneCell
namespace Go.Proofs.Ytglagndpholejaa
open Go.ChangeShapes Go.WideShapes Go.ChangeAt Go.RowKit
set_option linter.unusedVariables false

/-- is a number newer than another one -/
def newB (a b : Int) : Bool := decide (1 ≤ (a - b) % 256 ∧ (a - b) % 256 ≤ 127)
theorem new_wrap (x : Int) (h0 : 0 ≤ x) (h1 : x ≤ 255) : (0 < IntKind.i8.wrap x) ↔ (1 ≤ x ∧ x ≤ 127) := by
  simp only [IntKind.wrap, IntKind.bits, IntKind.signed]; simp; split <;> omega
theorem frameNewer_any (a b : Int) (w : World) :
    Calls Try.prog 64 #[.int .u8 a, .int .u8 b] w fun e w' => e = .returned (.bool (newB a b)) ∧ w = w' := by
  go_enter Try.func64, Try.ntmps64
  go_wp2
  go_ret
  refine ⟨ret_bool ?_, rfl⟩
  unfold newB
  exact decide_eq_decide.2 (new_wrap _ (by omega) (by omega))

/-- is a link right -/
def linkChk (k l q : Int) (n : Nat) (h : Bool) (g d : Int) : Int :=
  if g < 0 ∨ 100 < g ∨ d < 0 ∨ 10000 < d then 1 else if h = true then frameChk k l n else if k ≠ 0 ∨ l ≠ 0 ∨ q ≠ 0 ∨ 0 < n then 4 else 0
abbrev linkV (k l q : Int) (v : Value) (h : Bool) (g d : Int) : Value := .agg #[.int .i64 k, .int .i64 l, .int .u8 q, v, .bool h, .int .i64 g, .int .i64 d]
def I64B (x : Int) : Prop := -9223372036854775808 ≤ x ∧ x ≤ 9223372036854775807
set_option maxHeartbeats 4000000 in
set_option maxRecDepth 100000 in
theorem linkCheck_any (k l q : Int) (a : Option Addr) (n cap : Nat) (h : Bool) (g d : Int) (w : World) (hk : I64B k) (hl : I64B l) (hn : n ≤ 9223372036854775807) :
    Calls Try.prog 62 #[linkV k l q (.slice a n cap) h g d] w fun e w' => e = .returned (.int .i64 (linkChk k l q n h g d)) ∧ Below w.heap.size w w' := by
  have hcase : (g < 0 ∧ linkChk k l q n h g d = 1) ∨ ((decide (g < 0) = false ∧ 100 < g) ∧ linkChk k l q n h g d = 1) ∨ ((decide (g < 0) = false ∧ decide (100 < g) = false ∧ d < 0) ∧ linkChk k l q n h g d = 1) ∨ ((decide (g < 0) = false ∧ decide (100 < g) = false ∧ decide (d < 0) = false ∧ 10000 < d) ∧ linkChk k l q n h g d = 1) ∨
      ((decide (g < 0) = false ∧ decide (100 < g) = false ∧ decide (d < 0) = false ∧ decide (10000 < d) = false) ∧ linkChk k l q n h g d = if h = true then frameChk k l n else if k ≠ 0 ∨ l ≠ 0 ∨ q ≠ 0 ∨ 0 < n then 4 else 0) := by
    simp only [decide_eq_false_iff_not]
    unfold linkChk
    by_cases h1 : g < 0
    · exact .inl ⟨h1, if_pos (by omega)⟩
    by_cases h2 : 100 < g
    · exact .inr (.inl ⟨⟨h1, h2⟩, if_pos (by omega)⟩)
    by_cases h3 : d < 0
    · exact .inr (.inr (.inl ⟨⟨h1, h2, h3⟩, if_pos (by omega)⟩))
    by_cases h4 : 10000 < d
    · exact .inr (.inr (.inr (.inl ⟨⟨h1, h2, h3, h4⟩, if_pos (by omega)⟩)))
    exact .inr (.inr (.inr (.inr ⟨⟨h1, h2, h3, h4⟩, if_neg (by omega)⟩)))
  unfold I64B at hk hl
  rcases hcase with ⟨h1, hv⟩ | ⟨⟨h1, h2⟩, hv⟩ | ⟨⟨h1, h2, h3⟩, hv⟩ | ⟨⟨h1, h2, h3, h4⟩, hv⟩ | ⟨⟨h1, h2, h3, h4⟩, hv⟩
  rotate_right
  · cases h
    · have hcase2 : (((k != 0) = true) ∧ linkChk k l q n false g d = 4) ∨ (((k != 0) = false ∧ (l != 0) = true) ∧ linkChk k l q n false g d = 4) ∨ (((k != 0) = false ∧ (l != 0) = false ∧ (q != 0) = true) ∧ linkChk k l q n false g d = 4) ∨
          (((k != 0) = false ∧ (l != 0) = false ∧ (q != 0) = false ∧ 0 < n) ∧ linkChk k l q n false g d = 4) ∨ (((k != 0) = false ∧ (l != 0) = false ∧ (q != 0) = false ∧ n = 0) ∧ linkChk k l q n false g d = 0) := by
        rw [hv, if_neg (by decide)]
        simp only [bne_iff_ne, bne_eq_false_iff_eq]
        by_cases e1 : k = 0
        · by_cases e2 : l = 0
          · by_cases e3 : q = 0
            · by_cases e4 : 0 < n
              · exact .inr (.inr (.inr (.inl ⟨⟨e1, e2, e3, e4⟩, if_pos (by omega)⟩)))
              · exact .inr (.inr (.inr (.inr ⟨⟨e1, e2, e3, by omega⟩, if_neg (by omega)⟩)))
            · exact .inr (.inr (.inl ⟨⟨e1, e2, e3⟩, if_pos (by omega)⟩))
          · exact .inr (.inl ⟨⟨e1, e2⟩, if_pos (by omega)⟩)
        · exact .inl ⟨e1, if_pos (by omega)⟩
      clear hv
      rcases hcase2 with ⟨f1, hv⟩ | ⟨⟨f1, f2⟩, hv⟩ | ⟨⟨f1, f2, f3⟩, hv⟩ | ⟨⟨f1, f2, f3, f4⟩, hv⟩ | ⟨⟨f1, f2, f3, f4⟩, hv⟩
      · rw [hv]; clear hv
        go_enter Try.func62, Try.ntmps62
        go_wp2
        go_ret
        exact ⟨rfl, by repeat (first | with_reducible exact Below.refl _ _ | ((with_reducible refine Below.setCell ?_ ?_ _); rotate_left; (· first | (simp; done) | omega | (simp; omega))) | with_reducible refine below_drewN ?_ _ | with_reducible refine Below.drew ?_ | ((with_reducible refine Below.alloc ?_ ?_ _); rotate_left; (· first | (simp; done) | omega | (simp; omega))) | exact Below.refl _ _ | refine Below.setCell ?_ (by first | (simp; done) | omega | (simp; omega)) _ | refine below_drewN ?_ _ | refine Below.drew ?_ | refine Below.alloc ?_ (by first | (simp; done) | omega | (simp; omega)) _)⟩
      · rw [hv]; clear hv
        go_enter Try.func62, Try.ntmps62
        go_wp2
        go_ret
        exact ⟨rfl, by repeat (first | with_reducible exact Below.refl _ _ | ((with_reducible refine Below.setCell ?_ ?_ _); rotate_left; (· first | (simp; done) | omega | (simp; omega))) | with_reducible refine below_drewN ?_ _ | with_reducible refine Below.drew ?_ | ((with_reducible refine Below.alloc ?_ ?_ _); rotate_left; (· first | (simp; done) | omega | (simp; omega))) | exact Below.refl _ _ | refine Below.setCell ?_ (by first | (simp; done) | omega | (simp; omega)) _ | refine below_drewN ?_ _ | refine Below.drew ?_ | refine Below.alloc ?_ (by first | (simp; done) | omega | (simp; omega)) _)⟩
      · rw [hv]; clear hv
        go_enter Try.func62, Try.ntmps62
        go_wp2
        go_ret
        exact ⟨rfl, by repeat (first | with_reducible exact Below.refl _ _ | ((with_reducible refine Below.setCell ?_ ?_ _); rotate_left; (· first | (simp; done) | omega | (simp; omega))) | with_reducible refine below_drewN ?_ _ | with_reducible refine Below.drew ?_ | ((with_reducible refine Below.alloc ?_ ?_ _); rotate_left; (· first | (simp; done) | omega | (simp; omega))) | exact Below.refl _ _ | refine Below.setCell ?_ (by first | (simp; done) | omega | (simp; omega)) _ | refine below_drewN ?_ _ | refine Below.drew ?_ | refine Below.alloc ?_ (by first | (simp; done) | omega | (simp; omega)) _)⟩
      · rw [hv]; clear hv
        have f5 : decide (0 < n) = true := decide_eq_true f4
        have f6 : decide ((0 : Int) < (n : Int)) = true := decide_eq_true (by omega)
        go_enter Try.func62, Try.ntmps62
        go_wp2
        go_ret
        exact ⟨rfl, by repeat (first | with_reducible exact Below.refl _ _ | ((with_reducible refine Below.setCell ?_ ?_ _); rotate_left; (· first | (simp; done) | omega | (simp; omega))) | with_reducible refine below_drewN ?_ _ | with_reducible refine Below.drew ?_ | ((with_reducible refine Below.alloc ?_ ?_ _); rotate_left; (· first | (simp; done) | omega | (simp; omega))) | exact Below.refl _ _ | refine Below.setCell ?_ (by first | (simp; done) | omega | (simp; omega)) _ | refine below_drewN ?_ _ | refine Below.drew ?_ | refine Below.alloc ?_ (by first | (simp; done) | omega | (simp; omega)) _)⟩
      · rw [hv]; clear hv
        subst f4
        go_enter Try.func62, Try.ntmps62
        go_wp2
        go_ret
        exact ⟨rfl, by repeat (first | with_reducible exact Below.refl _ _ | ((with_reducible refine Below.setCell ?_ ?_ _); rotate_left; (· first | (simp; done) | omega | (simp; omega))) | with_reducible refine below_drewN ?_ _ | with_reducible refine Below.drew ?_ | ((with_reducible refine Below.alloc ?_ ?_ _); rotate_left; (· first | (simp; done) | omega | (simp; omega))) | exact Below.refl _ _ | refine Below.setCell ?_ (by first | (simp; done) | omega | (simp; omega)) _ | refine below_drewN ?_ _ | refine Below.drew ?_ | refine Below.alloc ?_ (by first | (simp; done) | omega | (simp; omega)) _)⟩
    · rw [hv, if_pos rfl]; clear hv
      obtain ⟨c, hc⟩ : ∃ c, frameChk k l n = c := ⟨_, rfl⟩
      have HC := Lib.hid hc
      clear hc
      rw [HC.out]
      go_enter Try.func62, Try.ntmps62
      go_wp2_with fail
      refine (frameCheck_any k l q a n cap _ hk hl hn).mono ?_
      rw [HC.out]
      rintro e1 w1 ⟨rfl, rfl⟩
      go_wp2
      go_ret
      exact ⟨rfl, by repeat (first | with_reducible exact Below.refl _ _ | ((with_reducible refine Below.setCell ?_ ?_ _); rotate_left; (· first | (simp; done) | omega | (simp; omega))) | with_reducible refine below_drewN ?_ _ | with_reducible refine Below.drew ?_ | ((with_reducible refine Below.alloc ?_ ?_ _); rotate_left; (· first | (simp; done) | omega | (simp; omega))) | exact Below.refl _ _ | refine Below.setCell ?_ (by first | (simp; done) | omega | (simp; omega)) _ | refine below_drewN ?_ _ | refine Below.drew ?_ | refine Below.alloc ?_ (by first | (simp; done) | omega | (simp; omega)) _)⟩
  all_goals
    rw [hv]; clear hv
    go_enter Try.func62, Try.ntmps62
    go_wp2
    go_ret
    exact ⟨rfl, by repeat (first | with_reducible exact Below.refl _ _ | ((with_reducible refine Below.setCell ?_ ?_ _); rotate_left; (· first | (simp; done) | omega | (simp; omega))) | with_reducible refine below_drewN ?_ _ | with_reducible refine Below.drew ?_ | ((with_reducible refine Below.alloc ?_ ?_ _); rotate_left; (· first | (simp; done) | omega | (simp; omega))) | exact Below.refl _ _ | refine Below.setCell ?_ (by first | (simp; done) | omega | (simp; omega)) _ | refine below_drewN ?_ _ | refine Below.drew ?_ | refine Below.alloc ?_ (by first | (simp; done) | omega | (simp; omega)) _)⟩

/-- a link lies in a block -/
def LinkAt (w : World) (b : Nat) (k l q : Int) (v : Value) (h : Bool) (g d : Int) : Prop :=
  w.cell? ⟨b, 0, none⟩ = some (.int .i64 k) ∧ w.cell? ⟨b, 1, none⟩ = some (.int .i64 l) ∧ w.cell? ⟨b, 2, none⟩ = some (.int .u8 q) ∧ w.cell? ⟨b, 3, none⟩ = some v ∧
  w.cell? ⟨b, 4, none⟩ = some (.bool h) ∧ w.cell? ⟨b, 5, none⟩ = some (.int .i64 g) ∧ w.cell? ⟨b, 6, none⟩ = some (.int .i64 d) ∧ (∀ o, w.frozen? ⟨b, o, none⟩ = false)
theorem LinkAt.lt {w : World} {b : Nat} {k l q : Int} {v : Value} {h : Bool} {g d : Int} (H : LinkAt w b k l q v h g d) : b < w.heap.size := by
  have := World.block_lt_of_cell? _ _ H.1
  simpa using this
theorem LinkAt.later {w w' : World} {b B : Nat} {k l q : Int} {v : Value} {h : Bool} {g d : Int} (H : LinkAt w b k l q v h g d) (hB : Below B w w') (hb : b < B) : LinkAt w' b k l q v h g d := by
  obtain ⟨h0, h1, h2, h3, h4, h5, h6, h7⟩ := H
  exact ⟨(hB.cell hb).trans h0, (hB.cell hb).trans h1, (hB.cell hb).trans h2, (hB.cell hb).trans h3, (hB.cell hb).trans h4, (hB.cell hb).trans h5, (hB.cell hb).trans h6, fun o => (hB.frozen hb).trans (h7 o)⟩
theorem LinkAt.other {w : World} {b c o : Nat} {k l q : Int} {v : Value} {h : Bool} {g d : Int} (H : LinkAt w b k l q v h g d) (hne : c ≠ b) (u : Value) : LinkAt (w.setCell ⟨c, o, none⟩ u) b k l q v h g d := by
  have ne : ∀ {x : Nat}, (⟨c, o, none⟩ : Addr) ≠ ⟨b, x, none⟩ := fun e => hne (congrArg Addr.block e)
  obtain ⟨h0, h1, h2, h3, h4, h5, h6, h7⟩ := H
  exact ⟨(World.cell?_setCell_other _ _ _ _ ne).trans h0, (World.cell?_setCell_other _ _ _ _ ne).trans h1, (World.cell?_setCell_other _ _ _ _ ne).trans h2, (World.cell?_setCell_other _ _ _ _ ne).trans h3, (World.cell?_setCell_other _ _ _ _ ne).trans h4, (World.cell?_setCell_other _ _ _ _ ne).trans h5, (World.cell?_setCell_other _ _ _ _ ne).trans h6, fun x => by rw [World.frozen?_setCell]; exact h7 x⟩
/-- a link is written over another one -/
def wrLink (w : World) (b : Nat) (k l q : Int) (v : Value) (h : Bool) (g d : Int) : World :=
  ((((((w.setCell ⟨b, 0, none⟩ (.int .i64 k)).setCell ⟨b, 1, none⟩ (.int .i64 l)).setCell ⟨b, 2, none⟩ (.int .u8 q)).setCell ⟨b, 3, none⟩ v).setCell ⟨b, 4, none⟩ (.bool h)).setCell ⟨b, 5, none⟩ (.int .i64 g)).setCell ⟨b, 6, none⟩ (.int .i64 d)
theorem link_write {w : World} {b : Nat} {k l q : Int} {v : Value} {h : Bool} {g d : Int} (H : LinkAt w b k l q v h g d) (k' l' q' : Int) (v' : Value) (h' : Bool) (g' d' : Int) : LinkAt (wrLink w b k' l' q' v' h' g' d') b k' l' q' v' h' g' d' := by
  have ne : ∀ {x y : Nat}, x ≠ y → (⟨b, x, none⟩ : Addr) ≠ ⟨b, y, none⟩ := fun hxy e => hxy (congrArg Addr.off e)
  obtain ⟨h0, h1, h2, h3, h4, h5, h6, h7⟩ := H
  unfold wrLink
  refine ⟨?_, ?_, ?_, ?_, ?_, ?_, ?_, fun o => by simp only [World.frozen?_setCell]; exact h7 o⟩
  · rw [World.cell?_setCell_other _ _ _ _ (ne (by omega)), World.cell?_setCell_other _ _ _ _ (ne (by omega)), World.cell?_setCell_other _ _ _ _ (ne (by omega)), World.cell?_setCell_other _ _ _ _ (ne (by omega)), World.cell?_setCell_other _ _ _ _ (ne (by omega)), World.cell?_setCell_other _ _ _ _ (ne (by omega))]
    exact World.cell?_setCell_same _ _ _ h0
  · rw [World.cell?_setCell_other _ _ _ _ (ne (by omega)), World.cell?_setCell_other _ _ _ _ (ne (by omega)), World.cell?_setCell_other _ _ _ _ (ne (by omega)), World.cell?_setCell_other _ _ _ _ (ne (by omega)), World.cell?_setCell_other _ _ _ _ (ne (by omega))]
    exact World.cell?_setCell_same _ _ _ ((World.cell?_setCell_other _ _ _ _ (ne (by omega))).trans h1)
  · rw [World.cell?_setCell_other _ _ _ _ (ne (by omega)), World.cell?_setCell_other _ _ _ _ (ne (by omega)), World.cell?_setCell_other _ _ _ _ (ne (by omega)), World.cell?_setCell_other _ _ _ _ (ne (by omega))]
    exact World.cell?_setCell_same _ _ _ ((World.cell?_setCell_other _ _ _ _ (ne (by omega))).trans ((World.cell?_setCell_other _ _ _ _ (ne (by omega))).trans h2))
  · rw [World.cell?_setCell_other _ _ _ _ (ne (by omega)), World.cell?_setCell_other _ _ _ _ (ne (by omega)), World.cell?_setCell_other _ _ _ _ (ne (by omega))]
    exact World.cell?_setCell_same _ _ _ ((World.cell?_setCell_other _ _ _ _ (ne (by omega))).trans ((World.cell?_setCell_other _ _ _ _ (ne (by omega))).trans ((World.cell?_setCell_other _ _ _ _ (ne (by omega))).trans h3)))
  · rw [World.cell?_setCell_other _ _ _ _ (ne (by omega)), World.cell?_setCell_other _ _ _ _ (ne (by omega))]
    exact World.cell?_setCell_same _ _ _ ((World.cell?_setCell_other _ _ _ _ (ne (by omega))).trans ((World.cell?_setCell_other _ _ _ _ (ne (by omega))).trans ((World.cell?_setCell_other _ _ _ _ (ne (by omega))).trans ((World.cell?_setCell_other _ _ _ _ (ne (by omega))).trans h4))))
  · rw [World.cell?_setCell_other _ _ _ _ (ne (by omega))]
    exact World.cell?_setCell_same _ _ _ ((World.cell?_setCell_other _ _ _ _ (ne (by omega))).trans ((World.cell?_setCell_other _ _ _ _ (ne (by omega))).trans ((World.cell?_setCell_other _ _ _ _ (ne (by omega))).trans ((World.cell?_setCell_other _ _ _ _ (ne (by omega))).trans ((World.cell?_setCell_other _ _ _ _ (ne (by omega))).trans h5)))))
  · exact World.cell?_setCell_same _ _ _ ((World.cell?_setCell_other _ _ _ _ (ne (by omega))).trans ((World.cell?_setCell_other _ _ _ _ (ne (by omega))).trans ((World.cell?_setCell_other _ _ _ _ (ne (by omega))).trans ((World.cell?_setCell_other _ _ _ _ (ne (by omega))).trans ((World.cell?_setCell_other _ _ _ _ (ne (by omega))).trans ((World.cell?_setCell_other _ _ _ _ (ne (by omega))).trans h6))))))
theorem wrLink_below {w w0 : World} {B b : Nat} (hB : Below B w0 w) (hb : B ≤ b) (k l q : Int) (v : Value) (h : Bool) (g d : Int) : Below B w0 (wrLink w b k l q v h g d) :=
  ((((((hB.setCell hb _).setCell hb _).setCell hb _).setCell hb _).setCell hb _).setCell hb _).setCell hb _
theorem wrLink_own {w : World} {base b : Nat} {e : TypeId} {size : Nat} {x : Value} {n : Nat} {xs : List Value} (ho : w.ownsRow base e size x n xs) (hb : b < base) (k l q : Int) (v : Value) (h : Bool) (g d : Int) : (wrLink w b k l q v h g d).ownsRow base e size x n xs :=
  ownsRow_setCell_below (ownsRow_setCell_below (ownsRow_setCell_below (ownsRow_setCell_below (ownsRow_setCell_below (ownsRow_setCell_below (ownsRow_setCell_below ho (a := ⟨b, 0, none⟩) hb _) (a := ⟨b, 1, none⟩) hb _) (a := ⟨b, 2, none⟩) hb _) (a := ⟨b, 3, none⟩) hb _) (a := ⟨b, 4, none⟩) hb _) (a := ⟨b, 5, none⟩) hb _) (a := ⟨b, 6, none⟩) hb _
/-- a link with new words is told -/
def LinkPost (w : World) (k l q : Int) (ws : List Int) (h : Bool) (g d : Int) (e : Ending) (w' : World) : Prop :=
  ∃ v, e = .returned (linkV k l q v h g d) ∧ w'.ownsRow w.heap.size 21 1 v ws.length (ws.map (.int .i32)) ∧ Below w.heap.size w w'
set_option maxHeartbeats 4000000 in
set_option maxRecDepth 100000 in
theorem linkBad_any (k l q : Int) (v : Value) (ws : List Int) (h : Bool) (g d d' : Int) (w : World) (hv : IntsAt .i32 w v ws) (hws : ws.length * 4 ≤ 140737488351232) (hd : 0 ≤ d ∧ d ≤ 10000) (hd' : min 10000 (d + 1) = d') :
    Calls Try.prog 65 #[linkV k l q v h g d] w (LinkPost w k l q ws h g d') := by
  have HV := Lib.hid hv
  clear hv
  obtain ⟨a, cap, rfl⟩ := HV.out.len
  rcases (by omega : (d + 1 < 10000 ∧ d + 1 = d') ∨ (d = 9999 ∧ 10000 = d') ∨ (d = 10000 ∧ 10000 = d')) with ⟨h1, rfl⟩ | ⟨rfl, rfl⟩ | ⟨rfl, rfl⟩
  · clear hd'
    go_enter Try.func65, Try.ntmps65
    go_wp2_with fail
    refine (clone_i32 ws _ _ (by exact HV.out.later (((Below.refl w.heap.size w).alloc (Nat.le_refl _) _).alloc (by simp) _) (Nat.le_refl _)) (by simpa using hws)).mono ?_
    rintro e1 w1 ⟨v1, rfl, hown1, hb1⟩
    simp only [World.size_alloc] at hown1
    obtain ⟨a1, cap1, rfl⟩ := (own_ints' hown1).len
    have A0 : LinkAt w1 w.heap.size k l q (.slice a ws.length cap) h (g) (d + 1) := ⟨cell_later hb1 (by go_simp), cell_later hb1 (by go_simp), cell_later hb1 (by go_simp), cell_later hb1 (by go_simp), cell_later hb1 (by go_simp), cell_later hb1 (by go_simp), cell_later hb1 (by go_simp), fun o => by rw [hb1.frozen (by first | (simp; done) | omega | (simp; omega))]; go_simp⟩
    have A1 : LinkAt w1 (w.heap.size + 1) 0 0 0 (.slice none 0 0) false 0 0 := ⟨cell_later hb1 (by go_simp), cell_later hb1 (by go_simp), cell_later hb1 (by go_simp), cell_later hb1 (by go_simp), cell_later hb1 (by go_simp), cell_later hb1 (by go_simp), cell_later hb1 (by go_simp), fun o => by rw [hb1.frozen (by first | (simp; done) | omega | (simp; omega))]; go_simp⟩
    have B1 : Below w.heap.size w w1 := by repeat (first | with_reducible exact Below.refl _ _ | ((with_reducible refine Below.setCell ?_ ?_ _); rotate_left; (· first | (simp; done) | omega | (simp; omega))) | with_reducible refine below_drewN ?_ _ | with_reducible refine Below.drew ?_ | ((with_reducible refine Below.trans ?_ (Below.mono hb1 ?_)); rotate_left; (· first | (simp; done) | omega | (simp; omega))) | ((with_reducible refine Below.alloc ?_ ?_ _); rotate_left; (· first | (simp; done) | omega | (simp; omega))) | exact Below.refl _ _ | refine Below.setCell ?_ (by first | (simp; done) | omega | (simp; omega)) _ | refine below_drewN ?_ _ | refine Below.drew ?_ | refine Below.trans ?_ (Below.mono hb1 (by first | (simp; done) | omega | (simp; omega))) | refine Below.alloc ?_ (by first | (simp; done) | omega | (simp; omega)) _)
    have HA1 := Lib.hid A1; have HB1 := Lib.hid B1; have HO1 := Lib.hid hown1
    have z0 := A0.lt; have z1 := A1.lt
    obtain ⟨c0, c1, c2, c3, c4, c5, c6, cf⟩ := A0
    obtain ⟨g0, g1, g2, g3, g4, g5, g6, gf⟩ := A1
    clear hb1 B1 hown1
    go_wp2
    have hW := link_write (LinkAt.other HA1.out (o := 3) (show w.heap.size ≠ w.heap.size + 1 by omega) (.slice a1 ws.length cap1)) k l q (.slice a1 ws.length cap1) h (g) (d + 1)
    have hB9 : Below w.heap.size w _ := wrLink_below (HB1.out.setCell (p := ⟨w.heap.size, 3, none⟩) (Nat.le_refl _) (.slice a1 ws.length cap1)) (show w.heap.size ≤ w.heap.size + 1 by omega) k l q (.slice a1 ws.length cap1) h (g) (d + 1)
    have hO9 := wrLink_own (ownsRow_setCell_below HO1.out (a := ⟨w.heap.size, 3, none⟩) (by show w.heap.size < w.heap.size + 1 + 1; omega) (.slice a1 ws.length cap1)) (show w.heap.size + 1 < w.heap.size + 1 + 1 by omega) k l q (.slice a1 ws.length cap1) h (g) (d + 1)
    unfold wrLink at hW hB9 hO9
    clear c0 c1 c2 c3 c4 c5 c6 cf g0 g1 g2 g3 g4 g5 g6 gf
    generalize hw9 : (((((((_ : World).setCell _ _).setCell _ _).setCell _ _).setCell _ _).setCell _ _).setCell _ _).setCell _ _ = w9 at hW hB9 hO9 ⊢
    clear hw9
    obtain ⟨r0, r1, r2, r3, r4, r5, r6, -⟩ := hW
    exact bodyPost_ret (v := linkV k l q (.slice a1 ws.length cap1) h g (d + 1)) (by simp [results, Try.results65, go_sem, r0, r1, r2, r3, r4, r5, r6]) rfl ⟨_, rfl, own_mono hO9 (by omega), hB9⟩
  · clear hd'
    go_enter Try.func65, Try.ntmps65
    go_wp2_with fail
    refine (clone_i32 ws _ _ (by exact HV.out.later (((Below.refl w.heap.size w).alloc (Nat.le_refl _) _).alloc (by simp) _) (Nat.le_refl _)) (by simpa using hws)).mono ?_
    rintro e1 w1 ⟨v1, rfl, hown1, hb1⟩
    simp only [World.size_alloc] at hown1
    obtain ⟨a1, cap1, rfl⟩ := (own_ints' hown1).len
    have A0 : LinkAt w1 w.heap.size k l q (.slice a ws.length cap) h (g) (10000) := ⟨cell_later hb1 (by go_simp), cell_later hb1 (by go_simp), cell_later hb1 (by go_simp), cell_later hb1 (by go_simp), cell_later hb1 (by go_simp), cell_later hb1 (by go_simp), cell_later hb1 (by go_simp), fun o => by rw [hb1.frozen (by first | (simp; done) | omega | (simp; omega))]; go_simp⟩
    have A1 : LinkAt w1 (w.heap.size + 1) 0 0 0 (.slice none 0 0) false 0 0 := ⟨cell_later hb1 (by go_simp), cell_later hb1 (by go_simp), cell_later hb1 (by go_simp), cell_later hb1 (by go_simp), cell_later hb1 (by go_simp), cell_later hb1 (by go_simp), cell_later hb1 (by go_simp), fun o => by rw [hb1.frozen (by first | (simp; done) | omega | (simp; omega))]; go_simp⟩
    have B1 : Below w.heap.size w w1 := by repeat (first | with_reducible exact Below.refl _ _ | ((with_reducible refine Below.setCell ?_ ?_ _); rotate_left; (· first | (simp; done) | omega | (simp; omega))) | with_reducible refine below_drewN ?_ _ | with_reducible refine Below.drew ?_ | ((with_reducible refine Below.trans ?_ (Below.mono hb1 ?_)); rotate_left; (· first | (simp; done) | omega | (simp; omega))) | ((with_reducible refine Below.alloc ?_ ?_ _); rotate_left; (· first | (simp; done) | omega | (simp; omega))) | exact Below.refl _ _ | refine Below.setCell ?_ (by first | (simp; done) | omega | (simp; omega)) _ | refine below_drewN ?_ _ | refine Below.drew ?_ | refine Below.trans ?_ (Below.mono hb1 (by first | (simp; done) | omega | (simp; omega))) | refine Below.alloc ?_ (by first | (simp; done) | omega | (simp; omega)) _)
    have HA1 := Lib.hid A1; have HB1 := Lib.hid B1; have HO1 := Lib.hid hown1
    have z0 := A0.lt; have z1 := A1.lt
    obtain ⟨c0, c1, c2, c3, c4, c5, c6, cf⟩ := A0
    obtain ⟨g0, g1, g2, g3, g4, g5, g6, gf⟩ := A1
    clear hb1 B1 hown1
    go_wp2
    have hW := link_write (LinkAt.other HA1.out (o := 3) (show w.heap.size ≠ w.heap.size + 1 by omega) (.slice a1 ws.length cap1)) k l q (.slice a1 ws.length cap1) h (g) (10000)
    have hB9 : Below w.heap.size w _ := wrLink_below (HB1.out.setCell (p := ⟨w.heap.size, 3, none⟩) (Nat.le_refl _) (.slice a1 ws.length cap1)) (show w.heap.size ≤ w.heap.size + 1 by omega) k l q (.slice a1 ws.length cap1) h (g) (10000)
    have hO9 := wrLink_own (ownsRow_setCell_below HO1.out (a := ⟨w.heap.size, 3, none⟩) (by show w.heap.size < w.heap.size + 1 + 1; omega) (.slice a1 ws.length cap1)) (show w.heap.size + 1 < w.heap.size + 1 + 1 by omega) k l q (.slice a1 ws.length cap1) h (g) (10000)
    unfold wrLink at hW hB9 hO9
    clear c0 c1 c2 c3 c4 c5 c6 cf g0 g1 g2 g3 g4 g5 g6 gf
    generalize hw9 : (((((((_ : World).setCell _ _).setCell _ _).setCell _ _).setCell _ _).setCell _ _).setCell _ _).setCell _ _ = w9 at hW hB9 hO9 ⊢
    clear hw9
    obtain ⟨r0, r1, r2, r3, r4, r5, r6, -⟩ := hW
    exact bodyPost_ret (v := linkV k l q (.slice a1 ws.length cap1) h g (10000)) (by simp [results, Try.results65, go_sem, r0, r1, r2, r3, r4, r5, r6]) rfl ⟨_, rfl, own_mono hO9 (by omega), hB9⟩
  · clear hd'
    go_enter Try.func65, Try.ntmps65
    go_wp2_with fail
    refine (clone_i32 ws _ _ (by exact HV.out.later (((Below.refl w.heap.size w).alloc (Nat.le_refl _) _).alloc (by simp) _) (Nat.le_refl _)) (by simpa using hws)).mono ?_
    rintro e1 w1 ⟨v1, rfl, hown1, hb1⟩
    simp only [World.size_alloc] at hown1
    obtain ⟨a1, cap1, rfl⟩ := (own_ints' hown1).len
    have A0 : LinkAt w1 w.heap.size k l q (.slice a ws.length cap) h (g) (10000) := ⟨cell_later hb1 (by go_simp), cell_later hb1 (by go_simp), cell_later hb1 (by go_simp), cell_later hb1 (by go_simp), cell_later hb1 (by go_simp), cell_later hb1 (by go_simp), cell_later hb1 (by go_simp), fun o => by rw [hb1.frozen (by first | (simp; done) | omega | (simp; omega))]; go_simp⟩
    have A1 : LinkAt w1 (w.heap.size + 1) 0 0 0 (.slice none 0 0) false 0 0 := ⟨cell_later hb1 (by go_simp), cell_later hb1 (by go_simp), cell_later hb1 (by go_simp), cell_later hb1 (by go_simp), cell_later hb1 (by go_simp), cell_later hb1 (by go_simp), cell_later hb1 (by go_simp), fun o => by rw [hb1.frozen (by first | (simp; done) | omega | (simp; omega))]; go_simp⟩
    have B1 : Below w.heap.size w w1 := by repeat (first | with_reducible exact Below.refl _ _ | ((with_reducible refine Below.setCell ?_ ?_ _); rotate_left; (· first | (simp; done) | omega | (simp; omega))) | with_reducible refine below_drewN ?_ _ | with_reducible refine Below.drew ?_ | ((with_reducible refine Below.trans ?_ (Below.mono hb1 ?_)); rotate_left; (· first | (simp; done) | omega | (simp; omega))) | ((with_reducible refine Below.alloc ?_ ?_ _); rotate_left; (· first | (simp; done) | omega | (simp; omega))) | exact Below.refl _ _ | refine Below.setCell ?_ (by first | (simp; done) | omega | (simp; omega)) _ | refine below_drewN ?_ _ | refine Below.drew ?_ | refine Below.trans ?_ (Below.mono hb1 (by first | (simp; done) | omega | (simp; omega))) | refine Below.alloc ?_ (by first | (simp; done) | omega | (simp; omega)) _)
    have HA1 := Lib.hid A1; have HB1 := Lib.hid B1; have HO1 := Lib.hid hown1
    have z0 := A0.lt; have z1 := A1.lt
    obtain ⟨c0, c1, c2, c3, c4, c5, c6, cf⟩ := A0
    obtain ⟨g0, g1, g2, g3, g4, g5, g6, gf⟩ := A1
    clear hb1 B1 hown1
    go_wp2
    have hW := link_write (LinkAt.other HA1.out (o := 3) (show w.heap.size ≠ w.heap.size + 1 by omega) (.slice a1 ws.length cap1)) k l q (.slice a1 ws.length cap1) h (g) (10000)
    have hB9 : Below w.heap.size w _ := wrLink_below (HB1.out.setCell (p := ⟨w.heap.size, 3, none⟩) (Nat.le_refl _) (.slice a1 ws.length cap1)) (show w.heap.size ≤ w.heap.size + 1 by omega) k l q (.slice a1 ws.length cap1) h (g) (10000)
    have hO9 := wrLink_own (ownsRow_setCell_below HO1.out (a := ⟨w.heap.size, 3, none⟩) (by show w.heap.size < w.heap.size + 1 + 1; omega) (.slice a1 ws.length cap1)) (show w.heap.size + 1 < w.heap.size + 1 + 1 by omega) k l q (.slice a1 ws.length cap1) h (g) (10000)
    unfold wrLink at hW hB9 hO9
    clear c0 c1 c2 c3 c4 c5 c6 cf g0 g1 g2 g3 g4 g5 g6 gf
    generalize hw9 : (((((((_ : World).setCell _ _).setCell _ _).setCell _ _).setCell _ _).setCell _ _).setCell _ _).setCell _ _ = w9 at hW hB9 hO9 ⊢
    clear hw9
    obtain ⟨r0, r1, r2, r3, r4, r5, r6, -⟩ := hW
    exact bodyPost_ret (v := linkV k l q (.slice a1 ws.length cap1) h g (10000)) (by simp [results, Try.results65, go_sem, r0, r1, r2, r3, r4, r5, r6]) rfl ⟨_, rfl, own_mono hO9 (by omega), hB9⟩

theorem LinkAt.age {w : World} {b : Nat} {k l q : Int} {v : Value} {h : Bool} {g d : Int} (H : LinkAt w b k l q v h g d) (g' : Int) : LinkAt (w.setCell ⟨b, 5, none⟩ (.int .i64 g')) b k l q v h g' d := by
  have ne : ∀ {x y : Nat}, x ≠ y → (⟨b, x, none⟩ : Addr) ≠ ⟨b, y, none⟩ := fun hxy e => hxy (congrArg Addr.off e)
  obtain ⟨h0, h1, h2, h3, h4, h5, h6, h7⟩ := H
  exact ⟨(World.cell?_setCell_other _ _ _ _ (ne (by omega))).trans h0, (World.cell?_setCell_other _ _ _ _ (ne (by omega))).trans h1, (World.cell?_setCell_other _ _ _ _ (ne (by omega))).trans h2, (World.cell?_setCell_other _ _ _ _ (ne (by omega))).trans h3, (World.cell?_setCell_other _ _ _ _ (ne (by omega))).trans h4, World.cell?_setCell_same _ _ _ h5, (World.cell?_setCell_other _ _ _ _ (ne (by omega))).trans h6, fun x => by rw [World.frozen?_setCell]; exact h7 x⟩
def TickPost (w : World) (k l q : Int) (ws : List Int) (h : Bool) (g d : Int) (e : Ending) (w' : World) : Prop :=
  ∃ v, e = .returned (.tuple #[linkV k l q v h g d, .int .i64 0]) ∧ w'.ownsRow w.heap.size 21 1 v ws.length (ws.map (.int .i32)) ∧ Below w.heap.size w w'
def ageI (h : Bool) (g : Int) : Int := if h = true then min 100 (g + 1) else g
set_option maxHeartbeats 8000000 in
set_option maxRecDepth 100000 in
theorem linkTick_yes (k l q : Int) (v : Value) (ws : List Int) (h : Bool) (g d g' : Int) (w : World) (hv : IntsAt .i32 w v ws) (hws : ws.length * 4 ≤ 140737488351232) (hk : I64B k) (hl : I64B l) (hc : linkChk k l q ws.length h g d = 0) (hg' : ageI h g = g') :
    Calls Try.prog 43 #[linkV k l q v h g d] w (TickPost w k l q ws h g' d) := by
  have hg : 0 ≤ g ∧ g ≤ 100 := by unfold linkChk at hc; split at hc <;> omega
  have HV := Lib.hid hv; have HC := Lib.hid hc
  have hn : ws.length ≤ 9223372036854775807 := by omega
  clear hv hc
  obtain ⟨a, cap, rfl⟩ := HV.out.len
  cases h
  · have hgg : g' = g := by rw [← hg']; rfl
    subst hgg
    clear hg'
    go_enter Try.func43, Try.ntmps43
    go_wp2_with fail
    refine (linkCheck_any k l q a ws.length cap false g' d _ hk hl hn).mono ?_
    rw [HC.out]
    rintro e1 w1 ⟨rfl, hb1⟩
    have A0 : LinkAt w1 w.heap.size k l q (.slice a ws.length cap) false g' d := ⟨cell_later hb1 (by go_simp), cell_later hb1 (by go_simp), cell_later hb1 (by go_simp), cell_later hb1 (by go_simp), cell_later hb1 (by go_simp), cell_later hb1 (by go_simp), cell_later hb1 (by go_simp), fun o => by rw [hb1.frozen (by first | (simp; done) | omega | (simp; omega))]; go_simp⟩
    have A1 : LinkAt w1 (w.heap.size + 1) 0 0 0 (.slice none 0 0) false 0 0 := ⟨cell_later hb1 (by go_simp), cell_later hb1 (by go_simp), cell_later hb1 (by go_simp), cell_later hb1 (by go_simp), cell_later hb1 (by go_simp), cell_later hb1 (by go_simp), cell_later hb1 (by go_simp), fun o => by rw [hb1.frozen (by first | (simp; done) | omega | (simp; omega))]; go_simp⟩
    have HA1 := Lib.hid A1
    have z1 := A1.lt
    obtain ⟨g0, g1, g2, g3, g4, g5, g6, gf⟩ := A1
    have B1 : Below w.heap.size w w1 := by repeat (first | with_reducible exact Below.refl _ _ | ((with_reducible refine Below.setCell ?_ ?_ _); rotate_left; (· first | (simp; done) | omega | (simp; omega))) | with_reducible refine below_drewN ?_ _ | with_reducible refine Below.drew ?_ | ((with_reducible refine Below.trans ?_ (Below.mono hb1 ?_)); rotate_left; (· first | (simp; done) | omega | (simp; omega))) | ((with_reducible refine Below.alloc ?_ ?_ _); rotate_left; (· first | (simp; done) | omega | (simp; omega))) | exact Below.refl _ _ | refine Below.setCell ?_ (by first | (simp; done) | omega | (simp; omega)) _ | refine below_drewN ?_ _ | refine Below.drew ?_ | refine Below.trans ?_ (Below.mono hb1 (by first | (simp; done) | omega | (simp; omega))) | refine Below.alloc ?_ (by first | (simp; done) | omega | (simp; omega)) _)
    have HA0 := Lib.hid A0; have HB1 := Lib.hid B1
    have z0 := A0.lt
    obtain ⟨c0, c1, c2, c3, c4, c5, c6, cf⟩ := A0
    clear hb1 B1
    go_wp2_with fail
    have HB2 := Lib.hid (HB1.out)
    have HA2 := Lib.hid (HA0.out)
    refine (clone_i32 ws _ _ (by exact HV.out.later HB2.out (Nat.le_refl _)) hws).mono ?_
    rintro e2 w2 ⟨v2, rfl, hown2, hb2⟩
    obtain ⟨a1, cap1, rfl⟩ := (own_ints' hown2).len
    have C0 := HA2.out.later hb2 HA2.out.lt
    have C1 := (HA1.out).later hb2 (HA1.out).lt
    have HB3 := Lib.hid (HB2.out.trans (hb2.mono HB2.out.size))
    have HC1 := Lib.hid C1; have HO2 := Lib.hid (own_mono hown2 (show w.heap.size + 1 + 1 ≤ _ from z1))
    clear c0 c1 c2 c3 c4 c5 c6 cf g0 g1 g2 g3 g4 g5 g6 gf z0 z1 hown2 hb2
    have z0 := C0.lt; have z1 := C1.lt
    obtain ⟨c0, c1, c2, c3, c4, c5, c6, cf⟩ := C0
    obtain ⟨g0, g1, g2, g3, g4, g5, g6, gf⟩ := C1
    clear hws
    go_wp2
    have hW := link_write (LinkAt.other HC1.out (o := 3) (show w.heap.size ≠ w.heap.size + 1 by omega) (.slice a1 ws.length cap1)) k l q (.slice a1 ws.length cap1) false (g') d
    have hB9 : Below w.heap.size w _ := wrLink_below (HB3.out.setCell (p := ⟨w.heap.size, 3, none⟩) (Nat.le_refl _) (.slice a1 ws.length cap1)) (show w.heap.size ≤ w.heap.size + 1 by omega) k l q (.slice a1 ws.length cap1) false (g') d
    have hO9 := wrLink_own (ownsRow_setCell_below HO2.out (a := ⟨w.heap.size, 3, none⟩) (by show w.heap.size < w.heap.size + 1 + 1; omega) (.slice a1 ws.length cap1)) (show w.heap.size + 1 < w.heap.size + 1 + 1 by omega) k l q (.slice a1 ws.length cap1) false (g') d
    unfold wrLink at hW hB9 hO9
    clear c0 c1 c2 c3 c4 c5 c6 cf g0 g1 g2 g3 g4 g5 g6 gf
    generalize hw9 : (((((((_ : World).setCell _ _).setCell _ _).setCell _ _).setCell _ _).setCell _ _).setCell _ _).setCell _ _ = w9 at hW hB9 hO9 ⊢
    clear hw9
    obtain ⟨r0, r1, r2, r3, r4, r5, r6, -⟩ := hW
    exact bodyPost_ret (v := .tuple #[linkV k l q (.slice a1 ws.length cap1) false (g') d, .int .i64 0]) (by simp [results, Try.results43, go_sem, r0, r1, r2, r3, r4, r5, r6]) rfl ⟨_, rfl, own_mono hO9 (by omega), hB9⟩
  · have hcase : (g + 1 < 100 ∧ g' = g + 1) ∨ (g = 99 ∧ g' = 100) ∨ (g = 100 ∧ g' = 100) := by rw [← hg']; unfold ageI; rw [if_pos rfl]; omega
    clear hg'
    rcases hcase with ⟨h1, rfl⟩ | ⟨rfl, rfl⟩ | ⟨rfl, rfl⟩
    · go_enter Try.func43, Try.ntmps43
      go_wp2_with fail
      refine (linkCheck_any k l q a ws.length cap true g d _ hk hl hn).mono ?_
      rw [HC.out]
      rintro e1 w1 ⟨rfl, hb1⟩
      have A0 : LinkAt w1 w.heap.size k l q (.slice a ws.length cap) true g d := ⟨cell_later hb1 (by go_simp), cell_later hb1 (by go_simp), cell_later hb1 (by go_simp), cell_later hb1 (by go_simp), cell_later hb1 (by go_simp), cell_later hb1 (by go_simp), cell_later hb1 (by go_simp), fun o => by rw [hb1.frozen (by first | (simp; done) | omega | (simp; omega))]; go_simp⟩
      have A1 : LinkAt w1 (w.heap.size + 1) 0 0 0 (.slice none 0 0) false 0 0 := ⟨cell_later hb1 (by go_simp), cell_later hb1 (by go_simp), cell_later hb1 (by go_simp), cell_later hb1 (by go_simp), cell_later hb1 (by go_simp), cell_later hb1 (by go_simp), cell_later hb1 (by go_simp), fun o => by rw [hb1.frozen (by first | (simp; done) | omega | (simp; omega))]; go_simp⟩
      have HA1 := Lib.hid A1
      have z1 := A1.lt
      obtain ⟨g0, g1, g2, g3, g4, g5, g6, gf⟩ := A1
      have B1 : Below w.heap.size w w1 := by repeat (first | with_reducible exact Below.refl _ _ | ((with_reducible refine Below.setCell ?_ ?_ _); rotate_left; (· first | (simp; done) | omega | (simp; omega))) | with_reducible refine below_drewN ?_ _ | with_reducible refine Below.drew ?_ | ((with_reducible refine Below.trans ?_ (Below.mono hb1 ?_)); rotate_left; (· first | (simp; done) | omega | (simp; omega))) | ((with_reducible refine Below.alloc ?_ ?_ _); rotate_left; (· first | (simp; done) | omega | (simp; omega))) | exact Below.refl _ _ | refine Below.setCell ?_ (by first | (simp; done) | omega | (simp; omega)) _ | refine below_drewN ?_ _ | refine Below.drew ?_ | refine Below.trans ?_ (Below.mono hb1 (by first | (simp; done) | omega | (simp; omega))) | refine Below.alloc ?_ (by first | (simp; done) | omega | (simp; omega)) _)
      have HA0 := Lib.hid A0; have HB1 := Lib.hid B1
      have z0 := A0.lt
      obtain ⟨c0, c1, c2, c3, c4, c5, c6, cf⟩ := A0
      clear hb1 B1
      go_wp2_with fail
      have HB2 := Lib.hid (HB1.out.setCell (p := ⟨w.heap.size, 5, none⟩) (Nat.le_refl _) (.int .i64 (g + 1)))
      have HA2 := Lib.hid (HA0.out.age (g + 1))
      refine (clone_i32 ws _ _ (by exact HV.out.later HB2.out (Nat.le_refl _)) hws).mono ?_
      rintro e2 w2 ⟨v2, rfl, hown2, hb2⟩
      obtain ⟨a1, cap1, rfl⟩ := (own_ints' hown2).len
      have C0 := HA2.out.later hb2 HA2.out.lt
      have C1 := (LinkAt.other HA1.out (o := 5) (show w.heap.size ≠ w.heap.size + 1 by omega) (.int .i64 (g + 1))).later hb2 (LinkAt.other HA1.out (o := 5) (show w.heap.size ≠ w.heap.size + 1 by omega) (.int .i64 (g + 1))).lt
      have HB3 := Lib.hid (HB2.out.trans (hb2.mono HB2.out.size))
      have HC1 := Lib.hid C1; have HO2 := Lib.hid (own_mono hown2 (show w.heap.size + 1 + 1 ≤ _ from Nat.le_trans z1 ((Below.refl w.heap.size w1).setCell (p := ⟨w.heap.size, 5, none⟩) (Nat.le_refl _) (.int .i64 (g + 1))).size))
      clear c0 c1 c2 c3 c4 c5 c6 cf g0 g1 g2 g3 g4 g5 g6 gf z0 z1 hown2 hb2
      have z0 := C0.lt; have z1 := C1.lt
      obtain ⟨c0, c1, c2, c3, c4, c5, c6, cf⟩ := C0
      obtain ⟨g0, g1, g2, g3, g4, g5, g6, gf⟩ := C1
      clear hws
      go_wp2
      have hW := link_write (LinkAt.other HC1.out (o := 3) (show w.heap.size ≠ w.heap.size + 1 by omega) (.slice a1 ws.length cap1)) k l q (.slice a1 ws.length cap1) true (g + 1) d
      have hB9 : Below w.heap.size w _ := wrLink_below (HB3.out.setCell (p := ⟨w.heap.size, 3, none⟩) (Nat.le_refl _) (.slice a1 ws.length cap1)) (show w.heap.size ≤ w.heap.size + 1 by omega) k l q (.slice a1 ws.length cap1) true (g + 1) d
      have hO9 := wrLink_own (ownsRow_setCell_below HO2.out (a := ⟨w.heap.size, 3, none⟩) (by show w.heap.size < w.heap.size + 1 + 1; omega) (.slice a1 ws.length cap1)) (show w.heap.size + 1 < w.heap.size + 1 + 1 by omega) k l q (.slice a1 ws.length cap1) true (g + 1) d
      unfold wrLink at hW hB9 hO9
      clear c0 c1 c2 c3 c4 c5 c6 cf g0 g1 g2 g3 g4 g5 g6 gf
      generalize hw9 : (((((((_ : World).setCell _ _).setCell _ _).setCell _ _).setCell _ _).setCell _ _).setCell _ _).setCell _ _ = w9 at hW hB9 hO9 ⊢
      clear hw9
      obtain ⟨r0, r1, r2, r3, r4, r5, r6, -⟩ := hW
      exact bodyPost_ret (v := .tuple #[linkV k l q (.slice a1 ws.length cap1) true (g + 1) d, .int .i64 0]) (by simp [results, Try.results43, go_sem, r0, r1, r2, r3, r4, r5, r6]) rfl ⟨_, rfl, own_mono hO9 (by omega), hB9⟩
    · go_enter Try.func43, Try.ntmps43
      go_wp2_with fail
      refine (linkCheck_any k l q a ws.length cap true (99) d _ hk hl hn).mono ?_
      rw [HC.out]
      rintro e1 w1 ⟨rfl, hb1⟩
      have A0 : LinkAt w1 w.heap.size k l q (.slice a ws.length cap) true 99 d := ⟨cell_later hb1 (by go_simp), cell_later hb1 (by go_simp), cell_later hb1 (by go_simp), cell_later hb1 (by go_simp), cell_later hb1 (by go_simp), cell_later hb1 (by go_simp), cell_later hb1 (by go_simp), fun o => by rw [hb1.frozen (by first | (simp; done) | omega | (simp; omega))]; go_simp⟩
      have A1 : LinkAt w1 (w.heap.size + 1) 0 0 0 (.slice none 0 0) false 0 0 := ⟨cell_later hb1 (by go_simp), cell_later hb1 (by go_simp), cell_later hb1 (by go_simp), cell_later hb1 (by go_simp), cell_later hb1 (by go_simp), cell_later hb1 (by go_simp), cell_later hb1 (by go_simp), fun o => by rw [hb1.frozen (by first | (simp; done) | omega | (simp; omega))]; go_simp⟩
      have HA1 := Lib.hid A1
      have z1 := A1.lt
      obtain ⟨g0, g1, g2, g3, g4, g5, g6, gf⟩ := A1
      have B1 : Below w.heap.size w w1 := by repeat (first | with_reducible exact Below.refl _ _ | ((with_reducible refine Below.setCell ?_ ?_ _); rotate_left; (· first | (simp; done) | omega | (simp; omega))) | with_reducible refine below_drewN ?_ _ | with_reducible refine Below.drew ?_ | ((with_reducible refine Below.trans ?_ (Below.mono hb1 ?_)); rotate_left; (· first | (simp; done) | omega | (simp; omega))) | ((with_reducible refine Below.alloc ?_ ?_ _); rotate_left; (· first | (simp; done) | omega | (simp; omega))) | exact Below.refl _ _ | refine Below.setCell ?_ (by first | (simp; done) | omega | (simp; omega)) _ | refine below_drewN ?_ _ | refine Below.drew ?_ | refine Below.trans ?_ (Below.mono hb1 (by first | (simp; done) | omega | (simp; omega))) | refine Below.alloc ?_ (by first | (simp; done) | omega | (simp; omega)) _)
      have HA0 := Lib.hid A0; have HB1 := Lib.hid B1
      have z0 := A0.lt
      obtain ⟨c0, c1, c2, c3, c4, c5, c6, cf⟩ := A0
      clear hb1 B1
      go_wp2_with fail
      have HB2 := Lib.hid (HB1.out.setCell (p := ⟨w.heap.size, 5, none⟩) (Nat.le_refl _) (.int .i64 (100)))
      have HA2 := Lib.hid (HA0.out.age (100))
      refine (clone_i32 ws _ _ (by exact HV.out.later HB2.out (Nat.le_refl _)) hws).mono ?_
      rintro e2 w2 ⟨v2, rfl, hown2, hb2⟩
      obtain ⟨a1, cap1, rfl⟩ := (own_ints' hown2).len
      have C0 := HA2.out.later hb2 HA2.out.lt
      have C1 := (LinkAt.other HA1.out (o := 5) (show w.heap.size ≠ w.heap.size + 1 by omega) (.int .i64 (100))).later hb2 (LinkAt.other HA1.out (o := 5) (show w.heap.size ≠ w.heap.size + 1 by omega) (.int .i64 (100))).lt
      have HB3 := Lib.hid (HB2.out.trans (hb2.mono HB2.out.size))
      have HC1 := Lib.hid C1; have HO2 := Lib.hid (own_mono hown2 (show w.heap.size + 1 + 1 ≤ _ from Nat.le_trans z1 ((Below.refl w.heap.size w1).setCell (p := ⟨w.heap.size, 5, none⟩) (Nat.le_refl _) (.int .i64 (100))).size))
      clear c0 c1 c2 c3 c4 c5 c6 cf g0 g1 g2 g3 g4 g5 g6 gf z0 z1 hown2 hb2
      have z0 := C0.lt; have z1 := C1.lt
      obtain ⟨c0, c1, c2, c3, c4, c5, c6, cf⟩ := C0
      obtain ⟨g0, g1, g2, g3, g4, g5, g6, gf⟩ := C1
      clear hws
      go_wp2
      have hW := link_write (LinkAt.other HC1.out (o := 3) (show w.heap.size ≠ w.heap.size + 1 by omega) (.slice a1 ws.length cap1)) k l q (.slice a1 ws.length cap1) true (100) d
      have hB9 : Below w.heap.size w _ := wrLink_below (HB3.out.setCell (p := ⟨w.heap.size, 3, none⟩) (Nat.le_refl _) (.slice a1 ws.length cap1)) (show w.heap.size ≤ w.heap.size + 1 by omega) k l q (.slice a1 ws.length cap1) true (100) d
      have hO9 := wrLink_own (ownsRow_setCell_below HO2.out (a := ⟨w.heap.size, 3, none⟩) (by show w.heap.size < w.heap.size + 1 + 1; omega) (.slice a1 ws.length cap1)) (show w.heap.size + 1 < w.heap.size + 1 + 1 by omega) k l q (.slice a1 ws.length cap1) true (100) d
      unfold wrLink at hW hB9 hO9
      clear c0 c1 c2 c3 c4 c5 c6 cf g0 g1 g2 g3 g4 g5 g6 gf
      generalize hw9 : (((((((_ : World).setCell _ _).setCell _ _).setCell _ _).setCell _ _).setCell _ _).setCell _ _).setCell _ _ = w9 at hW hB9 hO9 ⊢
      clear hw9
      obtain ⟨r0, r1, r2, r3, r4, r5, r6, -⟩ := hW
      exact bodyPost_ret (v := .tuple #[linkV k l q (.slice a1 ws.length cap1) true (100) d, .int .i64 0]) (by simp [results, Try.results43, go_sem, r0, r1, r2, r3, r4, r5, r6]) rfl ⟨_, rfl, own_mono hO9 (by omega), hB9⟩
    · go_enter Try.func43, Try.ntmps43
      go_wp2_with fail
      refine (linkCheck_any k l q a ws.length cap true (100) d _ hk hl hn).mono ?_
      rw [HC.out]
      rintro e1 w1 ⟨rfl, hb1⟩
      have A0 : LinkAt w1 w.heap.size k l q (.slice a ws.length cap) true 100 d := ⟨cell_later hb1 (by go_simp), cell_later hb1 (by go_simp), cell_later hb1 (by go_simp), cell_later hb1 (by go_simp), cell_later hb1 (by go_simp), cell_later hb1 (by go_simp), cell_later hb1 (by go_simp), fun o => by rw [hb1.frozen (by first | (simp; done) | omega | (simp; omega))]; go_simp⟩
      have A1 : LinkAt w1 (w.heap.size + 1) 0 0 0 (.slice none 0 0) false 0 0 := ⟨cell_later hb1 (by go_simp), cell_later hb1 (by go_simp), cell_later hb1 (by go_simp), cell_later hb1 (by go_simp), cell_later hb1 (by go_simp), cell_later hb1 (by go_simp), cell_later hb1 (by go_simp), fun o => by rw [hb1.frozen (by first | (simp; done) | omega | (simp; omega))]; go_simp⟩
      have HA1 := Lib.hid A1
      have z1 := A1.lt
      obtain ⟨g0, g1, g2, g3, g4, g5, g6, gf⟩ := A1
      have B1 : Below w.heap.size w w1 := by repeat (first | with_reducible exact Below.refl _ _ | ((with_reducible refine Below.setCell ?_ ?_ _); rotate_left; (· first | (simp; done) | omega | (simp; omega))) | with_reducible refine below_drewN ?_ _ | with_reducible refine Below.drew ?_ | ((with_reducible refine Below.trans ?_ (Below.mono hb1 ?_)); rotate_left; (· first | (simp; done) | omega | (simp; omega))) | ((with_reducible refine Below.alloc ?_ ?_ _); rotate_left; (· first | (simp; done) | omega | (simp; omega))) | exact Below.refl _ _ | refine Below.setCell ?_ (by first | (simp; done) | omega | (simp; omega)) _ | refine below_drewN ?_ _ | refine Below.drew ?_ | refine Below.trans ?_ (Below.mono hb1 (by first | (simp; done) | omega | (simp; omega))) | refine Below.alloc ?_ (by first | (simp; done) | omega | (simp; omega)) _)
      have HA0 := Lib.hid A0; have HB1 := Lib.hid B1
      have z0 := A0.lt
      obtain ⟨c0, c1, c2, c3, c4, c5, c6, cf⟩ := A0
      clear hb1 B1
      go_wp2_with fail
      have HB2 := Lib.hid (HB1.out.setCell (p := ⟨w.heap.size, 5, none⟩) (Nat.le_refl _) (.int .i64 (100)))
      have HA2 := Lib.hid (HA0.out.age (100))
      refine (clone_i32 ws _ _ (by exact HV.out.later HB2.out (Nat.le_refl _)) hws).mono ?_
      rintro e2 w2 ⟨v2, rfl, hown2, hb2⟩
      obtain ⟨a1, cap1, rfl⟩ := (own_ints' hown2).len
      have C0 := HA2.out.later hb2 HA2.out.lt
      have C1 := (LinkAt.other HA1.out (o := 5) (show w.heap.size ≠ w.heap.size + 1 by omega) (.int .i64 (100))).later hb2 (LinkAt.other HA1.out (o := 5) (show w.heap.size ≠ w.heap.size + 1 by omega) (.int .i64 (100))).lt
      have HB3 := Lib.hid (HB2.out.trans (hb2.mono HB2.out.size))
      have HC1 := Lib.hid C1; have HO2 := Lib.hid (own_mono hown2 (show w.heap.size + 1 + 1 ≤ _ from Nat.le_trans z1 ((Below.refl w.heap.size w1).setCell (p := ⟨w.heap.size, 5, none⟩) (Nat.le_refl _) (.int .i64 (100))).size))
      clear c0 c1 c2 c3 c4 c5 c6 cf g0 g1 g2 g3 g4 g5 g6 gf z0 z1 hown2 hb2
      have z0 := C0.lt; have z1 := C1.lt
      obtain ⟨c0, c1, c2, c3, c4, c5, c6, cf⟩ := C0
      obtain ⟨g0, g1, g2, g3, g4, g5, g6, gf⟩ := C1
      clear hws
      go_wp2
      have hW := link_write (LinkAt.other HC1.out (o := 3) (show w.heap.size ≠ w.heap.size + 1 by omega) (.slice a1 ws.length cap1)) k l q (.slice a1 ws.length cap1) true (100) d
      have hB9 : Below w.heap.size w _ := wrLink_below (HB3.out.setCell (p := ⟨w.heap.size, 3, none⟩) (Nat.le_refl _) (.slice a1 ws.length cap1)) (show w.heap.size ≤ w.heap.size + 1 by omega) k l q (.slice a1 ws.length cap1) true (100) d
      have hO9 := wrLink_own (ownsRow_setCell_below HO2.out (a := ⟨w.heap.size, 3, none⟩) (by show w.heap.size < w.heap.size + 1 + 1; omega) (.slice a1 ws.length cap1)) (show w.heap.size + 1 < w.heap.size + 1 + 1 by omega) k l q (.slice a1 ws.length cap1) true (100) d
      unfold wrLink at hW hB9 hO9
      clear c0 c1 c2 c3 c4 c5 c6 cf g0 g1 g2 g3 g4 g5 g6 gf
      generalize hw9 : (((((((_ : World).setCell _ _).setCell _ _).setCell _ _).setCell _ _).setCell _ _).setCell _ _).setCell _ _ = w9 at hW hB9 hO9 ⊢
      clear hw9
      obtain ⟨r0, r1, r2, r3, r4, r5, r6, -⟩ := hW
      exact bodyPost_ret (v := .tuple #[linkV k l q (.slice a1 ws.length cap1) true (100) d, .int .i64 0]) (by simp [results, Try.results43, go_sem, r0, r1, r2, r3, r4, r5, r6]) rfl ⟨_, rfl, own_mono hO9 (by omega), hB9⟩
set_option maxHeartbeats 4000000 in
set_option maxRecDepth 100000 in
theorem linkTick_no (k l q : Int) (v : Value) (ws : List Int) (h : Bool) (g d c : Int) (w : World) (hv : IntsAt .i32 w v ws) (hn : ws.length ≤ 9223372036854775807) (hk : I64B k) (hl : I64B l) (hc : linkChk k l q ws.length h g d = c) (h0 : c ≠ 0) :
    Calls Try.prog 43 #[linkV k l q v h g d] w fun e w' => e = .returned (.tuple #[linkV 0 0 0 (.slice none 0 0) false 0 0, .int .i64 c]) ∧ Below w.heap.size w w' := by
  have HC := Lib.hid hc
  have dc : (c != 0) = true := by simpa using h0
  obtain ⟨a, cap, rfl⟩ := hv.len
  clear hv hc h0
  go_enter Try.func43, Try.ntmps43
  go_wp2_with fail
  refine (linkCheck_any k l q a ws.length cap h g d _ hk hl hn).mono ?_
  rw [HC.out]
  rintro e1 w1 ⟨rfl, hb1⟩
  have A0 : LinkAt w1 w.heap.size k l q (.slice a ws.length cap) h g d := ⟨cell_later hb1 (by go_simp), cell_later hb1 (by go_simp), cell_later hb1 (by go_simp), cell_later hb1 (by go_simp), cell_later hb1 (by go_simp), cell_later hb1 (by go_simp), cell_later hb1 (by go_simp), fun o => by rw [hb1.frozen (by first | (simp; done) | omega | (simp; omega))]; go_simp⟩
  have A1 : LinkAt w1 (w.heap.size + 1) 0 0 0 (.slice none 0 0) false 0 0 := ⟨cell_later hb1 (by go_simp), cell_later hb1 (by go_simp), cell_later hb1 (by go_simp), cell_later hb1 (by go_simp), cell_later hb1 (by go_simp), cell_later hb1 (by go_simp), cell_later hb1 (by go_simp), fun o => by rw [hb1.frozen (by first | (simp; done) | omega | (simp; omega))]; go_simp⟩
  have HA1 := Lib.hid A1
  have z1 := A1.lt
  obtain ⟨g0, g1, g2, g3, g4, g5, g6, gf⟩ := A1
  have B1 : Below w.heap.size w w1 := by repeat (first | with_reducible exact Below.refl _ _ | ((with_reducible refine Below.setCell ?_ ?_ _); rotate_left; (· first | (simp; done) | omega | (simp; omega))) | with_reducible refine below_drewN ?_ _ | with_reducible refine Below.drew ?_ | ((with_reducible refine Below.trans ?_ (Below.mono hb1 ?_)); rotate_left; (· first | (simp; done) | omega | (simp; omega))) | ((with_reducible refine Below.alloc ?_ ?_ _); rotate_left; (· first | (simp; done) | omega | (simp; omega))) | exact Below.refl _ _ | refine Below.setCell ?_ (by first | (simp; done) | omega | (simp; omega)) _ | refine below_drewN ?_ _ | refine Below.drew ?_ | refine Below.trans ?_ (Below.mono hb1 (by first | (simp; done) | omega | (simp; omega))) | refine Below.alloc ?_ (by first | (simp; done) | omega | (simp; omega)) _)
  have HA0 := Lib.hid A0; have HB1 := Lib.hid B1
  have z0 := A0.lt
  obtain ⟨c0, c1, c2, c3, c4, c5, c6, cf⟩ := A0
  clear hb1 B1
  go_wp2
  have hW := link_write HA1.out 0 0 0 (.slice none 0 0) false 0 0
  have hB9 : Below w.heap.size w _ := wrLink_below HB1.out (show w.heap.size ≤ w.heap.size + 1 by omega) 0 0 0 (.slice none 0 0) false 0 0
  unfold wrLink at hW hB9
  clear c0 c1 c2 c3 c4 c5 c6 cf g0 g1 g2 g3 g4 g5 g6 gf
  generalize hw9 : (((((((_ : World).setCell _ _).setCell _ _).setCell _ _).setCell _ _).setCell _ _).setCell _ _).setCell _ _ = w9 at hW hB9 ⊢
  clear hw9
  obtain ⟨r0, r1, r2, r3, r4, r5, r6, -⟩ := hW
  exact bodyPost_ret (v := .tuple #[linkV 0 0 0 (.slice none 0 0) false 0 0, .int .i64 c]) (by simp [results, Try.results43, go_sem, r0, r1, r2, r3, r4, r5, r6]) rfl ⟨rfl, hB9⟩

set_option maxHeartbeats 4000000 in
set_option maxRecDepth 100000 in
theorem linkWords_bad (k l q : Int) (v : Value) (ws : List Int) (h : Bool) (g d m c : Int) (w : World) (hv : IntsAt .i32 w v ws) (hn : ws.length ≤ 9223372036854775807) (hk : I64B k) (hl : I64B l) (hm : I64B m)
    (hc : (linkChk k l q ws.length h g d = c ∧ c ≠ 0) ∨ (linkChk k l q ws.length h g d = 0 ∧ h = false ∧ c = 7) ∨ (linkChk k l q ws.length h g d = 0 ∧ h = true ∧ m < g ∧ c = 6)) :
    Calls Try.prog 44 #[linkV k l q v h g d, .int .i64 m] w fun e w' => e = .returned (.tuple #[.slice none 0 0, .int .i64 c]) ∧ Below w.heap.size w w' := by
  obtain ⟨a, cap, rfl⟩ := hv.len
  clear hv
  rcases hc with ⟨hc, h0⟩ | ⟨hc, rfl, rfl⟩ | ⟨hc, rfl, h1, rfl⟩
  · have HC := Lib.hid hc
    have dc : (c != 0) = true := by simpa using h0
    clear hc h0
    go_enter Try.func44, Try.ntmps44
    go_wp2_with fail
    refine (linkCheck_any k l q a ws.length cap h g d _ hk hl hn).mono ?_
    rw [HC.out]
    rintro e1 w1 ⟨rfl, hb1⟩
    have B1 : Below w.heap.size w w1 := by repeat (first | with_reducible exact Below.refl _ _ | ((with_reducible refine Below.setCell ?_ ?_ _); rotate_left; (· first | (simp; done) | omega | (simp; omega))) | with_reducible refine below_drewN ?_ _ | with_reducible refine Below.drew ?_ | ((with_reducible refine Below.trans ?_ (Below.mono hb1 ?_)); rotate_left; (· first | (simp; done) | omega | (simp; omega))) | ((with_reducible refine Below.alloc ?_ ?_ _); rotate_left; (· first | (simp; done) | omega | (simp; omega))) | exact Below.refl _ _ | refine Below.setCell ?_ (by first | (simp; done) | omega | (simp; omega)) _ | refine below_drewN ?_ _ | refine Below.drew ?_ | refine Below.trans ?_ (Below.mono hb1 (by first | (simp; done) | omega | (simp; omega))) | refine Below.alloc ?_ (by first | (simp; done) | omega | (simp; omega)) _)
    go_wp2
    go_ret2
    exact ⟨rfl, B1⟩
  · have HC := Lib.hid hc
    clear hc
    go_enter Try.func44, Try.ntmps44
    go_wp2_with fail
    refine (linkCheck_any k l q a ws.length cap false g d _ hk hl hn).mono ?_
    rw [HC.out]
    rintro e1 w1 ⟨rfl, hb1⟩
    have A0 : LinkAt w1 w.heap.size k l q (.slice a ws.length cap) false g d := ⟨cell_later hb1 (by go_simp), cell_later hb1 (by go_simp), cell_later hb1 (by go_simp), cell_later hb1 (by go_simp), cell_later hb1 (by go_simp), cell_later hb1 (by go_simp), cell_later hb1 (by go_simp), fun o => by rw [hb1.frozen (by first | (simp; done) | omega | (simp; omega))]; go_simp⟩
    have B1 : Below w.heap.size w w1 := by repeat (first | with_reducible exact Below.refl _ _ | ((with_reducible refine Below.setCell ?_ ?_ _); rotate_left; (· first | (simp; done) | omega | (simp; omega))) | with_reducible refine below_drewN ?_ _ | with_reducible refine Below.drew ?_ | ((with_reducible refine Below.trans ?_ (Below.mono hb1 ?_)); rotate_left; (· first | (simp; done) | omega | (simp; omega))) | ((with_reducible refine Below.alloc ?_ ?_ _); rotate_left; (· first | (simp; done) | omega | (simp; omega))) | exact Below.refl _ _ | refine Below.setCell ?_ (by first | (simp; done) | omega | (simp; omega)) _ | refine below_drewN ?_ _ | refine Below.drew ?_ | refine Below.trans ?_ (Below.mono hb1 (by first | (simp; done) | omega | (simp; omega))) | refine Below.alloc ?_ (by first | (simp; done) | omega | (simp; omega)) _)
    have HA0 := Lib.hid A0; have HB1 := Lib.hid B1
    have z0 := A0.lt
    obtain ⟨c0, c1, c2, c3, c4, c5, c6, cf⟩ := A0
    clear hb1 B1
    go_wp2
    go_ret2
    exact ⟨rfl, HB1.out⟩
  · have HC := Lib.hid hc
    have dm : decide (m < g) = true := decide_eq_true h1
    clear hc h1
    go_enter Try.func44, Try.ntmps44
    go_wp2_with fail
    refine (linkCheck_any k l q a ws.length cap true g d _ hk hl hn).mono ?_
    rw [HC.out]
    rintro e1 w1 ⟨rfl, hb1⟩
    have A0 : LinkAt w1 w.heap.size k l q (.slice a ws.length cap) true g d := ⟨cell_later hb1 (by go_simp), cell_later hb1 (by go_simp), cell_later hb1 (by go_simp), cell_later hb1 (by go_simp), cell_later hb1 (by go_simp), cell_later hb1 (by go_simp), cell_later hb1 (by go_simp), fun o => by rw [hb1.frozen (by first | (simp; done) | omega | (simp; omega))]; go_simp⟩
    have B1 : Below w.heap.size w w1 := by repeat (first | with_reducible exact Below.refl _ _ | ((with_reducible refine Below.setCell ?_ ?_ _); rotate_left; (· first | (simp; done) | omega | (simp; omega))) | with_reducible refine below_drewN ?_ _ | with_reducible refine Below.drew ?_ | ((with_reducible refine Below.trans ?_ (Below.mono hb1 ?_)); rotate_left; (· first | (simp; done) | omega | (simp; omega))) | ((with_reducible refine Below.alloc ?_ ?_ _); rotate_left; (· first | (simp; done) | omega | (simp; omega))) | exact Below.refl _ _ | refine Below.setCell ?_ (by first | (simp; done) | omega | (simp; omega)) _ | refine below_drewN ?_ _ | refine Below.drew ?_ | refine Below.trans ?_ (Below.mono hb1 (by first | (simp; done) | omega | (simp; omega))) | refine Below.alloc ?_ (by first | (simp; done) | omega | (simp; omega)) _)
    have HA0 := Lib.hid A0; have HB1 := Lib.hid B1
    have z0 := A0.lt
    obtain ⟨c0, c1, c2, c3, c4, c5, c6, cf⟩ := A0
    clear hb1 B1
    go_wp2
    go_ret2
    exact ⟨rfl, HB1.out⟩
set_option maxHeartbeats 4000000 in
set_option maxRecDepth 100000 in
theorem linkWords_yes (k l q : Int) (v : Value) (ws : List Int) (g d m : Int) (w : World) (hv : IntsAt .i32 w v ws) (hws : ws.length * 4 ≤ 140737488351232) (hk : I64B k) (hl : I64B l) (hm : I64B m)
    (hc : linkChk k l q ws.length true g d = 0) (hg : g ≤ m) :
    Calls Try.prog 44 #[linkV k l q v true g d, .int .i64 m] w fun e w' => ∃ v', e = .returned (.tuple #[v', .int .i64 0]) ∧ w'.ownsRow w.heap.size 21 1 v' ws.length (ws.map (.int .i32)) ∧ Below w.heap.size w w' := by
  have HV := Lib.hid hv; have HC := Lib.hid hc
  have hn : ws.length ≤ 9223372036854775807 := by omega
  have dm : decide (m < g) = false := decide_eq_false (by omega)
  obtain ⟨a, cap, rfl⟩ := hv.len
  clear hv hc
  go_enter Try.func44, Try.ntmps44
  go_wp2_with fail
  refine (linkCheck_any k l q a ws.length cap true g d _ hk hl hn).mono ?_
  rw [HC.out]
  rintro e1 w1 ⟨rfl, hb1⟩
  have A0 : LinkAt w1 w.heap.size k l q (.slice a ws.length cap) true g d := ⟨cell_later hb1 (by go_simp), cell_later hb1 (by go_simp), cell_later hb1 (by go_simp), cell_later hb1 (by go_simp), cell_later hb1 (by go_simp), cell_later hb1 (by go_simp), cell_later hb1 (by go_simp), fun o => by rw [hb1.frozen (by first | (simp; done) | omega | (simp; omega))]; go_simp⟩
  have B1 : Below w.heap.size w w1 := by repeat (first | with_reducible exact Below.refl _ _ | ((with_reducible refine Below.setCell ?_ ?_ _); rotate_left; (· first | (simp; done) | omega | (simp; omega))) | with_reducible refine below_drewN ?_ _ | with_reducible refine Below.drew ?_ | ((with_reducible refine Below.trans ?_ (Below.mono hb1 ?_)); rotate_left; (· first | (simp; done) | omega | (simp; omega))) | ((with_reducible refine Below.alloc ?_ ?_ _); rotate_left; (· first | (simp; done) | omega | (simp; omega))) | exact Below.refl _ _ | refine Below.setCell ?_ (by first | (simp; done) | omega | (simp; omega)) _ | refine below_drewN ?_ _ | refine Below.drew ?_ | refine Below.trans ?_ (Below.mono hb1 (by first | (simp; done) | omega | (simp; omega))) | refine Below.alloc ?_ (by first | (simp; done) | omega | (simp; omega)) _)
  have HA0 := Lib.hid A0; have HB1 := Lib.hid B1
  have z0 := A0.lt
  obtain ⟨c0, c1, c2, c3, c4, c5, c6, cf⟩ := A0
  clear hb1 B1
  go_wp2_with fail
  refine (clone_i32 ws _ _ (by exact HV.out.later HB1.out (Nat.le_refl _)) hws).mono ?_
  rintro e2 w2 ⟨v2, rfl, hown2, hb2⟩
  obtain ⟨a1, cap1, rfl⟩ := (own_ints' hown2).len
  have HB2 := Lib.hid (HB1.out.trans (hb2.mono HB1.out.size))
  have HO2 := Lib.hid (own_mono hown2 HB1.out.size)
  clear hb2 hown2
  go_wp2
  go_ret2
  exact ⟨_, rfl, HO2.out, HB2.out⟩

end Go.Proofs.Ytglagndpholejaa
