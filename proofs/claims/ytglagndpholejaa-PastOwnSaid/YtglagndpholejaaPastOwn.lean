/- PastOwn: whatever the formulas, the signals and the values are, the law answers true and leaves memory as it was. -/
import Derived.Test.YtglagndpholejaaRan
import Derived.Test.YtglagndpholejaaAmplePast
namespace Go.Proofs.Ytglagndpholejaa.pastOwn
open Go.ChangeShapes Go.WideShapes Go.ChangeAt Go.RowKit Go.Proofs.Ytglagndpholejaa Go.Proofs.Ytglagndpholejaa.Open
set_option linter.unusedVariables false
abbrev TB : TypeId := 4
abbrev TP : TypeId := 60
abbrev TU : TypeId := 5
abbrev OwnB (w : World) (B : Nat) (v : Value) (l : List Bool) : Prop := w.ownsRow B TB 1 v l.length (l.map .bool)
theorem ints_front {K : IntKind} {w : World} {B g : Nat} {E : TypeId} {xs : List Int} {ex : List Value} (h : w.ownsRow B E 1 (.slice (some ⟨g, 0, none⟩) (xs.length + 2) (xs.length + 3)) (xs.length + 2) (xs.map (.int K) ++ ex)) (hm : xs.length ≤ 281474976710656) : IntsAt K w (.slice (some ⟨g, 0, none⟩) xs.length (xs.length + 3)) xs := by
  by_cases h0 : xs = []
  · subst h0; exact .inl ⟨rfl, .inr ⟨_, _, rfl⟩⟩
  · refine .inr ⟨List.length_pos_iff.2 h0, g, 0, _, rfl, by omega, by omega, fun i hi => ?_⟩
    rw [Nat.zero_add, h.cellAt i (by omega), List.getElem?_append_left (by simpa using hi), List.getElem?_map, List.getD_eq_getElem?_getD, List.getElem?_eq_getElem hi]; rfl
theorem bools_front {w : World} {B g : Nat} {E : TypeId} {xs : List Bool} {ex : List Value} (h : w.ownsRow B E 1 (.slice (some ⟨g, 0, none⟩) (xs.length + 2) (xs.length + 3)) (xs.length + 2) (xs.map .bool ++ ex)) (hm : xs.length ≤ 281474976710656) : BoolsAt w (.slice (some ⟨g, 0, none⟩) xs.length (xs.length + 3)) xs := by
  by_cases h0 : xs = []
  · subst h0; exact .inl ⟨rfl, .inr ⟨_, _, rfl⟩⟩
  · refine .inr ⟨List.length_pos_iff.2 h0, g, 0, _, rfl, by omega, by omega, fun i hi => ?_⟩
    rw [Nat.zero_add, h.cellAt i (by omega), List.getElem?_append_left (by simpa using hi), List.getElem?_map, List.getD_eq_getElem?_getD, List.getElem?_eq_getElem hi]; rfl
theorem past_len (xs : List PastR) : (xs.flatMap pastLay).length = xs.length * 3 := by
  induction xs with
  | nil => rfl
  | cons x xs ih => rw [List.flatMap_cons, List.length_append, ih, List.length_cons]; show 3 + _ = _; omega
theorem past_one (xs : List PastR) : ∀ u ∈ xs.flatMap pastLay, u.oneCell' = true := by
  intro u hu
  obtain ⟨x, -, hx⟩ := List.mem_flatMap.1 hu
  simp only [pastLay, List.mem_cons, List.not_mem_nil, or_false] at hx
  rcases hx with rfl | rfl | rfl <;> rfl
theorem recs_front {w : World} {B g : Nat} {E : TypeId} {xs : List PastR} {ex : List Value} (h : w.ownsRow B E 3 (.slice (some ⟨g, 0, none⟩) (xs.length + 2) (xs.length + 3)) (xs.length + 2) (xs.flatMap pastLay ++ ex)) (hm : xs.length ≤ 281474976710656) : RecsAt 3 pastLay w (.slice (some ⟨g, 0, none⟩) xs.length (xs.length + 3)) xs := by
  by_cases h0 : xs = []
  · subst h0; exact .inl ⟨rfl, .inr ⟨_, _, rfl⟩⟩
  · refine .inr ⟨List.length_pos_iff.2 h0, g, 0, _, rfl, by omega, by omega, fun i y hy j hj => ?_⟩
    have hi : i < xs.length := (List.getElem?_eq_some_iff.1 hy).1
    have e := flatMap_at pastLay_len hy hj
    rw [Nat.zero_add, h.cellAt (i * 3 + j) (by omega), List.getElem?_append_left (by rw [past_len]; omega), e]
def StepP (w : World) (e : Ending) (w' : World) : Prop := ∃ va la x y, e = .returned (.tuple #[va, .bool x, .int .i64 y]) ∧ la.length ≤ 140737488351232 ∧ OwnB w' w.heap.size va la ∧ Below w.heap.size w w'
def RunP (w : World) (e : Ending) (w' : World) : Prop := ∃ va la y, e = .returned (.tuple #[va, .int .i64 y]) ∧ la.length ≤ 140737488351232 ∧ OwnB w' w.heap.size va la ∧ Below w.heap.size w w'
theorem step_any (xs : List PastR) (bs : List Bool) (s : Int) (v u : Value) (w : World) (hv : RecsAt 3 pastLay w v xs) (hu : BoolsAt w u bs) (hs : 0 ≤ s ∧ s ≤ 255) (hx : xs.length ≤ 9223372036854775807) :
    Calls Try.prog 33 #[v, u, .int .u8 s] w (StepP w) := by
  by_cases hok : PastOk xs
  · by_cases hw : bs = [] ∨ bs.length = xs.length
    · refine (pastTold_yes xs bs s v u w hok hv hu hw hs).mono ?_
      rintro e w' ⟨va, rfl, h, hb⟩
      have hl := pTo_len xs bs s xs.length
      exact ⟨va, _, _, _, rfl, by rw [hl]; have := hok.2.1; omega, by unfold OwnB; rw [hl]; exact h, hb⟩
    · obtain ⟨a, c, rfl⟩ := hu.len
      refine (pastTold_off xs bs.length c a s v w hok hv (fun e => hw (.inl (List.eq_nil_of_length_eq_zero e))) (fun e => hw (.inr e))).mono ?_
      rintro e w' ⟨rfl, hb⟩
      exact ⟨_, [], _, _, rfl, by decide, World.ownsRow_nil _ _ _ _, hb⟩
  · refine (pastTold_no xs s v u w hok hv hx).mono ?_
    rintro e w' ⟨rfl, hb⟩
    exact ⟨_, [], _, _, rfl, by decide, World.ownsRow_nil _ _ _ _, hb⟩
theorem run_any (xs : List PastR) (ss : List Int) (v u : Value) (w : World) (hv : RecsAt 3 pastLay w v xs) (hu : IntsAt .u8 w u ss) (hs : ∀ j, 0 ≤ ss.getD j 0 ∧ ss.getD j 0 ≤ 255) (hl : ss.length ≤ 140737488351232) (hx : xs.length ≤ 9223372036854775807) :
    Calls Try.prog 34 #[v, u] w (RunP w) := by
  by_cases hok : PastOk xs
  · refine (pastRun_yes xs ss v u w hok hv hu hs hl).mono ?_
    rintro e w' ⟨va, rfl, h, hb⟩
    exact ⟨va, pastRun xs ss, _, rfl, by rw [pastRun_len]; exact hl, by unfold OwnB; rw [pastRun_len]; exact h, hb⟩
  · refine (pastRun_no xs v u w hok hv hx).mono ?_
    rintro e w' ⟨rfl, hb⟩
    exact ⟨_, [], _, rfl, by decide, World.ownsRow_nil _ _ _ _, hb⟩
/-- the three rows with spare cells -/
structure Three (w : World) (B g1 g2 g3 : Nat) (xs : List PastR) (ss : List Int) (bs : List Bool) : Prop where
  o1 : w.ownsRow B TP 3 (.slice (some ⟨g1, 0, none⟩) (xs.length + 2) (xs.length + 3)) (xs.length + 2) (xs.flatMap pastLay ++ [.int .i64 77, .int .i64 0, .int .i64 0, .int .i64 77, .int .i64 0, .int .i64 0])
  o2 : w.ownsRow B TU 1 (.slice (some ⟨g2, 0, none⟩) (ss.length + 2) (ss.length + 3)) (ss.length + 2) (ss.map (.int .u8) ++ [.int .u8 77, .int .u8 77])
  o3 : w.ownsRow B TB 1 (.slice (some ⟨g3, 0, none⟩) (bs.length + 2) (bs.length + 3)) (bs.length + 2) (bs.map .bool ++ [.bool true, .bool true])
  b3 : ∀ j, j < bs.length + 3 → ∃ v, w.cell? ⟨g3, j, none⟩ = some v ∧ IsB v
theorem Three.call {w w' : World} {B g1 g2 g3 : Nat} {xs : List PastR} {ss : List Int} {bs : List Bool} (h : Three w B g1 g2 g3 xs ss bs) (hb : Below w.heap.size w w') : Three w' B g1 g2 g3 xs ss bs :=
  ⟨own_later h.o1 hb (Nat.le_refl _), own_later h.o2 hb (Nat.le_refl _), own_later h.o3 hb (Nat.le_refl _), fun j hj => by obtain ⟨v, h1, h2⟩ := h.b3 j hj; exact ⟨v, cell_later hb h1, h2⟩⟩
theorem Three.c1 {w : World} {B g1 g2 g3 : Nat} {xs : List PastR} {ss : List Int} {bs : List Bool} (h : Three w B g1 g2 g3 xs ss bs) (j : Nat) (v : Value) (hj : ([.int .i64 77, .int .i64 0, .int .i64 0] : List Value)[j]? = some v) : w.cell? ⟨g1, xs.length * 3 + j, none⟩ = some v := by
  have hl : j < 3 := (List.getElem?_eq_some_iff.1 hj).1
  rw [h.o1.cellAt (xs.length * 3 + j) (by omega), List.getElem?_append_right (by rw [past_len]; omega), past_len, show xs.length * 3 + j - xs.length * 3 = j by omega]
  rcases (by omega : j = 0 ∨ j = 1 ∨ j = 2) with rfl | rfl | rfl <;> exact hj
theorem Three.d1 {w : World} {B g1 g2 g3 : Nat} {xs : List PastR} {ss : List Int} {bs : List Bool} (h : Three w B g1 g2 g3 xs ss bs) (j : Nat) (v : Value) (hj : ([.int .i64 77, .int .i64 0, .int .i64 0] : List Value)[j]? = some v) : w.cell? ⟨g1, (xs.length + 1) * 3 + j, none⟩ = some v := by
  have hl : j < 3 := (List.getElem?_eq_some_iff.1 hj).1
  rw [h.o1.cellAt ((xs.length + 1) * 3 + j) (by omega), List.getElem?_append_right (by rw [past_len]; omega), past_len, show (xs.length + 1) * 3 + j - xs.length * 3 = 3 + j by omega]
  rcases (by omega : j = 0 ∨ j = 1 ∨ j = 2) with rfl | rfl | rfl <;> exact hj
theorem Three.c2 {w : World} {B g1 g2 g3 : Nat} {xs : List PastR} {ss : List Int} {bs : List Bool} (h : Three w B g1 g2 g3 xs ss bs) : w.cell? ⟨g2, ss.length, none⟩ = some (.int .u8 77) ∧ w.cell? ⟨g2, ss.length + 1, none⟩ = some (.int .u8 77) := by
  constructor
  · rw [h.o2.cellAt _ (by omega), List.getElem?_append_right (by simp)]; simp
  · rw [h.o2.cellAt _ (by omega), List.getElem?_append_right (by simp)]; simp
theorem Three.c3 {w : World} {B g1 g2 g3 : Nat} {xs : List PastR} {ss : List Int} {bs : List Bool} (h : Three w B g1 g2 g3 xs ss bs) : w.cell? ⟨g3, bs.length, none⟩ = some (.bool true) ∧ w.cell? ⟨g3, bs.length + 1, none⟩ = some (.bool true) := by
  constructor
  · rw [h.o3.cellAt _ (by omega), List.getElem?_append_right (by simp)]; simp
  · rw [h.o3.cellAt _ (by omega), List.getElem?_append_right (by simp)]; simp
/-- the block of bools, and four rows of bools elsewhere -/
structure Four (w : World) (M g3 N3 : Nat) (va vl vx vy : Value) (la ll : List Bool) : Prop where
  k3 : BlkOf w g3 TB N3
  b3 : ∀ j, j < N3 → ∃ v, w.cell? ⟨g3, j, none⟩ = some v ∧ IsB v
  A : OwnB w M va la
  L : OwnB w M vl ll
  X : OwnB w M vx la
  Y : OwnB w M vy ll
  n3 : g3 < M
theorem own_off {w w' : World} {M g : Nat} {v : Value} {l : List Bool} (h : OwnB w M v l) (hg : w.grownBy w' (some g)) (hm : g < M) : OwnB w' M v l :=
  own_far h hg (fun e => by have := (h.lt g e).1; omega)
theorem blk_off {w w' : World} {g p N : Nat} {E : TypeId} (h : BlkOf w g E N) (hg : w.grownBy w' (some p)) (hne : g ≠ p) : BlkOf w' g E N := by
  obtain ⟨cur, h1, h2⟩ := h
  exact ⟨cur, (hg.block g (Array.getElem?_eq_some_iff.1 h1).1 (by simpa using hne)).trans h1, h2⟩
theorem cells_off {w w' : World} {g p N : Nat} (h : ∀ j, j < N → ∃ v, w.cell? ⟨g, j, none⟩ = some v ∧ IsB v) (hl : g < w.heap.size) (hg : w.grownBy w' (some p)) (hne : g ≠ p) : ∀ j, j < N → ∃ v, w'.cell? ⟨g, j, none⟩ = some v ∧ IsB v := fun j hj => by
  obtain ⟨v, h1, h2⟩ := h j hj
  exact ⟨v, by rw [World.cell?_of_block (a := ⟨g, j, none⟩) (hg.block g hl (by simpa using hne))]; exact h1, h2⟩
section
variable {w w' : World} {M g3 N3 : Nat} {va vl vx vy : Value} {la ll : List Bool}
theorem Four.off {p : Nat} (h : Four w M g3 N3 va vl vx vy la ll) (hg : w.grownBy w' (some p)) (hp : p < M) (hne : g3 ≠ p) : Four w' M g3 N3 va vl vx vy la ll :=
  ⟨blk_off h.k3 hg hne, cells_off h.b3 h.k3.lt hg hne, own_off h.A hg hp, own_off h.L hg hp, own_off h.X hg hp, own_off h.Y hg hp, h.n3⟩
theorem Four.flip (h : Four w M g3 N3 va vl vx vy la ll) (j : Nat) (b : Bool) : Four (w.setCell ⟨g3, j, none⟩ (.bool b)) M g3 N3 va vl vx vy la ll := by
  have hg := grown_setB w g3 j (.bool b)
  refine ⟨h.k3.set j _, fun i hi => ?_, own_off h.A hg h.n3, own_off h.L hg h.n3, own_off h.X hg h.n3, own_off h.Y hg h.n3, h.n3⟩
  obtain ⟨v, h1, h2⟩ := h.b3 i hi
  by_cases e : i = j
  · subst e; exact ⟨.bool b, World.cell?_setCell_same' _ _ _ (by rw [h1]; rfl), b, rfl⟩
  · exact ⟨v, by rw [World.cell?_setCell_other _ _ _ _ (by intro x; injection x with _ x; exact e x.symm)]; exact h1, h2⟩
theorem Four.drewN (h : Four w M g3 N3 va vl vx vy la ll) (m : Nat) : Four (w.drewN m) M g3 N3 va vl vx vy la ll := ⟨h.k3, h.b3, h.A, h.L, h.X, h.Y, h.n3⟩
theorem Four.drew (h : Four w M g3 N3 va vl vx vy la ll) : Four w.drew M g3 N3 va vl vx vy la ll := ⟨h.k3, h.b3, h.A, h.L, h.X, h.Y, h.n3⟩
end
theorem one_ok : PastOk [(1, 0, 0)] := by
  refine ⟨by decide, by decide, fun i x hx => ?_⟩
  match i, hx with
  | 0, hx => cases hx; exact .inl ⟨rfl, by decide, by decide, rfl⟩
theorem one_lit : decide (pastRun [(1, 0, 0)] [1] = [true]) = true := by decide +kernel
theorem one_bd : ∀ j, 0 ≤ ([1] : List Int).getD j 0 ∧ ([1] : List Int).getD j 0 ≤ 255 := by
  intro j
  match j with
  | 0 => decide
  | j + 1 => rw [List.getD_eq_getElem?_getD, List.getElem?_eq_none (by simp)]; decide
set_option maxHeartbeats 8000000 in
set_option maxRecDepth 100000 in
theorem way (xs : List PastR) (ss : List Int) (bs : List Bool) (v u t : Value) (w : World) (hv : RecsAt 3 pastLay w v xs) (hu : IntsAt .u8 w u ss) (ht : BoolsAt w t bs) (hs : ∀ j, 0 ≤ ss.getD j 0 ∧ ss.getD j 0 ≤ 255)
    (hx : xs.length * 24 ≤ 140737488351232) (hl : ss.length ≤ 140737488351232) (hb : bs.length ≤ 140737488351232) :
    Calls Try.prog 8 #[v, u, t] w fun e w' => e = .returned (.bool true) ∧ Below w.heap.size w w' := by
  obtain ⟨a, cap, rfl⟩ := hv.len
  obtain ⟨a2, cap2, rfl⟩ := hu.len
  obtain ⟨a3, cap3, rfl⟩ := ht.len
  have HV := Lib.hid hv; have HU := Lib.hid hu; have HT := Lib.hid ht; have HS := Lib.hid hs
  clear hv hu ht hs
  have F0 := Lib.hid ((recs_new (E := 60) w [((1 : Int), (0 : Int), (0 : Int))] #[.int .i64 1, .int .i64 0, .int .i64 0] rfl pastLay_len rfl (by decide)).alloc pastLay_len (.cells #[.int .u8 1] 5))
  have F1 := Lib.hid (ints_new (E := 5) (K := .u8) (w.alloc (.cells #[.int .i64 1, .int .i64 0, .int .i64 0] 60)) [1] #[.int .u8 1] rfl rfl (by decide))
  simp only [World.size_alloc] at F1
  go_enter Try.func8, Try.ntmps8
  go_wp2_with fail
  refine (ran_yes [(1, 0, 0)] [1] _ _ _ one_ok F0.out F1.out one_bd (by decide)).mono ?_
  rintro e w1 ⟨v1, rfl, hown, hb⟩
  have B1 : Below w.heap.size w w1 := by repeat (first | with_reducible exact Below.refl _ _ | ((with_reducible refine Below.setCell ?_ ?_ _); rotate_left; (· first | (simp; done) | omega | (simp; omega))) | with_reducible refine below_drewN ?_ _ | with_reducible refine Below.drew ?_ | ((with_reducible refine Below.trans ?_ (Below.mono hb ?_)); rotate_left; (· first | (simp; done) | omega | (simp; omega))) | ((with_reducible refine Below.alloc ?_ ?_ _); rotate_left; (· first | (simp; done) | omega | (simp; omega))) | exact Below.refl _ _ | refine Below.setCell ?_ (by first | (simp; done) | omega | (simp; omega)) _ | refine below_drewN ?_ _ | refine Below.drew ?_ | refine Below.trans ?_ (Below.mono hb (by first | (simp; done) | omega | (simp; omega))) | refine Below.alloc ?_ (by first | (simp; done) | omega | (simp; omega)) _)
  have F2 := Lib.hid ((own_told hown).alloc (.cells #[.bool true] 4))
  have F3 := Lib.hid (bools_new (E := 4) w1 [true] #[.bool true] rfl rfl (by decide))
  have z1 := B1.size
  obtain ⟨g, capg, rfl, -, -⟩ := own_bd hown (by decide)
  clear F0 F1 hown hb
  go_wp2_with fail
  refine (equal_bool _ _ _ _ _ F2.out F3.out (by decide) (by decide)).mono ?_
  rintro e w2 ⟨m2, he, rfl⟩
  rw [one_lit] at he
  subst he
  have B2 : Hid (Below w.heap.size w ((w1.alloc (.cells #[.bool true] 4)).drewN m2)) := by repeat (first | with_reducible exact Below.refl _ _ | with_reducible exact B1 | ((with_reducible refine Below.setCell ?_ ?_ _); rotate_left; (· first | (simp; done) | omega | (simp; omega))) | with_reducible refine below_drewN ?_ _ | with_reducible refine Below.drew ?_ | ((with_reducible refine Below.alloc ?_ ?_ _); rotate_left; (· first | (simp; done) | omega | (simp; omega))) | exact Below.refl _ _ | exact B1 | refine Below.setCell ?_ (by first | (simp; done) | omega | (simp; omega)) _ | refine below_drewN ?_ _ | refine Below.drew ?_ | refine Below.alloc ?_ (by first | (simp; done) | omega | (simp; omega)) _)
  clear F2 F3 B1 z1
  generalize (w1.alloc (.cells #[.bool true] 4)).drewN m2 = w3 at *
  go_wp2_with fail
  refine (ample_past xs.length (xs.flatMap pastLay) _ 77 0 0 _ (src_recs (HV.out.later pastLay_len B2.out (Nat.le_refl _)) (by decide) pastLay_len) (past_one _) (by omega)).mono ?_
  rintro e w4 ⟨g1, rfl, ho1, hb4⟩
  have B4 := Lib.hid (B2.out.trans (hb4.mono B2.out.size))
  have q1 := (own_blk ho1).2
  have HO1 := Lib.hid ho1
  clear ho1
  go_wp2_with fail
  refine (ample_u8 ss.length (ss.map (.int .u8)) _ 77 _ (src_ints (HU.out.later B4.out (Nat.le_refl _))) (by intro u hu; obtain ⟨x, -, rfl⟩ := List.mem_map.1 hu; rfl) (by omega)).mono ?_
  rintro e w5 ⟨g2, rfl, ho2, hb5⟩
  have B5 := Lib.hid (B4.out.trans (hb5.mono B4.out.size))
  have q2 := (own_blk ho2).2
  have HO2 := Lib.hid ho2
  have HO1' := Lib.hid (own_later HO1.out hb5 (Nat.le_refl _))
  clear ho2 HO1
  go_wp2_with fail
  refine (ample_bool bs.length (bs.map .bool) _ true _ (src_bools (HT.out.later B5.out (Nat.le_refl _))) (by intro u hu; obtain ⟨x, -, rfl⟩ := List.mem_map.1 hu; rfl) (by intro u hu; obtain ⟨x, -, rfl⟩ := List.mem_map.1 hu; exact ⟨x, rfl⟩) (by omega)).mono ?_
  rintro e w6 ⟨g3, rfl, ho3, hb6, hb3⟩
  have B6 := Lib.hid (B5.out.trans (hb6.mono B5.out.size))
  have q3 := (own_blk ho3).2
  have z34 := hb4.size; have z45 := hb5.size; have z56 := hb6.size
  have HT6 : Hid (Three w6 w3.heap.size g1 g2 g3 xs ss bs) := ⟨own_later HO1'.out hb6 (Nat.le_refl _), own_monoA (own_later HO2.out hb6 (Nat.le_refl _)) z34, own_monoA ho3 (by omega), hb3⟩
  have zw3 := B2.out.size
  clear ho3 hb4 hb5 hb6 hb3 HO1' HO2
  go_wp2_with fail
  refine (step_any xs bs 3 _ _ _ (recs_front HT6.out.o1 (by omega)) (bools_front HT6.out.o3 (by omega)) (by decide) (by omega)).mono ?_
  rintro e w7 ⟨va, la, s1, s2, rfl, hla, hA, hb7⟩
  have B7 := Lib.hid (B6.out.trans (hb7.mono B6.out.size))
  have HT7 := Lib.hid (HT6.out.call hb7)
  have HA7 := Lib.hid (own_monoA hA (Nat.le_refl w6.heap.size))
  have z67 := hb7.size
  clear hA hb7 HT6
  go_wp2_with fail
  refine (run_any xs ss _ _ _ (recs_front HT7.out.o1 (by omega)) (ints_front HT7.out.o2 (by omega)) HS.out hl (by omega)).mono ?_
  rintro e w8 ⟨vl, ll, s3, rfl, hll, hL, hb8⟩
  have B8 := Lib.hid (B7.out.trans (hb8.mono B7.out.size))
  have HT8 := Lib.hid (HT7.out.call hb8)
  have HA8 := Lib.hid (own_later HA7.out hb8 (Nat.le_refl _))
  have HL8 := Lib.hid (own_monoA hL z67)
  have z78 := hb8.size
  clear hL hb8 HT7 HA7
  go_wp2_with fail
  refine (stays_past xs g1 _ 77 0 0 _ (recs_front HT8.out.o1 (by omega)) (HV.out.later pastLay_len B8.out (Nat.le_refl _)) (by omega) HT8.out.c1 HT8.out.d1).mono ?_
  rintro e w9 ⟨rfl, hb9⟩
  have B9 := Lib.hid (B8.out.trans (hb9.mono B8.out.size))
  have HT9 := Lib.hid (HT8.out.call hb9)
  have HA9 := Lib.hid (own_later HA8.out hb9 (Nat.le_refl _))
  have HL9 := Lib.hid (own_later HL8.out hb9 (Nat.le_refl _))
  have z89 := hb9.size
  clear hb9 HT8 HA8 HL8
  go_wp2_with fail
  refine (stays_u8 ss g2 _ 77 _ (ints_front HT9.out.o2 (by omega)) (HU.out.later B9.out (Nat.le_refl _)) (by omega) HT9.out.c2.1 HT9.out.c2.2).mono ?_
  rintro e w10 ⟨rfl, m10, rfl⟩
  go_wp2_with fail
  refine (stays_bool bs g3 _ true _ (bools_front (by exact HT9.out.o3) (by omega)) (by have := HT.out.later B9.out (Nat.le_refl _); exact this) (by omega) (by exact HT9.out.c3.1) (by exact HT9.out.c3.2)).mono ?_
  rintro e w11 ⟨rfl, m11, rfl⟩
  have B11 : Hid (Below w.heap.size w ((w9.drewN m10).drewN m11)) := below_drewN (below_drewN B9.out m10) m11
  have HA11 : Hid (OwnB ((w9.drewN m10).drewN m11) w6.heap.size va la) := HA9.out
  have HL11 : Hid (OwnB ((w9.drewN m10).drewN m11) w6.heap.size vl ll) := HL9.out
  have HT11 : Hid (Three ((w9.drewN m10).drewN m11) w3.heap.size g1 g2 g3 xs ss bs) := ⟨HT9.out.o1, HT9.out.o2, HT9.out.o3, HT9.out.b3⟩
  have z911 : w9.heap.size = ((w9.drewN m10).drewN m11).heap.size := by simp
  generalize (w9.drewN m10).drewN m11 = w11 at *
  clear HT9 HA9 HL9 B9
  go_wp2_with fail
  refine (clone_bool la va _ (own_bools' HA11.out) (by omega)).mono ?_
  rintro e w12 ⟨vx, rfl, hX, hb12⟩
  have B12 := Lib.hid (B11.out.trans (hb12.mono B11.out.size))
  have HT12 := Lib.hid (HT11.out.call hb12)
  have HA12 := Lib.hid (own_later HA11.out hb12 (Nat.le_refl _))
  have HL12 := Lib.hid (own_later HL11.out hb12 (Nat.le_refl _))
  have HX12 : Hid (OwnB w12 w6.heap.size vx la) := own_monoA hX (by omega)
  have z12 := hb12.size
  clear hX hb12 HT11 HA11 HL11
  go_wp2_with fail
  refine (clone_bool ll vl _ (own_bools' HL12.out) (by omega)).mono ?_
  rintro e w13 ⟨vy, rfl, hY, hb13⟩
  have B13 := Lib.hid (B12.out.trans (hb13.mono B12.out.size))
  have HT13 := HT12.out.call hb13
  have r1 := own_blk HT13.o1; have r2 := own_blk HT13.o2; have r3 := own_blk HT13.o3
  have HF13 : Hid (Four w13 w6.heap.size g3 ((bs.length + 3) * 1) va vl vx vy la ll) := ⟨r3.1, by rw [Nat.mul_one]; exact HT13.b3, own_later HA12.out hb13 (Nat.le_refl _), own_later HL12.out hb13 (Nat.le_refl _), own_later HX12.out hb13 (Nat.le_refl _), own_monoA hY (by omega), q3.2⟩
  have hg12 : g1 ≠ g2 := by omega
  have hg13 : g1 ≠ g3 := by omega
  have hg23 : g2 ≠ g3 := by omega
  have hg1 : g1 < w6.heap.size := by omega
  have hg2 : g2 < w6.heap.size := by omega
  have hgw1 : w.heap.size ≤ g1 := by omega
  have hgw2 : w.heap.size ≤ g2 := by omega
  have hgw3 : w.heap.size ≤ g3 := by omega
  have HK1 := Lib.hid r1.1; have HK2 := Lib.hid r2.1
  have zw13 := B13.out.size
  clear hY hb13 HT12 HA12 HL12 HX12 HT13 r1 r2 r3
  go_wp2_with fail
  refine (spoil_past g1 xs.length (xs.length + 3) 0 0 0 _ HK1.out (by omega) (by omega)).mono ?_
  rintro e w14 ⟨rfl, hg14⟩
  have B14 := Lib.hid (B13.out.grown hg14 zw13 (fun k e => by cases e; exact hgw1))
  have HF14 := Lib.hid (HF13.out.off hg14 hg1 (fun e => hg13 e.symm))
  have HK2' := Lib.hid (blk_off HK2.out hg14 (fun e => hg12 e.symm))
  have zw14 := B14.out.size
  clear hg14 HF13 HK1 HK2
  go_wp2_with fail
  refine (spoil_u8 g2 ss.length (ss.length + 3) 5 _ HK2'.out (by omega) (by omega)).mono ?_
  rintro e w15 ⟨rfl, hg15⟩
  have B15 := Lib.hid (B14.out.grown hg15 zw14 (fun k e => by cases e; exact hgw2))
  have HF15 := Lib.hid (HF14.out.off hg15 hg2 (fun e => hg23 e.symm))
  clear hg15 HF14 HK2'
  go_wp2_with fail
  go_loopw [78] (fun i wr => (∃ k : Nat, k ≤ bs.length + 3 ∧ i = .int .i64 k) ∧ Below w.heap.size w wr ∧ Four wr w6.heap.size g3 ((bs.length + 3) * 1) va vl vx vy la ll) (fun i _ => bs.length + 3 - (intOf i).toNat)
  case atStart => exact ⟨⟨0, Nat.zero_le _, rfl⟩, B15.out, HF15.out⟩
  case round =>
    obtain ⟨⟨k, hk, rfl⟩, hB, hF⟩ := hrel
    clear HF15
    have HB := Lib.hid hB; have HF := Lib.hid hF
    have zr := hB.size
    by_cases hlt : k < bs.length + 3
    · obtain ⟨v, hcv, b, rfl⟩ := hF.b3 k (by omega)
      have hfz := hF.k3.frozen
      have hgz := hF.k3.lt
      have d1 : (k : Int) < (bs.length : Int) + 3 := by omega
      clear hB hF
      go_wp2
      go_region
      all_goals
        go_wp2
        go_roundw
        case rel => exact ⟨⟨k + 1, by omega, by go_num⟩, by have := HB.out; repeat (first | with_reducible exact Below.refl _ _ | with_reducible exact this | ((with_reducible refine Below.setCell ?_ ?_ _); rotate_left; (· first | (simp; done) | omega | (simp; omega))) | with_reducible refine below_drewN ?_ _ | with_reducible refine Below.drew ?_ | ((with_reducible refine Below.alloc ?_ ?_ _); rotate_left; (· first | (simp; done) | omega | (simp; omega))) | exact Below.refl _ _ | exact this | refine Below.setCell ?_ (by first | (simp; done) | omega | (simp; omega)) _ | refine below_drewN ?_ _ | refine Below.drew ?_ | refine Below.alloc ?_ (by first | (simp; done) | omega | (simp; omega)) _), by first | exact (HF.out.flip k _).drew | exact HF.out.flip k _ | exact HF.out.drew.flip k _⟩
        case measure => simp [intOf]; omega
    · obtain rfl : k = bs.length + 3 := by omega
      have hbA := own_bools' hF.A; have hbX := own_bools' hF.X; have hbL := own_bools' hF.L; have hbY := own_bools' hF.Y
      have HBA := Lib.hid hbA; have HBX := Lib.hid hbX; have HBL := Lib.hid hbL; have HBY := Lib.hid hbY
      clear hB hF hbA hbX hbL hbY
      go_wp2_with fail
      refine (equal_bool la la va vx _ HBA.out HBX.out (by omega) (by omega)).mono ?_
      rintro e w16 ⟨m16, rfl, rfl⟩
      rw [show decide (la = la) = true from decide_eq_true rfl]
      go_wp2_with fail
      refine (equal_bool ll ll vl vy _ (by exact HBL.out) (by exact HBY.out) (by omega) (by omega)).mono ?_
      rintro e w17 ⟨m17, rfl, rfl⟩
      rw [show decide (ll = ll) = true from decide_eq_true rfl]
      go_wp2
      go_ret
      exact ⟨rfl, by have := HB.out; repeat (first | with_reducible exact Below.refl _ _ | with_reducible exact this | ((with_reducible refine Below.setCell ?_ ?_ _); rotate_left; (· first | (simp; done) | omega | (simp; omega))) | with_reducible refine below_drewN ?_ _ | with_reducible refine Below.drew ?_ | ((with_reducible refine Below.alloc ?_ ?_ _); rotate_left; (· first | (simp; done) | omega | (simp; omega))) | exact Below.refl _ _ | exact this | refine Below.setCell ?_ (by first | (simp; done) | omega | (simp; omega)) _ | refine below_drewN ?_ _ | refine Below.drew ?_ | refine Below.alloc ?_ (by first | (simp; done) | omega | (simp; omega)) _)⟩
theorem law (a : Option Addr) (len cap : Nat) (xs : List PastR) (a2 : Option Addr) (len2 cap2 : Nat) (zs : List Int) (a3 : Option Addr) (len3 cap3 : Nat) (ys : List Bool) (w : World)
    (h : IsRecs 3 pastLay pastFit w a len cap xs) (hr : len ≤ cap ∧ cap * 24 ≤ 140737488351232) (h2 : IsRow .u8 w a2 len2 cap2 zs) (hr2 : len2 ≤ cap2 ∧ cap2 * 1 ≤ 140737488351232) (h3 : IsRowB w a3 len3 cap3 ys) (hr3 : len3 ≤ cap3 ∧ cap3 * 1 ≤ 140737488351232) :
    Calls Try.prog 8 #[.slice a len cap, .slice a2 len2 cap2, .slice a3 len3 cap3] w fun e w' => e = .returned (.bool true) ∧ Below w.heap.size w w' := by
  obtain ⟨q3, q4, -⟩ := isRecs_recs h (by omega) pastLay_len
  obtain ⟨q5, q6⟩ := isRow_ints h2
  obtain ⟨q7, q8⟩ := isRowB_bools h3
  exact way (xs.take len) (zs.take len2) (ys.take len3) _ _ _ w q3 q5 q7 (u8_bd h2) (by omega) (by omega) (by omega)
set_option maxRecDepth 100000 in
theorem lifted (os : Os) (started : os.Started) (H : Type) (enc : TypeId × Value → H) :
    ReturnsInHanded {} Try.checked os 8 .any (Rows.pastOwnSpec.pre6 enc Try.prog Try.f8 Rows.pastOwnRow.domain false) (Rows.pastOwnSpec.post enc Try.prog Try.f8 false true false false) := by
  refine returnsInHanded_of_change_sized (C := Try.checked) own started (by kernel_rfl) Try.func8
    (ChangeSpec.witness6 (enc := enc) (C := Try.checked) false ⟨#[], #[.slice none 0 0, .slice none 0 0, .slice none 0 0], []⟩ 8 (by kernel_rfl) (by kernel_rfl) (by kernel_rfl) (by kernel_rfl)) ?_
  intro W base args ds gs before hval0 hW hcnd hsz0 _
  have hsz : (DataW.weightsEach Try.prog (Try.f8.params.toList ++ Rows.pastOwnSpec.plain.varTypes Try.prog) (ds ++ gs)).all (· ≤ reachBytes) = true := hsz0
  have hval : ∀ (j : Nat) t v, Try.f8.params[j]? = some t → args[j]? = some v → Value.okWide Try.prog W .any base t v := hval0
  have hW' := hW
  obtain ⟨p, q, hA0, hV, rfl, hfz, hnd⟩ := hW
  have hA : DataW.TrodAll enc Try.prog W 0 (fun _ => true) true Try.f8.params.toList args.toList ds p := hA0
  rw [Try.params8] at hA hval hsz
  obtain ⟨v0, vs0, d0, ds0, p0, q0, hargs, rfl, rfl, h0, r0⟩ := trodAll_cons hA
  obtain ⟨v1, vs1, d1, ds1, p1, q1, rfl, rfl, rfl, h1, r1⟩ := trodAll_cons r0
  obtain ⟨v2, vs2, d2, ds2, p2, q2, rfl, rfl, rfl, h2, r2⟩ := trodAll_cons r1
  obtain ⟨rfl, rfl, rfl⟩ := trodAll_nil r2
  obtain rfl : args = #[v0, v1, v2] := by cases args; simp_all
  obtain ⟨rfl, rfl⟩ := trodVars_none hV
  have k0 := h0
  have lt0 : ∀ x ∈ p0, x.block < W.heap.size := by obtain ⟨m, hm⟩ := k0; exact DataW.trod_lt m _ _ _ hm
  have k1 := h1
  have lt1 : ∀ x ∈ p1, x.block < W.heap.size := by obtain ⟨m, hm⟩ := k1; exact DataW.trod_lt m _ _ _ hm
  have k2 := h2
  have lt2 : ∀ x ∈ p2, x.block < W.heap.size := by obtain ⟨m, hm⟩ := k2; exact DataW.trod_lt m _ _ _ hm
  obtain ⟨sa0, sl0, sc0, rfl⟩ := okWide_slice Try.underlying55 (hval 0 55 v0 rfl rfl)
  obtain ⟨a0, len0, cap0, z0, e0, w0⟩ := leaf_recs (ts := [3, 3, 3]) 3 pastLay pastFit 12 (Try.underlying55) (by kernel_rfl) (by kernel_rfl) rfl past_dec (by obtain ⟨fuel, hf⟩ := h0; exact ⟨fuel, _, by simpa [Value.cells] using hf⟩)
  simp only [Value.slice.injEq] at e0
  obtain ⟨rfl, rfl, rfl⟩ := e0
  have R0 := cap_le (B := 24) Try.underlying55 k0 (fun elems spare hd => by have := sized_slice hsz (j := 0) (t := 55) (e := 60) (elems := elems) (spare := spare) rfl (by rw [← hd]; rfl) Try.underlying55; exact this)
  obtain ⟨sa1, sl1, sc1, rfl⟩ := okWide_slice Try.underlying56 (hval 1 56 v1 rfl rfl)
  obtain ⟨a1, len1, cap1, z1, e1, w1⟩ := leaf_ints (Try.underlying56) (Try.underlying5) (by kernel_rfl) (by obtain ⟨fuel, hf⟩ := h1; exact ⟨fuel, _, by simpa [Value.cells] using hf⟩)
  simp only [Value.slice.injEq] at e1
  obtain ⟨rfl, rfl, rfl⟩ := e1
  have R1 := cap_le (B := 1) Try.underlying56 k1 (fun elems spare hd => by have := sized_slice hsz (j := 1) (t := 56) (e := 5) (elems := elems) (spare := spare) rfl (by rw [← hd]; rfl) Try.underlying56; exact this)
  obtain ⟨sa2, sl2, sc2, rfl⟩ := okWide_slice Try.underlying57 (hval 2 57 v2 rfl rfl)
  obtain ⟨a2, len2, cap2, z2, e2, w2⟩ := leaf_bools (Try.underlying57) (Try.underlying4) (by kernel_rfl) (by obtain ⟨fuel, hf⟩ := h2; exact ⟨fuel, _, by simpa [Value.cells] using hf⟩)
  simp only [Value.slice.injEq] at e2
  obtain ⟨rfl, rfl, rfl⟩ := e2
  have R2 := cap_le (B := 1) Try.underlying57 k2 (fun elems spare hd => by have := sized_slice hsz (j := 2) (t := 57) (e := 4) (elems := elems) (spare := spare) rfl (by rw [← hd]; rfl) Try.underlying57; exact this)
  clear hA0 hval0
  refine (law sa0 sl0 sc0 z0 sa1 sl1 sc1 z1 sa2 sl2 sc2 z2 W w0 R0 w1 R1 w2 R2).mono fun e W' ⟨he, bel⟩ => ?_
  subst he
  exact ⟨_, rfl, _, _, _, [], _, [], hW', trodAll_mk1 (shut_bool Try.underlying4 _), (trodAll_cons_mk (Below.trod laidOut (by kernel_rfl) (of_decide_eq_true (by kernel_rfl)) k0 bel lt0) (trodAll_cons_mk (Below.trod laidOut (by kernel_rfl) (of_decide_eq_true (by kernel_rfl)) k1 bel lt1) (trodAll_cons_mk (Below.trod laidOut (by kernel_rfl) (of_decide_eq_true (by kernel_rfl)) k2 bel lt2) trodAll_mk0))), rfl, bel.frame _, fun h => by cases h⟩
theorem over : Rows.pastOwnRow.holds Try.pinned (OpenSpec.ofChange Rows.pastOwnSpec) :=
  OpenClaim.holds_of_wide 8 Try.f8 rfl rfl rfl rfl rfl rfl rfl ⟨rfl, rfl, rfl, rfl, rfl⟩ rfl rfl rfl rfl rfl (by kernel_rfl) Try.func8 (by kernel_rfl)
    (of_decide_eq_true (by kernel_rfl)) (by unfold Func.isWrapper; first | (rw [if_pos (by decide +kernel)]; kernel_rfl) | (rw [if_neg (by decide +kernel)]; exact ⟨rfl, rfl⟩))
    (fun os started H enc _ => lifted os started H enc)
theorem proved : Rows.PastOwnSaid := over
#print axioms proved

end Go.Proofs.Ytglagndpholejaa.pastOwn
