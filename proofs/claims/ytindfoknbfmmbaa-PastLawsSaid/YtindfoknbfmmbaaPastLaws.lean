/- PastLaws: whatever the signs are, the law answers true and leaves memory as it was. -/
import Derived.Test.YtindfoknbfmmbaaRan
namespace Go.Proofs.Ytindfoknbfmmbaa.pastLaws
open Go.ChangeShapes Go.WideShapes Go.ChangeAt Go.RowKit Go.Proofs.Ytindfoknbfmmbaa Go.Proofs.Ytindfoknbfmmbaa.Open
set_option linter.unusedVariables false
instance (i : Nat) (x : PastR) : Decidable (pOk i x) := by unfold pOk; infer_instance
theorem ok_of (xs : List PastR) (h : (decide (1 ≤ xs.length) && decide (xs.length ≤ 20) && (List.range xs.length).all fun i => decide (pOk i (xs.getD i (1, 0, 0)))) = true) : PastOk xs := by
  simp only [Bool.and_eq_true, decide_eq_true_eq, List.all_eq_true, List.mem_range] at h
  refine ⟨h.1.1, h.1.2, fun i x hx => ?_⟩
  have hi : i < xs.length := by
    rcases Nat.lt_or_ge i xs.length with h | h
    · exact h
    · rw [List.getElem?_eq_none h] at hx; cases hx
  have := h.2 i hi
  rwa [List.getD_eq_getElem?_getD, hx] at this
def A1 : List PastR := [(1, 0, 0), (4, 0, 0)]
theorem okA1 : PastOk A1 := ok_of _ (by decide +kernel)
def B1 : List PastR := [(1, 0, 0), (4, 0, 0), (3, 1, 0), (7, 0, 2)]
theorem okB1 : PastOk B1 := ok_of _ (by decide +kernel)
def A2 : List PastR := [(1, 0, 0), (5, 0, 0)]
theorem okA2 : PastOk A2 := ok_of _ (by decide +kernel)
def B2 : List PastR := [(1, 0, 0), (2, 0, 0), (4, 1, 0), (2, 2, 0)]
theorem okB2 : PastOk B2 := ok_of _ (by decide +kernel)
def A3 : List PastR := [(1, 0, 0), (1, 1, 0), (8, 0, 1)]
theorem okA3 : PastOk A3 := ok_of _ (by decide +kernel)
def B3 : List PastR := [(1, 0, 0), (1, 1, 0), (8, 0, 1), (3, 2, 0), (6, 0, 3), (7, 1, 4)]
theorem okB3 : PastOk B3 := ok_of _ (by decide +kernel)
theorem lit_bd : ∀ j, 0 ≤ ([2, 1, 1, 0, 1] : List Int).getD j 0 ∧ ([2, 1, 1, 0, 1] : List Int).getD j 0 ≤ 255 := by
  intro j
  match j with
  | 0 => decide
  | 1 => decide
  | 2 => decide
  | 3 => decide
  | 4 => decide
  | j + 5 => rw [List.getD_eq_getElem?_getD, List.getElem?_eq_none (by simp)]; decide
theorem nxt {xs : List PastR} {was l : List Bool} {s : Int} {k : Nat} {x : PastR} {v : Bool} (h : pTo xs was s k = l) (hx : xs[k]? = some x) (hv : pval x l was (was.length == 0) (was.getD k false) s = v) : pTo xs was s (k + 1) = l ++ [v] := by
  rw [pTo_step hx rfl rfl, h, hv]
theorem a1n (s : Int) : pTo A1 [] s 2 = [pBit s 0, pBit s 0 || false] := nxt (v := pBit s 0 || false) (nxt (v := pBit s 0) ((rfl : pTo A1 [] s 0 = [])) rfl rfl) rfl rfl
theorem a1 (s : Int) (x o : Bool) : pTo A1 [x, o] s 2 = [pBit s 0, pBit s 0 || o] := nxt (v := pBit s 0 || o) (nxt (v := pBit s 0) ((rfl : pTo A1 [x, o] s 0 = [])) rfl rfl) rfl rfl
theorem b1n (s : Int) : pTo B1 [] s 4 = [pBit s 0, pBit s 0 || false, false, pBit s 0 || false] := nxt (v := pBit s 0 || false) (nxt (v := false) (nxt (v := pBit s 0 || false) (nxt (v := pBit s 0) ((rfl : pTo B1 [] s 0 = [])) rfl rfl) rfl rfl) rfl rfl) rfl rfl
theorem b1 (s : Int) (x o p q : Bool) : pTo B1 [x, o, p, q] s 4 = [pBit s 0, pBit s 0 || o, o, pBit s 0 || o] := nxt (v := pBit s 0 || o) (nxt (v := o) (nxt (v := pBit s 0 || o) (nxt (v := pBit s 0) ((rfl : pTo B1 [x, o, p, q] s 0 = [])) rfl rfl) rfl rfl) rfl rfl) rfl rfl
theorem a2n (s : Int) : pTo A2 [] s 2 = [pBit s 0, pBit s 0 && true] := nxt (v := pBit s 0 && true) (nxt (v := pBit s 0) ((rfl : pTo A2 [] s 0 = [])) rfl rfl) rfl rfl
theorem a2 (s : Int) (x o : Bool) : pTo A2 [x, o] s 2 = [pBit s 0, pBit s 0 && o] := nxt (v := pBit s 0 && o) (nxt (v := pBit s 0) ((rfl : pTo A2 [x, o] s 0 = [])) rfl rfl) rfl rfl
theorem b2n (s : Int) : pTo B2 [] s 4 = [pBit s 0, !pBit s 0, !pBit s 0 || false, !(!pBit s 0 || false)] := nxt (v := !(!pBit s 0 || false)) (nxt (v := !pBit s 0 || false) (nxt (v := !pBit s 0) (nxt (v := pBit s 0) ((rfl : pTo B2 [] s 0 = [])) rfl rfl) rfl rfl) rfl rfl) rfl rfl
theorem b2 (s : Int) (x n m q : Bool) : pTo B2 [x, n, m, q] s 4 = [pBit s 0, !pBit s 0, !pBit s 0 || m, !(!pBit s 0 || m)] := nxt (v := !(!pBit s 0 || m)) (nxt (v := !pBit s 0 || m) (nxt (v := !pBit s 0) (nxt (v := pBit s 0) ((rfl : pTo B2 [x, n, m, q] s 0 = [])) rfl rfl) rfl rfl) rfl rfl) rfl rfl
theorem a3n (s : Int) : pTo A3 [] s 3 = [pBit s 0, pBit s 1, pBit s 1 || pBit s 0 && false] := nxt (v := pBit s 1 || pBit s 0 && false) (nxt (v := pBit s 1) (nxt (v := pBit s 0) ((rfl : pTo A3 [] s 0 = [])) rfl rfl) rfl rfl) rfl rfl
theorem a3 (s : Int) (x y z : Bool) : pTo A3 [x, y, z] s 3 = [pBit s 0, pBit s 1, pBit s 1 || pBit s 0 && z] := nxt (v := pBit s 1 || pBit s 0 && z) (nxt (v := pBit s 1) (nxt (v := pBit s 0) ((rfl : pTo A3 [x, y, z] s 0 = [])) rfl rfl) rfl rfl) rfl rfl
theorem b3n (s : Int) : pTo B3 [] s 6 = [pBit s 0, pBit s 1, pBit s 1 || pBit s 0 && false, false, pBit s 0 && false, pBit s 1 || pBit s 0 && false] := nxt (v := pBit s 1 || pBit s 0 && false) (nxt (v := pBit s 0 && false) (nxt (v := false) (nxt (v := pBit s 1 || pBit s 0 && false) (nxt (v := pBit s 1) (nxt (v := pBit s 0) ((rfl : pTo B3 [] s 0 = [])) rfl rfl) rfl rfl) rfl rfl) rfl rfl) rfl rfl) rfl rfl
theorem b3 (s : Int) (x y z p q r : Bool) : pTo B3 [x, y, z, p, q, r] s 6 = [pBit s 0, pBit s 1, pBit s 1 || pBit s 0 && z, z, pBit s 0 && z, pBit s 1 || pBit s 0 && z] := nxt (v := pBit s 1 || pBit s 0 && z) (nxt (v := pBit s 0 && z) (nxt (v := z) (nxt (v := pBit s 1 || pBit s 0 && z) (nxt (v := pBit s 1) (nxt (v := pBit s 0) ((rfl : pTo B3 [x, y, z, p, q, r] s 0 = [])) rfl rfl) rfl rfl) rfl rfl) rfl rfl) rfl rfl) rfl rfl
theorem nxtR {xs : List PastR} {ss : List Int} {k : Nat} {o w l : List Bool} {s : Int} {b : Bool} (h : rTo xs ss k = (o, w)) (hs : ss.getD k 0 = s) (hl : pTo xs w s xs.length = l) (hb : l.getD (xs.length - 1) false = b) : rTo xs ss (k + 1) = (o ++ [b], l) := by
  simp only [rTo, h, hs, hl, hb]
theorem lit_eq : decide (pastRun A3 [2, 1, 1, 0, 1] = [true, true, true, false, false]) = true := by
  have h : rTo A3 [2, 1, 1, 0, 1] 5 = _ := nxtR (b := false) (l := [true, false, false]) (nxtR (b := false) (l := [false, false, false]) (nxtR (b := true) (l := [true, false, true]) (nxtR (b := true) (l := [true, false, true]) (nxtR (b := true) (l := [false, true, true]) ((rfl : rTo A3 [2, 1, 1, 0, 1] 0 = ([], []))) (s := 2) rfl ((a3n 2).trans (by decide +kernel) : pTo A3 [] 2 3 = [false, true, true]) rfl) (s := 1) rfl ((a3 1 false true true).trans (by decide +kernel) : pTo A3 [false, true, true] 1 3 = [true, false, true]) rfl) (s := 1) rfl ((a3 1 true false true).trans (by decide +kernel) : pTo A3 [true, false, true] 1 3 = [true, false, true]) rfl) (s := 0) rfl ((a3 0 true false true).trans (by decide +kernel) : pTo A3 [true, false, true] 0 3 = [false, false, false]) rfl) (s := 1) rfl ((a3 1 false false false).trans (by decide +kernel) : pTo A3 [false, false, false] 1 3 = [true, false, false]) rfl
  have e : pastRun A3 [2, 1, 1, 0, 1] = [true, true, true, false, false] := (congrArg Prod.fst h : _)
  rw [e]; rfl
theorem once_k (ss : List Int) (k : Nat) : (rTo A1 ss k).1 = (rTo B1 ss k).1 ∧ (((rTo A1 ss k).2 = [] ∧ (rTo B1 ss k).2 = []) ∨ ∃ x o p, (rTo A1 ss k).2 = [x, o] ∧ (rTo B1 ss k).2 = [x, o, p, o]) := by
  induction k with
  | zero => exact ⟨rfl, .inl ⟨rfl, rfl⟩⟩
  | succ k ih =>
    obtain ⟨h1, h2⟩ := ih
    simp only [rTo, h1]
    generalize ss.getD k 0 = s
    rw [show A1.length = 2 from rfl, show B1.length = 4 from rfl]
    rcases h2 with ⟨e1, e2⟩ | ⟨x, o, p, e1, e2⟩
    · rw [e1, e2, a1n, b1n]
      exact ⟨rfl, .inr ⟨_, _, _, rfl, rfl⟩⟩
    · rw [e1, e2, a1, b1]
      exact ⟨rfl, .inr ⟨_, _, _, rfl, rfl⟩⟩
theorem ever_k (ss : List Int) (k : Nat) : (rTo A2 ss k).1 = (rTo B2 ss k).1 ∧ (((rTo A2 ss k).2 = [] ∧ (rTo B2 ss k).2 = []) ∨ ∃ x n m, (rTo A2 ss k).2 = [x, !m] ∧ (rTo B2 ss k).2 = [x, n, m, !m]) := by
  induction k with
  | zero => exact ⟨rfl, .inl ⟨rfl, rfl⟩⟩
  | succ k ih =>
    obtain ⟨h1, h2⟩ := ih
    simp only [rTo, h1]
    generalize ss.getD k 0 = s
    rw [show A2.length = 2 from rfl, show B2.length = 4 from rfl]
    rcases h2 with ⟨e1, e2⟩ | ⟨x, n, m, e1, e2⟩
    · rw [e1, e2, a2n, b2n]
      generalize pBit s 0 = b
      cases b <;> exact ⟨rfl, .inr ⟨_, _, _, rfl, rfl⟩⟩
    · rw [e1, e2, a2, b2]
      generalize pBit s 0 = b
      cases b <;> cases m <;> exact ⟨rfl, .inr ⟨_, _, _, rfl, rfl⟩⟩
theorem since_k (ss : List Int) (k : Nat) : (rTo A3 ss k).1 = (rTo B3 ss k).1 ∧ (((rTo A3 ss k).2 = [] ∧ (rTo B3 ss k).2 = []) ∨ ∃ x y z p q, (rTo A3 ss k).2 = [x, y, z] ∧ (rTo B3 ss k).2 = [x, y, z, p, q, z]) := by
  induction k with
  | zero => exact ⟨rfl, .inl ⟨rfl, rfl⟩⟩
  | succ k ih =>
    obtain ⟨h1, h2⟩ := ih
    simp only [rTo, h1]
    generalize ss.getD k 0 = s
    rw [show A3.length = 3 from rfl, show B3.length = 6 from rfl]
    rcases h2 with ⟨e1, e2⟩ | ⟨x, y, z, p, q, e1, e2⟩
    · rw [e1, e2, a3n, b3n]
      exact ⟨rfl, .inr ⟨_, _, _, _, _, rfl, rfl⟩⟩
    · rw [e1, e2, a3, b3]
      exact ⟨rfl, .inr ⟨_, _, _, _, _, rfl, rfl⟩⟩
theorem bdr {w : World} {v : Value} {xs : List Bool} (h : BoolsAt w v xs) (m : Nat) : BoolsAt (w.drewN m) v xs := h
theorem eq1 (ss : List Int) : decide (pastRun A1 ss = pastRun B1 ss) = true := decide_eq_true (once_k ss ss.length).1
theorem eq2 (ss : List Int) : decide (pastRun A2 ss = pastRun B2 ss) = true := decide_eq_true (ever_k ss ss.length).1
theorem eq3 (ss : List Int) : decide (pastRun A3 ss = pastRun B3 ss) = true := decide_eq_true (since_k ss ss.length).1
set_option maxHeartbeats 8000000 in
set_option maxRecDepth 100000 in
theorem way (ss : List Int) (u : Value) (w : World) (hu : IntsAt .u8 w u ss) (hs : ∀ j, 0 ≤ ss.getD j 0 ∧ ss.getD j 0 ≤ 255) (hl : ss.length ≤ 140737488351232) :
    Calls Try.prog 11 #[u] w fun e w' => e = .returned (.bool true) ∧ Below w.heap.size w w' := by
  obtain ⟨a2, cap2, rfl⟩ := hu.len
  have HU := Lib.hid hu; have HS := Lib.hid hs
  clear hu hs
  go_enter Try.func11, Try.ntmps11
  have F0 := (recs_new (E := 64) ((w.alloc (.cells #[.int .i64 1, .int .i64 0, .int .i64 0] 64)).alloc (.cells #[.int .i64 1, .int .i64 1, .int .i64 0] 64)) A3 #[.int .i64 1, .int .i64 0, .int .i64 0, .int .i64 1, .int .i64 1, .int .i64 0, .int .i64 8, .int .i64 0, .int .i64 1] rfl pastLay_len rfl (by decide)).alloc pastLay_len (.cells #[.int .u8 2, .int .u8 1, .int .u8 1, .int .u8 0, .int .u8 1] 5)
  have F1 := ints_new (E := 5) (K := .u8) (((w.alloc (.cells #[.int .i64 1, .int .i64 0, .int .i64 0] 64)).alloc (.cells #[.int .i64 1, .int .i64 1, .int .i64 0] 64)).alloc (.cells #[.int .i64 1, .int .i64 0, .int .i64 0, .int .i64 1, .int .i64 1, .int .i64 0, .int .i64 8, .int .i64 0, .int .i64 1] 64)) [2, 1, 1, 0, 1] #[.int .u8 2, .int .u8 1, .int .u8 1, .int .u8 0, .int .u8 1] rfl rfl (by decide)
  rw [show A3.length = 3 from rfl] at F0
  simp only [World.size_alloc] at F0 F1
  go_wp2_with fail
  refine (ran_yes A3 [2, 1, 1, 0, 1] _ _ _ okA3 F0 F1 lit_bd (by decide)).mono ?_
  rintro e w1 ⟨v1, rfl, hown, hb⟩
  have B1 : Below w.heap.size w w1 := by repeat (first | with_reducible exact Below.refl _ _ | ((with_reducible refine Below.setCell ?_ ?_ _); rotate_left; (· first | (simp; done) | omega | (simp; omega))) | with_reducible refine below_drewN ?_ _ | with_reducible refine Below.drew ?_ | ((with_reducible refine Below.trans ?_ (Below.mono hb ?_)); rotate_left; (· first | (simp; done) | omega | (simp; omega))) | ((with_reducible refine Below.alloc ?_ ?_ _); rotate_left; (· first | (simp; done) | omega | (simp; omega))) | exact Below.refl _ _ | refine Below.setCell ?_ (by first | (simp; done) | omega | (simp; omega)) _ | refine below_drewN ?_ _ | refine Below.drew ?_ | refine Below.trans ?_ (Below.mono hb (by first | (simp; done) | omega | (simp; omega))) | refine Below.alloc ?_ (by first | (simp; done) | omega | (simp; omega)) _)
  have zz : w.heap.size + 1 < w1.heap.size := by have := hb.size; simp at this; omega
  have g00 : w1.cell? ⟨w.heap.size, 0, none⟩ = some (.int .i64 1) := cell_later hb (by go_simp)
  have g01 : w1.cell? ⟨w.heap.size, 1, none⟩ = some (.int .i64 0) := cell_later hb (by go_simp)
  have g02 : w1.cell? ⟨w.heap.size, 2, none⟩ = some (.int .i64 0) := cell_later hb (by go_simp)
  have g10 : w1.cell? ⟨w.heap.size + 1, 0, none⟩ = some (.int .i64 1) := cell_later hb (by go_simp)
  have g11 : w1.cell? ⟨w.heap.size + 1, 1, none⟩ = some (.int .i64 1) := cell_later hb (by go_simp)
  have g12 : w1.cell? ⟨w.heap.size + 1, 2, none⟩ = some (.int .i64 0) := cell_later hb (by go_simp)
  have F2 := Lib.hid ((own_told hown).alloc (.cells #[.bool true, .bool true, .bool true, .bool false, .bool false] 4))
  have F3 := Lib.hid (bools_new (E := 4) w1 [true, true, true, false, false] #[.bool true, .bool true, .bool true, .bool false, .bool false] rfl rfl (by decide))
  obtain ⟨g, capg, rfl, -, -⟩ := own_bd hown (by decide)
  clear F0 F1 hown hb
  go_wp2_with fail
  refine (equal_bool _ _ _ _ _ F2.out F3.out (by decide) (by decide)).mono ?_
  rintro e w2 ⟨m2, he, rfl⟩
  rw [lit_eq] at he
  subst he
  have N2 : Below w1.heap.size w1 ((w1.alloc (.cells #[.bool true, .bool true, .bool true, .bool false, .bool false] 4)).drewN m2) := by repeat (first | with_reducible exact Below.refl _ _ | ((with_reducible refine Below.setCell ?_ ?_ _); rotate_left; (· first | (simp; done) | omega | (simp; omega))) | with_reducible refine below_drewN ?_ _ | with_reducible refine Below.drew ?_ | ((with_reducible refine Below.alloc ?_ ?_ _); rotate_left; (· first | (simp; done) | omega | (simp; omega))) | exact Below.refl _ _ | refine Below.setCell ?_ (by first | (simp; done) | omega | (simp; omega)) _ | refine below_drewN ?_ _ | refine Below.drew ?_ | refine Below.alloc ?_ (by first | (simp; done) | omega | (simp; omega)) _)
  clear F2 F3
  generalize (w1.alloc (.cells #[.bool true, .bool true, .bool true, .bool false, .bool false] 4)).drewN m2 = w3 at *
  have BB3 := B1.trans (N2.mono B1.size)
  have z3 := BB3.size
  replace g00 := cell_later N2 g00
  replace g01 := cell_later N2 g01
  replace g02 := cell_later N2 g02
  replace g10 := cell_later N2 g10
  replace g11 := cell_later N2 g11
  replace g12 := cell_later N2 g12
  have zz3 : w.heap.size + 1 < w3.heap.size := Nat.lt_of_lt_of_le zz N2.size
  clear N2 zz B1
  have FA1 := recs_new (E := 64) w3 A1 #[.int .i64 1, .int .i64 0, .int .i64 0, .int .i64 4, .int .i64 0, .int .i64 0] rfl pastLay_len rfl (by decide)
  rw [show A1.length = 2 from rfl] at FA1
  have UA1 := Lib.hid ((HU.out.later BB3 (Nat.le_refl _)).alloc (.cells #[.int .i64 1, .int .i64 0, .int .i64 0, .int .i64 4, .int .i64 0, .int .i64 0] 64))
  go_wp2_with fail
  refine (ran_yes A1 ss _ _ _ okA1 FA1 UA1.out HS.out hl).mono ?_
  rintro e w4 ⟨vA1, rfl, hown, hb⟩
  have NA1 : Below w3.heap.size w3 w4 := by repeat (first | with_reducible exact Below.refl _ _ | ((with_reducible refine Below.setCell ?_ ?_ _); rotate_left; (· first | (simp; done) | omega | (simp; omega))) | with_reducible refine below_drewN ?_ _ | with_reducible refine Below.drew ?_ | ((with_reducible refine Below.trans ?_ (Below.mono hb ?_)); rotate_left; (· first | (simp; done) | omega | (simp; omega))) | ((with_reducible refine Below.alloc ?_ ?_ _); rotate_left; (· first | (simp; done) | omega | (simp; omega))) | exact Below.refl _ _ | refine Below.setCell ?_ (by first | (simp; done) | omega | (simp; omega)) _ | refine below_drewN ?_ _ | refine Below.drew ?_ | refine Below.trans ?_ (Below.mono hb (by first | (simp; done) | omega | (simp; omega))) | refine Below.alloc ?_ (by first | (simp; done) | omega | (simp; omega)) _)
  have BBA1 := BB3.trans (NA1.mono BB3.size)
  have zzA1 : w.heap.size + 1 < w4.heap.size := Nat.lt_of_lt_of_le zz3 NA1.size
  have TA1 := Lib.hid (own_told hown)
  obtain ⟨aA, capA, rfl⟩ := TA1.out.len
  rw [pastRun_len] at TA1 ⊢
  replace g00 := cell_later NA1 g00
  replace g01 := cell_later NA1 g01
  replace g02 := cell_later NA1 g02
  replace g10 := cell_later NA1 g10
  replace g11 := cell_later NA1 g11
  replace g12 := cell_later NA1 g12
  clear FA1 UA1 NA1 hown hb zz3
  have FB1 := recs_new (E := 64) w4 B1 #[.int .i64 1, .int .i64 0, .int .i64 0, .int .i64 4, .int .i64 0, .int .i64 0, .int .i64 3, .int .i64 1, .int .i64 0, .int .i64 7, .int .i64 0, .int .i64 2] rfl pastLay_len rfl (by decide)
  rw [show B1.length = 4 from rfl] at FB1
  have UB1 := Lib.hid ((HU.out.later BBA1 (Nat.le_refl _)).alloc (.cells #[.int .i64 1, .int .i64 0, .int .i64 0, .int .i64 4, .int .i64 0, .int .i64 0, .int .i64 3, .int .i64 1, .int .i64 0, .int .i64 7, .int .i64 0, .int .i64 2] 64))
  go_wp2_with fail
  refine (ran_yes B1 ss _ _ _ okB1 FB1 UB1.out HS.out hl).mono ?_
  rintro e w5 ⟨vB1, rfl, hown, hb⟩
  have NB1 : Below w4.heap.size w4 w5 := by repeat (first | with_reducible exact Below.refl _ _ | ((with_reducible refine Below.setCell ?_ ?_ _); rotate_left; (· first | (simp; done) | omega | (simp; omega))) | with_reducible refine below_drewN ?_ _ | with_reducible refine Below.drew ?_ | ((with_reducible refine Below.trans ?_ (Below.mono hb ?_)); rotate_left; (· first | (simp; done) | omega | (simp; omega))) | ((with_reducible refine Below.alloc ?_ ?_ _); rotate_left; (· first | (simp; done) | omega | (simp; omega))) | exact Below.refl _ _ | refine Below.setCell ?_ (by first | (simp; done) | omega | (simp; omega)) _ | refine below_drewN ?_ _ | refine Below.drew ?_ | refine Below.trans ?_ (Below.mono hb (by first | (simp; done) | omega | (simp; omega))) | refine Below.alloc ?_ (by first | (simp; done) | omega | (simp; omega)) _)
  have BBB1 := BBA1.trans (NB1.mono BBA1.size)
  have zzB1 : w.heap.size + 1 < w5.heap.size := Nat.lt_of_lt_of_le zzA1 NB1.size
  have TB1 := Lib.hid (own_told hown)
  replace TA1 := Lib.hid (TA1.out.later NB1 (Nat.le_refl _))
  replace g00 := cell_later NB1 g00
  replace g01 := cell_later NB1 g01
  replace g02 := cell_later NB1 g02
  replace g10 := cell_later NB1 g10
  replace g11 := cell_later NB1 g11
  replace g12 := cell_later NB1 g12
  clear FB1 UB1 NB1 hown hb zzA1
  have FA2 := recs_new (E := 64) w5 A2 #[.int .i64 1, .int .i64 0, .int .i64 0, .int .i64 5, .int .i64 0, .int .i64 0] rfl pastLay_len rfl (by decide)
  rw [show A2.length = 2 from rfl] at FA2
  have UA2 := Lib.hid ((HU.out.later BBB1 (Nat.le_refl _)).alloc (.cells #[.int .i64 1, .int .i64 0, .int .i64 0, .int .i64 5, .int .i64 0, .int .i64 0] 64))
  go_wp2_with fail
  refine (ran_yes A2 ss _ _ _ okA2 FA2 UA2.out HS.out hl).mono ?_
  rintro e w6 ⟨vA2, rfl, hown, hb⟩
  have NA2 : Below w5.heap.size w5 w6 := by repeat (first | with_reducible exact Below.refl _ _ | ((with_reducible refine Below.setCell ?_ ?_ _); rotate_left; (· first | (simp; done) | omega | (simp; omega))) | with_reducible refine below_drewN ?_ _ | with_reducible refine Below.drew ?_ | ((with_reducible refine Below.trans ?_ (Below.mono hb ?_)); rotate_left; (· first | (simp; done) | omega | (simp; omega))) | ((with_reducible refine Below.alloc ?_ ?_ _); rotate_left; (· first | (simp; done) | omega | (simp; omega))) | exact Below.refl _ _ | refine Below.setCell ?_ (by first | (simp; done) | omega | (simp; omega)) _ | refine below_drewN ?_ _ | refine Below.drew ?_ | refine Below.trans ?_ (Below.mono hb (by first | (simp; done) | omega | (simp; omega))) | refine Below.alloc ?_ (by first | (simp; done) | omega | (simp; omega)) _)
  have BBA2 := BBB1.trans (NA2.mono BBB1.size)
  have zzA2 : w.heap.size + 1 < w6.heap.size := Nat.lt_of_lt_of_le zzB1 NA2.size
  have TA2 := Lib.hid (own_told hown)
  replace TA1 := Lib.hid (TA1.out.later NA2 (Nat.le_refl _))
  replace TB1 := Lib.hid (TB1.out.later NA2 (Nat.le_refl _))
  replace g00 := cell_later NA2 g00
  replace g01 := cell_later NA2 g01
  replace g02 := cell_later NA2 g02
  replace g10 := cell_later NA2 g10
  replace g11 := cell_later NA2 g11
  replace g12 := cell_later NA2 g12
  clear FA2 UA2 NA2 hown hb zzB1
  have FB2 := recs_new (E := 64) w6 B2 #[.int .i64 1, .int .i64 0, .int .i64 0, .int .i64 2, .int .i64 0, .int .i64 0, .int .i64 4, .int .i64 1, .int .i64 0, .int .i64 2, .int .i64 2, .int .i64 0] rfl pastLay_len rfl (by decide)
  rw [show B2.length = 4 from rfl] at FB2
  have UB2 := Lib.hid ((HU.out.later BBA2 (Nat.le_refl _)).alloc (.cells #[.int .i64 1, .int .i64 0, .int .i64 0, .int .i64 2, .int .i64 0, .int .i64 0, .int .i64 4, .int .i64 1, .int .i64 0, .int .i64 2, .int .i64 2, .int .i64 0] 64))
  go_wp2_with fail
  refine (ran_yes B2 ss _ _ _ okB2 FB2 UB2.out HS.out hl).mono ?_
  rintro e w7 ⟨vB2, rfl, hown, hb⟩
  have NB2 : Below w6.heap.size w6 w7 := by repeat (first | with_reducible exact Below.refl _ _ | ((with_reducible refine Below.setCell ?_ ?_ _); rotate_left; (· first | (simp; done) | omega | (simp; omega))) | with_reducible refine below_drewN ?_ _ | with_reducible refine Below.drew ?_ | ((with_reducible refine Below.trans ?_ (Below.mono hb ?_)); rotate_left; (· first | (simp; done) | omega | (simp; omega))) | ((with_reducible refine Below.alloc ?_ ?_ _); rotate_left; (· first | (simp; done) | omega | (simp; omega))) | exact Below.refl _ _ | refine Below.setCell ?_ (by first | (simp; done) | omega | (simp; omega)) _ | refine below_drewN ?_ _ | refine Below.drew ?_ | refine Below.trans ?_ (Below.mono hb (by first | (simp; done) | omega | (simp; omega))) | refine Below.alloc ?_ (by first | (simp; done) | omega | (simp; omega)) _)
  have BBB2 := BBA2.trans (NB2.mono BBA2.size)
  have zzB2 : w.heap.size + 1 < w7.heap.size := Nat.lt_of_lt_of_le zzA2 NB2.size
  have TB2 := Lib.hid (own_told hown)
  replace TA1 := Lib.hid (TA1.out.later NB2 (Nat.le_refl _))
  replace TB1 := Lib.hid (TB1.out.later NB2 (Nat.le_refl _))
  replace TA2 := Lib.hid (TA2.out.later NB2 (Nat.le_refl _))
  replace g00 := cell_later NB2 g00
  replace g01 := cell_later NB2 g01
  replace g02 := cell_later NB2 g02
  replace g10 := cell_later NB2 g10
  replace g11 := cell_later NB2 g11
  replace g12 := cell_later NB2 g12
  clear FB2 UB2 NB2 hown hb zzA2
  have FA3 := recs_new (E := 64) w7 A3 #[.int .i64 1, .int .i64 0, .int .i64 0, .int .i64 1, .int .i64 1, .int .i64 0, .int .i64 8, .int .i64 0, .int .i64 1] rfl pastLay_len rfl (by decide)
  rw [show A3.length = 3 from rfl] at FA3
  have UA3 := Lib.hid ((HU.out.later BBB2 (Nat.le_refl _)).alloc (.cells #[.int .i64 1, .int .i64 0, .int .i64 0, .int .i64 1, .int .i64 1, .int .i64 0, .int .i64 8, .int .i64 0, .int .i64 1] 64))
  go_wp2_with fail
  refine (ran_yes A3 ss _ _ _ okA3 FA3 UA3.out HS.out hl).mono ?_
  rintro e w8 ⟨vA3, rfl, hown, hb⟩
  have NA3 : Below w7.heap.size w7 w8 := by repeat (first | with_reducible exact Below.refl _ _ | ((with_reducible refine Below.setCell ?_ ?_ _); rotate_left; (· first | (simp; done) | omega | (simp; omega))) | with_reducible refine below_drewN ?_ _ | with_reducible refine Below.drew ?_ | ((with_reducible refine Below.trans ?_ (Below.mono hb ?_)); rotate_left; (· first | (simp; done) | omega | (simp; omega))) | ((with_reducible refine Below.alloc ?_ ?_ _); rotate_left; (· first | (simp; done) | omega | (simp; omega))) | exact Below.refl _ _ | refine Below.setCell ?_ (by first | (simp; done) | omega | (simp; omega)) _ | refine below_drewN ?_ _ | refine Below.drew ?_ | refine Below.trans ?_ (Below.mono hb (by first | (simp; done) | omega | (simp; omega))) | refine Below.alloc ?_ (by first | (simp; done) | omega | (simp; omega)) _)
  have BBA3 := BBB2.trans (NA3.mono BBB2.size)
  have zzA3 : w.heap.size + 1 < w8.heap.size := Nat.lt_of_lt_of_le zzB2 NA3.size
  have TA3 := Lib.hid (own_told hown)
  replace TA1 := Lib.hid (TA1.out.later NA3 (Nat.le_refl _))
  replace TB1 := Lib.hid (TB1.out.later NA3 (Nat.le_refl _))
  replace TA2 := Lib.hid (TA2.out.later NA3 (Nat.le_refl _))
  replace TB2 := Lib.hid (TB2.out.later NA3 (Nat.le_refl _))
  replace g00 := cell_later NA3 g00
  replace g01 := cell_later NA3 g01
  replace g02 := cell_later NA3 g02
  replace g10 := cell_later NA3 g10
  replace g11 := cell_later NA3 g11
  replace g12 := cell_later NA3 g12
  clear FA3 UA3 NA3 hown hb zzB2
  have FB3 := recs_new (E := 64) w8 B3 #[.int .i64 1, .int .i64 0, .int .i64 0, .int .i64 1, .int .i64 1, .int .i64 0, .int .i64 8, .int .i64 0, .int .i64 1, .int .i64 3, .int .i64 2, .int .i64 0, .int .i64 6, .int .i64 0, .int .i64 3, .int .i64 7, .int .i64 1, .int .i64 4] rfl pastLay_len rfl (by decide)
  rw [show B3.length = 6 from rfl] at FB3
  have UB3 := Lib.hid ((HU.out.later BBA3 (Nat.le_refl _)).alloc (.cells #[.int .i64 1, .int .i64 0, .int .i64 0, .int .i64 1, .int .i64 1, .int .i64 0, .int .i64 8, .int .i64 0, .int .i64 1, .int .i64 3, .int .i64 2, .int .i64 0, .int .i64 6, .int .i64 0, .int .i64 3, .int .i64 7, .int .i64 1, .int .i64 4] 64))
  go_wp2_with fail
  refine (ran_yes B3 ss _ _ _ okB3 FB3 UB3.out HS.out hl).mono ?_
  rintro e w9 ⟨vB3, rfl, hown, hb⟩
  have NB3 : Below w8.heap.size w8 w9 := by repeat (first | with_reducible exact Below.refl _ _ | ((with_reducible refine Below.setCell ?_ ?_ _); rotate_left; (· first | (simp; done) | omega | (simp; omega))) | with_reducible refine below_drewN ?_ _ | with_reducible refine Below.drew ?_ | ((with_reducible refine Below.trans ?_ (Below.mono hb ?_)); rotate_left; (· first | (simp; done) | omega | (simp; omega))) | ((with_reducible refine Below.alloc ?_ ?_ _); rotate_left; (· first | (simp; done) | omega | (simp; omega))) | exact Below.refl _ _ | refine Below.setCell ?_ (by first | (simp; done) | omega | (simp; omega)) _ | refine below_drewN ?_ _ | refine Below.drew ?_ | refine Below.trans ?_ (Below.mono hb (by first | (simp; done) | omega | (simp; omega))) | refine Below.alloc ?_ (by first | (simp; done) | omega | (simp; omega)) _)
  have BBB3 := BBA3.trans (NB3.mono BBA3.size)
  have zzB3 : w.heap.size + 1 < w9.heap.size := Nat.lt_of_lt_of_le zzA3 NB3.size
  have TB3 := Lib.hid (own_told hown)
  replace TA1 := Lib.hid (TA1.out.later NB3 (Nat.le_refl _))
  replace TB1 := Lib.hid (TB1.out.later NB3 (Nat.le_refl _))
  replace TA2 := Lib.hid (TA2.out.later NB3 (Nat.le_refl _))
  replace TB2 := Lib.hid (TB2.out.later NB3 (Nat.le_refl _))
  replace TA3 := Lib.hid (TA3.out.later NB3 (Nat.le_refl _))
  replace g00 := cell_later NB3 g00
  replace g01 := cell_later NB3 g01
  replace g02 := cell_later NB3 g02
  replace g10 := cell_later NB3 g10
  replace g11 := cell_later NB3 g11
  replace g12 := cell_later NB3 g12
  clear FB3 UB3 NB3 hown hb zzA3
  have hp : ∀ X, (pastRun X ss).length ≤ 9223372036854775807 := fun X => by rw [pastRun_len]; omega
  have HP := Lib.hid hp
  have tt : ((ss.length : Int) == (ss.length : Int)) = true := by simp
  clear hp g00 g01 g02 g10 g11 g12
  go_wp2_with fail
  refine (equal_bool _ _ _ _ _ (TA1.out) (TB1.out) (HP.out _) (HP.out _)).mono ?_
  rintro e y1 ⟨m1, he, rfl⟩
  rw [eq1] at he
  subst he
  go_wp2_with fail
  refine (equal_bool _ _ _ _ _ (bdr TA2.out _) (bdr TB2.out _) (HP.out _) (HP.out _)).mono ?_
  rintro e y2 ⟨m2, he, rfl⟩
  rw [eq2] at he
  subst he
  go_wp2_with fail
  refine (equal_bool _ _ _ _ _ (bdr TA3.out _) (bdr TB3.out _) (HP.out _) (HP.out _)).mono ?_
  rintro e y3 ⟨m3, he, rfl⟩
  rw [eq3] at he
  subst he
  go_wp2
  go_ret
  exact ⟨rfl, by repeat (first | with_reducible exact Below.refl _ _ | with_reducible exact BBB3 | ((with_reducible refine Below.setCell ?_ ?_ _); rotate_left; (· first | (simp; done) | omega | (simp; omega))) | with_reducible refine below_drewN ?_ _ | with_reducible refine Below.drew ?_ | ((with_reducible refine Below.alloc ?_ ?_ _); rotate_left; (· first | (simp; done) | omega | (simp; omega))) | exact Below.refl _ _ | exact BBB3 | refine Below.setCell ?_ (by first | (simp; done) | omega | (simp; omega)) _ | refine below_drewN ?_ _ | refine Below.drew ?_ | refine Below.alloc ?_ (by first | (simp; done) | omega | (simp; omega)) _)⟩
theorem law (a2 : Option Addr) (len2 cap2 : Nat) (zs : List Int) (w : World) (h2 : IsRow .u8 w a2 len2 cap2 zs) (hr2 : len2 ≤ cap2 ∧ cap2 * 1 ≤ 140737488351232) :
    Calls Try.prog 11 #[.slice a2 len2 cap2] w fun e w' => e = .returned (.bool true) ∧ Below w.heap.size w w' := by
  obtain ⟨h5, h6⟩ := isRow_ints h2
  exact way (zs.take len2) _ w h5 (u8_bd h2) (by omega)
set_option maxRecDepth 100000 in
theorem lifted (os : Os) (started : os.Started) (H : Type) (enc : TypeId × Value → H) :
    ReturnsInHanded {} Try.checked os 11 .any (Rows.pastLawsSpec.pre6 enc Try.prog Try.f11 Rows.pastLawsRow.domain false) (Rows.pastLawsSpec.post enc Try.prog Try.f11 false true false false) := by
  refine returnsInHanded_of_change_sized (C := Try.checked) own started (by kernel_rfl) Try.func11
    (ChangeSpec.witness6 (enc := enc) (C := Try.checked) false ⟨#[], #[.slice none 0 0], []⟩ 8 (by kernel_rfl) (by kernel_rfl) (by kernel_rfl) (by kernel_rfl)) ?_
  intro W base args ds gs before hval0 hW hcnd hsz0 _
  have hsz : (DataW.weightsEach Try.prog (Try.f11.params.toList ++ Rows.pastLawsSpec.plain.varTypes Try.prog) (ds ++ gs)).all (· ≤ reachBytes) = true := hsz0
  have hval : ∀ (j : Nat) t v, Try.f11.params[j]? = some t → args[j]? = some v → Value.okWide Try.prog W .any base t v := hval0
  have hW' := hW
  obtain ⟨p, q, hA0, hV, rfl, hfz, hnd⟩ := hW
  have hA : DataW.TrodAll enc Try.prog W 0 (fun _ => true) true Try.f11.params.toList args.toList ds p := hA0
  rw [Try.params11] at hA hval hsz
  obtain ⟨v0, vs0, d0, ds0, p0, q0, hargs, rfl, rfl, h0, r0⟩ := trodAll_cons hA
  obtain ⟨rfl, rfl, rfl⟩ := trodAll_nil r0
  obtain rfl : args = #[v0] := by cases args; simp_all
  obtain ⟨rfl, rfl⟩ := trodVars_none hV
  have k0 := h0
  have lt0 : ∀ x ∈ p0, x.block < W.heap.size := by obtain ⟨m, hm⟩ := k0; exact DataW.trod_lt m _ _ _ hm
  obtain ⟨sa0, sl0, sc0, rfl⟩ := okWide_slice Try.underlying59 (hval 0 59 v0 rfl rfl)
  obtain ⟨a0, len0, cap0, z0, e0, w0⟩ := leaf_ints (Try.underlying59) (Try.underlying5) (by kernel_rfl) (by obtain ⟨fuel, hf⟩ := h0; exact ⟨fuel, _, by simpa [Value.cells] using hf⟩)
  simp only [Value.slice.injEq] at e0
  obtain ⟨rfl, rfl, rfl⟩ := e0
  have R0 := cap_le (B := 1) Try.underlying59 k0 (fun elems spare hd => by have := sized_slice hsz (j := 0) (t := 59) (e := 5) (elems := elems) (spare := spare) rfl (by rw [← hd]; rfl) Try.underlying59; exact this)
  clear hA0 hval0
  refine (law sa0 sl0 sc0 z0 W w0 R0).mono fun e W' ⟨he, bel⟩ => ?_
  subst he
  exact ⟨_, rfl, _, _, _, [], _, [], hW', trodAll_mk1 (shut_bool Try.underlying4 _), (trodAll_cons_mk (Below.trod laidOut (by kernel_rfl) (of_decide_eq_true (by kernel_rfl)) k0 bel lt0) trodAll_mk0), rfl, bel.frame _, fun h => by cases h⟩
theorem over : Rows.pastLawsRow.holds Try.pinned (OpenSpec.ofChange Rows.pastLawsSpec) :=
  OpenClaim.holds_of_wide 11 Try.f11 rfl rfl rfl rfl rfl rfl rfl ⟨rfl, rfl, rfl, rfl, rfl⟩ rfl rfl rfl rfl rfl (by kernel_rfl) Try.func11 (by kernel_rfl)
    (of_decide_eq_true (by kernel_rfl)) (by unfold Func.isWrapper; first | (rw [if_pos (by decide +kernel)]; kernel_rfl) | (rw [if_neg (by decide +kernel)]; exact ⟨rfl, rfl⟩))
    (fun os started H enc _ => lifted os started H enc)
theorem proved : Rows.PastLawsSaid := over
#print axioms proved

end Go.Proofs.Ytindfoknbfmmbaa.pastLaws
