/- What agree.View computes. -/
import Derived.Test.YtijoalaijkobpaaTalk
import Derived.Test.YtijoalaijkobpaaVote
import Derived.Test.YtijoalaijkobpaaSlc
import Derived.OwnWalk
import Derived.Deep.QuietTactic
namespace Go.Proofs.Ytijoalaijkobpaa
open Go.ChangeShapes Go.WideShapes Go.ChangeAt Go.RowKit
set_option linter.unusedVariables false

/-- the number that more than half name, or none -/
def majV (xs : List Int) : Int := if 2 * cnt xs (bm xs xs.length).1 xs.length ≤ xs.length then 0 else (bm xs xs.length).1
theorem majority_ints (v : Value) (xs : List Int) (w : World) (hv : IntsAt .i32 w v xs) (hl : xs.length ≤ 64) (hb : ∀ i, -2147483648 ≤ xs.getD i 0 ∧ xs.getD i 0 ≤ 2147483647) :
    Calls Try.prog 37 #[v] w fun e' w' => (∃ e : Int, e' = .returned (.tuple #[.int .i32 (majV xs), .int .i64 e])) ∧ w = w' := by
  obtain ⟨a, cap, rfl⟩ := hv.len
  refine (majority_pos a xs.length cap xs w (fun h0 => ?_) hl (majV xs) (if 2 * cnt xs (bm xs xs.length).1 xs.length ≤ xs.length then 11 else 0) (by unfold majV; split <;> rfl)).mono fun e w' h => ⟨⟨_, h.1⟩, h.2⟩
  rcases hv with ⟨h1, -⟩ | ⟨-, b, off, cp, he, -, -, hc⟩
  · rw [h1] at h0; simp at h0
  · simp only [Value.slice.injEq, true_and] at he
    exact ⟨b, off, he.1, hc, fun i => WalkArith.wf_i32 (hb i)⟩

def votesTo (L : List Int) (i k : Nat) : Nat → List Int
  | 0 => [L.getD (i * 4 + k) 0]
  | j + 1 => if j ≠ i ∧ j ≠ k then votesTo L i k j ++ [L.getD (16 + i * 16 + j * 4 + k) 0] else votesTo L i k j
theorem votes_len (L : List Int) (i k j : Nat) : (votesTo L i k j).length ≤ j + 1 := by
  induction j with
  | zero => simp [votesTo]
  | succ j ih =>
    simp only [votesTo]
    split
    · simp; omega
    · omega
theorem votes_bd (L : List Int) (hb : ∀ n, -2147483648 ≤ L.getD n 0 ∧ L.getD n 0 ≤ 2147483647) (i k j : Nat) : ∀ x ∈ votesTo L i k j, -2147483648 ≤ x ∧ x ≤ 2147483647 := by
  induction j with
  | zero => intro x hx; simp only [votesTo, List.mem_singleton] at hx; subst hx; exact hb _
  | succ j ih =>
    intro x hx
    simp only [votesTo] at hx
    split at hx
    · rcases List.mem_append.1 hx with hx | hx
      · exact ih x hx
      · rw [List.mem_singleton.1 hx]; exact hb _
    · exact ih x hx
theorem all_getD {xs : List Int} (h : ∀ x ∈ xs, -2147483648 ≤ x ∧ x ≤ 2147483647) (i : Nat) : -2147483648 ≤ xs.getD i 0 ∧ xs.getD i 0 ≤ 2147483647 := by
  rw [List.getD_eq_getElem?_getD]
  cases h2 : xs[i]? with
  | none => simp
  | some y => exact h y (List.mem_of_getElem? h2)
def viewF (L : List Int) (k i : Nat) : Int := if i = k then L.getD (i * 4 + i) 0 else majV (votesTo L i k 4)
def viewL (L : List Int) (k j : Nat) : List Int := (List.range 4).map fun m => if m < j then viewF L k m else 0
theorem viewL_len (L : List Int) (k j : Nat) : (viewL L k j).length = 4 := by simp [viewL]
theorem viewL_set (L : List Int) (k j : Nat) (h : j < 4) : (i32s (viewL L k j)).set j (.int .i32 (viewF L k j)) = i32s (viewL L k (j + 1)) := by
  rcases (by omega : j = 0 ∨ j = 1 ∨ j = 2 ∨ j = 3) with rfl | rfl | rfl | rfl <;> simp [viewL, i32s, List.range, List.range.loop]
structure VwL (w0 : World) (L : List Int) (o : List Value) (w : World) : Prop where
  t : CellsAt w w0.heap.size (i32s L)
  r : CellsAt w (w0.heap.size + 1) [.int .i32 0, .int .i32 0, .int .i32 0, .int .i32 0]
  o : CellsAt w (w0.heap.size + 1 + 1) o
  b : Below w0.heap.size w0 w
section
variable {w0 w w' : World} {L : List Int} {o : List Value}
theorem VwL.drew (h : VwL w0 L o w) : VwL w0 L o w.drew := ⟨h.t.drew, h.r.drew, h.o.drew, h.b.drew⟩
theorem VwL.later (h : VwL w0 L o w) (hb : Below (w0.heap.size + 3) w w') : VwL w0 L o w' := ⟨h.t.later hb (by omega), h.r.later hb (by omega), h.o.later hb (by omega), h.b.trans (hb.mono (by omega))⟩
theorem VwL.set_ (h : VwL w0 L o w) (n : Nat) (hn : n < o.length) (u : Value) : VwL w0 L (o.set n u) (w.setCell ⟨w0.heap.size + 1 + 1, n, none⟩ u) :=
  ⟨h.t.other (by omega) n u, h.r.other (by omega) n u, h.o.set_ n hn u, h.b.setCell (p := ⟨w0.heap.size + 1 + 1, n, none⟩) (by simp; omega) u⟩
theorem VwL.size (h : VwL w0 L o w) : w0.heap.size + 3 ≤ w.heap.size := by have := h.o.lt; omega
end
theorem int_cells' (w : World) (b : Nat) (L : List Int) (h : CellsAt w b (i32s L)) (n : Nat) (hn : n < L.length) : w.cell? ⟨b, n, none⟩ = some (.int .i32 (L.getD n 0)) :=
  h.at_ n (by rw [i32s, List.getElem?_map, List.getD_eq_getElem?_getD, List.getElem?_eq_getElem hn]; rfl)
theorem infoV : (Try.prog.info? 21).map (fun i => (i.zero, i.size, i.bytes)) = some (some (.int .i32 0), 1, 4) := by kernel_rfl
def VRel (w0 : World) (L : List Int) (o : List Value) (i k : Nat) (v x : Value) (w : World) : Prop := ∃ j : Nat, j ≤ 4 ∧ x = .int .i64 j ∧ VwL w0 L o w ∧ w.ownsRow (w0.heap.size + 3) 21 1 v (votesTo L i k j).length (i32s (votesTo L i k j))
set_option maxHeartbeats 8000000 in
set_option maxRecDepth 100000 in
theorem view_is (L : List Int) (k : Nat) (hL : L.length = 80) (hLb : ∀ n, -2147483648 ≤ L.getD n 0 ∧ L.getD n 0 ≤ 2147483647) (hk : k < 4) (w : World) :
    Calls Try.prog 26 #[.agg (i32s L).toArray, .int .i64 k] w fun e w' => e = .returned (.tuple #[.agg #[.int .i32 (viewF L k 0), .int .i32 (viewF L k 1), .int .i32 (viewF L k 2), .int .i32 (viewF L k 3)], .int .i64 0]) ∧ Below w.heap.size w w' := by
  obtain ⟨i0, hi0, hz0, hz1, hz2⟩ := info_parts infoV
  have HL := Lib.hid hL
  have HLB := Lib.hid hLb
  clear hL hLb
  have hk1 : (k : Int) < 4 := by omega
  have hk0 : (0 : Int) ≤ (k : Int) := by omega
  go_enter Try.func26, Try.ntmps26
  go_wp2
  go_loopw [17] (fun x wr => ∃ i : Nat, i ≤ 4 ∧ x = .int .i64 i ∧ VwL w L (i32s (viewL L k i)) wr) (fun x _ => 4 - (intOf x).toNat)
  case atStart =>
    refine ⟨0, by omega, rfl, ?_, ?_, ?_, ?_⟩
    · exact ((CellsAt.new w _ _ _ rfl).alloc _).alloc _
    · exact (CellsAt.new' (by simp) rfl).alloc _
    · exact CellsAt.new' (by simp) rfl
    · repeat (first | with_reducible exact Below.refl _ _ | ((with_reducible refine Below.setCell ?_ ?_ _); rotate_left; (· first | (simp; done) | omega | (simp; omega))) | with_reducible refine below_drewN ?_ _ | with_reducible refine Below.drew ?_ | ((with_reducible refine Below.alloc ?_ ?_ _); rotate_left; (· first | (simp; done) | omega | (simp; omega))) | exact Below.refl _ _ | refine Below.setCell ?_ (by first | (simp; done) | omega | (simp; omega)) _ | refine below_drewN ?_ _ | refine Below.drew ?_ | refine Below.alloc ?_ (by first | (simp; done) | omega | (simp; omega)) _)
  case round =>
    obtain ⟨i, hi, rfl, hT⟩ := hrel
    have HT := Lib.hid hT
    clear hT
    by_cases hlt : i < 4
    · have hi0' : (0 : Int) ≤ (i : Int) := by omega
      have hi1 : (i : Int) < 4 := by omega
      have hfz := HT.out.o.2.1
      have hfl := HT.out.o.lt
      have c0 : wr.cell? ⟨w.heap.size + 1 + 1, i, none⟩ = some (.int .i32 0) := HT.out.o.at_ i (by rcases (by omega : i = 0 ∨ i = 1 ∨ i = 2 ∨ i = 3) with rfl | rfl | rfl | rfl <;> simp [viewL, i32s, List.range, List.range.loop])
      by_cases hik : i = k
      · subst hik
        have q1 : ((i : Int) == (i : Int)) = true := by simp
        have c1 := int_cells' _ _ _ HT.out.t (i * 4 + i) (by have := HL.out; omega)
        obtain ⟨x, hx⟩ : ∃ x, L.getD (i * 4 + i) 0 = x := ⟨_, rfl⟩
        rw [hx] at c1
        have HX := Lib.hid hx
        clear hx
        go_wp2
        go_round
        case rel =>
          have h9 := HT.out.set_ i (by simp [viewL_len]; omega) (.int .i32 (viewF L i i))
          rw [viewL_set _ _ _ hlt, viewF, if_pos rfl, HX.out] at h9
          exact ⟨i + 1, by omega, by go_num, h9⟩
        case measure => simp [intOf]; omega
      · have q1 : ((i : Int) == (k : Int)) = false := by rw [beq_eq_false_iff_ne]; omega
        have c1 := int_cells' _ _ _ HT.out.t (i * 4 + k) (by have := HL.out; omega)
        obtain ⟨x, hx⟩ : ∃ x, L.getD (i * 4 + k) 0 = x := ⟨_, rfl⟩
        rw [hx] at c1
        have HX := Lib.hid hx
        clear hx
        go_upto_region 10 with (fail)
        have HOWN := Lib.hid (World.ownsRow_lit (base := w.heap.size + 3) (e := 21) (size := 1) wr #[.int .i32 x] 1 HT.out.size (by decide) rfl)
        have HT2 := Lib.hid (HT.out.later ((Below.refl _ _).alloc HT.out.size (.cells #[.int .i32 x] 21)))
        clear c0 c1 hfz hfl
        have HV0 : Hid (votesTo L i k 0 = [x]) := (by rw [votesTo, HX.out] : votesTo L i k 0 = [x])
        clear HT
        generalize wr.alloc (.cells #[.int .i32 x] 21) = w1 at *
        go_wp2
        go_loopw [8, 38] (fun v x wx => VRel w L (i32s (viewL L k i)) i k v x wx) (fun _ x _ => 4 - (intOf x).toNat)
        case atStart => exact ⟨0, by omega, rfl, HT2.out, by rw [HV0.out]; exact HOWN.out⟩
        case round =>
          obtain ⟨j, hj, rfl, hT, hown⟩ := hrel
          clear HT2 HOWN
          have HT := Lib.hid hT
          have HO := Lib.hid hown
          have hvl := votes_len L i k j
          by_cases hlt2 : j < 4
          · have hj0 : (0 : Int) ≤ (j : Int) := by omega
            have hj1 : (j : Int) < 4 := by omega
            by_cases hji : j = i
            · have q2 : ((j : Int) != (i : Int)) = false := by simp; omega
              have HS : Hid (votesTo L i k (j + 1) = votesTo L i k j) := (by rw [votesTo, if_neg (fun h => h.1 hji)] : votesTo L i k (j + 1) = votesTo L i k j)
              clear hT hown hji
              go_wp2
              go_round
              case rel => exact ⟨j + 1, by omega, by go_num, HT.out, by rw [HS.out]; exact HO.out⟩
              case measure => simp [intOf]; omega
            · have q2 : ((j : Int) != (i : Int)) = true := by rw [bne_iff_ne]; omega
              by_cases hjk : j = k
              · have q3 : ((j : Int) != (k : Int)) = false := by simp; omega
                have HS : Hid (votesTo L i k (j + 1) = votesTo L i k j) := (by rw [votesTo, if_neg (fun h => h.2 hjk)] : votesTo L i k (j + 1) = votesTo L i k j)
                clear hT hown hjk
                go_wp2
                go_round
                case rel => exact ⟨j + 1, by omega, by go_num, HT.out, by rw [HS.out]; exact HO.out⟩
                case measure => simp [intOf]; omega
              · have q3 : ((j : Int) != (k : Int)) = true := by rw [bne_iff_ne]; omega
                have c2 := int_cells' _ _ _ HT.out.t (16 + i * 16 + j * 4 + k) (by have := HL.out; omega)
                have hs : votesTo L i k (j + 1) = votesTo L i k j ++ [L.getD (16 + i * 16 + j * 4 + k) 0] := by rw [votesTo, if_pos ⟨hji, hjk⟩]
                obtain ⟨y, hy⟩ : ∃ y, L.getD (16 + i * 16 + j * 4 + k) 0 = y := ⟨_, rfl⟩
                rw [hy] at c2 hs
                have HS := Lib.hid hs
                have hsz := HT.out.size
                have hsz1 : w.heap.size + 3 ≤ (wr.alloc (.cells #[.int .i32 y] 21)).heap.size := by simp; omega
                clear hT hji hjk hy hs
                go_wp2_with (at_builtin; refine wpList_append_own _ rfl _ _ 50 rfl (w.heap.size + 3) 21 i0 (.int .i32 0) 1 4 Try.underlying50 hi0 hz0 hz1 hz2 rfl (by decide) _ _ _ rfl (hown.alloc _) ⟨wr.heap.size, 0, none⟩ 1 1 [.int .i32 y] rfl rfl (by intro j u h; cases j <;> simp at h; subst h; first | (simp [Addr.add]; done) | (simp [Addr.add]; go_simp)) (by simp [Value.oneCell']) (by unfold maxLen; omega) (by omega) hsz1 ?_; intro v' w1 hown' hgrow _)
                have BG : Below (w.heap.size + 3) wr w1 := ((Below.refl _ _).alloc hsz _).grown hgrow hsz1 (fun j e => (HO.out.lt j e).1)
                go_roundw
                case rel => exact ⟨j + 1, by omega, by go_num, HT.out.later BG, by rw [HS.out]; simpa [i32s] using hown'⟩
                case measure => simp [intOf]; omega
          · obtain rfl : j = 4 := by omega
            have hfz := HT.out.o.2.1
            have hfl := HT.out.o.lt
            have c0 : wr.cell? ⟨w.heap.size + 1 + 1, i, none⟩ = some (.int .i32 0) := HT.out.o.at_ i (by rcases (by omega : i = 0 ∨ i = 1 ∨ i = 2 ∨ i = 3) with rfl | rfl | rfl | rfl <;> simp [viewL, i32s, List.range, List.range.loop])
            have HVB := Lib.hid (all_getD (votes_bd L HLB.out i k 4))
            have HF : Hid (viewF L k i = majV (votesTo L i k 4)) := (by rw [viewF, if_neg hik] : viewF L k i = majV (votesTo L i k 4))
            clear hT hown
            go_wp2_with fail
            refine (majority_ints _ _ _ (own_ints' HO.out) (by omega) HVB.out).mono ?_
            rintro e2 w2 ⟨⟨er, rfl⟩, rfl⟩
            rw [← HF.out]
            obtain ⟨x, hx⟩ : ∃ x, viewF L k i = x := ⟨_, rfl⟩
            rw [hx]
            have HX := Lib.hid hx
            clear hx
            go_wp2
            go_round
            case rel =>
              have h9 := HT.out.set_ i (by simp [viewL_len]; omega) (.int .i32 x)
              rw [← HX.out, viewL_set _ _ _ hlt, HX.out] at h9
              exact ⟨i + 1, by omega, by go_num, h9⟩
            case measure => simp [intOf]; omega
    · obtain rfl : i = 4 := by omega
      have r0 := HT.out.r.at_ 0 rfl
      have r1 := HT.out.r.at_ 1 rfl
      have r2 := HT.out.r.at_ 2 rfl
      have r3 := HT.out.r.at_ 3 rfl
      have o0 : wr.cell? ⟨w.heap.size + 1 + 1, 0, none⟩ = some (.int .i32 (viewF L k 0)) := HT.out.o.at_ 0 (by simp [viewL, List.range, List.range.loop])
      have o1 : wr.cell? ⟨w.heap.size + 1 + 1, 1, none⟩ = some (.int .i32 (viewF L k 1)) := HT.out.o.at_ 1 (by simp [viewL, List.range, List.range.loop])
      have o2 : wr.cell? ⟨w.heap.size + 1 + 1, 2, none⟩ = some (.int .i32 (viewF L k 2)) := HT.out.o.at_ 2 (by simp [viewL, List.range, List.range.loop])
      have o3 : wr.cell? ⟨w.heap.size + 1 + 1, 3, none⟩ = some (.int .i32 (viewF L k 3)) := HT.out.o.at_ 3 (by simp [viewL, List.range, List.range.loop])
      have fr := HT.out.r.2.1
      have fo := HT.out.o.2.1
      have zr := HT.out.r.lt
      have zo := HT.out.o.lt
      have hB := HT.out.b
      clear HT
      go_wp2
      exact bodyPost_ret (v := .tuple #[.agg #[.int .i32 (viewF L k 0), .int .i32 (viewF L k 1), .int .i32 (viewF L k 2), .int .i32 (viewF L k 3)], .int .i64 0]) (by simp [results, Try.results26, go_sem, r0, r1, r2, r3]) rfl ⟨rfl, by repeat (first | with_reducible exact Below.refl _ _ | with_reducible exact hB | ((with_reducible refine Below.setCell ?_ ?_ _); rotate_left; (· first | (simp; done) | omega | (simp; omega))) | with_reducible refine below_drewN ?_ _ | with_reducible refine Below.drew ?_ | ((with_reducible refine Below.alloc ?_ ?_ _); rotate_left; (· first | (simp; done) | omega | (simp; omega))) | exact Below.refl _ _ | exact hB | refine Below.setCell ?_ (by first | (simp; done) | omega | (simp; omega)) _ | refine below_drewN ?_ _ | refine Below.drew ?_ | refine Below.alloc ?_ (by first | (simp; done) | omega | (simp; omega)) _)⟩

end Go.Proofs.Ytijoalaijkobpaa
