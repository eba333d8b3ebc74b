/- What slices.IndexFunc computes over the points, with StrokeStuck's question. -/
import Derived.Test.YtacelddnklnhpaaStrokeLaw
namespace Go.Proofs.Ytacelddnklnhpaa
open Go.ChangeShapes Go.WideShapes Go.ChangeAt Go.RowKit
set_option linter.unusedVariables false

theorem offQ_any (T : Trl) (p0 q0 : Int) (b : Nat) (x : PointR) (w : World) (hb : CellsAt w b (trialLay T p0 q0)) (hp : -2147483648 ≤ p0 ∧ p0 ≤ 2147483647) (hx : pointFit x) :
    Calls Try.prog 33 #[.agg #[.int .i32 x.1, .int .i64 x.2.1, .int .i32 x.2.2], .pointer (some ⟨b, 0, none⟩)] w fun e w' => e = .returned (.bool (decide (offP p0 x))) ∧ Below w.heap.size w w' := by
  obtain ⟨A, N, C⟩ := x
  have c4 := hb.at_ 4 rfl
  have zb := hb.lt
  have hA := hx.1
  have hC := hx.2
  have hD : decide (offP p0 (A, N, C)) = decide (C < apartI p0 A) := rfl
  have HD := Lib.hid hD
  simp only at hA hC
  clear hb hx hD
  go_enter Try.func33, Try.ntmps33
  go_wp2
  go_quiet ((go_at_call 24; exact quietL (apart_any _ _ (by omega) (by omega) _)))
  go_wp2
  go_ret
  exact ⟨by rw [HD.out]; rfl, by repeat (first | with_reducible exact Below.refl _ _ | ((with_reducible refine Below.setCell ?_ ?_ _); rotate_left; (· first | (simp; done) | omega | (simp; omega))) | with_reducible refine below_drewN ?_ _ | with_reducible refine Below.drew ?_ | ((with_reducible refine Below.alloc ?_ ?_ _); rotate_left; (· first | (simp; done) | omega | (simp; omega))) | exact Below.refl _ _ | refine Below.setCell ?_ (by first | (simp; done) | omega | (simp; omega)) _ | refine below_drewN ?_ _ | refine Below.drew ?_ | refine Below.alloc ?_ (by first | (simp; done) | omega | (simp; omega)) _)⟩
def IPost (p0 : Int) (xs : List PointR) (w : World) (e : Ending) (w' : World) : Prop :=
  e = .returned (.int .i64 (match firstOff p0 xs with | some k => (k : Int) | none => -1)) ∧ Below w.heap.size w w'
theorem firstOff_at {p0 : Int} {xs : List PointR} {k : Nat} {x : PointR} (hx : xs[k]? = some x) (h : offP p0 x) (hb : ∀ (j : Nat) y, j < k → xs[j]? = some y → ¬ offP p0 y) : firstOff p0 xs = some k := by
  unfold firstOff
  rw [List.findIdx?_eq_some_iff_getElem]
  have hk : k < xs.length := by
    rcases Nat.lt_or_ge k xs.length with h | h
    · exact h
    · rw [List.getElem?_eq_none h] at hx; cases hx
  refine ⟨hk, ?_, fun j hj => ?_⟩
  · rw [List.getElem?_eq_getElem hk] at hx
    injection hx with hx
    rw [hx]; exact decide_eq_true h
  · have := hb j _ hj (List.getElem?_eq_getElem (by omega))
    simp [this]
theorem firstOff_none {p0 : Int} {xs : List PointR} (hb : ∀ (j : Nat) y, j < xs.length → xs[j]? = some y → ¬ offP p0 y) : firstOff p0 xs = none := by
  unfold firstOff
  rw [List.findIdx?_eq_none_iff]
  intro x hx
  obtain ⟨j, hj, rfl⟩ := List.getElem_of_mem hx
  exact decide_eq_false (hb j _ hj (List.getElem?_eq_getElem hj))
def IRel (p0 : Int) (xs : List PointR) (w : World) (i : Value) (wr : World) : Prop := ∃ k : Nat, k ≤ xs.length ∧ i = .int .i64 k ∧ (∀ (j : Nat) y, j < k → xs[j]? = some y → ¬ offP p0 y) ∧ Below w.heap.size w wr
set_option maxHeartbeats 2000000 in
theorem idxPoint_any (T : Trl) (p0 q0 : Int) (b : Nat) (xs : List PointR) (v : Value) (w : World) (hb : CellsAt w b (trialLay T p0 q0)) (hp : -2147483648 ≤ p0 ∧ p0 ≤ 2147483647) (hv : RecsAt 3 pointLay w v xs) (hfit : ∀ y ∈ xs, pointFit y) (hm : xs.length ≤ 9223372036854775807) :
    Calls Try.prog 32 #[v, .func (.func 33) #[] #[.pointer (some ⟨b, 0, none⟩)]] w (IPost p0 xs w) := by
  obtain ⟨a0, cap, rfl⟩ := hv.len
  have HV := Lib.hid hv; have HB := Lib.hid hb; have HFIT := Lib.hid hfit
  clear hv hb hfit
  go_enter Try.func32, Try.ntmps32
  go_wp2
  go_loopw [8] (fun i wr => IRel p0 xs w i wr) (fun i _ => xs.length - (intOf i).toNat)
  case atStart => exact ⟨0, Nat.zero_le _, rfl, fun j y hj => absurd hj (by omega), Below.refl _ _⟩
  case round =>
    obtain ⟨k, hk, rfl, hall, hB⟩ := hrel
    have HALL := Lib.hid hall
    clear hall
    by_cases hlt : k < xs.length
    · obtain ⟨x, hx⟩ : ∃ x, xs[k]? = some x := ⟨_, List.getElem?_eq_getElem hlt⟩
      obtain ⟨bb, off, cap', hv', hl1, hl2, hc⟩ := HV.out.at_ hx
      cases hv'
      have hxf := HFIT.out x (List.mem_of_getElem? hx)
      have HX := Lib.hid hx
      have c0 := cell_later hB (hc 0 (by omega))
      have c1 := cell_later hB (hc 1 (by omega))
      have c2 := cell_later hB (hc 2 (by omega))
      change wr.cell? ⟨bb, off + k * 3, none⟩ = some (.int .i32 x.1) at c0
      change wr.cell? ⟨bb, off + k * 3 + 1, none⟩ = some (.int .i64 x.2.1) at c1
      change wr.cell? ⟨bb, off + k * 3 + 2, none⟩ = some (.int .i32 x.2.2) at c2
      have zB := hB.size
      clear hc hx
      go_wp2_with fail
      refine (offQ_any T p0 q0 b x _ (HB.out.later hB HB.out.lt) hp hxf).mono ?_
      obtain ⟨d, hd⟩ : ∃ d, decide (offP p0 x) = d := ⟨_, rfl⟩
      rintro e w2 ⟨he, hb2⟩
      rw [hd] at he
      subst he
      have B2 := hB.trans (hb2.mono zB)
      have HD := Lib.hid hd
      clear hd hb2 hB c0 c1 c2
      cases d
      · go_wp2
        go_roundw
        case rel =>
          refine ⟨k + 1, by omega, by go_num, fun j y hj hy => ?_, B2⟩
          by_cases e : j = k
          · subst e
            rw [HX.out] at hy
            injection hy with hy
            subst hy
            exact of_decide_eq_false HD.out
          · exact HALL.out j y (by omega) hy
        case measure => simp [intOf]; omega
      · have HF := Lib.hid (firstOff_at HX.out (of_decide_eq_true HD.out) HALL.out)
        go_wp2
        go_ret
        exact ⟨by rw [HF.out]; rfl, B2⟩
    · obtain rfl : k = xs.length := by omega
      have HF := Lib.hid (firstOff_none HALL.out)
      go_wp2
      go_ret
      exact ⟨by rw [HF.out]; rfl, hB⟩

end Go.Proofs.Ytacelddnklnhpaa
