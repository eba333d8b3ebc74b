/- What steadkeep.ran computes. -/
import Derived.Test.YtglagndpholejaaPastRun
import Derived.Test.YtglagndpholejaaCut
import Derived.Test.YtglagndpholejaaConcat
namespace Go.Proofs.Ytglagndpholejaa
open Go.ChangeShapes Go.WideShapes Go.ChangeAt Go.RowKit
set_option linter.unusedVariables false

def RanPost (xs : List PastR) (ss : List Int) (T : TypeId) (w : World) (e : Ending) (w' : World) : Prop :=
  ∃ v, e = .returned v ∧ w'.ownsRow w.heap.size T 1 v ss.length ((pastRun xs ss).map .bool) ∧ Below w.heap.size w w'
theorem ran_yes (xs : List PastR) (ss : List Int) (v u : Value) (w : World) (hok : PastOk xs) (hv : RecsAt 3 pastLay w v xs) (hu : IntsAt .u8 w u ss) (hs : ∀ j, 0 ≤ ss.getD j 0 ∧ ss.getD j 0 ≤ 255) (hl : ss.length ≤ 140737488351232) :
    Calls Try.prog 28 #[v, u] w (RanPost xs ss 4 w) := by
  obtain ⟨a, cap, rfl⟩ := hv.len
  obtain ⟨a2, cap2, rfl⟩ := hu.len
  have HV := Lib.hid hv; have HU := Lib.hid hu; have HS := Lib.hid hs
  clear hv hu hs
  go_enter Try.func28, Try.ntmps28
  go_wp2_with fail
  refine (pastRun_yes xs ss _ _ _ hok HV.out HU.out HS.out hl).mono ?_
  rintro e w1 ⟨v1, rfl, hown, hb⟩
  go_wp2
  go_ret
  exact ⟨_, rfl, hown, hb⟩
theorem pastRun_len (xs : List PastR) (ss : List Int) : (pastRun xs ss).length = ss.length := rTo_len _ _ _
theorem own_told {xs : List PastR} {ss : List Int} {w : World} {T : TypeId} {base : Nat} {v : Value} (h : w.ownsRow base T 1 v ss.length ((pastRun xs ss).map .bool)) : BoolsAt w v (pastRun xs ss) := own_bools' (by rw [pastRun_len]; exact h)
theorem rTo_front (xs : List PastR) (a b : List Int) (k : Nat) (hk : k ≤ a.length) : rTo xs (a ++ b) k = rTo xs a k := by
  induction k with
  | zero => rfl
  | succ k ih =>
    have e : (a ++ b).getD k 0 = a.getD k 0 := by rw [List.getD_eq_getElem?_getD, List.getD_eq_getElem?_getD, List.getElem?_append_left (by omega)]
    simp only [rTo, ih (by omega), e]
theorem rTo_take (xs : List PastR) (ss : List Int) (k j : Nat) (hk : k ≤ j) : (rTo xs ss j).1.take k = (rTo xs ss k).1 := by
  induction j with
  | zero => obtain rfl : k = 0 := by omega
            rfl
  | succ j ih =>
    by_cases e : k = j + 1
    · subst e; rw [List.take_of_length_le (by rw [rTo_len]; omega)]
    · simp only [rTo]
      rw [List.take_append_of_le_length (by rw [rTo_len]; omega)]
      exact ih (by omega)
theorem run_front (xs : List PastR) (a b : List Int) : (pastRun xs (a ++ b)).take a.length = pastRun xs a := by
  unfold pastRun
  rw [rTo_take _ _ _ _ (by simp), rTo_front _ _ _ _ (Nat.le_refl _)]
/-- literals -/
theorem ints_new {K : IntKind} {E : TypeId} (w : World) (xs : List Int) (cs : Array Value) (hcs : cs.toList = xs.map (.int K)) (hn : cs.size = xs.length) (hm : xs.length ≤ maxLen) : IntsAt K (w.alloc (.cells cs E)) (.slice (some ⟨w.heap.size, 0, none⟩) xs.length xs.length) xs :=
  own_ints' (E := E) (base := w.heap.size) (by rw [← hcs]; exact own_new w cs xs.length (by omega) hm)
theorem bools_new {E : TypeId} (w : World) (xs : List Bool) (cs : Array Value) (hcs : cs.toList = xs.map .bool) (hn : cs.size = xs.length) (hm : xs.length ≤ maxLen) : BoolsAt (w.alloc (.cells cs E)) (.slice (some ⟨w.heap.size, 0, none⟩) xs.length xs.length) xs :=
  own_bools' (E := E) (base := w.heap.size) (by rw [← hcs]; exact own_new w cs xs.length (by omega) hm)
theorem RecsAt.alloc {α : Type} {k : Nat} {lay : α → List Value} {w : World} {v : Value} {xs : List α} (h : RecsAt k lay w v xs) (hl : ∀ y, (lay y).length = k) (o : Obj) : RecsAt k lay (w.alloc o) v xs := h.later hl ((Below.refl w.heap.size w).alloc (Nat.le_refl _) o) (Nat.le_refl _)
theorem IntsAt.alloc {K : IntKind} {w : World} {v : Value} {xs : List Int} (h : IntsAt K w v xs) (o : Obj) : IntsAt K (w.alloc o) v xs := h.later ((Below.refl w.heap.size w).alloc (Nat.le_refl _) o) (Nat.le_refl _)
theorem BoolsAt.alloc {w : World} {v : Value} {xs : List Bool} (h : BoolsAt w v xs) (o : Obj) : BoolsAt (w.alloc o) v xs := h.later ((Below.refl w.heap.size w).alloc (Nat.le_refl _) o) (Nat.le_refl _)
theorem pastOk_of (xs : List PastR) (h1 : 1 ≤ xs.length) (h2 : xs.length ≤ 20) (h : FrontOk xs xs.length) : PastOk xs := ⟨h1, h2, h.all⟩
theorem u8_bd {k : Nat} {w : World} {a : Option Addr} {len cap : Nat} {zs : List Int} (h : Open.IsRow .u8 w a len cap zs) : ∀ j, 0 ≤ (zs.take k).getD j 0 ∧ (zs.take k).getD j 0 ≤ 255 := by
  have : ∀ x ∈ zs, 0 ≤ x ∧ x ≤ 255 := by
    rcases h with ⟨-, -, -, rfl⟩ | ⟨x, rfl, hl, hm, hz, hcell, hwz⟩
    · intro x hx; simp at hx
    · intro x hx; have := bounds_u8 (hwz x hx); omega
  intro j
  rw [List.getD_eq_getElem?_getD]
  by_cases hj : j < (zs.take k).length
  · rw [List.getElem?_eq_getElem hj]
    exact this _ (List.mem_of_mem_take (List.getElem_mem hj))
  · rw [List.getElem?_eq_none (by omega)]; decide
theorem bd_append {a b : List Int} (ha : ∀ j, 0 ≤ a.getD j 0 ∧ a.getD j 0 ≤ 255) (hb : ∀ j, 0 ≤ b.getD j 0 ∧ b.getD j 0 ≤ 255) : ∀ j, 0 ≤ (a ++ b).getD j 0 ∧ (a ++ b).getD j 0 ≤ 255 := by
  intro j
  rw [List.getD_eq_getElem?_getD]
  by_cases h : j < a.length
  · rw [List.getElem?_append_left h, ← List.getD_eq_getElem?_getD]; exact ha j
  · rw [List.getElem?_append_right (by omega), ← List.getD_eq_getElem?_getD]; exact hb _

end Go.Proofs.Ytglagndpholejaa
