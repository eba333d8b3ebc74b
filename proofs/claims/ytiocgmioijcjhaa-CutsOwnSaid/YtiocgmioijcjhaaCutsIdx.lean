/- cuts.least: the closure that it hands to slices.ContainsFunc, and what that answers. -/
import Derived.Test.YtiocgmioijcjhaaCutsLaw
namespace Go.Proofs.Ytiocgmioijcjhaa
open Go.ChangeShapes Go.WideShapes Go.ChangeAt Go.RowKit
set_option linter.unusedVariables false

def u16s (xs : List Nat) : List Int := xs.map fun x : Nat => (x : Int)
theorem u16s_len (xs : List Nat) : (u16s xs).length = xs.length := by simp [u16s]
theorem u16s_at {xs : List Nat} {i x : Nat} (h : xs[i]? = some x) : (u16s xs)[i]? = some (x : Int) := by simp [u16s, h]
theorem and_u16 (a b : Nat) (ha : a < 65536) (hb : b < 65536) : bits BinOp.and IntKind.u16 (a : Int) (b : Int) = ((a &&& b : Nat) : Int) :=
  (bits_nat .u16 16 (by decide) (fun n a b => IntWalk.u16_in n (by omega)) a b ha hb).1
theorem or_u16 (a b : Nat) (ha : a < 65536) (hb : b < 65536) : bits BinOp.or IntKind.u16 (a : Int) (b : Int) = ((a ||| b : Nat) : Int) :=
  (bits_nat .u16 16 (by decide) (fun n a b => IntWalk.u16_in n (by omega)) a b ha hb).2
set_option maxHeartbeats 2000000 in
set_option maxRecDepth 100000 in
theorem leastC_is (c k p : Nat) (hc : c < 65536) (hk : k < 65536) (w : World) (h : w.cell? ⟨p, 0, none⟩ = some (.int .u16 (c : Int))) :
    Calls Try.prog 45 #[.int .u16 (k : Int), .pointer (some ⟨p, 0, none⟩)] w fun e w' => e = .returned (.bool (c &&& k == k)) ∧ Below w.heap.size w w' := by
  have hA := and_u16 c k hc hk
  have hE : (((c &&& k : Nat) : Int) == (k : Int)) = (c &&& k == k) := by
    rw [Bool.eq_iff_iff]; simp only [beq_iff_eq]; omega
  generalize hr : (c &&& k == k) = r at *
  go_enter Try.func45, Try.ntmps45
  go_wp2_with fail
  go_ret
  exact ⟨rfl, by repeat (first | with_reducible exact Below.refl _ _ | ((with_reducible refine Below.setCell ?_ ?_ _); rotate_left; (· first | (simp; done) | omega | (simp; omega))) | with_reducible refine below_drewN ?_ _ | with_reducible refine Below.drew ?_ | ((with_reducible refine Below.alloc ?_ ?_ _); rotate_left; (· first | (simp; done) | omega | (simp; omega))) | exact Below.refl _ _ | refine Below.setCell ?_ (by first | (simp; done) | omega | (simp; omega)) _ | refine below_drewN ?_ _ | refine Below.drew ?_ | refine Below.alloc ?_ (by first | (simp; done) | omega | (simp; omega)) _)⟩
/-- whether a kept set lies in c -/
def anyIn (c : Nat) (xs : List Nat) : Bool := xs.any fun k => c &&& k == k
set_option maxHeartbeats 4000000 in
set_option maxRecDepth 100000 in
theorem idxLeast_is (xs : List Nat) (c p : Nat) (v : Value) (w : World) (hv : IntsAt .u16 w v (u16s xs)) (hc : c < 65536) (hx : ∀ x ∈ xs, x < 65536) (h : w.cell? ⟨p, 0, none⟩ = some (.int .u16 (c : Int))) (hl : xs.length ≤ 281474976710656) :
    Calls Try.prog 39 #[v, .func (.func 45) #[] #[.pointer (some ⟨p, 0, none⟩)]] w
      fun e w' => (∃ i : Int, e = .returned (.int .i64 i) ∧ -1 ≤ i ∧ i ≤ 281474976710656 ∧ decide (0 ≤ i) = anyIn c xs) ∧ Below w.heap.size w w' := by
  have hp := World.block_lt_of_cell? _ _ h
  obtain ⟨a, cap, hva⟩ := hv.len
  rw [u16s_len] at hva
  subst hva
  have HV := Lib.hid hv; have HX := Lib.hid hx; have HC := Lib.hid h
  clear hv hx h
  go_enter Try.func39, Try.ntmps39
  go_wp2_with fail
  go_loopw [8] (fun i wr => (∃ k : Nat, k ≤ xs.length ∧ i = .int .i64 k ∧ anyIn c (xs.take k) = false) ∧ Below w.heap.size w wr) (fun i _ => xs.length - (intOf i).toNat)
  case atStart => exact ⟨⟨0, Nat.zero_le _, rfl, rfl⟩, Below.refl _ _⟩
  case round =>
    obtain ⟨⟨k, hk, rfl, hn⟩, hB⟩ := hrel
    have HB := Lib.hid hB; have HN := Lib.hid hn
    have zB := hB.size
    clear hn
    by_cases hlt : k < xs.length
    · obtain ⟨x, hxk⟩ : ∃ x, xs[k]? = some x := ⟨_, List.getElem?_eq_getElem hlt⟩
      have hx6 : x < 65536 := HX.out x (List.mem_of_getElem? hxk)
      obtain ⟨b, off, cap', hv', hl1, hcell⟩ := ints_at (HV.out.later hB (Nat.le_refl _)) (u16s_at hxk)
      rw [u16s_len] at hl1 hv'
      cases hv'
      have e5 : (k : Int) < (xs.length : Int) := by omega
      have e6 : k + 1 ≤ cap := by omega
      have PC : Hid (wr.cell? ⟨p, 0, none⟩ = some (.int .u16 (c : Int))) := (hB.cell (p := ⟨p, 0, none⟩) hp).trans HC.out
      have XK := Lib.hid hxk
      clear hB hxk
      go_wp2_with fail
      refine (leastC_is c x p hc hx6 _ PC.out).mono ?_
      rintro e w1 ⟨rfl, hb1⟩
      have B1 := Lib.hid (HB.out.trans (hb1.mono zB))
      clear hb1 hcell
      have step : anyIn c (xs.take (k + 1)) = (anyIn c (xs.take k) || (c &&& x == x)) := by
        rw [List.take_add_one, XK.out]
        simp [anyIn]
      cases hr : (c &&& x == x)
      · rw [hr, HN.out] at step
        have ST := Lib.hid step
        clear step hr
        go_wp2
        go_roundw
        case rel => exact ⟨⟨k + 1, by omega, by go_num, ST.out⟩, B1.out⟩
        case measure => simp [intOf]; omega
      · have hall : anyIn c xs = true := List.any_eq_true.2 ⟨x, List.mem_of_getElem? XK.out, hr⟩
        clear step hr
        go_wp2
        go_ret
        exact ⟨⟨k, rfl, by omega, by omega, by rw [hall]; simp⟩, B1.out⟩
    · obtain rfl : k = xs.length := by omega
      clear hB
      go_wp2
      go_ret
      refine ⟨⟨-1, rfl, by omega, by omega, ?_⟩, HB.out⟩
      have := HN.out
      rw [List.take_length] at this
      rw [this]; decide
set_option maxHeartbeats 4000000 in
set_option maxRecDepth 100000 in
theorem hasLeast_is (xs : List Nat) (c p : Nat) (v : Value) (w : World) (hv : IntsAt .u16 w v (u16s xs)) (hc : c < 65536) (hx : ∀ x ∈ xs, x < 65536) (h : w.cell? ⟨p, 0, none⟩ = some (.int .u16 (c : Int))) (hl : xs.length ≤ 281474976710656) :
    Calls Try.prog 18 #[v, .func (.func 45) #[] #[.pointer (some ⟨p, 0, none⟩)]] w
      fun e w' => e = .returned (.bool (anyIn c xs)) ∧ Below w.heap.size w w' := by
  have HV := Lib.hid hv; have HX := Lib.hid hx; have HC := Lib.hid h
  clear hv hx h
  go_enter Try.func18, Try.ntmps18
  go_wp2_with fail
  refine (idxLeast_is xs c p _ _ HV.out hc HX.out HC.out hl).mono ?_
  rintro e w1 ⟨⟨i, rfl, i0, i1, hi⟩, hb1⟩
  have HI := Lib.hid hi
  clear hi i0 i1
  go_wp2
  go_ret
  exact ⟨by rw [← HI.out]; rfl, hb1⟩

end Go.Proofs.Ytiocgmioijcjhaa
