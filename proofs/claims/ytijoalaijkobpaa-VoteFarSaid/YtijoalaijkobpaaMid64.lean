/- What filt.Middle and vote.Mid compute, of up to 64 numbers and of more. -/
import Derived.Test.YtijoalaijkobpaaMids
import Derived.Test.YtijoalaijkobpaaPdqF
namespace Go.Proofs.Ytijoalaijkobpaa
open Go.ChangeShapes Go.WideShapes Go.ChangeAt Go.RowKit
set_option linter.unusedVariables false

theorem sort32_len (xs : List Int) : (sort32 xs).length = xs.length := (sort32_perm xs).length_eq
theorem sort32_of_perm {xs ys : List Int} (h : xs.Perm ys) : sort32 xs = sort32 ys :=
  List.Perm.eq_of_pairwise (by intro a b _ _ h1 h2; omega) (sort32_sorted xs) (sort32_sorted ys) ((sort32_perm xs).trans (h.trans (sort32_perm ys).symm))
theorem midI_of_perm {xs ys : List Int} (h : xs.Perm ys) : midI xs = midI ys := by
  unfold midI; rw [sort32_of_perm h, h.length_eq]
theorem midI_at {xs : List Int} (h : 0 < xs.length) : ∃ hh : (xs.length - 1) / 2 < (sort32 xs).length, midI xs = (sort32 xs)[(xs.length - 1) / 2] := by
  have hh : (xs.length - 1) / 2 < (sort32 xs).length := by rw [sort32_len]; omega
  exact ⟨hh, by unfold midI; rw [List.getD_eq_getElem?_getD, List.getElem?_eq_getElem hh]; rfl⟩
theorem midI_mem {xs : List Int} (h : 0 < xs.length) : midI xs ∈ xs := by
  obtain ⟨hh, e⟩ := midI_at h
  rw [e]
  exact (sort32_perm xs).mem_iff.1 (List.getElem_mem hh)
/-- of what holds of no number from the middle one on there are less than half -/
theorem count_low {xs : List Int} (h : 0 < xs.length) (p : Int → Bool) (hp : ∀ x, midI xs ≤ x → p x = false) : 2 * xs.countP p + 1 ≤ xs.length := by
  obtain ⟨hh, e⟩ := midI_at h
  rw [← (sort32_perm xs).countP_eq p]
  have hl := sort32_len xs
  have hd : (sort32 xs).countP p = ((sort32 xs).take ((xs.length - 1) / 2)).countP p + ((sort32 xs).drop ((xs.length - 1) / 2)).countP p := by
    rw [← List.countP_append, List.take_append_drop]
  have h0 : ((sort32 xs).drop ((xs.length - 1) / 2)).countP p = 0 := by
    rw [List.countP_eq_zero]
    intro x hx
    obtain ⟨i, hi, rfl⟩ := List.getElem_of_mem hx
    rw [List.length_drop] at hi
    rw [List.getElem_drop]
    have : midI xs ≤ (sort32 xs)[(xs.length - 1) / 2 + i] := by
      rw [e]
      by_cases i0 : i = 0
      · subst i0; exact Int.le_refl _
      · exact List.pairwise_iff_getElem.1 (sort32_sorted xs) _ _ hh (by omega) (by omega)
    rw [hp _ this]; simp
  have h1 := List.countP_le_length (p := p) (l := (sort32 xs).take ((xs.length - 1) / 2))
  rw [List.length_take] at h1
  omega
/-- of what holds of no number up to the middle one there are at most half -/
theorem count_high {xs : List Int} (h : 0 < xs.length) (p : Int → Bool) (hp : ∀ x, x ≤ midI xs → p x = false) : 2 * xs.countP p ≤ xs.length := by
  obtain ⟨hh, e⟩ := midI_at h
  rw [← (sort32_perm xs).countP_eq p]
  have hl := sort32_len xs
  have hd : (sort32 xs).countP p = ((sort32 xs).take ((xs.length - 1) / 2 + 1)).countP p + ((sort32 xs).drop ((xs.length - 1) / 2 + 1)).countP p := by
    rw [← List.countP_append, List.take_append_drop]
  have h0 : ((sort32 xs).take ((xs.length - 1) / 2 + 1)).countP p = 0 := by
    rw [List.countP_eq_zero]
    intro x hx
    obtain ⟨i, hi, rfl⟩ := List.getElem_of_mem hx
    rw [List.length_take] at hi
    rw [List.getElem_take]
    have : (sort32 xs)[i] ≤ midI xs := by
      rw [e]
      by_cases i0 : i = (xs.length - 1) / 2
      · subst i0; exact Int.le_refl _
      · exact List.pairwise_iff_getElem.1 (sort32_sorted xs) _ _ (by omega) hh (by omega)
    rw [hp _ this]; simp
  have h1 := List.countP_le_length (p := p) (l := (sort32 xs).drop ((xs.length - 1) / 2 + 1))
  rw [List.length_drop] at h1
  omega
def midE (xs : List Int) : Int × Int := if xs.length = 0 then (0, 7) else if 64 < xs.length then (0, 2) else (midI xs, 0)
theorem midE_in {xs : List Int} (h : 0 < xs.length) (h2 : xs.length ≤ 64) : midE xs = (midI xs, 0) := by unfold midE; rw [if_neg (by omega), if_neg (by omega)]
theorem midE_out {xs : List Int} (h : ¬ (0 < xs.length ∧ xs.length ≤ 64)) : (midE xs).1 = 0 ∧ ((midE xs).2 = 2 ∨ (midE xs).2 = 7) := by
  unfold midE
  split
  · exact ⟨rfl, .inr rfl⟩
  · rw [if_pos (by omega)]; exact ⟨rfl, .inl rfl⟩
set_option maxHeartbeats 4000000 in
set_option maxRecDepth 100000 in
theorem middle_is (xs : List Int) (v : Value) (w : World) (hv : IntsAt .i32 w v xs) :
    Calls Try.prog 17 #[v] w fun e w' => e = .returned (.tuple #[.int .i32 (midE xs).1, .int .i64 (midE xs).2]) ∧ Below w.heap.size w w' := by
  have HV := Lib.hid hv
  obtain ⟨av, cv, rfl⟩ := HV.out.len
  clear hv
  by_cases h0 : xs.length = 0
  · have he : midE xs = (0, 7) := by unfold midE; rw [if_pos h0]
    rw [he]
    have q1 : ((xs.length : Int) == 0) = true := by rw [h0]; rfl
    clear he HV
    go_enter Try.func17, Try.ntmps17
    go_wp2
    go_ret2
    exact ⟨rfl, by first | exact Below.refl _ _ | repeat (first | with_reducible exact Below.refl _ _ | ((with_reducible refine Below.setCell ?_ ?_ _); rotate_left; (· first | (simp; done) | omega | (simp; omega))) | with_reducible refine below_drewN ?_ _ | with_reducible refine Below.drew ?_ | ((with_reducible refine Below.alloc ?_ ?_ _); rotate_left; (· first | (simp; done) | omega | (simp; omega))) | exact Below.refl _ _ | refine Below.setCell ?_ (by first | (simp; done) | omega | (simp; omega)) _ | refine below_drewN ?_ _ | refine Below.drew ?_ | refine Below.alloc ?_ (by first | (simp; done) | omega | (simp; omega)) _)⟩
  · by_cases h64 : 64 < xs.length
    · have he : midE xs = (0, 2) := by unfold midE; rw [if_neg h0, if_pos h64]
      rw [he]
      have q1 : ((xs.length : Int) == 0) = false := by rw [beq_eq_false_iff_ne]; omega
      have q2 : (64 : Int) < (xs.length : Int) := by omega
      clear he HV
      go_enter Try.func17, Try.ntmps17
      go_wp2
      go_ret2
      exact ⟨rfl, by first | exact Below.refl _ _ | repeat (first | with_reducible exact Below.refl _ _ | ((with_reducible refine Below.setCell ?_ ?_ _); rotate_left; (· first | (simp; done) | omega | (simp; omega))) | with_reducible refine below_drewN ?_ _ | with_reducible refine Below.drew ?_ | ((with_reducible refine Below.alloc ?_ ?_ _); rotate_left; (· first | (simp; done) | omega | (simp; omega))) | exact Below.refl _ _ | refine Below.setCell ?_ (by first | (simp; done) | omega | (simp; omega)) _ | refine below_drewN ?_ _ | refine Below.drew ?_ | refine Below.alloc ?_ (by first | (simp; done) | omega | (simp; omega)) _)⟩
    · rw [midE_in (by omega) (by omega)]
      have q1 : ((xs.length : Int) == 0) = false := by rw [beq_eq_false_iff_ne]; omega
      have q2 : ¬ (64 : Int) < (xs.length : Int) := by omega
      go_enter Try.func17, Try.ntmps17
      go_wp2_with fail
      refine (clone_i32 xs _ _ HV.out (by omega)).mono ?_
      rintro e1 w1 ⟨v1, rfl, hown, hb⟩
      rcases own_form hown with ⟨-, hn⟩ | ⟨g, cap, rfl, hg, hg2, hcap, hcm⟩
      · omega
      have HB := Lib.hid hb
      have hc := own_cells hown rfl
      have HC := Lib.hid hc
      clear hown hb hc
      go_wp2_with fail
      refine (S32.sort_is g cap xs _ (by omega) HC.out).mono ?_
      rintro e2 w2 ⟨rfl, M, hR, hS, hO⟩
      have hM := sorted_is (hS.perm (Nat.le_refl _)) hO
      have hml : M.length = xs.length := hS.len
      have hcx := S32.val_cell hR.c ((xs.length - 1) / 2) (by omega)
      have HG := Lib.hid (HB.out.grown hR.g HB.out.size (fun j e => by cases e; exact hg))
      rw [hM] at hcx
      change w2.cell? ⟨g, (xs.length - 1) / 2, none⟩ = some (.int .i32 (midI xs)) at hcx
      have e1 : IntKind.i64.wrap ((xs.length : Int) - 1) = (xs.length : Int) - 1 := IntWalk.i64_in _ (by omega)
      have e2 : (0 : Int) ≤ (xs.length : Int) - 1 := by omega
      have e3 : (((xs.length : Int) - 1) / 2).toNat = (xs.length - 1) / 2 := by omega
      have e4 : ((xs.length : Int) - 1) / 2 < (xs.length : Int) := by omega
      have e5 : (0 : Int) ≤ ((xs.length : Int) - 1) / 2 := by omega
      obtain ⟨y, hy⟩ : ∃ y, midI xs = y := ⟨_, rfl⟩
      rw [hy] at hcx
      have HY := Lib.hid hy
      clear hR hS hO hM hml hy
      go_wp2
      go_ret2
      exact ⟨by rw [HY.out]; rfl, HG.out⟩

def hearE (xs : List Int) (oks : List Bool) : Int := if 64 < xs.length then 2 else if xs.length = oks.length then 0 else 4
set_option maxHeartbeats 4000000 in
set_option maxRecDepth 100000 in
theorem heard_not (xs : List Int) (oks : List Bool) (v u : Value) (w : World) (hv : IntsAt .i32 w v xs) (hu : BoolsAt w u oks) (hx : xs.length ≤ 9223372036854775807) (hy : oks.length ≤ 9223372036854775807) (h : hearE xs oks ≠ 0) :
    Calls Try.prog 35 #[v, u] w fun e w' => e = .returned (.tuple #[.slice none 0 0, .int .i64 (hearE xs oks)]) ∧ w = w' := by
  obtain ⟨av, cv, rfl⟩ := hv.len
  obtain ⟨au, cu, rfl⟩ := hu.len
  clear hv hu
  by_cases h64 : 64 < xs.length
  · have he : hearE xs oks = 2 := by unfold hearE; rw [if_pos h64]
    rw [he]
    have q2 : (64 : Int) < (xs.length : Int) := by omega
    clear he h
    go_enter Try.func35, Try.ntmps35
    go_wp2
    go_ret2
    exact ⟨rfl, rfl⟩
  · have hne : xs.length ≠ oks.length := by intro e; apply h; unfold hearE; rw [if_neg h64, if_pos e]
    have he : hearE xs oks = 4 := by unfold hearE; rw [if_neg h64, if_neg hne]
    rw [he]
    have q2 : ¬ (64 : Int) < (xs.length : Int) := by omega
    have q3 : ((xs.length : Int) != (oks.length : Int)) = true := by simp; omega
    clear he h hne
    go_enter Try.func35, Try.ntmps35
    go_wp2
    go_ret2
    exact ⟨rfl, rfl⟩
def voteE (xs : List Int) (oks : List Bool) : Int × Int := if hearE xs oks = 0 then midE (hearK xs oks xs.length) else (0, hearE xs oks)
set_option maxHeartbeats 4000000 in
set_option maxRecDepth 100000 in
theorem vmid_is (xs : List Int) (oks : List Bool) (v u : Value) (w : World) (hv : IntsAt .i32 w v xs) (hu : BoolsAt w u oks) (hx : xs.length ≤ 9223372036854775807) (hy : oks.length ≤ 9223372036854775807) :
    Calls Try.prog 20 #[v, u] w fun e w' => e = .returned (.tuple #[.int .i32 (voteE xs oks).1, .int .i64 (voteE xs oks).2]) ∧ Below w.heap.size w w' := by
  have HV := Lib.hid hv; have HU := Lib.hid hu
  clear hv hu
  by_cases h : hearE xs oks = 0
  · have he : voteE xs oks = midE (hearK xs oks xs.length) := by unfold voteE; rw [if_pos h]
    have h64 : ¬ 64 < xs.length := by intro e; unfold hearE at h; rw [if_pos e] at h; omega
    have HE := Lib.hid (show xs.length = oks.length by
      by_cases e : xs.length = oks.length
      · exact e
      · unfold hearE at h; rw [if_neg h64, if_neg e] at h; omega)
    rw [he]
    obtain ⟨hs, hhs⟩ : ∃ hs, hearK xs oks xs.length = hs := ⟨_, rfl⟩
    rw [hhs]
    obtain ⟨m, hm⟩ : ∃ m, midE hs = m := ⟨_, rfl⟩
    rw [hm]
    have HHS := Lib.hid hhs; have HM := Lib.hid hm
    clear he h hhs hm
    go_enter Try.func20, Try.ntmps20
    go_wp2_with fail
    refine (heard_is xs oks v u _ HV.out HU.out (by omega) HE.out).mono ?_
    rintro e1 w1 ⟨v1, rfl, hown, hb⟩
    have HI := Lib.hid (own_ints' hown)
    have HB := Lib.hid hb
    clear hown hb
    rw [HHS.out] at HI
    go_wp2_with fail
    refine (middle_is hs v1 _ HI.out).mono ?_
    rw [HM.out]
    rintro e2 w2 ⟨rfl, hb2⟩
    have HB2 := Lib.hid (HB.out.trans (hb2.mono HB.out.size))
    clear hb2
    go_wp2
    go_ret2
    exact ⟨rfl, HB2.out⟩
  · have he : voteE xs oks = (0, hearE xs oks) := by unfold voteE; rw [if_neg h]
    rw [he]
    have hc : (hearE xs oks != 0) = true := by simpa using h
    clear he
    go_enter Try.func20, Try.ntmps20
    go_wp2_with fail
    refine (heard_not xs oks v u _ HV.out HU.out hx hy h).mono ?_
    rintro e1 w1 ⟨rfl, rfl⟩
    go_wp2
    go_ret2
    exact ⟨rfl, Below.refl _ _⟩

set_option maxHeartbeats 4000000 in
set_option maxRecDepth 100000 in
theorem contains_i32 (xs : List Int) (v : Value) (x : Int) (w : World) (hv : IntsAt .i32 w v xs) (hx : xs.length ≤ 9223372036854775807) :
    Calls Try.prog 19 #[v, .int .i32 x] w fun e w' => e = .returned (.bool (decide (0 ≤ idxI xs x))) ∧ w = w' := by
  have HV := Lib.hid hv
  clear hv
  go_enter Try.func19, Try.ntmps19
  go_wp2_with fail
  refine (index_i32 xs v x _ HV.out hx).mono ?_
  rintro e1 w1 ⟨rfl, rfl⟩
  go_wp2
  go_ret
  exact ⟨rfl, rfl⟩

end Go.Proofs.Ytijoalaijkobpaa
