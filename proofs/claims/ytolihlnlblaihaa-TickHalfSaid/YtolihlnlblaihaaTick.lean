/- What tick.Midway and tick.Adjust compute. -/
import Derived.Test.YtolihlnlblaihaaSorted
import Derived.Test.YtolihlnlblaihaaConcat
import Derived.BigQuiet
import Derived.Deep.QuietTactic
namespace Go.Proofs.Ytolihlnlblaihaa
open Go.ChangeShapes Go.WideShapes Go.ChangeAt Go.RowKit
set_option linter.unusedVariables false
def TickIn (x : Int) : Prop := -1099511627776 ≤ x ∧ x ≤ 1099511627776
def TickOk (xs : List Int) (f : Int) : Prop := xs.length ≤ 64 ∧ (∀ x ∈ xs, TickIn x) ∧ 0 ≤ f ∧ f < xs.length ∧ f < xs.length - f
open Classical in
noncomputable def tickE (xs : List Int) (f : Int) : Int := if 64 < xs.length then 2 else if ∃ x ∈ xs, ¬ TickIn x then 1 else if f < 0 then 1 else 7
theorem tickE_ne (xs : List Int) (f : Int) : tickE xs f ≠ 0 := by
  unfold tickE
  split
  · decide
  · split
    · decide
    · split <;> decide
theorem tickE_large {xs : List Int} {f : Int} (h : 64 < xs.length) : tickE xs f = 2 := by unfold tickE; rw [if_pos h]
theorem tickE_out {xs : List Int} {f x : Int} (h : ¬ 64 < xs.length) (hx : x ∈ xs) (hb : ¬ TickIn x) : tickE xs f = 1 := by unfold tickE; rw [if_neg h, if_pos ⟨x, hx, hb⟩]
theorem tickE_neg {xs : List Int} {f : Int} (h : ¬ 64 < xs.length) (hx : ∀ x ∈ xs, TickIn x) (hf : f < 0) : tickE xs f = 1 := by
  unfold tickE; rw [if_neg h, if_neg (by rintro ⟨x, h1, h2⟩; exact h2 (hx x h1)), if_pos hf]
theorem tickE_none {xs : List Int} {f : Int} (h : ¬ 64 < xs.length) (hx : ∀ x ∈ xs, TickIn x) (hf : ¬ f < 0) : tickE xs f = 7 := by
  unfold tickE; rw [if_neg h, if_neg (by rintro ⟨x, h1, h2⟩; exact h2 (hx x h1)), if_neg hf]
def midI (xs : List Int) (f : Int) : Int := ((sortI xs).getD f.toNat 0 + (sortI xs).getD (xs.length - 1 - f.toNat) 0) / 2
theorem sortI_in {xs : List Int} (h : ∀ x ∈ xs, TickIn x) (j : Nat) : TickIn ((sortI xs).getD j 0) := by
  rw [List.getD_eq_getElem?_getD]
  by_cases hj : j < (sortI xs).length
  · rw [List.getElem?_eq_getElem hj]
    exact h _ ((sortI_perm xs).mem_iff.1 (List.getElem_mem hj))
  · rw [List.getElem?_eq_none (by omega)]
    show TickIn 0; unfold TickIn; omega
theorem midI_bd {xs : List Int} (h : ∀ x ∈ xs, TickIn x) (f : Int) : -1099511627776 ≤ midI xs f ∧ midI xs f ≤ 1099511627776 := by
  have h1 := sortI_in h f.toNat
  have h2 := sortI_in h (xs.length - 1 - f.toNat)
  unfold TickIn at h1 h2
  unfold midI
  omega
def MidPost (xs : List Int) (f : Int) (w : World) (e : Ending) (w' : World) : Prop :=
  (TickOk xs f → e = .returned (.tuple #[.int .i64 (midI xs f), .int .i64 0])) ∧ (¬ TickOk xs f → e = .returned (.tuple #[.int .i64 0, .int .i64 (tickE xs f)])) ∧ Below w.heap.size w w'
def MidRel (xs : List Int) (i : Value) : Prop := ∃ k : Nat, k ≤ xs.length ∧ i = .int .i64 k ∧ ∀ j, j < k → TickIn (xs.getD j 0)
set_option maxHeartbeats 4000000 in
theorem midway_any (xs : List Int) (f : Int) (v : Value) (w : World) (hv : IntsAt .i64 w v xs) (hm : xs.length ≤ 9223372036854775807) :
    Calls Try.prog 11 #[v, .int .i64 f] w (MidPost xs f w) := by
  obtain ⟨a, cap, rfl⟩ := hv.len
  have HV := Lib.hid hv
  clear hv
  by_cases h64 : 64 < xs.length
  · have HE := Lib.hid (tickE_large (f := f) h64)
    have HN : Hid (¬ TickOk xs f) := fun h => by have := h.1; omega
    have d1 : decide (64 < (xs.length : Int)) = true := by simp; omega
    clear h64
    go_enter Try.func11, Try.ntmps11
    go_wp2
    go_ret2
    exact ⟨fun h => absurd h HN.out, fun _ => by rw [HE.out]; rfl, Below.refl _ _⟩
  · have d1 : decide (64 < (xs.length : Int)) = false := by simp; omega
    have H64 := Lib.hid h64
    have hl : xs.length ≤ 64 := by omega
    clear h64
    go_enter Try.func11, Try.ntmps11
    go_wp2
    clear d1
    go_loop [14] (fun i => MidRel xs i) (fun i => xs.length - (intOf i).toNat)
    case atStart => exact ⟨0, Nat.zero_le _, rfl, fun j hj => absurd hj (by omega)⟩
    case round =>
      obtain ⟨k, hk, rfl, hall⟩ := hrel
      have HALL := Lib.hid hall
      clear hall
      by_cases hlt : k < xs.length
      · rcases HV.out with ⟨h0, -⟩ | ⟨-, b, off, cap', hv', hl1, hl2, hc⟩
        · rw [h0] at hlt; simp at hlt
        cases hv'
        have c0 := hc k hlt
        have hmem : xs.getD k 0 ∈ xs := by rw [List.getD_eq_getElem?_getD, List.getElem?_eq_getElem hlt]; exact List.getElem_mem hlt
        have HMEM := Lib.hid hmem
        obtain ⟨x, hx⟩ : ∃ x, xs.getD k 0 = x := ⟨_, rfl⟩
        rw [hx] at c0 HMEM
        have HX := Lib.hid hx
        clear hc hx hmem
        by_cases hin : TickIn x
        · have HIN := Lib.hid hin
          unfold TickIn at hin
          have t1 : decide (x < -1099511627776) = false := by simp; omega
          have t2 : decide (1099511627776 < x) = false := by simp; omega
          clear hin
          go_wp2
          go_round
          case rel =>
            refine ⟨k + 1, by omega, by go_num, fun j hj => ?_⟩
            by_cases e : j = k
            · subst e; rw [HX.out]; exact HIN.out
            · exact HALL.out j (by omega)
          case measure => simp [intOf]; omega
        · have HE := Lib.hid (tickE_out (f := f) H64.out HMEM.out hin)
          have HN : Hid (¬ TickOk xs f) := fun h => hin (h.2.1 x HMEM.out)
          unfold TickIn at hin
          rcases (by omega : x < -1099511627776 ∨ (-1099511627776 ≤ x ∧ 1099511627776 < x)) with g | ⟨g1, g2⟩
          · have t1 : decide (x < -1099511627776) = true := by simp; omega
            clear hin
            go_wp2
            go_ret2
            exact ⟨fun h => absurd h HN.out, fun _ => by rw [HE.out]; rfl, Below.refl _ _⟩
          · have t1 : decide (x < -1099511627776) = false := by simp; omega
            have t2 : decide (1099511627776 < x) = true := by simp; omega
            clear hin
            go_wp2
            go_ret2
            exact ⟨fun h => absurd h HN.out, fun _ => by rw [HE.out]; rfl, Below.refl _ _⟩
      · obtain rfl : k = xs.length := by omega
        have hin : ∀ x ∈ xs, TickIn x := fun x hx => by
          obtain ⟨j, hj, rfl⟩ := List.getElem_of_mem hx
          have := HALL.out j hj
          rwa [List.getD_eq_getElem?_getD, List.getElem?_eq_getElem hj] at this
        have HIN := Lib.hid hin
        clear hin hlt hk
        by_cases hf : f < 0
        · have HE := Lib.hid (tickE_neg H64.out HIN.out hf)
          have HN : Hid (¬ TickOk xs f) := fun h => by have := h.2.2.1; omega
          have t1 : decide (f < 0) = true := by simp; omega
          clear hf
          go_wp2
          go_ret2
          exact ⟨fun h => absurd h HN.out, fun _ => by rw [HE.out]; rfl, Below.refl _ _⟩
        · obtain ⟨n, rfl⟩ := Int.eq_ofNat_of_zero_le (by omega : 0 ≤ f)
          have t1 : decide ((n : Int) < 0) = false := by first | (simp; done) | (simp; omega)
          by_cases h1 : xs.length ≤ n
          · have HE := Lib.hid (tickE_none H64.out HIN.out hf)
            have HN : Hid (¬ TickOk xs (n : Int)) := fun h => by have := h.2.2.2.1; omega
            have t2 : decide (xs.length ≤ n) = true := by simpa using h1
            clear hf h1
            go_wp2
            go_ret2
            exact ⟨fun h => absurd h HN.out, fun _ => by rw [HE.out]; rfl, Below.refl _ _⟩
          · have t2 : decide (xs.length ≤ n) = false := by simpa using h1
            by_cases h2 : (xs.length : Int) - n ≤ n
            · have HE := Lib.hid (tickE_none H64.out HIN.out hf)
              have HN : Hid (¬ TickOk xs (n : Int)) := fun h => by have := h.2.2.2.2; omega
              have t3 : decide ((xs.length : Int) - (n : Int) ≤ (n : Int)) = true := by simpa using h2
              have t4 : (n : Int) < (xs.length : Int) := by omega
              clear hf h1 h2
              go_wp2
              go_ret2
              exact ⟨fun h => absurd h HN.out, fun _ => by rw [HE.out]; rfl, Below.refl _ _⟩
            · have HOK : Hid (TickOk xs (n : Int)) := ⟨hl, HIN.out, by omega, by omega, by omega⟩
              have t3 : decide ((xs.length : Int) - (n : Int) ≤ (n : Int)) = false := by simpa using h2
              have t4 : (n : Int) < (xs.length : Int) := by omega
              obtain ⟨m, hm2⟩ : ∃ m : Nat, (xs.length : Int) - 1 - (n : Int) = (m : Int) := ⟨xs.length - 1 - n, by omega⟩
              have hmn : m = xs.length - 1 - n := by omega
              have hml : m < xs.length := by omega
              have hnl : n < xs.length := by omega
              have HM2 := Lib.hid hm2; have HMN := Lib.hid hmn
              clear hf h1 h2 hm2 hmn
              go_wp2_with fail
              refine (clone_i64 xs _ _ HV.out (by omega)).mono ?_
              rintro e w1 ⟨v1, rfl, hown, hb⟩
              obtain ⟨g, capg, rfl, hg1, hg2, hg3, hg4⟩ := (own_form hown).resolve_left (by rintro ⟨-, h⟩; omega)
              have HOWN := Lib.hid hown; have HB := Lib.hid hb
              clear hown hb
              go_wp2_with fail
              refine (sort_own xs _ _ _ HOWN.out (by omega)).mono ?_
              rintro e w2 ⟨rfl, hown2, hgr⟩
              have B2 : Below w.heap.size w w2 := HB.out.trans ((Below.refl _ _).grown hgr HB.out.size (fun j hj => by cases hj; exact hg1))
              have c1 := hown2.cellAt n (by omega)
              have c2 := hown2.cellAt m (by omega)
              have q1 := sortI_in HIN.out n
              have q2 := sortI_in HIN.out m
              have e1 : ((sortI xs).map (Value.int .i64))[n]? = some (.int .i64 ((sortI xs).getD n 0)) := by
                rw [List.getElem?_map, List.getD_eq_getElem?_getD, List.getElem?_eq_getElem (by rw [sortI_len]; exact hnl)]; rfl
              have e2 : ((sortI xs).map (Value.int .i64))[m]? = some (.int .i64 ((sortI xs).getD m 0)) := by
                rw [List.getElem?_map, List.getD_eq_getElem?_getD, List.getElem?_eq_getElem (by rw [sortI_len]; exact hml)]; rfl
              rw [e1] at c1
              rw [e2] at c2
              have hmid : midI xs (n : Int) = ((sortI xs).getD n 0 + (sortI xs).getD m 0) / 2 := by
                unfold midI; rw [Int.toNat_natCast, ← HMN.out]
              have HMID := Lib.hid hmid
              clear e1 e2 hown2 hgr HOWN hmid
              generalize (sortI xs).getD n 0 = x1 at *
              generalize (sortI xs).getD m 0 = x2 at *
              unfold TickIn at q1 q2
              have hm2 := HM2.out
              go_wp2
              go_quiet (fail)
              go_wp2
              go_ret2
              exact ⟨fun _ => by rw [HMID.out]; rfl, fun h => absurd HOK.out h, below_drewN B2 _⟩
theorem sortI_is {xs ys : List Int} (h : ys.Perm xs) (hs : ys.Pairwise (· ≤ ·)) : sortI xs = ys :=
  List.Perm.eq_of_pairwise (le := (· ≤ ·)) (fun a b _ _ h1 h2 => Int.le_antisymm h1 h2) (sortI_sorted xs) hs ((sortI_perm xs).trans h.symm)
def AdjPost (own : Int) (xs : List Int) (f : Int) (w : World) (e : Ending) (w' : World) : Prop :=
  (TickIn own → TickOk xs f → e = .returned (.tuple #[.int .i64 (midI xs f - own), .int .i64 0])) ∧ (¬ TickIn own → e = .returned (.tuple #[.int .i64 0, .int .i64 1])) ∧ (TickIn own → ¬ TickOk xs f → e = .returned (.tuple #[.int .i64 0, .int .i64 (tickE xs f)])) ∧ Below w.heap.size w w'
set_option maxHeartbeats 2000000 in
theorem adjust_any (own : Int) (xs : List Int) (f : Int) (v : Value) (w : World) (hv : IntsAt .i64 w v xs) (hm : xs.length ≤ 9223372036854775807) :
    Calls Try.prog 10 #[.int .i64 own, v, .int .i64 f] w (AdjPost own xs f w) := by
  obtain ⟨a, cap, rfl⟩ := hv.len
  have HV := Lib.hid hv
  clear hv
  by_cases hin : TickIn own
  · have HIN := Lib.hid hin
    unfold TickIn at hin
    have t1 : decide (own < -1099511627776) = false := by simp; omega
    have t2 : decide (1099511627776 < own) = false := by simp; omega
    go_enter Try.func10, Try.ntmps10
    go_wp2_with fail
    refine (midway_any xs f _ _ HV.out hm).mono ?_
    rintro e w1 ⟨h1, h2, hb⟩
    by_cases hok : TickOk xs f
    · obtain rfl := h1 hok
      have mb := midI_bd hok.2.1 f
      have HOK := Lib.hid hok
      clear h1 h2 hok
      generalize hmm : midI xs f = m at *
      have HMM := Lib.hid hmm
      clear hmm
      go_wp2
      go_ret2
      exact ⟨fun _ _ => by rw [HMM.out]; rfl, fun h => absurd HIN.out h, fun _ h => absurd HOK.out h, hb⟩
    · obtain rfl := h2 hok
      have HOK := Lib.hid hok
      have hne : (tickE xs f != 0) = true := by rw [bne_iff_ne]; exact tickE_ne _ _
      clear h1 h2 hok
      generalize hmm : tickE xs f = m at *
      have HMM := Lib.hid hmm
      clear hmm
      go_wp2
      go_ret2
      exact ⟨fun _ h => absurd h HOK.out, fun h => absurd HIN.out h, fun _ _ => by rw [HMM.out]; rfl, hb⟩
  · have HIN := Lib.hid hin
    unfold TickIn at hin
    rcases (by omega : own < -1099511627776 ∨ (-1099511627776 ≤ own ∧ 1099511627776 < own)) with g | ⟨g1, g2⟩
    · have t1 : decide (own < -1099511627776) = true := by simp; omega
      clear hin
      go_enter Try.func10, Try.ntmps10
      go_wp2
      go_ret2
      exact ⟨fun h => absurd h HIN.out, fun _ => rfl, fun h => absurd h HIN.out, Below.refl _ _⟩
    · have t1 : decide (own < -1099511627776) = false := by simp; omega
      have t2 : decide (1099511627776 < own) = true := by simp; omega
      clear hin
      go_enter Try.func10, Try.ntmps10
      go_wp2
      go_ret2
      exact ⟨fun h => absurd h HIN.out, fun _ => rfl, fun h => absurd h HIN.out, Below.refl _ _⟩
/-- a literal -/
theorem ints_new {K : IntKind} {E : TypeId} (w : World) (xs : List Int) (cs : Array Value) (hcs : cs.toList = xs.map (.int K)) (hn : cs.size = xs.length) (hm : xs.length ≤ maxLen) : IntsAt K (w.alloc (.cells cs E)) (.slice (some ⟨w.heap.size, 0, none⟩) xs.length xs.length) xs :=
  own_ints' (E := E) (base := w.heap.size) (by rw [← hcs]; exact own_new w cs xs.length (by omega) hm)
end Go.Proofs.Ytolihlnlblaihaa
