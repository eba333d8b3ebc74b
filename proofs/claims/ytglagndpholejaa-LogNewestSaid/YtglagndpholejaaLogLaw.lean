/- What putting entries into a log keeps. -/
import Derived.Test.YtglagndpholejaaLogPut
namespace Go.Proofs.Ytglagndpholejaa
open Go.ChangeShapes Go.WideShapes Go.ChangeAt Go.RowKit
set_option linter.unusedVariables false

theorem fr_congr {xs ys : List EntR} {k : Nat} (h : LogFr xs k) (e : ∀ i, i < k → ys.getD i ent0 = xs.getD i ent0) : LogFr ys k := fun i hi => by
  rw [e i hi]
  refine ⟨(h i hi).1, fun h0 => ?_⟩
  rw [e (i - 1) (by omega)]
  exact (h i hi).2 h0
theorem entD_left (ys : List EntR) (x : EntR) (i : Nat) (h : i < ys.length) : (ys ++ [x]).getD i ent0 = ys.getD i ent0 := by
  rw [List.getD_eq_getElem?_getD, List.getElem?_append_left h, ← List.getD_eq_getElem?_getD]
theorem entD_last (ys : List EntR) (x : EntR) : (ys ++ [x]).getD ys.length ent0 = x := by
  rw [List.getD_eq_getElem?_getD, List.getElem?_append_right (Nat.le_refl _)]; simp
theorem entD_take (xs : List EntR) (m i : Nat) (h : i < m) : (xs.take m).getD i ent0 = xs.getD i ent0 := by
  rw [List.getD_eq_getElem?_getD, List.getElem?_take, if_pos h, ← List.getD_eq_getElem?_getD]
theorem entD_drop1 (xs : List EntR) (i : Nat) : (xs.drop 1).getD i ent0 = xs.getD (i + 1) ent0 := by
  rw [List.getD_eq_getElem?_getD, List.getElem?_drop, ← List.getD_eq_getElem?_getD, Nat.add_comm]
theorem fr_push {ys : List EntR} {x : EntR} (h : LogFr ys ys.length) (hx : entOk x) (hs : 0 < ys.length → seqOk (ys.getD (ys.length - 1) ent0) x) : LogFr (ys ++ [x]) (ys ++ [x]).length := by
  rw [List.length_append]
  refine (fr_congr h (fun i hi => entD_left ys x i hi)).step (entD_last ys x) hx (fun h0 => ?_)
  rw [entD_left ys x _ (by omega)]; exact hs h0
theorem fr_take {xs : List EntR} (h : LogFr xs xs.length) (m : Nat) (hm : m ≤ xs.length) : LogFr (xs.take m) (xs.take m).length := by
  rw [List.length_take, Nat.min_eq_left hm]
  exact fr_congr (fun i hi => h i (by omega)) (fun i hi => entD_take xs m i hi)
theorem fr_drop1 {xs : List EntR} (h : LogFr xs xs.length) : LogFr (xs.drop 1) (xs.drop 1).length := by
  rw [List.length_drop]
  intro i hi
  rw [entD_drop1]
  refine ⟨(h (i + 1) (by omega)).1, fun h0 => ?_⟩
  have := (h (i + 1) (by omega)).2 (Nat.succ_pos i)
  rw [Nat.add_sub_cancel] at this
  rw [entD_drop1, Nat.sub_add_cancel h0]
  exact this
def sumM (xs : List EntR) : Int := (xs.map (·.2.2.2)).sum
theorem sumM_push (ys : List EntR) (x : EntR) : sumM (ys ++ [x]) = sumM ys + x.2.2.2 := by simp [sumM]
theorem sumM_nonneg {xs : List EntR} (h : LogFr xs xs.length) : ∀ k, k ≤ xs.length → 0 ≤ sumM (xs.take k) ∧ sumM (xs.take k) ≤ 9999 * (k : Int) := by
  intro k
  induction k with
  | zero => intro _; simp [sumM]
  | succ k ih =>
    intro hk
    have h1 := ih (by omega)
    have h2 := (h k (by omega)).1.2.2.2
    rw [List.take_succ_eq_append_getElem (by omega), sumM_push]
    rw [List.getD_eq_getElem?_getD, List.getElem?_eq_getElem (by omega)] at h2
    simp only [Option.getD_some] at h2
    omega
theorem sumM_drop1 {xs : List EntR} (h : LogFr xs xs.length) (h0 : 0 < xs.length) : sumM (xs.drop 1) ≤ sumM xs := by
  cases xs with
  | nil => simp at h0
  | cons x xs =>
    have h2 := (h 0 h0).1.2.2.2
    simp only [List.getD_cons_zero] at h2
    simp only [List.drop_succ_cons, List.drop_zero, sumM, List.map_cons, List.sum_cons]
    omega
theorem split_last {xs : List EntR} {m : Nat} (hm : xs.length = m + 1) : xs = xs.take m ++ [xs.getD m ent0] := by
  have := List.take_append_drop m xs
  rw [List.drop_eq_getElem_cons (by omega), List.drop_eq_nil_of_le (by omega)] at this
  rw [List.getD_eq_getElem?_getD, List.getElem?_eq_getElem (by omega)]
  exact this.symm
structure Inv (O : List EntR) (p : Nat) : Prop where
  ok : LogOk O
  le : sumM O ≤ p
  alt : O.length = 32 ∨ sumM O = p ∨ 9999 < p
structure Next (O N : List EntR) (p : Nat) (f l c : Int) : Prop where
  inv : Inv N (p + 1)
  pos : 0 < N.length
  lane : (N.getD (N.length - 1) ent0).2.1 = l
  code : (N.getD (N.length - 1) ent0).2.2.1 = c
  frame : (N.getD (N.length - 1) ent0).1 ≤ f
  front : N.length = O.length + 1 → N.take O.length = O
  len : N.length = O.length ∨ N.length = O.length + 1
theorem inv_next {O : List EntR} {p : Nat} {f l c : Int} (h : Inv O p) (hp : putOk O f l c) : Next O (putL O f l c) p f l c := by
  obtain ⟨hlo, heo, hst⟩ := hp
  obtain ⟨h32, hfr⟩ := hlo
  have hle := h.le; have halt := h.alt
  unfold putL
  by_cases hs : 0 < O.length ∧ sameAs (O.getD (O.length - 1) ent0) l c
  · rw [if_pos hs]
    obtain ⟨h0, hsl, hsc⟩ := hs
    obtain ⟨m, hm⟩ : ∃ m, O.length = m + 1 := ⟨O.length - 1, by omega⟩
    have hf1 := hst h0
    have hlast := hfr m (by omega)
    have hsp := split_last hm
    rw [hm, Nat.add_sub_cancel] at hsl hsc hf1 ⊢
    obtain ⟨last, hL⟩ : ∃ x, O.getD m ent0 = x := ⟨_, rfl⟩
    rw [hL] at hsl hsc hf1 hlast hsp ⊢
    obtain ⟨pf, pl, pc, pm⟩ := last
    simp only at hsl hsc hf1
    subst hsl hsc
    have hpm := hlast.1.2.2.2
    simp only at hpm
    have hsum : sumM O = sumM (O.take m) + pm := by
      have := sumM_push (O.take m) (pf, pl, pc, pm); rw [← hsp] at this; exact this
    have hnn := (sumM_nonneg hfr m (by omega)).1
    have hl1 : (O.take m).length = m := by rw [List.length_take]; omega
    have hgl := entD_last (O.take m) (pf, pl, pc, min 9999 (pm + 1))
    rw [hl1] at hgl
    have hlen : (O.take m ++ [((pf, pl, pc, min 9999 (pm + 1)) : EntR)]).length = m + 1 := by rw [List.length_append, hl1]; rfl
    have hE : entOk (pf, pl, pc, min 9999 (pm + 1)) := ⟨hlast.1.1, hlast.1.2.1, hlast.1.2.2.1, by simp only; omega⟩
    refine ⟨⟨⟨by rw [hlen]; omega, fr_push (fr_take hfr m (by omega)) hE (fun h1 => ?_)⟩, ?_, ?_⟩, by rw [hlen]; omega, ?_, ?_, ?_, ?_, by rw [hlen]; omega⟩
    · rw [hl1] at h1 ⊢
      rw [entD_take _ _ _ (by omega)]
      exact hlast.2 h1
    · rw [sumM_push]; simp only; omega
    · rw [sumM_push, hlen]
      simp only
      rcases halt with h | h | h
      · left; omega
      · by_cases hx : pm < 9999
        · right; left; omega
        · right; right; omega
      · right; right; omega
    · rw [hlen, Nat.add_sub_cancel, hgl]
    · rw [hlen, Nat.add_sub_cancel, hgl]
    · rw [hlen, Nat.add_sub_cancel, hgl]; exact hf1
    · rw [hlen]; omega
  · rw [if_neg hs]
    by_cases hfull : O.length = 32
    · rw [if_pos hfull]
      have hl1 : (O.drop 1).length = 31 := by rw [List.length_drop]; omega
      have hlen : (O.drop 1 ++ [((f, l, c, 1) : EntR)]).length = 32 := by rw [List.length_append, hl1]; rfl
      have hgl := entD_last (O.drop 1) (f, l, c, 1)
      rw [hl1] at hgl
      refine ⟨⟨⟨by rw [hlen]; omega, fr_push (fr_drop1 hfr) heo (fun h1 => ?_)⟩, ?_, .inl hlen⟩, by rw [hlen]; omega, ?_, ?_, ?_, ?_, by rw [hlen]; omega⟩
      · rw [hl1, entD_drop1]
        have h2 := hst (by omega)
        rw [hfull] at h2
        refine ⟨h2, fun h3 => hs ⟨by omega, ?_⟩⟩
        rw [hfull]; exact ⟨h3.1.symm, h3.2.symm⟩
      · have := sumM_drop1 hfr (by omega)
        rw [sumM_push]; simp only; omega
      · rw [hlen]; show ((O.drop 1 ++ [((f, l, c, 1) : EntR)]).getD 31 ent0).2.1 = l; rw [hgl]
      · rw [hlen]; show ((O.drop 1 ++ [((f, l, c, 1) : EntR)]).getD 31 ent0).2.2.1 = c; rw [hgl]
      · rw [hlen]; show ((O.drop 1 ++ [((f, l, c, 1) : EntR)]).getD 31 ent0).1 ≤ f; rw [hgl]; exact Int.le_refl _
      · rw [hlen]; omega
    · rw [if_neg hfull]
      have hlen : (O ++ [((f, l, c, 1) : EntR)]).length = O.length + 1 := by rw [List.length_append]; rfl
      have hgl := entD_last O (f, l, c, 1)
      refine ⟨⟨⟨by rw [hlen]; omega, fr_push hfr heo (fun h1 => ?_)⟩, ?_, ?_⟩, by rw [hlen]; omega, ?_, ?_, ?_, ?_, by rw [hlen]; omega⟩
      · exact ⟨hst h1, fun h3 => hs ⟨h1, h3.1.symm, h3.2.symm⟩⟩
      · rw [sumM_push]; simp only; omega
      · rw [sumM_push, hlen]
        simp only
        rcases halt with h | h | h
        · omega
        · right; left; omega
        · right; right; omega
      · rw [hlen, Nat.add_sub_cancel, hgl]
      · rw [hlen, Nat.add_sub_cancel, hgl]
      · rw [hlen, Nat.add_sub_cancel, hgl]; exact Int.le_refl _
      · intro _; rw [List.take_left']; rfl
theorem recs_take {w : World} {a : Option Addr} {n cap : Nat} {xs : List EntR} (h : RecsAt 4 entLay w (.slice a n cap) xs) (m : Nat) (hm : m ≤ n) : RecsAt 4 entLay w (.slice a m cap) (xs.take m) := by
  rcases h with ⟨rfl, h | ⟨x, c, h⟩⟩ | ⟨h0, b, off, c, h, h1, h2, h3⟩
  · cases h
    obtain rfl : m = 0 := by omega
    exact .inl ⟨rfl, .inl rfl⟩
  · cases h
    obtain rfl : m = 0 := by omega
    exact .inl ⟨rfl, .inr ⟨x, cap, rfl⟩⟩
  · cases h
    have hl : (xs.take m).length = m := by rw [List.length_take]; omega
    by_cases hm0 : m = 0
    · subst hm0; exact .inl ⟨by simp, .inr ⟨_, cap, rfl⟩⟩
    · refine .inr ⟨by omega, b, off, cap, by rw [hl], by omega, h2, fun i y hy j hj => ?_⟩
      rw [List.getElem?_take] at hy
      split at hy
      · exact h3 i y hy j hj
      · cases hy

end Go.Proofs.Ytglagndpholejaa
