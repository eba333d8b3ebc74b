/- A slice of structs that came in, with the reach of the slices in its elements; gates read so. -/
import Derived.Test.YtiocgmioijcjhaaOpenS
import Derived.Test.YtiocgmioijcjhaaGateLaw
namespace Go.Proofs.Ytiocgmioijcjhaa
open Go.ChangeShapes Go.WideShapes Go.ChangeAt Go.RowKit
set_option linter.unusedVariables false

namespace Open
section
variable {H : Type} {enc : TypeId × Value → H} {P : Program} {w : World} {base : Nat} {held : Bool}
theorem weights_mem_all {e : TypeId} : ∀ {ds : List (DataW H)} {j : Nat} {d : DataW H}, ds[j]? = some d → ∀ n ∈ d.weights P e, n ∈ DataW.weightsAll P e ds
  | [], j, d, hd, n, hn => by simp at hd
  | d0 :: ds, 0, d, hd, n, hn => by
    simp only [List.getElem?_cons_zero, Option.some.injEq] at hd
    subst hd
    simp only [DataW.weightsAll, List.mem_append]
    exact .inl hn
  | d0 :: ds, j + 1, d, hd, n, hn => by
    simp only [List.getElem?_cons_succ] at hd
    simp only [DataW.weightsAll, List.mem_append]
    exact .inr (weights_mem_all hd n hn)
theorem leaf_recsS {α : Type} [Inhabited α] {t e : TypeId} {c : Value} {ts : List TypeId} (k : Nat) (lay : α → List Value) (ok : α → Prop) (n : Nat) (ht : P.underlying t = some (.slice e)) (hfl : flatS P n e = some ts) (hc : P.cellsOf e = ts.length) (hk : ts.length = k)
    (dec : ∀ r, LeafsS enc P w base (fun _ => true) held ts r → ∃ x, r = lay x ∧ ok x)
    (h : LeafS enc P w base (fun _ => true) held t [c]) :
    ∃ a len cap xs, c = .slice a len cap ∧ IsRecs k lay ok w a len cap xs := by
  obtain ⟨m, y, h, hw⟩ := h
  rcases DataW.trod_slice ht h with ⟨hcs, _⟩ | ⟨a, len, cap, elems, rest, m', _, hcs, hx, hb, hl, hm, hlen, hel, hsp, _⟩
  · simp only [List.cons.injEq, and_true] at hcs
    exact ⟨_, _, _, [], hcs, .inl ⟨rfl, rfl, rfl, rfl⟩⟩
  · simp only [List.cons.injEq, and_true] at hcs
    obtain ⟨hrl, hr⟩ := hsp rfl
    have hy1 : y.1 = .slice (elems.map (·.1)) (rest.map (·.1)) := congrArg Prod.fst hx
    rw [hy1] at hw
    simp only [DataW.weights, ht] at hw
    have each0 : ∀ i, i < cap → ∃ r, (w.cells? base (a.add (i * ts.length)) ts.length = some r) ∧ LeafS enc P w base (fun _ => true) held e r := by
      intro i hi
      have h1 : ∃ z, (w.cells? base (a.add (i * P.cellsOf e)) (P.cellsOf e)).bind (DataW.trod enc P w base (fun _ => true) held m' e) = some z ∧ ∀ k ∈ z.1.weights P e, k ≤ reachBytes := by
        by_cases h2 : i < len
        · refine ⟨elems[i]'(by omega), by rw [hel i h2, List.getElem?_eq_getElem (by omega)], fun q hq => hw q ?_⟩
          refine List.mem_cons_of_mem _ (List.mem_append_left _ (weights_mem_all (j := i) (d := (elems[i]'(by omega)).1) ?_ q hq))
          rw [List.getElem?_map, List.getElem?_eq_getElem (by omega)]; rfl
        · have h3 := hr (i - len) (by omega)
          rw [show len + (i - len) = i by omega, List.getElem?_eq_getElem (by omega)] at h3
          refine ⟨_, h3, fun q hq => hw q ?_⟩
          refine List.mem_cons_of_mem _ (List.mem_append_right _ (weights_mem_all (j := i - len) (d := (rest[i - len]'(by omega)).1) ?_ q hq))
          rw [List.getElem?_map, List.getElem?_eq_getElem (by omega)]; rfl
      obtain ⟨z, h1, hz⟩ := h1
      rw [hc, Option.bind_eq_some_iff] at h1
      obtain ⟨r, h2, h3⟩ := h1
      exact ⟨r, h2, m', z, h3, hz⟩
    have each : ∀ i : Nat, ∃ y : α, i < cap → ok y ∧ ∀ j, j < k → w.cell? ((a.add (i * k)).add j) = (lay y)[j]? := by
      intro i
      by_cases hi : i < cap
      · obtain ⟨r, h2, h3⟩ := each0 i hi
        have h4 := World.cells?_some h2
        obtain ⟨z, rfl, h5⟩ := dec r (leafsS_of n e ts r hfl h4.2.1 h3)
        refine ⟨z, fun _ => ⟨h5, fun j hj => ?_⟩⟩
        rw [← hk] at hj ⊢
        exact h4.2.2 j hj
      · exact ⟨default, fun h => absurd h hi⟩
    refine ⟨_, _, _, (List.range cap).map (fun i => Classical.choose (each i)), hcs, .inr ⟨a, rfl, hl, hm, by simp, fun i y hy => ?_⟩⟩
    rw [List.getElem?_map] at hy
    by_cases hi : i < cap
    · rw [List.getElem?_range hi] at hy
      simp only [Option.map_some, Option.some.injEq] at hy
      subst hy
      exact Classical.choose_spec (each i) hi
    · rw [List.getElem?_eq_none (by simp; omega)] at hy
      simp at hy
end
end Open
def gateFitS (w : World) (x : RawG) : Prop := gateFit w x ∧ x.2.2.2.1 ≤ 281474976710656
theorem gate_decS {H : Type} {enc : TypeId × Value → H} {w : World} {base : Nat} {held : Bool} (r : List Value) (h : Open.LeafsS enc Try.prog w base (fun _ => true) held [3, 3, 28] r) : ∃ x, r = rawLay x ∧ gateFitS w x := by
  obtain ⟨c0, r0, rfl, y0, yw0, h0⟩ := Open.leafsS_cons h
  obtain ⟨c1, r1, rfl, y1, yw1, h1⟩ := Open.leafsS_cons h0
  obtain ⟨c2, r2, rfl, y2, yw2, h2⟩ := Open.leafsS_cons h1
  obtain rfl := Open.leafsS_nil h2
  obtain ⟨a, rfl, ha⟩ := Open.leaf_int Try.underlying3 y0
  obtain ⟨b, rfl, hb⟩ := Open.leaf_int Try.underlying3 y1
  obtain ⟨p, len, cap, zs, rfl, hz⟩ := Open.leaf_ints Try.underlying28 Try.underlying3 (by kernel_rfl) y2
  have Q := Open.cap_leS (B := 8) Try.underlying28 (by kernel_rfl) yw2
  exact ⟨(a, b, p, len, cap, zs), rfl, ⟨hz, bounds_i64 ha, bounds_i64 hb⟩, by show len ≤ _; omega⟩
theorem raw_trees {w : World} {a : Option Addr} {len cap : Nat} {xs : List RawG} (h : Open.IsRecs 3 rawLay (gateFitS w) w a len cap xs) : GatesAt w (.slice a len cap) ((xs.take len).map rawG) ∧ ((xs.take len).map rawG).length = len := by
  have h1 : Open.IsRecs 3 rawLay (gateFit w) w a len cap xs := by
    rcases h with h | ⟨x, e, hl, hm, hz, hc⟩
    · exact .inl h
    · exact .inr ⟨x, e, hl, hm, hz, fun i y hy => ⟨(hc i y hy).1.1, (hc i y hy).2⟩⟩
  refine raw_gates h1 fun x hx => ?_
  rcases h with ⟨-, -, -, rfl⟩ | ⟨x', e, hl, hm, hz, hc⟩
  · simp at hx
  · obtain ⟨i, hi⟩ := List.getElem?_of_mem hx
    exact (hc i x hi).1.2
end Go.Proofs.Ytiocgmioijcjhaa
