/- What cuts.Dual computes: a tree in new memory. -/
import Derived.Test.YtiocgmioijcjhaaGateFail
import Derived.Deep.RegionHeld3
import Derived.Deep.DeepCutAuto
namespace Go.Proofs.Ytiocgmioijcjhaa
open Go.ChangeShapes Go.WideShapes Go.ChangeAt Go.RowKit
set_option linter.unusedVariables false

abbrev TGate : TypeId := 30
abbrev TInt : TypeId := 3
def dualG (g : GateR) : GateR := if g.1 = 2 then (3, g.2.1, g.2.2) else if g.1 = 3 then (2, g.2.1, g.2.2) else if g.1 = 4 then (4, (g.2.2.length : Int) + 1 - g.2.1, g.2.2) else g
def dualL (ts : List GateR) : List GateR := ts.map dualG
/-- gates with the slice of their inputs -/
abbrev GateV := GateR × Value
def gvLay (x : GateV) : List Value := [.int .i64 x.1.1, .int .i64 x.1.2.1, x.2]
theorem gvLay_len (x : GateV) : (gvLay x).length = 3 := rfl
theorem gv_len (xs : List GateV) : (xs.flatMap gvLay).length = xs.length * 3 := by
  induction xs with
  | nil => rfl
  | cons x xs ih => rw [List.flatMap_cons, List.length_append, ih, List.length_cons]; show 3 + _ = _; omega
/-- a tree in memory of the call's own -/
structure OwnTree (W : World) (base : Nat) (v : Value) (gs : List GateV) : Prop where
  O : W.ownsRow base TGate 3 v gs.length (gs.flatMap gvLay)
  I : ∀ x ∈ gs, W.ownsRow base TInt 1 x.2 x.1.2.2.length (x.1.2.2.map (.int .i64))
theorem own_gen_grown {W W' : World} {base k n : Nat} {E : TypeId} {v : Value} {xs : List Value} {row : Option Nat} (h : W.ownsRow base E k v n xs) (hg : W.grownBy W' row) (hne : ∀ k, v.ownBlock = some k → row ≠ some k) : W'.ownsRow base E k v n xs := by
  refine ⟨h.1, h.2.imp id fun ⟨g', cap, cur, e1, e2, e3, e4⟩ => ⟨g', cap, cur, e1, e2, ?_, e4⟩⟩
  subst e1
  rw [hg.block g' (Array.getElem?_eq_some_iff.1 e3).1 (fun e => hne g' rfl e.symm)]; exact e3
theorem own_gen_cells {W : World} {base k n j : Nat} {E : TypeId} {v : Value} {xs : List Value} (h : W.ownsRow base E k v n xs) (e : v.ownBlock = some j) : ∃ cur, W.heap[j]? = some (.cells cur E (0, 0)) := by
  rcases h.2 with ⟨rfl, -⟩ | ⟨g, cap, cur, rfl, -, e3, -⟩
  · simp [Value.ownBlock] at e
  · have : g = j := by simpa [Value.ownBlock] using e
    subst this; exact ⟨cur, e3⟩
theorem own_types {W : World} {b1 b2 k1 k2 n1 n2 j : Nat} {E1 E2 : TypeId} {v u : Value} {xs ys : List Value} (h : W.ownsRow b1 E1 k1 v n1 xs) (h2 : W.ownsRow b2 E2 k2 u n2 ys) (hne : E1 ≠ E2) (e1 : v.ownBlock = some j) (e2 : u.ownBlock = some j) : False := by
  obtain ⟨c1, a1⟩ := own_gen_cells h e1
  obtain ⟨c2, a2⟩ := own_gen_cells h2 e2
  rw [a1] at a2
  injection a2 with a2
  injection a2 with _ a2
  exact hne a2
theorem own_gen_slice {W : World} {base k n : Nat} {E : TypeId} {v : Value} {xs : List Value} (h : W.ownsRow base E k v n xs) : ∃ a m c, v = .slice a m c := by
  rcases h.2 with ⟨rfl, -⟩ | ⟨g, cap, cur, rfl, -⟩
  · exact ⟨_, _, _, rfl⟩
  · exact ⟨_, _, _, rfl⟩
theorem TGate_ne : TGate ≠ TInt := by decide
section
variable {W W' : World} {base b : Nat} {v v' : Value} {gs : List GateV}
theorem OwnTree.call (h : OwnTree W base v gs) (hb : Below W.heap.size W W') : OwnTree W' base v gs := ⟨own_later h.O hb (Nat.le_refl _), fun x hx => own_later (h.I x hx) hb (Nat.le_refl _)⟩
/-- a block beyond its own may turn -/
theorem OwnTree.far {w0 : World} (h0 : OwnTree w0 base v gs) (h : OwnTree W base v gs) (hb : w0.heap.size ≤ b) (hg : W.grownBy W' (some b)) : OwnTree W' base v gs :=
  ⟨own_gen_grown h.O hg (fun k e e' => by injection e' with e'; have := (h0.O.lt k e).2; omega), fun x hx => own_gen_grown (h.I x hx) hg (fun k e e' => by injection e' with e'; have := ((h0.I x hx).lt k e).2; omega)⟩
theorem OwnTree.push {x : GateV} (h : OwnTree W base v gs) (hx : W.ownsRow base TInt 1 x.2 x.1.2.2.length (x.1.2.2.map (.int .i64))) (ho : W'.ownsRow base TGate 3 v' (gs.length + 1) (gs.flatMap gvLay ++ gvLay x)) (hg : W.grownBy W' v.ownBlock) : OwnTree W' base v' (gs ++ [x]) := by
  refine ⟨by rw [List.flatMap_append, List.length_append]; simpa using ho, fun y hy => ?_⟩
  have hy2 : W.ownsRow base TInt 1 y.2 y.1.2.2.length (y.1.2.2.map (.int .i64)) := by
    rcases List.mem_append.1 hy with hy | hy
    · exact h.I y hy
    · obtain rfl := List.mem_singleton.1 hy; exact hx
  exact own_gen_grown hy2 hg (fun k e e' => own_types h.O hy2 TGate_ne e' e)
theorem OwnTree.gates (h : OwnTree W base v gs) (hl : ∀ x ∈ gs, x.1.2.2.length ≤ 281474976710656) (hm : gs.length ≤ 281474976710656) : GatesAt W v (gs.map (·.1)) := by
  by_cases h0 : gs = []
  · subst h0
    rcases h.O.2 with ⟨rfl, -⟩ | ⟨g, cap, cur, rfl, -⟩
    · exact .inl ⟨rfl, .inl rfl⟩
    · exact .inl ⟨rfl, .inr ⟨_, _, rfl⟩⟩
  · rcases h.O.2 with ⟨-, h1⟩ | ⟨g, cap, cur, rfl, h1, h2, h3, h4, h5⟩
    · exact absurd (List.eq_nil_of_length_eq_zero h1) h0
    · unfold maxLen at h4
      refine .inr ⟨by rw [List.length_map]; exact List.length_pos_iff.2 h0, g, 0, cap, by rw [List.length_map], by rw [List.length_map]; exact h3, by omega, fun i x hx => ?_⟩
      rw [List.getElem?_map] at hx
      obtain ⟨y, hy, rfl⟩ := Option.map_eq_some_iff.1 hx
      have hi : i < gs.length := (List.getElem?_eq_some_iff.1 hy).1
      have hc : ∀ j, j < 3 → W.cell? ⟨g, 0 + (i * 3 + j), none⟩ = (gvLay y)[j]? := fun j hj => by
        have e := flatMap_at gvLay_len hy hj
        rw [Nat.zero_add, h.O.cellAt (i * 3 + j) (by omega), e]
      have hm := List.mem_of_getElem? hy
      exact ⟨hc 0 (by decide), hc 1 (by decide), y.2, hc 2 (by decide), own_ints' (h.I y hm), hl y hm⟩
end
theorem infoG : (Try.prog.info? 30).map (fun i => (i.zero, i.size, i.bytes)) = some (some (.agg #[.int .i64 0, .int .i64 0, .slice none 0 0]), 3, 40) := by kernel_rfl

end Go.Proofs.Ytiocgmioijcjhaa
