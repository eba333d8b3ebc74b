/- What slices.Grow (of nil) and slices.Concat (of two lists) compute. -/
import Derived.Test.YtiocgmioijcjhaaRecs
import Derived.Lib.Hide
import Derived.Lib.AppendZeros
import Derived.Laws.AppendOwn
import Derived.Laws.AppendOwnNone
import Derived.OwnWalk
namespace Go.Proofs.Ytiocgmioijcjhaa
open Go.ChangeShapes Go.WideShapes Go.ChangeAt Go.RowKit
set_option linter.unusedVariables false

/-- what an append reads: nil, or cells -/
def SrcAt (w : World) (s : Value) (size m : Nat) (news : List Value) : Prop :=
  (∃ c, s = .slice none 0 c ∧ c = 0 ∧ m = 0 ∧ news = []) ∨ ∃ ad c, s = .slice (some ad) m c ∧ news.length = m * size ∧ ∀ j u, news[j]? = some u → w.cell? (ad.add j) = some u
theorem src_ints {K : IntKind} {w : World} {v : Value} {xs : List Int} (h : IntsAt K w v xs) : SrcAt w v 1 xs.length (xs.map (.int K)) := by
  rcases h with ⟨rfl, rfl | ⟨a, cap, rfl⟩⟩ | ⟨h0, b, off, cap, rfl, h1, h2, h3⟩
  · exact .inl ⟨0, rfl, rfl, rfl, rfl⟩
  · exact .inr ⟨a, cap, rfl, rfl, by simp⟩
  · refine .inr ⟨_, cap, rfl, by simp, fun j u hj => ?_⟩
    rw [List.getElem?_map] at hj
    by_cases hl : j < xs.length
    · have h4 := h3 j hl
      rw [List.getElem?_eq_getElem hl] at hj
      rw [List.getD_eq_getElem?_getD, List.getElem?_eq_getElem hl] at h4
      simp only [Option.map_some, Option.some.injEq] at hj
      subst hj
      cases j <;> simpa [Addr.add] using h4
    · rw [List.getElem?_eq_none (by omega)] at hj
      simp at hj
theorem src_recs {α : Type} {k : Nat} {lay : α → List Value} {w : World} {v : Value} {xs : List α} (h : RecsAt k lay w v xs) (hk : 0 < k) (hl : ∀ y, (lay y).length = k) : SrcAt w v k xs.length (xs.flatMap lay) := by
  have hlen : ∀ l : List α, (l.flatMap lay).length = l.length * k := by
    intro l
    induction l with
    | nil => simp
    | cons x l ih => simp [List.flatMap_cons, hl, ih, Nat.succ_mul]; omega
  rcases h with ⟨rfl, rfl | ⟨a, cap, rfl⟩⟩ | ⟨h0, b, off, cap, rfl, h1, h2, h3⟩
  · exact .inl ⟨0, rfl, rfl, rfl, rfl⟩
  · exact .inr ⟨a, cap, rfl, by simp, by simp⟩
  · refine .inr ⟨_, cap, rfl, hlen xs, fun j u hj => ?_⟩
    have hj2 : j < xs.length * k := by
      rcases Nat.lt_or_ge j (xs.flatMap lay).length with h | h
      · rw [hlen] at h; exact h
      · rw [List.getElem?_eq_none h] at hj; simp at hj
    have hi : j / k < xs.length := Nat.div_lt_of_lt_mul (by rw [Nat.mul_comm]; exact hj2)
    have e : j / k * k + j % k = j := Nat.div_add_mod' j k
    have h4 := flatMap_at hl (List.getElem?_eq_getElem hi) (Nat.mod_lt j hk)
    rw [e, hj] at h4
    have h5 := h3 _ _ (List.getElem?_eq_getElem hi) _ (Nat.mod_lt j hk)
    rw [Nat.add_assoc, e, ← h4] at h5
    rw [← h5]
    congr 1
    simp only [Addr.add]
    by_cases ha : j = 0 <;> simp [ha]
theorem SrcAt.below {w w' : World} {s : Value} {size m B : Nat} {news : List Value} (h : SrcAt w s size m news) (hb : Below B w w') (hB : w.heap.size ≤ B) : SrcAt w' s size m news := by
  rcases h with h | ⟨ad, c, e, hl, hc⟩
  · exact .inl h
  · refine .inr ⟨ad, c, e, hl, fun j u hj => ?_⟩
    have := hc j u hj
    rw [hb.cell (Nat.lt_of_lt_of_le (World.block_lt_of_cell? _ _ this) hB)]
    exact this
theorem SrcAt.form {w : World} {s : Value} {size m : Nat} {news : List Value} (h : SrcAt w s size m news) : ∃ a c, s = .slice a m c := by
  rcases h with ⟨c, rfl, rfl, rfl, -⟩ | ⟨ad, c, rfl, -⟩
  · exact ⟨_, _, rfl⟩
  · exact ⟨_, _, rfl⟩
/-- append onto a row of the call's own, whatever the source -/
theorem wpList_append_src {P : Program} {w : World} {ops : Array Oper} {rest : List Oper} {o : Oper} {a : Act} {Q : Exit → Act → World → Prop} (hgd : o.guard = none) (s x : Operand) (t : TypeId)
    (ho : o.op = .call { callee := .builtin .append, args := #[s, x], argTypes := #[t, t] })
    (base : Nat) (e : TypeId) (i : TypeInfo) (z : Value) (size bytes : Nat) (ht : P.underlying t = some (.slice e)) (hi : P.info? e = some i) (hz : i.zero = some z)
    (hsize : i.size = size) (hby : i.bytes = bytes) (hzs : z.cells.size = size) (hsz : 0 < size)
    (v : Value) (n : Nat) (xs : List Value) (hs : a.eval s = v) (hown : w.ownsRow base e size v n xs)
    (sv : Value) (m : Nat) (news : List Value) (hx : a.eval x = sv) (hsrc : SrcAt w sv size m news) (h1 : ∀ u ∈ news, u.oneCell' = true)
    (h63 : n + m ≤ maxLen) (hbytes : (n + m) * bytes ≤ 140737488355328) (hbase : base ≤ w.heap.size)
    (h : ∀ v' w', w'.ownsRow base e size v' (n + m) (xs ++ news) → w.grownBy w' v.ownBlock → wpList P ops Q rest (a.put o.dst v') w') : wpList P ops Q (o :: rest) a w := by
  rcases hsrc with ⟨c, rfl, rfl, rfl, rfl⟩ | ⟨ad, c, rfl, hl, hc⟩
  · exact wpList_append_own_none hgd s x t ho base e i size ht hi v n xs hs hown hx (h v w (by simpa using hown) (World.grownBy.refl w _))
  · exact wpList_append_own w hgd s x t ho base e i z size bytes ht hi hz hsize hby hzs hsz v n xs hs hown ad m c news hx hl hc h1 h63 hbytes hbase (fun v' w' a b _ => h v' w' a b)
/-- append where there is room, whatever the source -/
theorem wpList_append_room_src {P : Program} {w : World} {ops : Array Oper} {rest : List Oper} {o : Oper} {a : Act} {Q : Exit → Act → World → Prop} (hgd : o.guard = none) (s x : Operand) (t : TypeId)
    (ho : o.op = .call { callee := .builtin .append, args := #[s, x], argTypes := #[t, t] })
    (base : Nat) (e : TypeId) (i : TypeInfo) (size : Nat) (ht : P.underlying t = some (.slice e)) (hi : P.info? e = some i) (hsize : i.size = size)
    (g k cap : Nat) (xs : List Value) (hs : a.eval s = .slice (some ⟨g, 0, none⟩) k cap) (hown : w.ownsRow base e size (.slice (some ⟨g, 0, none⟩) k cap) k xs)
    (sv : Value) (m : Nat) (news : List Value) (hx : a.eval x = sv) (hsrc : SrcAt w sv size m news) (h1 : ∀ u ∈ news, u.oneCell' = true) (b1 : k + m ≤ cap)
    (h : ∀ w', w'.ownsRow base e size (.slice (some ⟨g, 0, none⟩) (k + m) cap) (k + m) (xs ++ news) → w.grownBy w' (some g) → wpList P ops Q rest (a.put o.dst (.slice (some ⟨g, 0, none⟩) (k + m) cap)) w') : wpList P ops Q (o :: rest) a w := by
  rcases hsrc with ⟨c, rfl, rfl, rfl, rfl⟩ | ⟨ad, c, rfl, hl, hc⟩
  · exact wpList_append_fits_any w hgd s x t ho base e i size ht hi hsize g k cap xs hs hown none 0 0 [] hx (by simp) (fun _ => ⟨rfl, rfl⟩) (by intro ad h; cases h) h1 b1 h
  · exact wpList_append_fits w hgd s x t ho base e i size ht hi hsize g k cap xs hs hown ad m c news hx hl hc h1 b1 h
def GrewPost (w : World) (E : TypeId) (k n : Nat) (e : Ending) (w' : World) : Prop := ∃ v, e = .returned v ∧ ((n = 0 ∧ v = .slice none 0 0) ∨ ∃ g cap, v = .slice (some ⟨g, 0, none⟩) 0 cap ∧ n ≤ cap ∧ cap ≤ 9223372036854775807) ∧ w'.ownsRow w.heap.size E k v 0 [] ∧ Below w.heap.size w w'
def CatPost (w : World) (E : TypeId) (k n : Nat) (cs : List Value) (e : Ending) (w' : World) : Prop := ∃ v, e = .returned v ∧ w'.ownsRow w.heap.size E k v n cs ∧ Below w.heap.size w w'
theorem grew_own {w : World} {E : TypeId} {k n : Nat} {z : Value} {old : Nat} (hz : z.cells.size = k) (hn : n ≤ maxLen) :
    (w.drew.alloc (.cells (Builtin.zeroCells z.cells n ++ Builtin.zeroCells z.cells (grownCap w n old E - n)) E)).ownsRow w.heap.size E k (.slice (some ⟨w.heap.size, 0, none⟩) 0 (grownCap w n old E)) 0 [] := by
  have h1 := grownCap_ge w n old E
  refine ⟨by simp, .inr ⟨w.heap.size, _, _, rfl, Nat.le_refl _, heap_alloc_new w.drew _, Nat.zero_le _, grownCap_le_maxLen w n old E hn, ?_, by simp⟩⟩
  rw [Array.size_append, size_zeroCells, size_zeroCells, hz, ← Nat.add_mul]
  congr 1
  omega

end Go.Proofs.Ytiocgmioijcjhaa
