/- The plain laws of trees: the dual tree, what is read of a tree that came in, the tree 'either'. -/
import Derived.Test.YtiocgmioijcjhaaGateDual2
namespace Go.Proofs.Ytiocgmioijcjhaa
open Go.ChangeShapes Go.WideShapes Go.ChangeAt Go.RowKit
set_option linter.unusedVariables false

/-- a gate as it came in -/
abbrev RawG := Int × Int × Option Addr × Nat × Nat × List Int
def rawLay (x : RawG) : List Value := [.int .i64 x.1, .int .i64 x.2.1, .slice x.2.2.1 x.2.2.2.1 x.2.2.2.2.1]
def gateFit (w : World) (x : RawG) : Prop := Open.IsRow .i64 w x.2.2.1 x.2.2.2.1 x.2.2.2.2.1 x.2.2.2.2.2 ∧ (-9223372036854775808 ≤ x.1 ∧ x.1 ≤ 9223372036854775807) ∧ (-9223372036854775808 ≤ x.2.1 ∧ x.2.1 ≤ 9223372036854775807)
def rawG (x : RawG) : GateR := (x.1, x.2.1, x.2.2.2.2.2.take x.2.2.2.1)
theorem rawLay_len (x : RawG) : (rawLay x).length = 3 := rfl
theorem gate_dec {H : Type} {enc : TypeId × Value → H} {w : World} {base : Nat} {held : Bool} (r : List Value) (h : Open.Leafs enc Try.prog w base (fun _ => true) held [3, 3, 28] r) : ∃ x, r = rawLay x ∧ gateFit w x := by
  obtain ⟨c0, r0, rfl, y0, h0⟩ := Open.leafs_cons h
  obtain ⟨c1, r1, rfl, y1, h1⟩ := Open.leafs_cons h0
  obtain ⟨c2, r2, rfl, y2, h2⟩ := Open.leafs_cons h1
  obtain rfl := Open.leafs_nil h2
  obtain ⟨a, rfl, ha⟩ := Open.leaf_int Try.underlying3 y0
  obtain ⟨b, rfl, hb⟩ := Open.leaf_int Try.underlying3 y1
  obtain ⟨p, len, cap, zs, rfl, hz⟩ := Open.leaf_ints Try.underlying28 Try.underlying3 (by kernel_rfl) y2
  exact ⟨(a, b, p, len, cap, zs), rfl, hz, bounds_i64 ha, bounds_i64 hb⟩
theorem raw_gates {w : World} {a : Option Addr} {len cap : Nat} {xs : List RawG} (h : Open.IsRecs 3 rawLay (gateFit w) w a len cap xs) (hr : ∀ x ∈ xs, x.2.2.2.1 ≤ 281474976710656) : GatesAt w (.slice a len cap) ((xs.take len).map rawG) ∧ ((xs.take len).map rawG).length = len := by
  rcases h with ⟨rfl, rfl, rfl, rfl⟩ | ⟨x, rfl, hl, hm, hz, hc⟩
  · exact ⟨.inl ⟨rfl, .inl rfl⟩, rfl⟩
  · have e : ((xs.take len).map rawG).length = len := by rw [List.length_map, List.length_take]; omega
    refine ⟨?_, e⟩
    by_cases h0 : len = 0
    · subst h0
      exact .inl ⟨rfl, .inr ⟨_, _, rfl⟩⟩
    · obtain ⟨y0, hy0⟩ : ∃ y, xs[0]? = some y := ⟨_, List.getElem?_eq_getElem (by omega)⟩
      have hc0 := (hc 0 y0 hy0).2 0 (by decide)
      obtain ⟨b, off, spot⟩ := x
      have h2 : spot = none := by
        have h1 : w.cell? (⟨b, off, spot⟩ : Addr) = (rawLay y0)[0]? := by simpa [Addr.add] using hc0
        have h3 : (rawLay y0)[0]? = some (.int .i64 y0.1) := rfl
        rw [h3] at h1
        simpa [Addr.add] using World.cell?_spot h1
      subst h2
      unfold maxLen at hm
      refine .inr ⟨by omega, b, off, cap, by rw [e], by omega, by omega, fun i g hg => ?_⟩
      rw [List.getElem?_map] at hg
      obtain ⟨y, hy, rfl⟩ := Option.map_eq_some_iff.1 hg
      have hi : i < len := by
        have := (List.getElem?_eq_some_iff.1 hy).1
        rw [List.length_take] at this; omega
      rw [List.getElem?_take_of_lt hi] at hy
      obtain ⟨hf, hcs⟩ := hc i y hy
      have hk : ∀ j, j < 3 → w.cell? ⟨b, off + i * 3 + j, none⟩ = (rawLay y)[j]? := fun j hj => by
        rw [← hcs j hj]
        congr 1
        unfold Addr.add
        split <;> split <;> simp_all <;> omega
      obtain ⟨h1, h2⟩ := isRow_ints hf.1
      refine ⟨hk 0 (by decide), hk 1 (by decide), _, hk 2 (by decide), h1, ?_⟩
      rw [show (rawG y).2.2 = y.2.2.2.2.2.take y.2.2.2.1 from rfl, h2]
      exact hr y (List.mem_of_getElem? hy)
/-! The dual tree. -/
theorem dualG_ok {k : Nat} {g : GateR} (h : gateOk k g) : gateOk k (dualG g) ∧ dualG (dualG g) = g := by
  obtain ⟨hk, h6, hs⟩ := h
  obtain ⟨kd, n, of⟩ := g
  simp only at h6 hs
  rcases hk with ⟨h1, h2, h3⟩ | ⟨h1 | h1, h2⟩ | ⟨h1, h2, h3⟩
  · simp only at h1 h2 h3; subst h1; exact ⟨⟨.inl ⟨rfl, h2, h3⟩, h6, hs⟩, rfl⟩
  · simp only at h1 h2; subst h1 h2; exact ⟨⟨.inr (.inl ⟨.inr rfl, rfl⟩), h6, hs⟩, rfl⟩
  · simp only at h1 h2; subst h1 h2; exact ⟨⟨.inr (.inl ⟨.inl rfl, rfl⟩), h6, hs⟩, rfl⟩
  · simp only at h1 h2 h3
    subst h1
    refine ⟨⟨.inr (.inr ⟨rfl, ?_, ?_⟩), h6, hs⟩, ?_⟩
    · show 0 ≤ (of.length : Int) + 1 - n; omega
    · show (of.length : Int) + 1 - n ≤ of.length + 1; omega
    · show ((4 : Int), (of.length : Int) + 1 - ((of.length : Int) + 1 - n), of) = (4, n, of)
      rw [show (of.length : Int) + 1 - ((of.length : Int) + 1 - n) = n by omega]
theorem dual_at {ts : List GateR} {i : Nat} : (dualL ts)[i]? = ts[i]?.map dualG := by unfold dualL; rw [List.getElem?_map]
theorem dual_len (ts : List GateR) : (dualL ts).length = ts.length := by simp [dualL]
theorem dual_ok {ts : List GateR} (h : TreeOk ts) : TreeOk (dualL ts) := by
  refine ⟨by rw [dual_len]; exact h.1, by rw [dual_len]; exact h.2.1, fun i g hg => ?_⟩
  rw [dual_at] at hg
  obtain ⟨y, hy, rfl⟩ := Option.map_eq_some_iff.1 hg
  exact (dualG_ok (h.2.2 i y hy)).1
theorem dual_dual {ts : List GateR} (h : TreeOk ts) : dualL (dualL ts) = ts := by
  apply List.ext_getElem?
  intro i
  rw [dual_at, dual_at]
  cases hi : ts[i]? with
  | none => rfl
  | some g => simp only [Option.map_some]; rw [(dualG_ok (h.2.2 i g hi)).2]
theorem cnt_not {prev prev' : List Bool} {of : List Int} (h : ∀ k ∈ of, prev'.getD k.toNat false = !prev.getD k.toNat false) : cntF prev' of + cntF prev of = of.length := by
  induction of with
  | nil => rfl
  | cons x of ih =>
    have h1 := ih (fun k hk => h k (List.mem_cons_of_mem _ hk))
    have h2 := h x (List.mem_cons_self ..)
    unfold cntF at h1 ⊢
    rw [List.countP_cons, List.countP_cons, List.length_cons, h2]
    generalize prev.getD x.toNat false = b
    cases b
    · show List.countP _ of + 1 + (List.countP _ of + 0) = of.length + 1
      omega
    · show List.countP _ of + 0 + (List.countP _ of + 1) = of.length + 1
      omega
theorem fail_dual {ts : List GateR} {q : Nat} (h : TreeOk ts) (hq : q < 256) : ∀ k, k ≤ ts.length → ∀ j, j < k → (failK (dualL ts) (255 - q) k).getD j false = !(failK ts q k).getD j false := by
  intro k
  induction k with
  | zero => intro _ j hj; omega
  | succ k ih =>
    intro hk j hj
    have l1 := failK_len (dualL ts) (255 - q) k
    have l2 := failK_len ts q k
    obtain ⟨g, hg⟩ : ∃ g, ts[k]? = some g := ⟨_, List.getElem?_eq_getElem (by omega)⟩
    have hgd : ts.getD k gate0 = g := by rw [List.getD_eq_getElem?_getD, hg]; rfl
    have hdd : (dualL ts).getD k gate0 = dualG g := by rw [List.getD_eq_getElem?_getD, dual_at, hg]; rfl
    have hgo := h.2.2 k g hg
    rw [failK, failK, hgd, hdd]
    by_cases he : j < k
    · rw [List.getD_eq_getElem?_getD, List.getElem?_append_left (by omega), List.getD_eq_getElem?_getD, List.getElem?_append_left (by omega), ← List.getD_eq_getElem?_getD, ← List.getD_eq_getElem?_getD]
      exact ih (by omega) j he
    · obtain rfl : j = k := by omega
      rw [List.getD_eq_getElem?_getD, List.getElem?_append_right (by omega), l1, List.getD_eq_getElem?_getD, List.getElem?_append_right (by omega), l2]
      simp only [Nat.sub_self, List.getElem?_cons_zero, Option.getD_some]
      obtain ⟨hk2, h6, hs⟩ := hgo
      obtain ⟨kd, n, of⟩ := g
      simp only at h6 hs
      have hcn := cnt_not (prev := failK ts q j) (prev' := failK (dualL ts) (255 - q) j) (of := of) (fun x hx => ih (by omega) x.toNat (by have := hs x hx; omega))
      rcases hk2 with ⟨h1, h2, h3⟩ | ⟨h1 | h1, h2⟩ | ⟨h1, h2, h3⟩
      · simp only at h1 h2; subst h1
        show bitI (255 - q) n = !bitI q n
        unfold bitI
        have hn : n.toNat < 8 := by omega
        have e : 255 - q = (2 ^ 8 - 1 - q) := rfl
        rw [show 255 - q = 2 ^ 8 - (q + 1) by omega, Nat.testBit_two_pow_sub_succ (by omega), decide_eq_true hn, Bool.true_and]
      · simp only at h1 h2; subst h1
        show decide ((1 : Int) ≤ (cntF (failK (dualL ts) (255 - q) j) of : Int)) = !decide ((of.length : Int) ≤ (cntF (failK ts q j) of : Int))
        by_cases hc : (of.length : Int) ≤ (cntF (failK ts q j) of : Int)
        · rw [decide_eq_true hc, decide_eq_false (by omega)]; rfl
        · rw [decide_eq_false hc, decide_eq_true (by omega)]; rfl
      · simp only at h1 h2; subst h1
        show decide ((of.length : Int) ≤ (cntF (failK (dualL ts) (255 - q) j) of : Int)) = !decide ((1 : Int) ≤ (cntF (failK ts q j) of : Int))
        by_cases hc : (1 : Int) ≤ (cntF (failK ts q j) of : Int)
        · rw [decide_eq_true hc, decide_eq_false (by omega)]; rfl
        · rw [decide_eq_false hc, decide_eq_true (by omega)]; rfl
      · simp only at h1 h2 h3; subst h1
        show decide ((of.length : Int) + 1 - n ≤ (cntF (failK (dualL ts) (255 - q) j) of : Int)) = !decide (n ≤ (cntF (failK ts q j) of : Int))
        by_cases hc : n ≤ (cntF (failK ts q j) of : Int)
        · rw [decide_eq_true hc, decide_eq_false (by omega)]; rfl
        · rw [decide_eq_false hc, decide_eq_true (by omega)]; rfl
theorem top_dual {ts : List GateR} {q : Nat} (h : TreeOk ts) (hq : q < 256) : topB (dualL ts) (255 - q) = !topB ts q := by
  unfold topB
  rw [dual_len]
  exact fail_dual h hq ts.length (Nat.le_refl _) _ (by have := h.1; omega)

def eitherL : List GateR := [(1, 0, []), (1, 1, []), (3, 0, [0, 1])]
theorem either_ok : TreeOk eitherL := by
  refine ⟨by decide, by decide, fun i g hg => ?_⟩
  match i, hg with
  | 0, hg => cases hg; exact ⟨.inl ⟨rfl, by decide, rfl⟩, by decide, by decide⟩
  | 1, hg => cases hg; exact ⟨.inl ⟨rfl, by decide, rfl⟩, by decide, by decide⟩
  | 2, hg => cases hg; exact ⟨.inr (.inl ⟨.inr rfl, rfl⟩), by decide, by decide⟩
set_option maxHeartbeats 1000000 in
theorem either_is (w : World) : Calls Try.prog 11 #[] w fun e w' => (∃ v, e = .returned v ∧ GatesAt w' v eitherL) ∧ Below w.heap.size w w' := by
  have H1 : Hid (CellsAt ((w.alloc (.cells #[.int .i64 0, .int .i64 1] TInt)).alloc (.cells #[.int .i64 1, .int .i64 0, .slice none 0 0, .int .i64 1, .int .i64 1, .slice none 0 0, .int .i64 3, .int .i64 0, .slice (some ⟨w.heap.size, 0, none⟩) 2 2] TGate)) w.heap.size [.int .i64 0, .int .i64 1]) := (CellsAt.new w _ _ _ rfl).alloc _
  have H2 : Hid (CellsAt ((w.alloc (.cells #[.int .i64 0, .int .i64 1] TInt)).alloc (.cells #[.int .i64 1, .int .i64 0, .slice none 0 0, .int .i64 1, .int .i64 1, .slice none 0 0, .int .i64 3, .int .i64 0, .slice (some ⟨w.heap.size, 0, none⟩) 2 2] TGate)) (w.heap.size + 1) [.int .i64 1, .int .i64 0, .slice none 0 0, .int .i64 1, .int .i64 1, .slice none 0 0, .int .i64 3, .int .i64 0, .slice (some ⟨w.heap.size, 0, none⟩) 2 2]) := CellsAt.new' (by simp) rfl
  go_enter Try.func11, Try.ntmps11
  go_wp2
  go_ret
  refine ⟨⟨_, rfl, .inr ⟨by decide, w.heap.size + 1, 0, 3, rfl, by decide, by decide, fun i g hg => ?_⟩⟩, by repeat (first | with_reducible exact Below.refl _ _ | ((with_reducible refine Below.setCell ?_ ?_ _); rotate_left; (· first | (simp; done) | omega | (simp; omega))) | with_reducible refine below_drewN ?_ _ | with_reducible refine Below.drew ?_ | ((with_reducible refine Below.alloc ?_ ?_ _); rotate_left; (· first | (simp; done) | omega | (simp; omega))) | exact Below.refl _ _ | refine Below.setCell ?_ (by first | (simp; done) | omega | (simp; omega)) _ | refine below_drewN ?_ _ | refine Below.drew ?_ | refine Below.alloc ?_ (by first | (simp; done) | omega | (simp; omega)) _)⟩
  match i, hg with
  | 0, hg => cases hg; exact ⟨H2.out.at_ 0 rfl, H2.out.at_ 1 rfl, _, H2.out.at_ 2 rfl, .inl ⟨rfl, .inl rfl⟩, by decide⟩
  | 1, hg => cases hg; exact ⟨H2.out.at_ 3 rfl, H2.out.at_ 4 rfl, _, H2.out.at_ 5 rfl, .inl ⟨rfl, .inl rfl⟩, by decide⟩
  | 2, hg =>
    cases hg
    refine ⟨H2.out.at_ 6 rfl, H2.out.at_ 7 rfl, _, H2.out.at_ 8 rfl, .inr ⟨by decide, w.heap.size, 0, 2, rfl, by decide, by decide, fun i hi => ?_⟩, by decide⟩
    rcases (by simp at hi; omega : i = 0 ∨ i = 1) with rfl | rfl
    · exact H1.out.at_ 0 rfl
    · exact H1.out.at_ 1 rfl

end Go.Proofs.Ytiocgmioijcjhaa
