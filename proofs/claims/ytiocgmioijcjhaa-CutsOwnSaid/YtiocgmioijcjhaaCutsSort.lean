/- slices.SortFunc over sets of 16 bits, by cuts.order: it leaves the sorted list (the shelf's contract, laid in Shelf). -/
import Derived.Test.YtiocgmioijcjhaaShelf
import Derived.Test.YtiocgmioijcjhaaCutsLeast
import Derived.Sort.OwnSorted
namespace Go.Proofs.Ytiocgmioijcjhaa
open Go.ChangeShapes Go.WideShapes Go.ChangeAt Go.RowKit Go.Shelf Go.Lib Go.Sort
set_option linter.unusedVariables false

abbrev Set16 := Fin 65536
def encS (x : Set16) : Value := .int .u16 (x.val : Int)
def cfS (x y : Set16) : Int := ordI x.val y.val
theorem ltS (x y : Set16) : ltOf cfS x y = decide (ordI x.val y.val < 0) := rfl
theorem swoS : SWO (ltOf cfS) where
  irrefl x := by rw [ltS]; simp [ord_lt]
  trans x y z h1 h2 := by rw [ltS] at *; simp only [decide_eq_true_eq, ord_lt] at *; omega
  ntrans x y z h1 h2 := by rw [ltS] at *; simp only [decide_eq_false_iff_not, ord_lt] at *; omega
theorem totS (x y : Set16) (h1 : ltOf cfS x y = false) (h2 : ltOf cfS y x = false) : x = y := by
  rw [ltS] at *; simp only [decide_eq_false_iff_not, ord_lt] at *
  exact Fin.ext (by omega)
theorem cmpS (blk off size : Nat) (w : World) : CmpReads Try.prog 44 #[] encS cfS blk off size w :=
  fun _ _ _ _ x y => order_is x.val y.val x.isLt y.isLt _
theorem toSet (xs : List Nat) (h : ∀ x ∈ xs, x < 65536) : ∃ ds : List Set16, ds.map (·.val) = xs := by
  induction xs with
  | nil => exact ⟨[], rfl⟩
  | cons x xs ih =>
    obtain ⟨ds, rfl⟩ := ih fun y hy => h y (List.mem_cons_of_mem _ hy)
    exact ⟨⟨x, h x (by simp)⟩ :: ds, rfl⟩
theorem sort_map (ds : List Set16) : (ds.mergeSort fun x y => !ltOf cfS y x).map (·.val) = sortN (ds.map (·.val)) := by
  unfold sortN
  exact List.map_mergeSort (fun a _ b _ => by rw [ltS])
theorem rowS (ds : List Set16) : (u16s (ds.map (·.val))).map (Value.int .u16) = ds.map encS := by
  simp [u16s, encS, Function.comp_def]
/-- a row that holds the list, as the sort wants it -/
theorem rowHolds {w : World} {g : Nat} {cur : Array Value} {e : TypeId} {ds : List Set16} (hb : w.heap[g]? = some (.cells cur e (0, 0))) (ht : cur.toList.take ds.length = ds.map encS) : Holds encS w g 0 ds.toArray := fun j hj => by
  have hj' : j < ds.length := by simpa using hj
  have h1 : cur[j]? = some (encS ds[j]) := by
    have := congrArg (fun l => l[j]?) ht
    simpa [List.getElem?_take_of_lt hj', hj'] using this
  refine ⟨?_, by simp [World.frozen?, hb]⟩
  simp [World.cell?, hb, h1, hj']
theorem rowSorted {w : World} {base g cap n : Nat} {e : TypeId} {os : Array Obj} {cur : Array Value} (ts : List Set16) (hbase : base ≤ g) (hb : w.heap[g]? = some (.cells cur e (0, 0)))
    (h1 : ts.length ≤ cap) (h2 : cap ≤ maxLen) (h3 : cur.size = cap) :
    (grow (putRow encS (Sort.ahead w n) g 0 ts.toArray) os).ownsRow base e 1 (.slice (some ⟨g, 0, none⟩) ts.length cap) ts.length (ts.map encS) := by
  have hg : g < w.heap.size := (Array.getElem?_eq_some_iff.1 hb).1
  refine ⟨by simp, .inr ⟨g, cap, putCells encS 0 ts.toArray cur, rfl, hbase, ?_, h1, h2, by simp [putCells, h3], ?_⟩⟩
  · rw [heap_grow_old _ _ (by simpa using hg)]
    simp [putRow, mapBlock, Sort.ahead, Array.getElem?_modify, hb, onCells]
  · rw [Nat.mul_one]
    refine List.ext_getElem? fun j => ?_
    by_cases hj : j < ts.length
    · rw [List.getElem?_take_of_lt hj, Array.getElem?_toList]
      simp [putCells, hj, show j < cur.size by omega]
    · rw [List.getElem?_take_eq_none (by omega), List.getElem?_eq_none (by simp; omega)]
theorem rowFrame {w : World} {base g n : Nat} {os : Array Obj} (d : Array Set16) (hbase : base ≤ g) (hg : g < w.heap.size) : Below base w (grow (putRow encS (Sort.ahead w n) g 0 d) os) := by
  refine ⟨rfl, rfl, rfl, by simp, fun k hk => ?_⟩
  have hne : g ≠ k := by omega
  rw [heap_grow_old _ _ (by simp; omega)]
  simp [putRow, mapBlock, Sort.ahead, Array.getElem?_modify, hne]
theorem sort_is : SortIs := by
  intro xs v w base hx h hl
  obtain ⟨ds, rfl⟩ := toSet xs hx
  unfold OwnU at h ⊢
  have en : (u16s (ds.map (·.val))).length = ds.length := by simp [u16s_len]
  rw [rowS, en] at h
  have e1 : sortN (ds.map (·.val)) = (ds.mergeSort fun x y => !ltOf cfS y x).map (·.val) := (sort_map ds).symm
  rw [e1]
  have em : (ds.mergeSort fun x y => !ltOf cfS y x).length = ds.length := List.length_mergeSort _
  have en2 : (u16s ((ds.mergeSort fun x y => !ltOf cfS y x).map (·.val))).length = (ds.mergeSort fun x y => !ltOf cfS y x).length := by simp [u16s_len]
  rw [rowS, en2]
  by_cases h0 : ds.length = 0
  · obtain rfl := List.eq_nil_of_length_eq_zero h0
    have hv : ∃ p cap, v = .slice p 0 cap := by
      rcases h.2 with ⟨h1, -⟩ | ⟨g, cap, cur, h1, -⟩
      · exact ⟨_, _, h1⟩
      · exact ⟨_, _, h1⟩
    obtain ⟨p, cap, rfl⟩ := hv
    have hS := AnyF.slices_SortFunc_none (P := Try.prog) (ρ := Try.sortU_ren) { Try.sortU with } p cap (.func (.func 44) #[] #[]) w
    change Calls Try.prog 43 _ _ _ at hS
    refine hS.mono ?_
    rintro e w' ⟨rfl, rfl⟩
    exact ⟨rfl, by simpa using h, Below.refl _ _⟩
  · rcases h.2 with ⟨-, h1⟩ | ⟨g, cap, cur, rfl, hb, hblk, hl1, hm, hs, ht⟩
    · exact absurd h1 h0
    · rw [Nat.mul_one] at hs ht
      have hg : g < w.heap.size := (Array.getElem?_eq_some_iff.1 hblk).1
      have eg : ∀ args w, (callFunc 44 args).run Try.prog w = .ok (.enter 44 args) w := enters_of Try.func44 (by kernel_rfl) rfl
      have hS := Any.slices_SortFunc_total Try.sortU encS (fun _ => rfl) cfS swoS 44 #[] g 0 cap ds.toArray w eg (cmpS g 0 _ w).lays (rowHolds hblk ht) hg (by simpa using hl) totS
      change Calls Try.prog 43 _ _ _ at hS
      simp only [List.size_toArray] at hS
      refine hS.mono ?_
      rintro e w' ⟨rfl, n, os, rfl⟩
      refine ⟨rfl, ?_, rowFrame _ hb hg⟩
      have := rowSorted (base := base) (n := n) (os := os) (cap := cap) (ds.mergeSort fun x y => !ltOf cfS y x) hb hblk (by omega) hm hs
      rw [em] at this ⊢
      exact this

end Go.Proofs.Ytiocgmioijcjhaa
