/- What Equal, stays and spoil compute at a struct. -/
import Derived.Test.YtglagndpholejaaAmple
import Derived.Test.YtglagndpholejaaLogPut
import Derived.Laws.StructEq
namespace Go.Proofs.Ytglagndpholejaa
open Go.ChangeShapes Go.WideShapes Go.ChangeAt Go.RowKit
set_option linter.unusedVariables false

theorem quietDN_ent {P : Program} {f : FuncId} {args : Array Value} {w : World} {n : Nat} {v : Value} (h : Calls P f args (w.drewN n) fun e w' => e = .returned v ∧ ∃ m, w' = (w.drewN n).drewN m) :
    Calls P f args (w.drewN n) fun e w'' => e = .returned v ∧ ∃ m, w'' = w.drewN m := h.mono fun _ _ h1 => ⟨h1.1, by obtain ⟨m, e⟩ := h1.2; exact ⟨n + m, e.trans (World.drewN_drewN _ _ _)⟩⟩
theorem eqS_ent (a b c d : Int) (w : World) : (Op.equalIn 10000 42 (.agg #[.int .i64 a, .int .i64 b, .int .i64 c, .int .i64 d]) (.agg #[.int .i64 a, .int .i64 b, .int .i64 c, .int .i64 d])).run Try.prog w = .ok true w := by
  have u3 := Try.underlying3
  have a3 := Try.isAgg3
  have z3 := Try.sizeOf3
  rw [show (10000 : Nat) = 9999 + 1 from rfl, run_equalIn_struct w 9999 _ _ _ (by kernel_rfl) (by kernel_rfl)]
  have hf := Try.underlying42
  simp only [Program.fieldsOf, hf]
  go_simp
set_option maxHeartbeats 4000000 in
set_option maxRecDepth 100000 in
theorem equalS_ent (xs : List EntR) (v u : Value) (w : World) (hv : RecsAt 4 entLay w v xs) (hu : RecsAt 4 entLay w u xs) (hx : xs.length ≤ 9223372036854775807) :
    Calls Try.prog 20 #[v, u] w fun e w' => e = .returned (.bool true) ∧ ∃ n, w' = w.drewN n := by
  obtain ⟨aa, cap, rfl⟩ := hv.len
  obtain ⟨a2, cap2, rfl⟩ := hu.len
  have HV := Lib.hid hv; have HU := Lib.hid hu
  have hne : ((xs.length : Int) != (xs.length : Int)) = false := by simp
  clear hv hu
  go_enter Try.func20, Try.ntmps20
  go_wp2
  go_loopw [13] (fun i wr => (∃ k : Nat, k ≤ xs.length ∧ i = .int .i64 k) ∧ ∃ m, wr = w.drewN m) (fun i _ => xs.length - (intOf i).toNat)
  case atStart => exact ⟨⟨0, by omega, rfl⟩, 0, rfl⟩
  case round =>
    obtain ⟨⟨k, hk, rfl⟩, m, rfl⟩ := hrel
    by_cases hlt : k < xs.length
    · obtain ⟨x, hx'⟩ : ∃ x, xs[k]? = some x := ⟨_, List.getElem?_eq_getElem hlt⟩
      obtain ⟨b1, off1, cap', hv', hl1, hl2, hc⟩ := HV.out.at_ hx'
      obtain ⟨b2, off2, cap2', hv2', hm1, hm2, hc2⟩ := HU.out.at_ hx'
      cases hv'
      cases hv2'
      obtain ⟨a, b, c, d⟩ := x
      have c0 := hc 0 (by omega)
      have e0 := hc2 0 (by omega)
      change w.cell? ⟨b1, off1 + k * 4, none⟩ = some (.int .i64 a) at c0
      change w.cell? ⟨b2, off2 + k * 4, none⟩ = some (.int .i64 a) at e0
      have c1 := hc 1 (by omega)
      have e1 := hc2 1 (by omega)
      change w.cell? ⟨b1, off1 + k * 4 + 1, none⟩ = some (.int .i64 b) at c1
      change w.cell? ⟨b2, off2 + k * 4 + 1, none⟩ = some (.int .i64 b) at e1
      have c2 := hc 2 (by omega)
      have e2 := hc2 2 (by omega)
      change w.cell? ⟨b1, off1 + k * 4 + 2, none⟩ = some (.int .i64 c) at c2
      change w.cell? ⟨b2, off2 + k * 4 + 2, none⟩ = some (.int .i64 c) at e2
      have c3 := hc 3 (by omega)
      have e3 := hc2 3 (by omega)
      change w.cell? ⟨b1, off1 + k * 4 + 3, none⟩ = some (.int .i64 d) at c3
      change w.cell? ⟨b2, off2 + k * 4 + 3, none⟩ = some (.int .i64 d) at e3
      have d1 : (k : Int) < (xs.length : Int) := by omega
      have d2 : k + 1 ≤ cap := by omega
      have d3 : k + 1 ≤ cap2 := by omega
      have qq := eqS_ent a b c d
      clear hc hc2 hx'
      go_wp2
      go_quiet (fail)
      go_wp2
      go_roundw
      case rel => exact ⟨⟨k + 1, by omega, by go_num⟩, _, by first | rfl | exact World.drewN_drewN _ _ _⟩
      case measure => simp [intOf]; omega
    · obtain rfl : k = xs.length := by omega
      go_wp2
      go_ret
      exact ⟨rfl, m, rfl⟩
set_option maxHeartbeats 4000000 in
set_option maxRecDepth 100000 in
theorem stays_ent (xs : List EntR) (g : Nat) (u : Value) (a b c d : Int) (w : World) (hv : RecsAt 4 entLay w (.slice (some ⟨g, 0, none⟩) xs.length (xs.length + 3)) xs) (hu : RecsAt 4 entLay w u xs) (hx : xs.length ≤ 281474976710656)
    (hc : ∀ j v, ([.int .i64 a, .int .i64 b, .int .i64 c, .int .i64 d] : List Value)[j]? = some v → w.cell? ⟨g, xs.length * 4 + j, none⟩ = some v) (hd : ∀ j v, ([.int .i64 a, .int .i64 b, .int .i64 c, .int .i64 d] : List Value)[j]? = some v → w.cell? ⟨g, (xs.length + 1) * 4 + j, none⟩ = some v) :
    Calls Try.prog 24 #[.slice (some ⟨g, 0, none⟩) xs.length (xs.length + 3), u, (.agg #[.int .i64 a, .int .i64 b, .int .i64 c, .int .i64 d])] w fun e w' => e = .returned (.bool true) ∧ Below w.heap.size w w' := by
  have HV := Lib.hid (hv.later entLay_len ((Below.refl w.heap.size w).alloc (Nat.le_refl _) (.cells #[.int .i64 a, .int .i64 b, .int .i64 c, .int .i64 d] 42)) (Nat.le_refl _)); have HU := Lib.hid (hu.later entLay_len ((Below.refl w.heap.size w).alloc (Nat.le_refl _) (.cells #[.int .i64 a, .int .i64 b, .int .i64 c, .int .i64 d] 42)) (Nat.le_refl _))
  have B1 : Hid (Below w.heap.size w (w.alloc (.cells #[.int .i64 a, .int .i64 b, .int .i64 c, .int .i64 d] 42))) := (Below.refl _ _).alloc (Nat.le_refl _) _
  have HX1 : CellsAt (w.alloc (.cells #[.int .i64 a, .int .i64 b, .int .i64 c, .int .i64 d] 42)) w.heap.size [.int .i64 a, .int .i64 b, .int .i64 c, .int .i64 d] := CellsAt.new w _ _ _ rfl
  have e1 : ((xs.length : Int) + 1).toNat = xs.length + 1 := by omega
  have e2 : IntKind.i64.wrap ((xs.length : Int) + 1) = (xs.length : Int) + 1 := IntWalk.i64_in _ (by omega)
  have e3 : (0 : Int) ≤ (xs.length : Int) + 1 := by omega
  have hgs : g < w.heap.size := World.block_lt_of_cell? _ _ (hc 0 _ rfl)
  have c0 := cell_new' (o := (.cells #[.int .i64 a, .int .i64 b, .int .i64 c, .int .i64 d] 42)) (hc 0 _ rfl)
  have d0 := cell_new' (o := (.cells #[.int .i64 a, .int .i64 b, .int .i64 c, .int .i64 d] 42)) (hd 0 _ rfl)
  have x0 := HX1.at_ 0 rfl
  have c1 := cell_new' (o := (.cells #[.int .i64 a, .int .i64 b, .int .i64 c, .int .i64 d] 42)) (hc 1 _ rfl)
  have d1 := cell_new' (o := (.cells #[.int .i64 a, .int .i64 b, .int .i64 c, .int .i64 d] 42)) (hd 1 _ rfl)
  have x1 := HX1.at_ 1 rfl
  have c2 := cell_new' (o := (.cells #[.int .i64 a, .int .i64 b, .int .i64 c, .int .i64 d] 42)) (hc 2 _ rfl)
  have d2 := cell_new' (o := (.cells #[.int .i64 a, .int .i64 b, .int .i64 c, .int .i64 d] 42)) (hd 2 _ rfl)
  have x2 := HX1.at_ 2 rfl
  have c3 := cell_new' (o := (.cells #[.int .i64 a, .int .i64 b, .int .i64 c, .int .i64 d] 42)) (hc 3 _ rfl)
  have d3 := cell_new' (o := (.cells #[.int .i64 a, .int .i64 b, .int .i64 c, .int .i64 d] 42)) (hd 3 _ rfl)
  have x3 := HX1.at_ 3 rfl
  try rw [Nat.add_zero] at c0 d0
  have z1 := HX1.lt
  have qq := eqS_ent a b c d
  clear hv hu hc hd HX1
  go_enter Try.func24, Try.ntmps24
  go_upto_region 1 with (fail)
  generalize w.alloc (.cells #[.int .i64 a, .int .i64 b, .int .i64 c, .int .i64 d] 42) = w1 at *
  go_wp2_with fail
  go_quiet ((go_at_call 20; exact quietDN_ent (equalS_ent xs _ u _ HV.out HU.out (by omega))))
  go_wp2
  go_ret
  exact ⟨rfl, B1.out.trans (below_drewN (Below.refl w.heap.size w1) _)⟩

def SpRel_ent (w0 : World) (g B : Nat) (E : TypeId) (a b c d : Int) (cap N : Nat) (i : Value) (w : World) : Prop := ∃ k : Nat, k ≤ cap ∧ i = .int .i64 k ∧ BlkOf w g E N ∧ CellsAt w B [.int .i64 a, .int .i64 b, .int .i64 c, .int .i64 d] ∧ w0.grownBy w (some g)
set_option maxHeartbeats 4000000 in
set_option maxRecDepth 100000 in
theorem spoil_ent (g n cap : Nat) (a b c d : Int) (w : World) (hb : BlkOf w g 42 (cap * 4)) (hn : n ≤ cap) (hc : cap ≤ 9223372036854775807) :
    Calls Try.prog 26 #[.slice (some ⟨g, 0, none⟩) n cap, (.agg #[.int .i64 a, .int .i64 b, .int .i64 c, .int .i64 d])] w (SpoilPost w g) := by
  have HB := Lib.hid (hb.alloc (.cells #[.int .i64 a, .int .i64 b, .int .i64 c, .int .i64 d] 42))
  have HX1 : Hid (CellsAt (w.alloc (.cells #[.int .i64 a, .int .i64 b, .int .i64 c, .int .i64 d] 42)) w.heap.size [.int .i64 a, .int .i64 b, .int .i64 c, .int .i64 d]) := CellsAt.new w _ _ _ rfl
  have HG0 : Hid (w.grownBy (w.alloc (.cells #[.int .i64 a, .int .i64 b, .int .i64 c, .int .i64 d] 42)) (some g)) := World.grownBy_alloc w _ _
  have hgs : g < w.heap.size := hb.lt
  clear hb
  go_enter Try.func26, Try.ntmps26
  go_upto_region 1 with (fail)
  generalize w.alloc (.cells #[.int .i64 a, .int .i64 b, .int .i64 c, .int .i64 d] 42) = w1 at *
  go_wp2
  go_loopw [11] (fun i wr => SpRel_ent w g w.heap.size 42 a b c d cap (cap * 4) i wr) (fun i _ => cap - (intOf i).toNat)
  case atStart => exact ⟨0, Nat.zero_le _, rfl, HB.out, HX1.out, HG0.out⟩
  case round =>
    obtain ⟨k, hk, rfl, hB, hX, hg⟩ := hrel
    have HB2 := Lib.hid hB; have HG := Lib.hid hg; have HX := Lib.hid hX
    clear hg
    by_cases hlt : k < cap
    · have d1 : (k : Int) < (cap : Int) := by omega
      obtain ⟨y0, hy0⟩ := hB.cell (k * 4) (by omega)
      have x0 := hX.at_ 0 rfl
      obtain ⟨y1, hy1⟩ := hB.cell (k * 4 + 1) (by omega)
      have x1 := hX.at_ 1 rfl
      obtain ⟨y2, hy2⟩ := hB.cell (k * 4 + 2) (by omega)
      have x2 := hX.at_ 2 rfl
      obtain ⟨y3, hy3⟩ := hB.cell (k * 4 + 3) (by omega)
      have x3 := hX.at_ 3 rfl
      have hf := hB.frozen
      have hz := hB.lt
      have hz2 := hX.lt
      clear hB hX
      go_wp2
      go_roundw
      case rel => exact ⟨k + 1, by omega, by go_num, ((((HB2.out.set (k * 4) _).set (k * 4 + 1) _).set (k * 4 + 2) _).set (k * 4 + 3) _), ((((HX.out.other (by omega) (k * 4) _).other (by omega) (k * 4 + 1) _).other (by omega) (k * 4 + 2) _).other (by omega) (k * 4 + 3) _), ((((HG.out.andThen (grown_setB _ g (k * 4) _) (fun j e => by cases e; exact .inr rfl)).andThen (grown_setB _ g (k * 4 + 1) _) (fun j e => by cases e; exact .inr rfl)).andThen (grown_setB _ g (k * 4 + 2) _) (fun j e => by cases e; exact .inr rfl)).andThen (grown_setB _ g (k * 4 + 3) _) (fun j e => by cases e; exact .inr rfl))⟩
      case measure => simp [intOf]; omega
    · obtain rfl : k = cap := by omega
      go_wp2
      go_end0
      exact ⟨rfl, HG.out⟩

end Go.Proofs.Ytglagndpholejaa

