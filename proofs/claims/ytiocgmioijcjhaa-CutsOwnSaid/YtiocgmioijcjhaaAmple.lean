/- What ample, stays and spoil compute. -/
import Derived.Test.YtiocgmioijcjhaaConcat
import Derived.Test.YtiocgmioijcjhaaCells
import Derived.Test.YtiocgmioijcjhaaCut
import Derived.Laws.MakeOwn
import Derived.Laws.OwnMore
import Derived.Laws.IdiomCopy
import Derived.Deep.RegionLaw
import Derived.Laws.StructEq
import Derived.Deep.QuietTactic
import Derived.Deep.DeepCutAuto
namespace Go.Proofs.Ytiocgmioijcjhaa
open Go.ChangeShapes Go.WideShapes Go.ChangeAt Go.RowKit
set_option linter.unusedVariables false

/-- behind ample: a row of the call's own, with two cells more, and room for a third one -/
def AmplePost (w : World) (E : TypeId) (k n : Nat) (cells : List Value) (e : Ending) (w' : World) : Prop :=
  ∃ g, e = .returned (.slice (some ⟨g, 0, none⟩) n (n + 3)) ∧ w'.ownsRow w.heap.size E k (.slice (some ⟨g, 0, none⟩) (n + 2) (n + 3)) (n + 2) cells ∧ Below w.heap.size w w'
def BlkOf (w : World) (g : Nat) (E : TypeId) (N : Nat) : Prop := ∃ cur, w.heap[g]? = some (.cells cur E (0, 0)) ∧ cur.size = N
theorem own_blk {w : World} {base g n cap k : Nat} {E : TypeId} {xs : List Value} (h : w.ownsRow base E k (.slice (some ⟨g, 0, none⟩) n cap) n xs) : BlkOf w g E (cap * k) ∧ base ≤ g ∧ g < w.heap.size := by
  rcases h.2 with ⟨h, -⟩ | ⟨g', cap', cur, e1, e2, e3, e4, e5, e6, -⟩
  · cases h
  · cases e1; exact ⟨⟨cur, e3, e6⟩, e2, (Array.getElem?_eq_some_iff.1 e3).1⟩
theorem BlkOf.cell {w : World} {g N : Nat} {E : TypeId} (h : BlkOf w g E N) (i : Nat) (hi : i < N) : ∃ v, w.cell? ⟨g, i, none⟩ = some v := by
  obtain ⟨cur, h1, h2⟩ := h
  rw [cell_of_row w g i cur E (0, 0) h1]
  exact ⟨cur[i]'(by omega), Array.getElem?_eq_getElem _⟩
theorem BlkOf.frozen {w : World} {g N : Nat} {E : TypeId} (h : BlkOf w g E N) (i : Nat) : w.frozen? ⟨g, i, none⟩ = false := by
  obtain ⟨cur, h1, h2⟩ := h
  simp [World.frozen?, h1]
theorem BlkOf.lt {w : World} {g N : Nat} {E : TypeId} (h : BlkOf w g E N) : g < w.heap.size := by
  obtain ⟨cur, h1, h2⟩ := h
  exact (Array.getElem?_eq_some_iff.1 h1).1
theorem BlkOf.set {w : World} {g N : Nat} {E : TypeId} (h : BlkOf w g E N) (i : Nat) (v : Value) : BlkOf (w.setCell ⟨g, i, none⟩ v) g E N := by
  obtain ⟨cur, h1, h2⟩ := h
  exact ⟨cur.setIfInBounds i v, by simp [World.setCell, Array.getElem?_modify, h1], by simpa using h2⟩
theorem BlkOf.drewN {w : World} {g N : Nat} {E : TypeId} (h : BlkOf w g E N) (k : Nat) : BlkOf (w.drewN k) g E N := h
theorem BlkOf.drew {w : World} {g N : Nat} {E : TypeId} (h : BlkOf w g E N) : BlkOf w.drew g E N := h
theorem BlkOf.later {w w' : World} {g N B : Nat} {E : TypeId} (h : BlkOf w g E N) (hb : Below B w w') (hg : g < B) : BlkOf w' g E N := by
  obtain ⟨cur, h1, h2⟩ := h
  exact ⟨cur, (hb.block g hg).trans h1, h2⟩
theorem BlkOf.alloc {w : World} {g N : Nat} {E : TypeId} (h : BlkOf w g E N) (o : Obj) : BlkOf (w.alloc o) g E N := h.later ((Below.refl w.heap.size w).alloc (Nat.le_refl _) o) h.lt
theorem own_far {w w' : World} {base k n g : Nat} {E : TypeId} {v : Value} {xs : List Value} (h : w.ownsRow base E k v n xs) (hg : w.grownBy w' (some g)) (hne : v.ownBlock ≠ some g) : w'.ownsRow base E k v n xs := by
  refine ⟨h.1, h.2.imp id fun ⟨g', cap, cur, e1, e2, e3, e4⟩ => ⟨g', cap, cur, e1, e2, ?_, e4⟩⟩
  subst e1
  rw [hg.block g' (Array.getElem?_eq_some_iff.1 e3).1 hne]; exact e3
theorem own_madeA {w : World} {E : TypeId} {k N : Nat} {zc : Array Value} (hN : N ≤ maxLen) : (w.alloc (.cells (madeCells zc (N * k)) E)).ownsRow w.heap.size E k (.slice (some ⟨w.heap.size, 0, none⟩) 0 N) 0 [] :=
  ⟨by simp, .inr ⟨w.heap.size, N, _, rfl, Nat.le_refl _, heap_alloc_new w _, Nat.zero_le _, hN, by simp [size_madeCells], by simp⟩⟩
theorem grown_setB (w : World) (b n : Nat) (u : Value) : w.grownBy (w.setCell ⟨b, n, none⟩ u) (some b) :=
  ⟨rfl, rfl, rfl, by simp [World.setCell], fun k _ hk => heap_setCell_other w ⟨b, n, none⟩ k u (fun e => hk (by rw [e]))⟩
theorem src_bools {w : World} {v : Value} {xs : List Bool} (h : BoolsAt w v xs) : SrcAt w v 1 xs.length (xs.map .bool) := by
  rcases h with ⟨rfl, rfl | ⟨a, cap, rfl⟩⟩ | ⟨h0, b, off, cap, rfl, h1, h2, h3⟩
  · exact .inl ⟨0, rfl, rfl, rfl, rfl⟩
  · exact .inr ⟨a, cap, rfl, rfl, by simp⟩
  · refine .inr ⟨_, cap, rfl, by simp, fun j u hj => ?_⟩
    rw [List.getElem?_map] at hj
    by_cases hl : j < xs.length
    · have h4 := h3 j hl
      rw [List.getElem?_eq_getElem hl] at hj
      rw [List.getD_eq_getElem?_getD, List.getElem?_eq_getElem hl] at h4
      simp only [Option.map_some, Option.some.injEq] at hj
      subst hj
      cases j <;> simpa [Addr.add] using h4
    · rw [List.getElem?_eq_none (by omega)] at hj
      simp at hj
theorem two_cells {w : World} {E : TypeId} (x y : Value) : ∀ j u, ([x, y] : List Value)[j]? = some u → (w.alloc (.cells #[x, y] E)).cell? ((⟨w.heap.size, 0, none⟩ : Addr).add j) = some u := by
  intro j u h
  have hc := CellsAt.new w [x, y] #[x, y] E rfl
  have := hc.at_ j h
  cases j <;> simpa [Addr.add] using this
/-- append of single cells where there is room: what holds of all cells of the block holds of them behind it -/
theorem wpList_append_room_all {P : Program} {w : World} {ops : Array Oper} {rest : List Oper} {o : Oper} {a : Act} {Q : Exit → Act → World → Prop} (hgd : o.guard = none) (s x : Operand) (t : TypeId)
    (ho : o.op = .call { callee := .builtin .append, args := #[s, x], argTypes := #[t, t] })
    (base : Nat) (e : TypeId) (i : TypeInfo) (ht : P.underlying t = some (.slice e)) (hi : P.info? e = some i) (hsize : i.size = 1)
    (g k cap : Nat) (xs : List Value) (hs : a.eval s = .slice (some ⟨g, 0, none⟩) k cap) (hown : w.ownsRow base e 1 (.slice (some ⟨g, 0, none⟩) k cap) k xs)
    (sv : Value) (m : Nat) (news : List Value) (hx : a.eval x = sv) (hsrc : SrcAt w sv 1 m news) (h1 : ∀ u ∈ news, u.oneCell' = true) (b1 : k + m ≤ cap)
    (Pv : Value → Prop) (hp : ∀ u ∈ news, Pv u) (hall : ∀ j, j < cap → ∃ v, w.cell? ⟨g, j, none⟩ = some v ∧ Pv v)
    (h : ∀ w', w'.ownsRow base e 1 (.slice (some ⟨g, 0, none⟩) (k + m) cap) (k + m) (xs ++ news) → w.grownBy w' (some g) → (∀ j, j < cap → ∃ v, w'.cell? ⟨g, j, none⟩ = some v ∧ Pv v) → wpList P ops Q rest (a.put o.dst (.slice (some ⟨g, 0, none⟩) (k + m) cap)) w') : wpList P ops Q (o :: rest) a w := by
  rcases hsrc with ⟨c, rfl, rfl, rfl, rfl⟩ | ⟨ad, c, rfl, hl, hc⟩
  · refine wpList_plain hgd fun K hK' => ?_
    have hrun := run_append_owned_none (P := P) w base t o.type e i 1 ht hi _ k xs hown
    unfold Oper.wp
    simp [execOp, ho, resolve, invoke, builtin, hs, hx, hrun, Result.andThen]
    exact hK' _ _ (h w (by rw [List.append_nil]; exact hown) (World.grownBy.refl _ _) hall)
  · refine wpList_plain hgd fun K hK' => ?_
    obtain ⟨w', hrun, r1, r2⟩ := run_append_fits (P := P) w base t o.type e i 1 ht hi hsize g k cap xs hown ad m c news hl hc h1 b1
    have hb := (own_blk hown).1
    rw [Nat.mul_one] at hl hb
    have hsp : ∀ j, j < news.length → (w.cell? ⟨g, 0 + k * i.size + j, none⟩).isSome = true := fun j hj => by
      obtain ⟨v, hv⟩ := hb.cell (0 + k * i.size + j) (by rw [hsize]; omega)
      rw [hv]; rfl
    have hrun2 := run_append_room_cells (P := P) w t o.type e i ht hi g 0 k cap ad m c news (by rw [hsize]; omega) hc h1 b1 hsp (fun j _ => hb.frozen _)
    rw [hrun] at hrun2
    injection hrun2 with _ hw
    have hall' : ∀ j, j < cap → ∃ v, w'.cell? ⟨g, j, none⟩ = some v ∧ Pv v := by
      intro j hj
      rw [hw]
      by_cases hin : 0 + k * i.size ≤ j ∧ j < 0 + k * i.size + news.length
      · obtain ⟨q, hq⟩ : ∃ q, j = 0 + k * i.size + q := ⟨j - (0 + k * i.size), by omega⟩
        rw [hq, World.cell?_setCells_in g news _ w hsp q (by omega)]
        exact ⟨_, rfl, hp _ (List.getElem_mem _)⟩
      · rw [World.cell?_setCells_out g news _ w ⟨g, j, none⟩ (fun _ _ => by show j < _ ∨ _ ≤ j; omega)]
        exact hall j hj
    unfold Oper.wp
    simp [execOp, ho, resolve, invoke, builtin, hs, hx, hrun, Result.andThen]
    exact hK' _ _ (h w' r1 r2 hall')
/-- behind spoil: nothing but that block has turned -/
def SpoilPost (w : World) (g : Nat) (e : Ending) (w' : World) : Prop := e = .returned (.tuple #[]) ∧ w.grownBy w' (some g)
def SpRel (w0 : World) (g : Nat) (E : TypeId) (cap N : Nat) (i : Value) (w : World) : Prop := ∃ k : Nat, k ≤ cap ∧ i = .int .i64 k ∧ BlkOf w g E N ∧ w0.grownBy w (some g)

theorem infoA_i64 : (Try.prog.info? 3).map (fun i => (i.zero, i.size, i.bytes)) = some (some (.int .i64 0), 1, 8) := by kernel_rfl
set_option maxHeartbeats 4000000 in
set_option maxRecDepth 100000 in
theorem ample_i64 (n : Nat) (news : List Value) (v : Value) (x : Int) (w : World) (hv : SrcAt w v 1 n news) (ho : ∀ u ∈ news, u.oneCell' = true) (hn : (n + 3) * 8 ≤ 281474976710656) :
    Calls Try.prog 22 #[v, .int .i64 x] w (AmplePost w 3 1 n (news ++ [.int .i64 x, .int .i64 x])) := by
  obtain ⟨i0, hi, hz0, hz1, hz2⟩ := info_parts infoA_i64
  obtain ⟨a, c, rfl⟩ := hv.form
  have hmk : ∀ W : World, (Instr.makeSlice 28 (.int .i64 0) (.int .i64 ((n : Int) + 3))).run Try.prog W = .ok (.slice (some ⟨W.heap.size, 0, none⟩) 0 (n + 3)) (W.alloc (.cells (madeCells #[.int .i64 0] (n + 3)) 3)) := by
    intro W
    have := run_make (P := Try.prog) W 28 3 i0 (.int .i64 0) Try.underlying28 hi hz0 .i64 .i64 0 ((n : Int) + 3) (by omega) (by omega) (by rw [hz2]; omega) (by omega)
    rw [this, hz1, show ((n : Int) + 3).toNat = n + 3 by omega]
    simp [Value.cells]
  have HV := Lib.hid hv; have HO := Lib.hid ho
  have how0 := own_madeA (w := w) (E := 3) (k := 1) (N := n + 3) (zc := #[.int .i64 0]) (by unfold maxLen; omega)
  rw [Nat.mul_one] at how0
  have how := Lib.hid how0
  clear how0
  have hb1 : Hid (Below w.heap.size w (w.alloc (.cells (madeCells #[.int .i64 0] (n + 3)) 3))) := (Below.refl _ _).alloc (Nat.le_refl _) _
  have hn' : n + 3 ≤ 281474976710656 := by omega
  clear hv ho
  go_enter Try.func22, Try.ntmps22
  go_wp2_with (at_builtin; refine wpList_append_room_src rfl _ _ 28 rfl w.heap.size 3 i0 1 Try.underlying28 hi hz1 w.heap.size 0 (n + 3) [] (by first | rfl | simp [Act.eval]) how.out _ n news rfl (HV.out.below hb1.out (Nat.le_refl _)) HO.out (by omega) ?_)
  intro w1 hown hg
  try rw [List.nil_append, Nat.zero_add] at hown
  have HO1 := Lib.hid hown
  have B1 := Lib.hid (hb1.out.grown hg hb1.out.size (fun j e => by cases e; exact Nat.le_refl _))
  have z1 := B1.out.size
  clear hown hg hmk
  go_wp2_with (at_builtin; refine wpList_append_room_src rfl _ _ 28 rfl w.heap.size 3 i0 1 Try.underlying28 hi hz1 w.heap.size n (n + 3) news (by first | rfl | simp [Act.eval]) (HO1.out.alloc _) _ 2 [.int .i64 x, .int .i64 x] rfl (.inr ⟨⟨w1.heap.size, 0, none⟩, 2, by first | rfl | simp [Act.eval], rfl, two_cells _ _⟩) (by simp [Value.oneCell']) (by omega) ?_)
  intro w2 hown hg
  have HO2 := Lib.hid hown
  have B2 : Hid (Below w.heap.size w w2) := B1.out.trans (((Below.refl w.heap.size w1).alloc z1 _).grown hg (by simp; omega) (fun j e => by cases e; exact Nat.le_refl _))
  clear hown hg
  go_wp2
  go_ret
  exact ⟨w.heap.size, rfl, HO2.out, B2.out⟩

set_option maxHeartbeats 4000000 in
set_option maxRecDepth 100000 in
theorem stays_i64 (xs : List Int) (g : Nat) (u : Value) (x : Int) (w : World) (hv : IntsAt .i64 w (.slice (some ⟨g, 0, none⟩) xs.length (xs.length + 3)) xs) (hu : IntsAt .i64 w u xs) (hx : xs.length ≤ 281474976710656)
    (c1 : w.cell? ⟨g, xs.length, none⟩ = some (.int .i64 x)) (c2 : w.cell? ⟨g, xs.length + 1, none⟩ = some (.int .i64 x)) :
    Calls Try.prog 25 #[.slice (some ⟨g, 0, none⟩) xs.length (xs.length + 3), u, .int .i64 x] w fun e w' => e = .returned (.bool true) ∧ ∃ m, w' = w.drewN m := by
  have HV := Lib.hid hv; have HU := Lib.hid hu
  have e1 : ((xs.length : Int) + 1).toNat = xs.length + 1 := by omega
  have e2 : (x == x) = true := by simp
  clear hv hu
  go_enter Try.func25, Try.ntmps25
  go_wp2_with fail
  refine (equal_i64 xs xs _ u _ HV.out HU.out (by omega) (by omega)).mono ?_
  rintro e w1 ⟨m, rfl, rfl⟩
  rw [show decide (xs = xs) = true from decide_eq_true rfl]
  replace c1 : (w.drewN m).cell? ⟨g, xs.length, none⟩ = some (.int .i64 x) := c1
  replace c2 : (w.drewN m).cell? ⟨g, xs.length + 1, none⟩ = some (.int .i64 x) := c2
  go_wp2
  go_ret
  exact ⟨rfl, m, rfl⟩

set_option maxHeartbeats 4000000 in
set_option maxRecDepth 100000 in
theorem spoil_i64 (g n cap : Nat) (x : Int) (w : World) (hb : BlkOf w g 3 (cap * 1)) (hn : n ≤ cap) (hc : cap ≤ 9223372036854775807) :
    Calls Try.prog 27 #[.slice (some ⟨g, 0, none⟩) n cap, .int .i64 x] w (SpoilPost w g) := by
  have HB := Lib.hid hb
  clear hb
  go_enter Try.func27, Try.ntmps27
  go_wp2
  go_loopw [11] (fun i wr => SpRel w g 3 cap (cap * 1) i wr) (fun i _ => cap - (intOf i).toNat)
  case atStart => exact ⟨0, Nat.zero_le _, rfl, HB.out, World.grownBy.refl _ _⟩
  case round =>
    obtain ⟨k, hk, rfl, hB, hg⟩ := hrel
    have HB2 := Lib.hid hB; have HG := Lib.hid hg
    clear hg
    by_cases hlt : k < cap
    · obtain ⟨y, hy⟩ := hB.cell k (by omega)
      have hf := hB.frozen k
      have hz := hB.lt
      have d1 : (k : Int) < (cap : Int) := by omega
      clear hB
      go_wp2
      go_roundw
      case rel => exact ⟨k + 1, by omega, by go_num, HB2.out.set k _, HG.out.andThen (grown_setB wr g k _) (fun j e => by cases e; exact .inr rfl)⟩
      case measure => simp [intOf]; omega
    · obtain rfl : k = cap := by omega
      go_wp2
      go_end0
      exact ⟨rfl, HG.out⟩

theorem infoA_u16 : (Try.prog.info? 23).map (fun i => (i.zero, i.size, i.bytes)) = some (some (.int .u16 0), 1, 2) := by kernel_rfl
set_option maxHeartbeats 4000000 in
set_option maxRecDepth 100000 in
theorem ample_u16 (n : Nat) (news : List Value) (v : Value) (x : Int) (w : World) (hv : SrcAt w v 1 n news) (ho : ∀ u ∈ news, u.oneCell' = true) (hn : (n + 3) * 2 ≤ 281474976710656) :
    Calls Try.prog 23 #[v, .int .u16 x] w (AmplePost w 23 1 n (news ++ [.int .u16 x, .int .u16 x])) := by
  obtain ⟨i0, hi, hz0, hz1, hz2⟩ := info_parts infoA_u16
  obtain ⟨a, c, rfl⟩ := hv.form
  have hmk : ∀ W : World, (Instr.makeSlice 37 (.int .i64 0) (.int .i64 ((n : Int) + 3))).run Try.prog W = .ok (.slice (some ⟨W.heap.size, 0, none⟩) 0 (n + 3)) (W.alloc (.cells (madeCells #[.int .u16 0] (n + 3)) 23)) := by
    intro W
    have := run_make (P := Try.prog) W 37 23 i0 (.int .u16 0) Try.underlying37 hi hz0 .i64 .i64 0 ((n : Int) + 3) (by omega) (by omega) (by rw [hz2]; omega) (by omega)
    rw [this, hz1, show ((n : Int) + 3).toNat = n + 3 by omega]
    simp [Value.cells]
  have HV := Lib.hid hv; have HO := Lib.hid ho
  have how0 := own_madeA (w := w) (E := 23) (k := 1) (N := n + 3) (zc := #[.int .u16 0]) (by unfold maxLen; omega)
  rw [Nat.mul_one] at how0
  have how := Lib.hid how0
  clear how0
  have hb1 : Hid (Below w.heap.size w (w.alloc (.cells (madeCells #[.int .u16 0] (n + 3)) 23))) := (Below.refl _ _).alloc (Nat.le_refl _) _
  have hn' : n + 3 ≤ 281474976710656 := by omega
  clear hv ho
  go_enter Try.func23, Try.ntmps23
  go_wp2_with (at_builtin; refine wpList_append_room_src rfl _ _ 37 rfl w.heap.size 23 i0 1 Try.underlying37 hi hz1 w.heap.size 0 (n + 3) [] (by first | rfl | simp [Act.eval]) how.out _ n news rfl (HV.out.below hb1.out (Nat.le_refl _)) HO.out (by omega) ?_)
  intro w1 hown hg
  try rw [List.nil_append, Nat.zero_add] at hown
  have HO1 := Lib.hid hown
  have B1 := Lib.hid (hb1.out.grown hg hb1.out.size (fun j e => by cases e; exact Nat.le_refl _))
  have z1 := B1.out.size
  clear hown hg hmk
  go_wp2_with (at_builtin; refine wpList_append_room_src rfl _ _ 37 rfl w.heap.size 23 i0 1 Try.underlying37 hi hz1 w.heap.size n (n + 3) news (by first | rfl | simp [Act.eval]) (HO1.out.alloc _) _ 2 [.int .u16 x, .int .u16 x] rfl (.inr ⟨⟨w1.heap.size, 0, none⟩, 2, by first | rfl | simp [Act.eval], rfl, two_cells _ _⟩) (by simp [Value.oneCell']) (by omega) ?_)
  intro w2 hown hg
  have HO2 := Lib.hid hown
  have B2 : Hid (Below w.heap.size w w2) := B1.out.trans (((Below.refl w.heap.size w1).alloc z1 _).grown hg (by simp; omega) (fun j e => by cases e; exact Nat.le_refl _))
  clear hown hg
  go_wp2
  go_ret
  exact ⟨w.heap.size, rfl, HO2.out, B2.out⟩

set_option maxHeartbeats 4000000 in
set_option maxRecDepth 100000 in
theorem stays_u16 (xs : List Int) (g : Nat) (u : Value) (x : Int) (w : World) (hv : IntsAt .u16 w (.slice (some ⟨g, 0, none⟩) xs.length (xs.length + 3)) xs) (hu : IntsAt .u16 w u xs) (hx : xs.length ≤ 281474976710656)
    (c1 : w.cell? ⟨g, xs.length, none⟩ = some (.int .u16 x)) (c2 : w.cell? ⟨g, xs.length + 1, none⟩ = some (.int .u16 x)) :
    Calls Try.prog 24 #[.slice (some ⟨g, 0, none⟩) xs.length (xs.length + 3), u, .int .u16 x] w fun e w' => e = .returned (.bool true) ∧ ∃ m, w' = w.drewN m := by
  have HV := Lib.hid hv; have HU := Lib.hid hu
  have e1 : ((xs.length : Int) + 1).toNat = xs.length + 1 := by omega
  have e2 : (x == x) = true := by simp
  clear hv hu
  go_enter Try.func24, Try.ntmps24
  go_wp2_with fail
  refine (equal_u16 xs xs _ u _ HV.out HU.out (by omega) (by omega)).mono ?_
  rintro e w1 ⟨m, rfl, rfl⟩
  rw [show decide (xs = xs) = true from decide_eq_true rfl]
  replace c1 : (w.drewN m).cell? ⟨g, xs.length, none⟩ = some (.int .u16 x) := c1
  replace c2 : (w.drewN m).cell? ⟨g, xs.length + 1, none⟩ = some (.int .u16 x) := c2
  go_wp2
  go_ret
  exact ⟨rfl, m, rfl⟩

set_option maxHeartbeats 4000000 in
set_option maxRecDepth 100000 in
theorem spoil_u16 (g n cap : Nat) (x : Int) (w : World) (hb : BlkOf w g 23 (cap * 1)) (hn : n ≤ cap) (hc : cap ≤ 9223372036854775807) :
    Calls Try.prog 28 #[.slice (some ⟨g, 0, none⟩) n cap, .int .u16 x] w (SpoilPost w g) := by
  have HB := Lib.hid hb
  clear hb
  go_enter Try.func28, Try.ntmps28
  go_wp2
  go_loopw [11] (fun i wr => SpRel w g 23 cap (cap * 1) i wr) (fun i _ => cap - (intOf i).toNat)
  case atStart => exact ⟨0, Nat.zero_le _, rfl, HB.out, World.grownBy.refl _ _⟩
  case round =>
    obtain ⟨k, hk, rfl, hB, hg⟩ := hrel
    have HB2 := Lib.hid hB; have HG := Lib.hid hg
    clear hg
    by_cases hlt : k < cap
    · obtain ⟨y, hy⟩ := hB.cell k (by omega)
      have hf := hB.frozen k
      have hz := hB.lt
      have d1 : (k : Int) < (cap : Int) := by omega
      clear hB
      go_wp2
      go_roundw
      case rel => exact ⟨k + 1, by omega, by go_num, HB2.out.set k _, HG.out.andThen (grown_setB wr g k _) (fun j e => by cases e; exact .inr rfl)⟩
      case measure => simp [intOf]; omega
    · obtain rfl : k = cap := by omega
      go_wp2
      go_end0
      exact ⟨rfl, HG.out⟩

theorem wp_append_room_src {P : Program} {w : World} {o : Oper} {a : Act} {K : Act → World → Prop} {Q : Exit → Act → World → Prop} (s x : Operand) (t : TypeId)
    (ho : o.op = .call { callee := .builtin .append, args := #[s, x], argTypes := #[t, t] })
    (base : Nat) (e : TypeId) (i : TypeInfo) (size : Nat) (ht : P.underlying t = some (.slice e)) (hi : P.info? e = some i) (hsize : i.size = size)
    (g k cap : Nat) (xs : List Value) (hs : a.eval s = .slice (some ⟨g, 0, none⟩) k cap) (hown : w.ownsRow base e size (.slice (some ⟨g, 0, none⟩) k cap) k xs)
    (sv : Value) (m : Nat) (news : List Value) (hx : a.eval x = sv) (hsrc : SrcAt w sv size m news) (h1 : ∀ u ∈ news, u.oneCell' = true) (b1 : k + m ≤ cap)
    (h : ∀ w', w'.ownsRow base e size (.slice (some ⟨g, 0, none⟩) (k + m) cap) (k + m) (xs ++ news) → w.grownBy w' (some g) → K (a.put o.dst (.slice (some ⟨g, 0, none⟩) (k + m) cap)) w') : Oper.wp P o a w K Q := by
  rcases hsrc with ⟨c, rfl, rfl, rfl, rfl⟩ | ⟨ad, c, rfl, hl, hc⟩
  · have hrun := run_append_owned_none (P := P) w base t o.type e i size ht hi _ k xs hown
    unfold Oper.wp
    simp [execOp, ho, resolve, invoke, builtin, hs, hx, hrun, Result.andThen]
    exact h w (by rw [List.append_nil]; exact hown) (World.grownBy.refl _ _)
  · obtain ⟨w', hrun, r1, r2⟩ := run_append_fits (P := P) w base t o.type e i size ht hi hsize g k cap xs hown ad m c news hl hc h1 b1
    unfold Oper.wp
    simp [execOp, ho, resolve, invoke, builtin, hs, hx, hrun, Result.andThen]
    exact h w' r1 r2
theorem step_append_room_src {P : Program} {ops : Array Oper} {w : World} {o : Oper} {a : Act} {K : Act → World → Prop} {Q : Exit → Act → World → Prop} {E : Prop} (hgd : o.guard = none) (s x : Operand) (t : TypeId)
    (ho : o.op = .call { callee := .builtin .append, args := #[s, x], argTypes := #[t, t] })
    (base : Nat) (e : TypeId) (i : TypeInfo) (size : Nat) (ht : P.underlying t = some (.slice e)) (hi : P.info? e = some i) (hsize : i.size = size)
    (g k cap : Nat) (xs : List Value) (hs : a.eval s = .slice (some ⟨g, 0, none⟩) k cap) (hown : w.ownsRow base e size (.slice (some ⟨g, 0, none⟩) k cap) k xs)
    (sv : Value) (m : Nat) (news : List Value) (hx : a.eval x = sv) (hsrc : SrcAt w sv size m news) (h1 : ∀ u ∈ news, u.oneCell' = true) (b1 : k + m ≤ cap)
    (h : ∀ w', w'.ownsRow base e size (.slice (some ⟨g, 0, none⟩) (k + m) cap) (k + m) (xs ++ news) → w.grownBy w' (some g) → K (a.put o.dst (.slice (some ⟨g, 0, none⟩) (k + m) cap)) w') :
    if Region.wanted o (yielded ops a.tmps) = true then Oper.wp P o a w K Q else E := by
  have hw : Region.wanted o (yielded ops a.tmps) = true := by simp [Region.wanted, hgd]
  rw [if_pos hw]
  exact wp_append_room_src s x t ho base e i size ht hi hsize g k cap xs hs hown sv m news hx hsrc h1 b1 h
theorem far_cellsA {w w' : World} {b p : Nat} {vs : List Value} (h : CellsAt w b vs) (g : w.grownBy w' (some p)) (hne : b ≠ p) : CellsAt w' b vs :=
  ⟨fun j v hj => by rw [World.cell?_of_block (a := ⟨b, j, none⟩) (g.block b h.lt (by simpa using hne))]; exact h.1 j v hj, fun o => by rw [World.frozen?_of_block (a := ⟨b, o, none⟩) (g.block b h.lt (by simpa using hne))]; exact h.2.1 o, Nat.lt_of_lt_of_le h.lt g.size⟩
theorem cells_srcA {w : World} {b : Nat} {vs : List Value} (h : CellsAt w b vs) : ∀ j u, vs[j]? = some u → w.cell? ((⟨b, 0, none⟩ : Addr).add j) = some u := by
  intro j u hj
  have := h.at_ j hj
  cases j <;> simpa [Addr.add] using this
theorem own_monoA {w : World} {base base' : Nat} {e : TypeId} {size : Nat} {v : Value} {n : Nat} {xs : List Value} (h : w.ownsRow base e size v n xs) (hb : base' ≤ base) : w.ownsRow base' e size v n xs :=
  ⟨h.1, h.2.imp id fun ⟨g, cap, cur, e, h1, h2⟩ => ⟨g, cap, cur, e, Nat.le_trans hb h1, h2⟩⟩

end Go.Proofs.Ytiocgmioijcjhaa

