/- What ample, stays and spoil compute. -/
import Derived.Test.YtglagndpholejaaConcat
import Derived.Test.YtglagndpholejaaCells
import Derived.Test.YtglagndpholejaaCut
import Derived.Laws.MakeOwn
import Derived.Laws.OwnMore
import Derived.Laws.IdiomCopy
import Derived.Deep.RegionLaw
import Derived.Laws.StructEq
import Derived.Deep.QuietTactic
import Derived.Deep.DeepCutAuto
namespace Go.Proofs.Ytglagndpholejaa
open Go.ChangeShapes Go.WideShapes Go.ChangeAt Go.RowKit
set_option linter.unusedVariables false

/-- behind ample: a row of the call's own, with two cells more, and room for a third one -/
def AmplePost (w : World) (E : TypeId) (k n : Nat) (cells : List Value) (e : Ending) (w' : World) : Prop :=
  ∃ g, e = .returned (.slice (some ⟨g, 0, none⟩) n (n + 3)) ∧ w'.ownsRow w.heap.size E k (.slice (some ⟨g, 0, none⟩) (n + 2) (n + 3)) (n + 2) cells ∧ Below w.heap.size w w'
def BlkOf (w : World) (g : Nat) (E : TypeId) (N : Nat) : Prop := ∃ cur, w.heap[g]? = some (.cells cur E (0, 0)) ∧ cur.size = N
theorem own_blk {w : World} {base g n cap k : Nat} {E : TypeId} {xs : List Value} (h : w.ownsRow base E k (.slice (some ⟨g, 0, none⟩) n cap) n xs) : BlkOf w g E (cap * k) ∧ base ≤ g ∧ g < w.heap.size := by
  rcases h.2 with ⟨h, -⟩ | ⟨g', cap', cur, e1, e2, e3, e4, e5, e6, -⟩
  · cases h
  · cases e1; exact ⟨⟨cur, e3, e6⟩, e2, (Array.getElem?_eq_some_iff.1 e3).1⟩
theorem BlkOf.cell {w : World} {g N : Nat} {E : TypeId} (h : BlkOf w g E N) (i : Nat) (hi : i < N) : ∃ v, w.cell? ⟨g, i, none⟩ = some v := by
  obtain ⟨cur, h1, h2⟩ := h
  rw [cell_of_row w g i cur E (0, 0) h1]
  exact ⟨cur[i]'(by omega), Array.getElem?_eq_getElem _⟩
theorem BlkOf.frozen {w : World} {g N : Nat} {E : TypeId} (h : BlkOf w g E N) (i : Nat) : w.frozen? ⟨g, i, none⟩ = false := by
  obtain ⟨cur, h1, h2⟩ := h
  simp [World.frozen?, h1]
theorem BlkOf.lt {w : World} {g N : Nat} {E : TypeId} (h : BlkOf w g E N) : g < w.heap.size := by
  obtain ⟨cur, h1, h2⟩ := h
  exact (Array.getElem?_eq_some_iff.1 h1).1
theorem BlkOf.set {w : World} {g N : Nat} {E : TypeId} (h : BlkOf w g E N) (i : Nat) (v : Value) : BlkOf (w.setCell ⟨g, i, none⟩ v) g E N := by
  obtain ⟨cur, h1, h2⟩ := h
  exact ⟨cur.setIfInBounds i v, by simp [World.setCell, Array.getElem?_modify, h1], by simpa using h2⟩
theorem BlkOf.drewN {w : World} {g N : Nat} {E : TypeId} (h : BlkOf w g E N) (k : Nat) : BlkOf (w.drewN k) g E N := h
theorem BlkOf.drew {w : World} {g N : Nat} {E : TypeId} (h : BlkOf w g E N) : BlkOf w.drew g E N := h
theorem BlkOf.later {w w' : World} {g N B : Nat} {E : TypeId} (h : BlkOf w g E N) (hb : Below B w w') (hg : g < B) : BlkOf w' g E N := by
  obtain ⟨cur, h1, h2⟩ := h
  exact ⟨cur, (hb.block g hg).trans h1, h2⟩
theorem BlkOf.alloc {w : World} {g N : Nat} {E : TypeId} (h : BlkOf w g E N) (o : Obj) : BlkOf (w.alloc o) g E N := h.later ((Below.refl w.heap.size w).alloc (Nat.le_refl _) o) h.lt
theorem own_far {w w' : World} {base k n g : Nat} {E : TypeId} {v : Value} {xs : List Value} (h : w.ownsRow base E k v n xs) (hg : w.grownBy w' (some g)) (hne : v.ownBlock ≠ some g) : w'.ownsRow base E k v n xs := by
  refine ⟨h.1, h.2.imp id fun ⟨g', cap, cur, e1, e2, e3, e4⟩ => ⟨g', cap, cur, e1, e2, ?_, e4⟩⟩
  subst e1
  rw [hg.block g' (Array.getElem?_eq_some_iff.1 e3).1 hne]; exact e3
theorem own_madeA {w : World} {E : TypeId} {k N : Nat} {zc : Array Value} (hN : N ≤ maxLen) : (w.alloc (.cells (madeCells zc (N * k)) E)).ownsRow w.heap.size E k (.slice (some ⟨w.heap.size, 0, none⟩) 0 N) 0 [] :=
  ⟨by simp, .inr ⟨w.heap.size, N, _, rfl, Nat.le_refl _, heap_alloc_new w _, Nat.zero_le _, hN, by simp [size_madeCells], by simp⟩⟩
theorem grown_setB (w : World) (b n : Nat) (u : Value) : w.grownBy (w.setCell ⟨b, n, none⟩ u) (some b) :=
  ⟨rfl, rfl, rfl, by simp [World.setCell], fun k _ hk => heap_setCell_other w ⟨b, n, none⟩ k u (fun e => hk (by rw [e]))⟩
theorem src_bools {w : World} {v : Value} {xs : List Bool} (h : BoolsAt w v xs) : SrcAt w v 1 xs.length (xs.map .bool) := by
  rcases h with ⟨rfl, rfl | ⟨a, cap, rfl⟩⟩ | ⟨h0, b, off, cap, rfl, h1, h2, h3⟩
  · exact .inl ⟨0, rfl, rfl, rfl, rfl⟩
  · exact .inr ⟨a, cap, rfl, rfl, by simp⟩
  · refine .inr ⟨_, cap, rfl, by simp, fun j u hj => ?_⟩
    rw [List.getElem?_map] at hj
    by_cases hl : j < xs.length
    · have h4 := h3 j hl
      rw [List.getElem?_eq_getElem hl] at hj
      rw [List.getD_eq_getElem?_getD, List.getElem?_eq_getElem hl] at h4
      simp only [Option.map_some, Option.some.injEq] at hj
      subst hj
      cases j <;> simpa [Addr.add] using h4
    · rw [List.getElem?_eq_none (by omega)] at hj
      simp at hj
theorem two_cells {w : World} {E : TypeId} (x y : Value) : ∀ j u, ([x, y] : List Value)[j]? = some u → (w.alloc (.cells #[x, y] E)).cell? ((⟨w.heap.size, 0, none⟩ : Addr).add j) = some u := by
  intro j u h
  have hc := CellsAt.new w [x, y] #[x, y] E rfl
  have := hc.at_ j h
  cases j <;> simpa [Addr.add] using this
/-- append of single cells where there is room: what holds of all cells of the block holds of them behind it -/
theorem wpList_append_room_all {P : Program} {w : World} {ops : Array Oper} {rest : List Oper} {o : Oper} {a : Act} {Q : Exit → Act → World → Prop} (hgd : o.guard = none) (s x : Operand) (t : TypeId)
    (ho : o.op = .call { callee := .builtin .append, args := #[s, x], argTypes := #[t, t] })
    (base : Nat) (e : TypeId) (i : TypeInfo) (ht : P.underlying t = some (.slice e)) (hi : P.info? e = some i) (hsize : i.size = 1)
    (g k cap : Nat) (xs : List Value) (hs : a.eval s = .slice (some ⟨g, 0, none⟩) k cap) (hown : w.ownsRow base e 1 (.slice (some ⟨g, 0, none⟩) k cap) k xs)
    (sv : Value) (m : Nat) (news : List Value) (hx : a.eval x = sv) (hsrc : SrcAt w sv 1 m news) (h1 : ∀ u ∈ news, u.oneCell' = true) (b1 : k + m ≤ cap)
    (Pv : Value → Prop) (hp : ∀ u ∈ news, Pv u) (hall : ∀ j, j < cap → ∃ v, w.cell? ⟨g, j, none⟩ = some v ∧ Pv v)
    (h : ∀ w', w'.ownsRow base e 1 (.slice (some ⟨g, 0, none⟩) (k + m) cap) (k + m) (xs ++ news) → w.grownBy w' (some g) → (∀ j, j < cap → ∃ v, w'.cell? ⟨g, j, none⟩ = some v ∧ Pv v) → wpList P ops Q rest (a.put o.dst (.slice (some ⟨g, 0, none⟩) (k + m) cap)) w') : wpList P ops Q (o :: rest) a w := by
  rcases hsrc with ⟨c, rfl, rfl, rfl, rfl⟩ | ⟨ad, c, rfl, hl, hc⟩
  · refine wpList_plain hgd fun K hK' => ?_
    have hrun := run_append_owned_none (P := P) w base t o.type e i 1 ht hi _ k xs hown
    unfold Oper.wp
    simp [execOp, ho, resolve, invoke, builtin, hs, hx, hrun, Result.andThen]
    exact hK' _ _ (h w (by rw [List.append_nil]; exact hown) (World.grownBy.refl _ _) hall)
  · refine wpList_plain hgd fun K hK' => ?_
    obtain ⟨w', hrun, r1, r2⟩ := run_append_fits (P := P) w base t o.type e i 1 ht hi hsize g k cap xs hown ad m c news hl hc h1 b1
    have hb := (own_blk hown).1
    rw [Nat.mul_one] at hl hb
    have hsp : ∀ j, j < news.length → (w.cell? ⟨g, 0 + k * i.size + j, none⟩).isSome = true := fun j hj => by
      obtain ⟨v, hv⟩ := hb.cell (0 + k * i.size + j) (by rw [hsize]; omega)
      rw [hv]; rfl
    have hrun2 := run_append_room_cells (P := P) w t o.type e i ht hi g 0 k cap ad m c news (by rw [hsize]; omega) hc h1 b1 hsp (fun j _ => hb.frozen _)
    rw [hrun] at hrun2
    injection hrun2 with _ hw
    have hall' : ∀ j, j < cap → ∃ v, w'.cell? ⟨g, j, none⟩ = some v ∧ Pv v := by
      intro j hj
      rw [hw]
      by_cases hin : 0 + k * i.size ≤ j ∧ j < 0 + k * i.size + news.length
      · obtain ⟨q, hq⟩ : ∃ q, j = 0 + k * i.size + q := ⟨j - (0 + k * i.size), by omega⟩
        rw [hq, World.cell?_setCells_in g news _ w hsp q (by omega)]
        exact ⟨_, rfl, hp _ (List.getElem_mem _)⟩
      · rw [World.cell?_setCells_out g news _ w ⟨g, j, none⟩ (fun _ _ => by show j < _ ∨ _ ≤ j; omega)]
        exact hall j hj
    unfold Oper.wp
    simp [execOp, ho, resolve, invoke, builtin, hs, hx, hrun, Result.andThen]
    exact hK' _ _ (h w' r1 r2 hall')
/-- behind spoil: nothing but that block has turned -/
def SpoilPost (w : World) (g : Nat) (e : Ending) (w' : World) : Prop := e = .returned (.tuple #[]) ∧ w.grownBy w' (some g)
def SpRel (w0 : World) (g : Nat) (E : TypeId) (cap N : Nat) (i : Value) (w : World) : Prop := ∃ k : Nat, k ≤ cap ∧ i = .int .i64 k ∧ BlkOf w g E N ∧ w0.grownBy w (some g)

theorem infoA_i32 : (Try.prog.info? 21).map (fun i => (i.zero, i.size, i.bytes)) = some (some (.int .i32 0), 1, 4) := by kernel_rfl
set_option maxHeartbeats 4000000 in
set_option maxRecDepth 100000 in
theorem ample_i32 (n : Nat) (news : List Value) (v : Value) (x : Int) (w : World) (hv : SrcAt w v 1 n news) (ho : ∀ u ∈ news, u.oneCell' = true) (hn : (n + 3) * 4 ≤ 281474976710656) :
    Calls Try.prog 14 #[v, .int .i32 x] w (AmplePost w 21 1 n (news ++ [.int .i32 x, .int .i32 x])) := by
  obtain ⟨i0, hi, hz0, hz1, hz2⟩ := info_parts infoA_i32
  obtain ⟨a, c, rfl⟩ := hv.form
  have hmk : ∀ W : World, (Instr.makeSlice 22 (.int .i64 0) (.int .i64 ((n : Int) + 3))).run Try.prog W = .ok (.slice (some ⟨W.heap.size, 0, none⟩) 0 (n + 3)) (W.alloc (.cells (madeCells #[.int .i32 0] (n + 3)) 21)) := by
    intro W
    have := run_make (P := Try.prog) W 22 21 i0 (.int .i32 0) Try.underlying22 hi hz0 .i64 .i64 0 ((n : Int) + 3) (by omega) (by omega) (by rw [hz2]; omega) (by omega)
    rw [this, hz1, show ((n : Int) + 3).toNat = n + 3 by omega]
    simp [Value.cells]
  have HV := Lib.hid hv; have HO := Lib.hid ho
  have how0 := own_madeA (w := w) (E := 21) (k := 1) (N := n + 3) (zc := #[.int .i32 0]) (by unfold maxLen; omega)
  rw [Nat.mul_one] at how0
  have how := Lib.hid how0
  clear how0
  have hb1 : Hid (Below w.heap.size w (w.alloc (.cells (madeCells #[.int .i32 0] (n + 3)) 21))) := (Below.refl _ _).alloc (Nat.le_refl _) _
  have hn' : n + 3 ≤ 281474976710656 := by omega
  clear hv ho
  go_enter Try.func14, Try.ntmps14
  go_wp2_with (at_builtin; refine wpList_append_room_src rfl _ _ 22 rfl w.heap.size 21 i0 1 Try.underlying22 hi hz1 w.heap.size 0 (n + 3) [] (by first | rfl | simp [Act.eval]) how.out _ n news rfl (HV.out.below hb1.out (Nat.le_refl _)) HO.out (by omega) ?_)
  intro w1 hown hg
  try rw [List.nil_append, Nat.zero_add] at hown
  have HO1 := Lib.hid hown
  have B1 := Lib.hid (hb1.out.grown hg hb1.out.size (fun j e => by cases e; exact Nat.le_refl _))
  have z1 := B1.out.size
  clear hown hg hmk
  go_wp2_with (at_builtin; refine wpList_append_room_src rfl _ _ 22 rfl w.heap.size 21 i0 1 Try.underlying22 hi hz1 w.heap.size n (n + 3) news (by first | rfl | simp [Act.eval]) (HO1.out.alloc _) _ 2 [.int .i32 x, .int .i32 x] rfl (.inr ⟨⟨w1.heap.size, 0, none⟩, 2, by first | rfl | simp [Act.eval], rfl, two_cells _ _⟩) (by simp [Value.oneCell']) (by omega) ?_)
  intro w2 hown hg
  have HO2 := Lib.hid hown
  have B2 : Hid (Below w.heap.size w w2) := B1.out.trans (((Below.refl w.heap.size w1).alloc z1 _).grown hg (by simp; omega) (fun j e => by cases e; exact Nat.le_refl _))
  clear hown hg
  go_wp2
  go_ret
  exact ⟨w.heap.size, rfl, HO2.out, B2.out⟩

set_option maxHeartbeats 4000000 in
set_option maxRecDepth 100000 in
theorem stays_i32 (xs : List Int) (g : Nat) (u : Value) (x : Int) (w : World) (hv : IntsAt .i32 w (.slice (some ⟨g, 0, none⟩) xs.length (xs.length + 3)) xs) (hu : IntsAt .i32 w u xs) (hx : xs.length ≤ 281474976710656)
    (c1 : w.cell? ⟨g, xs.length, none⟩ = some (.int .i32 x)) (c2 : w.cell? ⟨g, xs.length + 1, none⟩ = some (.int .i32 x)) :
    Calls Try.prog 16 #[.slice (some ⟨g, 0, none⟩) xs.length (xs.length + 3), u, .int .i32 x] w fun e w' => e = .returned (.bool true) ∧ ∃ m, w' = w.drewN m := by
  have HV := Lib.hid hv; have HU := Lib.hid hu
  have e1 : ((xs.length : Int) + 1).toNat = xs.length + 1 := by omega
  have e2 : (x == x) = true := by simp
  clear hv hu
  go_enter Try.func16, Try.ntmps16
  go_wp2_with fail
  refine (equal_i32 xs xs _ u _ HV.out HU.out (by omega) (by omega)).mono ?_
  rintro e w1 ⟨m, rfl, rfl⟩
  rw [show decide (xs = xs) = true from decide_eq_true rfl]
  replace c1 : (w.drewN m).cell? ⟨g, xs.length, none⟩ = some (.int .i32 x) := c1
  replace c2 : (w.drewN m).cell? ⟨g, xs.length + 1, none⟩ = some (.int .i32 x) := c2
  go_wp2
  go_ret
  exact ⟨rfl, m, rfl⟩

set_option maxHeartbeats 4000000 in
set_option maxRecDepth 100000 in
theorem spoil_i32 (g n cap : Nat) (x : Int) (w : World) (hb : BlkOf w g 21 (cap * 1)) (hn : n ≤ cap) (hc : cap ≤ 9223372036854775807) :
    Calls Try.prog 18 #[.slice (some ⟨g, 0, none⟩) n cap, .int .i32 x] w (SpoilPost w g) := by
  have HB := Lib.hid hb
  clear hb
  go_enter Try.func18, Try.ntmps18
  go_wp2
  go_loopw [11] (fun i wr => SpRel w g 21 cap (cap * 1) i wr) (fun i _ => cap - (intOf i).toNat)
  case atStart => exact ⟨0, Nat.zero_le _, rfl, HB.out, World.grownBy.refl _ _⟩
  case round =>
    obtain ⟨k, hk, rfl, hB, hg⟩ := hrel
    have HB2 := Lib.hid hB; have HG := Lib.hid hg
    clear hg
    by_cases hlt : k < cap
    · obtain ⟨y, hy⟩ := hB.cell k (by omega)
      have hf := hB.frozen k
      have hz := hB.lt
      have d1 : (k : Int) < (cap : Int) := by omega
      clear hB
      go_wp2
      go_roundw
      case rel => exact ⟨k + 1, by omega, by go_num, HB2.out.set k _, HG.out.andThen (grown_setB wr g k _) (fun j e => by cases e; exact .inr rfl)⟩
      case measure => simp [intOf]; omega
    · obtain rfl : k = cap := by omega
      go_wp2
      go_end0
      exact ⟨rfl, HG.out⟩

theorem infoA_u8 : (Try.prog.info? 5).map (fun i => (i.zero, i.size, i.bytes)) = some (some (.int .u8 0), 1, 1) := by kernel_rfl
set_option maxHeartbeats 4000000 in
set_option maxRecDepth 100000 in
theorem ample_u8 (n : Nat) (news : List Value) (v : Value) (x : Int) (w : World) (hv : SrcAt w v 1 n news) (ho : ∀ u ∈ news, u.oneCell' = true) (hn : (n + 3) * 1 ≤ 281474976710656) :
    Calls Try.prog 31 #[v, .int .u8 x] w (AmplePost w 5 1 n (news ++ [.int .u8 x, .int .u8 x])) := by
  obtain ⟨i0, hi, hz0, hz1, hz2⟩ := info_parts infoA_u8
  obtain ⟨a, c, rfl⟩ := hv.form
  have hmk : ∀ W : World, (Instr.makeSlice 56 (.int .i64 0) (.int .i64 ((n : Int) + 3))).run Try.prog W = .ok (.slice (some ⟨W.heap.size, 0, none⟩) 0 (n + 3)) (W.alloc (.cells (madeCells #[.int .u8 0] (n + 3)) 5)) := by
    intro W
    have := run_make (P := Try.prog) W 56 5 i0 (.int .u8 0) Try.underlying56 hi hz0 .i64 .i64 0 ((n : Int) + 3) (by omega) (by omega) (by rw [hz2]; omega) (by omega)
    rw [this, hz1, show ((n : Int) + 3).toNat = n + 3 by omega]
    simp [Value.cells]
  have HV := Lib.hid hv; have HO := Lib.hid ho
  have how0 := own_madeA (w := w) (E := 5) (k := 1) (N := n + 3) (zc := #[.int .u8 0]) (by unfold maxLen; omega)
  rw [Nat.mul_one] at how0
  have how := Lib.hid how0
  clear how0
  have hb1 : Hid (Below w.heap.size w (w.alloc (.cells (madeCells #[.int .u8 0] (n + 3)) 5))) := (Below.refl _ _).alloc (Nat.le_refl _) _
  have hn' : n + 3 ≤ 281474976710656 := by omega
  clear hv ho
  go_enter Try.func31, Try.ntmps31
  go_wp2_with (at_builtin; refine wpList_append_room_src rfl _ _ 56 rfl w.heap.size 5 i0 1 Try.underlying56 hi hz1 w.heap.size 0 (n + 3) [] (by first | rfl | simp [Act.eval]) how.out _ n news rfl (HV.out.below hb1.out (Nat.le_refl _)) HO.out (by omega) ?_)
  intro w1 hown hg
  try rw [List.nil_append, Nat.zero_add] at hown
  have HO1 := Lib.hid hown
  have B1 := Lib.hid (hb1.out.grown hg hb1.out.size (fun j e => by cases e; exact Nat.le_refl _))
  have z1 := B1.out.size
  clear hown hg hmk
  go_wp2_with (at_builtin; refine wpList_append_room_src rfl _ _ 56 rfl w.heap.size 5 i0 1 Try.underlying56 hi hz1 w.heap.size n (n + 3) news (by first | rfl | simp [Act.eval]) (HO1.out.alloc _) _ 2 [.int .u8 x, .int .u8 x] rfl (.inr ⟨⟨w1.heap.size, 0, none⟩, 2, by first | rfl | simp [Act.eval], rfl, two_cells _ _⟩) (by simp [Value.oneCell']) (by omega) ?_)
  intro w2 hown hg
  have HO2 := Lib.hid hown
  have B2 : Hid (Below w.heap.size w w2) := B1.out.trans (((Below.refl w.heap.size w1).alloc z1 _).grown hg (by simp; omega) (fun j e => by cases e; exact Nat.le_refl _))
  clear hown hg
  go_wp2
  go_ret
  exact ⟨w.heap.size, rfl, HO2.out, B2.out⟩

set_option maxHeartbeats 4000000 in
set_option maxRecDepth 100000 in
theorem stays_u8 (xs : List Int) (g : Nat) (u : Value) (x : Int) (w : World) (hv : IntsAt .u8 w (.slice (some ⟨g, 0, none⟩) xs.length (xs.length + 3)) xs) (hu : IntsAt .u8 w u xs) (hx : xs.length ≤ 281474976710656)
    (c1 : w.cell? ⟨g, xs.length, none⟩ = some (.int .u8 x)) (c2 : w.cell? ⟨g, xs.length + 1, none⟩ = some (.int .u8 x)) :
    Calls Try.prog 36 #[.slice (some ⟨g, 0, none⟩) xs.length (xs.length + 3), u, .int .u8 x] w fun e w' => e = .returned (.bool true) ∧ ∃ m, w' = w.drewN m := by
  have HV := Lib.hid hv; have HU := Lib.hid hu
  have e1 : ((xs.length : Int) + 1).toNat = xs.length + 1 := by omega
  have e2 : (x == x) = true := by simp
  clear hv hu
  go_enter Try.func36, Try.ntmps36
  go_wp2_with fail
  refine (equal_u8 xs xs _ u _ HV.out HU.out (by omega) (by omega)).mono ?_
  rintro e w1 ⟨m, rfl, rfl⟩
  rw [show decide (xs = xs) = true from decide_eq_true rfl]
  replace c1 : (w.drewN m).cell? ⟨g, xs.length, none⟩ = some (.int .u8 x) := c1
  replace c2 : (w.drewN m).cell? ⟨g, xs.length + 1, none⟩ = some (.int .u8 x) := c2
  go_wp2
  go_ret
  exact ⟨rfl, m, rfl⟩

set_option maxHeartbeats 4000000 in
set_option maxRecDepth 100000 in
theorem spoil_u8 (g n cap : Nat) (x : Int) (w : World) (hb : BlkOf w g 5 (cap * 1)) (hn : n ≤ cap) (hc : cap ≤ 9223372036854775807) :
    Calls Try.prog 40 #[.slice (some ⟨g, 0, none⟩) n cap, .int .u8 x] w (SpoilPost w g) := by
  have HB := Lib.hid hb
  clear hb
  go_enter Try.func40, Try.ntmps40
  go_wp2
  go_loopw [11] (fun i wr => SpRel w g 5 cap (cap * 1) i wr) (fun i _ => cap - (intOf i).toNat)
  case atStart => exact ⟨0, Nat.zero_le _, rfl, HB.out, World.grownBy.refl _ _⟩
  case round =>
    obtain ⟨k, hk, rfl, hB, hg⟩ := hrel
    have HB2 := Lib.hid hB; have HG := Lib.hid hg
    clear hg
    by_cases hlt : k < cap
    · obtain ⟨y, hy⟩ := hB.cell k (by omega)
      have hf := hB.frozen k
      have hz := hB.lt
      have d1 : (k : Int) < (cap : Int) := by omega
      clear hB
      go_wp2
      go_roundw
      case rel => exact ⟨k + 1, by omega, by go_num, HB2.out.set k _, HG.out.andThen (grown_setB wr g k _) (fun j e => by cases e; exact .inr rfl)⟩
      case measure => simp [intOf]; omega
    · obtain rfl : k = cap := by omega
      go_wp2
      go_end0
      exact ⟨rfl, HG.out⟩

theorem infoA_bool : (Try.prog.info? 4).map (fun i => (i.zero, i.size, i.bytes)) = some (some (.bool false), 1, 1) := by kernel_rfl
def IsB (v : Value) : Prop := ∃ b : Bool, v = .bool b
def AmplePostB (w : World) (E : TypeId) (n : Nat) (cells : List Value) (e : Ending) (w' : World) : Prop :=
  ∃ g, e = .returned (.slice (some ⟨g, 0, none⟩) n (n + 3)) ∧ w'.ownsRow w.heap.size E 1 (.slice (some ⟨g, 0, none⟩) (n + 2) (n + 3)) (n + 2) cells ∧ Below w.heap.size w w' ∧ ∀ j, j < n + 3 → ∃ v, w'.cell? ⟨g, j, none⟩ = some v ∧ IsB v
set_option maxHeartbeats 4000000 in
set_option maxRecDepth 100000 in
theorem ample_bool (n : Nat) (news : List Value) (v : Value) (x : Bool) (w : World) (hv : SrcAt w v 1 n news) (ho : ∀ u ∈ news, u.oneCell' = true) (hbn : ∀ u ∈ news, IsB u) (hn : (n + 3) * 1 ≤ 281474976710656) :
    Calls Try.prog 32 #[v, .bool x] w (AmplePostB w 4 n (news ++ [.bool x, .bool x])) := by
  obtain ⟨i0, hi, hz0, hz1, hz2⟩ := info_parts infoA_bool
  obtain ⟨a, c, rfl⟩ := hv.form
  have hmk : ∀ W : World, (Instr.makeSlice 57 (.int .i64 0) (.int .i64 ((n : Int) + 3))).run Try.prog W = .ok (.slice (some ⟨W.heap.size, 0, none⟩) 0 (n + 3)) (W.alloc (.cells (madeCells #[.bool false] (n + 3)) 4)) := by
    intro W
    have := run_make (P := Try.prog) W 57 4 i0 (.bool false) Try.underlying57 hi hz0 .i64 .i64 0 ((n : Int) + 3) (by omega) (by omega) (by rw [hz2]; omega) (by omega)
    rw [this, hz1, show ((n : Int) + 3).toNat = n + 3 by omega]
    simp [Value.cells]
  have HV := Lib.hid hv; have HO := Lib.hid ho; have HBN := Lib.hid hbn
  have hm0 : ∀ j, j < n + 3 → ∃ v, (w.alloc (.cells (madeCells #[.bool false] (n + 3)) 4)).cell? ⟨w.heap.size, j, none⟩ = some v ∧ IsB v := fun j hj => ⟨.bool false, by
    rw [cell_of_row _ _ j _ _ (0, 0) (heap_alloc_new w _)]
    simp [madeCells, hj, Nat.mod_one], false, rfl⟩
  have HM0 := Lib.hid hm0
  clear hbn hm0
  have how0 := own_madeA (w := w) (E := 4) (k := 1) (N := n + 3) (zc := #[.bool false]) (by unfold maxLen; omega)
  rw [Nat.mul_one] at how0
  have how := Lib.hid how0
  clear how0
  have hb1 : Hid (Below w.heap.size w (w.alloc (.cells (madeCells #[.bool false] (n + 3)) 4))) := (Below.refl _ _).alloc (Nat.le_refl _) _
  have hn' : n + 3 ≤ 281474976710656 := by omega
  clear hv ho
  go_enter Try.func32, Try.ntmps32
  go_wp2_with (at_builtin; refine wpList_append_room_all rfl _ _ 57 rfl w.heap.size 4 i0 Try.underlying57 hi hz1 w.heap.size 0 (n + 3) [] (by first | rfl | simp [Act.eval]) how.out _ n news rfl (HV.out.below hb1.out (Nat.le_refl _)) HO.out (by omega) IsB HBN.out HM0.out ?_)
  intro w1 hown hg hm1
  have HM1 := Lib.hid hm1
  clear hm1
  try rw [List.nil_append, Nat.zero_add] at hown
  have HO1 := Lib.hid hown
  have B1 := Lib.hid (hb1.out.grown hg hb1.out.size (fun j e => by cases e; exact Nat.le_refl _))
  have z1 := B1.out.size
  clear hown hg hmk
  go_wp2_with (at_builtin; refine wpList_append_room_all rfl _ _ 57 rfl w.heap.size 4 i0 Try.underlying57 hi hz1 w.heap.size n (n + 3) news (by first | rfl | simp [Act.eval]) (HO1.out.alloc _) _ 2 [.bool x, .bool x] rfl (.inr ⟨⟨w1.heap.size, 0, none⟩, 2, by first | rfl | simp [Act.eval], rfl, two_cells _ _⟩) (by simp [Value.oneCell']) (by omega) IsB (by intro u hu; simp at hu; subst hu; exact ⟨x, rfl⟩) (fun j hj => by obtain ⟨v, h1, h2⟩ := HM1.out j hj; exact ⟨v, cell_new' h1, h2⟩) ?_)
  intro w2 hown hg hm2
  have HM2 := Lib.hid hm2
  clear hm2
  have HO2 := Lib.hid hown
  have B2 : Hid (Below w.heap.size w w2) := B1.out.trans (((Below.refl w.heap.size w1).alloc z1 _).grown hg (by simp; omega) (fun j e => by cases e; exact Nat.le_refl _))
  clear hown hg
  go_wp2
  go_ret
  exact ⟨w.heap.size, rfl, HO2.out, B2.out, HM2.out⟩

set_option maxHeartbeats 4000000 in
set_option maxRecDepth 100000 in
theorem stays_bool (xs : List Bool) (g : Nat) (u : Value) (x : Bool) (w : World) (hv : BoolsAt w (.slice (some ⟨g, 0, none⟩) xs.length (xs.length + 3)) xs) (hu : BoolsAt w u xs) (hx : xs.length ≤ 281474976710656)
    (c1 : w.cell? ⟨g, xs.length, none⟩ = some (.bool x)) (c2 : w.cell? ⟨g, xs.length + 1, none⟩ = some (.bool x)) :
    Calls Try.prog 37 #[.slice (some ⟨g, 0, none⟩) xs.length (xs.length + 3), u, .bool x] w fun e w' => e = .returned (.bool true) ∧ ∃ m, w' = w.drewN m := by
  have HV := Lib.hid hv; have HU := Lib.hid hu
  have e1 : ((xs.length : Int) + 1).toNat = xs.length + 1 := by omega
  have e2 : (x == x) = true := by simp
  clear hv hu
  go_enter Try.func37, Try.ntmps37
  go_wp2_with fail
  refine (equal_bool xs xs _ u _ HV.out HU.out (by omega) (by omega)).mono ?_
  rintro e w1 ⟨m, rfl, rfl⟩
  rw [show decide (xs = xs) = true from decide_eq_true rfl]
  replace c1 : (w.drewN m).cell? ⟨g, xs.length, none⟩ = some (.bool x) := c1
  replace c2 : (w.drewN m).cell? ⟨g, xs.length + 1, none⟩ = some (.bool x) := c2
  go_wp2
  go_ret
  exact ⟨rfl, m, rfl⟩

theorem wp_append_room_src {P : Program} {w : World} {o : Oper} {a : Act} {K : Act → World → Prop} {Q : Exit → Act → World → Prop} (s x : Operand) (t : TypeId)
    (ho : o.op = .call { callee := .builtin .append, args := #[s, x], argTypes := #[t, t] })
    (base : Nat) (e : TypeId) (i : TypeInfo) (size : Nat) (ht : P.underlying t = some (.slice e)) (hi : P.info? e = some i) (hsize : i.size = size)
    (g k cap : Nat) (xs : List Value) (hs : a.eval s = .slice (some ⟨g, 0, none⟩) k cap) (hown : w.ownsRow base e size (.slice (some ⟨g, 0, none⟩) k cap) k xs)
    (sv : Value) (m : Nat) (news : List Value) (hx : a.eval x = sv) (hsrc : SrcAt w sv size m news) (h1 : ∀ u ∈ news, u.oneCell' = true) (b1 : k + m ≤ cap)
    (h : ∀ w', w'.ownsRow base e size (.slice (some ⟨g, 0, none⟩) (k + m) cap) (k + m) (xs ++ news) → w.grownBy w' (some g) → K (a.put o.dst (.slice (some ⟨g, 0, none⟩) (k + m) cap)) w') : Oper.wp P o a w K Q := by
  rcases hsrc with ⟨c, rfl, rfl, rfl, rfl⟩ | ⟨ad, c, rfl, hl, hc⟩
  · have hrun := run_append_owned_none (P := P) w base t o.type e i size ht hi _ k xs hown
    unfold Oper.wp
    simp [execOp, ho, resolve, invoke, builtin, hs, hx, hrun, Result.andThen]
    exact h w (by rw [List.append_nil]; exact hown) (World.grownBy.refl _ _)
  · obtain ⟨w', hrun, r1, r2⟩ := run_append_fits (P := P) w base t o.type e i size ht hi hsize g k cap xs hown ad m c news hl hc h1 b1
    unfold Oper.wp
    simp [execOp, ho, resolve, invoke, builtin, hs, hx, hrun, Result.andThen]
    exact h w' r1 r2
theorem step_append_room_src {P : Program} {ops : Array Oper} {w : World} {o : Oper} {a : Act} {K : Act → World → Prop} {Q : Exit → Act → World → Prop} {E : Prop} (hgd : o.guard = none) (s x : Operand) (t : TypeId)
    (ho : o.op = .call { callee := .builtin .append, args := #[s, x], argTypes := #[t, t] })
    (base : Nat) (e : TypeId) (i : TypeInfo) (size : Nat) (ht : P.underlying t = some (.slice e)) (hi : P.info? e = some i) (hsize : i.size = size)
    (g k cap : Nat) (xs : List Value) (hs : a.eval s = .slice (some ⟨g, 0, none⟩) k cap) (hown : w.ownsRow base e size (.slice (some ⟨g, 0, none⟩) k cap) k xs)
    (sv : Value) (m : Nat) (news : List Value) (hx : a.eval x = sv) (hsrc : SrcAt w sv size m news) (h1 : ∀ u ∈ news, u.oneCell' = true) (b1 : k + m ≤ cap)
    (h : ∀ w', w'.ownsRow base e size (.slice (some ⟨g, 0, none⟩) (k + m) cap) (k + m) (xs ++ news) → w.grownBy w' (some g) → K (a.put o.dst (.slice (some ⟨g, 0, none⟩) (k + m) cap)) w') :
    if Region.wanted o (yielded ops a.tmps) = true then Oper.wp P o a w K Q else E := by
  have hw : Region.wanted o (yielded ops a.tmps) = true := by simp [Region.wanted, hgd]
  rw [if_pos hw]
  exact wp_append_room_src s x t ho base e i size ht hi hsize g k cap xs hs hown sv m news hx hsrc h1 b1 h
theorem far_cellsA {w w' : World} {b p : Nat} {vs : List Value} (h : CellsAt w b vs) (g : w.grownBy w' (some p)) (hne : b ≠ p) : CellsAt w' b vs :=
  ⟨fun j v hj => by rw [World.cell?_of_block (a := ⟨b, j, none⟩) (g.block b h.lt (by simpa using hne))]; exact h.1 j v hj, fun o => by rw [World.frozen?_of_block (a := ⟨b, o, none⟩) (g.block b h.lt (by simpa using hne))]; exact h.2.1 o, Nat.lt_of_lt_of_le h.lt g.size⟩
theorem cells_srcA {w : World} {b : Nat} {vs : List Value} (h : CellsAt w b vs) : ∀ j u, vs[j]? = some u → w.cell? ((⟨b, 0, none⟩ : Addr).add j) = some u := by
  intro j u hj
  have := h.at_ j hj
  cases j <;> simpa [Addr.add] using this
theorem own_monoA {w : World} {base base' : Nat} {e : TypeId} {size : Nat} {v : Value} {n : Nat} {xs : List Value} (h : w.ownsRow base e size v n xs) (hb : base' ≤ base) : w.ownsRow base' e size v n xs :=
  ⟨h.1, h.2.imp id fun ⟨g, cap, cur, e, h1, h2⟩ => ⟨g, cap, cur, e, Nat.le_trans hb h1, h2⟩⟩

theorem infoA_past : (Try.prog.info? 60).map (fun i => (i.zero, i.size, i.bytes)) = some (some (.agg #[.int .i64 0, .int .i64 0, .int .i64 0]), 3, 24) := by kernel_rfl
set_option maxHeartbeats 8000000 in
set_option maxRecDepth 100000 in
theorem ample_past (n : Nat) (news : List Value) (v : Value) (a b c : Int) (w : World) (hv : SrcAt w v 3 n news) (ho : ∀ u ∈ news, u.oneCell' = true) (hn : (n + 3) * 24 ≤ 281474976710656) :
    Calls Try.prog 30 #[v, (.agg #[.int .i64 a, .int .i64 b, .int .i64 c])] w (AmplePost w 60 3 n (news ++ [.int .i64 a, .int .i64 b, .int .i64 c, .int .i64 a, .int .i64 b, .int .i64 c])) := by
  obtain ⟨i0, hi, hz0, hz1, hz2⟩ := info_parts infoA_past
  obtain ⟨aa, cc, rfl⟩ := hv.form
  have hml : n + 3 ≤ maxLen := by unfold maxLen; omega
  have hmk : ∀ W : World, (Instr.makeSlice 55 (.int .i64 0) (.int .i64 ((n : Int) + 3))).run Try.prog W = .ok (.slice (some ⟨W.heap.size, 0, none⟩) 0 (n + 3)) (W.alloc (.cells (madeCells #[.int .i64 0, .int .i64 0, .int .i64 0] ((n + 3) * 3)) 60)) := by
    intro W
    have := run_make (P := Try.prog) W 55 60 i0 (.agg #[.int .i64 0, .int .i64 0, .int .i64 0]) Try.underlying55 hi hz0 .i64 .i64 0 ((n : Int) + 3) (by omega) (by omega) (by rw [hz2]; omega) (by omega)
    rw [this, hz1, show ((n : Int) + 3).toNat = n + 3 by omega]
    simp [Value.cells]
  have HV := Lib.hid hv; have HO := Lib.hid ho
  have B1 : Hid (Below w.heap.size w (w.alloc (.cells #[.int .i64 a, .int .i64 b, .int .i64 c] 60))) := (Below.refl _ _).alloc (Nat.le_refl _) _
  have HX1 : Hid (CellsAt (w.alloc (.cells #[.int .i64 a, .int .i64 b, .int .i64 c] 60)) w.heap.size [.int .i64 a, .int .i64 b, .int .i64 c]) := CellsAt.new w _ _ _ rfl
  have hn' : n + 3 ≤ 281474976710656 := by omega
  have ew : IntKind.i64.wrap ((n : Int) + 3) = (n : Int) + 3 := IntWalk.i64_in _ (by omega)
  clear hv ho
  go_enter Try.func30, Try.ntmps30
  go_upto_region 1 with (fail)
  have x0 := HX1.out.at_ 0 rfl
  have x1 := HX1.out.at_ 1 rfl
  have x2 := HX1.out.at_ 2 rfl
  skip
  have z1 := HX1.out.lt
  generalize w.alloc (.cells #[.int .i64 a, .int .i64 b, .int .i64 c] 60) = w1 at *
  have how0 := own_monoA (own_madeA (w := w1) (E := 60) (k := 3) (N := n + 3) (zc := #[.int .i64 0, .int .i64 0, .int .i64 0]) hml) (Nat.le_of_lt z1)
  have how1 := own_monoA (own_madeA (w := w1.alloc (.cells #[.int .i64 a, .int .i64 b, .int .i64 c, .int .i64 a, .int .i64 b, .int .i64 c] 60)) (E := 60) (k := 3) (N := n + 3) (zc := #[.int .i64 0, .int .i64 0, .int .i64 0]) hml) (show w.heap.size ≤ (w1.alloc (.cells #[.int .i64 a, .int .i64 b, .int .i64 c, .int .i64 a, .int .i64 b, .int .i64 c] 60)).heap.size from Nat.le_trans (Nat.le_of_lt z1) (by simp))
  rw [show (w1.alloc (.cells #[.int .i64 a, .int .i64 b, .int .i64 c, .int .i64 a, .int .i64 b, .int .i64 c] 60)).heap.size = w1.heap.size + 1 by simp] at how1
  have HOW0 := Lib.hid how0; have HOW1 := Lib.hid how1
  clear how0 how1
  go_region_law? (first | (refine step_append_room_src rfl (.tmp 9) (.tmp 10) 55 rfl w.heap.size 60 i0 3 Try.underlying55 hi hz1 w1.heap.size 0 (n + 3) [] (by simp [Act.eval]) (by first | exact HOW0.out | exact HOW0.out.alloc _) _ n news (by first | rfl | (simp [Act.eval]; done) | (simp [Act.eval]; rfl)) (HV.out.below (by first | exact B1.out | exact B1.out.drew | exact (B1.out.drew.alloc (by first | exact Nat.le_of_lt z1 | (simp; omega)) _) | exact ((B1.out.drew.alloc (by first | exact Nat.le_of_lt z1 | (simp; omega)) _).alloc (by simp; omega) _)) (Nat.le_refl _)) HO.out (by omega) ?_; intro w3 hown3 hg3; (try rw [List.nil_append, Nat.zero_add] at hown3); have BB3 := Below.grown (B := w.heap.size) (by first | exact B1.out | exact B1.out.drew | exact (B1.out.drew.alloc (by first | exact Nat.le_of_lt z1 | (simp; omega)) _) | exact ((B1.out.drew.alloc (by first | exact Nat.le_of_lt z1 | (simp; omega)) _).alloc (by simp; omega) _) : Below w.heap.size w _) hg3 (by first | omega | (simp; omega)) (fun j e => by cases e; first | omega | (simp; omega)); have HX3 : CellsAt w3 w.heap.size [.int .i64 a, .int .i64 b, .int .i64 c] := far_cellsA (by first | exact HX1.out.drew.alloc _ | exact (HX1.out.drew.alloc _).alloc _) hg3 (by omega); have y0 := HX3.at_ 0 rfl; have y1 := HX3.at_ 1 rfl; have y2 := HX3.at_ 2 rfl;  have yz := HX3.lt; (try have CB3 : CellsAt w3 (w1.heap.size + 1) [.int .i64 a, .int .i64 b, .int .i64 c, .int .i64 a, .int .i64 b, .int .i64 c] := (by first | exact far_cellsA (CellsAt.new' (by simp) rfl).drew hg3 (by omega) | exact far_cellsA (CellsAt.new' (by simp) rfl) hg3 (by omega))); (try have CB3 : CellsAt w3 w1.heap.size [.int .i64 a, .int .i64 b, .int .i64 c, .int .i64 a, .int .i64 b, .int .i64 c] := (by refine far_cellsA ?_ hg3 (by omega); exact ((CellsAt.new' rfl rfl).alloc _).drew))) | (refine step_append_room_src rfl (.tmp 9) (.tmp 10) 55 rfl w.heap.size 60 i0 3 Try.underlying55 hi hz1 (w1.heap.size + 1) 0 (n + 3) [] (by simp [Act.eval]) (by exact HOW1.out) _ n news (by first | rfl | (simp [Act.eval]; done) | (simp [Act.eval]; rfl)) (HV.out.below (by first | exact B1.out | exact B1.out.drew | exact (B1.out.drew.alloc (by first | exact Nat.le_of_lt z1 | (simp; omega)) _) | exact ((B1.out.drew.alloc (by first | exact Nat.le_of_lt z1 | (simp; omega)) _).alloc (by simp; omega) _)) (Nat.le_refl _)) HO.out (by omega) ?_; intro w3 hown3 hg3; (try rw [List.nil_append, Nat.zero_add] at hown3); have BB3 := Below.grown (B := w.heap.size) (by first | exact B1.out | exact B1.out.drew | exact (B1.out.drew.alloc (by first | exact Nat.le_of_lt z1 | (simp; omega)) _) | exact ((B1.out.drew.alloc (by first | exact Nat.le_of_lt z1 | (simp; omega)) _).alloc (by simp; omega) _) : Below w.heap.size w _) hg3 (by first | omega | (simp; omega)) (fun j e => by cases e; first | omega | (simp; omega)); have HX3 : CellsAt w3 w.heap.size [.int .i64 a, .int .i64 b, .int .i64 c] := far_cellsA (by first | exact HX1.out.drew.alloc _ | exact (HX1.out.drew.alloc _).alloc _) hg3 (by omega); have y0 := HX3.at_ 0 rfl; have y1 := HX3.at_ 1 rfl; have y2 := HX3.at_ 2 rfl;  have yz := HX3.lt; (try have CB3 : CellsAt w3 (w1.heap.size + 1) [.int .i64 a, .int .i64 b, .int .i64 c, .int .i64 a, .int .i64 b, .int .i64 c] := (by first | exact far_cellsA (CellsAt.new' (by simp) rfl).drew hg3 (by omega) | exact far_cellsA (CellsAt.new' (by simp) rfl) hg3 (by omega))); (try have CB3 : CellsAt w3 w1.heap.size [.int .i64 a, .int .i64 b, .int .i64 c, .int .i64 a, .int .i64 b, .int .i64 c] := (by refine far_cellsA ?_ hg3 (by omega); exact ((CellsAt.new' rfl rfl).alloc _).drew))) | (refine step_append_room_src rfl (.tmp 11) (.tmp 14) 55 rfl w.heap.size 60 i0 3 Try.underlying55 hi hz1 w1.heap.size n (n + 3) news (by simp [Act.eval]) (by first | exact hown3 | exact hown3.alloc _) _ 2 [.int .i64 a, .int .i64 b, .int .i64 c, .int .i64 a, .int .i64 b, .int .i64 c] (by first | rfl | (simp [Act.eval]; done) | (simp [Act.eval]; rfl)) (.inr ⟨⟨w3.heap.size, 0, none⟩, 2, rfl, rfl, cells_srcA (CellsAt.new _ _ _ _ rfl)⟩) (by simp [Value.oneCell']) (by omega) ?_; intro w4 hown4 hg4) | (refine step_append_room_src rfl (.tmp 11) (.tmp 14) 55 rfl w.heap.size 60 i0 3 Try.underlying55 hi hz1 w1.heap.size n (n + 3) news (by simp [Act.eval]) (by first | exact hown3 | exact hown3.alloc _) _ 2 [.int .i64 a, .int .i64 b, .int .i64 c, .int .i64 a, .int .i64 b, .int .i64 c] (by first | rfl | (simp [Act.eval]; done) | (simp [Act.eval]; rfl)) (.inr ⟨⟨(w1.heap.size + 1), 0, none⟩, 2, rfl, rfl, cells_srcA CB3⟩) (by simp [Value.oneCell']) (by omega) ?_; intro w4 hown4 hg4) | (refine step_append_room_src rfl (.tmp 11) (.tmp 14) 55 rfl w.heap.size 60 i0 3 Try.underlying55 hi hz1 w1.heap.size n (n + 3) news (by simp [Act.eval]) (by first | exact hown3 | exact hown3.alloc _) _ 2 [.int .i64 a, .int .i64 b, .int .i64 c, .int .i64 a, .int .i64 b, .int .i64 c] (by first | rfl | (simp [Act.eval]; done) | (simp [Act.eval]; rfl)) (.inr ⟨⟨w1.heap.size, 0, none⟩, 2, rfl, rfl, cells_srcA CB3⟩) (by simp [Value.oneCell']) (by omega) ?_; intro w4 hown4 hg4) | (refine step_append_room_src rfl (.tmp 11) (.tmp 14) 55 rfl w.heap.size 60 i0 3 Try.underlying55 hi hz1 (w1.heap.size + 1) n (n + 3) news (by simp [Act.eval]) (by first | exact hown3 | exact hown3.alloc _) _ 2 [.int .i64 a, .int .i64 b, .int .i64 c, .int .i64 a, .int .i64 b, .int .i64 c] (by first | rfl | (simp [Act.eval]; done) | (simp [Act.eval]; rfl)) (.inr ⟨⟨w3.heap.size, 0, none⟩, 2, rfl, rfl, cells_srcA (CellsAt.new _ _ _ _ rfl)⟩) (by simp [Value.oneCell']) (by omega) ?_; intro w4 hown4 hg4) | (refine step_append_room_src rfl (.tmp 11) (.tmp 14) 55 rfl w.heap.size 60 i0 3 Try.underlying55 hi hz1 (w1.heap.size + 1) n (n + 3) news (by simp [Act.eval]) (by first | exact hown3 | exact hown3.alloc _) _ 2 [.int .i64 a, .int .i64 b, .int .i64 c, .int .i64 a, .int .i64 b, .int .i64 c] (by first | rfl | (simp [Act.eval]; done) | (simp [Act.eval]; rfl)) (.inr ⟨⟨(w1.heap.size + 1), 0, none⟩, 2, rfl, rfl, cells_srcA CB3⟩) (by simp [Value.oneCell']) (by omega) ?_; intro w4 hown4 hg4) | (refine step_append_room_src rfl (.tmp 11) (.tmp 14) 55 rfl w.heap.size 60 i0 3 Try.underlying55 hi hz1 (w1.heap.size + 1) n (n + 3) news (by simp [Act.eval]) (by first | exact hown3 | exact hown3.alloc _) _ 2 [.int .i64 a, .int .i64 b, .int .i64 c, .int .i64 a, .int .i64 b, .int .i64 c] (by first | rfl | (simp [Act.eval]; done) | (simp [Act.eval]; rfl)) (.inr ⟨⟨w1.heap.size, 0, none⟩, 2, rfl, rfl, cells_srcA CB3⟩) (by simp [Value.oneCell']) (by omega) ?_; intro w4 hown4 hg4))
  all_goals
    have B4 := BB3.trans (by first | exact (Below.refl w.heap.size w3).grown hg4 (by omega) (fun j e => by cases e; omega) | exact ((Below.refl w.heap.size w3).alloc (by omega) _).grown hg4 (by first | omega | (simp; omega)) (fun j e => by cases e; omega) : Below w.heap.size w3 w4)
    have HO4 := Lib.hid hown4; have HB4 := Lib.hid B4
    clear y0 y1 y2 yz hown3 hg3 BB3 HX3 hown4 hg4 B4
    go_wp2
    go_ret
    exact ⟨_, rfl, HO4.out, HB4.out⟩

theorem infoA_ent : (Try.prog.info? 42).map (fun i => (i.zero, i.size, i.bytes)) = some (some (.agg #[.int .i64 0, .int .i64 0, .int .i64 0, .int .i64 0]), 4, 32) := by kernel_rfl
set_option maxHeartbeats 8000000 in
set_option maxRecDepth 100000 in
theorem ample_ent (n : Nat) (news : List Value) (v : Value) (a b c d : Int) (w : World) (hv : SrcAt w v 4 n news) (ho : ∀ u ∈ news, u.oneCell' = true) (hn : (n + 3) * 32 ≤ 281474976710656) :
    Calls Try.prog 22 #[v, (.agg #[.int .i64 a, .int .i64 b, .int .i64 c, .int .i64 d])] w (AmplePost w 42 4 n (news ++ [.int .i64 a, .int .i64 b, .int .i64 c, .int .i64 d, .int .i64 a, .int .i64 b, .int .i64 c, .int .i64 d])) := by
  obtain ⟨i0, hi, hz0, hz1, hz2⟩ := info_parts infoA_ent
  obtain ⟨aa, cc, rfl⟩ := hv.form
  have hml : n + 3 ≤ maxLen := by unfold maxLen; omega
  have hmk : ∀ W : World, (Instr.makeSlice 38 (.int .i64 0) (.int .i64 ((n : Int) + 3))).run Try.prog W = .ok (.slice (some ⟨W.heap.size, 0, none⟩) 0 (n + 3)) (W.alloc (.cells (madeCells #[.int .i64 0, .int .i64 0, .int .i64 0, .int .i64 0] ((n + 3) * 4)) 42)) := by
    intro W
    have := run_make (P := Try.prog) W 38 42 i0 (.agg #[.int .i64 0, .int .i64 0, .int .i64 0, .int .i64 0]) Try.underlying38 hi hz0 .i64 .i64 0 ((n : Int) + 3) (by omega) (by omega) (by rw [hz2]; omega) (by omega)
    rw [this, hz1, show ((n : Int) + 3).toNat = n + 3 by omega]
    simp [Value.cells]
  have HV := Lib.hid hv; have HO := Lib.hid ho
  have B1 : Hid (Below w.heap.size w (w.alloc (.cells #[.int .i64 a, .int .i64 b, .int .i64 c, .int .i64 d] 42))) := (Below.refl _ _).alloc (Nat.le_refl _) _
  have HX1 : Hid (CellsAt (w.alloc (.cells #[.int .i64 a, .int .i64 b, .int .i64 c, .int .i64 d] 42)) w.heap.size [.int .i64 a, .int .i64 b, .int .i64 c, .int .i64 d]) := CellsAt.new w _ _ _ rfl
  have hn' : n + 3 ≤ 281474976710656 := by omega
  have ew : IntKind.i64.wrap ((n : Int) + 3) = (n : Int) + 3 := IntWalk.i64_in _ (by omega)
  clear hv ho
  go_enter Try.func22, Try.ntmps22
  go_upto_region 1 with (fail)
  have x0 := HX1.out.at_ 0 rfl
  have x1 := HX1.out.at_ 1 rfl
  have x2 := HX1.out.at_ 2 rfl
  have x3 := HX1.out.at_ 3 rfl
  have z1 := HX1.out.lt
  generalize w.alloc (.cells #[.int .i64 a, .int .i64 b, .int .i64 c, .int .i64 d] 42) = w1 at *
  have how0 := own_monoA (own_madeA (w := w1) (E := 42) (k := 4) (N := n + 3) (zc := #[.int .i64 0, .int .i64 0, .int .i64 0, .int .i64 0]) hml) (Nat.le_of_lt z1)
  have how1 := own_monoA (own_madeA (w := w1.alloc (.cells #[.int .i64 a, .int .i64 b, .int .i64 c, .int .i64 d, .int .i64 a, .int .i64 b, .int .i64 c, .int .i64 d] 42)) (E := 42) (k := 4) (N := n + 3) (zc := #[.int .i64 0, .int .i64 0, .int .i64 0, .int .i64 0]) hml) (show w.heap.size ≤ (w1.alloc (.cells #[.int .i64 a, .int .i64 b, .int .i64 c, .int .i64 d, .int .i64 a, .int .i64 b, .int .i64 c, .int .i64 d] 42)).heap.size from Nat.le_trans (Nat.le_of_lt z1) (by simp))
  rw [show (w1.alloc (.cells #[.int .i64 a, .int .i64 b, .int .i64 c, .int .i64 d, .int .i64 a, .int .i64 b, .int .i64 c, .int .i64 d] 42)).heap.size = w1.heap.size + 1 by simp] at how1
  have HOW0 := Lib.hid how0; have HOW1 := Lib.hid how1
  clear how0 how1
  go_region_law? (first | (refine step_append_room_src rfl (.tmp 9) (.tmp 10) 38 rfl w.heap.size 42 i0 4 Try.underlying38 hi hz1 w1.heap.size 0 (n + 3) [] (by simp [Act.eval]) (by first | exact HOW0.out | exact HOW0.out.alloc _) _ n news (by first | rfl | (simp [Act.eval]; done) | (simp [Act.eval]; rfl)) (HV.out.below (by first | exact B1.out | exact B1.out.drew | exact (B1.out.drew.alloc (by first | exact Nat.le_of_lt z1 | (simp; omega)) _) | exact ((B1.out.drew.alloc (by first | exact Nat.le_of_lt z1 | (simp; omega)) _).alloc (by simp; omega) _)) (Nat.le_refl _)) HO.out (by omega) ?_; intro w3 hown3 hg3; (try rw [List.nil_append, Nat.zero_add] at hown3); have BB3 := Below.grown (B := w.heap.size) (by first | exact B1.out | exact B1.out.drew | exact (B1.out.drew.alloc (by first | exact Nat.le_of_lt z1 | (simp; omega)) _) | exact ((B1.out.drew.alloc (by first | exact Nat.le_of_lt z1 | (simp; omega)) _).alloc (by simp; omega) _) : Below w.heap.size w _) hg3 (by first | omega | (simp; omega)) (fun j e => by cases e; first | omega | (simp; omega)); have HX3 : CellsAt w3 w.heap.size [.int .i64 a, .int .i64 b, .int .i64 c, .int .i64 d] := far_cellsA (by first | exact HX1.out.drew.alloc _ | exact (HX1.out.drew.alloc _).alloc _) hg3 (by omega); have y0 := HX3.at_ 0 rfl; have y1 := HX3.at_ 1 rfl; have y2 := HX3.at_ 2 rfl; have y3 := HX3.at_ 3 rfl; have yz := HX3.lt; (try have CB3 : CellsAt w3 (w1.heap.size + 1) [.int .i64 a, .int .i64 b, .int .i64 c, .int .i64 d, .int .i64 a, .int .i64 b, .int .i64 c, .int .i64 d] := (by first | exact far_cellsA (CellsAt.new' (by simp) rfl).drew hg3 (by omega) | exact far_cellsA (CellsAt.new' (by simp) rfl) hg3 (by omega))); (try have CB3 : CellsAt w3 w1.heap.size [.int .i64 a, .int .i64 b, .int .i64 c, .int .i64 d, .int .i64 a, .int .i64 b, .int .i64 c, .int .i64 d] := (by refine far_cellsA ?_ hg3 (by omega); exact ((CellsAt.new' rfl rfl).alloc _).drew))) | (refine step_append_room_src rfl (.tmp 9) (.tmp 10) 38 rfl w.heap.size 42 i0 4 Try.underlying38 hi hz1 (w1.heap.size + 1) 0 (n + 3) [] (by simp [Act.eval]) (by exact HOW1.out) _ n news (by first | rfl | (simp [Act.eval]; done) | (simp [Act.eval]; rfl)) (HV.out.below (by first | exact B1.out | exact B1.out.drew | exact (B1.out.drew.alloc (by first | exact Nat.le_of_lt z1 | (simp; omega)) _) | exact ((B1.out.drew.alloc (by first | exact Nat.le_of_lt z1 | (simp; omega)) _).alloc (by simp; omega) _)) (Nat.le_refl _)) HO.out (by omega) ?_; intro w3 hown3 hg3; (try rw [List.nil_append, Nat.zero_add] at hown3); have BB3 := Below.grown (B := w.heap.size) (by first | exact B1.out | exact B1.out.drew | exact (B1.out.drew.alloc (by first | exact Nat.le_of_lt z1 | (simp; omega)) _) | exact ((B1.out.drew.alloc (by first | exact Nat.le_of_lt z1 | (simp; omega)) _).alloc (by simp; omega) _) : Below w.heap.size w _) hg3 (by first | omega | (simp; omega)) (fun j e => by cases e; first | omega | (simp; omega)); have HX3 : CellsAt w3 w.heap.size [.int .i64 a, .int .i64 b, .int .i64 c, .int .i64 d] := far_cellsA (by first | exact HX1.out.drew.alloc _ | exact (HX1.out.drew.alloc _).alloc _) hg3 (by omega); have y0 := HX3.at_ 0 rfl; have y1 := HX3.at_ 1 rfl; have y2 := HX3.at_ 2 rfl; have y3 := HX3.at_ 3 rfl; have yz := HX3.lt; (try have CB3 : CellsAt w3 (w1.heap.size + 1) [.int .i64 a, .int .i64 b, .int .i64 c, .int .i64 d, .int .i64 a, .int .i64 b, .int .i64 c, .int .i64 d] := (by first | exact far_cellsA (CellsAt.new' (by simp) rfl).drew hg3 (by omega) | exact far_cellsA (CellsAt.new' (by simp) rfl) hg3 (by omega))); (try have CB3 : CellsAt w3 w1.heap.size [.int .i64 a, .int .i64 b, .int .i64 c, .int .i64 d, .int .i64 a, .int .i64 b, .int .i64 c, .int .i64 d] := (by refine far_cellsA ?_ hg3 (by omega); exact ((CellsAt.new' rfl rfl).alloc _).drew))) | (refine step_append_room_src rfl (.tmp 11) (.tmp 14) 38 rfl w.heap.size 42 i0 4 Try.underlying38 hi hz1 w1.heap.size n (n + 3) news (by simp [Act.eval]) (by first | exact hown3 | exact hown3.alloc _) _ 2 [.int .i64 a, .int .i64 b, .int .i64 c, .int .i64 d, .int .i64 a, .int .i64 b, .int .i64 c, .int .i64 d] (by first | rfl | (simp [Act.eval]; done) | (simp [Act.eval]; rfl)) (.inr ⟨⟨w3.heap.size, 0, none⟩, 2, rfl, rfl, cells_srcA (CellsAt.new _ _ _ _ rfl)⟩) (by simp [Value.oneCell']) (by omega) ?_; intro w4 hown4 hg4) | (refine step_append_room_src rfl (.tmp 11) (.tmp 14) 38 rfl w.heap.size 42 i0 4 Try.underlying38 hi hz1 w1.heap.size n (n + 3) news (by simp [Act.eval]) (by first | exact hown3 | exact hown3.alloc _) _ 2 [.int .i64 a, .int .i64 b, .int .i64 c, .int .i64 d, .int .i64 a, .int .i64 b, .int .i64 c, .int .i64 d] (by first | rfl | (simp [Act.eval]; done) | (simp [Act.eval]; rfl)) (.inr ⟨⟨(w1.heap.size + 1), 0, none⟩, 2, rfl, rfl, cells_srcA CB3⟩) (by simp [Value.oneCell']) (by omega) ?_; intro w4 hown4 hg4) | (refine step_append_room_src rfl (.tmp 11) (.tmp 14) 38 rfl w.heap.size 42 i0 4 Try.underlying38 hi hz1 w1.heap.size n (n + 3) news (by simp [Act.eval]) (by first | exact hown3 | exact hown3.alloc _) _ 2 [.int .i64 a, .int .i64 b, .int .i64 c, .int .i64 d, .int .i64 a, .int .i64 b, .int .i64 c, .int .i64 d] (by first | rfl | (simp [Act.eval]; done) | (simp [Act.eval]; rfl)) (.inr ⟨⟨w1.heap.size, 0, none⟩, 2, rfl, rfl, cells_srcA CB3⟩) (by simp [Value.oneCell']) (by omega) ?_; intro w4 hown4 hg4) | (refine step_append_room_src rfl (.tmp 11) (.tmp 14) 38 rfl w.heap.size 42 i0 4 Try.underlying38 hi hz1 (w1.heap.size + 1) n (n + 3) news (by simp [Act.eval]) (by first | exact hown3 | exact hown3.alloc _) _ 2 [.int .i64 a, .int .i64 b, .int .i64 c, .int .i64 d, .int .i64 a, .int .i64 b, .int .i64 c, .int .i64 d] (by first | rfl | (simp [Act.eval]; done) | (simp [Act.eval]; rfl)) (.inr ⟨⟨w3.heap.size, 0, none⟩, 2, rfl, rfl, cells_srcA (CellsAt.new _ _ _ _ rfl)⟩) (by simp [Value.oneCell']) (by omega) ?_; intro w4 hown4 hg4) | (refine step_append_room_src rfl (.tmp 11) (.tmp 14) 38 rfl w.heap.size 42 i0 4 Try.underlying38 hi hz1 (w1.heap.size + 1) n (n + 3) news (by simp [Act.eval]) (by first | exact hown3 | exact hown3.alloc _) _ 2 [.int .i64 a, .int .i64 b, .int .i64 c, .int .i64 d, .int .i64 a, .int .i64 b, .int .i64 c, .int .i64 d] (by first | rfl | (simp [Act.eval]; done) | (simp [Act.eval]; rfl)) (.inr ⟨⟨(w1.heap.size + 1), 0, none⟩, 2, rfl, rfl, cells_srcA CB3⟩) (by simp [Value.oneCell']) (by omega) ?_; intro w4 hown4 hg4) | (refine step_append_room_src rfl (.tmp 11) (.tmp 14) 38 rfl w.heap.size 42 i0 4 Try.underlying38 hi hz1 (w1.heap.size + 1) n (n + 3) news (by simp [Act.eval]) (by first | exact hown3 | exact hown3.alloc _) _ 2 [.int .i64 a, .int .i64 b, .int .i64 c, .int .i64 d, .int .i64 a, .int .i64 b, .int .i64 c, .int .i64 d] (by first | rfl | (simp [Act.eval]; done) | (simp [Act.eval]; rfl)) (.inr ⟨⟨w1.heap.size, 0, none⟩, 2, rfl, rfl, cells_srcA CB3⟩) (by simp [Value.oneCell']) (by omega) ?_; intro w4 hown4 hg4))
  all_goals
    have B4 := BB3.trans (by first | exact (Below.refl w.heap.size w3).grown hg4 (by omega) (fun j e => by cases e; omega) | exact ((Below.refl w.heap.size w3).alloc (by omega) _).grown hg4 (by first | omega | (simp; omega)) (fun j e => by cases e; omega) : Below w.heap.size w3 w4)
    have HO4 := Lib.hid hown4; have HB4 := Lib.hid B4
    clear y0 y1 y2 yz hown3 hg3 BB3 HX3 hown4 hg4 B4
    go_wp2
    go_ret
    exact ⟨_, rfl, HO4.out, HB4.out⟩

end Go.Proofs.Ytglagndpholejaa

