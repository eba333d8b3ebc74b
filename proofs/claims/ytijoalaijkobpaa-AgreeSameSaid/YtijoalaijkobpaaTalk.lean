/- What steadkeep.talk and agree.Odd compute. -/
import Derived.Test.YtijoalaijkobpaaCells
import Derived.Deep.DeepCutAuto
import Derived.RegionTactic
import Derived.Laws.CopyOwn
namespace Go.Proofs.Ytijoalaijkobpaa
open Go.ChangeShapes Go.WideShapes Go.ChangeAt Go.RowKit
set_option linter.unusedVariables false

def saidF (v : List Int) (liar : Int) (said : List Int) (i j : Nat) : Int := if (i : Int) = liar ∧ j ≠ i then said.getD j 0 else v.getD i 0
def toldF (v : List Int) (liar : Int) (said told : List Int) (i j k : Nat) : Int := if (j : Int) = liar then told.getD (i * 4 + k) 0 else saidF v liar said i j
def talkAt (v : List Int) (liar : Int) (said told : List Int) (n : Nat) : Int :=
  if n < 16 then saidF v liar said (n / 4) (n % 4) else toldF v liar said told ((n - 16) / 16) ((n - 16) / 4 % 4) (n % 4)
def talkTo (v : List Int) (liar : Int) (said told : List Int) (n : Nat) : List Int := (List.range 80).map fun m => if m < n then talkAt v liar said told m else 0
theorem talkTo_len (v : List Int) (liar : Int) (said told : List Int) (n : Nat) : (talkTo v liar said told n).length = 80 := by simp [talkTo]
theorem talkTo_at (v : List Int) (liar : Int) (said told : List Int) (n m : Nat) (hm : m < n) (h : m < 80) : (talkTo v liar said told n)[m]? = some (talkAt v liar said told m) := by
  simp [talkTo, List.getElem?_map, List.getElem?_range h, hm]
theorem talkTo_rest (v : List Int) (liar : Int) (said told : List Int) (n m : Nat) (hm : n ≤ m) (h : m < 80) : (talkTo v liar said told n)[m]? = some 0 := by
  simp only [talkTo, List.getElem?_map, List.getElem?_range h, Option.map_some, if_neg (Nat.not_lt.2 hm)]
theorem talkTo_step (v : List Int) (liar : Int) (said told : List Int) (n : Nat) (h : n < 80) : (talkTo v liar said told n).set n (talkAt v liar said told n) = talkTo v liar said told (n + 1) := by
  apply List.ext_getElem?
  intro m
  by_cases hm : m < 80
  · rw [List.getElem?_set]
    simp only [talkTo, List.getElem?_map, List.getElem?_range hm, Option.map_some, List.length_map, List.length_range]
    by_cases e : n = m
    · subst e; simp [h]
    · simp [e]
      by_cases e2 : m < n
      · simp [e2]; intro h3; omega
      · simp [e2]; intro h3; omega
  · rw [List.getElem?_eq_none (by rw [List.length_set, talkTo_len]; omega), List.getElem?_eq_none (by rw [talkTo_len]; omega)]
theorem talkTo_zero (v : List Int) (liar : Int) (said told : List Int) : talkTo v liar said told 0 = List.replicate 80 0 := by
  simp only [talkTo, Nat.not_lt_zero, if_false]; rfl
theorem said_at (v : List Int) (liar : Int) (said told : List Int) (i j : Nat) (hi : i < 4) (hj : j < 4) : talkAt v liar said told (i * 4 + j) = saidF v liar said i j := by
  unfold talkAt
  rw [if_pos (by omega), show (i * 4 + j) / 4 = i by omega, show (i * 4 + j) % 4 = j by omega]
theorem told_at (v : List Int) (liar : Int) (said told : List Int) (i j k : Nat) (hi : i < 4) (hj : j < 4) (hk : k < 4) : talkAt v liar said told (16 + (i * 16 + j * 4 + k)) = toldF v liar said told i j k := by
  unfold talkAt
  rw [if_neg (by omega), show (16 + (i * 16 + j * 4 + k) - 16) / 16 = i by omega, show (16 + (i * 16 + j * 4 + k) - 16) / 4 % 4 = j by omega, show (16 + (i * 16 + j * 4 + k)) % 4 = k by omega]

abbrev i32s (xs : List Int) : List Value := xs.map (.int .i32)
theorem i32s_new (w : World) (xs : List Int) (cs : Array Value) (T : TypeId) (h : cs.toList = i32s xs) : CellsAt (w.alloc (.cells cs T)) w.heap.size (i32s xs) := CellsAt.new w _ cs T h
def zTalk : Array Value := (List.replicate 80 (.int .i32 0)).toArray
theorem zTalk_run (w : World) : Sem.run Try.prog (zeroValue 26) w = Result.ok (.agg zTalk) w := by
  kernel_rfl
theorem zTalk_list (V S T : List Int) (l : Int) : zTalk.toList = i32s (talkTo V l S T 0) := by
  rw [talkTo_zero, i32s, List.map_replicate]; rfl
theorem zTalk_size : zTalk.size = 80 := by simp [zTalk]
theorem zTalk_arr (V S T : List Int) (l : Int) : (i32s (talkTo V l S T 0)).toArray = zTalk := by rw [← zTalk_list V S T l]
theorem heap_new' {w : World} {n : Nat} {o : Obj} (h : n = w.heap.size) : (w.alloc o).heap[n]? = some o := by subst h; exact heap_alloc_new w o
theorem heap_old' {w : World} {n : Nat} {o x : Obj} (h : w.heap[n]? = some x) : (w.alloc o).heap[n]? = some x := by
  have h2 : n < w.heap.size := by
    rcases Nat.lt_or_ge n w.heap.size with h1 | h1
    · exact h1
    · rw [Array.getElem?_eq_none h1] at h; cases h
  rw [← h]; exact heap_alloc_old w o h2
/-- what stands while talk is told -/
structure TkL (w0 : World) (bv bs bt b9 : Nat) (V S T : List Int) (L : List Value) (w : World) : Prop where
  v : CellsAt w bv (i32s V)
  s : CellsAt w bs (i32s S)
  t : CellsAt w bt (i32s T)
  o : CellsAt w b9 L
  b : Below w0.heap.size w0 w
  r9 : w.heap[b9]? = some (.cells L.toArray 26 (0, 0))
  r8 : w.heap[w0.heap.size + 1 + 1 + 1]? = some (.cells zTalk 26 (0, 0))
abbrev Tk (w0 : World) (bv bs bt b9 : Nat) (V S T : List Int) (liar : Int) (n : Nat) (w : World) : Prop := TkL w0 bv bs bt b9 V S T (i32s (talkTo V liar S T n)) w
theorem TkL.drew {w0 w : World} {bv bs bt b9 : Nat} {V S T : List Int} {L : List Value} (h : TkL w0 bv bs bt b9 V S T L w) : TkL w0 bv bs bt b9 V S T L w.drew :=
  ⟨h.v.drew, h.s.drew, h.t.drew, h.o.drew, h.b.drew, h.r9, h.r8⟩
theorem TkL.set_ {w0 w : World} {bv bs bt b9 : Nat} {V S T : List Int} {L : List Value} (h : TkL w0 bv bs bt b9 V S T L w) (h1 : bv ≠ b9) (h2 : bs ≠ b9) (h3 : bt ≠ b9) (h4 : w0.heap.size ≤ b9) (h5 : w0.heap.size + 1 + 1 + 1 ≠ b9) (n : Nat) (hn : n < L.length) (u : Value) : TkL w0 bv bs bt b9 V S T (L.set n u) (w.setCell ⟨b9, n, none⟩ u) :=
  ⟨h.v.other h1 n u, h.s.other h2 n u, h.t.other h3 n u, h.o.set_ n hn u, h.b.setCell (p := ⟨b9, n, none⟩) h4 u, by have := heap_setCell_same w b9 n L.toArray _ u h.r9; simpa using this, (heap_setCell_other w ⟨b9, n, none⟩ _ u h5).trans h.r8⟩
theorem i32s_step (V : List Int) (liar : Int) (S T : List Int) (n : Nat) (h : n < 80) {x : Int} (hx : talkAt V liar S T n = x) : (i32s (talkTo V liar S T n)).set n (.int .i32 x) = i32s (talkTo V liar S T (n + 1)) := by
  rw [← talkTo_step _ _ _ _ _ h, hx, i32s, i32s, List.map_set]
theorem i32s_step2 (V : List Int) (liar : Int) (S T : List Int) (n : Nat) (h : n < 80) {x : Int} (u : Value) (hx : talkAt V liar S T n = x) : ((i32s (talkTo V liar S T n)).set n u).set n (.int .i32 x) = i32s (talkTo V liar S T (n + 1)) := by
  rw [List.set_set, i32s_step V liar S T n h hx]
theorem i32s_len (V : List Int) (liar : Int) (S T : List Int) (n : Nat) : (i32s (talkTo V liar S T n)).length = 80 := by rw [i32s, List.length_map, talkTo_len]
set_option maxHeartbeats 8000000 in
set_option maxRecDepth 100000 in
theorem talk_is (v0 v1 v2 v3 liar s0 s1 s2 s3 t0 t1 t2 t3 t4 t5 t6 t7 t8 t9 t10 t11 t12 t13 t14 t15 : Int) (w : World) :
    Calls Try.prog 10 #[.agg #[.int .i32 v0, .int .i32 v1, .int .i32 v2, .int .i32 v3], .int .i64 liar, .agg #[.int .i32 s0, .int .i32 s1, .int .i32 s2, .int .i32 s3], .agg #[.int .i32 t0, .int .i32 t1, .int .i32 t2, .int .i32 t3, .int .i32 t4, .int .i32 t5, .int .i32 t6, .int .i32 t7, .int .i32 t8, .int .i32 t9, .int .i32 t10, .int .i32 t11, .int .i32 t12, .int .i32 t13, .int .i32 t14, .int .i32 t15]] w fun e w' => e = .returned (.agg (i32s (talkTo [v0, v1, v2, v3] liar [s0, s1, s2, s3] [t0, t1, t2, t3, t4, t5, t6, t7, t8, t9, t10, t11, t12, t13, t14, t15] 80)).toArray) ∧ Below w.heap.size w w' := by
  have hz := zTalk_run
  have hzs := zTalk_size
  go_enter Try.func10, Try.ntmps10
  go_wp2
  go_loopw [15] (fun x wr => ∃ i : Nat, i ≤ 4 ∧ x = .int .i64 i ∧ Tk w w.heap.size (w.heap.size + 1) (w.heap.size + 1 + 1) (w.heap.size + 1 + 1 + 1 + 1) [v0, v1, v2, v3] [s0, s1, s2, s3] [t0, t1, t2, t3, t4, t5, t6, t7, t8, t9, t10, t11, t12, t13, t14, t15] liar (i * 4) wr) (fun x _ => 4 - (intOf x).toNat)
  case atStart =>
    refine ⟨0, by omega, rfl, ?_, ?_, ?_, ?_, ?_, ?_, ?_⟩
    · exact ((((i32s_new w _ _ _ rfl).alloc _).alloc _).alloc _).alloc _
    · exact (((CellsAt.new' (by simp) rfl).alloc _).alloc _).alloc _
    · exact ((CellsAt.new' (by simp) rfl).alloc _).alloc _
    · exact CellsAt.new' (by simp) (zTalk_list _ _ _ _)
    · repeat (first | with_reducible exact Below.refl _ _ | ((with_reducible refine Below.setCell ?_ ?_ _); rotate_left; (· first | (simp; done) | omega | (simp; omega))) | with_reducible refine below_drewN ?_ _ | with_reducible refine Below.drew ?_ | ((with_reducible refine Below.alloc ?_ ?_ _); rotate_left; (· first | (simp; done) | omega | (simp; omega))) | exact Below.refl _ _ | refine Below.setCell ?_ (by first | (simp; done) | omega | (simp; omega)) _ | refine below_drewN ?_ _ | refine Below.drew ?_ | refine Below.alloc ?_ (by first | (simp; done) | omega | (simp; omega)) _)
    · exact (heap_new' (by simp)).trans (congrArg (fun x => some (Obj.cells x 26 (0, 0))) (zTalk_arr _ _ _ _).symm)
    · exact heap_old' (heap_new' (by simp))
  case round =>
    obtain ⟨i, hi, rfl, hT⟩ := hrel
    by_cases hlt : i < 4
    · have HT := Lib.hid hT
      clear hT
      go_wp2
      go_loopw [18] (fun x wr => ∃ j : Nat, j ≤ 4 ∧ x = .int .i64 j ∧ Tk w w.heap.size (w.heap.size + 1) (w.heap.size + 1 + 1) (w.heap.size + 1 + 1 + 1 + 1) [v0, v1, v2, v3] [s0, s1, s2, s3] [t0, t1, t2, t3, t4, t5, t6, t7, t8, t9, t10, t11, t12, t13, t14, t15] liar (i * 4 + j) wr) (fun x _ => 4 - (intOf x).toNat)
      case atStart => exact ⟨0, by omega, rfl, HT.out⟩
      case round =>
        obtain ⟨j, hj, rfl, hT⟩ := hrel
        clear HT
        have HT := Lib.hid hT
        clear hT
        by_cases hlt2 : j < 4
        · have hfz := HT.out.o.2.1
          have hfl := HT.out.o.lt
          have c1 : wr.cell? ⟨w.heap.size, i, none⟩ = some (.int .i32 ([v0, v1, v2, v3].getD i 0)) := HT.out.v.at_ i (by rw [i32s, List.getElem?_map, List.getD_eq_getElem?_getD, List.getElem?_eq_getElem (by simpa using hlt)]; rfl)
          have c2 : wr.cell? ⟨w.heap.size + 1 + 1 + 1 + 1, i * 4 + j, none⟩ = some (.int .i32 0) := HT.out.o.at_ (i * 4 + j) (by rw [i32s, List.getElem?_map, talkTo_rest _ _ _ _ _ _ (Nat.le_refl _) (by omega)]; rfl)
          obtain ⟨x, hx⟩ : ∃ x, [v0, v1, v2, v3].getD i 0 = x := ⟨_, rfl⟩
          rw [hx] at c1
          have HX := Lib.hid hx
          clear hx
          have hi0 : (0 : Int) ≤ (i : Int) := by omega
          have hj0 : (0 : Int) ≤ (j : Int) := by omega
          go_wp2
          go_region
          by_cases hli : (i : Int) = liar
          · subst hli
            by_cases hji : j = i
            · subst hji
              have q1 : ((j : Int) == (j : Int)) = true := by simp
              go_wp2
              go_round
              case rel =>
                have h9 := (HT.out.set_ (by omega) (by omega) (by omega) (by omega) (by omega) (j * 4 + j) (by rw [i32s_len]; omega) (.int .i32 x)).drew
                rw [i32s_step _ _ _ _ _ (by omega) (by rw [said_at _ _ _ _ _ _ (by omega) (by omega), saidF, if_neg (fun h => h.2 rfl)]; exact HX.out)] at h9
                exact ⟨j + 1, by omega, by go_num, h9⟩
              case measure => simp [intOf]; omega
            · have q1 : ((i : Int) == (i : Int)) = true := by simp
              have q2 : ((j : Int) != (i : Int)) = true := by rw [bne_iff_ne]; omega
              have c3 : wr.cell? ⟨w.heap.size + 1, j, none⟩ = some (.int .i32 ([s0, s1, s2, s3].getD j 0)) := HT.out.s.at_ j (by rw [i32s, List.getElem?_map, List.getD_eq_getElem?_getD, List.getElem?_eq_getElem (by simpa using hlt2)]; rfl)
              obtain ⟨y, hy⟩ : ∃ y, [s0, s1, s2, s3].getD j 0 = y := ⟨_, rfl⟩
              rw [hy] at c3
              have HY := Lib.hid hy
              clear hy
              go_wp2
              go_region
              go_wp2
              go_round
              case rel =>
                have h8 := HT.out.set_ (by omega) (by omega) (by omega) (by omega) (by omega) (i * 4 + j) (by rw [i32s_len]; omega) (.int .i32 x)
                have h9 := (h8.set_ (by omega) (by omega) (by omega) (by omega) (by omega) (i * 4 + j) (by rw [List.length_set, i32s_len]; omega) (.int .i32 y)).drew.drew
                rw [i32s_step2 _ _ _ _ _ (by omega) _ (by rw [said_at _ _ _ _ _ _ (by omega) (by omega), saidF, if_pos ⟨rfl, hji⟩]; exact HY.out)] at h9
                exact ⟨j + 1, by omega, by go_num, h9⟩
              case measure => simp [intOf]; omega
          · have q1 : ((i : Int) == liar) = false := by rw [beq_eq_false_iff_ne]; exact hli
            go_wp2
            go_round
            case rel =>
              have h9 := (HT.out.set_ (by omega) (by omega) (by omega) (by omega) (by omega) (i * 4 + j) (by rw [i32s_len]; omega) (.int .i32 x)).drew
              rw [i32s_step _ _ _ _ _ (by omega) (by rw [said_at _ _ _ _ _ _ (by omega) (by omega), saidF, if_neg (fun h => hli h.1)]; exact HX.out)] at h9
              exact ⟨j + 1, by omega, by go_num, h9⟩
            case measure => simp [intOf]; omega
        · obtain rfl : j = 4 := by omega
          go_wp2
          go_round
          case rel => exact ⟨i + 1, by omega, by go_num, by rw [show (i + 1) * 4 = i * 4 + 4 by omega]; exact HT.out⟩
          case measure => simp [intOf]; omega
    · obtain rfl : i = 4 := by omega
      have HT := Lib.hid hT
      clear hT
      go_wp2
      go_loopw [47] (fun x wr => ∃ i : Nat, i ≤ 4 ∧ x = .int .i64 i ∧ Tk w w.heap.size (w.heap.size + 1) (w.heap.size + 1 + 1) (w.heap.size + 1 + 1 + 1 + 1) [v0, v1, v2, v3] [s0, s1, s2, s3] [t0, t1, t2, t3, t4, t5, t6, t7, t8, t9, t10, t11, t12, t13, t14, t15] liar (16 + i * 16) wr) (fun x _ => 4 - (intOf x).toNat)
      case atStart => exact ⟨0, by omega, rfl, HT.out⟩
      case round =>
        obtain ⟨i, hi, rfl, hT⟩ := hrel
        clear HT
        have HT := Lib.hid hT
        clear hT
        by_cases hlt : i < 4
        · go_wp2
          go_loopw [50] (fun x wr => ∃ j : Nat, j ≤ 4 ∧ x = .int .i64 j ∧ Tk w w.heap.size (w.heap.size + 1) (w.heap.size + 1 + 1) (w.heap.size + 1 + 1 + 1 + 1) [v0, v1, v2, v3] [s0, s1, s2, s3] [t0, t1, t2, t3, t4, t5, t6, t7, t8, t9, t10, t11, t12, t13, t14, t15] liar (16 + (i * 16 + j * 4)) wr) (fun x _ => 4 - (intOf x).toNat)
          case atStart => exact ⟨0, by omega, rfl, HT.out⟩
          case round =>
            obtain ⟨j, hj, rfl, hT⟩ := hrel
            clear HT
            have HT := Lib.hid hT
            clear hT
            by_cases hlt2 : j < 4
            · go_wp2
              go_loopw [53] (fun x wr => ∃ k : Nat, k ≤ 4 ∧ x = .int .i64 k ∧ Tk w w.heap.size (w.heap.size + 1) (w.heap.size + 1 + 1) (w.heap.size + 1 + 1 + 1 + 1) [v0, v1, v2, v3] [s0, s1, s2, s3] [t0, t1, t2, t3, t4, t5, t6, t7, t8, t9, t10, t11, t12, t13, t14, t15] liar (16 + (i * 16 + j * 4 + k)) wr) (fun x _ => 4 - (intOf x).toNat)
              case atStart => exact ⟨0, by omega, rfl, HT.out⟩
              case round =>
                obtain ⟨k, hk, rfl, hT⟩ := hrel
                clear HT
                have HT := Lib.hid hT
                clear hT
                by_cases hlt3 : k < 4
                · have hfz := HT.out.o.2.1
                  have hfl := HT.out.o.lt
                  have hi1 : (i : Int) < 4 := by omega
                  have hj1 : (j : Int) < 4 := by omega
                  have hk1 : (k : Int) < 4 := by omega
                  have hi0 : (0 : Int) ≤ (i : Int) := by omega
                  have hj0 : (0 : Int) ≤ (j : Int) := by omega
                  have hk0 : (0 : Int) ≤ (k : Int) := by omega
                  have c1 : wr.cell? ⟨w.heap.size + 1 + 1 + 1 + 1, i * 4 + j, none⟩ = some (.int .i32 (saidF [v0, v1, v2, v3] liar [s0, s1, s2, s3] i j)) := HT.out.o.at_ (i * 4 + j) (by rw [i32s, List.getElem?_map, talkTo_at _ _ _ _ _ _ (by omega) (by omega), said_at _ _ _ _ _ _ hlt hlt2]; rfl)
                  have c2 : wr.cell? ⟨w.heap.size + 1 + 1 + 1 + 1, 16 + i * 16 + j * 4 + k, none⟩ = some (.int .i32 0) := HT.out.o.at_ (16 + i * 16 + j * 4 + k) (by rw [i32s, List.getElem?_map, talkTo_rest _ _ _ _ _ _ (by omega) (by omega)]; rfl)
                  obtain ⟨x, hx⟩ : ∃ x, saidF [v0, v1, v2, v3] liar [s0, s1, s2, s3] i j = x := ⟨_, rfl⟩
                  rw [hx] at c1
                  have HX := Lib.hid hx
                  clear hx
                  go_wp2
                  go_region
                  have e16 : 16 + (i * 16 + j * 4 + k) = 16 + i * 16 + j * 4 + k := by omega
                  rw [e16] at HT
                  by_cases hlj : (j : Int) = liar
                  · subst hlj
                    have q1 : ((j : Int) == (j : Int)) = true := by simp
                    have c3 : wr.cell? ⟨w.heap.size + 1 + 1, i * 4 + k, none⟩ = some (.int .i32 (([t0, t1, t2, t3, t4, t5, t6, t7, t8, t9, t10, t11, t12, t13, t14, t15] : List Int).getD (i * 4 + k) 0)) := HT.out.t.at_ (i * 4 + k) (by rw [i32s, List.getElem?_map, List.getD_eq_getElem?_getD, List.getElem?_eq_getElem (show i * 4 + k < 16 by omega)]; rfl)
                    obtain ⟨y, hy⟩ : ∃ y, ([t0, t1, t2, t3, t4, t5, t6, t7, t8, t9, t10, t11, t12, t13, t14, t15] : List Int).getD (i * 4 + k) 0 = y := ⟨_, rfl⟩
                    rw [hy] at c3
                    have HY := Lib.hid hy
                    clear hy
                    go_wp2
                    go_region
                    go_wp2
                    go_round
                    case rel =>
                      have h8 := HT.out.set_ (by omega) (by omega) (by omega) (by omega) (by omega) (16 + i * 16 + j * 4 + k) (by rw [i32s_len]; omega) (.int .i32 x)
                      have h9 := (h8.set_ (by omega) (by omega) (by omega) (by omega) (by omega) (16 + i * 16 + j * 4 + k) (by rw [List.length_set, i32s_len]; omega) (.int .i32 y)).drew.drew
                      rw [i32s_step2 _ _ _ _ _ (by omega) _ (by rw [← e16, told_at _ _ _ _ _ _ _ (by omega) (by omega) (by omega), toldF, if_pos rfl]; exact HY.out)] at h9
                      exact ⟨k + 1, by omega, by go_num, by rw [show 16 + (i * 16 + j * 4 + (k + 1)) = 16 + i * 16 + j * 4 + k + 1 by omega]; exact h9⟩
                    case measure => simp [intOf]; omega
                  · have q1 : ((j : Int) == liar) = false := by rw [beq_eq_false_iff_ne]; exact hlj
                    go_wp2
                    go_round
                    case rel =>
                      have h9 := (HT.out.set_ (by omega) (by omega) (by omega) (by omega) (by omega) (16 + i * 16 + j * 4 + k) (by rw [i32s_len]; omega) (.int .i32 x)).drew
                      rw [i32s_step _ _ _ _ _ (by omega) (by rw [← e16, told_at _ _ _ _ _ _ _ (by omega) (by omega) (by omega), toldF, if_neg hlj]; exact HX.out)] at h9
                      exact ⟨k + 1, by omega, by go_num, by rw [show 16 + (i * 16 + j * 4 + (k + 1)) = 16 + i * 16 + j * 4 + k + 1 by omega]; exact h9⟩
                    case measure => simp [intOf]; omega
                · obtain rfl : k = 4 := by omega
                  go_wp2
                  go_round
                  case rel => exact ⟨j + 1, by omega, by go_num, by rw [show 16 + (i * 16 + (j + 1) * 4) = 16 + (i * 16 + j * 4 + 4) by omega]; exact HT.out⟩
                  case measure => simp [intOf]; omega
            · obtain rfl : j = 4 := by omega
              go_wp2
              go_round
              case rel => exact ⟨i + 1, by omega, by go_num, by rw [show 16 + (i + 1) * 16 = 16 + (i * 16 + 4 * 4) by omega]; exact HT.out⟩
              case measure => simp [intOf]; omega
        · obtain rfl : i = 4 := by omega
          have hinfo : (Try.prog.info? 26).map (·.size) = some 80 := by kernel_rfl
          have h9 := HT.out.r9
          have h8 := HT.out.r8
          have hB := HT.out.b
          obtain ⟨L, hL⟩ : ∃ L, i32s (talkTo [v0, v1, v2, v3] liar [s0, s1, s2, s3] [t0, t1, t2, t3, t4, t5, t6, t7, t8, t9, t10, t11, t12, t13, t14, t15] 80) = L := ⟨_, rfl⟩
          rw [show 16 + 4 * 16 = 80 from rfl, hL] at h9
          have hLs : L.toArray.size = 80 := by rw [← hL, List.size_toArray, i32s_len]
          have h1 : L.toArray.all (·.oneCell') = true := by
            rw [← hL, List.all_toArray, List.all_eq_true]
            intro x hx
            obtain ⟨y, _, rfl⟩ := List.mem_map.1 hx
            rfl
          have HL := Lib.hid hL
          clear HT hL
          go_wp2_with (first
            | (refine wpList_load_row rfl 26 (.tmp 9) rfl (w.heap.size + 1 + 1 + 1 + 1) (by simp [Act.eval]) 26 L.toArray (0, 0) _ h9 Try.underlying26 rfl (by rw [hinfo]; exact congrArg some hLs.symm) ?_; go_frame)
            | (refine wpList_store_row rfl 26 (.tmp 8) (.tmp 87) rfl (w.heap.size + 1 + 1 + 1) L.toArray (by simp [Act.eval]) (by simp [Act.eval]) 26 zTalk h8 (by rw [hinfo]; exact congrArg some hLs.symm) (by rw [hLs, zTalk_size]) h1 ?_; go_frame))
          rw [HL.out]
          have hW := setRow_heap wr (w.heap.size + 1 + 1 + 1) zTalk L.toArray _ _ h8
          exact bodyPost_ret (v := .agg L.toArray) (results_cell_row rfl _ _ (w.heap.size + 1 + 1 + 1) _ L.toArray (0, 0) _ rfl hW Try.underlying26 rfl (by rw [hinfo]; exact congrArg some hLs.symm)) rfl ⟨rfl, below_setRow hB (by omega) _⟩

end Go.Proofs.Ytijoalaijkobpaa
