/- What log.digits and log.Text compute; strings.Builder at this dump. -/
import Derived.Test.YtglagndpholejaaLogCheck
import Derived.Test.YtglagndpholejaaShelf
import Derived.Lib.Builder
import Derived.Lib.AppendStr
import Derived.Lib.UnsafeStr
import Derived.Lib.OthersKept
import Derived.Deep.RegionHeld3
import Derived.Deep.DeepCutAuto
namespace Go.Proofs.Ytglagndpholejaa
open Go.ChangeShapes Go.WideShapes Go.ChangeAt Go.RowKit
set_option linter.unusedVariables false

/-- a digit; the digits of a number -/
def digB (k : Nat) : UInt8 := UInt8.ofNat (48 + k)
def digL (n : Nat) : List UInt8 := if n < 10 then [digB n] else digL (n / 10) ++ [digB (n % 10)]
termination_by n
decreasing_by omega
def digS (n : Nat) : ByteArray := ⟨(digL n).toArray⟩
theorem digL_lt {n : Nat} (h : n < 10) : digL n = [digB n] := by rw [digL, if_pos h]
theorem digL_ge {n : Nat} (h : ¬ n < 10) : digL n = digL (n / 10) ++ [digB (n % 10)] := by rw [digL, if_neg h]
theorem digL_len : ∀ (k n : Nat), n < 10 ^ k → 0 < k → (digL n).length ≤ k := by
  intro k
  induction k with
  | zero => intro n _ h; omega
  | succ k ih =>
    intro n hn _
    by_cases h : n < 10
    · rw [digL_lt h]; simp
    · rw [digL_ge h, List.length_append]
      have hk : 0 < k := by
        rcases Nat.eq_zero_or_pos k with h0 | h0
        · subst h0; simp at hn; omega
        · exact h0
      have := ih (n / 10) (by rw [Nat.pow_succ] at hn; omega) hk
      simp; omega
theorem digS_size (k n : Nat) (h : n < 10 ^ k) (hk : 0 < k) : (digS n).size ≤ k := by
  unfold digS; exact digL_len k n h hk
/-- string([]byte{'0' + k}) -/
theorem conv_one (k : Nat) (hk : k < 10) (b : Nat) (w : World) (hc : w.cell? ⟨b, 0, none⟩ = some (.int .u8 (48 + (k : Int)))) :
    (convert 56 9 (.slice (some ⟨b, 0, none⟩) 1 1)).run Try.prog w = .ok (.string ⟨#[digB k]⟩) w := by
  rw [run_convert_bytes_arg (P := Try.prog) w 56 5 Try.underlying56 Try.underlying5 b 0 1 1 [48 + (k : Int)] rfl (fun i hi => by
    obtain rfl : i = 0 := by omega
    simpa using hc) 9 Try.underlying9]
  congr 2
set_option maxHeartbeats 4000000 in
set_option maxRecDepth 100000 in
theorem digits_is (n : Nat) (hn : n ≤ 9223372036854775807) : ∀ (w : World),
    Calls Try.prog 52 #[.int .i64 n] w fun e w' => e = .returned (.string (digS n)) ∧ Below w.heap.size w w' := by
  induction n using Nat.strongRecOn with
  | _ n ih =>
    intro w
    by_cases h : n < 10
    · have h1 : (n : Int) < 10 := by omega
      have h2 : IntKind.u8.wrap (n : Int) = n := IntWalk.u8_in _ (by omega)
      have h3 : IntKind.u8.wrap (48 + (n : Int)) = 48 + n := IntWalk.u8_in _ (by omega)
      have h4 := conv_one n h w.heap.size (w.alloc (.cells #[.int .u8 (48 + (n : Int))] 5)) (by simp)
      go_enter Try.func52, Try.ntmps52
      go_wp2
      go_ret
      refine ⟨?_, by repeat (first | with_reducible exact Below.refl _ _ | ((with_reducible refine Below.setCell ?_ ?_ _); rotate_left; (· first | (simp; done) | omega | (simp; omega))) | with_reducible refine below_drewN ?_ _ | with_reducible refine Below.drew ?_ | ((with_reducible refine Below.alloc ?_ ?_ _); rotate_left; (· first | (simp; done) | omega | (simp; omega))) | exact Below.refl _ _ | refine Below.setCell ?_ (by first | (simp; done) | omega | (simp; omega)) _ | refine below_drewN ?_ _ | refine Below.drew ?_ | refine Below.alloc ?_ (by first | (simp; done) | omega | (simp; omega)) _)⟩
      unfold digS
      rw [digL_lt h]
      rfl
    · have h1 : ¬ (n : Int) < 10 := by omega
      have hd : digS n = ⟨(digL (n / 10) ++ [digB (n % 10)]).toArray⟩ := by unfold digS; rw [digL_ge h]
      obtain ⟨m, hm⟩ : ∃ m : Nat, n / 10 = m := ⟨_, rfl⟩
      obtain ⟨r, hr⟩ : ∃ r : Nat, n % 10 = r := ⟨_, rfl⟩
      have hq : (n : Int) / 10 = (m : Int) := by omega
      have hr' : (n : Int) % 10 = (r : Int) := by omega
      rw [hm, hr] at hd
      have HD := Lib.hid hd
      have hr10 : r < 10 := by omega
      have hq2 : (n : Int).tdiv 10 = (m : Int) := by rw [Int.tdiv_eq_ediv_of_nonneg (by omega)]; exact hq
      have hr2 : (n : Int).tmod 10 = (r : Int) := by rw [Int.tmod_eq_emod_of_nonneg (by omega)]; exact hr'
      have IH := Lib.hid (ih m (by omega) (by omega))
      have h2 : IntKind.i64.wrap (m : Int) = m := IntWalk.i64_in _ (by omega)
      have h4 : IntKind.u8.wrap (r : Int) = r := IntWalk.u8_in _ (by omega)
      have h5 : IntKind.u8.wrap (48 + (r : Int)) = 48 + r := IntWalk.u8_in _ (by omega)
      have hcv : ∀ (b : Nat) (W : World), W.cell? ⟨b, 0, none⟩ = some (.int .u8 (48 + (r : Int))) → (convert 56 9 (.slice (some ⟨b, 0, none⟩) 1 1)).run Try.prog W = .ok (.string ⟨#[digB r]⟩) W := fun b W h => conv_one r hr10 b W h
      have hsz : (digS m).size ≤ 19 := digS_size 19 m (by omega) (by omega)
      have hs1 : ¬ (9223372036854775807 < (digS m).size + 1) := by omega
      have hs2 : ¬ (9223372036854775806 < (digS m).size) := by omega
      clear hd ih hm hr hr10 hn h hsz
      go_enter Try.func52, Try.ntmps52
      go_wp2_with fail
      go_region_with (go_at_call 52; refine (IH.out _).mono ?_; rintro e w1 ⟨rfl, hb1⟩; have z1 : w.heap.size ≤ w1.heap.size := (by have z2 := hb1.size; simp at z2; omega); have c1 : _ → w1.cell? ⟨w.heap.size, 0, none⟩ = some (.int .u8 (48 + (r : Int))) := fun h => cell_later hb1 h; (try simp at c1))
      all_goals
        go_wp2
        go_ret
        refine ⟨?_, by repeat (first | with_reducible exact Below.refl _ _ | ((with_reducible refine Below.setCell ?_ ?_ _); rotate_left; (· first | (simp; done) | omega | (simp; omega))) | with_reducible refine below_drewN ?_ _ | with_reducible refine Below.drew ?_ | ((with_reducible refine Below.trans ?_ (Below.mono hb1 ?_)); rotate_left; (· first | (simp; done) | omega | (simp; omega))) | ((with_reducible refine Below.alloc ?_ ?_ _); rotate_left; (· first | (simp; done) | omega | (simp; omega))) | exact Below.refl _ _ | refine Below.setCell ?_ (by first | (simp; done) | omega | (simp; omega)) _ | refine below_drewN ?_ _ | refine Below.drew ?_ | refine Below.trans ?_ (Below.mono hb1 (by first | (simp; done) | omega | (simp; omega))) | refine Below.alloc ?_ (by first | (simp; done) | omega | (simp; omega)) _)⟩
        have e2 : digS n = digS m ++ ⟨#[digB r]⟩ := by rw [HD.out]; unfold digS; rw [ByteArray.mk_append_mk]
        rw [e2]
        rfl

abbrev TBuild : TypeId := 97
abbrev TByte : TypeId := 5
theorem bat_later {w w' : World} {T e : TypeId} {B b : Nat} {p : Value} {bs : List Value} (h : Lib.BuilderAt T e B b p bs w) (hb : Below w.heap.size w w') : Lib.BuilderAt T e B b p bs w' := by
  have hl := h.lt
  obtain ⟨h1, v, h2, h3, h4⟩ := h
  exact ⟨h1, v, (hb.block b hl).trans h2, own_later h3 hb (Nat.le_refl _), h4⟩
theorem isb_later {w w' : World} {T e : TypeId} {B b : Nat} {bs : List Value} (h : Lib.IsBuilder T e B b bs w) (hb : Below w.heap.size w w') : Lib.IsBuilder T e B b bs w' :=
  h.imp (fun h => bat_later h hb) (fun h => bat_later h hb)
theorem isb_mono {w : World} {T e : TypeId} {B B' b : Nat} {bs : List Value} (h : Lib.IsBuilder T e B b bs w) (hb : B' ≤ B) : Lib.IsBuilder T e B' b bs w := by
  have f : ∀ p, Lib.BuilderAt T e B b p bs w → Lib.BuilderAt T e B' b p bs w := by
    rintro p ⟨h1, v, h2, h3, h4⟩
    exact ⟨by omega, v, h2, ⟨h3.1, h3.2.imp id fun ⟨g, cap, cur, e1, e2, e3⟩ => ⟨g, cap, cur, e1, by omega, e3⟩⟩, h4⟩
  exact h.imp (f _) (f _)
theorem infoB : (Try.prog.info? 5).map (fun i => (i.zero, i.size, i.bytes)) = some (some (.int .u8 0), 1, 1) := by kernel_rfl
set_option maxHeartbeats 4000000 in
set_option maxRecDepth 100000 in
/-- copyCheck at a used builder, and at a fresh one -/
theorem copyCheck_used (b : Nat) (w : World) (h0 : w.cell? ⟨b, 0, none⟩ = some (.pointer (some ⟨b, 0, none⟩))) :
    Calls Try.prog 67 #[.pointer (some ⟨b, 0, none⟩)] w fun e w' => e = .returned (.tuple #[]) ∧ w' = w := by
  obtain ⟨j, hj, -⟩ := Option.map_eq_some_iff.1 (show (Try.prog.info? 97).map (·.size) = some 2 by kernel_rfl)
  go_enter Try.func67, Try.ntmps67
  go_wp2
  rw [Lib.run_neq_ptr_same w _ Try.underlying95 hj]
  go_wp2
  go_end0
  exact ⟨rfl, rfl⟩
set_option maxHeartbeats 4000000 in
set_option maxRecDepth 100000 in
theorem copyCheck_fresh (b : Nat) (w : World) (h0 : w.cell? ⟨b, 0, none⟩ = some (.pointer none)) (hsh : w.shape? b = some (TBuild, 2)) (hfz : w.frozen? ⟨b, 0, none⟩ = false) :
    Calls Try.prog 67 #[.pointer (some ⟨b, 0, none⟩)] w fun e w' => e = .returned (.tuple #[]) ∧ w' = w.setCell ⟨b, 0, none⟩ (.pointer (some ⟨b, 0, none⟩)) := by
  obtain ⟨j, hj, hjs⟩ := Option.map_eq_some_iff.1 (show (Try.prog.info? 97).map (·.size) = some 2 by kernel_rfl)
  go_enter Try.func67, Try.ntmps67
  go_wp2
  rw [Lib.run_to_unsafe w ⟨b, 0, none⟩ Try.underlying95 Try.underlying131 hj (by rw [hjs]; decide) hsh (Nat.zero_lt_succ 1)]
  simp only [Result.andThen]
  rw [Oper.upon_value]
  go_wp2
  rw [run_callFunc_extern Try.func72 (by kernel_rfl) (by kernel_rfl) (by kernel_rfl) (e := Extern.AbiNoEscape.same) (by kernel_rfl)]
  rw [Lib.run_noEscape]
  simp only [Result.andThen]
  rw [Oper.upon_value]
  go_wp2
  rw [Lib.run_from_unsafe w ⟨b, 0, none⟩ Try.underlying131 Try.underlying95 hj hsh (by kernel_rfl)]
  simp only [Result.andThen]
  rw [Oper.upon_value]
  go_wp2
  go_end0
  exact ⟨rfl, rfl⟩
theorem copyCheck_is (B b : Nat) (bs : List Value) (w : World) (h : Lib.IsBuilder TBuild TByte B b bs w) :
    Calls Try.prog 67 #[.pointer (some ⟨b, 0, none⟩)] w fun e w' => e = .returned (.tuple #[]) ∧ Lib.BuilderAt TBuild TByte B b (.pointer (some ⟨b, 0, none⟩)) bs w' ∧ Below B w w' ∧ Lib.OthersKept TByte (some b) w w' := by
  rcases h with h | h
  · refine (copyCheck_fresh b w h.cell0 h.shape h.frozen0).mono ?_
    rintro e w' ⟨rfl, rfl⟩
    exact ⟨rfl, h.used _, (Below.refl B w).setCell (p := ⟨b, 0, none⟩) h.1 _, (Lib.OthersKept.refl _ _ w).setCell ⟨b, 0, none⟩ rfl _⟩
  · refine (copyCheck_used b w h.cell0).mono ?_
    rintro e w' ⟨rfl, rfl⟩
    exact ⟨rfl, h, Below.refl B _, Lib.OthersKept.refl _ _ _⟩
set_option maxHeartbeats 4000000 in
set_option maxRecDepth 100000 in
theorem write_is (B b : Nat) (bs : List Value) (s : ByteArray) (w : World) (h : Lib.IsBuilder TBuild TByte B b bs w) (hlen : bs.length + s.size ≤ 140737488355328) (hBw : B ≤ w.heap.size) :
    Calls Try.prog 51 #[.pointer (some ⟨b, 0, none⟩), .string s] w fun e w' => e = .returned (.tuple #[.int .i64 s.size, .nilIface]) ∧ Lib.BuilderAt TBuild TByte B b (.pointer (some ⟨b, 0, none⟩)) (bs ++ Lib.strCells s) w' ∧ Below B w w' ∧ Lib.OthersKept TByte (some b) w w' := by
  obtain ⟨i0, hi, hz0, hz1, hz2⟩ := info_parts infoB
  go_enter Try.func51, Try.ntmps51
  go_wp2_with (go_at_call 67; refine (copyCheck_is B b bs _ h).mono ?_)
  rintro e w1 ⟨rfl, h1, hb1, hk1⟩
  obtain ⟨hB, v, hbk, hown, hne⟩ := h1
  have c0 : w1.cell? ⟨b, 0, none⟩ = some (.pointer (some ⟨b, 0, none⟩)) := by rw [Lib.cell_of_heap hbk]; rfl
  have c1 : w1.cell? ⟨b, 1, none⟩ = some v := by rw [Lib.cell_of_heap hbk]; rfl
  go_wp2_with (at_builtin; refine Lib.wpList_append_own_string _ rfl _ _ 56 9 rfl B TByte i0 Try.underlying56 Try.underlying9 hi hz0 hz1 hz2 _ _ _ rfl hown s rfl ?c3 ?c4 ?c5 ?_)
  case c3 => unfold maxLen; omega
  case c4 => omega
  case c5 => have := hb1.size; omega
  intro v' w2 hown' hgrow _
  have hlt : b < w1.heap.size := by
    rcases Nat.lt_or_ge b w1.heap.size with h' | h'
    · exact h'
    · simp [Array.getElem?_eq_none h'] at hbk
  have hb2 : w2.heap[b]? = some (.cells #[.pointer (some ⟨b, 0, none⟩), v] TBuild (0, 0)) := by
    rw [hgrow.block b hlt (fun e => hne e.symm)]
    exact hbk
  have d0 : w2.cell? ⟨b, 0, none⟩ = some (.pointer (some ⟨b, 0, none⟩)) := by rw [Lib.cell_of_heap hb2]; rfl
  have d1 : w2.cell? ⟨b, 1, none⟩ = some v := by rw [Lib.cell_of_heap hb2]; rfl
  have f1 : w2.frozen? ⟨b, 1, none⟩ = false := Lib.frozen_of_heap hb2 1
  obtain ⟨ao, n', cap, rfl⟩ : ∃ ao n' cap, v' = .slice ao n' cap := by
    rcases hown'.2 with ⟨hv, _⟩ | ⟨g, cap, cur, hv, _⟩
    · exact ⟨_, _, _, hv⟩
    · exact ⟨_, _, _, hv⟩
  go_wp2
  go_ret2
  refine ⟨rfl, ?_, ?_, ?_⟩
  · exact Lib.BuilderAt.put (T := TBuild) (e := TByte) hB hb2 (bs' := bs ++ Lib.strCells s) (by simpa [Lib.strCells_length] using hown') (by decide)
  · exact (hb1.grown hgrow (by have := hb1.size; omega) (fun k hk => (hown.lt k hk).1)).setCell (p := ⟨b, 1, none⟩) hB _
  · refine (hk1.grown hgrow (fun g hg => ?_)).setCell ⟨b, 1, none⟩ rfl _
    rcases hown.2 with ⟨rfl, _⟩ | ⟨g', cap', cur, rfl, _, hgg, _⟩
    · simp [Value.ownBlock] at hg
    · simp [Value.ownBlock] at hg
      subst hg
      exact ⟨_, _, hgg⟩
/-- the text of an entry; of the first k ones -/
def entS (x : EntR) : List UInt8 := digL x.1.toNat ++ [58] ++ digL x.2.1.toNat ++ [58] ++ digL x.2.2.1.toNat ++ [120] ++ digL x.2.2.2.toNat ++ [10]
def textL (xs : List EntR) : List UInt8 := xs.flatMap entS
structure TxS (W w : World) (p : Nat) (vs : List Value) (b : Nat) (bs : List Value) : Prop where
  C : CellsAt W p vs
  E : W.heap[p]? = some (.cells vs.toArray 42 (0, 0))
  I : Lib.IsBuilder TBuild TByte w.heap.size b bs W
  B : Below w.heap.size w W
theorem TxS.call {W W' w : World} {p : Nat} {vs : List Value} {b : Nat} {bs : List Value} (h : TxS W w p vs b bs) (hb : Below W.heap.size W W') : TxS W' w p vs b bs :=
  ⟨h.C.call hb, (hb.block p h.C.lt).trans h.E, isb_later h.I hb, h.B.trans (hb.mono h.B.size)⟩
theorem TxS.drew {W w : World} {p : Nat} {vs : List Value} {b : Nat} {bs : List Value} (h : TxS W w p vs b bs) : TxS W.drew w p vs b bs := ⟨h.C, h.E, h.I, h.B.drew⟩
theorem byteCells_app (l m : List UInt8) : Lib.byteCells (l ++ m) = Lib.byteCells l ++ Lib.byteCells m := by simp [Lib.byteCells]
theorem textL_take {xs : List EntR} {k : Nat} {x : EntR} (h : xs[k]? = some x) : textL (xs.take (k + 1)) = textL (xs.take k) ++ entS x := by
  obtain ⟨hl, rfl⟩ := List.getElem?_eq_some_iff.1 h
  unfold textL
  rw [List.take_succ_eq_append_getElem hl, List.flatMap_append, List.flatMap_cons, List.flatMap_nil, List.append_nil]
theorem entS_len {x : EntR} (h : entOk x) : (entS x).length ≤ 100 := by
  obtain ⟨⟨a1, a2⟩, ⟨b1, b2⟩, ⟨c1, c2⟩, d1, d2⟩ := h
  have e1 := digL_len 19 x.1.toNat (by omega) (by omega)
  have e2 := digL_len 19 x.2.1.toNat (by omega) (by omega)
  have e3 := digL_len 19 x.2.2.1.toNat (by omega) (by omega)
  have e4 := digL_len 19 x.2.2.2.toNat (by omega) (by omega)
  simp only [entS, List.length_append, List.length_cons, List.length_nil]
  omega
theorem textL_len {xs : List EntR} (h : LogFr xs xs.length) : ∀ k, k ≤ xs.length → (textL (xs.take k)).length ≤ 100 * k := by
  intro k
  induction k with
  | zero => intro _; simp [textL]
  | succ k ih =>
    intro hk
    have hx : xs[k]? = some xs[k] := List.getElem?_eq_getElem (by omega)
    have hd : xs.getD k ent0 = xs[k] := by rw [List.getD_eq_getElem?_getD, hx]; rfl
    have := entS_len (hd ▸ (h k (by omega)).1)
    rw [textL_take hx, List.length_append]
    have := ih (by omega)
    omega
set_option maxHeartbeats 16000000 in
set_option maxRecDepth 100000 in
/-- a round of log.Text: one entry is written -/
theorem text_no (xs : List EntR) (v : Value) (w : World) (hv : RecsAt 4 entLay w v xs) (hm : xs.length ≤ 9223372036854775807) (hno : ¬ LogOk xs) :
    Calls Try.prog 23 #[v] w fun e w' => (∃ c : Int, c ≠ 0 ∧ e = .returned (.tuple #[.string ⟨#[]⟩, .int .i64 c])) ∧ Below w.heap.size w w' := by
  obtain ⟨a, cap, rfl⟩ := hv.len
  have HV := Lib.hid hv
  clear hv
  go_enter Try.func23, Try.ntmps23
  go_wp2_with fail
  refine (logCheck_is xs _ _ HV.out hm).mono ?_
  rintro e w1 ⟨-, he, hb⟩
  obtain ⟨c, hc, rfl⟩ := he hno
  clear he hno
  have hcb : (c == 0) = false := by simpa using hc
  have hcb2 : (!(c == 0)) = true := by rw [hcb]; rfl
  go_wp2
  go_ret2
  exact ⟨⟨c, hc, rfl⟩, by repeat (first | with_reducible exact Below.refl _ _ | ((with_reducible refine Below.setCell ?_ ?_ _); rotate_left; (· first | (simp; done) | omega | (simp; omega))) | with_reducible refine below_drewN ?_ _ | with_reducible refine Below.drew ?_ | ((with_reducible refine Below.trans ?_ (Below.mono hb ?_)); rotate_left; (· first | (simp; done) | omega | (simp; omega))) | ((with_reducible refine Below.alloc ?_ ?_ _); rotate_left; (· first | (simp; done) | omega | (simp; omega))) | exact Below.refl _ _ | refine Below.setCell ?_ (by first | (simp; done) | omega | (simp; omega)) _ | refine below_drewN ?_ _ | refine Below.drew ?_ | refine Below.trans ?_ (Below.mono hb (by first | (simp; done) | omega | (simp; omega))) | refine Below.alloc ?_ (by first | (simp; done) | omega | (simp; omega)) _)⟩
set_option maxHeartbeats 16000000 in
set_option maxRecDepth 100000 in
theorem text_ok (xs : List EntR) (v : Value) (w : World) (hv : RecsAt 4 entLay w v xs) (hok : LogOk xs) :
    Calls Try.prog 23 #[v] w fun e w' => e = .returned (.tuple #[.string ⟨(textL xs).toArray⟩, .int .i64 0]) ∧ Below w.heap.size w w' := by
  obtain ⟨a, cap, rfl⟩ := hv.len
  have HV := Lib.hid hv
  have HOK := Lib.hid hok
  have hl32 : xs.length ≤ 32 := hok.1
  clear hv hok
  go_enter Try.func23, Try.ntmps23
  go_wp2_with fail
  refine (logCheck_is xs _ _ HV.out (by omega)).mono ?_
  rintro e w1 ⟨he, -, hb⟩
  obtain rfl := he HOK.out
  clear he
  have z1 := hb.size
  have HB1 := Lib.hid hb
  clear hb
  have HI1 := Lib.hid (Lib.fresh_isBuilder TBuild TByte w1)
  go_wp2_with fail
  go_loopw [15] (fun i wr => (∃ k : Nat, k ≤ xs.length ∧ i = .int .i64 k ∧ Lib.IsBuilder TBuild TByte w.heap.size w1.heap.size (Lib.byteCells (textL (xs.take k))) wr) ∧ Below w.heap.size w wr) (fun i _ => xs.length - (intOf i).toNat)
  case atStart =>
    exact ⟨⟨0, Nat.zero_le _, rfl, isb_mono HI1.out z1⟩, HB1.out.alloc z1 _⟩
  case round =>
    obtain ⟨⟨k, hk, rfl, hI⟩, hB⟩ := hrel
    have zB := hB.size
    by_cases hlt : k < xs.length
    · obtain ⟨x, hx⟩ : ∃ x, xs[k]? = some x := ⟨_, List.getElem?_eq_getElem hlt⟩
      obtain ⟨b0, off, cap', hv', hl1, hl2, hc⟩ := HV.out.at_ hx
      cases hv'
      have hxd : xs.getD k ent0 = x := by rw [List.getD_eq_getElem?_getD, hx]; rfl
      have hxo : entOk x := hxd ▸ (HOK.out.2 k hlt).1
      have hel := entS_len hxo
      have htl := textL_len HOK.out.2 k hk
      have hst := textL_take hx
      have hof : entS x = digL x.1.toNat ++ [58] ++ digL x.2.1.toNat ++ [58] ++ digL x.2.2.1.toNat ++ [120] ++ digL x.2.2.2.toNat ++ [10] := rfl
      obtain ⟨f, l, c, m⟩ := x
      have c0 := cell_later hB (hc 0 (by omega))
      have c1 := cell_later hB (hc 1 (by omega))
      have c2 := cell_later hB (hc 2 (by omega))
      have c3 := cell_later hB (hc 3 (by omega))
      obtain ⟨⟨p1, p2⟩, ⟨p3, p4⟩, ⟨p5, p6⟩, p7, p8⟩ := hxo
      simp only at p1 p2 p3 p4 p5 p6 p7 p8 hof
      obtain ⟨nf, rfl⟩ : ∃ n : Nat, f = n := ⟨f.toNat, by omega⟩
      obtain ⟨nl, rfl⟩ : ∃ n : Nat, l = n := ⟨l.toNat, by omega⟩
      obtain ⟨nc, rfl⟩ : ∃ n : Nat, c = n := ⟨c.toNat, by omega⟩
      obtain ⟨nm, rfl⟩ : ∃ n : Nat, m = n := ⟨m.toNat, by omega⟩
      change wr.cell? ⟨b0, off + k * 4, none⟩ = some (.int .i64 nf) at c0
      change wr.cell? ⟨b0, off + k * 4 + 1, none⟩ = some (.int .i64 nl) at c1
      change wr.cell? ⟨b0, off + k * 4 + 2, none⟩ = some (.int .i64 nc) at c2
      change wr.cell? ⟨b0, off + k * 4 + 3, none⟩ = some (.int .i64 nm) at c3
      simp only [Int.toNat_natCast] at hof
      obtain ⟨es, hes⟩ : ∃ es, entS ((nf : Int), (nl : Int), (nc : Int), (nm : Int)) = es := ⟨_, rfl⟩
      rw [hes] at hof hel hst
      have g0 := digS_size 19 nf (by omega) (by omega)
      have g1 := digS_size 19 nl (by omega) (by omega)
      have g2 := digS_size 19 nc (by omega) (by omega)
      have g3 := digS_size 19 nm (by omega) (by omega)
      have D0 : Hid (∀ W : World, Calls Try.prog 52 #[.int .i64 nf] W fun e w' => e = .returned (.string (digS nf)) ∧ Below W.heap.size W w') := fun W => digits_is nf (by omega) W
      have D1 : Hid (∀ W : World, Calls Try.prog 52 #[.int .i64 nl] W fun e w' => e = .returned (.string (digS nl)) ∧ Below W.heap.size W w') := fun W => digits_is nl (by omega) W
      have D2 : Hid (∀ W : World, Calls Try.prog 52 #[.int .i64 nc] W fun e w' => e = .returned (.string (digS nc)) ∧ Below W.heap.size W w') := fun W => digits_is nc (by omega) W
      have D3 : Hid (∀ W : World, Calls Try.prog 52 #[.int .i64 nm] W fun e w' => e = .returned (.string (digS nm)) ∧ Below W.heap.size W w') := fun W => digits_is nm (by omega) W
      have hof7 : digS nf ++ ⟨#[58]⟩ ++ digS nl ++ ⟨#[58]⟩ ++ digS nc ++ ⟨#[120]⟩ ++ digS nm ++ ⟨#[10]⟩ = (⟨es.toArray⟩ : ByteArray) := by
        rw [hof]; unfold digS; simp [ByteArray.mk_append_mk]
      generalize digS nf = s0 at *
      generalize digS nl = s1 at *
      generalize digS nc = s2 at *
      generalize digS nm = s3 at *
      obtain ⟨a1, ha1⟩ : ∃ z, s0 ++ ⟨#[58]⟩ = z := ⟨_, rfl⟩
      have qa1 : a1.size = s0.size + 1 := by rw [← ha1]; rw [ByteArray.size_append]; first | done | rfl
      rw [ha1] at hof7
      obtain ⟨a2, ha2⟩ : ∃ z, a1 ++ s1 = z := ⟨_, rfl⟩
      have qa2 : a2.size = a1.size + s1.size := by rw [← ha2]; rw [ByteArray.size_append]; first | done | rfl
      rw [ha2] at hof7
      obtain ⟨a3, ha3⟩ : ∃ z, a2 ++ ⟨#[58]⟩ = z := ⟨_, rfl⟩
      have qa3 : a3.size = a2.size + 1 := by rw [← ha3]; rw [ByteArray.size_append]; first | done | rfl
      rw [ha3] at hof7
      obtain ⟨a4, ha4⟩ : ∃ z, a3 ++ s2 = z := ⟨_, rfl⟩
      have qa4 : a4.size = a3.size + s2.size := by rw [← ha4]; rw [ByteArray.size_append]; first | done | rfl
      rw [ha4] at hof7
      obtain ⟨a5, ha5⟩ : ∃ z, a4 ++ ⟨#[120]⟩ = z := ⟨_, rfl⟩
      have qa5 : a5.size = a4.size + 1 := by rw [← ha5]; rw [ByteArray.size_append]; first | done | rfl
      rw [ha5] at hof7
      obtain ⟨a6, ha6⟩ : ∃ z, a5 ++ s3 = z := ⟨_, rfl⟩
      have qa6 : a6.size = a5.size + s3.size := by rw [← ha6]; rw [ByteArray.size_append]; first | done | rfl
      rw [ha6] at hof7
      obtain ⟨a7, ha7⟩ : ∃ z, a6 ++ ⟨#[10]⟩ = z := ⟨_, rfl⟩
      have qa7 : a7.size = a6.size + 1 := by rw [← ha7]; rw [ByteArray.size_append]; first | done | rfl
      rw [ha7] at hof7
      have wa1 : ¬ (9223372036854775807 < s0.size + 1) := by omega
      have va1 : ¬ (9223372036854775806 < s0.size) := by omega
      have wa2 : ¬ (9223372036854775807 < a1.size + s1.size) := by omega
      have wa3 : ¬ (9223372036854775807 < a2.size + 1) := by omega
      have va3 : ¬ (9223372036854775806 < a2.size) := by omega
      have wa4 : ¬ (9223372036854775807 < a3.size + s2.size) := by omega
      have wa5 : ¬ (9223372036854775807 < a4.size + 1) := by omega
      have va5 : ¬ (9223372036854775806 < a4.size) := by omega
      have wa6 : ¬ (9223372036854775807 < a5.size + s3.size) := by omega
      have wa7 : ¬ (9223372036854775807 < a6.size + 1) := by omega
      have va7 : ¬ (9223372036854775806 < a6.size) := by omega
      have HI := Lib.hid hI; have HB := Lib.hid hB; have HST := Lib.hid hst; have H7 := Lib.hid hof7
      have es7 : a7.size = es.length := by rw [hof7]; simp [ByteArray.size]
      have zbW : w1.heap.size < wr.heap.size := by rcases hI with h | h <;> exact h.lt
      have e5 : (k : Int) < (xs.length : Int) := by omega
      have e6 : k + 1 ≤ cap := by omega
      obtain ⟨bs, hbs⟩ : ∃ bs, Lib.byteCells (textL (xs.take k)) = bs := ⟨_, rfl⟩
      have hbl : bs.length ≤ 100 * k := by rw [← hbs, Lib.byteCells_length]; exact htl
      have hbl2 : bs.length + a7.size ≤ 140737488355328 := by omega
      clear hc hx hxd hI hB hof hst hof7 hes hel htl qa1 qa2 qa3 qa4 qa5 qa6 qa7 g0 g1 g2 g3 hbl p1 p2 p3 p4 p5 p6 p7 p8 es7
      go_upto_region 8 with (fail)
      have HZ : Hid (TxS (wr.alloc (.cells #[.int .i64 nf, .int .i64 nl, .int .i64 nc, .int .i64 nm] 42)) w wr.heap.size [.int .i64 nf, .int .i64 nl, .int .i64 nc, .int .i64 nm] w1.heap.size bs) := ⟨CellsAt.new wr _ _ _ rfl, heap_alloc_new wr _, isb_later (hbs ▸ HI.out) ((Below.refl _ _).alloc (Nat.le_refl _) _), HB.out.alloc zB _⟩
      clear c0 c1 c2 c3
      have tok0 := True.intro
      have y0 := HZ.out.C.at_ 0 rfl; have y1 := HZ.out.C.at_ 1 rfl; have y2 := HZ.out.C.at_ 2 rfl; have y3 := HZ.out.C.at_ 3 rfl
      go_region_held3 (fun w' => w'.cell? ⟨wr.heap.size, 0, none⟩ = some (.int .i64 nf) ∧ w'.cell? ⟨wr.heap.size, 1, none⟩ = some (.int .i64 nl) ∧ w'.cell? ⟨wr.heap.size, 2, none⟩ = some (.int .i64 nc) ∧ w'.cell? ⟨wr.heap.size, 3, none⟩ = some (.int .i64 nm)) (first | exact ⟨x0, x1, x2, x3⟩ | exact ⟨y0, y1, y2, y3⟩ | go_keep) (first | (have tk := tok0; clear tk tok0; have tok1 := True.intro; go_at_call 52; refine (D0.out _).mono ?_; rintro eA wA ⟨rfl, hbA⟩; have ZZ : TxS wA w wr.heap.size [.int .i64 nf, .int .i64 nl, .int .i64 nc, .int .i64 nm] w1.heap.size bs := (by first | exact ZZ.call hbA | exact HZ.out.drew.call hbA | exact HZ.out.call hbA); have x0 := ZZ.C.at_ 0 rfl; have x1 := ZZ.C.at_ 1 rfl; have x2 := ZZ.C.at_ 2 rfl; have x3 := ZZ.C.at_ 3 rfl; have xz := ZZ.C.lt) | (have tk := tok1; clear tk tok1; have tok2 := True.intro; go_at_call 52; refine (D1.out _).mono ?_; rintro eA wA ⟨rfl, hbA⟩; have ZZ : TxS wA w wr.heap.size [.int .i64 nf, .int .i64 nl, .int .i64 nc, .int .i64 nm] w1.heap.size bs := (by first | exact ZZ.call hbA | exact HZ.out.drew.call hbA | exact HZ.out.call hbA); have x0 := ZZ.C.at_ 0 rfl; have x1 := ZZ.C.at_ 1 rfl; have x2 := ZZ.C.at_ 2 rfl; have x3 := ZZ.C.at_ 3 rfl; have xz := ZZ.C.lt) | (have tk := tok2; clear tk tok2; have tok3 := True.intro; go_at_call 52; refine (D2.out _).mono ?_; rintro eA wA ⟨rfl, hbA⟩; have ZZ : TxS wA w wr.heap.size [.int .i64 nf, .int .i64 nl, .int .i64 nc, .int .i64 nm] w1.heap.size bs := (by first | exact ZZ.call hbA | exact HZ.out.drew.call hbA | exact HZ.out.call hbA); have x0 := ZZ.C.at_ 0 rfl; have x1 := ZZ.C.at_ 1 rfl; have x2 := ZZ.C.at_ 2 rfl; have x3 := ZZ.C.at_ 3 rfl; have xz := ZZ.C.lt) | (have tk := tok3; clear tk tok3; have tok4 := True.intro; go_at_call 52; refine (D3.out _).mono ?_; rintro eA wA ⟨rfl, hbA⟩; have ZZ : TxS wA w wr.heap.size [.int .i64 nf, .int .i64 nl, .int .i64 nc, .int .i64 nm] w1.heap.size bs := (by first | exact ZZ.call hbA | exact HZ.out.drew.call hbA | exact HZ.out.call hbA); have x0 := ZZ.C.at_ 0 rfl; have x1 := ZZ.C.at_ 1 rfl; have x2 := ZZ.C.at_ 2 rfl; have x3 := ZZ.C.at_ 3 rfl; have xz := ZZ.C.lt) | (go_at_call 51; refine (write_is w.heap.size w1.heap.size bs a7 _ (by exact ZZ.I) hbl2 (by exact ZZ.B.size)).mono ?_; rintro eW wW ⟨rfl, hIW, hbW, hkW⟩; have EW := hkW _ _ ZZ.E (by intro h; injection h with h; omega) (by intro c fz h; injection h with _ h; revert h; decide); have x0 : wW.cell? ⟨wr.heap.size, 0, none⟩ = some (.int .i64 nf) := (by rw [Lib.cell_of_heap EW]; rfl); have x1 : wW.cell? ⟨wr.heap.size, 1, none⟩ = some (.int .i64 nl) := (by rw [Lib.cell_of_heap EW]; rfl); have x2 : wW.cell? ⟨wr.heap.size, 2, none⟩ = some (.int .i64 nc) := (by rw [Lib.cell_of_heap EW]; rfl); have x3 : wW.cell? ⟨wr.heap.size, 3, none⟩ = some (.int .i64 nm) := (by rw [Lib.cell_of_heap EW]; rfl)))
      all_goals
        have hIx : Lib.IsBuilder TBuild TByte w.heap.size w1.heap.size (bs ++ Lib.strCells a7) wW := .inr hIW
        have hBx := ZZ.B.trans hbW
        have hst7 : Lib.byteCells (textL (xs.take (k + 1))) = bs ++ Lib.strCells a7 := by
          rw [HST.out, byteCells_app, hbs, H7.out]
          rfl
        have HI7 : Hid (Lib.IsBuilder TBuild TByte w.heap.size w1.heap.size (Lib.byteCells (textL (xs.take (k + 1)))) wW) := hst7 ▸ hIx
        have HB7 := Lib.hid hBx
        clear hst7 hIx hBx HI HB HST H7 HZ ZZ hIW hbW x0 x1 x2 x3 xz
        go_wp2
        go_roundw
        case rel => exact ⟨⟨k + 1, by omega, by go_num, HI7.out⟩, HB7.out⟩
        case measure => simp [intOf]; omega
    · obtain rfl : k = xs.length := by omega
      have HI := Lib.hid hI; have HB := Lib.hid hB
      have e9 : xs.take xs.length = xs := List.take_length
      clear hI hB
      go_wp2_with fail
      refine (Try.Builder_String_any w.heap.size w1.heap.size (textL xs) _ (by have := HI.out; rw [e9] at this; exact this) (by exact zB)).mono ?_
      rintro e w9 ⟨rfl, hb9⟩
      go_wp2
      go_ret2
      exact ⟨rfl, HB.out.trans hb9⟩

end Go.Proofs.Ytglagndpholejaa
