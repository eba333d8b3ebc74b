/- What count.Run computes. -/
import Derived.Test.YtibbilncigmleaaCount
namespace Go.Proofs.Ytibbilncigmleaa
open Go.ChangeShapes Go.WideShapes Go.ChangeAt Go.RowKit
set_option linter.unusedVariables false

/-- count, set and place behind k of the bools -/
def runTo (up down most n : Int) (set : Bool) (zs : List Bool) : Nat → Int × Bool × Int
  | 0 => (n, set, -1)
  | k + 1 =>
    (cntN up down most (runTo up down most n set zs k).1 (zs.getD k false),
     cntS up down most (runTo up down most n set zs k).1 (runTo up down most n set zs k).2.1 (zs.getD k false),
     if cntS up down most (runTo up down most n set zs k).1 (runTo up down most n set zs k).2.1 (zs.getD k false) && !(runTo up down most n set zs k).2.1 then (k : Int) else (runTo up down most n set zs k).2.2)
theorem cntN_bd (up down most n : Int) (bad : Bool) (h : CountOk up down most n) : CountOk up down most (cntN up down most n bad) := by
  unfold CountOk at *; unfold cntN; cases bad <;> simp <;> omega
theorem runTo_ok (up down most n : Int) (set : Bool) (zs : List Bool) (h : CountOk up down most n) (k : Nat) : CountOk up down most (runTo up down most n set zs k).1 := by
  induction k with
  | zero => exact h
  | succ k ih => exact cntN_bd _ _ _ _ _ ih
set_option maxHeartbeats 2000000 in
set_option maxRecDepth 100000 in
theorem countRun_yes (up down most n : Int) (set : Bool) (a : Option Addr) (len cap : Nat) (zs : List Bool) (w : World) (h : CountOk up down most n) (hrow : Open.IsRowB w a len cap zs) :
    Calls Try.prog 27 #[.agg #[.int .i64 up, .int .i64 down, .int .i64 most], .agg #[.int .i64 n, .bool set], .slice a len cap] w
      fun e w' => e = .returned (.tuple #[.agg #[.int .i64 (runTo up down most n set zs len).1, .bool (runTo up down most n set zs len).2.1], .int .i64 (runTo up down most n set zs len).2.2, .int .i64 0]) ∧ Below w.heap.size w w' := by
  have H := Lib.hid h; have HR := Lib.hid hrow; have hlen := hrow.maxLen
  clear h hrow
  go_enter Try.func27, Try.ntmps27
  go_wp2_with fail
  refine (countCheck_yes _ _ _ _ _ _ H.out).mono ?_
  rintro e w1 ⟨rfl, hb⟩
  have hz := hb.size
  obtain ⟨hc, hf⟩ := Open.bcell hb
  simp at hz
  go_wp2
  go_loopw [10, 23] (fun at' i wr => ∃ k : Nat, k ≤ len ∧ i = .int .i64 k ∧ at' = .int .i64 (runTo up down most n set zs k).2.2 ∧ Below w.heap.size w wr ∧ w.heap.size + 2 < wr.heap.size ∧
      wr.cell? ⟨w.heap.size, 0, none⟩ = some (.int .i64 up) ∧ wr.cell? ⟨w.heap.size, 1, none⟩ = some (.int .i64 down) ∧ wr.cell? ⟨w.heap.size, 2, none⟩ = some (.int .i64 most) ∧
      wr.cell? ⟨w.heap.size + 1, 0, none⟩ = some (.int .i64 (runTo up down most n set zs k).1) ∧ wr.cell? ⟨w.heap.size + 1, 1, none⟩ = some (.bool (runTo up down most n set zs k).2.1) ∧
      wr.cell? ⟨w.heap.size + 1 + 1, 0, none⟩ = some (.int .i64 0) ∧ wr.cell? ⟨w.heap.size + 1 + 1, 1, none⟩ = some (.bool false) ∧
      (∀ o, wr.frozen? ⟨w.heap.size + 1, o, none⟩ = false) ∧ (∀ o, wr.frozen? ⟨w.heap.size + 1 + 1, o, none⟩ = false)) (fun _ i _ => len - (intOf i).toNat)
  case atStart =>
    refine ⟨0, Nat.zero_le _, rfl, rfl, ?_, by omega, ?_, ?_, ?_, ?_, ?_, ?_, ?_, ?_, ?_⟩
    · repeat (first | exact Below.refl _ _ | refine Below.setCell ?_ (by first | (simp; done) | omega | (simp; omega)) _ | refine Below.trans ?_ (Below.mono hb (by first | (simp; done) | omega | (simp; omega))) | refine Below.alloc ?_ (by first | (simp; done) | omega | (simp; omega)) _)
    · rw [hc _ _ (by simp; omega)]; go_simp
    · rw [hc _ _ (by simp; omega)]; go_simp
    · rw [hc _ _ (by simp; omega)]; go_simp
    · rw [hc _ _ (by simp)]; simp only [runTo]; go_simp
    · rw [hc _ _ (by simp)]; simp only [runTo]; go_simp
    · rw [hc _ _ (by simp)]; go_simp
    · rw [hc _ _ (by simp)]; go_simp
    · intro o; rw [hf _ _ (by simp)]; go_simp
    · intro o; rw [hf _ _ (by simp)]; go_simp
  case round =>
    clear hb hc hf hz
    obtain ⟨k, hk, rfl, rfl, hB, hsz, p0, p1, p2, c0, c1, r0, r1, f1, f2⟩ := hrel
    by_cases hlt : k < len
    · obtain ⟨b, off, rfl, -, -, -, hcell⟩ := HR.out.pos (by omega)
      have hx := cell_later hB (hcell k (by omega))
      clear hcell
      have hok := Lib.hid (runTo_ok up down most n set zs H.out k)
      have s0 : Hid (runTo up down most n set zs (k + 1) = (cntN up down most (runTo up down most n set zs k).1 (zs.getD k false), cntS up down most (runTo up down most n set zs k).1 (runTo up down most n set zs k).2.1 (zs.getD k false),
        if cntS up down most (runTo up down most n set zs k).1 (runTo up down most n set zs k).2.1 (zs.getD k false) && !(runTo up down most n set zs k).2.1 then (k : Int) else (runTo up down most n set zs k).2.2)) := rfl
      generalize zs.getD k false = bd at hx s0
      generalize hst' : runTo up down most n set zs (k + 1) = st' at s0
      have HST := Lib.hid hst'
      clear hst'
      generalize runTo up down most n set zs k = st at c0 c1 hok s0 ⊢
      obtain ⟨n1, s1, t1⟩ := st
      obtain ⟨n2, s2, t2⟩ := st'
      simp only at c0 c1 hok s0 ⊢
      obtain ⟨e1, e2, e3⟩ : n2 = cntN up down most n1 bd ∧ s2 = cntS up down most n1 s1 bd ∧ t2 = if s2 && !s1 then (k : Int) else t1 := by
        have := s0.out; simp only [Prod.mk.injEq] at this; obtain ⟨a1, a2, a3⟩ := this; exact ⟨a1, a2, by rw [a2]; exact a3⟩
      have E1 := Lib.hid e1; have E2 := Lib.hid e2; have E3 := Lib.hid e3
      clear e1 e2 e3 s0
      go_wp2_with fail
      refine (countStep_yes _ _ _ _ n2 _ s2 _ _ hok.out E1.out.symm E2.out.symm).mono ?_
      rintro e2 w2 ⟨rfl, hb2⟩
      have hz2 := hb2.size
      have BB := hb2
      obtain ⟨hc2, hf2⟩ := Open.bcell hb2
      have q0 := cell_later hb2 p0
      have q1 := cell_later hb2 p1
      have q2 := cell_later hb2 p2
      have q3 := cell_later hb2 c0
      have q4 := cell_later hb2 c1
      have q5 := cell_later hb2 r0
      have q6 := cell_later hb2 r1
      have q7 : ∀ o, w2.frozen? ⟨w.heap.size + 1, o, none⟩ = false := fun o => by rw [hf2 _ _ (by omega)]; exact f1 o
      have q8 : ∀ o, w2.frozen? ⟨w.heap.size + 1 + 1, o, none⟩ = false := fun o => by rw [hf2 _ _ (by omega)]; exact f2 o
      have B2 : Below w.heap.size w w2 := hB.trans (hb2.mono (by omega))
      have n0 : w.heap.size < w2.heap.size := by omega
      have n1' : w.heap.size + 1 < w2.heap.size := by omega
      have n2' : w.heap.size + 1 + 1 < w2.heap.size := by omega
      clear hc2 hf2 hb2 BB p0 p1 p2 c0 c1 r0 r1 f1 f2 hB hx
      cases s1 <;> cases s2
      all_goals
        go_wp2
        go_roundw
        case rel =>
          have e3 := E3.out
          simp at e3
          refine ⟨k + 1, by omega, by go_num, by rw [HST.out]; simp [e3], ?_, by simp; omega, ?_, ?_, ?_, ?_, ?_, ?_, ?_, ?_, ?_⟩
          · repeat (first | exact B2 | refine Below.setCell ?_ (by first | (simp; done) | omega | (simp; omega)) _)
          · go_simp
          · go_simp
          · go_simp
          · rw [HST.out]; go_simp
          · rw [HST.out]; go_simp
          · go_simp
          · go_simp
          · intro o; go_simp
          · intro o; go_simp
        case measure => simp [intOf]; omega
    · obtain rfl : k = len := by omega
      go_wp2
      refine bodyPost_ret (v := .tuple #[.agg #[.int .i64 (runTo up down most n set zs k).1, .bool (runTo up down most n set zs k).2.1], .int .i64 (runTo up down most n set zs k).2.2, .int .i64 0]) (by simp [results, Try.results27, go_sem, r0, r1]) rfl ⟨rfl, ?_⟩
      repeat (first | exact hB | refine Below.setCell ?_ (by first | (simp; done) | omega | (simp; omega)) _)
theorem countRun_no (up down most n : Int) (set : Bool) (a : Option Addr) (len cap : Nat) (w : World) (h : ¬ CountOk up down most n) :
    Calls Try.prog 27 #[.agg #[.int .i64 up, .int .i64 down, .int .i64 most], .agg #[.int .i64 n, .bool set], .slice a len cap] w
      fun e w' => e = .returned (.tuple #[.agg #[.int .i64 0, .bool false], .int .i64 0, .int .i64 1]) ∧ Below w.heap.size w w' := by
  have H := Lib.hid h
  clear h
  go_enter Try.func27, Try.ntmps27
  go_wp2_with fail
  refine (countCheck_no _ _ _ _ _ _ H.out).mono ?_
  rintro e w1 ⟨rfl, hb⟩
  have hz := hb.size
  obtain ⟨hc, hf⟩ := Open.bcell hb
  simp at hz
  go_wp2
  refine bodyPost_ret (v := .tuple #[.agg #[.int .i64 0, .bool false], .int .i64 0, .int .i64 1]) (by simp [results, Try.results27, go_sem, hc]) rfl ⟨rfl, ?_⟩
  repeat (first | exact Below.refl _ _ | refine Below.setCell ?_ (by first | (simp; done) | omega | (simp; omega)) _ | refine Below.trans ?_ (Below.mono hb (by first | (simp; done) | omega | (simp; omega))) | refine Below.alloc ?_ (by first | (simp; done) | omega | (simp; omega)) _)

end Go.Proofs.Ytibbilncigmleaa
