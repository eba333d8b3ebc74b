/- What red.Usable computes. -/
import Derived.Test.YtfifckcjadbiiaaRedCheck
import Derived.OwnWalk
namespace Go.Proofs.Ytfifckcjadbiiaa
open Go.ChangeShapes Go.WideShapes Go.ChangeAt Go.RowKit
set_option linter.unusedVariables false

/-- which of the first k lanes may be used -/
def usl (fs os : Nat → Bool) : Nat → List Nat
  | 0 => []
  | k + 1 => if !fs k && os k then usl fs os k ++ [k] else usl fs os k
def sel4 {α : Type} (a b c d : α) : Nat → α := fun j => match j with | 0 => a | 1 => b | 2 => c | _ => d
abbrev intsV (U : List Nat) : List Value := U.map fun (i : Nat) => Value.int .i64 (i : Int)
def URel (w : World) (fs os : Nat → Bool) (v i : Value) (wr : World) : Prop := ∃ k : Nat, k ≤ 4 ∧ i = .int .i64 k ∧ wr.ownsRow (w.heap.size + 2) 3 1 v (usl fs os k).length (intsV (usl fs os k)) ∧ Below w.heap.size w wr ∧ w.heap.size + 1 < wr.heap.size ∧
  wr.cell? ⟨w.heap.size + 1, 0, none⟩ = some (.bool (os 0)) ∧ wr.cell? ⟨w.heap.size + 1, 1, none⟩ = some (.bool (os 1)) ∧ wr.cell? ⟨w.heap.size + 1, 2, none⟩ = some (.bool (os 2)) ∧ wr.cell? ⟨w.heap.size + 1, 3, none⟩ = some (.bool (os 3))
theorem usl_len (fs os : Nat → Bool) (k : Nat) : (usl fs os k).length ≤ k := by
  induction k with
  | zero => simp [usl]
  | succ k ih =>
    simp only [usl]
    split
    · simp; omega
    · omega
theorem usl_keep {fs os : Nat → Bool} {k : Nat} (h : (!fs k && os k) = false) : usl fs os (k + 1) = usl fs os k := by simp [usl, h]
theorem usl_take {fs os : Nat → Bool} {k : Nat} (h : (!fs k && os k) = true) : usl fs os (k + 1) = usl fs os k ++ [k] := by simp [usl, h]
theorem infoInt : (Try.prog.info? 3).map (fun i => (i.zero, i.size, i.bytes)) = some (some (.int .i64 0), 1, 8) := by kernel_rfl
set_option maxHeartbeats 4000000 in
set_option maxRecDepth 100000 in
theorem usable_any (m0 r0 m1 r1 m2 r2 m3 r3 : Int) (f0 f1 f2 f3 o0 o1 o2 o3 : Bool) (w : World) :
    Calls Try.prog 18 #[.agg #[.int .i64 m0, .bool f0, .int .i64 r0, .int .i64 m1, .bool f1, .int .i64 r1, .int .i64 m2, .bool f2, .int .i64 r2, .int .i64 m3, .bool f3, .int .i64 r3], .agg #[.bool o0, .bool o1, .bool o2, .bool o3]] w
      fun e w' => ∃ v, e = .returned v ∧ w'.ownsRow (w.heap.size + 2) 3 1 v (usl (sel4 f0 f1 f2 f3) (sel4 o0 o1 o2 o3) 4).length (intsV (usl (sel4 f0 f1 f2 f3) (sel4 o0 o1 o2 o3) 4)) ∧ Below w.heap.size w w' := by
  obtain ⟨i0, hi, hz0, hz1, hz2⟩ := info_parts infoInt
  have ix0 : ∀ w : World, (Instr.index 41 (.agg #[.int .i64 m0, .bool f0, .int .i64 r0, .int .i64 m1, .bool f1, .int .i64 r1, .int .i64 m2, .bool f2, .int .i64 r2, .int .i64 m3, .bool f3, .int .i64 r3]) (.int .i64 0)).run Try.prog w = .ok (.agg #[.int .i64 m0, .bool f0, .int .i64 r0]) w := fun _ => by kernel_rfl
  have ix1 : ∀ w : World, (Instr.index 41 (.agg #[.int .i64 m0, .bool f0, .int .i64 r0, .int .i64 m1, .bool f1, .int .i64 r1, .int .i64 m2, .bool f2, .int .i64 r2, .int .i64 m3, .bool f3, .int .i64 r3]) (.int .i64 1)).run Try.prog w = .ok (.agg #[.int .i64 m1, .bool f1, .int .i64 r1]) w := fun _ => by kernel_rfl
  have ix2 : ∀ w : World, (Instr.index 41 (.agg #[.int .i64 m0, .bool f0, .int .i64 r0, .int .i64 m1, .bool f1, .int .i64 r1, .int .i64 m2, .bool f2, .int .i64 r2, .int .i64 m3, .bool f3, .int .i64 r3]) (.int .i64 2)).run Try.prog w = .ok (.agg #[.int .i64 m2, .bool f2, .int .i64 r2]) w := fun _ => by kernel_rfl
  have ix3 : ∀ w : World, (Instr.index 41 (.agg #[.int .i64 m0, .bool f0, .int .i64 r0, .int .i64 m1, .bool f1, .int .i64 r1, .int .i64 m2, .bool f2, .int .i64 r2, .int .i64 m3, .bool f3, .int .i64 r3]) (.int .i64 3)).run Try.prog w = .ok (.agg #[.int .i64 m3, .bool f3, .int .i64 r3]) w := fun _ => by kernel_rfl
  go_enter Try.func18, Try.ntmps18
  go_wp2
  go_loopw [5, 9] (fun v i wr => URel w (sel4 f0 f1 f2 f3) (sel4 o0 o1 o2 o3) v i wr) (fun _ i _ => 4 - (intOf i).toNat)
  case atStart => exact ⟨0, by omega, rfl, World.ownsRow_nil _ _ _ _, by repeat (first | with_reducible exact Below.refl _ _ | ((with_reducible refine Below.setCell ?_ ?_ _); rotate_left; (· first | (simp; done) | omega | (simp; omega))) | with_reducible refine below_drewN ?_ _ | with_reducible refine Below.drew ?_ | ((with_reducible refine Below.alloc ?_ ?_ _); rotate_left; (· first | (simp; done) | omega | (simp; omega))) | exact Below.refl _ _ | refine Below.setCell ?_ (by first | (simp; done) | omega | (simp; omega)) _ | refine below_drewN ?_ _ | refine Below.drew ?_ | refine Below.alloc ?_ (by first | (simp; done) | omega | (simp; omega)) _), by simp, by rw [show sel4 o0 o1 o2 o3 0 = o0 from rfl]; go_simp, by rw [show sel4 o0 o1 o2 o3 1 = o1 from rfl]; go_simp, by rw [show sel4 o0 o1 o2 o3 2 = o2 from rfl]; go_simp, by rw [show sel4 o0 o1 o2 o3 3 = o3 from rfl]; go_simp⟩
  case round =>
    obtain ⟨k, hk, rfl, hown, hB, hsz, c0, c1, c2, c3⟩ := hrel
    change wr.cell? _ = some (.bool o0) at c0
    change wr.cell? _ = some (.bool o1) at c1
    change wr.cell? _ = some (.bool o2) at c2
    change wr.cell? _ = some (.bool o3) at c3
    rcases (by omega : k = 0 ∨ k = 1 ∨ k = 2 ∨ k = 3 ∨ k = 4) with rfl | rfl | rfl | rfl | rfl
    · have hl := usl_len (sel4 f0 f1 f2 f3) (sel4 o0 o1 o2 o3) 0
      have HO := Lib.hid hown
      cases f0 <;> cases o0
      · clear hown
        go_wp2
        refine ⟨⟨1, by omega, rfl, ?_, by repeat (first | with_reducible exact Below.refl _ _ | with_reducible exact hB | ((with_reducible refine Below.setCell ?_ ?_ _); rotate_left; (· first | (simp; done) | omega | (simp; omega))) | with_reducible refine below_drewN ?_ _ | with_reducible refine Below.drew ?_ | ((with_reducible refine Below.alloc ?_ ?_ _); rotate_left; (· first | (simp; done) | omega | (simp; omega))) | exact Below.refl _ _ | exact hB | refine Below.setCell ?_ (by first | (simp; done) | omega | (simp; omega)) _ | refine below_drewN ?_ _ | refine Below.drew ?_ | refine Below.alloc ?_ (by first | (simp; done) | omega | (simp; omega)) _), by simp; omega, ?_, ?_, ?_, ?_⟩, by simp [intOf]⟩
        · rw [usl_keep (k := 0) rfl]; exact HO.out.alloc _
        · change World.cell? _ _ = some (.bool false); go_simp
        · change World.cell? _ _ = some (.bool o1); go_simp
        · change World.cell? _ _ = some (.bool o2); go_simp
        · change World.cell? _ _ = some (.bool o3); go_simp
      · go_wp2_with (at_builtin; refine wpList_append_own _ rfl _ _ 29 rfl (w.heap.size + 2) 3 i0 (.int .i64 0) 1 8 Try.underlying29 hi hz0 hz1 hz2 rfl (by decide) _ _ _ rfl ((hown.alloc _).alloc _) ⟨wr.heap.size + 1, 0, none⟩ 1 1 [.int .i64 0] rfl rfl (by intro j u h; cases j <;> simp at h; subst h; first | (simp [Addr.add]; done) | (simp [Addr.add]; go_simp)) (by simp [Value.oneCell']) (by unfold maxLen; omega) (by omega) (by first | (simp; done) | omega | (simp; omega)) ?_; intro v' w1 hown' hgrow _)
        have BG : Below (w.heap.size + 2) wr w1 := (((Below.refl _ _).alloc (by omega) _).alloc (by simp; omega) _).grown hgrow (by simp; omega) (fun j e => (HO.out.lt j e).1)
        refine ⟨⟨1, by omega, rfl, ?_, hB.trans (BG.mono (by omega)), by have := BG.size; omega, ?_, ?_, ?_, ?_⟩, by simp [intOf]⟩
        · rw [usl_take (k := 0) rfl]; simpa [intsV] using hown'
        · change World.cell? _ _ = some (.bool true); exact (BG.cell (p := ⟨w.heap.size + 1, 0, none⟩) (by simp)).trans c0
        · change World.cell? _ _ = some (.bool o1); exact (BG.cell (p := ⟨w.heap.size + 1, 1, none⟩) (by simp)).trans c1
        · change World.cell? _ _ = some (.bool o2); exact (BG.cell (p := ⟨w.heap.size + 1, 2, none⟩) (by simp)).trans c2
        · change World.cell? _ _ = some (.bool o3); exact (BG.cell (p := ⟨w.heap.size + 1, 3, none⟩) (by simp)).trans c3
      · clear hown
        go_wp2
        refine ⟨⟨1, by omega, rfl, ?_, by repeat (first | with_reducible exact Below.refl _ _ | with_reducible exact hB | ((with_reducible refine Below.setCell ?_ ?_ _); rotate_left; (· first | (simp; done) | omega | (simp; omega))) | with_reducible refine below_drewN ?_ _ | with_reducible refine Below.drew ?_ | ((with_reducible refine Below.alloc ?_ ?_ _); rotate_left; (· first | (simp; done) | omega | (simp; omega))) | exact Below.refl _ _ | exact hB | refine Below.setCell ?_ (by first | (simp; done) | omega | (simp; omega)) _ | refine below_drewN ?_ _ | refine Below.drew ?_ | refine Below.alloc ?_ (by first | (simp; done) | omega | (simp; omega)) _), by simp; omega, ?_, ?_, ?_, ?_⟩, by simp [intOf]⟩
        · rw [usl_keep (k := 0) rfl]; exact HO.out.alloc _
        · change World.cell? _ _ = some (.bool false); go_simp
        · change World.cell? _ _ = some (.bool o1); go_simp
        · change World.cell? _ _ = some (.bool o2); go_simp
        · change World.cell? _ _ = some (.bool o3); go_simp
      · clear hown
        go_wp2
        refine ⟨⟨1, by omega, rfl, ?_, by repeat (first | with_reducible exact Below.refl _ _ | with_reducible exact hB | ((with_reducible refine Below.setCell ?_ ?_ _); rotate_left; (· first | (simp; done) | omega | (simp; omega))) | with_reducible refine below_drewN ?_ _ | with_reducible refine Below.drew ?_ | ((with_reducible refine Below.alloc ?_ ?_ _); rotate_left; (· first | (simp; done) | omega | (simp; omega))) | exact Below.refl _ _ | exact hB | refine Below.setCell ?_ (by first | (simp; done) | omega | (simp; omega)) _ | refine below_drewN ?_ _ | refine Below.drew ?_ | refine Below.alloc ?_ (by first | (simp; done) | omega | (simp; omega)) _), by simp; omega, ?_, ?_, ?_, ?_⟩, by simp [intOf]⟩
        · rw [usl_keep (k := 0) rfl]; exact HO.out.alloc _
        · change World.cell? _ _ = some (.bool true); go_simp
        · change World.cell? _ _ = some (.bool o1); go_simp
        · change World.cell? _ _ = some (.bool o2); go_simp
        · change World.cell? _ _ = some (.bool o3); go_simp
    · have hl := usl_len (sel4 f0 f1 f2 f3) (sel4 o0 o1 o2 o3) 1
      have HO := Lib.hid hown
      cases f1 <;> cases o1
      · clear hown
        go_wp2
        refine ⟨⟨2, by omega, rfl, ?_, by repeat (first | with_reducible exact Below.refl _ _ | with_reducible exact hB | ((with_reducible refine Below.setCell ?_ ?_ _); rotate_left; (· first | (simp; done) | omega | (simp; omega))) | with_reducible refine below_drewN ?_ _ | with_reducible refine Below.drew ?_ | ((with_reducible refine Below.alloc ?_ ?_ _); rotate_left; (· first | (simp; done) | omega | (simp; omega))) | exact Below.refl _ _ | exact hB | refine Below.setCell ?_ (by first | (simp; done) | omega | (simp; omega)) _ | refine below_drewN ?_ _ | refine Below.drew ?_ | refine Below.alloc ?_ (by first | (simp; done) | omega | (simp; omega)) _), by simp; omega, ?_, ?_, ?_, ?_⟩, by simp [intOf]⟩
        · rw [usl_keep (k := 1) rfl]; exact HO.out.alloc _
        · change World.cell? _ _ = some (.bool o0); go_simp
        · change World.cell? _ _ = some (.bool false); go_simp
        · change World.cell? _ _ = some (.bool o2); go_simp
        · change World.cell? _ _ = some (.bool o3); go_simp
      · go_wp2_with (at_builtin; refine wpList_append_own _ rfl _ _ 29 rfl (w.heap.size + 2) 3 i0 (.int .i64 0) 1 8 Try.underlying29 hi hz0 hz1 hz2 rfl (by decide) _ _ _ rfl ((hown.alloc _).alloc _) ⟨wr.heap.size + 1, 0, none⟩ 1 1 [.int .i64 1] rfl rfl (by intro j u h; cases j <;> simp at h; subst h; first | (simp [Addr.add]; done) | (simp [Addr.add]; go_simp)) (by simp [Value.oneCell']) (by unfold maxLen; omega) (by omega) (by first | (simp; done) | omega | (simp; omega)) ?_; intro v' w1 hown' hgrow _)
        have BG : Below (w.heap.size + 2) wr w1 := (((Below.refl _ _).alloc (by omega) _).alloc (by simp; omega) _).grown hgrow (by simp; omega) (fun j e => (HO.out.lt j e).1)
        refine ⟨⟨2, by omega, rfl, ?_, hB.trans (BG.mono (by omega)), by have := BG.size; omega, ?_, ?_, ?_, ?_⟩, by simp [intOf]⟩
        · rw [usl_take (k := 1) rfl]; simpa [intsV] using hown'
        · change World.cell? _ _ = some (.bool o0); exact (BG.cell (p := ⟨w.heap.size + 1, 0, none⟩) (by simp)).trans c0
        · change World.cell? _ _ = some (.bool true); exact (BG.cell (p := ⟨w.heap.size + 1, 1, none⟩) (by simp)).trans c1
        · change World.cell? _ _ = some (.bool o2); exact (BG.cell (p := ⟨w.heap.size + 1, 2, none⟩) (by simp)).trans c2
        · change World.cell? _ _ = some (.bool o3); exact (BG.cell (p := ⟨w.heap.size + 1, 3, none⟩) (by simp)).trans c3
      · clear hown
        go_wp2
        refine ⟨⟨2, by omega, rfl, ?_, by repeat (first | with_reducible exact Below.refl _ _ | with_reducible exact hB | ((with_reducible refine Below.setCell ?_ ?_ _); rotate_left; (· first | (simp; done) | omega | (simp; omega))) | with_reducible refine below_drewN ?_ _ | with_reducible refine Below.drew ?_ | ((with_reducible refine Below.alloc ?_ ?_ _); rotate_left; (· first | (simp; done) | omega | (simp; omega))) | exact Below.refl _ _ | exact hB | refine Below.setCell ?_ (by first | (simp; done) | omega | (simp; omega)) _ | refine below_drewN ?_ _ | refine Below.drew ?_ | refine Below.alloc ?_ (by first | (simp; done) | omega | (simp; omega)) _), by simp; omega, ?_, ?_, ?_, ?_⟩, by simp [intOf]⟩
        · rw [usl_keep (k := 1) rfl]; exact HO.out.alloc _
        · change World.cell? _ _ = some (.bool o0); go_simp
        · change World.cell? _ _ = some (.bool false); go_simp
        · change World.cell? _ _ = some (.bool o2); go_simp
        · change World.cell? _ _ = some (.bool o3); go_simp
      · clear hown
        go_wp2
        refine ⟨⟨2, by omega, rfl, ?_, by repeat (first | with_reducible exact Below.refl _ _ | with_reducible exact hB | ((with_reducible refine Below.setCell ?_ ?_ _); rotate_left; (· first | (simp; done) | omega | (simp; omega))) | with_reducible refine below_drewN ?_ _ | with_reducible refine Below.drew ?_ | ((with_reducible refine Below.alloc ?_ ?_ _); rotate_left; (· first | (simp; done) | omega | (simp; omega))) | exact Below.refl _ _ | exact hB | refine Below.setCell ?_ (by first | (simp; done) | omega | (simp; omega)) _ | refine below_drewN ?_ _ | refine Below.drew ?_ | refine Below.alloc ?_ (by first | (simp; done) | omega | (simp; omega)) _), by simp; omega, ?_, ?_, ?_, ?_⟩, by simp [intOf]⟩
        · rw [usl_keep (k := 1) rfl]; exact HO.out.alloc _
        · change World.cell? _ _ = some (.bool o0); go_simp
        · change World.cell? _ _ = some (.bool true); go_simp
        · change World.cell? _ _ = some (.bool o2); go_simp
        · change World.cell? _ _ = some (.bool o3); go_simp
    · have hl := usl_len (sel4 f0 f1 f2 f3) (sel4 o0 o1 o2 o3) 2
      have HO := Lib.hid hown
      cases f2 <;> cases o2
      · clear hown
        go_wp2
        refine ⟨⟨3, by omega, rfl, ?_, by repeat (first | with_reducible exact Below.refl _ _ | with_reducible exact hB | ((with_reducible refine Below.setCell ?_ ?_ _); rotate_left; (· first | (simp; done) | omega | (simp; omega))) | with_reducible refine below_drewN ?_ _ | with_reducible refine Below.drew ?_ | ((with_reducible refine Below.alloc ?_ ?_ _); rotate_left; (· first | (simp; done) | omega | (simp; omega))) | exact Below.refl _ _ | exact hB | refine Below.setCell ?_ (by first | (simp; done) | omega | (simp; omega)) _ | refine below_drewN ?_ _ | refine Below.drew ?_ | refine Below.alloc ?_ (by first | (simp; done) | omega | (simp; omega)) _), by simp; omega, ?_, ?_, ?_, ?_⟩, by simp [intOf]⟩
        · rw [usl_keep (k := 2) rfl]; exact HO.out.alloc _
        · change World.cell? _ _ = some (.bool o0); go_simp
        · change World.cell? _ _ = some (.bool o1); go_simp
        · change World.cell? _ _ = some (.bool false); go_simp
        · change World.cell? _ _ = some (.bool o3); go_simp
      · go_wp2_with (at_builtin; refine wpList_append_own _ rfl _ _ 29 rfl (w.heap.size + 2) 3 i0 (.int .i64 0) 1 8 Try.underlying29 hi hz0 hz1 hz2 rfl (by decide) _ _ _ rfl ((hown.alloc _).alloc _) ⟨wr.heap.size + 1, 0, none⟩ 1 1 [.int .i64 2] rfl rfl (by intro j u h; cases j <;> simp at h; subst h; first | (simp [Addr.add]; done) | (simp [Addr.add]; go_simp)) (by simp [Value.oneCell']) (by unfold maxLen; omega) (by omega) (by first | (simp; done) | omega | (simp; omega)) ?_; intro v' w1 hown' hgrow _)
        have BG : Below (w.heap.size + 2) wr w1 := (((Below.refl _ _).alloc (by omega) _).alloc (by simp; omega) _).grown hgrow (by simp; omega) (fun j e => (HO.out.lt j e).1)
        refine ⟨⟨3, by omega, rfl, ?_, hB.trans (BG.mono (by omega)), by have := BG.size; omega, ?_, ?_, ?_, ?_⟩, by simp [intOf]⟩
        · rw [usl_take (k := 2) rfl]; simpa [intsV] using hown'
        · change World.cell? _ _ = some (.bool o0); exact (BG.cell (p := ⟨w.heap.size + 1, 0, none⟩) (by simp)).trans c0
        · change World.cell? _ _ = some (.bool o1); exact (BG.cell (p := ⟨w.heap.size + 1, 1, none⟩) (by simp)).trans c1
        · change World.cell? _ _ = some (.bool true); exact (BG.cell (p := ⟨w.heap.size + 1, 2, none⟩) (by simp)).trans c2
        · change World.cell? _ _ = some (.bool o3); exact (BG.cell (p := ⟨w.heap.size + 1, 3, none⟩) (by simp)).trans c3
      · clear hown
        go_wp2
        refine ⟨⟨3, by omega, rfl, ?_, by repeat (first | with_reducible exact Below.refl _ _ | with_reducible exact hB | ((with_reducible refine Below.setCell ?_ ?_ _); rotate_left; (· first | (simp; done) | omega | (simp; omega))) | with_reducible refine below_drewN ?_ _ | with_reducible refine Below.drew ?_ | ((with_reducible refine Below.alloc ?_ ?_ _); rotate_left; (· first | (simp; done) | omega | (simp; omega))) | exact Below.refl _ _ | exact hB | refine Below.setCell ?_ (by first | (simp; done) | omega | (simp; omega)) _ | refine below_drewN ?_ _ | refine Below.drew ?_ | refine Below.alloc ?_ (by first | (simp; done) | omega | (simp; omega)) _), by simp; omega, ?_, ?_, ?_, ?_⟩, by simp [intOf]⟩
        · rw [usl_keep (k := 2) rfl]; exact HO.out.alloc _
        · change World.cell? _ _ = some (.bool o0); go_simp
        · change World.cell? _ _ = some (.bool o1); go_simp
        · change World.cell? _ _ = some (.bool false); go_simp
        · change World.cell? _ _ = some (.bool o3); go_simp
      · clear hown
        go_wp2
        refine ⟨⟨3, by omega, rfl, ?_, by repeat (first | with_reducible exact Below.refl _ _ | with_reducible exact hB | ((with_reducible refine Below.setCell ?_ ?_ _); rotate_left; (· first | (simp; done) | omega | (simp; omega))) | with_reducible refine below_drewN ?_ _ | with_reducible refine Below.drew ?_ | ((with_reducible refine Below.alloc ?_ ?_ _); rotate_left; (· first | (simp; done) | omega | (simp; omega))) | exact Below.refl _ _ | exact hB | refine Below.setCell ?_ (by first | (simp; done) | omega | (simp; omega)) _ | refine below_drewN ?_ _ | refine Below.drew ?_ | refine Below.alloc ?_ (by first | (simp; done) | omega | (simp; omega)) _), by simp; omega, ?_, ?_, ?_, ?_⟩, by simp [intOf]⟩
        · rw [usl_keep (k := 2) rfl]; exact HO.out.alloc _
        · change World.cell? _ _ = some (.bool o0); go_simp
        · change World.cell? _ _ = some (.bool o1); go_simp
        · change World.cell? _ _ = some (.bool true); go_simp
        · change World.cell? _ _ = some (.bool o3); go_simp
    · have hl := usl_len (sel4 f0 f1 f2 f3) (sel4 o0 o1 o2 o3) 3
      have HO := Lib.hid hown
      cases f3 <;> cases o3
      · clear hown
        go_wp2
        refine ⟨⟨4, by omega, rfl, ?_, by repeat (first | with_reducible exact Below.refl _ _ | with_reducible exact hB | ((with_reducible refine Below.setCell ?_ ?_ _); rotate_left; (· first | (simp; done) | omega | (simp; omega))) | with_reducible refine below_drewN ?_ _ | with_reducible refine Below.drew ?_ | ((with_reducible refine Below.alloc ?_ ?_ _); rotate_left; (· first | (simp; done) | omega | (simp; omega))) | exact Below.refl _ _ | exact hB | refine Below.setCell ?_ (by first | (simp; done) | omega | (simp; omega)) _ | refine below_drewN ?_ _ | refine Below.drew ?_ | refine Below.alloc ?_ (by first | (simp; done) | omega | (simp; omega)) _), by simp; omega, ?_, ?_, ?_, ?_⟩, by simp [intOf]⟩
        · rw [usl_keep (k := 3) rfl]; exact HO.out.alloc _
        · change World.cell? _ _ = some (.bool o0); go_simp
        · change World.cell? _ _ = some (.bool o1); go_simp
        · change World.cell? _ _ = some (.bool o2); go_simp
        · change World.cell? _ _ = some (.bool false); go_simp
      · go_wp2_with (at_builtin; refine wpList_append_own _ rfl _ _ 29 rfl (w.heap.size + 2) 3 i0 (.int .i64 0) 1 8 Try.underlying29 hi hz0 hz1 hz2 rfl (by decide) _ _ _ rfl ((hown.alloc _).alloc _) ⟨wr.heap.size + 1, 0, none⟩ 1 1 [.int .i64 3] rfl rfl (by intro j u h; cases j <;> simp at h; subst h; first | (simp [Addr.add]; done) | (simp [Addr.add]; go_simp)) (by simp [Value.oneCell']) (by unfold maxLen; omega) (by omega) (by first | (simp; done) | omega | (simp; omega)) ?_; intro v' w1 hown' hgrow _)
        have BG : Below (w.heap.size + 2) wr w1 := (((Below.refl _ _).alloc (by omega) _).alloc (by simp; omega) _).grown hgrow (by simp; omega) (fun j e => (HO.out.lt j e).1)
        refine ⟨⟨4, by omega, rfl, ?_, hB.trans (BG.mono (by omega)), by have := BG.size; omega, ?_, ?_, ?_, ?_⟩, by simp [intOf]⟩
        · rw [usl_take (k := 3) rfl]; simpa [intsV] using hown'
        · change World.cell? _ _ = some (.bool o0); exact (BG.cell (p := ⟨w.heap.size + 1, 0, none⟩) (by simp)).trans c0
        · change World.cell? _ _ = some (.bool o1); exact (BG.cell (p := ⟨w.heap.size + 1, 1, none⟩) (by simp)).trans c1
        · change World.cell? _ _ = some (.bool o2); exact (BG.cell (p := ⟨w.heap.size + 1, 2, none⟩) (by simp)).trans c2
        · change World.cell? _ _ = some (.bool true); exact (BG.cell (p := ⟨w.heap.size + 1, 3, none⟩) (by simp)).trans c3
      · clear hown
        go_wp2
        refine ⟨⟨4, by omega, rfl, ?_, by repeat (first | with_reducible exact Below.refl _ _ | with_reducible exact hB | ((with_reducible refine Below.setCell ?_ ?_ _); rotate_left; (· first | (simp; done) | omega | (simp; omega))) | with_reducible refine below_drewN ?_ _ | with_reducible refine Below.drew ?_ | ((with_reducible refine Below.alloc ?_ ?_ _); rotate_left; (· first | (simp; done) | omega | (simp; omega))) | exact Below.refl _ _ | exact hB | refine Below.setCell ?_ (by first | (simp; done) | omega | (simp; omega)) _ | refine below_drewN ?_ _ | refine Below.drew ?_ | refine Below.alloc ?_ (by first | (simp; done) | omega | (simp; omega)) _), by simp; omega, ?_, ?_, ?_, ?_⟩, by simp [intOf]⟩
        · rw [usl_keep (k := 3) rfl]; exact HO.out.alloc _
        · change World.cell? _ _ = some (.bool o0); go_simp
        · change World.cell? _ _ = some (.bool o1); go_simp
        · change World.cell? _ _ = some (.bool o2); go_simp
        · change World.cell? _ _ = some (.bool false); go_simp
      · clear hown
        go_wp2
        refine ⟨⟨4, by omega, rfl, ?_, by repeat (first | with_reducible exact Below.refl _ _ | with_reducible exact hB | ((with_reducible refine Below.setCell ?_ ?_ _); rotate_left; (· first | (simp; done) | omega | (simp; omega))) | with_reducible refine below_drewN ?_ _ | with_reducible refine Below.drew ?_ | ((with_reducible refine Below.alloc ?_ ?_ _); rotate_left; (· first | (simp; done) | omega | (simp; omega))) | exact Below.refl _ _ | exact hB | refine Below.setCell ?_ (by first | (simp; done) | omega | (simp; omega)) _ | refine below_drewN ?_ _ | refine Below.drew ?_ | refine Below.alloc ?_ (by first | (simp; done) | omega | (simp; omega)) _), by simp; omega, ?_, ?_, ?_, ?_⟩, by simp [intOf]⟩
        · rw [usl_keep (k := 3) rfl]; exact HO.out.alloc _
        · change World.cell? _ _ = some (.bool o0); go_simp
        · change World.cell? _ _ = some (.bool o1); go_simp
        · change World.cell? _ _ = some (.bool o2); go_simp
        · change World.cell? _ _ = some (.bool true); go_simp
    · go_wp2
      go_ret
      exact ⟨_, rfl, hown, hB⟩

end Go.Proofs.Ytfifckcjadbiiaa
