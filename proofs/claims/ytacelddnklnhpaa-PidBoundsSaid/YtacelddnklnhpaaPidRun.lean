/- What pid.Run computes, as far as its bounds go. -/
import Derived.Test.YtacelddnklnhpaaPid
namespace Go.Proofs.Ytacelddnklnhpaa
open Go.ChangeShapes Go.WideShapes Go.ChangeAt Go.RowKit
set_option linter.unusedVariables false

theorem own_later {w w' : World} {base : Nat} {e : TypeId} {size : Nat} {v : Value} {n : Nat} {xs : List Value} (h : w.ownsRow base e size v n xs) (hb : Below w.heap.size w w') : w'.ownsRow base e size v n xs :=
  h.kept (row := none) ⟨hb.os, hb.tape, hb.output, hb.size, fun k hk _ => hb.block k hk⟩ (by cases v.ownBlock <;> simp)
theorem infoI32 : (Try.prog.info? 21).map (fun i => (i.zero, i.size, i.bytes)) = some (some (.int .i32 0), 1, 4) := by kernel_rfl
/-- behind a run: the outputs and the sum lie in the bounds, as many outputs as errors -/
def PidRan (low high : Int) (len B : Nat) (w : World) (e : Ending) (w' : World) : Prop :=
  ∃ (sum last : Int) (v : Value) (ys : List Int), e = .returned (.tuple #[.agg #[.int .i32 sum, .int .i32 last], v, .int .i64 0]) ∧ low ≤ sum ∧ sum ≤ high ∧ ys.length = len ∧ (∀ y ∈ ys, low ≤ y ∧ y ≤ high) ∧
    w'.ownsRow B 21 1 v len (ys.map (Value.int .i32)) ∧ Below w.heap.size w w'
set_option maxHeartbeats 4000000 in
set_option maxRecDepth 100000 in
theorem pidRun_yes (P I D low high sum last : Int) (a : Option Addr) (len cap : Nat) (zs : List Int) (w : World) (hP : -2147483648 ≤ P ∧ P ≤ 2147483647) (hI : -2147483648 ≤ I ∧ I ≤ 2147483647) (hD : -2147483648 ≤ D ∧ D ≤ 2147483647) (hlow : -2147483648 ≤ low ∧ low ≤ 2147483647) (hhigh : -2147483648 ≤ high ∧ high ≤ 2147483647) (hsum : -2147483648 ≤ sum ∧ sum ≤ 2147483647) (hlast : -2147483648 ≤ last ∧ last ≤ 2147483647) (hrow : Open.IsRow .i32 w a len cap zs) (hr : len ≤ cap ∧ cap * 4 ≤ 140737488351232) (h : ¬ pidBad low high sum) :
    Calls Try.prog 26 #[.agg #[.int .i32 P, .int .i32 I, .int .i32 D, .int .i32 low, .int .i32 high], .agg #[.int .i32 sum, .int .i32 last], .slice a len cap] w (PidRan low high len (w.heap.size + 1 + 1 + 1) w) := by
  obtain ⟨i0, hi, hz0, hz1, hz2⟩ := info_parts infoI32
  have H := Lib.hid h; have HR := Lib.hid hrow
  have hlh : low ≤ high ∧ low ≤ sum ∧ sum ≤ high := by unfold pidBad at h; omega
  clear h hrow
  go_enter Try.func26, Try.ntmps26
  go_wp2_with fail
  refine (pidCheck_yes _ _ _ _ _ _ _ _ H.out).mono ?_
  rintro e_w1 w1 ⟨rfl, hb⟩
  have zhb := hb.size
  obtain ⟨chb, fhb⟩ := Open.bcell hb
  try (simp at zhb)
  go_wp2
  go_loopw [10, 23] (fun v i wr => ∃ (k : Nat) (s l : Int) (ys : List Int), k ≤ len ∧ i = .int .i64 k ∧ ys.length = k ∧ (∀ y ∈ ys, low ≤ y ∧ y ≤ high) ∧ (low ≤ s ∧ s ≤ high) ∧ (-2147483648 ≤ l ∧ l ≤ 2147483647) ∧
      wr.ownsRow (w.heap.size + 1 + 1 + 1) 21 1 v k (ys.map (Value.int .i32)) ∧ Below w.heap.size w wr ∧ w.heap.size + 1 + 1 < wr.heap.size ∧
      wr.cell? ⟨w.heap.size, 0, none⟩ = some (.int .i32 P) ∧ wr.cell? ⟨w.heap.size, 1, none⟩ = some (.int .i32 I) ∧ wr.cell? ⟨w.heap.size, 2, none⟩ = some (.int .i32 D) ∧ wr.cell? ⟨w.heap.size, 3, none⟩ = some (.int .i32 low) ∧ wr.cell? ⟨w.heap.size, 4, none⟩ = some (.int .i32 high) ∧
      wr.cell? ⟨w.heap.size + 1, 0, none⟩ = some (.int .i32 s) ∧ wr.cell? ⟨w.heap.size + 1, 1, none⟩ = some (.int .i32 l) ∧
      wr.cell? ⟨w.heap.size + 1 + 1, 0, none⟩ = some (.int .i32 0) ∧ wr.cell? ⟨w.heap.size + 1 + 1, 1, none⟩ = some (.int .i32 0) ∧
      (∀ o, wr.frozen? ⟨w.heap.size + 1, o, none⟩ = false) ∧ (∀ o, wr.frozen? ⟨w.heap.size + 1 + 1, o, none⟩ = false)) (fun _ i _ => len - (intOf i).toNat)
  case atStart =>
    refine ⟨0, sum, last, [], Nat.zero_le _, rfl, rfl, by simp, by omega, by omega, World.ownsRow_nil _ _ _ _, ?_, by omega, ?_, ?_, ?_, ?_, ?_, ?_, ?_, ?_, ?_, ?_, ?_⟩
    · repeat (first | exact Below.refl _ _ | refine Below.setCell ?_ (by first | (simp; done) | omega | (simp; omega)) _ | refine below_drewN ?_ _ | refine Below.drew ?_ | refine Below.trans ?_ (Below.mono hb (by first | (simp; done) | omega | (simp; omega))) | refine Below.alloc ?_ (by first | (simp; done) | omega | (simp; omega)) _)
    iterate 9 (rw [chb _ _ (by first | (simp; done) | omega | (simp; omega))]; go_simp)
    · intro o; rw [fhb _ _ (by first | (simp; done) | omega | (simp; omega))]; go_simp
    · intro o; rw [fhb _ _ (by first | (simp; done) | omega | (simp; omega))]; go_simp
  case round =>
    clear hb chb fhb zhb
    obtain ⟨k, s, l, ys, hk, rfl, hys, hin, hs, hl, hown, hB, hsz, g0, g1, g2, g3, g4, q0, q1, r0, r1, f1, f2⟩ := hrel
    by_cases hlt : k < len
    · obtain ⟨b, off, rfl, -, -, -, hcell, hwf⟩ := HR.out.pos (by omega)
      have hx := cell_later hB (hcell k (by omega))
      have hv := bounds_i32 (hwf k)
      have HOWN := Lib.hid hown; have HYS := Lib.hid hys; have HIN := Lib.hid hin
      have hnb : ¬ pidBad low high s := by unfold pidBad; omega
      have HNB := Lib.hid hnb
      have n1 := pidNext_bd P I D low high s l (zs.getD k 0) hnb
      have n2 := pidTold_bd P I D low high s l (zs.getD k 0) hnb
      clear hcell hwf hown hys hin hnb
      generalize zs.getD k 0 = x at *
      go_wp2_with fail
      refine (pidStep_yes _ _ _ _ _ _ _ _ _ (by omega) (by omega) (by omega) (by omega) (by omega) (by omega) (by omega) (by omega) HNB.out).mono ?_
      generalize pidNext P I D low high s l x = nx at *
      generalize pidTold P I D low high s l x = tl at *
      rintro e2 w2 ⟨rfl, hb⟩
      have zb := hb.size
      have B2 : Below w.heap.size w w2 := hB.trans (hb.mono (by omega))
      have OW := Lib.hid (own_later HOWN.out hb)
      have q8 : ∀ o, w2.frozen? ⟨w.heap.size + 1, o, none⟩ = false := fun o => by rw [hb.frozen (by simp; omega)]; exact f1 o
      have q9 : ∀ o, w2.frozen? ⟨w.heap.size + 1 + 1, o, none⟩ = false := fun o => by rw [hb.frozen (by simp; omega)]; exact f2 o
      replace g0 := cell_later hb g0
      replace g1 := cell_later hb g1
      replace g2 := cell_later hb g2
      replace g3 := cell_later hb g3
      replace g4 := cell_later hb g4
      replace q0 := cell_later hb q0
      replace q1 := cell_later hb q1
      replace r0 := cell_later hb r0
      replace r1 := cell_later hb r1
      clear hb hB f1 f2 hx HOWN
      have sw2_0_0 : w.heap.size < w2.heap.size := by omega
      have sw2_1_0 : w.heap.size + 1 < w2.heap.size := by omega
      have sw2_2_0 : w.heap.size + 1 + 1 < w2.heap.size := by omega
      go_wp2_with (at_builtin; refine wpList_append_own _ rfl _ _ 69 rfl (w.heap.size + 1 + 1 + 1) 21 i0 (.int .i32 0) 1 4 Try.underlying69 hi hz0 hz1 hz2 rfl (by decide) _ _ _ rfl ((ownsRow_setCell_below (ownsRow_setCell_below OW.out (by simp) _) (by simp) _).alloc _) ⟨w2.heap.size, 0, none⟩ 1 1 [.int .i32 tl] rfl rfl ?c1 ?c2 ?c3 ?c4 ?c5 ?_)
      case c1 =>
        intro j u hj
        match j, hj with
        | 0, hj => simp at hj; subst hj; go_simp
      case c2 => intro u hu; simp at hu; subst hu; rfl
      case c3 => unfold maxLen; omega
      case c4 => omega
      case c5 => simp; omega
      · intro v' w3 hown' hgrow _
        have BG := (Below.refl (w.heap.size + 1 + 1 + 1) _).grown hgrow (by simp; omega) (fun j hj => (OW.out.lt j hj).1)
        have hgs := hgrow.size
        simp at hgs
        have B3 : Below w.heap.size w w3 := Below.trans (by repeat (first | exact Below.refl _ _ | exact B2 | refine Below.setCell ?_ (by first | (simp; done) | omega | (simp; omega)) _ | refine below_drewN ?_ _ | refine Below.drew ?_ | refine Below.alloc ?_ (by first | (simp; done) | omega | (simp; omega)) _)) (BG.mono (by omega))
        have HO := Lib.hid hown'
        have t0 : w3.cell? ⟨w.heap.size, 0, none⟩ = some (.int .i32 P) := by rw [BG.cell (by first | (simp; done) | omega | (simp; omega))]; go_simp
        have t1 : w3.cell? ⟨w.heap.size, 1, none⟩ = some (.int .i32 I) := by rw [BG.cell (by first | (simp; done) | omega | (simp; omega))]; go_simp
        have t2 : w3.cell? ⟨w.heap.size, 2, none⟩ = some (.int .i32 D) := by rw [BG.cell (by first | (simp; done) | omega | (simp; omega))]; go_simp
        have t3 : w3.cell? ⟨w.heap.size, 3, none⟩ = some (.int .i32 low) := by rw [BG.cell (by first | (simp; done) | omega | (simp; omega))]; go_simp
        have t4 : w3.cell? ⟨w.heap.size, 4, none⟩ = some (.int .i32 high) := by rw [BG.cell (by first | (simp; done) | omega | (simp; omega))]; go_simp
        have u0 : w3.cell? ⟨w.heap.size + 1, 0, none⟩ = some (.int .i32 nx) := by rw [BG.cell (by first | (simp; done) | omega | (simp; omega))]; go_simp
        have u1 : w3.cell? ⟨w.heap.size + 1, 1, none⟩ = some (.int .i32 x) := by rw [BG.cell (by first | (simp; done) | omega | (simp; omega))]; go_simp
        have r0 : w3.cell? ⟨w.heap.size + 1 + 1, 0, none⟩ = some (.int .i32 0) := by rw [BG.cell (by first | (simp; done) | omega | (simp; omega))]; go_simp
        have r1 : w3.cell? ⟨w.heap.size + 1 + 1, 1, none⟩ = some (.int .i32 0) := by rw [BG.cell (by first | (simp; done) | omega | (simp; omega))]; go_simp
        have f1 : ∀ o, w3.frozen? ⟨w.heap.size + 1, o, none⟩ = false := fun o => by rw [BG.frozen (by first | (simp; done) | omega | (simp; omega))]; go_simp
        have f2 : ∀ o, w3.frozen? ⟨w.heap.size + 1 + 1, o, none⟩ = false := fun o => by rw [BG.frozen (by first | (simp; done) | omega | (simp; omega))]; go_simp
        clear hown' hgrow BG
        go_wp2
        go_roundw
        case rel =>
          refine ⟨k + 1, nx, x, ys ++ [tl], by omega, by go_num, by simp [HYS.out], ?_, by omega, by omega, ?_, B3, by omega, t0, t1, t2, t3, t4, u0, u1, r0, r1, f1, f2⟩
          · intro y hy
            rcases List.mem_append.1 hy with hy | hy
            · exact HIN.out y hy
            · simp at hy; subst hy; exact n2
          · have := HO.out; simpa using this
        case measure => simp [intOf]; omega
    · obtain rfl : k = len := by omega
      have HOWN := Lib.hid hown; have HYS := Lib.hid hys; have HIN := Lib.hid hin
      clear hown hys hin
      go_wp2
      refine bodyPost_ret (v := .tuple #[.agg #[.int .i32 s, .int .i32 l], _, .int .i64 0]) (by simp [results, Try.results26, go_sem, r0, r1]; rfl) rfl ⟨s, l, _, ys, rfl, hs.1, hs.2, HYS.out, HIN.out, ?_, ?_⟩
      · exact ownsRow_setCell_below (ownsRow_setCell_below HOWN.out (by simp) _) (by simp) _
      · repeat (first | exact Below.refl _ _ | exact hB | refine Below.setCell ?_ (by first | (simp; done) | omega | (simp; omega)) _ | refine below_drewN ?_ _ | refine Below.drew ?_ | refine Below.alloc ?_ (by first | (simp; done) | omega | (simp; omega)) _)
theorem pidRun_no (P I D low high sum last : Int) (a : Option Addr) (len cap : Nat) (w : World) (h : pidBad low high sum) :
    Calls Try.prog 26 #[.agg #[.int .i32 P, .int .i32 I, .int .i32 D, .int .i32 low, .int .i32 high], .agg #[.int .i32 sum, .int .i32 last], .slice a len cap] w fun e w' => e = .returned (.tuple #[.agg #[.int .i32 0, .int .i32 0], .slice none 0 0, .int .i64 1]) ∧ Below w.heap.size w w' := by
  have H := Lib.hid h
  clear h
  go_enter Try.func26, Try.ntmps26
  go_wp2_with fail
  refine (pidCheck_no _ _ _ _ _ _ _ _ H.out).mono ?_
  rintro e_w1 w1 ⟨rfl, hb⟩
  have zhb := hb.size
  obtain ⟨chb, fhb⟩ := Open.bcell hb
  try (simp at zhb)
  go_wp2
  refine bodyPost_ret (v := .tuple #[.agg #[.int .i32 0, .int .i32 0], .slice none 0 0, .int .i64 1]) (by simp [results, Try.results26, go_sem, chb]) rfl ⟨rfl, ?_⟩
  repeat (first | exact Below.refl _ _ | refine Below.setCell ?_ (by first | (simp; done) | omega | (simp; omega)) _ | refine below_drewN ?_ _ | refine Below.drew ?_ | refine Below.trans ?_ (Below.mono hb (by first | (simp; done) | omega | (simp; omega))) | refine Below.alloc ?_ (by first | (simp; done) | omega | (simp; omega)) _)

end Go.Proofs.Ytacelddnklnhpaa
