/- What cuts.needs, cuts.fails and cuts.Fails compute. -/
import Derived.Test.YtiocgmioijcjhaaGate
namespace Go.Proofs.Ytiocgmioijcjhaa
open Go.ChangeShapes Go.WideShapes Go.ChangeAt Go.RowKit
set_option linter.unusedVariables false

abbrev gate0 : GateR := (0, 0, [])
def bitI (P : Nat) (n : Int) : Bool := P.testBit n.toNat
theorem wraps_u16 (n : Int) (h₀ : 0 ≤ n) (h₁ : n < 2 ^ 16) : IntKind.u16.wrap n = n := IntWalk.u16_in _ (by omega)
theorem bit_is (P n d : Nat) (hP : P < 65536) (hd : 2 ^ n = d) : (bits BinOp.and IntKind.u16 ((P : Int) / (d : Int)) 1 == 1) = P.testBit n := by
  have h1 := bits_mask .u16 16 (by decide) wraps_u16 1 (by decide) ((P : Int) / (d : Int)) (Int.ediv_nonneg (by omega) (by omega)) (by
    have := Int.ediv_le_self (a := (P : Int)) (d : Int) (by omega)
    omega)
  rw [show ((2 : Int) ^ 1 - 1) = 1 from rfl, show ((2 : Int) ^ 1) = 2 from rfl] at h1
  rw [h1, Nat.testBit_eq_decide_div_mod_eq, hd]
  have e : ((P : Int) / (d : Int) % 2) = ((P / d % 2 : Nat) : Int) := by omega
  rw [e]
  by_cases h : P / d % 2 = 1
  · rw [h]; rfl
  · rw [decide_eq_false h, beq_eq_false_iff_ne]; omega
def needsI (g : GateR) : Int := if g.1 = 2 then g.2.2.length else if g.1 = 3 then 1 else g.2.1
def cntF (prev : List Bool) (of : List Int) : Nat := of.countP fun k => prev.getD k.toNat false
def gateB (p : Nat) (prev : List Bool) (g : GateR) : Bool := if g.1 = 1 then bitI p g.2.1 else decide (needsI g ≤ (cntF prev g.2.2 : Int))
/-- which gates fail, the first k of them -/
def failK (ts : List GateR) (p : Nat) : Nat → List Bool
  | 0 => []
  | k + 1 => failK ts p k ++ [gateB p (failK ts p k) (ts.getD k gate0)]
theorem failK_len (ts : List GateR) (p : Nat) (k : Nat) : (failK ts p k).length = k := by
  induction k with
  | zero => rfl
  | succ k ih => simp [failK, ih]
set_option maxHeartbeats 2000000 in
theorem needs_is (kd n : Int) (of : List Int) (a : Option Addr) (c : Nat) (w : World) (hl : of.length ≤ 281474976710656) :
    Calls Try.prog 38 #[.agg #[.int .i64 kd, .int .i64 n, .slice a of.length c]] w fun e w' => e = .returned (.int .i64 (needsI (kd, n, of))) ∧ Below w.heap.size w w' := by
  by_cases h2 : kd = 2
  · subst h2
    go_enter Try.func38, Try.ntmps38
    go_wp2
    go_ret
    exact ⟨by simp [needsI], by repeat (first | with_reducible exact Below.refl _ _ | ((with_reducible refine Below.setCell ?_ ?_ _); rotate_left; (· first | (simp; done) | omega | (simp; omega))) | with_reducible refine below_drewN ?_ _ | with_reducible refine Below.drew ?_ | ((with_reducible refine Below.alloc ?_ ?_ _); rotate_left; (· first | (simp; done) | omega | (simp; omega))) | exact Below.refl _ _ | refine Below.setCell ?_ (by first | (simp; done) | omega | (simp; omega)) _ | refine below_drewN ?_ _ | refine Below.drew ?_ | refine Below.alloc ?_ (by first | (simp; done) | omega | (simp; omega)) _)⟩
  · have t2 : (kd == 2) = false := by simpa using h2
    by_cases h3 : kd = 3
    · subst h3
      go_enter Try.func38, Try.ntmps38
      go_wp2
      go_ret
      exact ⟨by simp [needsI], by repeat (first | with_reducible exact Below.refl _ _ | ((with_reducible refine Below.setCell ?_ ?_ _); rotate_left; (· first | (simp; done) | omega | (simp; omega))) | with_reducible refine below_drewN ?_ _ | with_reducible refine Below.drew ?_ | ((with_reducible refine Below.alloc ?_ ?_ _); rotate_left; (· first | (simp; done) | omega | (simp; omega))) | exact Below.refl _ _ | refine Below.setCell ?_ (by first | (simp; done) | omega | (simp; omega)) _ | refine below_drewN ?_ _ | refine Below.drew ?_ | refine Below.alloc ?_ (by first | (simp; done) | omega | (simp; omega)) _)⟩
    · have t3 : (kd == 3) = false := by simpa using h3
      go_enter Try.func38, Try.ntmps38
      go_wp2
      go_ret
      exact ⟨by simp [needsI, h2, h3], by repeat (first | with_reducible exact Below.refl _ _ | ((with_reducible refine Below.setCell ?_ ?_ _); rotate_left; (· first | (simp; done) | omega | (simp; omega))) | with_reducible refine below_drewN ?_ _ | with_reducible refine Below.drew ?_ | ((with_reducible refine Below.alloc ?_ ?_ _); rotate_left; (· first | (simp; done) | omega | (simp; omega))) | exact Below.refl _ _ | refine Below.setCell ?_ (by first | (simp; done) | omega | (simp; omega)) _ | refine below_drewN ?_ _ | refine Below.drew ?_ | refine Below.alloc ?_ (by first | (simp; done) | omega | (simp; omega)) _)⟩
def FailRel (ts : List GateR) (p : Nat) (w : World) (i : Value) (wr : World) : Prop := ∃ k : Nat, k ≤ ts.length ∧ i = .int .i64 k ∧ BoolBlk wr w.heap.size 4 ts.length (failK ts p k) ∧ Below w.heap.size w wr
def CntRel (prev : List Bool) (of : List Int) (W : World) (j n : Value) (wr : World) : Prop := ∃ m : Nat, m ≤ of.length ∧ j = .int .i64 m ∧ n = .int .i64 (cntF prev (of.take m) : Int) ∧ wr = W
set_option maxHeartbeats 8000000 in
set_option maxRecDepth 100000 in
theorem fails_is (ts : List GateR) (p : Nat) (v : Value) (w : World) (hv : GatesAt w v ts) (hok : TreeOk ts) (hp : p < 65536) :
    Calls Try.prog 36 #[v, .int .u16 (p : Int)] w fun e w' => e = .returned (.slice (some ⟨w.heap.size, 0, none⟩) ts.length ts.length) ∧ BoolBlk w' w.heap.size 4 ts.length (failK ts p ts.length) ∧ Below w.heap.size w w' := by
  obtain ⟨a, cap, rfl⟩ := hv.len
  have HV := Lib.hid hv; have HOK := Lib.hid hok
  have hn1 := hok.1; have hn2 := hok.2.1
  obtain ⟨i0, hi, hz0, hz1, hz2⟩ := info_parts (show (Try.prog.info? 4).map (fun i => (i.zero, i.size, i.bytes)) = some (some (.bool false), 1, 1) by kernel_rfl)
  have hmk : ∀ W : World, (Instr.makeSlice 66 (.int .i64 (ts.length : Int)) (.int .i64 (ts.length : Int))).run Try.prog W = .ok (.slice (some ⟨W.heap.size, 0, none⟩) ts.length ts.length) (W.alloc (.cells (madeCells #[.bool false] ts.length) 4)) := by
    intro W
    have := run_make (P := Try.prog) W 66 4 i0 (.bool false) Try.underlying66 hi hz0 .i64 .i64 (ts.length : Int) (ts.length : Int) (by omega) (by omega) (by rw [hz2]; omega) (by omega)
    rw [this, hz1]
    simp [Value.cells]
  have HBLK := Lib.hid (BoolBlk.made w 4 ts.length)
  have HB0 : Hid (Below w.heap.size w (w.alloc (.cells (madeCells #[.bool false] ts.length) 4))) := (Below.refl _ _).alloc (Nat.le_refl _) _
  clear hv hok
  go_enter Try.func36, Try.ntmps36
  go_wp2_with fail
  generalize w.alloc (.cells (madeCells #[.bool false] ts.length) 4) = w0 at *
  go_loopw [16] (fun i wr => FailRel ts p w i wr) (fun i _ => ts.length - (intOf i).toNat)
  case atStart => exact ⟨0, Nat.zero_le _, rfl, HBLK.out, HB0.out⟩
  case round =>
    obtain ⟨k, hk, rfl, hBk, hB⟩ := hrel
    have HBK := Lib.hid hBk; have HB := Lib.hid hB
    clear hBk HBLK HB0
    by_cases hlt : k < ts.length
    · obtain ⟨g, hg⟩ : ∃ g, ts[k]? = some g := ⟨_, List.getElem?_eq_getElem hlt⟩
      have hgd : ts.getD k gate0 = g := by rw [List.getD_eq_getElem?_getD, hg]; rfl
      obtain ⟨b, off, cap', hv', hl1, c0, c1, ao, co, c2, hof, hofl⟩ := (HV.out.later hB).at_ hg
      cases hv'
      have hgo := HOK.out.2.2 k g hg
      have HST : Hid (failK ts p (k + 1) = failK ts p k ++ [gateB p (failK ts p k) g]) := (by rw [failK, hgd] : failK ts p (k + 1) = failK ts p k ++ [gateB p (failK ts p k) g])
      have HLN := Lib.hid (failK_len ts p k)
      have e5 : (k : Int) < (ts.length : Int) := by omega
      have e6 : k + 1 ≤ cap := by omega
      have zB := hB.size
      obtain ⟨kd, n, of⟩ := g
      simp only at c0 c1 c2 hof hofl
      have HOF := Lib.hid hof; have HGO := Lib.hid hgo
      clear hg hof hB hgd hgo
      generalize failK ts p k = prev at *
      obtain ⟨W5, hW5⟩ : ∃ W, wr.alloc (.cells #[.int .i64 kd, .int .i64 n, .slice ao of.length co] 30) = W := ⟨_, rfl⟩
      have hn5 : Below wr.heap.size wr (wr.alloc (.cells #[.int .i64 kd, .int .i64 n, .slice ao of.length co] 30)) := (Below.refl _ _).alloc (Nat.le_refl _) _
      have HOF2 : Hid (IntsAt .i64 W5 (.slice ao of.length co) of) := hW5 ▸ HOF.out.later hn5 (Nat.le_refl _)
      have HB5 : Hid (Below w.heap.size w W5) := hW5 ▸ HB.out.trans (hn5.mono zB)
      have HK5 : Hid (BoolBlk W5 w.heap.size 4 ts.length prev) := hW5 ▸ HBK.out.alloc _
      have HG5 : Hid (CellsAt W5 wr.heap.size [.int .i64 kd, .int .i64 n, .slice ao of.length co]) := hW5 ▸ CellsAt.new wr _ _ _ rfl
      have HW5 := Lib.hid hW5
      clear hW5 hn5
      have zw0 : w.heap.size < wr.heap.size := HBK.out.lt
      have ok0 := HBK.out.cell k hlt; have okf := HBK.out.frozen k
      by_cases h1 : kd = 1
      · subst h1
        have hb : 0 ≤ n ∧ n < 8 := by
          rcases HGO.out.1 with ⟨-, h, -⟩ | ⟨h | h, -⟩ | ⟨h, -⟩
          · exact h
          · exact absurd (show (1 : Int) = 2 from h) (by decide)
          · exact absurd (show (1 : Int) = 3 from h) (by decide)
          · exact absurd (show (1 : Int) = 4 from h) (by decide)
        have hg0 : gateB p prev ((1 : Int), n, of) = bitI p n := rfl
        have HST2 : Hid (failK ts p (k + 1) = prev ++ [bitI p n]) := hg0 ▸ HST.out
        clear hg0 HST HK5 HB5 HOF2 HG5 HW5
        rcases (by omega : n = 0 ∨ n = 1 ∨ n = 2 ∨ n = 3 ∨ n = 4 ∨ n = 5 ∨ n = 6 ∨ n = 7) with rfl | rfl | rfl | rfl | rfl | rfl | rfl | rfl
        · have eb : (bits BinOp.and IntKind.u16 ((p : Int) / 1) 1 == 1) = bitI p 0 := bit_is p 0 1 hp rfl
          (try rw [Int.ediv_one] at eb)
          go_wp2
          go_roundw
          case rel => exact ⟨k + 1, by omega, by go_num, by rw [HST2.out, ← eb]; exact ((HBK.out.push HLN.out hlt _).alloc _), (HB.out.setCell (p := ⟨w.heap.size, k, none⟩) (Nat.le_refl _) _).alloc (by simpa [World.setCell] using zB) _⟩
          case measure => simp [intOf]; omega
        · have eb : (bits BinOp.and IntKind.u16 ((p : Int) / 2) 1 == 1) = bitI p 1 := bit_is p 1 2 hp rfl
          (try rw [Int.ediv_one] at eb)
          go_wp2
          go_roundw
          case rel => exact ⟨k + 1, by omega, by go_num, by rw [HST2.out, ← eb]; exact ((HBK.out.push HLN.out hlt _).alloc _), (HB.out.setCell (p := ⟨w.heap.size, k, none⟩) (Nat.le_refl _) _).alloc (by simpa [World.setCell] using zB) _⟩
          case measure => simp [intOf]; omega
        · have eb : (bits BinOp.and IntKind.u16 ((p : Int) / 4) 1 == 1) = bitI p 2 := bit_is p 2 4 hp rfl
          (try rw [Int.ediv_one] at eb)
          go_wp2
          go_roundw
          case rel => exact ⟨k + 1, by omega, by go_num, by rw [HST2.out, ← eb]; exact ((HBK.out.push HLN.out hlt _).alloc _), (HB.out.setCell (p := ⟨w.heap.size, k, none⟩) (Nat.le_refl _) _).alloc (by simpa [World.setCell] using zB) _⟩
          case measure => simp [intOf]; omega
        · have eb : (bits BinOp.and IntKind.u16 ((p : Int) / 8) 1 == 1) = bitI p 3 := bit_is p 3 8 hp rfl
          (try rw [Int.ediv_one] at eb)
          go_wp2
          go_roundw
          case rel => exact ⟨k + 1, by omega, by go_num, by rw [HST2.out, ← eb]; exact ((HBK.out.push HLN.out hlt _).alloc _), (HB.out.setCell (p := ⟨w.heap.size, k, none⟩) (Nat.le_refl _) _).alloc (by simpa [World.setCell] using zB) _⟩
          case measure => simp [intOf]; omega
        · have eb : (bits BinOp.and IntKind.u16 ((p : Int) / 16) 1 == 1) = bitI p 4 := bit_is p 4 16 hp rfl
          (try rw [Int.ediv_one] at eb)
          go_wp2
          go_roundw
          case rel => exact ⟨k + 1, by omega, by go_num, by rw [HST2.out, ← eb]; exact ((HBK.out.push HLN.out hlt _).alloc _), (HB.out.setCell (p := ⟨w.heap.size, k, none⟩) (Nat.le_refl _) _).alloc (by simpa [World.setCell] using zB) _⟩
          case measure => simp [intOf]; omega
        · have eb : (bits BinOp.and IntKind.u16 ((p : Int) / 32) 1 == 1) = bitI p 5 := bit_is p 5 32 hp rfl
          (try rw [Int.ediv_one] at eb)
          go_wp2
          go_roundw
          case rel => exact ⟨k + 1, by omega, by go_num, by rw [HST2.out, ← eb]; exact ((HBK.out.push HLN.out hlt _).alloc _), (HB.out.setCell (p := ⟨w.heap.size, k, none⟩) (Nat.le_refl _) _).alloc (by simpa [World.setCell] using zB) _⟩
          case measure => simp [intOf]; omega
        · have eb : (bits BinOp.and IntKind.u16 ((p : Int) / 64) 1 == 1) = bitI p 6 := bit_is p 6 64 hp rfl
          (try rw [Int.ediv_one] at eb)
          go_wp2
          go_roundw
          case rel => exact ⟨k + 1, by omega, by go_num, by rw [HST2.out, ← eb]; exact ((HBK.out.push HLN.out hlt _).alloc _), (HB.out.setCell (p := ⟨w.heap.size, k, none⟩) (Nat.le_refl _) _).alloc (by simpa [World.setCell] using zB) _⟩
          case measure => simp [intOf]; omega
        · have eb : (bits BinOp.and IntKind.u16 ((p : Int) / 128) 1 == 1) = bitI p 7 := bit_is p 7 128 hp rfl
          (try rw [Int.ediv_one] at eb)
          go_wp2
          go_roundw
          case rel => exact ⟨k + 1, by omega, by go_num, by rw [HST2.out, ← eb]; exact ((HBK.out.push HLN.out hlt _).alloc _), (HB.out.setCell (p := ⟨w.heap.size, k, none⟩) (Nat.le_refl _) _).alloc (by simpa [World.setCell] using zB) _⟩
          case measure => simp [intOf]; omega
      · have t1 : (kd == 1) = false := by simpa using h1
        have hg0 : gateB p prev (kd, n, of) = decide (needsI (kd, n, of) ≤ (cntF prev of : Int)) := by unfold gateB; rw [if_neg h1]
        have HST2 : Hid (failK ts p (k + 1) = prev ++ [decide (needsI (kd, n, of) ≤ (cntF prev of : Int))]) := hg0 ▸ HST.out
        clear hg0 HST
        go_wp2_with fail
        rw [HW5.out]
        clear c0 c1 c2
        go_loopw [36, 8] (fun j c wx => CntRel prev of W5 j c wx) (fun j _ _ => of.length - (intOf j).toNat)
        case atStart => exact ⟨0, Nat.zero_le _, rfl, rfl, rfl⟩
        case round =>
          obtain ⟨m, hm2, rfl, rfl, rfl⟩ := hrel
          have h6 := HGO.out.2.1
          change of.length ≤ 6 at h6
          have hcl : cntF prev (of.take m) ≤ m := by
            have := List.countP_le_length (p := fun k : Int => prev.getD k.toNat false) (l := of.take m)
            rw [List.length_take] at this
            unfold cntF; omega
          by_cases hlt2 : m < of.length
          · obtain ⟨q, hq⟩ : ∃ q, of[m]? = some q := ⟨_, List.getElem?_eq_getElem hlt2⟩
            obtain ⟨bb, oo, cc, hs2, hl2, cq⟩ := ints_at HOF2.out hq
            cases hs2
            have hqb := HGO.out.2.2 q (List.mem_of_getElem? hq)
            obtain ⟨qn, rfl⟩ : ∃ x : Nat, q = x := ⟨q.toNat, by omega⟩
            have hqk : qn < k := by omega
            have hst : cntF prev (of.take (m + 1)) = cntF prev (of.take m) + (if prev.getD qn false then 1 else 0) := by
              have hbe : of[m] = (qn : Int) := by rw [List.getElem?_eq_getElem hlt2] at hq; exact Option.some.inj hq
              unfold cntF
              rw [List.take_succ_eq_append_getElem hlt2, List.countP_append, hbe]
              congr 1
              rw [List.countP_cons, List.countP_nil]
              simp
            have HS2 := Lib.hid hst
            have oq := HK5.out.cell qn (by omega)
            have f5 : (m : Int) < (of.length : Int) := by omega
            have f6 : (qn : Int) < (ts.length : Int) := by omega
            obtain ⟨cn, hcn⟩ : ∃ c, cntF prev (of.take m) = c := ⟨_, rfl⟩
            rw [hcn] at HS2 hcl ⊢
            clear hq hqb hst hcn
            cases hbv : prev.getD qn false
            · rw [hbv] at oq HS2
              go_wp2
              go_roundw
              case rel => exact ⟨m + 1, by omega, by go_num, by rw [HS2.out]; simp, rfl⟩
              case measure => simp [intOf]; omega
            · rw [hbv] at oq HS2
              go_wp2
              go_roundw
              case rel => exact ⟨m + 1, by omega, by go_num, by rw [HS2.out]; simp, rfl⟩
              case measure => simp [intOf]; omega
          · obtain rfl : m = of.length := by omega
            rw [List.take_length]
            have e0 := HG5.out.at_ 0 rfl; have e1 := HG5.out.at_ 1 rfl; have e2 := HG5.out.at_ 2 rfl; have ez := HG5.out.lt
            go_wp2_with fail
            refine (needs_is kd n of ao co _ hofl).mono ?_
            rintro e w6 ⟨rfl, hb6⟩
            have HK6 := Lib.hid (HK5.out.later hb6 HK5.out.lt)
            have HB6 := Lib.hid (HB5.out.trans (hb6.mono HB5.out.size))
            have ok6 := HK6.out.cell k hlt; have okf6 := HK6.out.frozen k; have okl := HK6.out.lt
            have zB6 := HB6.out.size
            clear hb6 e0 e1 e2 ez ok0 okf
            go_wp2
            go_roundw
            case rel => exact ⟨k + 1, by omega, by go_num, by rw [HST2.out]; exact HK6.out.push HLN.out hlt _, HB6.out.setCell (p := ⟨w.heap.size, k, none⟩) (Nat.le_refl _) _⟩
            case measure => simp [intOf]; omega
    · obtain rfl : k = ts.length := by omega
      clear hB
      go_wp2
      go_ret
      exact ⟨rfl, HBK.out, HB.out⟩
/-- does the top gate fail? -/
def topB (ts : List GateR) (p : Nat) : Bool := (failK ts p ts.length).getD (ts.length - 1) false
set_option maxHeartbeats 4000000 in
set_option maxRecDepth 100000 in
theorem cutsFails_yes (ts : List GateR) (p : Nat) (v : Value) (w : World) (hv : GatesAt w v ts) (hok : TreeOk ts) (hp : p < 65536) :
    Calls Try.prog 12 #[v, .int .u16 (p : Int)] w fun e w' => e = .returned (.tuple #[.bool (topB ts p), .int .i64 0]) ∧ Below w.heap.size w w' := by
  obtain ⟨a, cap, rfl⟩ := hv.len
  have HV := Lib.hid hv; have HOK := Lib.hid hok
  have hn1 := hok.1; have hn2 := hok.2.1
  clear hv hok
  go_enter Try.func12, Try.ntmps12
  go_wp2_with fail
  refine (cutsCheck_is ts _ _ HV.out (by omega)).mono ?_
  rintro e w1 ⟨h1, -, hb1⟩
  obtain rfl := h1 HOK.out
  have HB1 := Lib.hid hb1
  clear h1 hb1
  go_wp2_with fail
  refine (fails_is ts p _ _ (HV.out.later HB1.out) HOK.out hp).mono ?_
  rintro e w2 ⟨rfl, hk, hb2⟩
  have HB2 := Lib.hid (HB1.out.trans (hb2.mono HB1.out.size))
  obtain ⟨n, hn⟩ : ∃ n, ts.length = n + 1 := ⟨ts.length - 1, by omega⟩
  have hc := hk.cell n (by omega)
  have ht : (failK ts p ts.length).getD n false = topB ts p := by unfold topB; rw [show ts.length - 1 = n by omega]
  rw [ht] at hc
  have e1 : IntKind.i64.wrap ((ts.length : Int) - 1) = (ts.length : Int) - 1 := IntWalk.i64_in _ (by omega)
  have e2 : ((ts.length : Int) - 1).toNat = n := by omega
  have e3 : (ts.length : Int) - 1 < (ts.length : Int) := by omega
  have e4 : (0 : Int) ≤ (ts.length : Int) - 1 := by omega
  clear hk hb2 hn ht
  go_wp2
  go_ret2
  exact ⟨rfl, HB2.out⟩
set_option maxHeartbeats 4000000 in
set_option maxRecDepth 100000 in
theorem cutsFails_no (ts : List GateR) (p : Int) (v : Value) (w : World) (hv : GatesAt w v ts) (hok : ¬ TreeOk ts) (hm : ts.length ≤ 281474976710656) :
    Calls Try.prog 12 #[v, .int .u16 p] w fun e w' => (∃ c : Int, c ≠ 0 ∧ e = .returned (.tuple #[.bool false, .int .i64 c])) ∧ Below w.heap.size w w' := by
  obtain ⟨a, cap, rfl⟩ := hv.len
  have HV := Lib.hid hv; have HOK := Lib.hid hok
  clear hv hok
  go_enter Try.func12, Try.ntmps12
  go_wp2_with fail
  refine (cutsCheck_is ts _ _ HV.out hm).mono ?_
  rintro e w1 ⟨-, h1, hb1⟩
  obtain ⟨c, hc, rfl⟩ := h1 HOK.out
  have hcb : (c == 0) = false := by simpa using hc
  have hc2 : (c != 0) = true := by simpa using hc
  have HC := Lib.hid hc
  clear h1 hc
  go_wp2
  go_ret2
  exact ⟨⟨c, HC.out, rfl⟩, hb1⟩

end Go.Proofs.Ytiocgmioijcjhaa
