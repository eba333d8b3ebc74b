/- VoteMost: whatever the numbers are, the law answers true and leaves memory as it was. -/
import Derived.Test.YtacelddnklnhpaaVote
import Derived.BigQuiet
import Derived.Deep.QuietTactic
namespace Go.Proofs.Ytacelddnklnhpaa.voteMost
open Go.ChangeShapes Go.WideShapes Go.ChangeAt Go.RowKit Go.Proofs.Ytacelddnklnhpaa Go.Proofs.Ytacelddnklnhpaa.Open
set_option linter.unusedVariables false
set_option maxHeartbeats 2000000 in
theorem have_any (x : Int) (p : Nat) (a : Option Addr) (len cap : Nat) (zs : List Int) (w : World) (hx : -2147483648 ≤ x ∧ x ≤ 2147483647) (hp : w.cell? ⟨p, 0, none⟩ = some (.slice a len cap)) (hrow : IsRow .i32 w a len cap zs) :
    Calls Try.prog 37 #[.int .i32 x, .pointer (some ⟨p, 0, none⟩)] w fun e w' => e = .returned (.int .i64 (cnt zs x len)) ∧ w = w' := by
  have HR := Lib.hid hrow; have hlen := hrow.maxLen
  clear hrow
  go_enter Try.func37, Try.ntmps37
  go_wp2
  go_loop [4, 9] (fun n i => ∃ j : Nat, j ≤ len ∧ i = .int .i64 j ∧ n = .int .i64 (cnt zs x j)) (fun _ i => len - (intOf i).toNat)
  case atStart => exact ⟨0, Nat.zero_le _, rfl, rfl⟩
  case round =>
    obtain ⟨j, hj, rfl, rfl⟩ := hrel
    have hcl := cnt_le zs x j
    by_cases hlt2 : j < len
    · obtain ⟨b, off, rfl, -, -, -, hcell, hwf⟩ := HR.out.pos (by omega)
      have hc := hcell j (by omega)
      have S : Hid (cnt zs x (j + 1) = cnt zs x j + if zs.getD j 0 = x then 1 else 0) := rfl
      clear hcell hwf
      generalize zs.getD j 0 = y at *
      generalize hb' : cnt zs x (j + 1) = n' at *
      have HB := Lib.hid hb'
      clear hb'
      by_cases q : x = y
      · have t1 : (x == y) = true := by simpa using q
        have S2 := Lib.hid (S.out.trans (by rw [if_pos q.symm]))
        clear q S
        go_wp2
        go_round
        case rel => exact ⟨j + 1, by omega, by go_num, by rw [HB.out, S2.out]; go_num⟩
        case measure => simp [intOf]; omega
      · have t1 : (x == y) = false := by simpa using q
        have S2 := Lib.hid (S.out.trans (by rw [if_neg (fun g => q g.symm)]))
        clear q S
        go_wp2
        go_round
        case rel => exact ⟨j + 1, by omega, by go_num, by rw [HB.out, S2.out]; go_num⟩
        case measure => simp [intOf]; omega
    · obtain rfl : j = len := by omega
      go_wp2
      go_ret
      exact ⟨rfl, rfl⟩
set_option maxHeartbeats 2000000 in
/-- more than half of the numbers? -/
theorem more_any (y : Int) (q p : Nat) (a : Option Addr) (len cap : Nat) (zs : List Int) (w : World) (hl : len ≤ 64) (hy : -2147483648 ≤ y ∧ y ≤ 2147483647) (hq : w.cell? ⟨q, 0, none⟩ = some (.func (.func 37) #[] #[.pointer (some ⟨p, 0, none⟩)])) (hp : w.cell? ⟨p, 0, none⟩ = some (.slice a len cap)) (hrow : IsRow .i32 w a len cap zs) :
    Calls Try.prog 39 #[.int .i32 y, .pointer (some ⟨q, 0, none⟩), .pointer (some ⟨p, 0, none⟩)] w fun e w' => e = .returned (.bool (decide (len < 2 * cnt zs y len))) ∧ ∃ n, w' = w.drewN n := by
  have HR := Lib.hid hrow
  have hcl := cnt_le zs y len
  clear hrow
  go_enter Try.func39, Try.ntmps39
  go_wp2
  go_quiet ((go_at_call 37; exact quietL (have_any y p a len cap zs _ hy (by go_simp) (HR.out.later (by repeat (first | exact Below.refl _ _ | refine Below.setCell ?_ (by first | (simp; done) | omega | (simp; omega)) _ | refine below_drewN ?_ _ | refine Below.drew ?_ | refine Below.alloc ?_ (by first | (simp; done) | omega | (simp; omega)) _))))))
  go_wp2
  go_ret
  exact ⟨ret_bool (by rw [decide_eq_decide]; omega), _, rfl⟩
set_option maxHeartbeats 2000000 in
theorem index_none (q p : Nat) (a : Option Addr) (len cap : Nat) (zs : List Int) (w : World) (hl : len ≤ 64) (hq : w.cell? ⟨q, 0, none⟩ = some (.func (.func 37) #[] #[.pointer (some ⟨p, 0, none⟩)])) (hp : w.cell? ⟨p, 0, none⟩ = some (.slice a len cap)) (hrow : IsRow .i32 w a len cap zs)
    (hno : ∀ y, ¬ len < 2 * cnt zs y len) :
    Calls Try.prog 60 #[.slice a len cap, .func (.func 39) #[] #[.pointer (some ⟨q, 0, none⟩), .pointer (some ⟨p, 0, none⟩)]] w fun e w' => e = .returned (.int .i64 (-1)) ∧ ∃ n, w' = w.drewN n := by
  have HR := Lib.hid hrow; have hlen := hrow.maxLen; have HN := Lib.hid hno
  clear hrow hno
  go_enter Try.func60, Try.ntmps60
  go_wp2
  go_loopw [8] (fun i wr => ∃ (k n : Nat), k ≤ len ∧ i = .int .i64 k ∧ wr = w.drewN n) (fun i _ => len - (intOf i).toNat)
  case atStart => exact ⟨0, 0, Nat.zero_le _, rfl, rfl⟩
  case round =>
    obtain ⟨k, n, hk, rfl, rfl⟩ := hrel
    by_cases hlt : k < len
    · obtain ⟨b, off, rfl, -, -, -, hcell, hwf⟩ := HR.out.pos (by omega)
      have hc := hcell k (by omega)
      have hv := bounds_i32 (hwf k)
      have hn := HN.out (zs.getD k 0)
      clear hcell hwf
      generalize zs.getD k 0 = y at *
      go_wp2_with fail
      refine (more_any y q p _ len cap zs _ hl hv (by go_simp) (by go_simp) (HR.out.later (by repeat (first | exact Below.refl _ _ | refine Below.setCell ?_ (by first | (simp; done) | omega | (simp; omega)) _ | refine below_drewN ?_ _ | refine Below.drew ?_ | refine Below.alloc ?_ (by first | (simp; done) | omega | (simp; omega)) _)))).mono ?_
      rw [decide_eq_false hn]
      rintro e w2 ⟨rfl, m, rfl⟩
      go_wp2
      go_roundw
      case rel => exact ⟨k + 1, n + m, by omega, by go_num, by first | rfl | simp⟩
      case measure => simp [intOf]; omega
    · obtain rfl : k = len := by omega
      go_wp2
      go_ret
      exact ⟨rfl, _, rfl⟩
theorem contains_none (q p : Nat) (a : Option Addr) (len cap : Nat) (zs : List Int) (w : World) (hl : len ≤ 64) (hq : w.cell? ⟨q, 0, none⟩ = some (.func (.func 37) #[] #[.pointer (some ⟨p, 0, none⟩)])) (hp : w.cell? ⟨p, 0, none⟩ = some (.slice a len cap)) (hrow : IsRow .i32 w a len cap zs)
    (hno : ∀ y, ¬ len < 2 * cnt zs y len) :
    Calls Try.prog 38 #[.slice a len cap, .func (.func 39) #[] #[.pointer (some ⟨q, 0, none⟩), .pointer (some ⟨p, 0, none⟩)]] w fun e w' => e = .returned (.bool false) ∧ ∃ n, w' = w.drewN n := by
  have HC := Lib.hid (index_none q p a len cap zs w hl hq hp hrow hno)
  clear hq hp hrow hno
  go_enter Try.func38, Try.ntmps38
  go_wp2_with fail
  refine HC.out.mono ?_
  rintro e w2 ⟨rfl, m, rfl⟩
  go_wp2
  go_ret
  exact ⟨rfl, _, rfl⟩
theorem quietD {P : Program} {f : FuncId} {args : Array Value} {w : World} {n : Nat} {v : Value} (h : Calls P f args (w.drewN n) fun e w' => e = .returned v ∧ ∃ m, w' = (w.drewN n).drewN m) :
    Calls P f args (w.drewN n) fun e w'' => e = .returned v ∧ ∃ m, w'' = w.drewN m := h.mono fun _ _ ⟨h1, m, h2⟩ => ⟨h1, n + m, by rw [h2]; simp⟩
theorem row3 (w : World) (b : Nat) (h0 : w.cell? ⟨b, 0, none⟩ = some (.int .i32 4)) (h1 : w.cell? ⟨b, 1, none⟩ = some (.int .i32 7)) (h2 : w.cell? ⟨b, 2, none⟩ = some (.int .i32 4)) : IsRow .i32 w (some ⟨b, 0, none⟩) 3 3 [4, 7, 4] := by
  refine .inr ⟨_, rfl, by omega, by unfold maxLen; omega, rfl, fun i hi => ?_, ?_⟩
  · have : i = 0 ∨ i = 1 ∨ i = 2 := by simp at hi; omega
    rcases this with rfl | rfl | rfl
    · simpa [Addr.add] using h0
    · simpa [Addr.add] using h1
    · simpa [Addr.add] using h2
  · intro n hn; simp at hn; rcases hn with rfl | rfl | rfl <;> decide
set_option maxHeartbeats 4000000 in
set_option maxRecDepth 100000 in
theorem law (a : Option Addr) (len cap : Nat) (zs : List Int) (x : Int) (w : World) (hrow : IsRow .i32 w a len cap zs) (hx : -2147483648 ≤ x ∧ x ≤ 2147483647) :
    Calls Try.prog 14 #[.slice a len cap, .int .i32 x] w fun e w' => e = .returned (.bool true) ∧ Below w.heap.size w w' := by
  have HR := Lib.hid hrow; have hlen := hrow.maxLen
  have hmf : ∀ (fn : Fn) (first cap : Array Value) (w : World), (Instr.makeFunc fn first cap).run Try.prog w = .ok (.func fn first cap) w := fun _ _ _ _ => rfl
  have hsf := fun (a : Addr) (c : Array Value) (w : World) => run_store Try.prog w a (.func (.func 37) #[] c) .plain rfl
  have inv := bm_inv zs len
  have hzb : ∀ j, -2147483648 ≤ zs.getD j 0 ∧ zs.getD j 0 ≤ 2147483647 := by
    rcases hrow with ⟨-, -, -, rfl⟩ | ⟨y, rfl, hl, hm, hz, hcell, hwz⟩
    · intro j; simp
    · intro j
      by_cases h : j < zs.length
      · have := hwz zs[j] (List.getElem_mem h)
        rw [List.getD_eq_getElem?_getD, List.getElem?_eq_getElem h]
        exact bounds_i32 this
      · rw [List.getD_eq_getElem?_getD, List.getElem?_eq_none (by omega)]; simp
  have hbb := bm_fst_bd zs hzb len
  have INV := Lib.hid inv
  clear hrow inv hzb
  go_enter Try.func14, Try.ntmps14
  go_wp2_with fail
  refine (majority_in _ _ _ [4, 7, 4] _ (row3 _ _ (by go_simp) (by go_simp) (by go_simp)) (by omega) 4 0 (by decide)).mono ?_
  rintro e1 w1 ⟨rfl, rfl⟩
  go_wp2_with fail
  by_cases hl : len ≤ 64
  · by_cases hs : 2 * cnt zs (bm zs len).1 len ≤ len
    · have hno : ∀ y, ¬ len < 2 * cnt zs y len := by
        intro y
        have h3 := INV.out.2.2 y
        have h1 := INV.out.1
        by_cases c : y = (bm zs len).1
        · subst c; omega
        · have := h3.2 c; omega
      have hxn := hno x
      have hxi : decide (2 * ((cnt zs x len : Nat) : Int) ≤ (len : Int)) = true := decide_eq_true (by omega)
      have hxj : 2 * ((cnt zs x len : Nat) : Int) ≤ (len : Int) := by omega
      have HNO := Lib.hid hno
      have HS := Lib.hid hs
      refine (majority_in a len cap zs _ (HR.out.later (by repeat (first | exact Below.refl _ _ | refine Below.setCell ?_ (by first | (simp; done) | omega | (simp; omega)) _ | refine below_drewN ?_ _ | refine Below.drew ?_ | refine Below.alloc ?_ (by first | (simp; done) | omega | (simp; omega)) _))) hl 0 11 (if_pos hs)).mono ?_
      clear hno hs
      rintro e2 w2 ⟨rfl, rfl⟩
      go_wp2
      go_quiet ((first | (go_at_call 37; exact quietL (have_any x _ a len cap zs _ hx (by go_simp) (HR.out.later (by repeat (first | exact Below.refl _ _ | refine Below.setCell ?_ (by first | (simp; done) | omega | (simp; omega)) _ | refine below_drewN ?_ _ | refine Below.drew ?_ | refine Below.alloc ?_ (by first | (simp; done) | omega | (simp; omega)) _))))) | (go_at_call 38; exact quietD (contains_none _ _ a len cap zs _ hl (by go_simp) (by go_simp) (HR.out.later (by repeat (first | exact Below.refl _ _ | refine Below.setCell ?_ (by first | (simp; done) | omega | (simp; omega)) _ | refine below_drewN ?_ _ | refine Below.drew ?_ | refine Below.alloc ?_ (by first | (simp; done) | omega | (simp; omega)) _))) HNO.out))))
      go_wp2
      all_goals
        go_ret
        refine ⟨ret_bool (by first | rfl | (simp; done) | (simp; omega)), ?_⟩
        repeat (first | exact Below.refl _ _ | refine Below.setCell ?_ (by first | (simp; done) | omega | (simp; omega)) _ | refine below_drewN ?_ _ | refine Below.drew ?_ | refine Below.alloc ?_ (by first | (simp; done) | omega | (simp; omega)) _)
    · have hm : len < 2 * cnt zs (bm zs len).1 len := by omega
      have hxc : x = (bm zs len).1 ∨ (x ≠ (bm zs len).1 ∧ 2 * cnt zs x len ≤ len) := by
        have h3 := INV.out.2.2 x
        have h1 := INV.out.1
        by_cases c : x = (bm zs len).1
        · exact .inl c
        · have := h3.2 c; exact .inr ⟨c, by omega⟩
      have hcl := cnt_le zs x len
      have hcl2 := cnt_le zs (bm zs len).1 len
      refine (majority_in a len cap zs _ (HR.out.later (by repeat (first | exact Below.refl _ _ | refine Below.setCell ?_ (by first | (simp; done) | omega | (simp; omega)) _ | refine below_drewN ?_ _ | refine Below.drew ?_ | refine Below.alloc ?_ (by first | (simp; done) | omega | (simp; omega)) _))) hl (bm zs len).1 0 (if_neg hs)).mono ?_
      clear hs INV
      generalize (bm zs len).1 = m at *
      rintro e2 w2 ⟨rfl, rfl⟩
      have hmi : decide ((len : Int) < 2 * ((cnt zs m len : Nat) : Int)) = true := decide_eq_true (by omega)
      have hmj : (len : Int) < 2 * ((cnt zs m len : Nat) : Int) := by omega
      rcases hxc with rfl | ⟨hx1, hx2⟩
      · go_wp2
        go_quiet ((go_at_call 37; exact quietL (have_any _ _ a len cap zs _ (by omega) (by go_simp) (HR.out.later (by repeat (first | exact Below.refl _ _ | refine Below.setCell ?_ (by first | (simp; done) | omega | (simp; omega)) _ | refine below_drewN ?_ _ | refine Below.drew ?_ | refine Below.alloc ?_ (by first | (simp; done) | omega | (simp; omega)) _))))))
        go_wp2
        all_goals
          go_ret
          refine ⟨ret_bool (by first | rfl | (simp; done) | (simp; omega)), ?_⟩
          repeat (first | exact Below.refl _ _ | refine Below.setCell ?_ (by first | (simp; done) | omega | (simp; omega)) _ | refine below_drewN ?_ _ | refine Below.drew ?_ | refine Below.alloc ?_ (by first | (simp; done) | omega | (simp; omega)) _)
      · have hx3 : (x == m) = false := by simpa using hx1
        clear hx1
        go_wp2
        go_quiet ((go_at_call 37; exact quietL (have_any _ _ a len cap zs _ (by omega) (by go_simp) (HR.out.later (by repeat (first | exact Below.refl _ _ | refine Below.setCell ?_ (by first | (simp; done) | omega | (simp; omega)) _ | refine below_drewN ?_ _ | refine Below.drew ?_ | refine Below.alloc ?_ (by first | (simp; done) | omega | (simp; omega)) _))))))
        go_wp2
        all_goals
          go_ret
          refine ⟨ret_bool (by first | rfl | (simp; done) | (simp; omega)), ?_⟩
          repeat (first | exact Below.refl _ _ | refine Below.setCell ?_ (by first | (simp; done) | omega | (simp; omega)) _ | refine below_drewN ?_ _ | refine Below.drew ?_ | refine Below.alloc ?_ (by first | (simp; done) | omega | (simp; omega)) _)
  · refine (majority_large a len cap _ (by omega) (by omega)).mono ?_
    rintro e2 w2 ⟨rfl, rfl⟩
    go_wp2
    go_ret
    refine ⟨ret_bool (by first | rfl | (simp; done) | (simp; omega)), ?_⟩
    repeat (first | exact Below.refl _ _ | refine Below.setCell ?_ (by first | (simp; done) | omega | (simp; omega)) _ | refine below_drewN ?_ _ | refine Below.drew ?_ | refine Below.alloc ?_ (by first | (simp; done) | omega | (simp; omega)) _)
set_option maxRecDepth 100000 in
theorem lifted (os : Os) (started : os.Started) (H : Type) (enc : TypeId × Value → H) :
    ReturnsInHanded {} Try.checked os 14 .any (Rows.voteMostSpec.pre6 enc Try.prog Try.f14 Rows.voteMostRow.domain false) (Rows.voteMostSpec.post enc Try.prog Try.f14 false true false false) := by
  refine returnsInHanded_of_change (C := Try.checked) own started (by kernel_rfl) Try.func14
    (ChangeSpec.witness6 (enc := enc) (C := Try.checked) false ⟨#[], #[.slice none 0 0, .int .i32 0], []⟩ 8 (by kernel_rfl) (by kernel_rfl) (by kernel_rfl) (by kernel_rfl)) ?_
  intro W base args ds gs before hval0 hW hcnd _
  have hval : ∀ (j : Nat) t v, Try.f14.params[j]? = some t → args[j]? = some v → Value.okWide Try.prog W .any base t v := hval0
  have hW' := hW
  obtain ⟨p, q, hA0, hV, rfl, hfz, hnd⟩ := hW
  have hA : DataW.TrodAll enc Try.prog W 0 (fun _ => true) true Try.f14.params.toList args.toList ds p := hA0
  rw [Try.params14] at hA hval
  obtain ⟨v0, vs0, d0, ds0, p0, q0, hargs, rfl, rfl, h0, r0⟩ := trodAll_cons hA
  obtain ⟨v1, vs1, d1, ds1, p1, q1, rfl, rfl, rfl, h1, r1⟩ := trodAll_cons r0
  obtain ⟨rfl, rfl, rfl⟩ := trodAll_nil r1
  obtain rfl : args = #[v0, v1] := by cases args; simp_all
  obtain ⟨rfl, rfl⟩ := trodVars_none hV
  have k0 := h0
  have lt0 : ∀ x ∈ p0, x.block < W.heap.size := by obtain ⟨m, hm⟩ := k0; exact DataW.trod_lt m _ _ _ hm
  have k1 := h1
  have lt1 : ∀ x ∈ p1, x.block < W.heap.size := by obtain ⟨m, hm⟩ := k1; exact DataW.trod_lt m _ _ _ hm
  obtain ⟨sa0, sl0, sc0, rfl⟩ := okWide_slice Try.underlying69 (hval 0 69 v0 rfl rfl)
  obtain ⟨a0, len0, cap0, z0, e0, w0⟩ := leaf_ints (Try.underlying69) (Try.underlying21) (by kernel_rfl) (by obtain ⟨fuel, hf⟩ := h0; exact ⟨fuel, _, by simpa [Value.cells] using hf⟩)
  simp only [Value.slice.injEq] at e0
  obtain ⟨rfl, rfl, rfl⟩ := e0
  obtain ⟨a1, rfl, rfl, rfl, w1⟩ := open_int Try.underlying21 (hval 1 21 v1 rfl rfl) h1
  clear hA0 hval0
  refine (law sa0 sl0 sc0 z0 a1 W w0 (bounds_i32 w1)).mono fun e W' ⟨he, bel⟩ => ?_
  subst he
  exact ⟨_, rfl, _, _, _, [], _, [], hW', trodAll_mk1 (shut_bool Try.underlying4 _), (trodAll_cons_mk (Below.trod laidOut (by kernel_rfl) (of_decide_eq_true (by kernel_rfl)) k0 bel lt0) (trodAll_cons_mk (Below.trod laidOut (by kernel_rfl) (of_decide_eq_true (by kernel_rfl)) k1 bel lt1) trodAll_mk0)), rfl, bel.frame _, fun h => by cases h⟩
theorem over : Rows.voteMostRow.holds Try.pinned (OpenSpec.ofChange Rows.voteMostSpec) :=
  OpenClaim.holds_of_wide 14 Try.f14 rfl rfl rfl rfl rfl rfl rfl ⟨rfl, rfl, rfl, rfl, rfl⟩ rfl rfl rfl rfl rfl (by kernel_rfl) Try.func14 (by kernel_rfl)
    (of_decide_eq_true (by kernel_rfl)) (by unfold Func.isWrapper; first | (rw [if_pos (by decide +kernel)]; kernel_rfl) | (rw [if_neg (by decide +kernel)]; exact ⟨rfl, rfl⟩))
    (fun os started H enc _ => lifted os started H enc)
theorem proved : Rows.VoteMostSaid := over
#print axioms proved

end Go.Proofs.Ytacelddnklnhpaa.voteMost
