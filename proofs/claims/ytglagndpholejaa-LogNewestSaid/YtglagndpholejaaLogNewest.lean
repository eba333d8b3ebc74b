/- LogNewest: whatever the entries are, the law answers true and leaves memory as it was. -/
import Derived.Test.YtglagndpholejaaLogLaw
namespace Go.Proofs.Ytglagndpholejaa.logNewest
open Go.ChangeShapes Go.WideShapes Go.ChangeAt Go.RowKit Go.Proofs.Ytglagndpholejaa Go.Proofs.Ytglagndpholejaa.Open
set_option linter.unusedVariables false
theorem one_put : putOk [(1, 0, 2, 1)] 5 0 2 := ⟨⟨by decide, fun i hi => by
  obtain rfl : i = 0 := by simp at hi; omega
  exact ⟨by decide, fun h => absurd h (by decide)⟩⟩, by decide, fun _ => by decide⟩
theorem one_next : putL [(1, 0, 2, 1)] 5 0 2 = [(1, 0, 2, 2)] := by decide
def NRel (w0 : World) (T : TypeId) (xs : List EntR) (so sp sk : Value) (w : World) : Prop := ∃ (k p : Nat) (O : List EntR), k ≤ xs.length ∧ p ≤ k ∧ sk = .int .i64 k ∧ sp = .int .i64 p ∧ w.ownsRow w0.heap.size T 4 so O.length (O.flatMap entLay) ∧ Inv O p ∧ Below w0.heap.size w0 w
def SRel (w0 : World) (O : List EntR) (sn sk : Value) (w : World) : Prop := ∃ k : Nat, k ≤ O.length ∧ sk = .int .i64 k ∧ sn = .int .i64 (sumM (O.take k)) ∧ Below w0.heap.size w0 w
theorem rec_cells {w : World} {a : Option Addr} {n cap i : Nat} {xs : List EntR} {x : EntR} (h : RecsAt 4 entLay w (.slice a n cap) xs) (hx : xs[i]? = some x) :
    ∃ b off, a = some ⟨b, off, none⟩ ∧ n = xs.length ∧ xs.length ≤ cap ∧ b < w.heap.size ∧ w.cell? ⟨b, off + i * 4, none⟩ = some (.int .i64 x.1) ∧ w.cell? ⟨b, off + i * 4 + 1, none⟩ = some (.int .i64 x.2.1) ∧ w.cell? ⟨b, off + i * 4 + 2, none⟩ = some (.int .i64 x.2.2.1) ∧ w.cell? ⟨b, off + i * 4 + 3, none⟩ = some (.int .i64 x.2.2.2) := by
  obtain ⟨b, off, c, hv, h1, h2, h3⟩ := h.at_ hx
  cases hv
  have c0 := h3 0 (by omega)
  exact ⟨b, off, rfl, rfl, h1, World.block_lt_of_cell? _ _ (c0.trans rfl), c0, h3 1 (by omega), h3 2 (by omega), h3 3 (by omega)⟩
set_option maxHeartbeats 8000000 in
set_option maxRecDepth 100000 in
theorem way (xs : List EntR) (v : Value) (w : World) (hv : RecsAt 4 entLay w v xs) (hx : xs.length ≤ 4611686018427387904) :
    Calls Try.prog 5 #[v] w fun e w' => e = .returned (.bool true) ∧ Below w.heap.size w w' := by
  obtain ⟨a, cap, rfl⟩ := hv.len
  have HV := Lib.hid hv
  have F0 := Lib.hid (recs_new (E := 42) w [((1 : Int), (0 : Int), (2 : Int), (1 : Int))] #[.int .i64 1, .int .i64 0, .int .i64 2, .int .i64 1] rfl entLay_len rfl (by decide))
  clear hv
  go_enter Try.func5, Try.ntmps5
  go_wp2_with fail
  refine (put_is [(1, 0, 2, 1)] 5 0 2 _ _ F0.out (by decide)).mono ?_
  rintro e w1 ⟨h1, -, hb⟩
  obtain ⟨v1, rfl, hown⟩ := h1 one_put
  rw [one_next] at hown
  have B1 : Hid (Below w.heap.size w w1) := by repeat (first | with_reducible exact Below.refl _ _ | ((with_reducible refine Below.setCell ?_ ?_ _); rotate_left; (· first | (simp; done) | omega | (simp; omega))) | with_reducible refine below_drewN ?_ _ | with_reducible refine Below.drew ?_ | ((with_reducible refine Below.trans ?_ (Below.mono hb ?_)); rotate_left; (· first | (simp; done) | omega | (simp; omega))) | ((with_reducible refine Below.alloc ?_ ?_ _); rotate_left; (· first | (simp; done) | omega | (simp; omega))) | exact Below.refl _ _ | refine Below.setCell ?_ (by first | (simp; done) | omega | (simp; omega)) _ | refine below_drewN ?_ _ | refine Below.drew ?_ | refine Below.trans ?_ (Below.mono hb (by first | (simp; done) | omega | (simp; omega))) | refine Below.alloc ?_ (by first | (simp; done) | omega | (simp; omega)) _)
  have z1 := B1.out.size
  have HO1 := Lib.hid (own_recs hown entLay_len)
  obtain ⟨a1, c1, rfl⟩ := HO1.out.len
  have F1 := Lib.hid (recs_new (E := 42) w1 [((1 : Int), (0 : Int), (2 : Int), (2 : Int))] #[.int .i64 1, .int .i64 0, .int .i64 2, .int .i64 2] rfl entLay_len rfl (by decide))
  clear h1 hown hb F0
  go_wp2_with fail
  refine (equal_ent [(1, 0, 2, 2)] _ _ _ (HO1.out.later entLay_len ((Below.refl w1.heap.size w1).alloc (Nat.le_refl _) _) (Nat.le_refl _)) F1.out (by decide)).mono ?_
  rintro e w2 ⟨rfl, n2, rfl⟩
  have B2 : Hid (Below w.heap.size w ((w1.alloc (.cells #[.int .i64 1, .int .i64 0, .int .i64 2, .int .i64 2] 42)).drewN n2)) := by
    have := B1.out
    repeat (first | with_reducible exact Below.refl _ _ | with_reducible exact this | ((with_reducible refine Below.setCell ?_ ?_ _); rotate_left; (· first | (simp; done) | omega | (simp; omega))) | with_reducible refine below_drewN ?_ _ | with_reducible refine Below.drew ?_ | ((with_reducible refine Below.alloc ?_ ?_ _); rotate_left; (· first | (simp; done) | omega | (simp; omega))) | exact Below.refl _ _ | exact this | refine Below.setCell ?_ (by first | (simp; done) | omega | (simp; omega)) _ | refine below_drewN ?_ _ | refine Below.drew ?_ | refine Below.alloc ?_ (by first | (simp; done) | omega | (simp; omega)) _)
  generalize (w1.alloc (.cells #[.int .i64 1, .int .i64 0, .int .i64 2, .int .i64 2] 42)).drewN n2 = w2 at *
  clear HO1 B1 z1 F1
  go_wp2_with fail
  go_loopw [5, 7, 32] (fun so sp sk wr => NRel w 42 xs so sp sk wr) (fun _ _ sk _ => xs.length - (intOf sk).toNat)
  case atStart => exact ⟨0, 0, [], Nat.zero_le _, Nat.le_refl _, rfl, rfl, World.ownsRow_nil _ _ _ _, ⟨⟨by decide, fun i hi => absurd hi (Nat.not_lt_zero _)⟩, by decide, .inr (.inl rfl)⟩, B2.out⟩
  case round =>
    obtain ⟨k, p, O, hk, hp, rfl, rfl, hO, hI, hB⟩ := hrel
    have HO := Lib.hid hO; have HI := Lib.hid hI; have HB := Lib.hid hB
    have zB := hB.size
    obtain ⟨ao, co, rfl⟩ := (own_recs hO entLay_len).len
    clear hO hI hB
    by_cases hlt : k < xs.length
    · obtain ⟨x, hx'⟩ : ∃ x, xs[k]? = some x := ⟨_, List.getElem?_eq_getElem hlt⟩
      obtain ⟨b, off, rfl, -, hc, hbs, c0, c1, c2, c3⟩ := rec_cells (HV.out.later entLay_len HB.out (Nat.le_refl _)) hx'
      obtain ⟨f, l, c, m⟩ := x
      simp only at c0 c1 c2 c3
      have d1 : (k : Int) < (xs.length : Int) := by omega
      have d2 : k + 1 ≤ cap := by omega
      clear hx'
      go_wp2_with fail
      refine (put_is O f l c _ _ ((own_recs HO.out entLay_len).later entLay_len ((Below.refl wr.heap.size wr).alloc (Nat.le_refl _) _) (Nat.le_refl _)) (by have := HI.out.ok.1; omega)).mono ?_
      rintro e w3 ⟨h1, h2, hb⟩
      have HX3 := Lib.hid ((CellsAt.new wr [.int .i64 f, .int .i64 l, .int .i64 c, .int .i64 m] #[.int .i64 f, .int .i64 l, .int .i64 c, .int .i64 m] 42 rfl).call hb)
      have hb3 : Below wr.heap.size wr w3 := by repeat (first | with_reducible exact Below.refl _ _ | ((with_reducible refine Below.setCell ?_ ?_ _); rotate_left; (· first | (simp; done) | omega | (simp; omega))) | with_reducible refine below_drewN ?_ _ | with_reducible refine Below.drew ?_ | ((with_reducible refine Below.trans ?_ (Below.mono hb ?_)); rotate_left; (· first | (simp; done) | omega | (simp; omega))) | ((with_reducible refine Below.alloc ?_ ?_ _); rotate_left; (· first | (simp; done) | omega | (simp; omega))) | exact Below.refl _ _ | refine Below.setCell ?_ (by first | (simp; done) | omega | (simp; omega)) _ | refine below_drewN ?_ _ | refine Below.drew ?_ | refine Below.trans ?_ (Below.mono hb (by first | (simp; done) | omega | (simp; omega))) | refine Below.alloc ?_ (by first | (simp; done) | omega | (simp; omega)) _)
      have HB3 := Lib.hid (HB.out.trans (hb3.mono zB))
      have HO3 := Lib.hid (own_recs (own_later HO.out hb3 (Nat.le_refl _)) entLay_len)
      have HOW := Lib.hid (own_later HO.out hb3 (Nat.le_refl _))
      have z3 := HB3.out.size
      have zz := hb.size
      clear c0 c1 c2 c3
      by_cases hok : putOk O f l c
      · obtain ⟨v3, rfl, hown⟩ := h1 hok
        have NX := inv_next HI.out hok
        obtain ⟨N, hN⟩ : ∃ N, putL O f l c = N := ⟨_, rfl⟩
        rw [hN] at NX hown
        have HNX := Lib.hid NX
        have hN32 := NX.inv.ok.1
        have HOK := Lib.hid hok
        clear h1 h2 hok hN hb hb3
        have hr := own_recs hown entLay_len
        obtain ⟨a3, c3, rfl⟩ := hr.len
        have HN3 := Lib.hid hr
        have HON := Lib.hid (own_mono4 hown (show w.heap.size ≤ _ by simp; omega))
        have hn0 := NX.pos
        obtain ⟨q, hq⟩ : ∃ q, N.length = q + 1 := ⟨N.length - 1, by omega⟩
        obtain ⟨last, hlast⟩ : ∃ x, N[q]? = some x := ⟨_, List.getElem?_eq_getElem (by omega)⟩
        have hld : N.getD (N.length - 1) ent0 = last := by rw [hq, Nat.add_sub_cancel, List.getD_eq_getElem?_getD, hlast]; rfl
        have k1 := NX.lane
        have k2 := NX.code
        have k3 := NX.frame
        rw [hld] at k1 k2 k3
        obtain ⟨b3, off3, rfl, -, hc3, hbs3, e0, e1, e2, e3⟩ := rec_cells hr hlast
        obtain ⟨lf, ll, lc, lm⟩ := last
        simp only at k1 k2 k3 e0 e1 e2 e3
        subst k1 k2
        have x0 := HX3.out.at_ 0 rfl
        have x1 := HX3.out.at_ 1 rfl
        have x2 := HX3.out.at_ 2 rfl
        have xz := HX3.out.lt
        have HQ := Lib.hid hq
        have HQI := Lib.hid (show (N.length : Int) - 1 = (q : Int) by omega)
        have d3 : (q : Int) < (N.length : Int) := by omega
        have d4 : q + 1 ≤ c3 := by omega
        have t1 : (ll != ll) = false := by simp
        have t2 : (lc != lc) = false := by simp
        have t3 : decide (f < lf) = false := decide_eq_false (by omega)
        have hp1 : (p : Int) + 1 ≤ 9223372036854775807 := by omega
        clear hown NX hq hlast hld hr
        have g1 : IntKind.i64.wrap ((N.length : Int) - 1) = (N.length : Int) - 1 := IntWalk.i64_in _ (by omega)
        have g3 : ((N.length : Int) - 1).toNat = q := by have := HQ.out; omega
        have g4 : (N.length : Int) - 1 < (N.length : Int) := by omega
        have g6 : (0 : Int) ≤ (N.length : Int) - 1 := by omega
        have HB4 : Hid (Below w.heap.size w (w3.alloc (.cells #[.int .i64 lf, .int .i64 ll, .int .i64 lc, .int .i64 lm] 42))) := by have := HB3.out; repeat (first | with_reducible exact Below.refl _ _ | with_reducible exact this | ((with_reducible refine Below.setCell ?_ ?_ _); rotate_left; (· first | (simp; done) | omega | (simp; omega))) | with_reducible refine below_drewN ?_ _ | with_reducible refine Below.drew ?_ | ((with_reducible refine Below.alloc ?_ ?_ _); rotate_left; (· first | (simp; done) | omega | (simp; omega))) | exact Below.refl _ _ | exact this | refine Below.setCell ?_ (by first | (simp; done) | omega | (simp; omega)) _ | refine below_drewN ?_ _ | refine Below.drew ?_ | refine Below.alloc ?_ (by first | (simp; done) | omega | (simp; omega)) _)
        have hn4 : Below w3.heap.size w3 (w3.alloc (.cells #[.int .i64 lf, .int .i64 ll, .int .i64 lc, .int .i64 lm] 42)) := (Below.refl _ _).alloc (Nat.le_refl _) _
        have HN4 := Lib.hid (HN3.out.later entLay_len hn4 (Nat.le_refl _))
        have HON4 := Lib.hid (own_later HON.out hn4 (Nat.le_refl _))
        have HO4 := Lib.hid (HO3.out.later entLay_len hn4 (Nat.le_refl _))
        clear hn4
        go_wp2_with fail
        refine (logCheck_is N _ _ HN4.out (by omega)).mono ?_
        rintro e w5 ⟨h1, -, hb⟩
        obtain rfl := h1 HNX.out.inv.ok
        have HB5 := Lib.hid (HB4.out.trans (hb.mono HB4.out.size))
        have HON5 := Lib.hid (own_later HON4.out hb (Nat.le_refl _))
        have HN5 := Lib.hid (HN4.out.later entLay_len hb (Nat.le_refl _))
        have HO5 := Lib.hid (HO4.out.later entLay_len hb (Nat.le_refl _))
        clear h1 hb HB4 HON4 HN4 HO4 HN3 HO3 HON HOW HB3 HX3 x0 x1 x2 xz e0 e1 e2 e3
        by_cases hq1 : N.length = O.length + 1
        · have q1 : ((N.length : Int) == (O.length : Int) + 1) = true := by rw [beq_iff_eq]; omega
          have hfr := HNX.out.front hq1
          have hol : O.length ≤ N.length := by omega
          have hoc : O.length ≤ c3 := by omega
          have hrt := recs_take HN5.out O.length hol
          rw [hfr] at hrt
          have HRT := Lib.hid hrt
          have hO64 : O.length ≤ 64 := by omega
          clear hfr hrt hq1
          go_wp2_with fail
          refine (equal_ent O _ _ _ HRT.out HO5.out (by omega)).mono ?_
          rintro e w6 ⟨rfl, n6, rfl⟩
          go_wp2
          go_roundw
          case rel => exact ⟨k + 1, p + 1, N, by omega, by omega, by go_num, by go_num, HON5.out, HNX.out.inv, by have := HB5.out; repeat (first | with_reducible exact Below.refl _ _ | with_reducible exact this | ((with_reducible refine Below.setCell ?_ ?_ _); rotate_left; (· first | (simp; done) | omega | (simp; omega))) | with_reducible refine below_drewN ?_ _ | with_reducible refine Below.drew ?_ | ((with_reducible refine Below.alloc ?_ ?_ _); rotate_left; (· first | (simp; done) | omega | (simp; omega))) | exact Below.refl _ _ | exact this | refine Below.setCell ?_ (by first | (simp; done) | omega | (simp; omega)) _ | refine below_drewN ?_ _ | refine Below.drew ?_ | refine Below.alloc ?_ (by first | (simp; done) | omega | (simp; omega)) _)⟩
          case measure => simp [intOf]; omega
        · have hO64 : O.length ≤ 64 := by have := HI.out.ok.1; omega
          have q1 : ((N.length : Int) == (O.length : Int) + 1) = false := by rw [beq_eq_false_iff_ne]; omega
          clear hq1
          go_wp2
          go_roundw
          case rel => exact ⟨k + 1, p + 1, N, by omega, by omega, by go_num, by go_num, HON5.out, HNX.out.inv, HB5.out⟩
          case measure => simp [intOf]; omega
      · obtain ⟨r, hr, rfl⟩ := h2 hok
        have hr' : (r != 0) = true := by simpa using hr
        clear h1 h2 hok hr hb hb3
        go_wp2
        go_roundw
        case rel => exact ⟨k + 1, p, O, by omega, by omega, by go_num, rfl, HOW.out, HI.out, HB3.out⟩
        case measure => simp [intOf]; omega
    · obtain rfl : k = xs.length := by omega
      have hO32 := HI.out.ok.1
      have HOR := Lib.hid (own_recs HO.out entLay_len)
      clear HO
      go_wp2_with fail
      go_loopw [6, 103] (fun sn sk w2 => SRel wr O sn sk w2) (fun _ sk _ => O.length - (intOf sk).toNat)
      case atStart => exact ⟨0, Nat.zero_le _, rfl, rfl, Below.refl _ _⟩
      case round =>
        obtain ⟨j, hj, rfl, rfl, hB2⟩ := hrel
        have HB2 := Lib.hid hB2
        have zB2 := hB2.size
        have hsm := sumM_nonneg HI.out.ok.2 j hj
        by_cases hlt : j < O.length
        · obtain ⟨x, hx'⟩ : ∃ x, O[j]? = some x := ⟨_, List.getElem?_eq_getElem hlt⟩
          have hst : sumM (O.take (j + 1)) = sumM (O.take j) + x.2.2.2 := by
            rw [List.take_succ_eq_append_getElem hlt, sumM_push]
            rw [List.getElem?_eq_getElem hlt] at hx'
            cases hx'; try rfl
          have hxb := (HI.out.ok.2 j hlt).1.2.2.2
          rw [List.getD_eq_getElem?_getD, hx'] at hxb
          obtain ⟨b, off, rfl, -, hc, hbs, c0, c1, c2, c3⟩ := rec_cells (HOR.out.later entLay_len HB2.out (Nat.le_refl _)) hx'
          obtain ⟨f, l, c, m⟩ := x
          simp only at c0 c1 c2 c3
          simp only [Option.getD_some] at hxb
          have d1 : (j : Int) < (O.length : Int) := by omega
          have d2 : j + 1 ≤ co := by omega
          obtain ⟨sm, hsme⟩ : ∃ s, sumM (O.take j) = s := ⟨_, rfl⟩
          rw [hsme] at hst hsm ⊢
          have HST := Lib.hid hst
          clear hB2 hx' hst hsme
          go_wp2
          go_roundw
          case rel => exact ⟨j + 1, by omega, by go_num, by rw [HST.out]; try go_num, by have := HB2.out; repeat (first | with_reducible exact Below.refl _ _ | with_reducible exact this | ((with_reducible refine Below.setCell ?_ ?_ _); rotate_left; (· first | (simp; done) | omega | (simp; omega))) | with_reducible refine below_drewN ?_ _ | with_reducible refine Below.drew ?_ | ((with_reducible refine Below.alloc ?_ ?_ _); rotate_left; (· first | (simp; done) | omega | (simp; omega))) | exact Below.refl _ _ | exact this | refine Below.setCell ?_ (by first | (simp; done) | omega | (simp; omega)) _ | refine below_drewN ?_ _ | refine Below.drew ?_ | refine Below.alloc ?_ (by first | (simp; done) | omega | (simp; omega)) _)⟩
          case measure => simp [intOf]; omega
        · obtain rfl : j = O.length := by omega
          have hall : sumM (O.take O.length) = sumM O := by rw [List.take_length]
          rw [hall] at hsm ⊢
          have hle := HI.out.le
          have halt := HI.out.alt
          obtain ⟨sm, hsme⟩ : ∃ s, sumM O = s := ⟨_, rfl⟩
          rw [hsme] at hsm hle halt ⊢
          have HB3 := Lib.hid (HB.out.trans (HB2.out.mono zB))
          clear hall hsme hB2 zB2
          by_cases a1 : O.length = 32
          · have q1 : ((O.length : Int) == 32) = true := by rw [a1]; rfl
            clear a1 halt
            go_wp2
            go_ret
            exact ⟨rfl, HB3.out⟩
          · have q1 : ((O.length : Int) == 32) = false := by rw [beq_eq_false_iff_ne]; omega
            by_cases a2 : sm = p
            · have q2 : (sm == (p : Int)) = true := by simpa using a2
              clear a1 a2 halt
              go_wp2
              go_ret
              exact ⟨rfl, HB3.out⟩
            · have q2 : (sm == (p : Int)) = false := by simpa using a2
              have q3 : (9999 : Int) < (p : Int) := by omega
              clear a1 a2 halt
              go_wp2
              go_ret
              exact ⟨rfl, HB3.out⟩
theorem law (a : Option Addr) (len cap : Nat) (xs : List EntR) (w : World) (h : IsRecs 4 entLay entFit w a len cap xs) (hr : len ≤ cap ∧ cap * 32 ≤ 140737488351232) :
    Calls Try.prog 5 #[.slice a len cap] w fun e w' => e = .returned (.bool true) ∧ Below w.heap.size w w' := by
  obtain ⟨h3, h4, -⟩ := isRecs_recs h (by omega) entLay_len
  exact way (xs.take len) _ w h3 (by omega)
set_option maxRecDepth 100000 in
theorem lifted (os : Os) (started : os.Started) (H : Type) (enc : TypeId × Value → H) :
    ReturnsInHanded {} Try.checked os 5 .any (Rows.logNewestSpec.pre6 enc Try.prog Try.f5 Rows.logNewestRow.domain false) (Rows.logNewestSpec.post enc Try.prog Try.f5 false true false false) := by
  refine returnsInHanded_of_change_sized (C := Try.checked) own started (by kernel_rfl) Try.func5
    (ChangeSpec.witness6 (enc := enc) (C := Try.checked) false ⟨#[], #[.slice none 0 0], []⟩ 8 (by kernel_rfl) (by kernel_rfl) (by kernel_rfl) (by kernel_rfl)) ?_
  intro W base args ds gs before hval0 hW hcnd hsz0 _
  have hsz : (DataW.weightsEach Try.prog (Try.f5.params.toList ++ Rows.logNewestSpec.plain.varTypes Try.prog) (ds ++ gs)).all (· ≤ reachBytes) = true := hsz0
  have hval : ∀ (j : Nat) t v, Try.f5.params[j]? = some t → args[j]? = some v → Value.okWide Try.prog W .any base t v := hval0
  have hW' := hW
  obtain ⟨p, q, hA0, hV, rfl, hfz, hnd⟩ := hW
  have hA : DataW.TrodAll enc Try.prog W 0 (fun _ => true) true Try.f5.params.toList args.toList ds p := hA0
  rw [Try.params5] at hA hval hsz
  obtain ⟨v0, vs0, d0, ds0, p0, q0, hargs, rfl, rfl, h0, r0⟩ := trodAll_cons hA
  obtain ⟨rfl, rfl, rfl⟩ := trodAll_nil r0
  obtain rfl : args = #[v0] := by cases args; simp_all
  obtain ⟨rfl, rfl⟩ := trodVars_none hV
  have k0 := h0
  have lt0 : ∀ x ∈ p0, x.block < W.heap.size := by obtain ⟨m, hm⟩ := k0; exact DataW.trod_lt m _ _ _ hm
  obtain ⟨sa0, sl0, sc0, rfl⟩ := okWide_slice Try.underlying38 (hval 0 38 v0 rfl rfl)
  obtain ⟨a0, len0, cap0, z0, e0, w0⟩ := leaf_recs (ts := [3, 3, 3, 3]) 4 entLay entFit 12 (Try.underlying38) (by kernel_rfl) (by kernel_rfl) rfl ent_dec (by obtain ⟨fuel, hf⟩ := h0; exact ⟨fuel, _, by simpa [Value.cells] using hf⟩)
  simp only [Value.slice.injEq] at e0
  obtain ⟨rfl, rfl, rfl⟩ := e0
  have R0 := cap_le (B := 32) Try.underlying38 k0 (fun elems spare hd => by have := sized_slice hsz (j := 0) (t := 38) (e := 42) (elems := elems) (spare := spare) rfl (by rw [← hd]; rfl) Try.underlying38; exact this)
  clear hA0 hval0
  refine (law sa0 sl0 sc0 z0 W w0 R0).mono fun e W' ⟨he, bel⟩ => ?_
  subst he
  exact ⟨_, rfl, _, _, _, [], _, [], hW', trodAll_mk1 (shut_bool Try.underlying4 _), (trodAll_cons_mk (Below.trod laidOut (by kernel_rfl) (of_decide_eq_true (by kernel_rfl)) k0 bel lt0) trodAll_mk0), rfl, bel.frame _, fun h => by cases h⟩
theorem over : Rows.logNewestRow.holds Try.pinned (OpenSpec.ofChange Rows.logNewestSpec) :=
  OpenClaim.holds_of_wide 5 Try.f5 rfl rfl rfl rfl rfl rfl rfl ⟨rfl, rfl, rfl, rfl, rfl⟩ rfl rfl rfl rfl rfl (by kernel_rfl) Try.func5 (by kernel_rfl)
    (of_decide_eq_true (by kernel_rfl)) (by unfold Func.isWrapper; first | (rw [if_pos (by decide +kernel)]; kernel_rfl) | (rw [if_neg (by decide +kernel)]; exact ⟨rfl, rfl⟩))
    (fun os started H enc _ => lifted os started H enc)
theorem proved : Rows.LogNewestSaid := over
#print axioms proved

end Go.Proofs.Ytglagndpholejaa.logNewest
