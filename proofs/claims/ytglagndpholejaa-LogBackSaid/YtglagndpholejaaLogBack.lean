/- LogBack: whatever the log and the text are, the law answers true and leaves memory as it was. -/
import Derived.Test.YtglagndpholejaaLogRead
namespace Go.Proofs.Ytglagndpholejaa.logBack
open Go.ChangeShapes Go.WideShapes Go.ChangeAt Go.RowKit Go.Proofs.Ytglagndpholejaa Go.Proofs.Ytglagndpholejaa.Open
set_option linter.unusedVariables false
abbrev TE : TypeId := 42
abbrev litX : List EntR := [(10, 4, 3, 2)]
theorem lit_ok : LogOk litX := by
  refine ⟨by decide, fun i hi => ?_⟩
  obtain rfl : i = 0 := by simp at hi; omega
  exact ⟨by decide, fun h => absurd h (by decide)⟩
theorem lit_text : textL litX = [49, 48, 58, 52, 58, 51, 120, 50, 10] := by
  have e10 : digL 10 = [49, 48] := by rw [digL_ge (by decide), digL_lt (by decide)]; decide
  have e4 : digL 4 = [52] := by rw [digL_lt (by decide)]; decide
  have e3 : digL 3 = [51] := by rw [digL_lt (by decide)]; decide
  have e2 : digL 2 = [50] := by rw [digL_lt (by decide)]; decide
  have h : textL litX = entS (10, 4, 3, 2) := by simp [textL]
  rw [h]
  show digL 10 ++ [58] ++ digL 4 ++ [58] ++ digL 3 ++ [120] ++ digL 2 ++ [10] = _
  rw [e10, e4, e3, e2]; rfl
theorem text_inj {xs ys : List EntR} (hx : LogOk xs) (hy : LogOk ys) (h : textL ys = textL xs) : ys = xs := by
  rw [← List.append_nil (textL xs)] at h
  obtain ⟨zs, hzs, e⟩ := text_pre (ok_nn hx) (ok_nn hy) h
  cases zs with
  | nil => simpa using hzs
  | cons z zs =>
    have h1 := congrArg List.length e
    have h2 := entS_pos z
    rw [textL_cons, List.length_append] at h1
    simp at h1
    omega
def BackPost (w : World) (e : Ending) (w' : World) : Prop := e = .returned (.bool true) ∧ Below w.heap.size w w'
set_option maxHeartbeats 8000000 in
set_option maxRecDepth 100000 in
theorem way (xs : List EntR) (S : List UInt8) (v : Value) (w : World) (hv : RecsAt 4 entLay w v xs) (hm : xs.length ≤ 281474976710656) :
    Calls Try.prog 7 #[v, .string ⟨S.toArray⟩] w (BackPost w) := by
  obtain ⟨a, cap, rfl⟩ := hv.len
  have HV := Lib.hid hv
  have F0 := Lib.hid (recs_new (E := TE) w litX #[.int .i64 10, .int .i64 4, .int .i64 3, .int .i64 2] rfl entLay_len rfl (by decide))
  have F1 : Hid (∀ W : World, Calls Try.prog 27 #[.string ⟨S.toArray⟩] W (ReadPost S 42 W)) := fun W => by
    by_cases hs : (⟨S.toArray⟩ : ByteArray).size ≤ 4095
    · exact read_is ⟨S.toArray⟩ hs W
    · exact read_large ⟨S.toArray⟩ hs W
  clear hv
  go_enter Try.func7, Try.ntmps7
  go_wp2_with fail
  refine (text_ok litX _ _ F0.out lit_ok).mono ?_
  rw [lit_text]
  rintro e w1 ⟨rfl, hb1⟩
  have B1 : Hid (Below w.heap.size w w1) := (by repeat (first | with_reducible exact Below.refl _ _ | ((with_reducible refine Below.setCell ?_ ?_ _); rotate_left; (· first | (simp; done) | omega | (simp; omega))) | with_reducible refine below_drewN ?_ _ | with_reducible refine Below.drew ?_ | ((with_reducible refine Below.trans ?_ (Below.mono hb1 ?_)); rotate_left; (· first | (simp; done) | omega | (simp; omega))) | ((with_reducible refine Below.alloc ?_ ?_ _); rotate_left; (· first | (simp; done) | omega | (simp; omega))) | exact Below.refl _ _ | refine Below.setCell ?_ (by first | (simp; done) | omega | (simp; omega)) _ | refine below_drewN ?_ _ | refine Below.drew ?_ | refine Below.trans ?_ (Below.mono hb1 (by first | (simp; done) | omega | (simp; omega))) | refine Below.alloc ?_ (by first | (simp; done) | omega | (simp; omega)) _) : Below w.heap.size w w1)
  clear F0 hb1
  go_wp2_with fail
  by_cases hok : LogOk xs
  · have HOK := Lib.hid hok
    clear hok
    refine (text_ok xs _ _ (HV.out.later entLay_len B1.out (Nat.le_refl _)) HOK.out).mono ?_
    rintro e w2 ⟨rfl, hb2⟩
    have B2 := Lib.hid (B1.out.trans (hb2.mono B1.out.size))
    have hl := ok_len HOK.out
    have HT := Lib.hid (read_is ⟨(textL xs).toArray⟩ (by simpa [ByteArray.size] using (by omega : (textL xs).length ≤ 4095)) w2)
    obtain ⟨tx, htx⟩ : ∃ t, textL xs = t := ⟨_, rfl⟩
    rw [htx] at HT ⊢
    have HTX := Lib.hid htx
    clear hb2 B1 hl htx
    go_wp2_with fail
    refine HT.out.mono ?_
    rintro e w3 ⟨⟨u, ys, hy, hyt, rfl, ho⟩ | ⟨hno, -⟩, hb3⟩
    · obtain rfl : ys = xs := text_inj HOK.out hy (by rw [HTX.out]; simpa using hyt)
      have B3 := Lib.hid (B2.out.trans (hb3.mono B2.out.size))
      have HU := Lib.hid (own_recs ho entLay_len)
      obtain ⟨au, cu, rfl⟩ := HU.out.len
      clear hy hyt ho hb3 HT B2
      go_wp2_with fail
      refine (equal_ent ys _ _ _ (HV.out.later entLay_len B3.out (Nat.le_refl _)) HU.out (by omega)).mono ?_
      rintro e w4 ⟨rfl, n4, rfl⟩
      have B4 : Hid (Below w.heap.size w (w3.drewN n4)) := below_drewN B3.out n4
      clear HU B3
      generalize w3.drewN n4 = w5 at *
      go_wp2_with fail
      refine (F1.out w5).mono ?_
      rintro e w6 ⟨⟨u6, zs, hz, hzt, rfl, ho⟩ | ⟨-, c6, hc6, rfl⟩, hb6⟩
      · have B6 := Lib.hid (B4.out.trans (hb6.mono B4.out.size))
        have HU := Lib.hid (own_recs ho entLay_len)
        obtain ⟨au, cu, rfl⟩ := HU.out.len
        have HZ := Lib.hid hz; have HZT := Lib.hid hzt
        clear hz hzt ho hb6 B4
        go_wp2_with fail
        refine (text_ok zs _ _ HU.out HZ.out).mono ?_
        rw [HZT.out]
        rintro e w7 ⟨rfl, hb7⟩
        have B7 := Lib.hid (B6.out.trans (hb7.mono B6.out.size))
        clear hb7 B6 HU
        go_wp2
        go_ret
        exact ⟨rfl, B7.out⟩
      · have B6 := Lib.hid (B4.out.trans (hb6.mono B4.out.size))
        have hcb6 : (c6 == 0) = false := by simpa using hc6
        have hcb7 : (!(c6 == 0)) = true := by simpa using hc6
        have hcb8 : (c6 != 0) = true := by simpa using hc6
        clear hb6 B4 hc6
        go_wp2_with fail
        refine (text_ok [] _ _ (.inl ⟨rfl, .inl rfl⟩) ⟨by decide, fun i hi => absurd hi (Nat.not_lt_zero _)⟩).mono ?_
        rintro e w7 ⟨rfl, hb7⟩
        have B7 := Lib.hid (B6.out.trans (hb7.mono B6.out.size))
        clear hb7 B6
        go_wp2
        go_ret
        exact ⟨rfl, B7.out⟩
    · exact absurd (by simpa using HTX.out) (hno xs HOK.out)
  · refine (text_no xs _ _ (HV.out.later entLay_len B1.out (Nat.le_refl _)) (by omega) hok).mono ?_
    rintro e w5 ⟨⟨c, hc, rfl⟩, hb2⟩
    have B4 := Lib.hid (B1.out.trans (hb2.mono B1.out.size))
    have hcb : (c == 0) = false := by simpa using hc
    clear hb2 B1 hc hok
    go_wp2_with fail
    refine (F1.out w5).mono ?_
    rintro e w6 ⟨⟨u6, zs, hz, hzt, rfl, ho⟩ | ⟨-, c6, hc6, rfl⟩, hb6⟩
    · have B6 := Lib.hid (B4.out.trans (hb6.mono B4.out.size))
      have HU := Lib.hid (own_recs ho entLay_len)
      obtain ⟨au, cu, rfl⟩ := HU.out.len
      have HZ := Lib.hid hz; have HZT := Lib.hid hzt
      clear hz hzt ho hb6 B4
      go_wp2_with fail
      refine (text_ok zs _ _ HU.out HZ.out).mono ?_
      rw [HZT.out]
      rintro e w7 ⟨rfl, hb7⟩
      have B7 := Lib.hid (B6.out.trans (hb7.mono B6.out.size))
      clear hb7 B6 HU
      go_wp2
      go_ret
      exact ⟨rfl, B7.out⟩
    · have B6 := Lib.hid (B4.out.trans (hb6.mono B4.out.size))
      have hcb6 : (c6 == 0) = false := by simpa using hc6
      have hcb7 : (!(c6 == 0)) = true := by simpa using hc6
      have hcb8 : (c6 != 0) = true := by simpa using hc6
      clear hb6 B4 hc6
      go_wp2_with fail
      refine (text_ok [] _ _ (.inl ⟨rfl, .inl rfl⟩) ⟨by decide, fun i hi => absurd hi (Nat.not_lt_zero _)⟩).mono ?_
      rintro e w7 ⟨rfl, hb7⟩
      have B7 := Lib.hid (B6.out.trans (hb7.mono B6.out.size))
      clear hb7 B6
      go_wp2
      go_ret
      exact ⟨rfl, B7.out⟩
theorem law (a : Option Addr) (len cap : Nat) (xs : List EntR) (s : ByteArray) (w : World)
    (h : IsRecs 4 entLay entFit w a len cap xs) (hr : len ≤ cap ∧ cap * 32 ≤ 140737488351232) (hsz : s.size ≤ maxLen) :
    Calls Try.prog 7 #[.slice a len cap, .string s] w fun e w' => e = .returned (.bool true) ∧ Below w.heap.size w w' := by
  obtain ⟨q3, q4, -⟩ := isRecs_recs h (by omega) entLay_len
  obtain ⟨S, rfl⟩ : ∃ S : List UInt8, s = ⟨S.toArray⟩ := ⟨s.data.toList, rfl⟩
  exact way (xs.take len) S _ w q3 (by omega)
set_option maxRecDepth 100000 in
theorem lifted (os : Os) (started : os.Started) (H : Type) (enc : TypeId × Value → H) :
    ReturnsInHanded {} Try.checked os 7 .any (Rows.logBackSpec.pre6 enc Try.prog Try.f7 Rows.logBackRow.domain false) (Rows.logBackSpec.post enc Try.prog Try.f7 false true false false) := by
  refine returnsInHanded_of_change_sized (C := Try.checked) own started (by kernel_rfl) Try.func7
    (ChangeSpec.witness6 (enc := enc) (C := Try.checked) false ⟨#[], #[.slice none 0 0, .string ByteArray.empty], []⟩ 8 (by kernel_rfl) (by kernel_rfl) (by kernel_rfl) (by kernel_rfl)) ?_
  intro W base args ds gs before hval0 hW hcnd hsz0 _
  have hsz : (DataW.weightsEach Try.prog (Try.f7.params.toList ++ Rows.logBackSpec.plain.varTypes Try.prog) (ds ++ gs)).all (· ≤ reachBytes) = true := hsz0
  have hval : ∀ (j : Nat) t v, Try.f7.params[j]? = some t → args[j]? = some v → Value.okWide Try.prog W .any base t v := hval0
  have hW' := hW
  obtain ⟨p, q, hA0, hV, rfl, hfz, hnd⟩ := hW
  have hA : DataW.TrodAll enc Try.prog W 0 (fun _ => true) true Try.f7.params.toList args.toList ds p := hA0
  rw [Try.params7] at hA hval hsz
  obtain ⟨v0, vs0, d0, ds0, p0, q0, hargs, rfl, rfl, h0, r0⟩ := trodAll_cons hA
  obtain ⟨v1, vs1, d1, ds1, p1, q1, rfl, rfl, rfl, h1, r1⟩ := trodAll_cons r0
  obtain ⟨rfl, rfl, rfl⟩ := trodAll_nil r1
  obtain rfl : args = #[v0, v1] := by cases args; simp_all
  obtain ⟨rfl, rfl⟩ := trodVars_none hV
  have k0 := h0
  have lt0 : ∀ x ∈ p0, x.block < W.heap.size := by obtain ⟨m, hm⟩ := k0; exact DataW.trod_lt m _ _ _ hm
  have k1 := h1
  have lt1 : ∀ x ∈ p1, x.block < W.heap.size := by obtain ⟨m, hm⟩ := k1; exact DataW.trod_lt m _ _ _ hm
  obtain ⟨sa0, sl0, sc0, rfl⟩ := okWide_slice Try.underlying38 (hval 0 38 v0 rfl rfl)
  obtain ⟨a0, len0, cap0, z0, e0, w0⟩ := leaf_recs (ts := [3, 3, 3, 3]) 4 entLay entFit 12 (Try.underlying38) (by kernel_rfl) (by kernel_rfl) rfl ent_dec (by obtain ⟨fuel, hf⟩ := h0; exact ⟨fuel, _, by simpa [Value.cells] using hf⟩)
  simp only [Value.slice.injEq] at e0
  obtain ⟨rfl, rfl, rfl⟩ := e0
  have R0 := cap_le (B := 32) Try.underlying38 k0 (fun elems spare hd => by have := sized_slice hsz (j := 0) (t := 38) (e := 42) (elems := elems) (spare := spare) rfl (by rw [← hd]; rfl) Try.underlying38; exact this)
  obtain ⟨a1, rfl, rfl, rfl, w1⟩ := Go.ChangeMaps.open_string Try.underlying9 (hval 1 9 v1 rfl rfl) h1
  clear hA0 hval0
  refine (law sa0 sl0 sc0 z0 a1 W w0 R0 w1).mono fun e W' ⟨he, bel⟩ => ?_
  subst he
  exact ⟨_, rfl, _, _, _, [], _, [], hW', trodAll_mk1 (shut_bool Try.underlying4 _), (trodAll_cons_mk (Below.trod laidOut (by kernel_rfl) (of_decide_eq_true (by kernel_rfl)) k0 bel lt0) (trodAll_cons_mk (Below.trod laidOut (by kernel_rfl) (of_decide_eq_true (by kernel_rfl)) k1 bel lt1) trodAll_mk0)), rfl, bel.frame _, fun h => by cases h⟩
theorem over : Rows.logBackRow.holds Try.pinned (OpenSpec.ofChange Rows.logBackSpec) :=
  OpenClaim.holds_of_wide 7 Try.f7 rfl rfl rfl rfl rfl rfl rfl ⟨rfl, rfl, rfl, rfl, rfl⟩ rfl rfl rfl rfl rfl (by kernel_rfl) Try.func7 (by kernel_rfl)
    (of_decide_eq_true (by kernel_rfl)) (by unfold Func.isWrapper; first | (rw [if_pos (by decide +kernel)]; kernel_rfl) | (rw [if_neg (by decide +kernel)]; exact ⟨rfl, rfl⟩))
    (fun os started H enc _ => lifted os started H enc)
theorem proved : Rows.LogBackSaid := over
#print axioms proved

end Go.Proofs.Ytglagndpholejaa.logBack
