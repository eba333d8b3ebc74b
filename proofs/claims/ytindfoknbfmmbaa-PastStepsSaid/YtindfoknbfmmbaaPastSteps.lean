/- PastSteps: whatever the formulas and the signs are, the law answers true and leaves memory as it was. -/
import Derived.Test.YtindfoknbfmmbaaPastRun
namespace Go.Proofs.Ytindfoknbfmmbaa.pastSteps
open Go.ChangeShapes Go.WideShapes Go.ChangeAt Go.RowKit Go.Proofs.Ytindfoknbfmmbaa Go.Proofs.Ytindfoknbfmmbaa.Open
set_option linter.unusedVariables false
theorem rTo_at (xs : List PastR) (ss : List Int) (k j : Nat) (h : k < j) : (rTo xs ss j).1.getD k false = (pTo xs (rTo xs ss k).2 (ss.getD k 0) xs.length).getD (xs.length - 1) false := by
  induction j with
  | zero => omega
  | succ j ih =>
    simp only [rTo]
    rw [List.getD_eq_getElem?_getD]
    by_cases e : k = j
    · subst e
      rw [List.getElem?_append_right (by rw [rTo_len]; omega), rTo_len, Nat.sub_self]
      rfl
    · rw [List.getElem?_append_left (by rw [rTo_len]; omega), ← List.getD_eq_getElem?_getD]
      exact ih (by omega)
theorem one_ok : PastOk [(1, 0, 0)] := by
  refine ⟨by decide, by decide, fun i x hx => ?_⟩
  match i, hx with
  | 0, hx => cases hx; exact .inl ⟨rfl, by decide, by decide, rfl⟩
theorem one_lit : (pTo [(1, 0, 0)] [] 1 1).getD 0 false = true := by decide +kernel
def Rel (xs : List PastR) (ss : List Int) (T : TypeId) (w w0 : World) (wv i : Value) (wr : World) : Prop :=
  ∃ k : Nat, k ≤ ss.length ∧ i = .int .i64 k ∧ wr.ownsRow w.heap.size T 1 wv (rTo xs ss k).2.length ((rTo xs ss k).2.map .bool) ∧ Below w0.heap.size w0 wr
set_option maxHeartbeats 4000000 in
set_option maxRecDepth 100000 in
theorem way (xs : List PastR) (ss : List Int) (v u : Value) (w : World) (hv : RecsAt 3 pastLay w v xs) (hu : IntsAt .u8 w u ss) (hs : ∀ j, 0 ≤ ss.getD j 0 ∧ ss.getD j 0 ≤ 255) (hx : xs.length ≤ 9223372036854775807) (hl : ss.length ≤ 140737488351232) :
    Calls Try.prog 10 #[v, u] w fun e w' => e = .returned (.bool true) ∧ Below w.heap.size w w' := by
  obtain ⟨a, cap, rfl⟩ := hv.len
  obtain ⟨a2, cap2, rfl⟩ := hu.len
  have HV := Lib.hid hv; have HU := Lib.hid hu; have HS := Lib.hid hs
  clear hv hu hs
  have F0 := Lib.hid (recs_new (E := 64) w [((1 : Int), (0 : Int), (0 : Int))] #[.int .i64 1, .int .i64 0, .int .i64 0] rfl pastLay_len rfl (by decide))
  go_enter Try.func10, Try.ntmps10
  go_wp2_with fail
  refine (pastTold_yes [(1, 0, 0)] [] 1 _ _ _ one_ok F0.out (.inl ⟨rfl, .inl rfl⟩) (.inl rfl) (by omega)).mono ?_
  rintro e w1 ⟨v1, he, hown, hb⟩
  replace he : e = .returned (.tuple #[v1, .bool true, .int .i64 0]) := he.trans (by rw [← one_lit]; rfl)
  subst he
  obtain ⟨g, capg, rfl, -, -⟩ := own_bd hown (by decide)
  have B1 : Below w.heap.size w w1 := by repeat (first | with_reducible exact Below.refl _ _ | ((with_reducible refine Below.setCell ?_ ?_ _); rotate_left; (· first | (simp; done) | omega | (simp; omega))) | with_reducible refine below_drewN ?_ _ | with_reducible refine Below.drew ?_ | ((with_reducible refine Below.trans ?_ (Below.mono hb ?_)); rotate_left; (· first | (simp; done) | omega | (simp; omega))) | ((with_reducible refine Below.alloc ?_ ?_ _); rotate_left; (· first | (simp; done) | omega | (simp; omega))) | exact Below.refl _ _ | refine Below.setCell ?_ (by first | (simp; done) | omega | (simp; omega)) _ | refine below_drewN ?_ _ | refine Below.drew ?_ | refine Below.trans ?_ (Below.mono hb (by first | (simp; done) | omega | (simp; omega))) | refine Below.alloc ?_ (by first | (simp; done) | omega | (simp; omega)) _)
  have z1 := B1.size
  simp only [List.length_singleton]
  clear F0 hown hb
  by_cases hok : PastOk xs
  · have HOK := Lib.hid hok
    have h20 := hok.2.1
    clear hok
    go_wp2_with fail
    refine (pastRun_yes xs ss _ _ _ HOK.out (HV.out.later pastLay_len B1 (Nat.le_refl _)) (HU.out.later B1 (Nat.le_refl _)) HS.out hl).mono ?_
    rintro e w2 ⟨v2, rfl, hown, hb⟩
    have B2 : Below w.heap.size w w2 := B1.trans (hb.mono z1)
    obtain ⟨a3, cap3, hv3⟩ : ∃ a3 cap3, v2 = .slice a3 ss.length cap3 := by
      have hl2 : (pastRun xs ss).length = ss.length := rTo_len _ _ _
      have := (own_bools' (xs := pastRun xs ss) (by rw [hl2]; exact hown)).len
      rwa [hl2] at this
    have BA : BoolsAt w2 v2 (pastRun xs ss) := own_bools' (by rw [show (pastRun xs ss).length = ss.length from rTo_len _ _ _]; exact hown)
    subst hv3
    have HBA := Lib.hid BA
    have z2 := B2.size
    clear hown hb BA
    go_wp2
    go_loopw [10, 44] (fun wv i wr => Rel xs ss 4 w w2 wv i wr) (fun _ i _ => ss.length - (intOf i).toNat)
    case atStart => exact ⟨0, Nat.zero_le _, rfl, World.ownsRow_nil _ _ _ _, Below.refl _ _⟩
    case round =>
      obtain ⟨k, hk, rfl, hw, hB⟩ := hrel
      have HW := Lib.hid hw
      have zB := hB.size
      have B3 := B2.trans (hB.mono z2)
      clear hw
      by_cases hlt : k < ss.length
      · rcases HU.out with ⟨h0, -⟩ | ⟨-, b, off, cap', hv', hl1, hl2, hc⟩
        · rw [h0] at hlt; simp at hlt
        cases hv'
        have c0 := cell_later B3 (hc k hlt)
        have sb := HS.out k
        obtain ⟨s, hs⟩ : ∃ s, ss.getD k 0 = s := ⟨_, rfl⟩
        rw [hs] at c0 sb
        have HSK := Lib.hid hs
        rcases HBA.out with ⟨h0, -⟩ | ⟨h0, b4, off4, cap4, hv4, hl4, hm4, hc4⟩
        · have := rTo_len xs ss ss.length; rw [show (rTo xs ss ss.length).1 = pastRun xs ss from rfl, h0] at this; simp at this; omega
        rw [show (pastRun xs ss).length = ss.length from rTo_len _ _ _] at hv4 hl4 hc4
        cases hv4
        have c4 := hc4 k hlt
        rw [show (pastRun xs ss).getD k false = _ from rTo_at xs ss k ss.length hlt, hs] at c4
        obtain ⟨lv, hlv⟩ : ∃ lv, (pTo xs (rTo xs ss k).2 s xs.length).getD (xs.length - 1) false = lv := ⟨_, rfl⟩
        rw [hlv] at c4
        have HLV := Lib.hid hlv
        clear hs hc hc4 hlv h0
        go_wp2_with fail
        refine (pastTold_yes xs (rTo xs ss k).2 s _ _ _ HOK.out (HV.out.later pastLay_len B3 (Nat.le_refl _)) (own_bools' HW.out) (rTo_was _ _ _) sb).mono ?_
        rintro e w4 ⟨v4, he, hown, hb⟩
        rw [HLV.out] at he
        subst he
        have hst : (rTo xs ss (k + 1)).2 = pTo xs (rTo xs ss k).2 s xs.length := by simp only [rTo, HSK.out]
        have HST := Lib.hid hst
        obtain ⟨a5, cap5, hv5⟩ : ∃ a5 cap5, v4 = .slice a5 xs.length cap5 := by
          have := (own_bools' (xs := pTo xs (rTo xs ss k).2 s xs.length) (by rw [pTo_len]; exact hown)).len
          rwa [pTo_len] at this
        subst hv5
        have HOWN := Lib.hid (own_base hown B3.size)
        have c5 := cell_later (hB.trans (hb.mono zB)) c4
        have B4 := hB.trans (hb.mono zB)
        have tl : (lv != lv) = false := by cases lv <;> rfl
        have tx : ((xs.length : Int) != (xs.length : Int)) = false := by simp
        have tk : decide ((ss.length : Int) ≤ (k : Int)) = false := by simp; omega
        clear hst hown hb c4 hB
        go_wp2
        go_roundw
        case rel => exact ⟨k + 1, by omega, by go_num, by rw [HST.out, pTo_len]; exact HOWN.out, B4⟩
        case measure => simp [intOf]; omega
      · obtain rfl : k = ss.length := by omega
        go_wp2
        go_ret
        exact ⟨by simp, B3⟩
  · have HOK := Lib.hid hok
    have hne : (pastE xs != 0) = true := by rw [bne_iff_ne]; exact pastE_ne xs
    clear hok
    go_wp2_with fail
    refine (pastRun_no xs _ _ _ HOK.out (HV.out.later pastLay_len B1 (Nat.le_refl _)) hx).mono ?_
    rintro e w2 ⟨rfl, hb⟩
    have B2 := B1.trans (hb.mono z1)
    clear hb B1
    go_wp2
    go_ret
    exact ⟨rfl, B2⟩
theorem u8_bd {k : Nat} {w : World} {a : Option Addr} {len cap : Nat} {zs : List Int} (h : IsRow .u8 w a len cap zs) : ∀ j, 0 ≤ (zs.take k).getD j 0 ∧ (zs.take k).getD j 0 ≤ 255 := by
  have : ∀ x ∈ zs, 0 ≤ x ∧ x ≤ 255 := by
    rcases h with ⟨-, -, -, rfl⟩ | ⟨x, rfl, hl, hm, hz, hcell, hwz⟩
    · intro x hx; simp at hx
    · intro x hx; have := bounds_u8 (hwz x hx); omega
  intro j
  rw [List.getD_eq_getElem?_getD]
  by_cases hj : j < (zs.take k).length
  · rw [List.getElem?_eq_getElem hj]
    exact this _ (List.mem_of_mem_take (List.getElem_mem hj))
  · rw [List.getElem?_eq_none (by omega)]; decide
theorem law (a : Option Addr) (len cap : Nat) (xs : List PastR) (a2 : Option Addr) (len2 cap2 : Nat) (zs : List Int) (w : World) (h : IsRecs 3 pastLay pastFit w a len cap xs) (hr : len ≤ cap ∧ cap * 24 ≤ 140737488351232) (h2 : IsRow .u8 w a2 len2 cap2 zs) (hr2 : len2 ≤ cap2 ∧ cap2 * 1 ≤ 140737488351232) :
    Calls Try.prog 10 #[.slice a len cap, .slice a2 len2 cap2] w fun e w' => e = .returned (.bool true) ∧ Below w.heap.size w w' := by
  obtain ⟨h3, h4, -⟩ := isRecs_recs h (by omega) pastLay_len
  obtain ⟨h5, h6⟩ := isRow_ints h2
  exact way (xs.take len) (zs.take len2) _ _ w h3 h5 (u8_bd h2) (by omega) (by omega)
set_option maxRecDepth 100000 in
theorem lifted (os : Os) (started : os.Started) (H : Type) (enc : TypeId × Value → H) :
    ReturnsInHanded {} Try.checked os 10 .any (Rows.pastStepsSpec.pre6 enc Try.prog Try.f10 Rows.pastStepsRow.domain false) (Rows.pastStepsSpec.post enc Try.prog Try.f10 false true false false) := by
  refine returnsInHanded_of_change_sized (C := Try.checked) own started (by kernel_rfl) Try.func10
    (ChangeSpec.witness6 (enc := enc) (C := Try.checked) false ⟨#[], #[.slice none 0 0, .slice none 0 0], []⟩ 8 (by kernel_rfl) (by kernel_rfl) (by kernel_rfl) (by kernel_rfl)) ?_
  intro W base args ds gs before hval0 hW hcnd hsz0 _
  have hsz : (DataW.weightsEach Try.prog (Try.f10.params.toList ++ Rows.pastStepsSpec.plain.varTypes Try.prog) (ds ++ gs)).all (· ≤ reachBytes) = true := hsz0
  have hval : ∀ (j : Nat) t v, Try.f10.params[j]? = some t → args[j]? = some v → Value.okWide Try.prog W .any base t v := hval0
  have hW' := hW
  obtain ⟨p, q, hA0, hV, rfl, hfz, hnd⟩ := hW
  have hA : DataW.TrodAll enc Try.prog W 0 (fun _ => true) true Try.f10.params.toList args.toList ds p := hA0
  rw [Try.params10] at hA hval hsz
  obtain ⟨v0, vs0, d0, ds0, p0, q0, hargs, rfl, rfl, h0, r0⟩ := trodAll_cons hA
  obtain ⟨v1, vs1, d1, ds1, p1, q1, rfl, rfl, rfl, h1, r1⟩ := trodAll_cons r0
  obtain ⟨rfl, rfl, rfl⟩ := trodAll_nil r1
  obtain rfl : args = #[v0, v1] := by cases args; simp_all
  obtain ⟨rfl, rfl⟩ := trodVars_none hV
  have k0 := h0
  have lt0 : ∀ x ∈ p0, x.block < W.heap.size := by obtain ⟨m, hm⟩ := k0; exact DataW.trod_lt m _ _ _ hm
  have k1 := h1
  have lt1 : ∀ x ∈ p1, x.block < W.heap.size := by obtain ⟨m, hm⟩ := k1; exact DataW.trod_lt m _ _ _ hm
  obtain ⟨sa0, sl0, sc0, rfl⟩ := okWide_slice Try.underlying58 (hval 0 58 v0 rfl rfl)
  obtain ⟨a0, len0, cap0, z0, e0, w0⟩ := leaf_recs (ts := [3, 3, 3]) 3 pastLay pastFit 12 (Try.underlying58) (by kernel_rfl) (by kernel_rfl) rfl past_dec (by obtain ⟨fuel, hf⟩ := h0; exact ⟨fuel, _, by simpa [Value.cells] using hf⟩)
  simp only [Value.slice.injEq] at e0
  obtain ⟨rfl, rfl, rfl⟩ := e0
  have R0 := cap_le (B := 24) Try.underlying58 k0 (fun elems spare hd => by have := sized_slice hsz (j := 0) (t := 58) (e := 64) (elems := elems) (spare := spare) rfl (by rw [← hd]; rfl) Try.underlying58; exact this)
  obtain ⟨sa1, sl1, sc1, rfl⟩ := okWide_slice Try.underlying59 (hval 1 59 v1 rfl rfl)
  obtain ⟨a1, len1, cap1, z1, e1, w1⟩ := leaf_ints (Try.underlying59) (Try.underlying5) (by kernel_rfl) (by obtain ⟨fuel, hf⟩ := h1; exact ⟨fuel, _, by simpa [Value.cells] using hf⟩)
  simp only [Value.slice.injEq] at e1
  obtain ⟨rfl, rfl, rfl⟩ := e1
  have R1 := cap_le (B := 1) Try.underlying59 k1 (fun elems spare hd => by have := sized_slice hsz (j := 1) (t := 59) (e := 5) (elems := elems) (spare := spare) rfl (by rw [← hd]; rfl) Try.underlying59; exact this)
  clear hA0 hval0
  refine (law sa0 sl0 sc0 z0 sa1 sl1 sc1 z1 W w0 R0 w1 R1).mono fun e W' ⟨he, bel⟩ => ?_
  subst he
  exact ⟨_, rfl, _, _, _, [], _, [], hW', trodAll_mk1 (shut_bool Try.underlying4 _), (trodAll_cons_mk (Below.trod laidOut (by kernel_rfl) (of_decide_eq_true (by kernel_rfl)) k0 bel lt0) (trodAll_cons_mk (Below.trod laidOut (by kernel_rfl) (of_decide_eq_true (by kernel_rfl)) k1 bel lt1) trodAll_mk0)), rfl, bel.frame _, fun h => by cases h⟩
theorem over : Rows.pastStepsRow.holds Try.pinned (OpenSpec.ofChange Rows.pastStepsSpec) :=
  OpenClaim.holds_of_wide 10 Try.f10 rfl rfl rfl rfl rfl rfl rfl ⟨rfl, rfl, rfl, rfl, rfl⟩ rfl rfl rfl rfl rfl (by kernel_rfl) Try.func10 (by kernel_rfl)
    (of_decide_eq_true (by kernel_rfl)) (by unfold Func.isWrapper; first | (rw [if_pos (by decide +kernel)]; kernel_rfl) | (rw [if_neg (by decide +kernel)]; exact ⟨rfl, rfl⟩))
    (fun os started H enc _ => lifted os started H enc)
theorem proved : Rows.PastStepsSaid := over
#print axioms proved

end Go.Proofs.Ytindfoknbfmmbaa.pastSteps
