/- What past.Step and past.Run compute. -/
import Derived.Test.YtglagndpholejaaPast
import Derived.Laws.AppendOwn
namespace Go.Proofs.Ytglagndpholejaa
open Go.ChangeShapes Go.WideShapes Go.ChangeAt Go.RowKit
set_option linter.unusedVariables false

/-- what is told, and the values, behind k signs -/
def rTo (xs : List PastR) (ss : List Int) : Nat → List Bool × List Bool
  | 0 => ([], [])
  | k + 1 => ((rTo xs ss k).1 ++ [(pTo xs (rTo xs ss k).2 (ss.getD k 0) xs.length).getD (xs.length - 1) false], pTo xs (rTo xs ss k).2 (ss.getD k 0) xs.length)
def pastRun (xs : List PastR) (ss : List Int) : List Bool := (rTo xs ss ss.length).1
theorem rTo_len (xs : List PastR) (ss : List Int) (k : Nat) : (rTo xs ss k).1.length = k := by
  induction k with
  | zero => rfl
  | succ k ih => simp [rTo, ih]
theorem rTo_was (xs : List PastR) (ss : List Int) (k : Nat) : (rTo xs ss k).2 = [] ∨ (rTo xs ss k).2.length = xs.length := by
  cases k with
  | zero => exact .inl rfl
  | succ k => exact .inr (pTo_len _ _ _ _)
def RRel (xs : List PastR) (ss : List Int) (T : TypeId) (w : World) (o wv i : Value) (wr : World) : Prop :=
  ∃ k : Nat, k ≤ ss.length ∧ i = .int .i64 k ∧ wr.ownsRow w.heap.size T 1 o k ((rTo xs ss k).1.map .bool) ∧
    wr.ownsRow w.heap.size T 1 wv (rTo xs ss k).2.length ((rTo xs ss k).2.map .bool) ∧ Below w.heap.size w wr
def PRPost (xs : List PastR) (ss : List Int) (T : TypeId) (w : World) (e : Ending) (w' : World) : Prop :=
  ∃ v, e = .returned (.tuple #[v, .int .i64 0]) ∧ w'.ownsRow w.heap.size T 1 v ss.length ((pastRun xs ss).map .bool) ∧ Below w.heap.size w w'
theorem own_bd {w : World} {base : Nat} {e : TypeId} {size : Nat} {v : Value} {n : Nat} {xs : List Value} (h : w.ownsRow base e size v n xs) (hn : 0 < n) : ∃ g cap, v = .slice (some ⟨g, 0, none⟩) n cap ∧ base ≤ g ∧ g < w.heap.size := by
  rcases h.2 with ⟨-, h0⟩ | ⟨g, cap, cur, rfl, hb, hblk, -⟩
  · omega
  · exact ⟨g, cap, rfl, hb, (Array.getElem?_eq_some_iff.1 hblk).1⟩
theorem own_base {w : World} {base base' : Nat} {e : TypeId} {size : Nat} {v : Value} {n : Nat} {xs : List Value} (h : w.ownsRow base e size v n xs) (hb : base' ≤ base) : w.ownsRow base' e size v n xs := by
  obtain ⟨h0, h1 | ⟨g, cap, cur, e1, e2, e3⟩⟩ := h
  · exact ⟨h0, .inl h1⟩
  · exact ⟨h0, .inr ⟨g, cap, cur, e1, by omega, e3⟩⟩
set_option maxHeartbeats 4000000 in
theorem pastRun_yes (xs : List PastR) (ss : List Int) (v u : Value) (w : World) (hok : PastOk xs) (hv : RecsAt 3 pastLay w v xs) (hu : IntsAt .u8 w u ss) (hs : ∀ j, 0 ≤ ss.getD j 0 ∧ ss.getD j 0 ≤ 255) (hl : ss.length ≤ 140737488351232) :
    Calls Try.prog 34 #[v, u] w (PRPost xs ss 4 w) := by
  obtain ⟨a, cap, rfl⟩ := hv.len
  obtain ⟨a2, cap2, rfl⟩ := hu.len
  obtain ⟨m, hm⟩ : ∃ m, xs.length = m + 1 := ⟨xs.length - 1, by have := hok.1; omega⟩
  have hm20 : m < 20 := by have := hok.2.1; omega
  have HOK := Lib.hid hok; have HU := Lib.hid hu; have HS := Lib.hid hs; have HM := Lib.hid hm
  rw [hm] at hv ⊢
  have HV := Lib.hid hv
  obtain ⟨i0, hi, hz0, hz1, hz2⟩ := info_parts infoB
  clear hok hv hu hs hm
  go_enter Try.func34, Try.ntmps34
  go_wp2_with fail
  refine (pastCheck_any xs _ _ HV.out (by rw [HM.out]; omega)).mono ?_
  rintro e w1 ⟨he, -, hb⟩
  obtain rfl := he HOK.out
  clear he
  go_wp2
  go_loopw [7, 8, 18] (fun o wv i wr => RRel xs ss 4 w o wv i wr) (fun _ _ i _ => ss.length - (intOf i).toNat)
  case atStart => exact ⟨0, Nat.zero_le _, rfl, World.ownsRow_nil _ _ _ _, World.ownsRow_nil _ _ _ _, hb⟩
  case round =>
    clear hb
    obtain ⟨k, hk, rfl, ho, hw, hB⟩ := hrel
    have HO := Lib.hid ho; have HW := Lib.hid hw
    have zB := hB.size
    clear ho hw
    by_cases hlt : k < ss.length
    · rcases HU.out with ⟨h0, -⟩ | ⟨-, b, off, cap', hv', hl1, hl2, hc⟩
      · rw [h0] at hlt; simp at hlt
      cases hv'
      have c0 := cell_later hB (hc k hlt)
      have sb := HS.out k
      obtain ⟨s, hs⟩ : ∃ s, ss.getD k 0 = s := ⟨_, rfl⟩
      rw [hs] at c0 sb
      have HSK := Lib.hid hs
      clear hs hc
      go_wp2_with fail
      refine (pastStep_any xs (rTo xs ss k).2 s _ _ _ HOK.out (by have := HV.out; exact this.later pastLay_len hB (Nat.le_refl _)) (own_bools' HW.out) (rTo_was _ _ _) sb).mono ?_
      rintro e w2 ⟨v2, rfl, hown, hb2⟩
      have hst : rTo xs ss (k + 1) = ((rTo xs ss k).1 ++ [(pTo xs (rTo xs ss k).2 s xs.length).getD m false], pTo xs (rTo xs ss k).2 s xs.length) := by
        simp only [rTo, HSK.out]
        rw [HM.out]; rfl
      have HST := Lib.hid hst
      rw [HM.out] at hown
      obtain ⟨g, capg, rfl, hg1, hg2⟩ := own_bd hown (by omega)
      have cl := hown.cellAt m (by omega)
      obtain ⟨lv, hlv⟩ : ∃ lv, (pTo xs (rTo xs ss k).2 s (m + 1)).getD m false = lv := ⟨_, rfl⟩
      have hcl : w2.cell? ⟨g, m, none⟩ = some (.bool lv) := by
        rw [cl, List.getElem?_map, List.getElem?_eq_getElem (by rw [pTo_len]; omega)]
        rw [List.getD_eq_getElem?_getD, List.getElem?_eq_getElem (by rw [pTo_len]; omega)] at hlv
        simpa using hlv
      have HLV := Lib.hid hlv
      have HOWN := Lib.hid hown
      have OW := Lib.hid (own_later HO.out hb2 (Nat.le_refl _))
      have zb := hb2.size
      have B2 : Below w.heap.size w w2 := hB.trans (hb2.mono (by omega))
      have HNE : Hid (∀ j, u7.ownBlock = some j → j < wr.heap.size) := fun j hj => (HO.out.lt j hj).2
      clear hst hown cl hlv hb2 hB
      go_wp2_with (at_builtin; refine wpList_append_own _ rfl _ _ 57 rfl w.heap.size 4 i0 (.bool false) 1 1 Try.underlying57 hi hz0 hz1 hz2 rfl (by decide) _ _ _ rfl (OW.out.alloc _) ⟨w2.heap.size, 0, none⟩ 1 1 [.bool lv] rfl rfl ?c1 ?c2 ?c3 ?c4 ?c5 ?_)
      case c1 =>
        intro j u hj
        match j, hj with
        | 0, hj => simp at hj; subst hj; go_simp
      case c2 => intro u hu; simp at hu; subst hu; rfl
      case c3 => unfold maxLen; omega
      case c4 => omega
      case c5 => simp; omega
      · intro v' w3 hown' hgrow _
        have BG := (Below.refl w.heap.size _).grown hgrow (by simp; omega) (fun j hj => (OW.out.lt j hj).1)
        have B3 : Below w.heap.size w w3 := Below.trans (B2.alloc (by omega) _) BG
        have HO' := Lib.hid hown'
        have HW' : Hid (w3.ownsRow w.heap.size 4 1 (.slice (some ⟨g, 0, none⟩) (m + 1) capg) (m + 1) ((pTo xs (rTo xs ss k).2 s xs.length).map .bool)) := by
          rw [HM.out]
          refine ((own_base HOWN.out zB).alloc _).kept hgrow ?_
          right
          intro e
          have := HNE.out g e.symm
          omega
        clear hown' hgrow BG
        go_wp2
        go_roundw
        case rel =>
          refine ⟨k + 1, by omega, by go_num, ?_, ?_, B3⟩
          · rw [HST.out, HM.out, HLV.out, List.map_append]; exact HO'.out
          · rw [HST.out, pTo_len, HM.out]; rw [HM.out] at HW'; exact HW'.out
        case measure => simp [intOf]; omega
    · obtain rfl : k = ss.length := by omega
      go_wp2
      go_ret2
      exact ⟨_, rfl, HO.out, hB⟩
theorem pastRun_no (xs : List PastR) (v u : Value) (w : World) (hok : ¬ PastOk xs) (hv : RecsAt 3 pastLay w v xs) (hx : xs.length ≤ 9223372036854775807) :
    Calls Try.prog 34 #[v, u] w fun e w' => e = .returned (.tuple #[.slice none 0 0, .int .i64 (pastE xs)]) ∧ Below w.heap.size w w' := by
  obtain ⟨a, cap, rfl⟩ := hv.len
  have HOK := Lib.hid hok; have HV := Lib.hid hv
  clear hok hv
  go_enter Try.func34, Try.ntmps34
  go_wp2_with fail
  refine (pastCheck_any xs _ _ HV.out hx).mono ?_
  rintro e w1 ⟨-, he, hb⟩
  obtain rfl := he HOK.out
  have hne : (pastE xs != 0) = true := by rw [bne_iff_ne]; exact pastE_ne xs
  clear he
  go_wp2
  go_ret2
  exact ⟨rfl, hb⟩

def PtPost (xs : List PastR) (was : List Bool) (s : Int) (T : TypeId) (w : World) (e : Ending) (w' : World) : Prop :=
  ∃ v, e = .returned (.tuple #[v, .bool ((pTo xs was s xs.length).getD (xs.length - 1) false), .int .i64 0]) ∧ w'.ownsRow w.heap.size T 1 v xs.length ((pTo xs was s xs.length).map .bool) ∧ Below w.heap.size w w'
set_option maxHeartbeats 4000000 in
theorem pastTold_yes (xs : List PastR) (was : List Bool) (s : Int) (v u : Value) (w : World) (hok : PastOk xs) (hv : RecsAt 3 pastLay w v xs) (hu : BoolsAt w u was) (hw : was = [] ∨ was.length = xs.length) (hs : 0 ≤ s ∧ s ≤ 255) :
    Calls Try.prog 33 #[v, u, .int .u8 s] w (PtPost xs was s 4 w) := by
  obtain ⟨a, cap, rfl⟩ := hv.len
  obtain ⟨a2, cap2, rfl⟩ := hu.len
  obtain ⟨m, hm⟩ : ∃ m, xs.length = m + 1 := ⟨xs.length - 1, by have := hok.1; omega⟩
  have hm20 : m < 20 := by have := hok.2.1; omega
  have HOK := Lib.hid hok; have HU := Lib.hid hu; have HM := Lib.hid hm
  have tw : ((was.length : Int) != 0) = false ∨ (((was.length : Int) != 0) = true ∧ (((was.length : Int) != ((m + 1 : Nat) : Int)) = false)) := by
    rcases hw with h | h
    · left; rw [h]; rfl
    · right; rw [h, hm]; simp; omega
  have HW := Lib.hid hw
  rw [hm] at hv ⊢
  have HV := Lib.hid hv
  clear hok hv hu hm hw
  rcases tw with t1 | ⟨t1, t2⟩
  all_goals
    go_enter Try.func33, Try.ntmps33
    go_wp2_with fail
    refine (pastCheck_any xs _ _ HV.out (by rw [HM.out]; omega)).mono ?_
    rintro e w1 ⟨he, -, hb⟩
    obtain rfl := he HOK.out
    clear he
    go_wp2_with fail
    refine (pastStep_any xs was s _ _ _ HOK.out (by have := HV.out; exact this.later pastLay_len hb (Nat.le_refl _)) (HU.out.later hb (Nat.le_refl _)) HW.out hs).mono ?_
    rintro e w2 ⟨v2, rfl, hown, hb2⟩
    rw [HM.out] at hown
    obtain ⟨g, capg, rfl, hg1, hg2⟩ := own_bd hown (by omega)
    have cl := hown.cellAt m (by omega)
    obtain ⟨lv, hlv⟩ : ∃ lv, (pTo xs was s (m + 1)).getD m false = lv := ⟨_, rfl⟩
    have hcl : w2.cell? ⟨g, m, none⟩ = some (.bool lv) := by
      rw [cl, List.getElem?_map, List.getElem?_eq_getElem (by rw [pTo_len]; omega)]
      rw [List.getD_eq_getElem?_getD, List.getElem?_eq_getElem (by rw [pTo_len]; omega)] at hlv
      simpa using hlv
    have HLV := Lib.hid hlv
    have HOWN := Lib.hid (own_base hown hb.size)
    have B2 := hb.trans (hb2.mono hb.size)
    clear hown cl hlv hb hb2 t1
    go_wp2
    go_quiet (fail)
    go_wp2
    go_ret3
    refine ⟨.slice (some ⟨g, 0, none⟩) (m + 1) capg, ?_, ?_, ?_⟩
    · rw [HM.out, Nat.add_sub_cancel, HLV.out]; rfl
    · rw [HM.out]; exact HOWN.out
    · exact below_drewN B2 _
theorem pastTold_no (xs : List PastR) (s : Int) (v u : Value) (w : World) (hok : ¬ PastOk xs) (hv : RecsAt 3 pastLay w v xs) (hx : xs.length ≤ 9223372036854775807) :
    Calls Try.prog 33 #[v, u, .int .u8 s] w fun e w' => e = .returned (.tuple #[.slice none 0 0, .bool false, .int .i64 (pastE xs)]) ∧ Below w.heap.size w w' := by
  obtain ⟨a, cap, rfl⟩ := hv.len
  have HOK := Lib.hid hok; have HV := Lib.hid hv
  clear hok hv
  go_enter Try.func33, Try.ntmps33
  go_wp2_with fail
  refine (pastCheck_any xs _ _ HV.out hx).mono ?_
  rintro e w1 ⟨-, he, hb⟩
  obtain rfl := he HOK.out
  have hne : (pastE xs != 0) = true := by rw [bne_iff_ne]; exact pastE_ne xs
  clear he
  go_wp2
  go_ret3
  exact ⟨rfl, hb⟩
theorem pastTold_off (xs : List PastR) (n cap2 : Nat) (a2 : Option Addr) (s : Int) (v : Value) (w : World) (hok : PastOk xs) (hv : RecsAt 3 pastLay w v xs) (hn : n ≠ 0) (hw : n ≠ xs.length) :
    Calls Try.prog 33 #[v, .slice a2 n cap2, .int .u8 s] w fun e w' => e = .returned (.tuple #[.slice none 0 0, .bool false, .int .i64 1]) ∧ Below w.heap.size w w' := by
  obtain ⟨a, cap, rfl⟩ := hv.len
  have HOK := Lib.hid hok; have HV := Lib.hid hv
  have hl := hok.2.1
  have t1 : ((n : Int) != 0) = true := by rw [bne_iff_ne]; omega
  have t2 : ((n : Int) != (xs.length : Int)) = true := by rw [bne_iff_ne]; omega
  clear hok hv hn hw
  go_enter Try.func33, Try.ntmps33
  go_wp2_with fail
  refine (pastCheck_any xs _ _ HV.out (by omega)).mono ?_
  rintro e w1 ⟨he, -, hb⟩
  obtain rfl := he HOK.out
  clear he
  go_wp2
  go_ret3
  exact ⟨rfl, hb⟩

end Go.Proofs.Ytglagndpholejaa
