/- cuts.least and cuts.both: what they compute, over the contract of the sort. -/
import Derived.Test.YtiocgmioijcjhaaCutsIdx
import Derived.Test.YtiocgmioijcjhaaGateDual2
namespace Go.Proofs.Ytiocgmioijcjhaa
open Go.ChangeShapes Go.WideShapes Go.ChangeAt Go.RowKit
set_option linter.unusedVariables false

abbrev TU : TypeId := 23
/-- a list of sets in a row of the call's own -/
def OwnU (w : World) (base : Nat) (v : Value) (xs : List Nat) : Prop := w.ownsRow base TU 1 v (u16s xs).length ((u16s xs).map (.int .u16))
theorem OwnU.ints {w : World} {base : Nat} {v : Value} {xs : List Nat} (h : OwnU w base v xs) : IntsAt .u16 w v (u16s xs) := own_ints' h
theorem OwnU.later {w w' : World} {base B : Nat} {v : Value} {xs : List Nat} (h : OwnU w base v xs) (hb : Below B w w') (hB : w.heap.size ≤ B) : OwnU w' base v xs := own_later h hb hB
theorem OwnU.base {w : World} {base base' : Nat} {v : Value} {xs : List Nat} (h : OwnU w base v xs) (hb : base' ≤ base) : OwnU w base' v xs := own_base h hb
theorem OwnU.nil (w : World) (base : Nat) : OwnU w base (.slice none 0 0) [] := World.ownsRow_nil _ _ _ _
theorem OwnU.more {w : World} {base : Nat} {v : Value} {xs : List Nat} {c : Nat} (h : w.ownsRow base TU 1 v ((u16s xs).length + 1) ((u16s xs).map (.int .u16) ++ [.int .u16 (c : Int)])) : OwnU w base v (xs ++ [c]) := by
  unfold OwnU u16s
  simpa [u16s] using h
/-- the contract of the sort -/
def SortIs : Prop := ∀ (xs : List Nat) (v : Value) (w : World) (base : Nat), (∀ x ∈ xs, x < 65536) → OwnU w base v xs → xs.length < 4611686018427387904 →
  Calls Try.prog 43 #[v, .func (.func 44) #[] #[]] w fun e w' => e = .returned (.tuple #[]) ∧ OwnU w' base v (sortN xs) ∧ Below base w w'
theorem infoU16 : (Try.prog.info? 23).map (fun i => (i.zero, i.size, i.bytes)) = some (some (.int .u16 0), 1, 2) := by kernel_rfl
def LeastRel (S : List Nat) (w1 : World) (kept i : Value) (wr : World) : Prop :=
  ∃ k : Nat, k ≤ S.length ∧ i = .int .i64 k ∧ OwnU wr w1.heap.size kept ((S.take k).foldl keep1 []) ∧ Below w1.heap.size w1 wr
set_option maxHeartbeats 8000000 in
set_option maxRecDepth 100000 in
theorem least_is (hS : SortIs) (xs : List Nat) (v : Value) (w : World) (base : Nat) (hx : ∀ x ∈ xs, x < 65536) (hv : OwnU w base v xs) (hb : base ≤ w.heap.size) (hl : xs.length ≤ 1000000) :
    Calls Try.prog 42 #[v] w fun e w' => (∃ v', e = .returned v' ∧ OwnU w' w.heap.size v' (leastL xs)) ∧ Below base w w' := by
  obtain ⟨i0, hi, hz0, hz1, hz2⟩ := info_parts infoU16
  have hS1' := hS xs v w base hx hv (by omega)
  have hx2 : ∀ x ∈ sortN xs, x < 65536 := fun x h => hx x ((sort_perm xs).mem_iff.1 h)
  have hl2 : (sortN xs).length ≤ 1000000 := by rw [(sort_perm xs).length_eq]; exact hl
  have hle : leastL xs = ((sortN xs).take (sortN xs).length).foldl keep1 [] := by rw [List.take_length]; rfl
  rw [hle]
  clear hx hv hle hl hS
  generalize sortN xs = S at *
  have HX := Lib.hid hx2
  have hS1 := Lib.hid hS1'
  clear hx2 hS1'
  go_enter Try.func42, Try.ntmps42
  go_wp2_with fail
  refine hS1.out.mono ?_
  rintro e w1 ⟨rfl, ho1, hb1⟩
  have z1 := hb1.size
  have B1 := Lib.hid hb1
  obtain ⟨a, cap, hva⟩ := ho1.ints.len
  rw [u16s_len] at hva
  subst hva
  have HV := Lib.hid ho1.ints
  clear ho1 hb1 hS1
  go_wp2_with fail
  go_loopw [3, 10] (fun kept i wr => LeastRel S w1 kept i wr) (fun _ i _ => S.length - (intOf i).toNat)
  case atStart => exact ⟨0, Nat.zero_le _, rfl, OwnU.nil _ _, Below.refl _ _⟩
  case round =>
    obtain ⟨k, hk, rfl, ho, hB⟩ := hrel
    have HB := Lib.hid hB; have HO := Lib.hid ho
    have zB := hB.size
    obtain ⟨L, hL⟩ : ∃ L, (S.take k).foldl keep1 [] = L := ⟨_, rfl⟩
    have hLl : L.length ≤ 1000000 := by
      rw [← hL]
      have := (keep_sub (S.take k) []).length_le
      simp at this; omega
    rw [hL] at HO
    by_cases hlt : k < S.length
    · obtain ⟨x, hxk⟩ : ∃ x, S[k]? = some x := ⟨_, List.getElem?_eq_getElem hlt⟩
      have hx6 : x < 65536 := HX.out x (List.mem_of_getElem? hxk)
      obtain ⟨b, off, cap', hv', hl1, hcell⟩ := ints_at (HV.out.later hB (Nat.le_refl _)) (u16s_at hxk)
      rw [u16s_len] at hl1 hv'
      cases hv'
      have e5 : (k : Int) < (S.length : Int) := by omega
      have e6 : k + 1 ≤ cap := by omega
      have hst : (S.take (k + 1)).foldl keep1 [] = keep1 L x := by
        rw [List.take_add_one, hxk, List.foldl_append, hL]; rfl
      have HST := Lib.hid hst
      have hL6 : ∀ y ∈ L, y < 65536 := fun y hy => HX.out y (List.mem_of_mem_take ((by simpa using (keep_sub (S.take k) []).subset (by rw [hL]; exact hy) : y ∈ S.take k)))
      have HL6 := Lib.hid hL6
      clear hB ho hxk hst hL hL6
      go_wp2_with fail
      refine (hasLeast_is L x wr.heap.size _ _ ((HO.out.later ((Below.refl wr.heap.size wr).alloc (Nat.le_refl _) _) (Nat.le_refl _)).ints) hx6 HL6.out (by go_simp) (by omega)).mono ?_
      rintro e w5 ⟨rfl, hb5⟩
      have hb5' := ((Below.refl wr.heap.size wr).alloc (Nat.le_refl _) (.cells #[.int .u16 (x : Int)] TU)).trans (hb5.mono (by simp))
      have PC : Hid (w5.cell? ⟨wr.heap.size, 0, none⟩ = some (.int .u16 (x : Int))) := (hb5.cell (p := ⟨wr.heap.size, 0, none⟩) (by simp)).trans (by go_simp)
      have O5 := Lib.hid (HO.out.later hb5' (Nat.le_refl _))
      have B5 := Lib.hid (HB.out.trans (hb5'.mono zB))
      clear hb5 hb5' hcell
      have hk1 : keep1 L x = if anyIn x L then L else L ++ [x] := rfl
      cases hr : anyIn x L
      · rw [hr, if_neg (by simp)] at hk1
        have HK := Lib.hid hk1
        clear hr hk1
        have z5 := B5.out.size
        have hUl := u16s_len L
        have O6 := Lib.hid (O5.out.later ((Below.refl w5.heap.size w5).alloc (Nat.le_refl _) (.cells #[.int .u16 (x : Int)] TU)) (Nat.le_refl _))
        have hsz1 : w1.heap.size ≤ (w5.alloc (.cells #[.int .u16 (x : Int)] TU)).heap.size := by simp; omega
        have pc := PC.out
        have pz := World.block_lt_of_cell? _ _ pc
        go_wp2_with (at_builtin; refine wpList_append_own _ rfl _ _ 37 rfl w1.heap.size TU i0 (.int .u16 0) 1 2 Try.underlying37 hi hz0 hz1 hz2 rfl (by decide) _ _ _ rfl O6.out ⟨w5.heap.size, 0, none⟩ 1 1 [.int .u16 (x : Int)] rfl rfl (by intro j u h; cases j <;> simp at h; subst h; first | (simp [Addr.add]; done) | (simp [Addr.add]; go_simp)) (by simp [Value.oneCell']) (by unfold maxLen; omega) (by omega) hsz1 ?_; intro v' w6 hown' hgrow _)
        have HP : Hid (OwnU w6 w1.heap.size v' (L ++ [x])) := OwnU.more hown'
        have BG : Below w1.heap.size w5 w6 := ((Below.refl _ _).alloc z5 _).grown hgrow hsz1 (fun j e => (O6.out.lt j e).1)
        have HBG := Lib.hid (B5.out.trans BG)
        clear hown' hgrow BG hUl pc pz
        go_roundw
        case rel => exact ⟨k + 1, by omega, by go_num, by rw [HST.out, HK.out]; exact HP.out, HBG.out⟩
        case measure => simp [intOf]; omega
      · rw [hr, if_pos rfl] at hk1
        have HK := Lib.hid hk1
        clear hr hk1
        go_wp2
        go_roundw
        case rel => exact ⟨k + 1, by omega, by go_num, by rw [HST.out, HK.out]; exact O5.out, B5.out⟩
        case measure => simp [intOf]; omega
    · obtain rfl : k = S.length := by omega
      clear hB ho
      go_wp2
      go_ret
      exact ⟨⟨_, rfl, by rw [hL]; exact HO.out.base z1⟩, B1.out.trans (HB.out.mono (by omega))⟩

end Go.Proofs.Ytiocgmioijcjhaa
