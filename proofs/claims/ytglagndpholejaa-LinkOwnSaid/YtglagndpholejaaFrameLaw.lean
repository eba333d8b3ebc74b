/- Frames: what is packed is read as it was; what is read is packed as just those bytes. Plain lists and numbers. -/
import Derived.Test.YtglagndpholejaaFrameRead
namespace Go.Proofs.Ytglagndpholejaa
open Go.ChangeShapes Go.WideShapes Go.ChangeAt Go.RowKit
set_option linter.unusedVariables false

def kindI (s : ByteArray) : Int := (byteI s 0 : Int) / 16
def laneI (s : ByteArray) : Int := (byteI s 0 : Int) % 16
def ReadOk (s : ByteArray) : Prop := Fit s ∧ s.size = 5 + 4 * byteI s 2 ∧ frameChk (kindI s) (laneI s) (byteI s 2) = 0
def ReadErr (s : ByteArray) (c : Int) : Prop := ReadBad s c ∨ (Fit s ∧ s.size = 5 + 4 * byteI s 2 ∧ frameChk (kindI s) (laneI s) (byteI s 2) = c ∧ c ≠ 0)
theorem ReadErr.ne {s : ByteArray} {c : Int} (h : ReadErr s c) : c ≠ 0 := by
  rcases h with h | ⟨-, -, -, h⟩
  · rcases h with ⟨rfl, -⟩ | ⟨rfl, -⟩ | ⟨rfl, -⟩ | ⟨rfl, -⟩ | ⟨rfl, -⟩ <;> decide
  · exact h
theorem read_cases (s : ByteArray) : ReadOk s ∨ ∃ c, ReadErr s c := by
  by_cases h1 : 4095 < s.size
  · exact .inr ⟨2, .inl (.inl ⟨rfl, h1⟩)⟩
  by_cases h2 : s.size < 2
  · exact .inr ⟨3, .inl (.inr (.inl ⟨rfl, h2⟩))⟩
  by_cases h3 : sumFits s
  · have hf : Fit s := ⟨by omega, by omega, h3⟩
    by_cases h4 : s.size < 5
    · exact .inr ⟨3, .inl (.inr (.inr (.inr (.inl ⟨rfl, hf, h4⟩))))⟩
    by_cases h5 : s.size = 5 + 4 * byteI s 2
    · by_cases h6 : frameChk (kindI s) (laneI s) (byteI s 2) = 0
      · exact .inl ⟨hf, h5, h6⟩
      · exact .inr ⟨_, .inr ⟨hf, h5, rfl, h6⟩⟩
    · exact .inr ⟨4, .inl (.inr (.inr (.inr (.inr ⟨rfl, hf, by omega, h5⟩))))⟩
  · exact .inr ⟨5, .inl (.inr (.inr (.inl ⟨rfl, by omega, by omega, h3⟩)))⟩
theorem frame_err (s : ByteArray) (hm : s.size ≤ 140737488351232) (c : Int) (h : ReadErr s c) (w : World) :
    Calls Try.prog 63 #[.string s] w fun e w' => e = .returned (.tuple #[frameV 0 0 0 (.slice none 0 0), .int .i64 c]) ∧ Below w.heap.size w w' := by
  rcases h with h | ⟨h1, h2, h3, h4⟩
  · exact read_bad s hm c h w
  · refine (read_form s h1 _ h2 rfl w c h3).mono ?_
    rintro e w' (⟨-, he, hb⟩ | ⟨h0, -⟩)
    · exact ⟨he, hb⟩
    · exact absurd h0 h4
theorem frame_ok (s : ByteArray) (h : ReadOk s) (w : World) :
    Calls Try.prog 63 #[.string s] w fun e w' => ∃ v, e = .returned (.tuple #[frameV (kindI s) (laneI s) (byteI s 1) v, .int .i64 0]) ∧ w'.ownsRow w.heap.size 21 1 v (wordsI s (byteI s 2)).length ((wordsI s (byteI s 2)).map (.int .i32)) ∧ Below w.heap.size w w' := by
  obtain ⟨h1, h2, h3⟩ := h
  refine (read_form s h1 _ h2 rfl w 0 h3).mono ?_
  rintro e w' (⟨h0, -⟩ | ⟨-, h⟩)
  · exact absurd rfl h0
  · exact h
theorem chk_ok {k l : Int} {n : Nat} (h : frameChk k l n = 0) : (k = 1 ∨ k = 2) ∧ (0 ≤ l ∧ l < 4) ∧ n ≤ 8 := by
  unfold frameChk at h
  split at h
  · omega
  · split at h <;> omega
theorem strN_toNat (bs : List Int) : strN (bs.map Int.toNat) = strOfNums bs := by
  unfold strN strOfNums
  rw [List.map_map, List.map_map]
  congr 2
theorem flat_get (ws : List Int) (i r : Nat) (hi : i < ws.length) (hr : r < 4) : (ws.flatMap wordB).getD (4 * i + r) 0 = (wordB (ws.getD i 0)).getD r 0 := by
  induction ws generalizing i with
  | nil => simp at hi
  | cons x ws ih =>
    rw [List.flatMap_cons, List.getD_eq_getElem?_getD, List.getD_eq_getElem?_getD]
    cases i with
    | zero =>
      rw [List.getElem?_append_left (by simp [wordB]; omega)]
      simp
    | succ i =>
      have := ih i (by simpa using hi)
      rw [List.getD_eq_getElem?_getD, List.getD_eq_getElem?_getD] at this
      rw [List.getElem?_append_right (by simp [wordB]; omega)]
      have e : 4 * (i + 1) + r - (wordB x).length = 4 * i + r := by simp [wordB]; omega
      rw [e, this]
      simp
theorem packB_get (k l q : Int) (n : Nat) (ws : List Int) (i r : Nat) (hi : i < ws.length) (hr : r < 4) : (packB k l q n ws).getD (3 + 4 * i + r) 0 = (wordB (ws.getD i 0)).getD r 0 := by
  rw [← flat_get ws i r hi hr]
  unfold packB
  rw [List.getD_eq_getElem?_getD, List.getD_eq_getElem?_getD, List.getElem?_append_right (by simp; omega)]
  congr 2
  simp; omega
theorem packB_lt (k l q : Int) (n : Nat) (ws : List Int) (hk : k = 1 ∨ k = 2) (hl : 0 ≤ l ∧ l < 4) (hq : 0 ≤ q ∧ q ≤ 255) (hn : n ≤ 8) : ∀ b ∈ packB k l q n ws, 0 ≤ b ∧ b < 256 := by
  intro b hb
  unfold packB at hb
  rcases List.mem_append.1 hb with hb | hb
  · simp at hb; omega
  · obtain ⟨x, -, hx⟩ := List.mem_flatMap.1 hb
    simp [wordB] at hx
    omega
theorem getW_word (x : Int) (hx : -2147483648 ≤ x ∧ x ≤ 2147483647) : getW (x % 4294967296 / 16777216) (x % 4294967296 / 65536 % 256) (x % 4294967296 / 256 % 256) (x % 256) = x := by
  unfold getW
  split <;> omega
theorem word_getW (a b c d : Nat) (ha : a < 256) (hb : b < 256) (hc : c < 256) (hd : d < 256) : wordB (getW a b c d) = [(a : Int), (b : Int), (c : Int), (d : Int)] := by
  have key : ∀ x : Int, (x = (a : Int) * 16777216 + b * 65536 + c * 256 + d ∨ x = (a : Int) * 16777216 + b * 65536 + c * 256 + d - 4294967296) → wordB x = [(a : Int), (b : Int), (c : Int), (d : Int)] := by
    intro x hx
    unfold wordB
    have e1 : x % 4294967296 / 16777216 = a := by omega
    have e2 : x % 4294967296 / 65536 % 256 = b := by omega
    have e3 : x % 4294967296 / 256 % 256 = c := by omega
    have e4 : x % 256 = d := by omega
    rw [e1, e2, e3, e4]
  refine key _ ?_
  unfold getW
  split
  · exact .inl rfl
  · exact .inr rfl
theorem getW_bd (a b c d : Nat) (ha : a < 256) (hb : b < 256) (hc : c < 256) (hd : d < 256) : -2147483648 ≤ getW a b c d ∧ getW a b c d ≤ 2147483647 := by
  unfold getW
  split <;> omega
theorem byteI_pack (k l q : Int) (ws : List Int) (hk : k = 1 ∨ k = 2) (hl : 0 ≤ l ∧ l < 4) (hq : 0 ≤ q ∧ q ≤ 255) (hn : ws.length ≤ 8) (i : Nat) (hi : i < 3 + 4 * ws.length) : (byteI (packS k l q ws) i : Int) = (packB k l q ws.length ws).getD i 0 := by
  unfold byteI packS
  rw [bytesN_put, ← strN_toNat, bytesN_strN _ (by
    intro x hx
    obtain ⟨b, hb, rfl⟩ := List.mem_map.1 hx
    have := packB_lt k l q ws.length ws hk hl hq hn b hb
    omega)]
  have hl2 : i < (packB k l q ws.length ws).length := by rw [packB_len]; exact hi
  rw [List.getD_eq_getElem?_getD, List.getElem?_append_left (by simpa using hl2), List.getElem?_map, List.getD_eq_getElem?_getD, List.getElem?_eq_getElem hl2]
  simp only [Option.map_some, Option.getD_some]
  have := packB_lt k l q ws.length ws hk hl hq hn _ (List.getElem_mem hl2)
  omega
theorem pack_size (k l q : Int) (ws : List Int) : (packS k l q ws).size = 5 + 4 * ws.length := by
  unfold packS
  rw [put_size, strOfNums_size, packB_len]; omega
/-- a frame is read as it was packed -/
theorem pack_read (k l q : Int) (ws : List Int) (hk : k = 1 ∨ k = 2) (hl : 0 ≤ l ∧ l < 4) (hq : 0 ≤ q ∧ q ≤ 255) (hn : ws.length ≤ 8) (hws : ∀ x ∈ ws, -2147483648 ≤ x ∧ x ≤ 2147483647) :
    ReadOk (packS k l q ws) ∧ kindI (packS k l q ws) = k ∧ laneI (packS k l q ws) = l ∧ (byteI (packS k l q ws) 1 : Int) = q ∧ wordsI (packS k l q ws) (byteI (packS k l q ws) 2) = ws := by
  have g := fun i hi => byteI_pack k l q ws hk hl hq hn i hi
  have g0 : (byteI (packS k l q ws) 0 : Int) = k * 16 + l := g 0 (by omega)
  have g1 : (byteI (packS k l q ws) 1 : Int) = q := g 1 (by omega)
  have g2 : (byteI (packS k l q ws) 2 : Int) = ws.length := g 2 (by omega)
  have g2' : byteI (packS k l q ws) 2 = ws.length := by omega
  have hk2 : kindI (packS k l q ws) = k := by unfold kindI; rw [g0]; omega
  have hl2 : laneI (packS k l q ws) = l := by unfold laneI; rw [g0]; omega
  have hsz := pack_size k l q ws
  refine ⟨⟨⟨by omega, by omega, good_put _⟩, by rw [hsz, g2'], by rw [hk2, hl2, g2']; unfold frameChk; rw [if_neg (by omega), if_neg (by omega)]⟩, hk2, hl2, g1, ?_⟩
  rw [g2']
  refine List.ext_getElem? fun i => ?_
  unfold wordsI
  rw [List.getElem?_map]
  by_cases hi : i < ws.length
  · rw [List.getElem?_range hi, List.getElem?_eq_getElem hi]
    simp only [Option.map_some, Option.some.injEq]
    have p := fun r hr => (g (3 + 4 * i + r) (by omega)).trans (packB_get k l q ws.length ws i r hi hr)
    have p0 := p 0 (by omega); have p1 := p 1 (by omega); have p2 := p 2 (by omega); have p3 := p 3 (by omega)
    have e : ws.getD i 0 = ws[i] := by rw [List.getD_eq_getElem?_getD, List.getElem?_eq_getElem hi]; rfl
    rw [e] at p0 p1 p2 p3
    unfold wordI
    rw [show byteI (packS k l q ws) (3 + 4 * i) = byteI (packS k l q ws) (3 + 4 * i + 0) from rfl, p0, p1, p2, p3]
    exact getW_word _ (hws _ (List.getElem_mem hi))
  · rw [List.getElem?_eq_none (by simp; omega), List.getElem?_eq_none (by omega)]; rfl
theorem put_of_fits (s : ByteArray) (h2 : 2 ≤ s.size) (h : sumFits s) : putS (s.extract 0 (s.size - 2)) = s := by
  rw [← strN_bytesN (putS _), bytesN_put, bytesN_extract]
  obtain ⟨h3, h4⟩ := h
  conv => rhs; rw [← strN_bytesN s]
  congr 1
  have hl := bytesN_length s
  rw [bytesN_extract] at h3 h4
  refine List.ext_getElem? fun i => ?_
  by_cases hi : i < s.size - 2
  · rw [List.getElem?_append_left (by simp; omega), List.getElem?_take, if_pos hi]
  · rw [List.getElem?_append_right (by simp; omega)]
    simp only [List.length_take, hl]
    rw [show min (s.size - 2) s.size = s.size - 2 by omega]
    rw [List.getD_eq_getElem?_getD] at h3 h4
    by_cases h5 : i = s.size - 2
    · subst h5
      rw [List.getElem?_eq_getElem (show s.size - 2 < (bytesN s).length by omega)] at h3 ⊢
      simp only [Nat.sub_self, List.getElem?_cons_zero, Option.some.injEq]
      simp only [Option.getD_some] at h3
      omega
    · by_cases h6 : i = s.size - 1
      · subst h6
        rw [List.getElem?_eq_getElem (show s.size - 1 < (bytesN s).length by omega)] at h4 ⊢
        rw [show s.size - 1 - (s.size - 2) = 1 by omega]
        simp only [List.getElem?_cons_succ, List.getElem?_cons_zero, Option.some.injEq]
        simp only [Option.getD_some] at h4
        omega
      · rw [List.getElem?_eq_none (by simp; omega), List.getElem?_eq_none (by omega)]
theorem wordsI_bd (s : ByteArray) (n : Nat) : ∀ x ∈ wordsI s n, -2147483648 ≤ x ∧ x ≤ 2147483647 := by
  intro x hx
  obtain ⟨i, -, rfl⟩ := List.mem_map.1 hx
  exact getW_bd _ _ _ _ (byteI_lt _ _) (byteI_lt _ _) (byteI_lt _ _) (byteI_lt _ _)
/-- what is read is packed as just those bytes -/
theorem read_pack (s : ByteArray) (h : ReadOk s) : packS (kindI s) (laneI s) (byteI s 1) (wordsI s (byteI s 2)) = s := by
  obtain ⟨⟨h2, h3, h4⟩, h5, h6⟩ := h
  obtain ⟨hk, hl, hn⟩ := chk_ok h6
  have b1 := byteI_lt s 1
  unfold packS
  rw [wordsI_len]
  have key : strOfNums (packB (kindI s) (laneI s) (byteI s 1) (byteI s 2) (wordsI s (byteI s 2))) = s.extract 0 (s.size - 2) := by
    rw [← strN_toNat, ← strN_bytesN (s.extract 0 (s.size - 2)), bytesN_extract]
    congr 1
    have hl1 := packB_len (kindI s) (laneI s) (byteI s 1) (byteI s 2) (wordsI s (byteI s 2))
    rw [wordsI_len] at hl1
    have hl2 := bytesN_length s
    refine List.ext_getElem? fun i => ?_
    by_cases hi : i < 3 + 4 * byteI s 2
    · rw [List.getElem?_map, List.getElem?_eq_getElem (by omega), List.getElem?_take, if_pos (by omega), List.getElem?_eq_getElem (by omega)]
      simp only [Option.map_some, Option.some.injEq]
      have e1 : (bytesN s)[i]'(by omega) = byteI s i := by unfold byteI; rw [List.getD_eq_getElem?_getD, List.getElem?_eq_getElem (by omega)]; rfl
      have e2 : (packB (kindI s) (laneI s) (byteI s 1) (byteI s 2) (wordsI s (byteI s 2)))[i]'(by omega) = (packB (kindI s) (laneI s) (byteI s 1) (byteI s 2) (wordsI s (byteI s 2))).getD i 0 := by rw [List.getD_eq_getElem?_getD, List.getElem?_eq_getElem (by omega)]; rfl
      rw [e1, e2]
      have e3 : (packB (kindI s) (laneI s) (byteI s 1) (byteI s 2) (wordsI s (byteI s 2))).getD i 0 = (byteI s i : Int) := by
        by_cases h7 : i < 3
        · rcases (by omega : i = 0 ∨ i = 1 ∨ i = 2) with rfl | rfl | rfl
          · show kindI s * 16 + laneI s = _; unfold kindI laneI; omega
          · rfl
          · rfl
        · obtain ⟨j, r, hr, rfl⟩ : ∃ j r, r < 4 ∧ i = 3 + 4 * j + r := ⟨(i - 3) / 4, (i - 3) % 4, by omega, by omega⟩
          rw [packB_get _ _ _ _ _ j r (by rw [wordsI_len]; omega) hr]
          have e4 : (wordsI s (byteI s 2)).getD j 0 = wordI s j := by
            unfold wordsI
            rw [List.getD_eq_getElem?_getD, List.getElem?_map, List.getElem?_range (by omega), Option.map_some, Option.getD_some]
          rw [e4]
          unfold wordI
          rw [word_getW _ _ _ _ (byteI_lt _ _) (byteI_lt _ _) (byteI_lt _ _) (byteI_lt _ _)]
          generalize byteI s = f
          rcases (by omega : r = 0 ∨ r = 1 ∨ r = 2 ∨ r = 3) with rfl | rfl | rfl | rfl <;> simp
      rw [e3]
      omega
    · rw [List.getElem?_eq_none (by simp; omega), List.getElem?_eq_none (by simp; omega)]
  rw [key]
  exact put_of_fits s h2 h4

end Go.Proofs.Ytglagndpholejaa
