/- AgreeSame: whoever of the four lies, and whatever it says, the law answers true and leaves memory as it was. -/
import Derived.Test.YtijoalaijkobpaaAgreeMid
import Derived.Test.YtijoalaijkobpaaSat
import Derived.Laws.StructEq
namespace Go.Proofs.Ytijoalaijkobpaa.agreeSame
open Go.ChangeShapes Go.WideShapes Go.ChangeAt Go.RowKit Go.Proofs.Ytijoalaijkobpaa Go.Proofs.Ytijoalaijkobpaa.Open
set_option linter.unusedVariables false
theorem saidF_none (V S : List Int) (i j : Nat) : saidF V (-1) S i j = V.getD i 0 := if_neg (fun h => by have := h.1; omega)
theorem toldF_none (V S T : List Int) (i j k : Nat) : toldF V (-1) S T i j k = V.getD i 0 := by
  unfold toldF; rw [if_neg (by omega), saidF_none]
def plainT (V : List Int) : List Int := (List.range 80).map fun m => if m < 16 then V.getD (m / 4) 0 else V.getD ((m - 16) / 16) 0
theorem talk_none (V S T : List Int) : talkTo V (-1) S T 80 = plainT V := by
  unfold talkTo plainT
  refine List.map_congr_left fun m hm => ?_
  rw [if_pos (List.mem_range.1 hm)]
  unfold talkAt
  split
  · exact saidF_none _ _ _ _
  · exact toldF_none _ _ _ _ _ _
theorem rest5 (n : Int) : 0 ≤ restI n 5 ∧ restI n 5 < 5 := restI_bd n 5 (by omega)
theorem CellsAt.row (w : World) (b c : Nat) (vs : List Value) (h : CellsAt w b vs) (e : b ≠ c) (cs : Array Value) : CellsAt (w.setRow c cs) b vs :=
  ⟨fun j v hj => by rw [cell_setRow_other _ _ _ _ e]; exact h.1 j v hj, fun o => by have := h.2.1 o; unfold World.frozen? at this ⊢; rw [setRow_other _ _ _ _ e]; exact this, by simpa [World.setRow] using h.2.2⟩
/-- what stands behind the calls of talk -/
structure St (w0 w : World) (V S T : List Int) : Prop where
  v : CellsAt w w0.heap.size (i32s V)
  s : CellsAt w (w0.heap.size + 1) (i32s S)
  t : CellsAt w (w0.heap.size + 1 + 1) (i32s T)
  b : Below w0.heap.size w0 w
theorem St.call {w0 w w' : World} {V S T : List Int} (h : St w0 w V S T) (hb : Below w.heap.size w w') : St w0 w' V S T := ⟨h.v.call hb, h.s.call hb, h.t.call hb, h.b.trans (hb.mono h.b.size)⟩
theorem St.alloc {w0 w : World} {V S T : List Int} (h : St w0 w V S T) (o : Obj) : St w0 (w.alloc o) V S T := h.call ((Below.refl _ _).alloc (Nat.le_refl _) o)
theorem St.row {w0 w : World} {V S T : List Int} (h : St w0 w V S T) {c : Nat} (hc : w0.heap.size + 1 + 1 < c) (cs : Array Value) : St w0 (w.setRow c cs) V S T :=
  ⟨CellsAt.row _ _ _ _ h.v (by omega) cs, CellsAt.row _ _ _ _ h.s (by omega) cs, CellsAt.row _ _ _ _ h.t (by omega) cs, below_setRow h.b (by omega) cs⟩
theorem St.set_ {w0 w : World} {V S T : List Int} (h : St w0 w V S T) {c : Nat} (hc : w0.heap.size + 1 + 1 < c) (n : Nat) (u : Value) : St w0 (w.setCell ⟨c, n, none⟩ u) V S T :=
  ⟨h.v.other (by omega) n u, h.s.other (by omega) n u, h.t.other (by omega) n u, h.b.setCell (p := ⟨c, n, none⟩) (by simp; omega) u⟩
/-- what stands in the loop -/
structure Sm (w0 w : World) (b : Nat) (V L : List Int) : Prop where
  v : CellsAt w w0.heap.size (i32s V)
  r : w.heap[b]? = some (.cells (i32s L).toArray 26 (0, 0))
  bl : Below w0.heap.size w0 w
  z : b < w.heap.size
theorem Sm.call {w0 w w' : World} {b : Nat} {V L : List Int} (h : Sm w0 w b V L) (hb : Below w.heap.size w w') : Sm w0 w' b V L :=
  ⟨h.v.call hb, (hb.block _ h.z).trans h.r, h.bl.trans (hb.mono h.bl.size), Nat.lt_of_lt_of_le h.z hb.size⟩
theorem Sm.alloc {w0 w : World} {b : Nat} {V L : List Int} (h : Sm w0 w b V L) (o : Obj) : Sm w0 (w.alloc o) b V L := h.call ((Below.refl _ _).alloc (Nat.le_refl _) o)
theorem Sm.drew {w0 w : World} {b : Nat} {V L : List Int} (h : Sm w0 w b V L) : Sm w0 w.drew b V L := ⟨h.v.drew, h.r, h.bl.drew, h.z⟩
def SRel (w0 : World) (b : Nat) (V L : List Int) (q : Int) (f x : Value) (w : World) : Prop := ∃ (k : Nat) (F : Int), k ≤ 4 ∧ f = .int .i64 F ∧ x = .int .i64 k ∧ (F = -1 ∨ ∃ f0 : Nat, F = f0 ∧ f0 < 4 ∧ (f0 : Int) ≠ q) ∧ Sm w0 w b V L
theorem one_cells (L : List Int) : (i32s L).toArray.all (·.oneCell') = true := by
  rw [List.all_toArray, List.all_eq_true]
  intro x hx
  obtain ⟨y, _, rfl⟩ := List.mem_map.1 hx
  rfl
theorem maj3 (a b c : Int) : majV [a, b, c] = if a = b then a else if a = c then a else if b = c then b else 0 := by
  by_cases h1 : a = b
  · subst h1
    by_cases h2 : a = c
    · subst h2; simp [majV, cnt, bm, bmS]
    · have h3 : ¬ c = a := fun e => h2 e.symm
      simp [majV, cnt, bm, bmS, h3]
  · have h1' : ¬ b = a := fun e => h1 e.symm
    by_cases h2 : a = c
    · subst h2; simp [majV, cnt, bm, bmS, h1, h1']
    · have h2' : ¬ c = a := fun e => h2 e.symm
      by_cases h3 : b = c
      · subst h3; simp [majV, cnt, bm, bmS, h1, h1']
      · have h3' : ¬ c = b := fun e => h3 e.symm
        simp [majV, cnt, bm, bmS, h1, h1', h2, h3]
theorem mjA (x y z : Int) : (if x = y then x else if x = z then x else if y = z then y else 0) = (if y = x then y else if y = z then y else if x = z then x else 0) := by (repeat' split) <;> omega
theorem mjB (x y z : Int) : (if x = y then x else if x = z then x else if y = z then y else 0) = (if x = z then x else if x = y then x else if z = y then z else 0) := by (repeat' split) <;> omega
theorem majA (x y z : Int) : majV [x, y, z] = majV [y, x, z] := by rw [maj3, maj3]; exact mjA x y z
theorem majB (x y z : Int) : majV [x, y, z] = majV [x, z, y] := by rw [maj3, maj3]; exact mjB x y z
theorem sd (V S T : List Int) (q : Int) (i j : Nat) (hi : i < 4) (hj : j < 4) : (talkTo V q S T 80).getD (i * 4 + j) 0 = saidF V q S i j := by
  rw [List.getD_eq_getElem?_getD, talkTo_at _ _ _ _ _ _ (by omega) (by omega), Option.getD_some, said_at _ _ _ _ _ _ hi hj]
theorem td (V S T : List Int) (q : Int) (i j k : Nat) (hi : i < 4) (hj : j < 4) (hk : k < 4) : (talkTo V q S T 80).getD (16 + i * 16 + j * 4 + k) 0 = toldF V q S T i j k := by
  rw [List.getD_eq_getElem?_getD, talkTo_at _ _ _ _ _ _ (by omega) (by omega), Option.getD_some, show 16 + i * 16 + j * 4 + k = 16 + (i * 16 + j * 4 + k) by omega, told_at _ _ _ _ _ _ _ hi hj hk]
theorem votes3 (L : List Int) (i k : Nat) (hi : i < 4) (hk : k < 4) (h : i ≠ k) : ∃ a b : Nat, a < 4 ∧ b < 4 ∧ a ≠ b ∧ a ≠ i ∧ a ≠ k ∧ b ≠ i ∧ b ≠ k ∧
    votesTo L i k 4 = [L.getD (i * 4 + k) 0, L.getD (16 + i * 16 + a * 4 + k) 0, L.getD (16 + i * 16 + b * 4 + k) 0] := by
  rcases (by omega : i = 0 ∨ i = 1 ∨ i = 2 ∨ i = 3) with rfl | rfl | rfl | rfl <;> rcases (by omega : k = 0 ∨ k = 1 ∨ k = 2 ∨ k = 3) with rfl | rfl | rfl | rfl
  all_goals first
    | (exfalso; exact h rfl)
    | exact ⟨2, 3, by omega, by omega, by omega, by omega, by omega, by omega, by omega, rfl⟩
    | exact ⟨1, 3, by omega, by omega, by omega, by omega, by omega, by omega, by omega, rfl⟩
    | exact ⟨1, 2, by omega, by omega, by omega, by omega, by omega, by omega, by omega, rfl⟩
    | exact ⟨0, 3, by omega, by omega, by omega, by omega, by omega, by omega, by omega, rfl⟩
    | exact ⟨0, 2, by omega, by omega, by omega, by omega, by omega, by omega, by omega, rfl⟩
    | exact ⟨0, 1, by omega, by omega, by omega, by omega, by omega, by omega, by omega, rfl⟩
/-- of a lane that does not lie all know the number -/
theorem view_true (V S T : List Int) (q : Int) (k i : Nat) (hk : k < 4) (hi : i < 4) (h2 : (i : Int) ≠ q) : viewF (talkTo V q S T 80) k i = V.getD i 0 := by
  have hs : ∀ j, saidF V q S i j = V.getD i 0 := fun j => if_neg (fun x => h2 x.1)
  unfold viewF
  by_cases e : i = k
  · rw [if_pos e, sd _ _ _ _ _ _ hi hi, hs]
  · rw [if_neg e]
    obtain ⟨a, b, ha, hb, hab, -, -, -, -, hv⟩ := votes3 (talkTo V q S T 80) i k hi hk e
    rw [hv, sd _ _ _ _ _ _ hi hk, td _ _ _ _ _ _ _ hi ha hk, td _ _ _ _ _ _ _ hi hb hk, hs, maj3]
    by_cases a1 : (a : Int) = q
    · have b1 : (b : Int) ≠ q := by omega
      have : toldF V q S T i b k = V.getD i 0 := by rw [toldF, if_neg b1, hs]
      rw [this]
      split
      · rfl
      · rw [if_pos rfl]
    · have : toldF V q S T i a k = V.getD i 0 := by rw [toldF, if_neg a1, hs]
      rw [this, if_pos rfl]
theorem pick4 : ∀ k a b i x : Fin 4, k ≠ a → k ≠ b → a ≠ b → i ≠ k → i ≠ a → i ≠ b → x ≠ i → x = k ∨ x = a ∨ x = b := by decide +kernel
theorem pickN (k a b i x : Nat) (hk : k < 4) (ha : a < 4) (hb : b < 4) (hi : i < 4) (hx : x < 4) (h1 : k ≠ a) (h2 : k ≠ b) (h3 : a ≠ b) (h4 : i ≠ k) (h5 : i ≠ a) (h6 : i ≠ b) (h7 : x ≠ i) : x = k ∨ x = a ∨ x = b := by
  have h := pick4 ⟨k, hk⟩ ⟨a, ha⟩ ⟨b, hb⟩ ⟨i, hi⟩ ⟨x, hx⟩
  simp only [ne_eq, Fin.mk.injEq] at h
  exact h h1 h2 h3 h4 h5 h6 h7
/-- of the one that lies all others know the same -/
theorem view_same (V S T : List Int) (q : Int) (k k' i : Nat) (hk : k < 4) (hk' : k' < 4) (hi : i < 4) (h1 : (k : Int) ≠ q) (h1' : (k' : Int) ≠ q) (h2 : (i : Int) = q) : viewF (talkTo V q S T 80) k i = viewF (talkTo V q S T 80) k' i := by
  have one : ∀ k : Nat, k < 4 → (k : Int) ≠ q → ∃ a b : Nat, a < 4 ∧ b < 4 ∧ a ≠ b ∧ a ≠ i ∧ a ≠ k ∧ b ≠ i ∧ b ≠ k ∧ viewF (talkTo V q S T 80) k i = majV [S.getD k 0, S.getD a 0, S.getD b 0] := by
    intro k hk h1
    have e : i ≠ k := fun e => by subst e; exact h1 h2
    obtain ⟨a, b, ha, hb, hab, a1, a2, b1, b2, hv⟩ := votes3 (talkTo V q S T 80) i k hi hk e
    refine ⟨a, b, ha, hb, hab, a1, a2, b1, b2, ?_⟩
    unfold viewF
    rw [if_neg e, hv, sd _ _ _ _ _ _ hi hk, td _ _ _ _ _ _ _ hi ha hk, td _ _ _ _ _ _ _ hi hb hk, saidF, if_pos ⟨h2, fun x => e x.symm⟩, toldF, if_neg (by omega), toldF, if_neg (by omega), saidF, if_pos ⟨h2, a1⟩, saidF, if_pos ⟨h2, b1⟩]
  obtain ⟨a, b, ha, hb, hab, a1, a2, b1, b2, hv⟩ := one k hk h1
  obtain ⟨a', b', ha', hb', hab', a1', a2', b1', b2', hv'⟩ := one k' hk' h1'
  rw [hv, hv']
  have e1 : i ≠ k := by omega
  have e2 : k' ≠ i := by omega
  have P := fun x hx hxi => pickN k a b i x hk ha hb hi hx a2.symm b2.symm hab e1 a1.symm b1.symm hxi
  rcases P k' hk' e2 with r1 | r1 | r1 <;> rcases P a' ha' a1' with r2 | r2 | r2 <;> rcases P b' hb' b1' with r3 | r3 | r3 <;> first
    | exact absurd (r2.trans r3.symm) hab'
    | exact absurd (r2.trans r1.symm) a2'
    | exact absurd (r3.trans r1.symm) b2'
    | (rw [r1, r2, r3]; first | done | exact majB _ _ _ | exact majA _ _ _ | exact (majA _ _ _).trans (majB _ _ _) | exact (majB _ _ _).trans (majA _ _ _) | exact ((majA _ _ _).trans (majB _ _ _)).trans (majA _ _ _))
theorem views (V S T : List Int) (q : Int) (hq : -1 ≤ q ∧ q ≤ 3) : ∃ c0 c1 c2 c3 : Int, (∀ k : Nat, k < 4 → (k : Int) ≠ q → viewF (talkTo V q S T 80) k 0 = c0 ∧ viewF (talkTo V q S T 80) k 1 = c1 ∧ viewF (talkTo V q S T 80) k 2 = c2 ∧ viewF (talkTo V q S T 80) k 3 = c3) ∧
    ∀ i : Nat, i < 4 → (i : Int) ≠ q → ([c0, c1, c2, c3] : List Int).getD i 0 = V.getD i 0 := by
  obtain ⟨m, hm, hmq⟩ : ∃ m : Nat, m < 4 ∧ (m : Int) ≠ q := by
    by_cases h : (0 : Int) = q
    · exact ⟨1, by omega, by omega⟩
    · exact ⟨0, by omega, by omega⟩
  refine ⟨viewF (talkTo V q S T 80) m 0, viewF (talkTo V q S T 80) m 1, viewF (talkTo V q S T 80) m 2, viewF (talkTo V q S T 80) m 3, fun k hk hkq => ?_, fun i hi hiq => ?_⟩
  · have all : ∀ i : Nat, i < 4 → viewF (talkTo V q S T 80) k i = viewF (talkTo V q S T 80) m i := by
      intro i hi
      by_cases e : (i : Int) = q
      · exact view_same V S T q k m i hk hm hi hkq hmq e
      · rw [view_true V S T q k i hk hi e, view_true V S T q m i hm hi e]
    exact ⟨all 0 (by omega), all 1 (by omega), all 2 (by omega), all 3 (by omega)⟩
  · have := view_true V S T q m i hm hi hiq
    rcases (by omega : i = 0 ∨ i = 1 ∨ i = 2 ∨ i = 3) with rfl | rfl | rfl | rfl <;> exact this
def Bd (x : Int) : Prop := -2147483648 ≤ x ∧ x ≤ 2147483647
theorem talk_bd (V S T : List Int) (q : Int) (hV : ∀ i, Bd (V.getD i 0)) (hS : ∀ i, Bd (S.getD i 0)) (hT : ∀ i, Bd (T.getD i 0)) (n : Nat) : Bd ((talkTo V q S T 80).getD n 0) := by
  by_cases hn : n < 80
  · rw [List.getD_eq_getElem?_getD, talkTo_at _ _ _ _ _ _ hn hn, Option.getD_some]
    unfold talkAt
    have s : ∀ i j, Bd (saidF V q S i j) := fun i j => by unfold saidF; split; exact hS _; exact hV _
    split
    · exact s _ _
    · unfold toldF; split; exact hT _; exact s _ _
  · rw [List.getD_eq_getElem?_getD, List.getElem?_eq_none (by rw [talkTo_len]; omega)]
    exact ⟨by decide, by decide⟩
theorem bd_cons (a : Int) (L : List Int) (ha : Bd a) (h : ∀ i, Bd (L.getD i 0)) (i : Nat) : Bd ((a :: L).getD i 0) := by
  cases i with
  | zero => exact ha
  | succ i => exact h i
theorem bd_nil (i : Nat) : Bd (([] : List Int).getD i 0) := by simp [Bd]
theorem bd4 (a b c d : Int) (ha : Bd a) (hb : Bd b) (hc : Bd c) (hd : Bd d) (i : Nat) : Bd (([a, b, c, d] : List Int).getD i 0) := bd_cons _ _ ha (bd_cons _ _ hb (bd_cons _ _ hc (bd_cons _ _ hd bd_nil))) i
theorem eqA (a b c d : Int) (w : World) : (Op.equalIn 10000 22 (.agg #[.int .i32 a, .int .i32 b, .int .i32 c, .int .i32 d]) (.agg #[.int .i32 a, .int .i32 b, .int .i32 c, .int .i32 d])).run Try.prog w = .ok true w := by
  have u3 := Try.underlying21
  have a3 := Try.isAgg21
  have z3 := Try.sizeOf21
  rw [show (10000 : Nat) = 9999 + 1 from rfl, Op.equalIn]
  simp only [Sem.run_bind, run_underlying Try.underlying22, Result.andThen_ok]
  simp only [Std.Legacy.Range.forIn_eq_forIn_range', Std.Legacy.Range.size, Nat.sub_zero, Nat.add_sub_cancel, Nat.div_one, List.range'_succ, List.range'_zero, List.forIn_cons, List.forIn_nil]
  go_simp
theorem plain_len : (plainT [1, 2, 3, 4]).length = 80 := by decide +kernel
theorem plain_bd (n : Nat) : Bd ((plainT [1, 2, 3, 4]).getD n 0) := by
  have h : ∀ x ∈ plainT [1, 2, 3, 4], -2147483648 ≤ x ∧ x ≤ 2147483647 := by decide +kernel
  exact all_getD h n
theorem plain_view : viewF (plainT [1, 2, 3, 4]) 2 0 = 1 ∧ viewF (plainT [1, 2, 3, 4]) 2 1 = 2 ∧ viewF (plainT [1, 2, 3, 4]) 2 2 = 3 ∧ viewF (plainT [1, 2, 3, 4]) 2 3 = 4 := by decide +kernel
theorem view_plain (w : World) : Calls Try.prog 26 #[.agg (i32s (plainT [1, 2, 3, 4])).toArray, .int .i64 2] w fun e w' => e = .returned (.tuple #[.agg #[.int .i32 1, .int .i32 2, .int .i32 3, .int .i32 4], .int .i64 0]) ∧ Below w.heap.size w w' := by
  have h := view_is (plainT [1, 2, 3, 4]) 2 plain_len plain_bd (by omega) w
  rw [plain_view.1, plain_view.2.1, plain_view.2.2.1, plain_view.2.2.2] at h
  exact h
set_option maxHeartbeats 8000000 in
set_option maxRecDepth 100000 in
theorem law (v0 v1 v2 v3 n s0 s1 s2 s3 t0 t1 t2 t3 t4 t5 t6 t7 t8 t9 t10 t11 t12 t13 t14 t15 : Int) (w : World) (hv0 : -2147483648 ≤ v0 ∧ v0 ≤ 2147483647) (hv1 : -2147483648 ≤ v1 ∧ v1 ≤ 2147483647) (hv2 : -2147483648 ≤ v2 ∧ v2 ≤ 2147483647) (hv3 : -2147483648 ≤ v3 ∧ v3 ≤ 2147483647) (hn : -9223372036854775808 ≤ n ∧ n ≤ 9223372036854775807) (hs0 : -2147483648 ≤ s0 ∧ s0 ≤ 2147483647) (hs1 : -2147483648 ≤ s1 ∧ s1 ≤ 2147483647) (hs2 : -2147483648 ≤ s2 ∧ s2 ≤ 2147483647) (hs3 : -2147483648 ≤ s3 ∧ s3 ≤ 2147483647) (ht0 : -2147483648 ≤ t0 ∧ t0 ≤ 2147483647) (ht1 : -2147483648 ≤ t1 ∧ t1 ≤ 2147483647) (ht2 : -2147483648 ≤ t2 ∧ t2 ≤ 2147483647) (ht3 : -2147483648 ≤ t3 ∧ t3 ≤ 2147483647) (ht4 : -2147483648 ≤ t4 ∧ t4 ≤ 2147483647) (ht5 : -2147483648 ≤ t5 ∧ t5 ≤ 2147483647) (ht6 : -2147483648 ≤ t6 ∧ t6 ≤ 2147483647) (ht7 : -2147483648 ≤ t7 ∧ t7 ≤ 2147483647) (ht8 : -2147483648 ≤ t8 ∧ t8 ≤ 2147483647) (ht9 : -2147483648 ≤ t9 ∧ t9 ≤ 2147483647) (ht10 : -2147483648 ≤ t10 ∧ t10 ≤ 2147483647) (ht11 : -2147483648 ≤ t11 ∧ t11 ≤ 2147483647) (ht12 : -2147483648 ≤ t12 ∧ t12 ≤ 2147483647) (ht13 : -2147483648 ≤ t13 ∧ t13 ≤ 2147483647) (ht14 : -2147483648 ≤ t14 ∧ t14 ≤ 2147483647) (ht15 : -2147483648 ≤ t15 ∧ t15 ≤ 2147483647) :
    Calls Try.prog 9 #[.agg #[.int .i32 v0, .int .i32 v1, .int .i32 v2, .int .i32 v3], .int .i64 n, .agg #[.int .i32 s0, .int .i32 s1, .int .i32 s2, .int .i32 s3], .agg #[.int .i32 t0, .int .i32 t1, .int .i32 t2, .int .i32 t3, .int .i32 t4, .int .i32 t5, .int .i32 t6, .int .i32 t7, .int .i32 t8, .int .i32 t9, .int .i32 t10, .int .i32 t11, .int .i32 t12, .int .i32 t13, .int .i32 t14, .int .i32 t15]] w fun e w' => e = .returned (.bool true) ∧ Below w.heap.size w w' := by
  have hz := zTalk_run
  have hinfo : (Try.prog.info? 26).map (·.size) = some 80 := by kernel_rfl
  have HBD := Lib.hid (fun q : Int => talk_bd [v0, v1, v2, v3] [s0, s1, s2, s3] [t0, t1, t2, t3, t4, t5, t6, t7, t8, t9, t10, t11, t12, t13, t14, t15] q (bd4 _ _ _ _ hv0 hv1 hv2 hv3) (bd4 _ _ _ _ hs0 hs1 hs2 hs3) (bd_cons _ _ ht0 (bd_cons _ _ ht1 (bd_cons _ _ ht2 (bd_cons _ _ ht3 (bd_cons _ _ ht4 (bd_cons _ _ ht5 (bd_cons _ _ ht6 (bd_cons _ _ ht7 (bd_cons _ _ ht8 (bd_cons _ _ ht9 (bd_cons _ _ ht10 (bd_cons _ _ ht11 (bd_cons _ _ ht12 (bd_cons _ _ ht13 (bd_cons _ _ ht14 (bd_cons _ _ ht15 (bd_nil))))))))))))))))))
  clear hv0 hs0 hv1 hs1 hv2 hs2 hv3 hs3 ht0 ht1 ht2 ht3 ht4 ht5 ht6 ht7 ht8 ht9 ht10 ht11 ht12 ht13 ht14 ht15
  have q1 : ∀ w : World, (Op.equalIn 10000 22 (.agg #[.int .i32 1, .int .i32 2, .int .i32 3, .int .i32 4]) (.agg #[.int .i32 1, .int .i32 2, .int .i32 3, .int .i32 4])).run Try.prog w = .ok true w := fun _ => by kernel_rfl
  go_enter Try.func9, Try.ntmps9
  go_wp2_with fail
  refine (talk_is 1 2 3 4 (-1) s0 s1 s2 s3 t0 t1 t2 t3 t4 t5 t6 t7 t8 t9 t10 t11 t12 t13 t14 t15 _).mono ?_
  rintro e1 w1 ⟨rfl, hb1⟩
  rw [talk_none]
  have zb1 := hb1.size
  simp at zb1
  have S1 : St w w1 [v0, v1, v2, v3] [s0, s1, s2, s3] [t0, t1, t2, t3, t4, t5, t6, t7, t8, t9, t10, t11, t12, t13, t14, t15] := ⟨CellsAt.call (((i32s_new w _ _ _ rfl).alloc _).alloc _) hb1, CellsAt.call ((CellsAt.new' (by simp) rfl).alloc _) hb1, CellsAt.call (CellsAt.new' (by simp) rfl) hb1, by repeat (first | with_reducible exact Below.refl _ _ | ((with_reducible refine Below.setCell ?_ ?_ _); rotate_left; (· first | (simp; done) | omega | (simp; omega))) | with_reducible refine below_drewN ?_ _ | with_reducible refine Below.drew ?_ | ((with_reducible refine Below.trans ?_ (Below.mono hb1 ?_)); rotate_left; (· first | (simp; done) | omega | (simp; omega))) | ((with_reducible refine Below.alloc ?_ ?_ _); rotate_left; (· first | (simp; done) | omega | (simp; omega))) | exact Below.refl _ _ | refine Below.setCell ?_ (by first | (simp; done) | omega | (simp; omega)) _ | refine below_drewN ?_ _ | refine Below.drew ?_ | refine Below.trans ?_ (Below.mono hb1 (by first | (simp; done) | omega | (simp; omega))) | refine Below.alloc ?_ (by first | (simp; done) | omega | (simp; omega)) _)⟩
  clear hb1
  go_wp2_with fail
  refine (view_plain _).mono ?_
  rintro e2 w2 ⟨rfl, hb2⟩
  have S2 := S1.call hb2
  have zb2 := hb2.size
  have RB := rest5 n
  clear hb2 S1
  go_wp2_with fail
  refine (rest_any _ _ (by omega) _).mono ?_
  rintro e3 w3 ⟨rfl, rfl⟩
  go_upto_region 5 with (fail)
  obtain ⟨q, hq⟩ : ∃ q, restI n 5 - 1 = q := ⟨_, rfl⟩
  have hq1 : -1 ≤ q ∧ q ≤ 3 := by omega
  rw [hq]
  generalize restI n 5 = r5 at *
  clear hq RB
  have S5 := S2.alloc (.cells #[.int .i32 1, .int .i32 2, .int .i32 3, .int .i32 4] 22)
  have z5 : (w2.alloc (.cells #[.int .i32 1, .int .i32 2, .int .i32 3, .int .i32 4] 22)).heap.size = w2.heap.size + 1 := by simp
  generalize w2.alloc (.cells #[.int .i32 1, .int .i32 2, .int .i32 3, .int .i32 4] 22) = w5 at *
  have ZZ : w.heap.size + 1 + 1 < w5.heap.size := by omega
  clear S2 zb1 zb2 z5
  have dv0 : w5.cell? ⟨w.heap.size, 0, none⟩ = some (.int .i32 v0) := S5.v.at_ 0 rfl
  have dv1 : w5.cell? ⟨w.heap.size, 1, none⟩ = some (.int .i32 v1) := S5.v.at_ 1 rfl
  have dv2 : w5.cell? ⟨w.heap.size, 2, none⟩ = some (.int .i32 v2) := S5.v.at_ 2 rfl
  have dv3 : w5.cell? ⟨w.heap.size, 3, none⟩ = some (.int .i32 v3) := S5.v.at_ 3 rfl
  have ds0 : w5.cell? ⟨w.heap.size + 1, 0, none⟩ = some (.int .i32 s0) := S5.s.at_ 0 rfl
  have ds1 : w5.cell? ⟨w.heap.size + 1, 1, none⟩ = some (.int .i32 s1) := S5.s.at_ 1 rfl
  have ds2 : w5.cell? ⟨w.heap.size + 1, 2, none⟩ = some (.int .i32 s2) := S5.s.at_ 2 rfl
  have ds3 : w5.cell? ⟨w.heap.size + 1, 3, none⟩ = some (.int .i32 s3) := S5.s.at_ 3 rfl
  have dt0 : w5.cell? ⟨w.heap.size + 1 + 1, 0, none⟩ = some (.int .i32 t0) := S5.t.at_ 0 rfl
  have dt1 : w5.cell? ⟨w.heap.size + 1 + 1, 1, none⟩ = some (.int .i32 t1) := S5.t.at_ 1 rfl
  have dt2 : w5.cell? ⟨w.heap.size + 1 + 1, 2, none⟩ = some (.int .i32 t2) := S5.t.at_ 2 rfl
  have dt3 : w5.cell? ⟨w.heap.size + 1 + 1, 3, none⟩ = some (.int .i32 t3) := S5.t.at_ 3 rfl
  have dt4 : w5.cell? ⟨w.heap.size + 1 + 1, 4, none⟩ = some (.int .i32 t4) := S5.t.at_ 4 rfl
  have dt5 : w5.cell? ⟨w.heap.size + 1 + 1, 5, none⟩ = some (.int .i32 t5) := S5.t.at_ 5 rfl
  have dt6 : w5.cell? ⟨w.heap.size + 1 + 1, 6, none⟩ = some (.int .i32 t6) := S5.t.at_ 6 rfl
  have dt7 : w5.cell? ⟨w.heap.size + 1 + 1, 7, none⟩ = some (.int .i32 t7) := S5.t.at_ 7 rfl
  have dt8 : w5.cell? ⟨w.heap.size + 1 + 1, 8, none⟩ = some (.int .i32 t8) := S5.t.at_ 8 rfl
  have dt9 : w5.cell? ⟨w.heap.size + 1 + 1, 9, none⟩ = some (.int .i32 t9) := S5.t.at_ 9 rfl
  have dt10 : w5.cell? ⟨w.heap.size + 1 + 1, 10, none⟩ = some (.int .i32 t10) := S5.t.at_ 10 rfl
  have dt11 : w5.cell? ⟨w.heap.size + 1 + 1, 11, none⟩ = some (.int .i32 t11) := S5.t.at_ 11 rfl
  have dt12 : w5.cell? ⟨w.heap.size + 1 + 1, 12, none⟩ = some (.int .i32 t12) := S5.t.at_ 12 rfl
  have dt13 : w5.cell? ⟨w.heap.size + 1 + 1, 13, none⟩ = some (.int .i32 t13) := S5.t.at_ 13 rfl
  have dt14 : w5.cell? ⟨w.heap.size + 1 + 1, 14, none⟩ = some (.int .i32 t14) := S5.t.at_ 14 rfl
  have dt15 : w5.cell? ⟨w.heap.size + 1 + 1, 15, none⟩ = some (.int .i32 t15) := S5.t.at_ 15 rfl
  go_wp2_with fail
  refine (talk_is v0 v1 v2 v3 q s0 s1 s2 s3 t0 t1 t2 t3 t4 t5 t6 t7 t8 t9 t10 t11 t12 t13 t14 t15 _).mono ?_
  rintro e6 w6 ⟨rfl, hb6⟩
  have S6 := S5.call hb6
  have zb6 := hb6.size
  clear dv0 ds0 dv1 ds1 dv2 ds2 dv3 ds3 dt0 dt1 dt2 dt3 dt4 dt5 dt6 dt7 dt8 dt9 dt10 dt11 dt12 dt13 dt14 dt15 hb6 S5
  obtain ⟨c0, c1, c2, c3, hview, htrue⟩ := views [v0, v1, v2, v3] [s0, s1, s2, s3] [t0, t1, t2, t3, t4, t5, t6, t7, t8, t9, t10, t11, t12, t13, t14, t15] q hq1
  have VIEW := Lib.hid hview
  have TRUE := Lib.hid htrue
  have LT := talkTo_len [v0, v1, v2, v3] q [s0, s1, s2, s3] [t0, t1, t2, t3, t4, t5, t6, t7, t8, t9, t10, t11, t12, t13, t14, t15] 80
  have LB := HBD.out q
  obtain ⟨L, hL⟩ : ∃ L, talkTo [v0, v1, v2, v3] q [s0, s1, s2, s3] [t0, t1, t2, t3, t4, t5, t6, t7, t8, t9, t10, t11, t12, t13, t14, t15] 80 = L := ⟨_, rfl⟩
  rw [hL] at VIEW LT LB
  rw [hL]
  have LS : (i32s L).toArray.size = 80 := by rw [List.size_toArray, i32s, List.length_map, LT]
  clear hL hview htrue
  have h6 : (w6.alloc (.cells zTalk 26)).heap[w6.heap.size]? = some (.cells zTalk 26 (0, 0)) := heap_alloc_new _ _
  go_upto_region 6 with (first | (refine wpList_store_row rfl 26 (.tmp 12) (.tmp 46) rfl (w6.heap.size) (i32s L).toArray (by simp [Act.eval]) (by simp [Act.eval]) 26 zTalk h6 (by rw [hinfo]; exact congrArg some LS.symm) (by rw [LS, zTalk_size]) (one_cells _) ?_; go_frame))
  have S7 := (S6.alloc (.cells zTalk 26)).row (c := w6.heap.size) (by omega) (i32s L).toArray
  have h7 := setRow_heap _ w6.heap.size zTalk (i32s L).toArray _ _ h6
  have z7 : w6.heap.size < ((w6.alloc (.cells zTalk 26)).setRow w6.heap.size (i32s L).toArray).heap.size := by simp [World.setRow]
  generalize (w6.alloc (.cells zTalk 26)).setRow w6.heap.size (i32s L).toArray = w7 at *
  have HS7 : Hid (Sm w w7 w6.heap.size [v0, v1, v2, v3] L) := (⟨S7.v, h7, S7.b, z7⟩ : Sm w w7 w6.heap.size [v0, v1, v2, v3] L)
  have zw : w.heap.size + 1 + 1 < w6.heap.size := by omega
  have hLT := Lib.hid LT; have hLB := Lib.hid LB
  clear h6 h7 S6 S7 LT LB HBD z7
  go_wp2
  go_loopw [13, 47] (fun f x wr => SRel w w6.heap.size [v0, v1, v2, v3] L q f x wr) (fun _ x _ => 4 - (intOf x).toNat)
  case atStart => exact ⟨0, -1, by omega, rfl, rfl, .inl rfl, HS7.out⟩
  case round =>
    obtain ⟨k, F, hk, rfl, rfl, hF, hS⟩ := hrel
    have HS := Lib.hid hS
    clear hS HS7
    by_cases hlt : k < 4
    · by_cases hkq : (k : Int) = q
      · have g1 : ((k : Int) == q) = true := by simpa using hkq
        have HF := Lib.hid hF
        clear hkq hF
        go_wp2
        go_round
        case rel => exact ⟨k + 1, F, by omega, rfl, by go_num, HF.out, HS.out⟩
        case measure => simp [intOf]; omega
      · have g1 : ((k : Int) == q) = false := by simpa using hkq
        have hr := HS.out.r
        obtain ⟨e0, e1, e2, e3⟩ := VIEW.out k hlt hkq
        go_wp2_with (first | (refine wpList_load_row rfl 26 (.tmp 12) rfl (w6.heap.size) (by simp [Act.eval]) 26 (i32s L).toArray (0, 0) _ hr Try.underlying26 rfl (by rw [hinfo]; exact congrArg some LS.symm) ?_; go_frame))
        refine (view_is L k hLT.out hLB.out hlt _).mono ?_
        rw [e0, e1, e2, e3]
        rintro e8 w8 ⟨rfl, hb8⟩
        have HS8 := Lib.hid (HS.out.call hb8)
        have zb8 := hb8.size
        clear hb8 HS hr
        go_upto_region 14 with (fail)
        have hc : ∀ i, i < 4 → (w8.alloc (.cells #[.int .i32 c0, .int .i32 c1, .int .i32 c2, .int .i32 c3] 22)).cell? ⟨w8.heap.size, i, none⟩ = some (.int .i32 (([c0, c1, c2, c3] : List Int).getD i 0)) := fun i hi => by
          rw [cell_of_row _ _ i _ _ _ (heap_alloc_new _ _)]
          rcases (by omega : i = 0 ∨ i = 1 ∨ i = 2 ∨ i = 3) with rfl | rfl | rfl | rfl <;> rfl
        have hx8 : CellsAt (w8.alloc (.cells #[.int .i32 c0, .int .i32 c1, .int .i32 c2, .int .i32 c3] 22)) w8.heap.size [.int .i32 c0, .int .i32 c1, .int .i32 c2, .int .i32 c3] := CellsAt.new w8 _ _ _ rfl
        have HS9 := Lib.hid (HS8.out.alloc (.cells #[.int .i32 c0, .int .i32 c1, .int .i32 c2, .int .i32 c3] 22))
        have HX9 := Lib.hid hx8
        have z89 : w6.heap.size < w8.heap.size := HS8.out.z
        generalize w8.alloc (.cells #[.int .i32 c0, .int .i32 c1, .int .i32 c2, .int .i32 c3] 22) = w9 at *
        clear HS8 hx8 hc
        go_wp2
        go_loopw [61] (fun x wx => ∃ i : Nat, i ≤ 4 ∧ x = .int .i64 i ∧ Sm w wx w6.heap.size [v0, v1, v2, v3] L ∧ CellsAt wx w8.heap.size [.int .i32 c0, .int .i32 c1, .int .i32 c2, .int .i32 c3]) (fun x _ => 4 - (intOf x).toNat)
        case atStart => exact ⟨0, by omega, rfl, HS9.out, HX9.out⟩
        case round =>
          obtain ⟨i, hi, rfl, hS, hX⟩ := hrel
          have HS := Lib.hid hS
          have HX := Lib.hid hX
          clear hS hX HS9 HX9
          by_cases hlt2 : i < 4
          · have hi1 : (i : Int) < 4 := by omega
            by_cases hiq : (i : Int) = q
            · have g2 : ((i : Int) != q) = false := by simpa using hiq
              clear hiq
              go_wp2
              go_region
              go_wp2
              go_round
              case rel => exact ⟨i + 1, by omega, by go_num, HS.out.drew, HX.out.drew⟩
              case measure => simp [intOf]; omega
            · have g2 : ((i : Int) != q) = true := by simpa using hiq
              have cx : wr.cell? ⟨w8.heap.size, i, none⟩ = some (.int .i32 (([c0, c1, c2, c3] : List Int).getD i 0)) := HX.out.at_ i (by rcases (by omega : i = 0 ∨ i = 1 ∨ i = 2 ∨ i = 3) with rfl | rfl | rfl | rfl <;> rfl)
              have cv : wr.cell? ⟨w.heap.size, i, none⟩ = some (.int .i32 (([v0, v1, v2, v3] : List Int).getD i 0)) := HS.out.v.at_ i (by rcases (by omega : i = 0 ∨ i = 1 ∨ i = 2 ∨ i = 3) with rfl | rfl | rfl | rfl <;> rfl)
              rw [TRUE.out i hlt2 hiq] at cx
              obtain ⟨y, hy⟩ : ∃ y, ([v0, v1, v2, v3] : List Int).getD i 0 = y := ⟨_, rfl⟩
              rw [hy] at cx cv
              clear hiq hy
              go_wp2
              go_region
              go_wp2
              go_round
              case rel => exact ⟨i + 1, by omega, by go_num, HS.out.drew, HX.out.drew⟩
              case measure => simp [intOf]; omega
          · obtain rfl : i = 4 := by omega
            rcases hF with rfl | ⟨f0, rfl, hf4, hfq⟩
            · have hf4 := hlt
              have hfq := hkq
              obtain ⟨p0, p1, p2, p3⟩ := VIEW.out k hf4 hfq
              have hmk : view4 L k = [c0, c1, c2, c3] := by simp only [view4]; obtain ⟨a0, a1, a2, a3⟩ := VIEW.out k hlt hkq; rw [a0, a1, a2, a3]
              have hmf : view4 L k = [c0, c1, c2, c3] := by simp only [view4]; rw [p0, p1, p2, p3]
              have HMK := Lib.hid hmk; have HMF := Lib.hid hmf
              clear hmk hmf
              have hr := HS.out.r
              go_wp2_with (first | (refine wpList_load_row rfl 26 (.tmp 12) rfl (w6.heap.size) (by simp [Act.eval]) 26 (i32s L).toArray (0, 0) _ hr Try.underlying26 rfl (by rw [hinfo]; exact congrArg some LS.symm) ?_; go_frame))
              refine (view_is L k hLT.out hLB.out hf4 _).mono ?_
              rw [p0, p1, p2, p3]
              rintro ea wa ⟨rfl, hba⟩
              have HSa := Lib.hid (HS.out.call hba)
              have HXa := Lib.hid (HX.out.call hba)
              clear hba hr p0 p1 p2 p3
              go_upto_region 23 with (fail)
              have HYb := Lib.hid (CellsAt.new wa [.int .i32 c0, .int .i32 c1, .int .i32 c2, .int .i32 c3] #[.int .i32 c0, .int .i32 c1, .int .i32 c2, .int .i32 c3] 22 rfl)
              have HSb := Lib.hid (HSa.out.alloc (.cells #[.int .i32 c0, .int .i32 c1, .int .i32 c2, .int .i32 c3] 22))
              have HXb := Lib.hid (HXa.out.alloc (.cells #[.int .i32 c0, .int .i32 c1, .int .i32 c2, .int .i32 c3] 22))
              clear HSa HXa
              generalize wa.alloc (.cells #[.int .i32 c0, .int .i32 c1, .int .i32 c2, .int .i32 c3] 22) = wb at *
              have hr := HSb.out.r
              go_wp2_with (first | (refine wpList_load_row rfl 26 (.tmp 12) rfl (w6.heap.size) (by simp [Act.eval]) 26 (i32s L).toArray (0, 0) _ hr Try.underlying26 rfl (by rw [hinfo]; exact congrArg some LS.symm) ?_; go_frame))
              refine (amid_is L k hLT.out hLB.out hlt _).mono ?_
              rw [HMK.out]
              rintro ec wc ⟨rfl, hbc⟩
              have HSc := Lib.hid (HSb.out.call hbc)
              have HXc := Lib.hid (HXb.out.call hbc)
              have HYc := Lib.hid (HYb.out.call hbc)
              clear hbc hr HSb HXb HYb
              have hr := HSc.out.r
              go_wp2_with (first | (refine wpList_load_row rfl 26 (.tmp 12) rfl (w6.heap.size) (by simp [Act.eval]) 26 (i32s L).toArray (0, 0) _ hr Try.underlying26 rfl (by rw [hinfo]; exact congrArg some LS.symm) ?_; go_frame))
              refine (amid_is L k hLT.out hLB.out hf4 _).mono ?_
              rw [HMF.out]
              rintro ed wd ⟨rfl, hbd⟩
              have HSd := Lib.hid (HSc.out.call hbd)
              have hXd := HXc.out.call hbd
              have hYd := HYc.out.call hbd
              clear hbd hr HSc HXc HYc
              have j0 := hXd.at_ 0 rfl
              have j1 := hXd.at_ 1 rfl
              have j2 := hXd.at_ 2 rfl
              have j3 := hXd.at_ 3 rfl
              have l0 := hYd.at_ 0 rfl
              have l1 := hYd.at_ 1 rfl
              have l2 := hYd.at_ 2 rfl
              have l3 := hYd.at_ 3 rfl
              have jz := hXd.lt
              have lz := hYd.lt
              have q2 := eqA c0 c1 c2 c3
              clear hXd hYd
              go_wp2
              go_round
              case rel => exact ⟨k + 1, (k : Int), by omega, rfl, by go_num, .inr ⟨k, rfl, hf4, hfq⟩, HSd.out⟩
              case measure => simp [intOf]; omega
            · have hf0 : ((f0 : Int) < 0) = False := by simp
              obtain ⟨p0, p1, p2, p3⟩ := VIEW.out f0 hf4 hfq
              have hmk : view4 L k = [c0, c1, c2, c3] := by simp only [view4]; obtain ⟨a0, a1, a2, a3⟩ := VIEW.out k hlt hkq; rw [a0, a1, a2, a3]
              have hmf : view4 L f0 = [c0, c1, c2, c3] := by simp only [view4]; rw [p0, p1, p2, p3]
              have HMK := Lib.hid hmk; have HMF := Lib.hid hmf
              clear hmk hmf
              have hr := HS.out.r
              go_wp2_with (first | (refine wpList_load_row rfl 26 (.tmp 12) rfl (w6.heap.size) (by simp [Act.eval]) 26 (i32s L).toArray (0, 0) _ hr Try.underlying26 rfl (by rw [hinfo]; exact congrArg some LS.symm) ?_; go_frame))
              refine (view_is L f0 hLT.out hLB.out hf4 _).mono ?_
              rw [p0, p1, p2, p3]
              rintro ea wa ⟨rfl, hba⟩
              have HSa := Lib.hid (HS.out.call hba)
              have HXa := Lib.hid (HX.out.call hba)
              clear hba hr p0 p1 p2 p3
              go_upto_region 23 with (fail)
              have HYb := Lib.hid (CellsAt.new wa [.int .i32 c0, .int .i32 c1, .int .i32 c2, .int .i32 c3] #[.int .i32 c0, .int .i32 c1, .int .i32 c2, .int .i32 c3] 22 rfl)
              have HSb := Lib.hid (HSa.out.alloc (.cells #[.int .i32 c0, .int .i32 c1, .int .i32 c2, .int .i32 c3] 22))
              have HXb := Lib.hid (HXa.out.alloc (.cells #[.int .i32 c0, .int .i32 c1, .int .i32 c2, .int .i32 c3] 22))
              clear HSa HXa
              generalize wa.alloc (.cells #[.int .i32 c0, .int .i32 c1, .int .i32 c2, .int .i32 c3] 22) = wb at *
              have hr := HSb.out.r
              go_wp2_with (first | (refine wpList_load_row rfl 26 (.tmp 12) rfl (w6.heap.size) (by simp [Act.eval]) 26 (i32s L).toArray (0, 0) _ hr Try.underlying26 rfl (by rw [hinfo]; exact congrArg some LS.symm) ?_; go_frame))
              refine (amid_is L k hLT.out hLB.out hlt _).mono ?_
              rw [HMK.out]
              rintro ec wc ⟨rfl, hbc⟩
              have HSc := Lib.hid (HSb.out.call hbc)
              have HXc := Lib.hid (HXb.out.call hbc)
              have HYc := Lib.hid (HYb.out.call hbc)
              clear hbc hr HSb HXb HYb
              have hr := HSc.out.r
              go_wp2_with (first | (refine wpList_load_row rfl 26 (.tmp 12) rfl (w6.heap.size) (by simp [Act.eval]) 26 (i32s L).toArray (0, 0) _ hr Try.underlying26 rfl (by rw [hinfo]; exact congrArg some LS.symm) ?_; go_frame))
              refine (amid_is L f0 hLT.out hLB.out hf4 _).mono ?_
              rw [HMF.out]
              rintro ed wd ⟨rfl, hbd⟩
              have HSd := Lib.hid (HSc.out.call hbd)
              have hXd := HXc.out.call hbd
              have hYd := HYc.out.call hbd
              clear hbd hr HSc HXc HYc
              have j0 := hXd.at_ 0 rfl
              have j1 := hXd.at_ 1 rfl
              have j2 := hXd.at_ 2 rfl
              have j3 := hXd.at_ 3 rfl
              have l0 := hYd.at_ 0 rfl
              have l1 := hYd.at_ 1 rfl
              have l2 := hYd.at_ 2 rfl
              have l3 := hYd.at_ 3 rfl
              have jz := hXd.lt
              have lz := hYd.lt
              have q2 := eqA c0 c1 c2 c3
              clear hXd hYd
              go_wp2
              go_round
              case rel => exact ⟨k + 1, (f0 : Int), by omega, rfl, by go_num, .inr ⟨f0, rfl, hf4, hfq⟩, HSd.out⟩
              case measure => simp [intOf]; omega
    · obtain rfl : k = 4 := by omega
      have HF := Lib.hid hF
      clear hF
      go_wp2
      go_ret
      exact ⟨rfl, HS.out.bl⟩
set_option maxRecDepth 100000 in
theorem lifted (os : Os) (started : os.Started) (H : Type) (enc : TypeId × Value → H) :
    ReturnsInHanded {} Try.checked os 9 .any (Rows.agreeSameSpec.pre6 enc Try.prog Try.f9 Rows.agreeSameRow.domain false) (Rows.agreeSameSpec.post enc Try.prog Try.f9 false true false false) := by
  refine returnsInHanded_of_change (C := Try.checked) own started (by kernel_rfl) Try.func9
    (ChangeSpec.witness6 (enc := enc) (C := Try.checked) false ⟨#[], #[.agg #[.int .i32 0, .int .i32 0, .int .i32 0, .int .i32 0], .int .i64 0, .agg #[.int .i32 0, .int .i32 0, .int .i32 0, .int .i32 0], .agg #[.int .i32 0, .int .i32 0, .int .i32 0, .int .i32 0, .int .i32 0, .int .i32 0, .int .i32 0, .int .i32 0, .int .i32 0, .int .i32 0, .int .i32 0, .int .i32 0, .int .i32 0, .int .i32 0, .int .i32 0, .int .i32 0]], []⟩ 8 (by kernel_rfl) (by kernel_rfl) (by kernel_rfl) (by kernel_rfl)) ?_
  intro W base args ds gs before hval0 hW hcnd _
  have hval : ∀ (j : Nat) t v, Try.f9.params[j]? = some t → args[j]? = some v → Value.okWide Try.prog W .any base t v := hval0
  have hW' := hW
  obtain ⟨p, q, hA0, hV, rfl, hfz, hnd⟩ := hW
  have hA : DataW.TrodAll enc Try.prog W 0 (fun _ => true) true Try.f9.params.toList args.toList ds p := hA0
  rw [Try.params9] at hA hval
  obtain ⟨v0, vs0, d0, ds0, p0, q0, hargs, rfl, rfl, h0, r0⟩ := trodAll_cons hA
  obtain ⟨v1, vs1, d1, ds1, p1, q1, rfl, rfl, rfl, h1, r1⟩ := trodAll_cons r0
  obtain ⟨v2, vs2, d2, ds2, p2, q2, rfl, rfl, rfl, h2, r2⟩ := trodAll_cons r1
  obtain ⟨v3, vs3, d3, ds3, p3, q3, rfl, rfl, rfl, h3, r3⟩ := trodAll_cons r2
  obtain ⟨rfl, rfl, rfl⟩ := trodAll_nil r3
  obtain rfl : args = #[v0, v1, v2, v3] := by cases args; simp_all
  obtain ⟨rfl, rfl⟩ := trodVars_none hV
  have k0 := h0
  have lt0 : ∀ x ∈ p0, x.block < W.heap.size := by obtain ⟨m, hm⟩ := k0; exact DataW.trod_lt m _ _ _ hm
  have k1 := h1
  have lt1 : ∀ x ∈ p1, x.block < W.heap.size := by obtain ⟨m, hm⟩ := k1; exact DataW.trod_lt m _ _ _ hm
  have k2 := h2
  have lt2 : ∀ x ∈ p2, x.block < W.heap.size := by obtain ⟨m, hm⟩ := k2; exact DataW.trod_lt m _ _ _ hm
  have k3 := h3
  have lt3 : ∀ x ∈ p3, x.block < W.heap.size := by obtain ⟨m, hm⟩ := k3; exact DataW.trod_lt m _ _ _ hm
  obtain ⟨cs0, rfl, lf0_0⟩ := open_flat 12 [21, 21, 21, 21] (by kernel_rfl) (by kernel_rfl) (by kernel_rfl) (hval 0 22 v0 rfl rfl) h0
  obtain ⟨c0_0, r0_0, rfl, y0_0, lf0_1⟩ := leafs_cons lf0_0
  obtain ⟨a0_0, rfl, w0_0⟩ := leaf_int Try.underlying21 y0_0
  obtain ⟨c0_1, r0_1, rfl, y0_1, lf0_2⟩ := leafs_cons lf0_1
  obtain ⟨a0_1, rfl, w0_1⟩ := leaf_int Try.underlying21 y0_1
  obtain ⟨c0_2, r0_2, rfl, y0_2, lf0_3⟩ := leafs_cons lf0_2
  obtain ⟨a0_2, rfl, w0_2⟩ := leaf_int Try.underlying21 y0_2
  obtain ⟨c0_3, r0_3, rfl, y0_3, lf0_4⟩ := leafs_cons lf0_3
  obtain ⟨a0_3, rfl, w0_3⟩ := leaf_int Try.underlying21 y0_3
  obtain rfl := leafs_nil lf0_4
  obtain ⟨a1, rfl, rfl, rfl, w1⟩ := open_int Try.underlying3 (hval 1 3 v1 rfl rfl) h1
  obtain ⟨cs2, rfl, lf2_0⟩ := open_flat 12 [21, 21, 21, 21] (by kernel_rfl) (by kernel_rfl) (by kernel_rfl) (hval 2 22 v2 rfl rfl) h2
  obtain ⟨c2_0, r2_0, rfl, y2_0, lf2_1⟩ := leafs_cons lf2_0
  obtain ⟨a2_0, rfl, w2_0⟩ := leaf_int Try.underlying21 y2_0
  obtain ⟨c2_1, r2_1, rfl, y2_1, lf2_2⟩ := leafs_cons lf2_1
  obtain ⟨a2_1, rfl, w2_1⟩ := leaf_int Try.underlying21 y2_1
  obtain ⟨c2_2, r2_2, rfl, y2_2, lf2_3⟩ := leafs_cons lf2_2
  obtain ⟨a2_2, rfl, w2_2⟩ := leaf_int Try.underlying21 y2_2
  obtain ⟨c2_3, r2_3, rfl, y2_3, lf2_4⟩ := leafs_cons lf2_3
  obtain ⟨a2_3, rfl, w2_3⟩ := leaf_int Try.underlying21 y2_3
  obtain rfl := leafs_nil lf2_4
  obtain ⟨cs3, rfl, lf3_0⟩ := open_flat 12 [21, 21, 21, 21, 21, 21, 21, 21, 21, 21, 21, 21, 21, 21, 21, 21] (by kernel_rfl) (by kernel_rfl) (by kernel_rfl) (hval 3 23 v3 rfl rfl) h3
  obtain ⟨c3_0, r3_0, rfl, y3_0, lf3_1⟩ := leafs_cons lf3_0
  obtain ⟨a3_0, rfl, w3_0⟩ := leaf_int Try.underlying21 y3_0
  obtain ⟨c3_1, r3_1, rfl, y3_1, lf3_2⟩ := leafs_cons lf3_1
  obtain ⟨a3_1, rfl, w3_1⟩ := leaf_int Try.underlying21 y3_1
  obtain ⟨c3_2, r3_2, rfl, y3_2, lf3_3⟩ := leafs_cons lf3_2
  obtain ⟨a3_2, rfl, w3_2⟩ := leaf_int Try.underlying21 y3_2
  obtain ⟨c3_3, r3_3, rfl, y3_3, lf3_4⟩ := leafs_cons lf3_3
  obtain ⟨a3_3, rfl, w3_3⟩ := leaf_int Try.underlying21 y3_3
  obtain ⟨c3_4, r3_4, rfl, y3_4, lf3_5⟩ := leafs_cons lf3_4
  obtain ⟨a3_4, rfl, w3_4⟩ := leaf_int Try.underlying21 y3_4
  obtain ⟨c3_5, r3_5, rfl, y3_5, lf3_6⟩ := leafs_cons lf3_5
  obtain ⟨a3_5, rfl, w3_5⟩ := leaf_int Try.underlying21 y3_5
  obtain ⟨c3_6, r3_6, rfl, y3_6, lf3_7⟩ := leafs_cons lf3_6
  obtain ⟨a3_6, rfl, w3_6⟩ := leaf_int Try.underlying21 y3_6
  obtain ⟨c3_7, r3_7, rfl, y3_7, lf3_8⟩ := leafs_cons lf3_7
  obtain ⟨a3_7, rfl, w3_7⟩ := leaf_int Try.underlying21 y3_7
  obtain ⟨c3_8, r3_8, rfl, y3_8, lf3_9⟩ := leafs_cons lf3_8
  obtain ⟨a3_8, rfl, w3_8⟩ := leaf_int Try.underlying21 y3_8
  obtain ⟨c3_9, r3_9, rfl, y3_9, lf3_10⟩ := leafs_cons lf3_9
  obtain ⟨a3_9, rfl, w3_9⟩ := leaf_int Try.underlying21 y3_9
  obtain ⟨c3_10, r3_10, rfl, y3_10, lf3_11⟩ := leafs_cons lf3_10
  obtain ⟨a3_10, rfl, w3_10⟩ := leaf_int Try.underlying21 y3_10
  obtain ⟨c3_11, r3_11, rfl, y3_11, lf3_12⟩ := leafs_cons lf3_11
  obtain ⟨a3_11, rfl, w3_11⟩ := leaf_int Try.underlying21 y3_11
  obtain ⟨c3_12, r3_12, rfl, y3_12, lf3_13⟩ := leafs_cons lf3_12
  obtain ⟨a3_12, rfl, w3_12⟩ := leaf_int Try.underlying21 y3_12
  obtain ⟨c3_13, r3_13, rfl, y3_13, lf3_14⟩ := leafs_cons lf3_13
  obtain ⟨a3_13, rfl, w3_13⟩ := leaf_int Try.underlying21 y3_13
  obtain ⟨c3_14, r3_14, rfl, y3_14, lf3_15⟩ := leafs_cons lf3_14
  obtain ⟨a3_14, rfl, w3_14⟩ := leaf_int Try.underlying21 y3_14
  obtain ⟨c3_15, r3_15, rfl, y3_15, lf3_16⟩ := leafs_cons lf3_15
  obtain ⟨a3_15, rfl, w3_15⟩ := leaf_int Try.underlying21 y3_15
  obtain rfl := leafs_nil lf3_16
  clear hA0 hval0
  refine (law a0_0 a0_1 a0_2 a0_3 a1 a2_0 a2_1 a2_2 a2_3 a3_0 a3_1 a3_2 a3_3 a3_4 a3_5 a3_6 a3_7 a3_8 a3_9 a3_10 a3_11 a3_12 a3_13 a3_14 a3_15 W (bounds_i32 w0_0) (bounds_i32 w0_1) (bounds_i32 w0_2) (bounds_i32 w0_3) (bounds_i64 w1) (bounds_i32 w2_0) (bounds_i32 w2_1) (bounds_i32 w2_2) (bounds_i32 w2_3) (bounds_i32 w3_0) (bounds_i32 w3_1) (bounds_i32 w3_2) (bounds_i32 w3_3) (bounds_i32 w3_4) (bounds_i32 w3_5) (bounds_i32 w3_6) (bounds_i32 w3_7) (bounds_i32 w3_8) (bounds_i32 w3_9) (bounds_i32 w3_10) (bounds_i32 w3_11) (bounds_i32 w3_12) (bounds_i32 w3_13) (bounds_i32 w3_14) (bounds_i32 w3_15)).mono fun e W' ⟨he, bel⟩ => ?_
  subst he
  exact ⟨_, rfl, _, _, _, [], _, [], hW', trodAll_mk1 (shut_bool Try.underlying4 _), (trodAll_cons_mk (Below.trod laidOut (by kernel_rfl) (of_decide_eq_true (by kernel_rfl)) k0 bel lt0) (trodAll_cons_mk (Below.trod laidOut (by kernel_rfl) (of_decide_eq_true (by kernel_rfl)) k1 bel lt1) (trodAll_cons_mk (Below.trod laidOut (by kernel_rfl) (of_decide_eq_true (by kernel_rfl)) k2 bel lt2) (trodAll_cons_mk (Below.trod laidOut (by kernel_rfl) (of_decide_eq_true (by kernel_rfl)) k3 bel lt3) trodAll_mk0)))), rfl, bel.frame _, fun h => by cases h⟩
theorem over : Rows.agreeSameRow.holds Try.pinned (OpenSpec.ofChange Rows.agreeSameSpec) :=
  OpenClaim.holds_of_wide 9 Try.f9 rfl rfl rfl rfl rfl rfl rfl ⟨rfl, rfl, rfl, rfl, rfl⟩ rfl rfl rfl rfl rfl (by kernel_rfl) Try.func9 (by kernel_rfl)
    (of_decide_eq_true (by kernel_rfl)) (by unfold Func.isWrapper; first | (rw [if_pos (by decide +kernel)]; kernel_rfl) | (rw [if_neg (by decide +kernel)]; exact ⟨rfl, rfl⟩))
    (fun os started H enc _ => lifted os started H enc)
theorem proved : Rows.AgreeSameSaid := over
#print axioms proved

end Go.Proofs.Ytijoalaijkobpaa.agreeSame
