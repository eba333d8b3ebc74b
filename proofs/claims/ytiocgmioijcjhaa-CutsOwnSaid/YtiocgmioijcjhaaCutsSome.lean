/- cuts.some: the least sets that hold n of the lists. -/
import Derived.Test.YtiocgmioijcjhaaCutsBoth
import Derived.Test.YtiocgmioijcjhaaConcat
import Derived.Laws.OwnMore
namespace Go.Proofs.Ytiocgmioijcjhaa
open Go.ChangeShapes Go.WideShapes Go.ChangeAt Go.RowKit
set_option linter.unusedVariables false

/-- a slice of lists of sets -/
def SetsAt (w : World) (v : Value) (ss : List (List Nat)) : Prop :=
  (ss = [] ∧ (v = .slice none 0 0 ∨ ∃ a c, v = .slice (some a) 0 c)) ∨
  (0 < ss.length ∧ ∃ b off cap, v = .slice (some ⟨b, off, none⟩) ss.length cap ∧ ss.length ≤ cap ∧ cap ≤ 9223372036854775807 ∧
    ∀ i s, ss[i]? = some s → ∃ x, w.cell? ⟨b, off + i, none⟩ = some x ∧ IntsAt .u16 w x (u16s s))
theorem SetsAt.later {w w' : World} {v : Value} {ss : List (List Nat)} {B : Nat} (h : SetsAt w v ss) (hb : Below B w w') (hB : w.heap.size ≤ B) : SetsAt w' v ss := by
  rcases h with h | ⟨h0, b, off, cap, e, h1, h2, h3⟩
  · exact .inl h
  · refine .inr ⟨h0, b, off, cap, e, h1, h2, fun i s hs => ?_⟩
    obtain ⟨x, c, hi⟩ := h3 i s hs
    exact ⟨x, (hb.cell (Nat.lt_of_lt_of_le (World.block_lt_of_cell? _ _ c) hB)).trans c, hi.later hb hB⟩
theorem SetsAt.len {w : World} {v : Value} {ss : List (List Nat)} (h : SetsAt w v ss) : ∃ a c, v = .slice a ss.length c := by
  rcases h with ⟨rfl, rfl | ⟨a, c, rfl⟩⟩ | ⟨h0, b, off, cap, rfl, -⟩
  · exact ⟨_, _, rfl⟩
  · exact ⟨_, _, rfl⟩
  · exact ⟨_, _, rfl⟩
theorem SetsAt.cons {w : World} {v : Value} {x : List Nat} {r : List (List Nat)} (h : SetsAt w v (x :: r)) :
    ∃ b off cap xv, v = .slice (some ⟨b, off, none⟩) (r.length + 1) cap ∧ r.length + 1 ≤ cap ∧ cap ≤ 9223372036854775807 ∧ w.cell? ⟨b, off, none⟩ = some xv ∧ IntsAt .u16 w xv (u16s x) ∧ ((cap = 1 ∧ r = [] ∧ SetsAt w (.slice (some ⟨b, off, none⟩) 0 0) []) ∨ (¬ cap = 1 ∧ SetsAt w (.slice (some ⟨b, off + 1, none⟩) r.length (cap - 1)) r)) := by
  rcases h with ⟨h, -⟩ | ⟨h0, b, off, cap, e, h1, h2, h3⟩
  · simp at h
  · obtain ⟨xv, c, hi⟩ := h3 0 x rfl
    refine ⟨b, off, cap, xv, e, h1, h2, c, hi, ?_⟩
    by_cases hr : r.length = 0
    · obtain rfl := List.eq_nil_of_length_eq_zero hr
      by_cases hc : cap = 1
      · exact .inl ⟨hc, rfl, .inl ⟨rfl, .inr ⟨_, _, rfl⟩⟩⟩
      · exact .inr ⟨hc, .inl ⟨rfl, .inr ⟨_, _, rfl⟩⟩⟩
    · simp only [List.length_cons] at h1
      refine .inr ⟨by omega, .inr ⟨by omega, b, off + 1, cap - 1, rfl, by omega, by omega, fun i s hs => ?_⟩⟩
      obtain ⟨y, cy, hy⟩ := h3 (i + 1) s (by simpa using hs)
      exact ⟨y, by rw [show off + 1 + i = off + (i + 1) by omega]; exact cy, hy⟩
theorem OwnU.cat {w : World} {base : Nat} {v : Value} {xs ys : List Nat} (h : w.ownsRow base TU 1 v ((u16s xs).length + (u16s ys).length) ((u16s xs).map (.int .u16) ++ (u16s ys).map (.int .u16))) : OwnU w base v (xs ++ ys) := by
  unfold OwnU u16s
  simpa [u16s] using h
theorem own_zero (w : World) : OwnU (w.alloc (.cells #[.int .u16 0] TU)) w.heap.size (.slice (some ⟨w.heap.size, 0, none⟩) 1 1) [0] :=
  World.ownsRow_lit (size := 1) w #[.int .u16 0] 1 (Nat.le_refl _) (by decide) rfl
set_option maxHeartbeats 8000000 in
set_option maxRecDepth 100000 in
theorem some_is (ss : List (List Nat)) : ∀ (n : Int) (v : Value) (w : World), SetsAt w v ss → (∀ s ∈ ss, Anti s) → ss.length ≤ 1000 → -1000 ≤ n ∧ n ≤ 1000 →
    Calls Try.prog 37 #[v, .int .i64 n] w fun e w' => (∃ v', e = .returned v' ∧ OwnU w' w.heap.size v' (someL ss n)) ∧ Below w.heap.size w w' := by
  obtain ⟨i0, hi, hz0, hz1, hz2⟩ := info_parts infoU16
  induction ss with
  | nil =>
    intro n v w h ha hl hn
    obtain ⟨a, c, rfl⟩ := h.len
    have H := Lib.hid h
    clear h
    by_cases h0 : n ≤ 0
    · have he : someL [] n = [0] := by unfold someL; rw [if_pos h0]
      rw [he]
      go_enter Try.func37, Try.ntmps37
      go_wp2
      go_ret
      exact ⟨⟨_, rfl, own_zero w⟩, by repeat (first | with_reducible exact Below.refl _ _ | ((with_reducible refine Below.setCell ?_ ?_ _); rotate_left; (· first | (simp; done) | omega | (simp; omega))) | with_reducible refine below_drewN ?_ _ | with_reducible refine Below.drew ?_ | ((with_reducible refine Below.alloc ?_ ?_ _); rotate_left; (· first | (simp; done) | omega | (simp; omega))) | exact Below.refl _ _ | refine Below.setCell ?_ (by first | (simp; done) | omega | (simp; omega)) _ | refine below_drewN ?_ _ | refine Below.drew ?_ | refine Below.alloc ?_ (by first | (simp; done) | omega | (simp; omega)) _)⟩
    · have he : someL [] n = [] := by unfold someL; rw [if_neg h0]
      rw [he]
      have h1 : n > 0 := by omega
      go_enter Try.func37, Try.ntmps37
      go_wp2
      go_ret
      exact ⟨⟨_, rfl, OwnU.nil _ _⟩, by repeat (first | with_reducible exact Below.refl _ _ | ((with_reducible refine Below.setCell ?_ ?_ _); rotate_left; (· first | (simp; done) | omega | (simp; omega))) | with_reducible refine below_drewN ?_ _ | with_reducible refine Below.drew ?_ | ((with_reducible refine Below.alloc ?_ ?_ _); rotate_left; (· first | (simp; done) | omega | (simp; omega))) | exact Below.refl _ _ | refine Below.setCell ?_ (by first | (simp; done) | omega | (simp; omega)) _ | refine below_drewN ?_ _ | refine Below.drew ?_ | refine Below.alloc ?_ (by first | (simp; done) | omega | (simp; omega)) _)⟩
  | cons x r ih =>
    intro n v w h ha hl hn
    obtain ⟨b, off, cap, xv, rfl, h1, h2, c0, hx, ht⟩ := h.cons
    simp only [List.length_cons] at hl
    by_cases h0 : n ≤ 0
    · have he : someL (x :: r) n = [0] := by unfold someL; rw [if_pos h0]
      rw [he]
      clear h ih ha hx ht
      go_enter Try.func37, Try.ntmps37
      go_wp2
      go_ret
      exact ⟨⟨_, rfl, own_zero w⟩, by repeat (first | with_reducible exact Below.refl _ _ | ((with_reducible refine Below.setCell ?_ ?_ _); rotate_left; (· first | (simp; done) | omega | (simp; omega))) | with_reducible refine below_drewN ?_ _ | with_reducible refine Below.drew ?_ | ((with_reducible refine Below.alloc ?_ ?_ _); rotate_left; (· first | (simp; done) | omega | (simp; omega))) | exact Below.refl _ _ | refine Below.setCell ?_ (by first | (simp; done) | omega | (simp; omega)) _ | refine below_drewN ?_ _ | refine Below.drew ?_ | refine Below.alloc ?_ (by first | (simp; done) | omega | (simp; omega)) _)⟩
    · by_cases hn1 : n > ((x :: r).length : Int)
      · have he : someL (x :: r) n = [] := by unfold someL; rw [if_neg h0, if_pos hn1]
        rw [he]
        have hn2 : n > ((r.length + 1 : Nat) : Int) := by simpa using hn1
        clear h ih ha hx ht hn1
        go_enter Try.func37, Try.ntmps37
        go_wp2
        go_ret
        exact ⟨⟨_, rfl, OwnU.nil _ _⟩, by repeat (first | with_reducible exact Below.refl _ _ | ((with_reducible refine Below.setCell ?_ ?_ _); rotate_left; (· first | (simp; done) | omega | (simp; omega))) | with_reducible refine below_drewN ?_ _ | with_reducible refine Below.drew ?_ | ((with_reducible refine Below.alloc ?_ ?_ _); rotate_left; (· first | (simp; done) | omega | (simp; omega))) | exact Below.refl _ _ | refine Below.setCell ?_ (by first | (simp; done) | omega | (simp; omega)) _ | refine below_drewN ?_ _ | refine Below.drew ?_ | refine Below.alloc ?_ (by first | (simp; done) | omega | (simp; omega)) _)⟩
      · have he : someL (x :: r) n = leastL (bothL x (someL r (n - 1)) ++ someL r n) := by
          rw [someL, if_neg h0, if_neg hn1]
        rw [he]
        have hn2 : ¬ n > ((r.length + 1 : Nat) : Int) := by simpa using hn1
        rcases ht with ⟨rfl, rfl, ht⟩ | ⟨hc1, ht⟩
        · have IH := Lib.hid ih; have HA := Lib.hid ha; have HXV := Lib.hid hx; have HT := Lib.hid ht
          have hw1 : IntKind.i64.wrap (n - 1) = n - 1 := IntWalk.i64_in _ (by omega)
          clear h ih ha hx ht hn1 he
          go_enter Try.func37, Try.ntmps37
          have hsl : (1 : Int) ≤ (([] : List (List Nat)).length : Int) + 1 := by omega
          have hcp := World.block_lt_of_cell? _ _ c0
          have HBX := Lib.hid (HA.out x (by simp))
          have HSR : Hid (∀ m, Anti (someL [] m)) := Lib.hid (some_anti fun s hs => HA.out s (List.mem_cons_of_mem _ hs))
          go_wp2_with fail
          go_region_law (first
            | (go_simp; go_at_call 37; refine (IH.out (n - 1) _ _ (by exact HT.out) (fun s hs => HA.out s (List.mem_cons_of_mem _ hs)) (by omega) (by omega)).mono ?_; rintro e1 w1 ⟨⟨v1, rfl, ho1⟩, hb1⟩; have c1 : w1.cell? ⟨b, off, none⟩ = some xv := (hb1.cell (p := ⟨b, off, none⟩) hcp).trans c0; have hx1 : IntsAt .u16 w1 xv (u16s x) := (by first | exact HXV.out.later hb1 (Nat.le_refl _) | exact (HXV.out.drewN 1).later hb1 (Nat.le_refl _) | exact (HXV.out.drewN 2).later hb1 (Nat.le_refl _)); have HB1 : Below w.heap.size w w1 := (by first | exact hb1 | exact (Below.refl w.heap.size w).drew.trans hb1 | exact (Below.refl w.heap.size w).drew.drew.trans hb1))
            | (go_simp; go_at_call 40; refine (both_is x (someL [] (n - 1)) _ _ _ HBX.out.1 (HSR.out _).1 (anti_len HBX.out) (anti_len (HSR.out _)) (by exact hx1) (by exact ho1.ints)).mono ?_; rintro e2 w2 ⟨⟨v2, rfl, ho2⟩, hb2⟩; have HB2 : Below w.heap.size w w2 := (by first | exact HB1.trans (hb2.mono HB1.size) | exact HB1.drew.trans (hb2.mono HB1.size) | exact HB1.drew.drew.trans (hb2.mono HB1.size)))
            | fail)
          all_goals
            have O2 : Hid (OwnU w2 w.heap.size v2 (bothL x (someL [] (n - 1)))) := Lib.hid (ho2.base HB1.size)
            have B2 := Lib.hid HB2
            clear ho1 hx1 hb1 hb2 ho2 HB1 HB2 c1 c0
            go_wp2_with fail
            refine (IH.out n _ _ (HT.out.later B2.out (Nat.le_refl _)) (fun s hs => HA.out s (List.mem_cons_of_mem _ hs)) (by omega) (by omega)).mono ?_
            rintro e3 w3 ⟨⟨v3, rfl, ho3⟩, hb3⟩
            have SRC := Lib.hid (src_ints ho3.ints)
            have O3 := Lib.hid (O2.out.later hb3 (Nat.le_refl _))
            have B3 := Lib.hid (B2.out.trans (hb3.mono B2.out.size))
            have z3 := B3.out.size
            have q1 := anti_len (both_anti HBX.out.1 (HSR.out (n - 1)).1)
            have q2 := anti_len (HSR.out n)
            have q3 := u16s_len (bothL x (someL [] (n - 1)))
            have q4 := u16s_len (someL [] n)
            clear ho3 hb3
            go_wp2_with (at_builtin; refine wpList_append_src rfl _ _ 37 rfl w.heap.size TU i0 (.int .u16 0) 1 2 Try.underlying37 hi hz0 hz1 hz2 rfl (by decide) _ _ _ rfl O3.out _ _ _ rfl SRC.out (by intro u hu; obtain ⟨y, -, rfl⟩ := List.mem_map.1 hu; rfl) (by unfold maxLen; omega) (by omega) z3 ?_; intro v' w4 hown' hgrow)
            have O4 : Hid (OwnU w4 w.heap.size v' (bothL x (someL [] (n - 1)) ++ someL [] n)) := Lib.hid (OwnU.cat hown')
            have BG : Below w.heap.size w3 w4 := (Below.refl w.heap.size w3).grown hgrow z3 (fun j e => (O3.out.lt j e).1)
            have B4 := Lib.hid (B3.out.trans BG)
            have z4 := B4.out.size
            clear hown' hgrow BG
            refine (least_is sort_is _ _ _ w.heap.size ?_ O4.out z4 ?_).mono ?_
            · intro c hc
              rcases List.mem_append.1 hc with hc | hc
              · exact Nat.lt_trans ((both_anti HBX.out.1 (HSR.out (n - 1)).1).1 c hc) (by decide)
              · exact Nat.lt_trans ((HSR.out n).1 c hc) (by decide)
            · rw [List.length_append]; omega
            rintro e5 w5 ⟨⟨v5, rfl, ho5⟩, hb5⟩
            go_wp2
            go_ret
            exact ⟨⟨_, rfl, ho5.base z4⟩, B4.out.trans hb5⟩
        · have IH := Lib.hid ih; have HA := Lib.hid ha; have HXV := Lib.hid hx; have HT := Lib.hid ht
          have hw1 : IntKind.i64.wrap (n - 1) = n - 1 := IntWalk.i64_in _ (by omega)
          clear h ih ha hx ht hn1 he
          go_enter Try.func37, Try.ntmps37
          have hsl : (1 : Int) ≤ (r.length : Int) + 1 := by omega
          have hcp := World.block_lt_of_cell? _ _ c0
          have HBX := Lib.hid (HA.out x (by simp))
          have HSR : Hid (∀ m, Anti (someL r m)) := Lib.hid (some_anti fun s hs => HA.out s (List.mem_cons_of_mem _ hs))
          go_wp2_with fail
          go_region_law (first
            | (go_simp; go_at_call 37; refine (IH.out (n - 1) _ _ (by exact HT.out) (fun s hs => HA.out s (List.mem_cons_of_mem _ hs)) (by omega) (by omega)).mono ?_; rintro e1 w1 ⟨⟨v1, rfl, ho1⟩, hb1⟩; have c1 : w1.cell? ⟨b, off, none⟩ = some xv := (hb1.cell (p := ⟨b, off, none⟩) hcp).trans c0; have hx1 : IntsAt .u16 w1 xv (u16s x) := (by first | exact HXV.out.later hb1 (Nat.le_refl _) | exact (HXV.out.drewN 1).later hb1 (Nat.le_refl _) | exact (HXV.out.drewN 2).later hb1 (Nat.le_refl _)); have HB1 : Below w.heap.size w w1 := (by first | exact hb1 | exact (Below.refl w.heap.size w).drew.trans hb1 | exact (Below.refl w.heap.size w).drew.drew.trans hb1))
            | (go_simp; go_at_call 40; refine (both_is x (someL r (n - 1)) _ _ _ HBX.out.1 (HSR.out _).1 (anti_len HBX.out) (anti_len (HSR.out _)) (by exact hx1) (by exact ho1.ints)).mono ?_; rintro e2 w2 ⟨⟨v2, rfl, ho2⟩, hb2⟩; have HB2 : Below w.heap.size w w2 := (by first | exact HB1.trans (hb2.mono HB1.size) | exact HB1.drew.trans (hb2.mono HB1.size) | exact HB1.drew.drew.trans (hb2.mono HB1.size)))
            | fail)
          all_goals
            have O2 : Hid (OwnU w2 w.heap.size v2 (bothL x (someL r (n - 1)))) := Lib.hid (ho2.base HB1.size)
            have B2 := Lib.hid HB2
            clear ho1 hx1 hb1 hb2 ho2 HB1 HB2 c1 c0
            go_wp2_with fail
            refine (IH.out n _ _ (HT.out.later B2.out (Nat.le_refl _)) (fun s hs => HA.out s (List.mem_cons_of_mem _ hs)) (by omega) (by omega)).mono ?_
            rintro e3 w3 ⟨⟨v3, rfl, ho3⟩, hb3⟩
            have SRC := Lib.hid (src_ints ho3.ints)
            have O3 := Lib.hid (O2.out.later hb3 (Nat.le_refl _))
            have B3 := Lib.hid (B2.out.trans (hb3.mono B2.out.size))
            have z3 := B3.out.size
            have q1 := anti_len (both_anti HBX.out.1 (HSR.out (n - 1)).1)
            have q2 := anti_len (HSR.out n)
            have q3 := u16s_len (bothL x (someL r (n - 1)))
            have q4 := u16s_len (someL r n)
            clear ho3 hb3
            go_wp2_with (at_builtin; refine wpList_append_src rfl _ _ 37 rfl w.heap.size TU i0 (.int .u16 0) 1 2 Try.underlying37 hi hz0 hz1 hz2 rfl (by decide) _ _ _ rfl O3.out _ _ _ rfl SRC.out (by intro u hu; obtain ⟨y, -, rfl⟩ := List.mem_map.1 hu; rfl) (by unfold maxLen; omega) (by omega) z3 ?_; intro v' w4 hown' hgrow)
            have O4 : Hid (OwnU w4 w.heap.size v' (bothL x (someL r (n - 1)) ++ someL r n)) := Lib.hid (OwnU.cat hown')
            have BG : Below w.heap.size w3 w4 := (Below.refl w.heap.size w3).grown hgrow z3 (fun j e => (O3.out.lt j e).1)
            have B4 := Lib.hid (B3.out.trans BG)
            have z4 := B4.out.size
            clear hown' hgrow BG
            refine (least_is sort_is _ _ _ w.heap.size ?_ O4.out z4 ?_).mono ?_
            · intro c hc
              rcases List.mem_append.1 hc with hc | hc
              · exact Nat.lt_trans ((both_anti HBX.out.1 (HSR.out (n - 1)).1).1 c hc) (by decide)
              · exact Nat.lt_trans ((HSR.out n).1 c hc) (by decide)
            · rw [List.length_append]; omega
            rintro e5 w5 ⟨⟨v5, rfl, ho5⟩, hb5⟩
            go_wp2
            go_ret
            exact ⟨⟨_, rfl, ho5.base z4⟩, B4.out.trans hb5⟩

end Go.Proofs.Ytiocgmioijcjhaa
