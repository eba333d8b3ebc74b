/- WorldOwn: whatever the inputs are, the law answers true and leaves memory as it was. -/
import Derived.Test.YtlagmebnjagoaaaGreatSameS
import Derived.Test.YtlagmebnjagoaaaGreatWSpoil
import Derived.Test.YtlagmebnjagoaaaGreatPkXh
namespace Go.Proofs.YtlagmebnjagoaaaGreat.worldOwn
open Go.ChangeShapes Go.WideShapes Go.ChangeAt Go.RowKit Go.Proofs.YtlagmebnjagoaaaGreat Go.Proofs.YtlagmebnjagoaaaGreat.Open
set_option linter.unusedVariables false
set_option maxHeartbeats 16000000
set_option maxRecDepth 100000
theorem box_new {wr w7 w8 : World} {Z L : List Value} {arr : Array Value} {T : TypeId} (ha : arr = Z.toArray) (h7 : wr.alloc (.cells arr T) = w7) (hl : L.length = Z.length) (h8 : w7.setCells wr.heap.size 0 L.toArray.toList = w8) :
    w7.there wr.heap.size 0 L.toArray.size ∧ CellsAt w8 wr.heap.size L ∧ Below wr.heap.size wr w8 := by
  subst ha h7 h8
  have Z7 : CellsAt (wr.alloc (.cells Z.toArray T)) wr.heap.size Z := CellsAt.new' rfl rfl
  exact ⟨Z7.there (by rw [List.size_toArray, hl]; exact Nat.le_refl _), Z7.row L hl, below_setCells (Nat.le_refl _) _ 0 _ ((Below.refl _ _).alloc (Nat.le_refl _) _)⟩
abbrev avS (a : Nat → Prop) : Stp := nomS.withAv a
theorem far_more {w w' : World} {b r c : Nat} {a : Nat → Prop} {D : Dyn} {vp vl vg : Value} (h : WAt w b (avS a) D vp vl vg) (hg : w.grownBy w' (some r)) (hne : b ≠ r) (hr : a r) (hc : w.heap.size ≤ c) (hc2 : c < w'.heap.size) : WAt w' b (avS (fun x => a x ∨ x = c)) D vp vl vg := by
  have k := h.far hg hne hr
  have m : ∀ {v : Value}, OffA w b (avS a).av v → OffA w' b (avS (fun x => a x ∨ x = c)).av v := fun {v} o =>
    ⟨o.1, fun x hx => hx.elim (o.2.1 x) (fun e b' q n l c' e' => by have := o.2.2 b' q n l c' e'; omega), (o.later hg.size).2.2⟩
  exact ⟨k.c, k.p, k.l, k.g, m h.np, m h.nl, m h.ng, fun x hx => hx.elim (k.hv x) (fun e => by omega)⟩
theorem far_opt {w w' : World} {b : Nat} {r : Option Nat} {S : Stp} {D : Dyn} {vp vl vg : Value} (h : WAt w b S D vp vl vg) (hg : w.grownBy w' r) (hr : ∀ c, r = some c → b ≠ c ∧ S.av c) : WAt w' b S D vp vl vg := by
  cases r with
  | none => exact h.call ⟨hg.os, hg.tape, hg.output, hg.size, fun k hk => hg.block k hk (by simp)⟩
  | some c => exact h.far hg (hr c rfl).1 (hr c rfl).2
/-- two worlds of one state, each of which avoids the other -/
structure Two (w0 w : World) (b1 b2 : Nat) (a1 a2 : Nat → Prop) (D1 D2 : Dyn) (v : Value × Value × Value × Value × Value × Value) : Prop where
  below : Below w0.heap.size w0 w
  h1 : w0.heap.size ≤ b1
  h2 : w0.heap.size ≤ b2
  ne : b1 ≠ b2
  x1 : a1 b2
  x2 : a2 b1
  W1 : WAt w b1 (avS a1) D1 v.1 v.2.1 v.2.2.1
  W2 : WAt w b2 (avS a2) D2 v.2.2.2.1 v.2.2.2.2.1 v.2.2.2.2.2
theorem Two.call {w0 w w' : World} {b1 b2 : Nat} {a1 a2 : Nat → Prop} {D1 D2 : Dyn} {v : Value × Value × Value × Value × Value × Value} (h : Two w0 w b1 b2 a1 a2 D1 D2 v) (hb : Below w.heap.size w w') : Two w0 w' b1 b2 a1 a2 D1 D2 v :=
  ⟨h.below.trans (hb.mono h.below.size), h.h1, h.h2, h.ne, h.x1, h.x2, h.W1.call hb, h.W2.call hb⟩
/-- what is told stands in memory that both worlds avoid -/
def Clear (v : Value) (b1 b2 : Nat) (a1 a2 : Nat → Prop) : Prop := ∀ c, v.ownBlock = some c → b1 ≠ c ∧ b2 ≠ c ∧ a1 c ∧ a2 c
theorem two_left {w0 w w' : World} {b1 b2 : Nat} {a1 a2 : Nat → Prop} {D1 D2 D' : Dyn} {v : Value × Value × Value × Value × Value × Value} {u vl vg : Value} {n : Nat} {xs : List Value} {E : TypeId} (h : Two w0 w b1 b2 a1 a2 D1 D2 v) (hW : WAt w' b1 (avS a1) D' v.1 vl vg) (hg : w.grownBy w' (some b1)) (hO : w'.ownsRow w.heap.size E 4 u n xs) (hA : ∀ c, u.ownBlock = some c → WAt w' b1 ((avS a1).more c) D' v.1 vl vg) :
    ∃ a1' a2', Two w0 w' b1 b2 a1' a2' D' D2 (v.1, vl, vg, v.2.2.2) ∧ Clear u b1 b2 a1' a2' := by
  have hb : Below w0.heap.size w0 w' := below_of_grown h.below hg h.h1 h.below.size
  by_cases hu : ∃ c, u.ownBlock = some c
  · obtain ⟨c, hc⟩ := hu
    have hs : w.heap.size ≤ c ∧ c < w'.heap.size := by
      rcases hO.2 with ⟨rfl, -⟩ | ⟨g, cap, cur, rfl, h2, h3, -⟩
      · cases hc
      · cases hc; exact ⟨h2, (Array.getElem?_eq_some_iff.1 h3).1⟩
    have l1 := h.W1.lt; have l2 := h.W2.lt
    exact ⟨_, _, ⟨hb, h.h1, h.h2, h.ne, .inl h.x1, .inl h.x2, hA c hc, far_more h.W2 hg (Ne.symm h.ne) h.x2 hs.1 hs.2⟩, fun d hd => by rw [hc] at hd; cases hd; exact ⟨by omega, by omega, .inr rfl, .inr rfl⟩⟩
  · exact ⟨a1, a2, ⟨hb, h.h1, h.h2, h.ne, h.x1, h.x2, hW, h.W2.far hg (Ne.symm h.ne) h.x2⟩, fun d hd => absurd ⟨d, hd⟩ hu⟩
theorem Two.right {w0 w w' : World} {b1 b2 : Nat} {a1 a2 : Nat → Prop} {D1 D2 D' : Dyn} {v : Value × Value × Value × Value × Value × Value} {vl vg : Value} (h : Two w0 w b1 b2 a1 a2 D1 D2 v) (hW : WAt w' b2 (avS a2) D' v.2.2.2.1 vl vg) (hg : w.grownBy w' (some b2)) : Two w0 w' b1 b2 a1 a2 D1 D' (v.1, v.2.1, v.2.2.1, v.2.2.2.1, vl, vg) :=
  ⟨below_of_grown h.below hg h.h2 h.below.size, h.h1, h.h2, h.ne, h.x1, h.x2, h.W1.far hg h.ne h.x1, hW⟩
theorem Two.opt {w0 w w' : World} {b1 b2 : Nat} {a1 a2 : Nat → Prop} {D1 D2 : Dyn} {v : Value × Value × Value × Value × Value × Value} {u : Value} (h : Two w0 w b1 b2 a1 a2 D1 D2 v) (hg : w.grownBy w' u.ownBlock) (hc : Clear u b1 b2 a1 a2) (hu : ∀ c, u.ownBlock = some c → w0.heap.size ≤ c) : Two w0 w' b1 b2 a1 a2 D1 D2 v :=
  ⟨h.below.grown hg h.below.size hu, h.h1, h.h2, h.ne, h.x1, h.x2, far_opt h.W1 hg (fun c e => ⟨(hc c e).1, (hc c e).2.2.1⟩), far_opt h.W2 hg (fun c e => ⟨(hc c e).2.1, (hc c e).2.2.2⟩)⟩
/-- a list that was told: what it reads as, and that it lies in memory of its own -/
structure Told (w : World) (v : Value) (D : Dyn) : Prop where
  recs : RecsAt 4 entLay w v D.log
  sp : v = .slice none 0 0 ∨ ∃ g n cap, v = .slice (some ⟨g, 0, none⟩) n cap ∧ BlkOf w g 72 (cap * 4) ∧ n ≤ cap ∧ cap ≤ 9223372036854775807
theorem told_own {base : Nat} {v : Value} {D : Dyn} {w : World} (h : w.ownsRow base 72 4 v D.log.length (D.log.flatMap entLay)) : Told w v D := by
  refine ⟨own_recs (xs := D.log) h entLay_len, ?_⟩
  have h2 := h.2
  rcases h2 with ⟨rfl, -⟩ | ⟨g, cap, cur, rfl, e2, e3, e4, e5, e6, -⟩
  · exact .inl rfl
  · exact .inr ⟨g, _, cap, rfl, (own_blk h).1, e4, by unfold maxLen at e5; omega⟩
theorem Told.call {w w' : World} {v : Value} {D : Dyn} (h : Told w v D) (hb : Below w.heap.size w w') : Told w' v D :=
  ⟨h.recs.later entLay_len hb (Nat.le_refl _), h.sp.imp id fun ⟨g, n, cap, e, k, r⟩ => ⟨g, n, cap, e, k.later hb k.lt, r⟩⟩
theorem Told.far {w w' : World} {v : Value} {D : Dyn} {b : Nat} (h : Told w v D) (hg : w.grownBy w' (some b)) (hb : ∀ c, v.ownBlock = some c → b ≠ c) : Told w' v D :=
  ⟨recs_off entLay_len (by decide) h.recs (fun b' o n l c e => by subst e; exact fun e => hb b' rfl e.symm) hg, h.sp.imp id fun ⟨g, n, cap, e, k, r⟩ => ⟨g, n, cap, e, k.grown hg (fun e2 => by subst e; cases e2; exact hb b rfl rfl), r⟩⟩
theorem spoil_told {v : Value} {D : Dyn} {w : World} (h : Told w v D) :
    Calls Tryz.prog 21 #[v, .agg #[.int .i64 77, .int .i64 0, .int .i64 0, .int .i64 0]] w fun e w' => e = .returned (.tuple #[]) ∧ w.grownBy w' v.ownBlock := by
  rcases h.sp with rfl | ⟨g, n, cap, rfl, e2, e3, e4⟩
  · exact (spoil_ent0 77 0 0 0 w).mono fun e w' hh => ⟨hh.1, grown_of_below hh.2 none⟩
  · exact spoil_ent g n cap 77 0 0 0 w e2 e3 e4
def LRel (w : World) (b1 b2 : Nat) (xs : List Inp) (i : Value) (wr : World) : Prop := ∃ k : Nat, k ≤ xs.length ∧ i = .int .i64 k ∧ ∃ a1 a2 v, Two w wr b1 b2 a1 a2 (runD nomS xs k) (runD nomS xs k) v
theorem way {xs : List Inp} {la : Option Addr} {lc : Nat} {w : World} (hx : RecsAt 12 inL w (.slice la xs.length lc) xs) (hok : ∀ I ∈ xs, InpOk I) (hxl : xs.length ≤ 9223372036854775807) :
    Calls Tryz.prog 8 #[.slice la xs.length lc] w fun e w' => e = .returned (.bool true) ∧ Below w.heap.size w w' := by
  have HI12 : Hid ((Tryz.prog.info? 48).map (·.size) = some 12) := Lib.hid (by kernel_rfl)
  have HI27 : Hid ((Tryz.prog.info? 62).map (·.size) = some 27) := Lib.hid (by kernel_rfl)
  have HIS : Hid ((Tryz.prog.info? 37).map (·.size) = some 27) := Lib.hid (by kernel_rfl)
  have HX := Lib.hid hx
  have HOK := Lib.hid hok
  clear hx hok
  go_enter Tryz.func8, Tryz.ntmps8
  go_upto_region 1 with (fail)
  go_wp2_with fail
  refine (nominal_is _).mono ?_
  rintro e1 w1 ⟨g1, rfl, ho1, hb1⟩
  have HR1 := Lib.hid (own_recs (xs := nomS.prof) ho1 pointLay_len)
  have HK1 := Lib.hid (own_blk ho1)
  have HB1 := Lib.hid hb1
  clear ho1 hb1
  go_wp2_with fail
  refine (nominal_is _).mono ?_
  rintro e2 w2 ⟨g2, rfl, ho2, hb2⟩
  have R1 := HR1.out.later pointLay_len hb2 (Nat.le_refl _)
  have R2 := own_recs (xs := nomS.prof) ho2 pointLay_len
  have K1 := HK1.out.1.later hb2 HK1.out.2.2
  have B2 := HB1.out.trans (hb2.mono HB1.out.size)
  obtain ⟨w3, hw3⟩ : ∃ x, (w2.alloc (.cells #[.int .i32 0, .int .i64 0, .int .i32 0, .int .i32 0, .int .i32 0, .int .i64 0, .int .i32 0, .int .i32 0, .int .i32 0, .int .i32 0, .int .i32 0, .int .i32 0, .int .i32 0, .int .i32 0, .int .i32 0, .int .i32 0, .int .i64 0, .int .i64 0, .int .i64 0, .int .i32 0, .int .i32 0, .int .i32 0, .slice none 0 0, .int .i32 0, .int .i32 0, .int .i64 0, .int .i32 0] 37)).alloc (.cells #[.int .i32 0, .int .i64 0, .int .i32 0, .int .i32 0, .int .i32 0, .int .i64 0, .int .i32 0, .int .i32 0, .int .i32 0, .int .i32 0, .int .i32 0, .int .i32 0, .int .i32 0, .int .i32 0, .int .i32 0, .int .i32 0, .int .i64 0, .int .i64 0, .int .i64 0, .int .i32 0, .int .i32 0, .int .i32 0, .slice none 0 0, .int .i32 0, .int .i32 0, .int .i64 0, .int .i32 0] 37) = x := ⟨_, rfl⟩
  have b3 : Below w2.heap.size w2 w3 := hw3 ▸ (((Below.refl _ _).alloc (Nat.le_refl _) _).alloc (by simp) _)
  have Z1 : CellsAt w3 w2.heap.size [.int .i32 0, .int .i64 0, .int .i32 0, .int .i32 0, .int .i32 0, .int .i64 0, .int .i32 0, .int .i32 0, .int .i32 0, .int .i32 0, .int .i32 0, .int .i32 0, .int .i32 0, .int .i32 0, .int .i32 0, .int .i32 0, .int .i64 0, .int .i64 0, .int .i64 0, .int .i32 0, .int .i32 0, .int .i32 0, .slice none 0 0, .int .i32 0, .int .i32 0, .int .i64 0, .int .i32 0] := hw3 ▸ (CellsAt.new' rfl rfl : CellsAt (w2.alloc _) _ _).alloc _
  have Z2 : CellsAt w3 (w2.heap.size + 1) [.int .i32 0, .int .i64 0, .int .i32 0, .int .i32 0, .int .i32 0, .int .i64 0, .int .i32 0, .int .i32 0, .int .i32 0, .int .i32 0, .int .i32 0, .int .i32 0, .int .i32 0, .int .i32 0, .int .i32 0, .int .i32 0, .int .i64 0, .int .i64 0, .int .i64 0, .int .i32 0, .int .i32 0, .int .i32 0, .slice none 0 0, .int .i32 0, .int .i32 0, .int .i64 0, .int .i32 0] := by
    have h : CellsAt w3 (w2.alloc (.cells #[.int .i32 0, .int .i64 0, .int .i32 0, .int .i32 0, .int .i32 0, .int .i64 0, .int .i32 0, .int .i32 0, .int .i32 0, .int .i32 0, .int .i32 0, .int .i32 0, .int .i32 0, .int .i32 0, .int .i32 0, .int .i32 0, .int .i64 0, .int .i64 0, .int .i64 0, .int .i32 0, .int .i32 0, .int .i32 0, .slice none 0 0, .int .i32 0, .int .i32 0, .int .i64 0, .int .i32 0] 37)).heap.size [.int .i32 0, .int .i64 0, .int .i32 0, .int .i32 0, .int .i32 0, .int .i64 0, .int .i32 0, .int .i32 0, .int .i32 0, .int .i32 0, .int .i32 0, .int .i32 0, .int .i32 0, .int .i32 0, .int .i32 0, .int .i32 0, .int .i64 0, .int .i64 0, .int .i64 0, .int .i32 0, .int .i32 0, .int .i32 0, .slice none 0 0, .int .i32 0, .int .i32 0, .int .i64 0, .int .i32 0] := hw3 ▸ CellsAt.new' rfl rfl
    simpa using h
  obtain ⟨w4, hw4⟩ : ∃ x, w3.setCells w2.heap.size 0 (setA nomS (.slice (some ⟨g1, 0, none⟩) 2 2)).toArray.toList = x := ⟨_, rfl⟩
  obtain ⟨w5, hw5⟩ : ∃ x, w4.setCells (w2.heap.size + 1) 0 (setA nomS (.slice (some ⟨g2, 0, none⟩) 2 2)).toArray.toList = x := ⟨_, rfl⟩
  have hself : ∀ (x : World) (c : Nat), x.grownBy x (some c) := fun _ _ => ⟨rfl, rfl, rfl, Nat.le_refl _, fun _ _ _ => rfl⟩
  have HT1 : Hid (w3.there w2.heap.size 0 (setA nomS (.slice (some ⟨g1, 0, none⟩) 2 2)).toArray.size) := Lib.hid (Z1.there (n := 27) (Nat.le_refl _))
  have G4 := grown_setCells w2.heap.size (setA nomS (.slice (some ⟨g1, 0, none⟩) 2 2)).toArray.toList 0 w3 w3 (hself _ _)
  rw [hw4] at G4
  have C4 : CellsAt w4 w2.heap.size (setA nomS (.slice (some ⟨g1, 0, none⟩) 2 2)) := by rw [← hw4]; exact Z1.row _ rfl
  have Z4 := far_cells Z2 G4 (by omega)
  have HT2 : Hid (w4.there (w2.heap.size + 1) 0 (setA nomS (.slice (some ⟨g2, 0, none⟩) 2 2)).toArray.size) := Lib.hid (Z4.there (n := 27) (Nat.le_refl _))
  have G5 := grown_setCells (w2.heap.size + 1) (setA nomS (.slice (some ⟨g2, 0, none⟩) 2 2)).toArray.toList 0 w4 w4 (hself _ _)
  rw [hw5] at G5
  have C5 := far_cells C4 G5 (by omega)
  have E5 : CellsAt w5 (w2.heap.size + 1) (setA nomS (.slice (some ⟨g2, 0, none⟩) 2 2)) := by rw [← hw5]; exact Z4.row _ rfl
  have hb5 : Below w2.heap.size w2 w5 := (b3.grown G4 b3.size (fun j e => by cases e; exact Nat.le_refl _)).grown G5 (Nat.le_trans b3.size G4.size) (fun j e => by cases e; omega)
  have HO1 : Hid ((setA nomS (.slice (some ⟨g1, 0, none⟩) 2 2)).toArray.all (·.oneCell') = true) := Lib.hid (by kernel_rfl)
  have HO2 : Hid ((setA nomS (.slice (some ⟨g2, 0, none⟩) 2 2)).toArray.all (·.oneCell') = true) := Lib.hid (by kernel_rfl)
  have HR1 := Lib.hid (R1.later pointLay_len hb5 (Nat.le_refl _))
  have HR2 := Lib.hid (R2.later pointLay_len hb5 (Nat.le_refl _))
  have HK5 := Lib.hid (K1.later hb5 (Nat.lt_of_lt_of_le HK1.out.2.2 hb2.size))
  have HB5 := Lib.hid (B2.trans (hb5.mono B2.size))
  have Hg1 : Hid (w.heap.size ≤ g1) := Lib.hid HK1.out.2.1
  have HC5 := Lib.hid C5; have HE5 := Lib.hid E5
  have HW3 := Lib.hid hw3; have HW4 := Lib.hid hw4; have HW5 := Lib.hid hw5
  clear ho2 hb2 R1 R2 K1 B2 hw3 b3 Z1 Z2 hw4 hw5 hself G4 C4 Z4 G5 C5 E5 hb5 HK1 HB1
  go_upto_region 2 with (first | (refine wpList_store_mid rfl 37 (.tmp 3) (.tmp 13) rfl w2.heap.size 0 (setA nomS (.slice (some ⟨g1, 0, none⟩) 2 2)).toArray rfl rfl (by rw [HW3.out]; exact HT1.out) HIS.out HO1.out ?_; rw [HW3.out, HW4.out]) | (refine wpList_store_mid rfl 37 (.tmp 4) (.tmp 14) rfl (w2.heap.size + 1) 0 (setA nomS (.slice (some ⟨g2, 0, none⟩) 2 2)).toArray rfl rfl HT2.out HIS.out HO2.out ?_))
  rw [HW5.out]
  clear HW3 HW4 HW5 HT1 HT2 HO1 HO2
  go_wp2_with (refine wpList_load_mid rfl 37 (.tmp 3) rfl w2.heap.size 0 rfl _ _ HC5.out.range Tryz.underlying37 rfl HIS.out ?_)
  refine (new_yes (S := avS (fun c => c = g1)) HR1.out (nom_ok.withAv _) (fun c hc => by cases hc; exact HK5.out.lt)).mono ?_
  rintro e6 w6 ⟨b1, vp1, rfl, hb1, hW1, hb6, -⟩
  have HW1 := Lib.hid hW1
  have Hb1 : Hid (w5.heap.size ≤ b1) := Lib.hid hb1
  have HC6 := Lib.hid (HC5.out.call hb6)
  have HE6 := Lib.hid (HE5.out.call hb6)
  have HR6 := Lib.hid (HR2.out.later pointLay_len hb6 (Nat.le_refl _))
  have HK6 := Lib.hid (HK5.out.later hb6 HK5.out.lt)
  have HB6 := Lib.hid (HB5.out.trans (hb6.mono HB5.out.size))
  have Hbg1 : Hid (b1 ≠ g1) := Lib.hid (by have := HK5.out.lt; omega)
  have Hwb1 : Hid (w.heap.size ≤ b1) := Lib.hid (Nat.le_trans HB5.out.size hb1)
  clear hb1 hW1 hb6 HR1 HR2 HC5 HE5 HK5 HB5
  go_upto_region 3 with (fail)
  go_wp2_with (refine wpList_load_mid rfl 37 (.tmp 4) rfl (w2.heap.size + 1) 0 rfl _ _ HE6.out.range Tryz.underlying37 rfl HIS.out ?_)
  refine (new_yes (S := avS (fun c => c = g1 ∨ c = b1)) HR6.out (nom_ok.withAv _) (fun c hc => by rcases hc with rfl | rfl; exact HK6.out.lt; exact HW1.out.lt)).mono ?_
  rintro e7 w7 ⟨b2, vp2, rfl, hb2, hW2, hb7, -⟩
  have Hb12 : b1 ≠ b2 := by have := HW1.out.lt; omega
  have hW1 : WAt w7 b1 (avS (fun c => c = g1 ∨ c = b2)) newD vp1 (.slice none 0 0) (.slice none 0 0) := HW1.out.more hb7 hb2 hW2.lt
  have HB7 := HB6.out.trans (hb7.mono HB6.out.size)
  have HT7 : Hid (Two w w7 b1 b2 (fun c => c = g1 ∨ c = b2) (fun c => c = g1 ∨ c = b1) newD newD (vp1, .slice none 0 0, .slice none 0 0, vp2, .slice none 0 0, .slice none 0 0)) := Lib.hid ⟨HB7, Hwb1.out, Nat.le_trans HB6.out.size hb2, Hb12, .inr rfl, .inr rfl, hW1, hW2⟩
  have C7 := HC6.out.call hb7
  have HK7 := Lib.hid (HK6.out.later hb7 HK6.out.lt)
  have Hbg2 : Hid (b2 ≠ g1) := Lib.hid (by have := HK6.out.lt; omega)
  have s22 : w7.cell? ⟨w2.heap.size, 22, none⟩ = some (.slice (some ⟨g1, 0, none⟩) 2 2) := C7.at_ 22 rfl
  have sz := C7.lt
  clear hb2 hW2 hb7 hW1 HB7 C7 HW1 HC6 HE6 HR6 HK6 HB6 Hb12
  go_upto_region 6 with (fail)
  go_wp2_with fail
  refine (spoil_point g1 2 2 0 0 0 _ HK7.out (by omega) (by omega)).mono ?_
  rintro e8 w8 ⟨rfl, hg8⟩
  have HT8 : Hid (Two w w8 b1 b2 (fun c => c = g1 ∨ c = b2) (fun c => c = g1 ∨ c = b1) (runD nomS xs 0) (runD nomS xs 0) (vp1, .slice none 0 0, .slice none 0 0, vp2, .slice none 0 0, .slice none 0 0)) := Lib.hid ⟨below_of_grown HT7.out.below hg8 Hg1.out HT7.out.below.size, HT7.out.h1, HT7.out.h2, HT7.out.ne, .inr rfl, .inr rfl, HT7.out.W1.far hg8 Hbg1.out (.inl rfl), HT7.out.W2.far hg8 Hbg2.out (.inl rfl)⟩
  clear hg8 HT7 HK7 s22 sz
  go_wp2_with fail
  go_loopw [45] (fun i wr => LRel w b1 b2 xs i wr) (fun i _ => xs.length - (intOf i).toNat)
  case atStart => exact ⟨0, Nat.zero_le _, rfl, _, _, _, HT8.out⟩
  case round =>
    clear HT8
    obtain ⟨k, hk, rfl, a1, a2, ⟨vp1, vl1, vg1, vp2, vl2, vg2⟩, hT⟩ := hrel
    have HT := Lib.hid hT
    clear hT
    by_cases hk1 : k < xs.length
    · have hk2 : (k : Int) < (xs.length : Int) := by omega
      have hk3 : (0 : Int) ≤ (k : Int) := by omega
      have hwk : IntKind.i64.wrap ((k : Int) + 1) = (k : Int) + 1 := IntWalk.i64_in _ (by omega)
      go_upto_region 9 with (fail)
      obtain ⟨wo, hwo⟩ : ∃ x, x = wr := ⟨_, rfl⟩
      subst hwo
      obtain ⟨bx, ox, hla, hrow, hbx⟩ := recs_row HX.out hk1
      subst hla
      obtain ⟨I, hI⟩ : ∃ x, xs.getD k default = x := ⟨_, rfl⟩
      rw [hI] at hrow
      have HRW : Hid (wo.rangeAt bx (ox + k * 12) (inL I)) := Lib.hid (fun j v hj => by rw [HT.out.below.cell (p := ⟨bx, ox + k * 12 + j, none⟩) hbx]; exact hrow j v hj)
      have HIok : Hid (InpOk I) := Lib.hid (HOK.out I (by rw [← hI, List.getD_eq_getElem?_getD, List.getElem?_eq_getElem hk1]; exact List.getElem_mem hk1))
      obtain ⟨w11, hw11⟩ : ∃ x, wo.alloc (.cells #[.string ⟨#[]⟩, .int .i32 0, .int .i32 0, .int .i32 0, .int .i64 0, .int .i64 0, .int .i64 0, .int .i64 0, .bool false, .int .i64 0, .bool false, .int .i64 0] 48) = x := ⟨_, rfl⟩
      obtain ⟨w12, hw12⟩ : ∃ x, w11.setCells wo.heap.size 0 (inL I).toArray.toList = x := ⟨_, rfl⟩
      obtain ⟨HTH, C12, b12⟩ := box_new (L := inL I) (Z := [.string ⟨#[]⟩, .int .i32 0, .int .i32 0, .int .i32 0, .int .i64 0, .int .i64 0, .int .i64 0, .int .i64 0, .bool false, .int .i64 0, .bool false, .int .i64 0]) rfl hw11 rfl hw12
      have HTH := Lib.hid HTH
      have HON : Hid ((inL I).toArray.all (·.oneCell') = true) := Lib.hid (by kernel_rfl)
      have Hi1 : Hid (wo.heap.size ≠ b1) := Lib.hid (by have := HT.out.W1.lt; omega)
      have Hi2 : Hid (wo.heap.size ≠ b2) := Lib.hid (by have := HT.out.W2.lt; omega)
      have HT12 := Lib.hid (HT.out.call b12)
      have HC12 := Lib.hid C12
      have HW11 := Lib.hid hw11; have HW12 := Lib.hid hw12
      have HIe := Lib.hid hI
      clear hrow hI hw11 hw12 C12 b12 HT
      go_upto_region 10 with (first | (refine wpList_load_mid rfl 48 (.tmp 47) rfl _ _ rfl _ _ HRW.out Tryz.underlying48 rfl HI12.out ?_) | (refine wpList_store_mid rfl 48 (.tmp 10) (.tmp 48) rfl wo.heap.size 0 (inL I).toArray rfl rfl (by rw [HW11.out]; exact HTH.out) HI12.out HON.out ?_))
      rw [HW11.out, HW12.out]
      clear HW11 HW12 HTH HON HRW
      go_wp2_with (refine wpList_load_mid rfl 48 (.tmp 10) rfl wo.heap.size 0 rfl _ _ HC12.out.range Tryz.underlying48 rfl HI12.out ?_)
      obtain ⟨D0, hD0⟩ : ∃ x, runD nomS xs k = x := ⟨_, rfl⟩
      obtain ⟨D1, hD1⟩ : ∃ x, runD nomS xs (k + 1) = x := ⟨_, rfl⟩
      have HG0 : Hid (DynOk nomS D0) := Lib.hid (by rw [← hD0]; exact runD_good nom_ok xs k)
      have HFR : Hid (∀ a, frameL (avS a) D0 I = D1) := Lib.hid (fun a => by rw [← hD0, ← hD1, ← HIe.out]; exact frameL_av nomS _ _ _)
      have HLN : Hid (D1.log.length ≤ 9223372036854775807) := Lib.hid (by rw [← hD1]; have := (runD_good nom_ok xs (k + 1)).log.1; omega)
      rw [hD0] at HT12
      have HD1 := Lib.hid hD1
      have HT12S : Hid (w.heap.size ≤ w12.heap.size) := Lib.hid HT12.out.below.size
      clear hD0 hD1 HIe
      have hfr := wframe_is (I := I) HT12.out.W1 (nom_ok.withAv _) (HG0.out.withAv _) HIok.out
      rw [HFR.out] at hfr
      refine hfr.mono ?_
      clear hfr
      rintro e13 w13 ⟨v13, vl13, vg13, rfl, hW, hg, hO, hA⟩
      obtain ⟨a1', a2', T13, hcl⟩ := two_left HT12.out hW hg hO hA
      obtain ⟨q13, c13, hv⟩ := own_sliceW hO
      subst hv
      have hob : ∀ c, (Value.slice q13 D1.log.length c13).ownBlock = some c → w12.heap.size ≤ c := fun c hc => by
        rcases hO.2 with ⟨h, -⟩ | ⟨g, cap, cur, h, h2, -⟩
        · rw [h] at hc; cases hc
        · rw [h] at hc; cases hc; exact h2
      have C13 := far_cells HC12.out hg Hi1.out
      obtain ⟨w14, hw14⟩ : ∃ x, w13.alloc (.cells #[.int .i64 0, .int .i64 0, .bool false, .bool false, .int .i64 0, .bool false, .int .i64 0, .int .i64 0, .bool false, .int .i64 0, .int .i64 0, .bool false, .int .i64 0, .int .i64 0, .bool false, .int .i64 0, .int .i64 0, .int .i64 0, .bool false, .int .i32 0, .int .i32 0, .int .i32 0, .int .i32 0, .int .i32 0, .int .i32 0, .int .i32 0, .slice none 0 0] 62) = x := ⟨_, rfl⟩
      obtain ⟨w15, hw15⟩ : ∃ x, w14.setCells w13.heap.size 0 (statL D1 (.slice q13 D1.log.length c13)).toArray.toList = x := ⟨_, rfl⟩
      obtain ⟨HTH, X15, b15⟩ := box_new (L := statL D1 (.slice q13 D1.log.length c13)) (Z := [.int .i64 0, .int .i64 0, .bool false, .bool false, .int .i64 0, .bool false, .int .i64 0, .int .i64 0, .bool false, .int .i64 0, .int .i64 0, .bool false, .int .i64 0, .int .i64 0, .bool false, .int .i64 0, .int .i64 0, .int .i64 0, .bool false, .int .i32 0, .int .i32 0, .int .i32 0, .int .i32 0, .int .i32 0, .int .i32 0, .int .i32 0, .slice none 0 0]) rfl hw14 rfl hw15
      have HTH := Lib.hid HTH
      have HON : Hid ((statL D1 (.slice q13 D1.log.length c13)).toArray.all (·.oneCell') = true) := Lib.hid (by kernel_rfl)
      have Hx2 : Hid (w13.heap.size ≠ b2) := Lib.hid (by have := T13.W2.lt; omega)
      have HT15 := Lib.hid (T13.call b15)
      have HC15 := Lib.hid (C13.call b15)
      have HX15 := Lib.hid X15
      have HTX15 := Lib.hid ((told_own hO).call b15)
      have HCL := Lib.hid hcl
      have HOB := Lib.hid hob
      have HW14 := Lib.hid hw14; have HW15 := Lib.hid hw15
      clear hW hg hO hA T13 hcl hob C13 hw14 hw15 X15 b15 HT12 HC12
      go_upto_region 11 with (refine wpList_store_mid rfl 62 (.tmp 11) (.tmp 51) rfl w13.heap.size 0 (statL D1 (.slice q13 D1.log.length c13)).toArray rfl rfl (by rw [HW14.out]; exact HTH.out) HI27.out HON.out ?_)
      rw [HW14.out, HW15.out]
      clear HW14 HW15 HTH HON
      go_wp2_with (refine wpList_load_mid rfl 48 (.tmp 10) rfl wo.heap.size 0 rfl _ _ HC15.out.range Tryz.underlying48 rfl HI12.out ?_)
      have hfr := wframe_is (I := I) HT15.out.W2 (nom_ok.withAv _) (HG0.out.withAv _) HIok.out
      rw [HFR.out] at hfr
      refine hfr.mono ?_
      clear hfr
      rintro e16 w16 ⟨v16, vl16, vg16, rfl, hW, hg, hO, -⟩
      have T16 := HT15.out.right hW hg
      obtain ⟨q16, c16, hv⟩ := own_sliceW hO
      subst hv
      have TX16 := HTX15.out.far hg (fun c hc => (HCL.out c hc).2.1)
      have X16 := far_cells HX15.out hg Hx2.out
      obtain ⟨w17, hw17⟩ : ∃ x, w16.alloc (.cells #[.int .i64 0, .int .i64 0, .bool false, .bool false, .int .i64 0, .bool false, .int .i64 0, .int .i64 0, .bool false, .int .i64 0, .int .i64 0, .bool false, .int .i64 0, .int .i64 0, .bool false, .int .i64 0, .int .i64 0, .int .i64 0, .bool false, .int .i32 0, .int .i32 0, .int .i32 0, .int .i32 0, .int .i32 0, .int .i32 0, .int .i32 0, .slice none 0 0] 62) = x := ⟨_, rfl⟩
      obtain ⟨w18, hw18⟩ : ∃ x, w17.setCells w16.heap.size 0 (statL D1 (.slice q16 D1.log.length c16)).toArray.toList = x := ⟨_, rfl⟩
      obtain ⟨HTH, Y18, b18⟩ := box_new (L := statL D1 (.slice q16 D1.log.length c16)) (Z := [.int .i64 0, .int .i64 0, .bool false, .bool false, .int .i64 0, .bool false, .int .i64 0, .int .i64 0, .bool false, .int .i64 0, .int .i64 0, .bool false, .int .i64 0, .int .i64 0, .bool false, .int .i64 0, .int .i64 0, .int .i64 0, .bool false, .int .i32 0, .int .i32 0, .int .i32 0, .int .i32 0, .int .i32 0, .int .i32 0, .int .i32 0, .slice none 0 0]) rfl hw17 rfl hw18
      have HTH := Lib.hid HTH
      have HON : Hid ((statL D1 (.slice q16 D1.log.length c16)).toArray.all (·.oneCell') = true) := Lib.hid (by kernel_rfl)
      have HT18 := Lib.hid (T16.call b18)
      have HX18 := Lib.hid (X16.call b18)
      have HY18 := Lib.hid Y18
      have HTX18 := Lib.hid (TX16.call b18)
      have HTY18 := Lib.hid ((told_own hO).call b18)
      have HW17 := Lib.hid hw17; have HW18 := Lib.hid hw18
      clear hW hg hO T16 TX16 X16 hw17 hw18 Y18 b18 HT15 HC15 HX15 HTX15
      go_upto_region 12 with (refine wpList_store_mid rfl 62 (.tmp 12) (.tmp 54) rfl w16.heap.size 0 (statL D1 (.slice q16 D1.log.length c16)).toArray rfl rfl (by rw [HW17.out]; exact HTH.out) HI27.out HON.out ?_)
      rw [HW17.out, HW18.out]
      clear HW17 HW18 HTH HON
      go_wp2_with (first | (refine wpList_load_mid rfl 62 (.tmp 11) rfl w13.heap.size 0 rfl _ _ HX18.out.range Tryz.underlying62 rfl HI27.out ?_) | (refine wpList_load_mid rfl 62 (.tmp 12) rfl w16.heap.size 0 rfl _ _ HY18.out.range Tryz.underlying62 rfl HI27.out ?_))
      refine (same_is HTX18.out.recs HTY18.out.recs HLN.out).mono ?_
      rintro e19 w19 ⟨rfl, hb19⟩
      have HT19 := Lib.hid (HT18.out.call hb19)
      have X19 := HX18.out.call hb19
      have HTX19 := Lib.hid (HTX18.out.call hb19)
      have x26 : w19.cell? ⟨w13.heap.size, 26, none⟩ = some (.slice q13 D1.log.length c13) := X19.at_ 26 rfl
      have xz := X19.lt
      clear hb19 X19 HT18 HX18 HY18 HTX18 HTY18
      go_upto_region 14 with (fail)
      go_wp2_with fail
      refine (spoil_told HTX19.out).mono ?_
      rintro e20 w20 ⟨rfl, hg20⟩
      have HT20 := Lib.hid (HT19.out.opt hg20 HCL.out (fun c hc => Nat.le_trans HT12S.out (HOB.out c hc)))
      clear hg20 HT19 HTX19 x26 xz HCL HOB
      go_wp2_with fail
      go_roundw
      (case rel => exact ⟨k + 1, by omega, by simp, _, _, _, by rw [HD1.out]; exact HT20.out⟩)
      (case measure => simp [intOf]; omega)
    · obtain rfl : k = xs.length := by omega
      have HG := Lib.hid (runD_good nom_ok xs xs.length)
      obtain ⟨D1, hD1⟩ : ∃ x, runD nomS xs xs.length = x := ⟨_, rfl⟩
      rw [hD1] at HT HG
      have HLN : Hid (D1.log.length ≤ 9223372036854775807) := Lib.hid (by have := HG.out.log.1; omega)
      clear hD1
      go_wp2_with fail
      refine (status_is HT.out.W1 (HG.out.withAv _)).mono ?_
      rintro e21 w21 ⟨v21, rfl, hO21, hb21⟩
      have HT21 := Lib.hid (HT.out.call hb21)
      have HX21 := Lib.hid (told_own hO21)
      clear hO21 hb21
      go_wp2_with fail
      refine (status_is HT21.out.W2 (HG.out.withAv _)).mono ?_
      rintro e22 w22 ⟨v22, rfl, hO22, hb22⟩
      have HB22 := Lib.hid (HT21.out.call hb22).below
      have HX22 := Lib.hid (HX21.out.call hb22)
      have HY22 := Lib.hid (told_own hO22)
      clear hO22 hb22 HT21 HX21
      go_wp2_with fail
      refine (same_is HX22.out.recs HY22.out.recs HLN.out).mono ?_
      rintro e23 w23 ⟨rfl, hb23⟩
      go_wp2_with fail
      go_ret
      exact ⟨rfl, HB22.out.trans (hb23.mono HB22.out.size)⟩
theorem law (la : Option Addr) (ll lc : Nat) (ls : List Inp) (w : World) (hls : IsRecs 12 inL InpOk w la ll lc ls) (hcap : ll ≤ lc ∧ lc * 96 ≤ 140737488351232) :
    Calls Tryz.prog 8 #[.slice la ll lc] w fun e w' => e = .returned (.bool true) ∧ Below w.heap.size w w' := by
  obtain ⟨l1, l2, l3⟩ := isRecs_recs hls (by omega) inL_len
  have h := @way (ls.take ll) la lc w (by rw [l2]; exact l1) l3 (by rw [l2]; omega)
  rw [l2] at h
  exact h
set_option maxRecDepth 100000 in
theorem lifted (os : Os) (started : os.Started) (H : Type) (enc : TypeId × Value → H) :
    ReturnsInHanded {} Tryz.checked os 8 .any (Rows.worldOwnSpec.pre6 enc Tryz.prog Tryz.f8 Rows.worldOwnRow.domain false) (Rows.worldOwnSpec.post enc Tryz.prog Tryz.f8 false true false false) := by
  refine returnsInHanded_of_change_sized (C := Tryz.checked) own started (by kernel_rfl) Tryz.func8
    (ChangeSpec.witness6 (enc := enc) (C := Tryz.checked) false ⟨#[], #[.slice none 0 0], []⟩ 8 (by kernel_rfl) (by kernel_rfl) (by kernel_rfl) (by kernel_rfl)) ?_
  intro W base args ds gs before hval0 hW hcnd hsz0 _
  have hsz : (DataW.weightsEach Tryz.prog (Tryz.f8.params.toList ++ Rows.worldOwnSpec.plain.varTypes Tryz.prog) (ds ++ gs)).all (· ≤ reachBytes) = true := hsz0
  have hval : ∀ (j : Nat) t v, Tryz.f8.params[j]? = some t → args[j]? = some v → Value.okWide Tryz.prog W .any base t v := hval0
  have hW' := hW
  obtain ⟨p, q, hA0, hV, rfl, hfz, hnd⟩ := hW
  have hA : DataW.TrodAll enc Tryz.prog W 0 (fun _ => true) true Tryz.f8.params.toList args.toList ds p := hA0
  rw [Tryz.params8] at hA hval hsz
  obtain ⟨v0, vs0, d0, ds0, p0, q0, hargs, rfl, rfl, h0, r0⟩ := trodAll_cons hA
  obtain ⟨rfl, rfl, rfl⟩ := trodAll_nil r0
  obtain rfl : args = #[v0] := by cases args; simp_all
  obtain ⟨rfl, rfl⟩ := trodVars_none hV
  have k0 := h0
  have lt0 : ∀ x ∈ p0, x.block < W.heap.size := by obtain ⟨m, hm⟩ := k0; exact DataW.trod_lt m _ _ _ hm
  obtain ⟨sa0, sl0, sc0, rfl⟩ := okWide_slice Tryz.underlying38 (hval 0 38 v0 rfl rfl)
  obtain ⟨a0, len0, cap0, z0, e0, w0⟩ := leaf_recsW (ts := [9, 21, 21, 21, 3, 3, 3, 3, 4, 3, 4, 3]) 12 inL InpOk 12 (Tryz.underlying38) (by kernel_rfl) (by kernel_rfl) rfl inp_dec (by obtain ⟨fuel, hf⟩ := h0; exact ⟨fuel, _, by simpa [Value.cells] using hf, weights_of hsz (j := 0) (t := 38) rfl rfl⟩)
  simp only [Value.slice.injEq] at e0
  obtain ⟨rfl, rfl, rfl⟩ := e0
  have R0 := cap_le (B := 96) Tryz.underlying38 k0 (fun elems spare hd => by have := sized_slice hsz (j := 0) (t := 38) (e := 48) (elems := elems) (spare := spare) rfl (by rw [← hd]; rfl) Tryz.underlying38; exact this)
  clear hA0 hval0
  refine (law sa0 sl0 sc0 z0 W w0 R0).mono fun e W' ⟨he, bel⟩ => ?_
  subst he
  exact ⟨_, rfl, _, _, _, [], _, [], hW', trodAll_mk1 (shut_bool Tryz.underlying4 _), (trodAll_cons_mk (Below.trod laidOut (by kernel_rfl) (of_decide_eq_true (by kernel_rfl)) k0 bel lt0) trodAll_mk0), rfl, bel.frame _, fun h => by cases h⟩
theorem over : Rows.worldOwnRow.holds Tryz.pinned (OpenSpec.ofChange Rows.worldOwnSpec) :=
  OpenClaim.holds_of_wide 8 Tryz.f8 rfl rfl rfl rfl rfl rfl rfl ⟨rfl, rfl, rfl, rfl, rfl⟩ rfl rfl rfl rfl rfl (by kernel_rfl) Tryz.func8 (by kernel_rfl)
    (of_decide_eq_true (by kernel_rfl)) (by unfold Func.isWrapper; first | (rw [if_pos (by decide +kernel)]; kernel_rfl) | (rw [if_neg (by decide +kernel)]; exact ⟨rfl, rfl⟩))
    (fun os started H enc _ => lifted os started H enc)
theorem proved : Rows.WorldOwnSaid := over
#print axioms proved

end Go.Proofs.YtlagmebnjagoaaaGreat.worldOwn
