/- What is read of an argument that is a struct or an array by value: each of its cells by itself. Plain lemmas over any program. -/
import Derived.Test.YtiocgmioijcjhaaRows
import Derived.WalkKit
import Derived.ProofKit
import Derived.OpenShut
import Derived.ShutString
import Derived.ChangeOld
import Derived.Below
import Derived.WalkSpells
import Derived.SizedLaws
namespace Go.Proofs.Ytiocgmioijcjhaa.Open
open Go.ChangeShapes Go.WideShapes Go.ChangeAt Go.RowKit

/-- The cells' types of a type, structs and arrays taken apart; none where the offsets do not follow one another. -/
def flatFields (g : TypeId → Option (List TypeId)) (size : TypeId → Nat) : Nat → List (TypeId × Nat) → Option (List TypeId)
  | _, [] => some []
  | o, (t, off) :: r =>
    if off = o then
      match g t with
      | some l => if l.length = size t then (flatFields g size (o + l.length) r).map (l ++ ·) else none
      | none => none
    else none
def flat (P : Program) : Nat → TypeId → Option (List TypeId)
  | 0, _ => none
  | n + 1, t =>
    match P.underlying t with
    | some (.struct fs) => flatFields (flat P n) P.cellsOf 0 (fs.toList.map fun f => (f.type, f.offset))
    | some (.array k e) =>
      match flat P n e with
      | some l => if l.length = P.cellsOf e then some ((List.replicate k l).flatten) else none
      | none => none
    | some .bool => some [t]
    | some (.int _) => some [t]
    | some (.float _) => some [t]
    | some .string => some [t]
    | some (.slice _) => some [t]
    | _ => none

section
variable {H : Type} {enc : TypeId × Value → H} {P : Program} {w : World} {base : Nat} {spare : Nat → Bool} {held : Bool}

/-- Each cell reads by its type. -/
def Leafs (enc : TypeId × Value → H) (P : Program) (w : World) (base : Nat) (spare : Nat → Bool) (held : Bool) : List TypeId → List Value → Prop
  | [], [] => True
  | t :: ts, c :: cs => (∃ m y, DataW.trod enc P w base spare held m t [c] = some y) ∧ Leafs enc P w base spare held ts cs
  | _, _ => False

theorem leafs_nil {cs : List Value} (h : Leafs enc P w base spare held [] cs) : cs = [] := by
  cases cs with
  | nil => rfl
  | cons c cs => exact absurd h (by simp [Leafs])
theorem leafs_cons {t : TypeId} {ts : List TypeId} {cs : List Value} (h : Leafs enc P w base spare held (t :: ts) cs) :
    ∃ c r, cs = c :: r ∧ (∃ m y, DataW.trod enc P w base spare held m t [c] = some y) ∧ Leafs enc P w base spare held ts r := by
  cases cs with
  | nil => exact absurd h (by simp [Leafs])
  | cons c cs => exact ⟨c, cs, rfl, h.1, h.2⟩
theorem leafs_append {ts us : List TypeId} {cs ds : List Value} (h : Leafs enc P w base spare held ts cs) (k : Leafs enc P w base spare held us ds) :
    Leafs enc P w base spare held (ts ++ us) (cs ++ ds) := by
  induction ts generalizing cs with
  | nil => obtain rfl := leafs_nil h; simpa using k
  | cons t ts ih => obtain ⟨c, r, rfl, hc, hr⟩ := leafs_cons h; exact ⟨hc, ih hr⟩

theorem leafs_fields {g : TypeId → Option (List TypeId)} {size : TypeId → Nat} {cs : List Value} (all : List (TypeId × Nat)) (o : Nat) (ts : List TypeId)
    (hg : ∀ t l sub, g t = some l → sub.length = l.length → (∃ m y, DataW.trod enc P w base spare held m t sub = some y) → Leafs enc P w base spare held l sub)
    (hf : flatFields g size o all = some ts) (hlen : cs.length = o + ts.length)
    (hr : ∀ x, x ∈ all → ∃ m y, DataW.trod enc P w base spare held m x.1 ((cs.drop x.2).take (size x.1)) = some y) :
    Leafs enc P w base spare held ts (cs.drop o) := by
  induction all generalizing o ts with
  | nil =>
    simp only [flatFields, Option.some.injEq] at hf
    subst hf
    simp only [List.length_nil, Nat.add_zero] at hlen
    rw [List.drop_of_length_le (by omega)]
    trivial
  | cons x all ih =>
    obtain ⟨t, off⟩ := x
    simp only [flatFields] at hf
    by_cases h1 : off = o
    · rw [if_pos h1] at hf
      subst h1
      cases h2 : g t with
      | none => rw [h2] at hf; simp at hf
      | some l =>
        rw [h2] at hf
        simp only at hf
        by_cases h3 : l.length = size t
        · rw [if_pos h3] at hf
          obtain ⟨us, h4, rfl⟩ := Option.map_eq_some_iff.1 hf
          simp only [List.length_append] at hlen
          have h5 := hr (t, off) (List.mem_cons_self)
          have h6 := hg t l ((cs.drop off).take (size t)) h2 (by simp; omega) h5
          have h7 := ih (off + l.length) us h4 (by omega) (fun x hx => hr x (List.mem_cons_of_mem _ hx))
          have h8 := leafs_append h6 h7
          rwa [← h3, ← List.drop_drop, List.take_append_drop] at h8
        · rw [if_neg h3] at hf; simp at hf
    · rw [if_neg h1] at hf; simp at hf

theorem leafs_array {l : List TypeId} {sz : Nat} (_hsz : l.length = sz) (k : Nat) (cs : List Value) (hlen : cs.length = k * sz)
    (hr : ∀ i, i < k → Leafs enc P w base spare held l ((cs.drop (i * sz)).take sz)) :
    Leafs enc P w base spare held ((List.replicate k l).flatten) cs := by
  induction k generalizing cs with
  | zero =>
    simp only [Nat.zero_mul, List.length_eq_zero_iff] at hlen
    subst hlen
    trivial
  | succ k ih =>
    have h0 := hr 0 (by omega)
    simp only [Nat.zero_mul, List.drop_zero] at h0
    have h1 := ih (cs.drop sz) (by rw [List.length_drop, hlen, Nat.succ_mul]; omega) (fun i hi => by
      have := hr (i + 1) (by omega)
      rwa [Nat.succ_mul, Nat.add_comm, ← List.drop_drop] at this)
    have h2 := leafs_append h0 h1
    rw [List.take_append_drop] at h2
    simpa [List.replicate_succ] using h2

theorem leafs_of_trod (n : Nat) : ∀ (t : TypeId) (ts : List TypeId) (cs : List Value) (m : Nat) (y : DataW H × List MemPlace),
    flat P n t = some ts → cs.length = ts.length → DataW.trod enc P w base spare held m t cs = some y → Leafs enc P w base spare held ts cs := by
  induction n with
  | zero => intro t ts cs m y h; simp [flat] at h
  | succ n ih =>
    intro t ts cs m y h hlen ht
    have leaf : some [t] = some ts → Leafs enc P w base spare held ts cs := by
      intro h2
      simp only [Option.some.injEq] at h2
      subst h2
      match cs, hlen with
      | [c], _ => exact ⟨⟨m, y, ht⟩, trivial⟩
    simp only [flat] at h
    split at h
    · rename_i fs hu
      obtain ⟨xs, m', rfl, rfl, hl, hsz, hx⟩ := DataW.trod_struct hu ht
      have := leafs_fields (cs := cs) _ 0 ts (fun t' l sub hl' hs ⟨m2, y2, h2⟩ => ih t' l sub m2 y2 hl' hs h2) h (by omega) (by
        intro x hx'
        obtain ⟨f, hf, rfl⟩ := List.mem_map.1 hx'
        obtain ⟨i, hi, hfi⟩ := List.getElem_of_mem hf
        have h3 := hx i f (by simp at hi hfi; simp [hi, hfi])
        have h4 : i < xs.length := by simp at hi; omega
        rw [List.getElem?_eq_getElem h4] at h3
        exact ⟨_, _, h3⟩)
      simpa using this
    · rename_i k e hu
      cases he : flat P n e with
      | none => rw [he] at h; simp at h
      | some l =>
        rw [he] at h
        simp only at h
        by_cases h3 : l.length = P.cellsOf e
        · rw [if_pos h3] at h
          simp only [Option.some.injEq] at h
          subst h
          obtain ⟨xs, m', rfl, rfl, hl, hsz, hx⟩ := DataW.trod_array hu ht
          have hlen' : cs.length = k * P.cellsOf e := by rw [hlen]; simp [h3]
          refine leafs_array h3 k cs hlen' (fun i hi => ?_)
          have h4 := hx i hi
          rw [List.getElem?_eq_getElem (by omega)] at h4
          refine ih e l _ _ _ he ?_ h4
          have : (i + 1) * P.cellsOf e ≤ k * P.cellsOf e := Nat.mul_le_mul_right _ (by omega)
          rw [Nat.succ_mul] at this
          simp only [List.length_take, List.length_drop]
          omega
        · rw [if_neg h3] at h; simp at h
    · exact leaf h
    · exact leaf h
    · exact leaf h
    · exact leaf h
    · exact leaf h
    · simp at h

/-- A struct or an array by value: its cells. -/
theorem open_flat {r : Reach} {b0 : Nat} {t : TypeId} {v : Value} {d : DataW H} {ps : List MemPlace} (n : Nat) (ts : List TypeId)
    (hfl : flat P n t = some ts) (hc : P.cellsOf t = ts.length) (hsa : (match P.underlying t with | some (.struct _) => true | some (.array _ _) => true | _ => false) = true)
    (hval : Value.okWide P w r b0 t v) (hd : DataW.Trod enc P w base spare held t v d ps) :
    ∃ cs : List Value, v = .agg cs.toArray ∧ Leafs enc P w base spare held ts cs := by
  have h1 : ∃ cs, v = .agg cs ∧ cs.size = P.cellsOf t := by
    unfold Value.okWide at hval
    revert hsa hval
    cases P.underlying t with
    | none => simp
    | some u =>
      cases u with
      | struct fs => rintro _ ⟨cs, a, b, _⟩; exact ⟨cs, a, b⟩
      | array k e => rintro _ ⟨cs, a, b, _⟩; exact ⟨cs, a, b⟩
      | _ => simp
  obtain ⟨cs, rfl, hs⟩ := h1
  obtain ⟨m, hm⟩ := hd
  exact ⟨cs.toList, by simp, leafs_of_trod n t ts cs.toList m _ hfl (by simp [hs, hc]) (by simpa [Value.cells] using hm)⟩

theorem leaf_int {t : TypeId} {k : IntKind} {c : Value} (ht : P.underlying t = some (.int k)) (h : ∃ m y, DataW.trod enc P w base spare held m t [c] = some y) :
    ∃ n, c = .int k n ∧ (Lit.int k n).wf = true := by
  obtain ⟨m, y, h⟩ := h
  obtain ⟨n, h1, _, h2⟩ := DataW.trod_int ht h
  simp only [List.cons.injEq, and_true] at h1
  exact ⟨n, h1, h2⟩
theorem leaf_bool {t : TypeId} {c : Value} (ht : P.underlying t = some .bool) (h : ∃ m y, DataW.trod enc P w base spare held m t [c] = some y) :
    ∃ b, c = .bool b := by
  obtain ⟨m, y, h⟩ := h
  obtain ⟨n, h1, _⟩ := DataW.trod_bool ht h
  simp only [List.cons.injEq, and_true] at h1
  exact ⟨n, h1⟩
theorem leaf_string {t : TypeId} {c : Value} (ht : P.underlying t = some .string) (h : ∃ m y, DataW.trod enc P w base spare held m t [c] = some y) :
    ∃ s : ByteArray, c = .string s ∧ s.size ≤ maxLen := by
  obtain ⟨m, y, h⟩ := h
  obtain ⟨n, h1, _, h2⟩ := DataW.trod_string ht h
  simp only [List.cons.injEq, and_true] at h1
  exact ⟨n, h1, h2⟩

/-- Behind a call that made memory: all old cells and marks read as before. -/
theorem bcell {W w1 : World} (hb : Below W.heap.size W w1) : (∀ b o, b < W.heap.size → w1.cell? ⟨b, o, none⟩ = W.cell? ⟨b, o, none⟩) ∧ (∀ b o, b < W.heap.size → w1.frozen? ⟨b, o, none⟩ = W.frozen? ⟨b, o, none⟩) :=
  ⟨fun b o h => hb.cell (p := ⟨b, o, none⟩) h, fun b o h => hb.frozen (p := ⟨b, o, none⟩) h⟩

/-- What the walk is told of a slice of integers that came in. -/
def IsRow (k : IntKind) (w : World) (a : Option Addr) (len cap : Nat) (zs : List Int) : Prop :=
  (a = none ∧ len = 0 ∧ cap = 0 ∧ zs = []) ∨
  ∃ x, a = some x ∧ len ≤ cap ∧ cap ≤ maxLen ∧ zs.length = cap ∧ (∀ i, i < zs.length → w.cell? (x.add i) = some (.int k (zs.getD i 0))) ∧ ∀ n ∈ zs, (Lit.int k n).wf = true

theorem IsRow.pos {k : IntKind} {w : World} {a : Option Addr} {len cap : Nat} {zs : List Int} (h : IsRow k w a len cap zs) (h0 : 0 < len) :
    ∃ b off, a = some ⟨b, off, none⟩ ∧ len ≤ cap ∧ cap ≤ maxLen ∧ zs.length = cap ∧ (∀ i, i < cap → w.cell? ⟨b, off + i, none⟩ = some (.int k (zs.getD i 0))) ∧
      ∀ i, (Lit.int k (zs.getD i 0)).wf = true := by
  rcases h with ⟨_, rfl, _⟩ | ⟨x, rfl, hl, hm, hz, hcell, hwz⟩
  · omega
  · obtain ⟨b, off, spot⟩ := x
    have h1 := hcell 0 (by omega)
    have h2 : spot = none := by simpa [Addr.add] using World.cell?_spot h1
    subst h2
    refine ⟨b, off, rfl, hl, hm, hz, fun i hi => ?_, fun i => ?_⟩
    · have h3 := hcell i (by omega)
      by_cases h4 : i = 0
      · subst h4; simpa [Addr.add] using h3
      · simpa [Addr.add, h4] using h3
    · by_cases hi : i < zs.length
      · have := hwz zs[i] (List.getElem_mem hi)
        simpa [List.getD_eq_getElem?_getD, hi] using this
      · rw [List.getD_eq_getElem?_getD, List.getElem?_eq_none (by omega)]; cases k <;> decide
theorem IsRow.maxLen {k : IntKind} {w : World} {a : Option Addr} {len cap : Nat} {zs : List Int} (h : IsRow k w a len cap zs) : len ≤ cap ∧ cap ≤ 9223372036854775807 := by
  rcases h with ⟨_, rfl, rfl, _⟩ | ⟨x, rfl, hl, hm, _⟩
  · omega
  · unfold Go.maxLen at hm; omega

theorem leaf_ints {t e : TypeId} {k : IntKind} {c : Value} (ht : P.underlying t = some (.slice e)) (he : P.underlying e = some (.int k)) (hc : P.cellsOf e = 1)
    (h : ∃ m y, DataW.trod enc P w base (fun _ => true) held m t [c] = some y) :
    ∃ a len cap zs, c = .slice a len cap ∧ IsRow k w a len cap zs := by
  obtain ⟨m, y, h⟩ := h
  rcases open_ints ht he hc h with ⟨hcs, _⟩ | ⟨x, l, cp, zs, hcs, _, hl, hm, hz, hy, hcell, hwz⟩
  · simp only [List.cons.injEq, and_true] at hcs
    exact ⟨_, _, _, [], hcs, .inl ⟨rfl, rfl, rfl, rfl⟩⟩
  · simp only [List.cons.injEq, and_true] at hcs
    simp only [if_true] at hz
    exact ⟨_, _, _, zs, hcs, .inr ⟨x, rfl, hl, hm, hz, hcell, hwz⟩⟩
/-- A slice whose elements are flat: the rows of its cells, up to the capacity. -/
theorem leaf_rows {t e : TypeId} {c : Value} {ts : List TypeId} (n : Nat) (ht : P.underlying t = some (.slice e)) (hfl : flat P n e = some ts) (hc : P.cellsOf e = ts.length)
    (h : ∃ m y, DataW.trod enc P w base (fun _ => true) held m t [c] = some y) :
    ∃ a len cap, c = .slice a len cap ∧ ((a = none ∧ len = 0 ∧ cap = 0) ∨
      ∃ (x : Addr) (rows : List (List Value)), a = some x ∧ len ≤ cap ∧ cap ≤ maxLen ∧ rows.length = cap ∧
        ∀ i, i < cap → ∃ r, rows[i]? = some r ∧ Leafs enc P w base (fun _ => true) held ts r ∧ ∀ j, j < ts.length → w.cell? ((x.add (i * ts.length)).add j) = r[j]?) := by
  obtain ⟨m, y, h⟩ := h
  rcases DataW.trod_slice ht h with ⟨hcs, _⟩ | ⟨a, len, cap, elems, rest, m', _, hcs, _, hb, hl, hm, hlen, hel, hsp, _⟩
  · simp only [List.cons.injEq, and_true] at hcs
    exact ⟨_, _, _, hcs, .inl ⟨rfl, rfl, rfl⟩⟩
  · simp only [List.cons.injEq, and_true] at hcs
    obtain ⟨hrl, hr⟩ := hsp rfl
    have each : ∀ i, i < cap → ∃ r, (w.cells? base (a.add (i * ts.length)) ts.length = some r) ∧ ∃ y, DataW.trod enc P w base (fun _ => true) held m' e r = some y := by
      intro i hi
      have h1 : ∃ y, (w.cells? base (a.add (i * P.cellsOf e)) (P.cellsOf e)).bind (DataW.trod enc P w base (fun _ => true) held m' e) = some y := by
        by_cases h2 : i < len
        · rw [hel i h2, List.getElem?_eq_getElem (by omega)]; exact ⟨_, rfl⟩
        · have h3 := hr (i - len) (by omega)
          rw [show len + (i - len) = i by omega, List.getElem?_eq_getElem (by omega)] at h3
          exact ⟨_, h3⟩
      obtain ⟨y, h1⟩ := h1
      rw [hc, Option.bind_eq_some_iff] at h1
      obtain ⟨r, h2, h3⟩ := h1
      exact ⟨r, h2, y, h3⟩
    refine ⟨_, _, _, hcs, .inr ⟨a, (List.range cap).map (fun i => (w.cells? base (a.add (i * ts.length)) ts.length).getD []), rfl, hl, hm, by simp, fun i hi => ?_⟩⟩
    obtain ⟨r, h2, y, h3⟩ := each i hi
    have h4 := World.cells?_some h2
    refine ⟨r, by simp [hi, h2], leafs_of_trod n e ts r m' y hfl h4.2.1 h3, fun j hj => ?_⟩
    rw [h4.2.2 j hj]

/-- What the walk is told of a slice of bools that came in. -/
def IsRowB (w : World) (a : Option Addr) (len cap : Nat) (zs : List Bool) : Prop :=
  (a = none ∧ len = 0 ∧ cap = 0 ∧ zs = []) ∨
  ∃ x, a = some x ∧ len ≤ cap ∧ cap ≤ maxLen ∧ zs.length = cap ∧ ∀ i, i < zs.length → w.cell? (x.add i) = some (.bool (zs.getD i false))
theorem leaf_bools {t e : TypeId} {c : Value} (ht : P.underlying t = some (.slice e)) (he : P.underlying e = some .bool) (hc : P.cellsOf e = 1)
    (h : ∃ m y, DataW.trod enc P w base (fun _ => true) held m t [c] = some y) :
    ∃ a len cap zs, c = .slice a len cap ∧ IsRowB w a len cap zs := by
  have hf : flat P 1 e = some [e] := by unfold flat; rw [he]
  obtain ⟨a, len, cap, rfl, h | ⟨x, rows, rfl, hl, hm, hz, hrow⟩⟩ := leaf_rows 1 ht hf hc h
  · obtain ⟨rfl, rfl, rfl⟩ := h
    exact ⟨_, _, _, [], rfl, .inl ⟨rfl, rfl, rfl, rfl⟩⟩
  · refine ⟨_, _, _, rows.map (fun r => match r with | [.bool b] => b | _ => false), rfl, .inr ⟨x, rfl, hl, hm, by simpa using hz, fun i hi => ?_⟩⟩
    simp only [List.length_map] at hi
    obtain ⟨r, h1, h2, h3⟩ := hrow i (by omega)
    obtain ⟨c, r', rfl, h4, h5⟩ := leafs_cons h2
    obtain rfl := leafs_nil h5
    obtain ⟨b, rfl⟩ := leaf_bool he h4
    have h6 := h3 0 (by simp)
    simp only [List.length_singleton, Nat.mul_one, List.getElem?_cons_zero] at h6
    rw [List.getD_eq_getElem?_getD, List.getElem?_map, h1]
    simpa [Addr.add] using h6
/-- What the walk is told of a slice of structs that came in: each element lies as 'lay' says. -/
def IsRecs {α : Type} (k : Nat) (lay : α → List Value) (ok : α → Prop) (w : World) (a : Option Addr) (len cap : Nat) (xs : List α) : Prop :=
  (a = none ∧ len = 0 ∧ cap = 0 ∧ xs = []) ∨
  ∃ x, a = some x ∧ len ≤ cap ∧ cap ≤ maxLen ∧ xs.length = cap ∧ ∀ (i : Nat) y, xs[i]? = some y → ok y ∧ ∀ j, j < k → w.cell? ((x.add (i * k)).add j) = (lay y)[j]?
theorem leaf_recs {α : Type} [Inhabited α] {t e : TypeId} {c : Value} {ts : List TypeId} (k : Nat) (lay : α → List Value) (ok : α → Prop) (n : Nat) (ht : P.underlying t = some (.slice e)) (hfl : flat P n e = some ts) (hc : P.cellsOf e = ts.length) (hk : ts.length = k)
    (dec : ∀ r, Leafs enc P w base (fun _ => true) held ts r → ∃ x, r = lay x ∧ ok x)
    (h : ∃ m y, DataW.trod enc P w base (fun _ => true) held m t [c] = some y) :
    ∃ a len cap xs, c = .slice a len cap ∧ IsRecs k lay ok w a len cap xs := by
  obtain ⟨a, len, cap, rfl, h | ⟨x, rows, rfl, hl, hm, hz, hrow⟩⟩ := leaf_rows n ht hfl hc h
  · obtain ⟨rfl, rfl, rfl⟩ := h
    exact ⟨_, _, _, [], rfl, .inl ⟨rfl, rfl, rfl, rfl⟩⟩
  · have each : ∀ i : Nat, ∃ y : α, i < cap → ok y ∧ ∀ j, j < k → w.cell? ((x.add (i * k)).add j) = (lay y)[j]? := by
      intro i
      by_cases hi : i < cap
      · obtain ⟨r, h1, h2, h3⟩ := hrow i hi
        obtain ⟨y, rfl, h4⟩ := dec r h2
        exact ⟨y, fun _ => ⟨h4, fun j hj => by rw [hk] at h3; exact h3 j hj⟩⟩
      · exact ⟨default, fun h => absurd h hi⟩
    refine ⟨_, _, _, (List.range cap).map (fun i => Classical.choose (each i)), rfl, .inr ⟨x, rfl, hl, hm, by simp, fun i y hy => ?_⟩⟩
    rw [List.getElem?_map] at hy
    by_cases hi : i < cap
    · rw [List.getElem?_range hi] at hy
      simp only [Option.map_some, Option.some.injEq] at hy
      subst hy
      exact Classical.choose_spec (each i) hi
    · rw [List.getElem?_eq_none (by simp; omega)] at hy
      simp at hy
/-- The reach, of a slice: its capacity times its element's bytes. -/
theorem cap_le {t e : TypeId} {a : Option Addr} {len cap B : Nat} {d : DataW H} {ps : List MemPlace} (ht : P.underlying t = some (.slice e)) (hd : DataW.Trod enc P w base (fun _ => true) held t (.slice a len cap) d ps)
    (hs : ∀ elems spare, d = .slice elems spare → (elems.length + spare.length) * B ≤ reachBytes) : len ≤ cap ∧ cap * B ≤ 140737488351232 := by
  obtain ⟨m, h⟩ := hd
  rcases DataW.trod_slice ht h with ⟨hcs, _⟩ | ⟨a', len', cap', elems, rest, m', _, hcs, hx, hb, hl, hm, hlen, hel, hsp, _⟩
  · simp [Value.cells] at hcs
    obtain ⟨_, rfl, rfl⟩ := hcs
    omega
  · simp [Value.cells] at hcs
    obtain ⟨_, rfl, rfl⟩ := hcs
    have h1 := hs _ _ (congrArg Prod.fst hx)
    have h2 := (hsp rfl).1
    simp only [List.length_map, hlen, h2] at h1
    rw [show len + (cap - len) = cap from by omega] at h1
    exact ⟨hl, h1⟩
theorem IsRowB.pos {w : World} {a : Option Addr} {len cap : Nat} {zs : List Bool} (h : IsRowB w a len cap zs) (h0 : 0 < len) :
    ∃ b off, a = some ⟨b, off, none⟩ ∧ len ≤ cap ∧ cap ≤ maxLen ∧ zs.length = cap ∧ ∀ i, i < cap → w.cell? ⟨b, off + i, none⟩ = some (.bool (zs.getD i false)) := by
  rcases h with ⟨_, rfl, _⟩ | ⟨x, rfl, hl, hm, hz, hcell⟩
  · omega
  · obtain ⟨b, off, spot⟩ := x
    have h1 := hcell 0 (by omega)
    have h2 : spot = none := by simpa [Addr.add] using World.cell?_spot h1
    subst h2
    refine ⟨b, off, rfl, hl, hm, hz, fun i hi => ?_⟩
    have h3 := hcell i (by omega)
    by_cases h4 : i = 0
    · subst h4; simpa [Addr.add] using h3
    · simpa [Addr.add, h4] using h3
theorem IsRowB.later {w w' : World} {a : Option Addr} {len cap : Nat} {zs : List Bool} (h : IsRowB w a len cap zs) (hb : Below w.heap.size w w') : IsRowB w' a len cap zs := by
  rcases h with h | ⟨x, rfl, hl, hm, hz, hcell⟩
  · exact .inl h
  · exact .inr ⟨x, rfl, hl, hm, hz, fun i hi => cell_later hb (hcell i hi)⟩
theorem IsRow.later {k : IntKind} {w w' : World} {a : Option Addr} {len cap : Nat} {zs : List Int} (h : IsRow k w a len cap zs) (hb : Below w.heap.size w w') : IsRow k w' a len cap zs := by
  rcases h with h | ⟨x, rfl, hl, hm, hz, hcell, hwf⟩
  · exact .inl h
  · exact .inr ⟨x, rfl, hl, hm, hz, fun i hi => cell_later hb (hcell i hi), hwf⟩
theorem IsRowB.maxLen {w : World} {a : Option Addr} {len cap : Nat} {zs : List Bool} (h : IsRowB w a len cap zs) : len ≤ cap ∧ cap ≤ 9223372036854775807 := by
  rcases h with ⟨_, rfl, rfl, _⟩ | ⟨x, rfl, hl, hm, _⟩
  · omega
  · unfold Go.maxLen at hm; omega
end

theorem own : ownKnob Try.prog.godebug = none := by kernel_rfl
theorem laidOut : laidOutB Try.prog = true := by kernel_rfl
end Go.Proofs.Ytiocgmioijcjhaa.Open
