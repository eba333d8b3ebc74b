/- What is read of a struct by value, with the reach of the slices in it. -/
import Derived.Test.YtiocgmioijcjhaaOpen
namespace Go.Proofs.Ytiocgmioijcjhaa.Open
open Go.ChangeShapes Go.WideShapes Go.ChangeAt Go.RowKit
def flatS (P : Program) : Nat → TypeId → Option (List TypeId)
  | 0, _ => none
  | n + 1, t =>
    match P.underlying t with
    | some (.struct fs) => flatFields (flatS P n) P.cellsOf 0 (fs.toList.map fun f => (f.type, f.offset))
    | some .bool => some [t]
    | some (.int _) => some [t]
    | some .string => some [t]
    | some (.slice _) => some [t]
    | _ => none
section
variable {H : Type} {enc : TypeId × Value → H} {P : Program} {w : World} {base : Nat} {spare : Nat → Bool} {held : Bool}
/-- a cell reads by its type, and what is read is within reach -/
def LeafS (enc : TypeId × Value → H) (P : Program) (w : World) (base : Nat) (spare : Nat → Bool) (held : Bool) (t : TypeId) (cs : List Value) : Prop :=
  ∃ m y, DataW.trod enc P w base spare held m t cs = some y ∧ ∀ n ∈ y.1.weights P t, n ≤ reachBytes
def LeafsS (enc : TypeId × Value → H) (P : Program) (w : World) (base : Nat) (spare : Nat → Bool) (held : Bool) : List TypeId → List Value → Prop
  | [], [] => True
  | t :: ts, c :: cs => LeafS enc P w base spare held t [c] ∧ LeafsS enc P w base spare held ts cs
  | _, _ => False
theorem leafsS_nil {cs : List Value} (h : LeafsS enc P w base spare held [] cs) : cs = [] := by
  cases cs with
  | nil => rfl
  | cons c cs => exact absurd h (by simp [LeafsS])
theorem leafsS_cons' {t : TypeId} {ts : List TypeId} {cs : List Value} (h : LeafsS enc P w base spare held (t :: ts) cs) :
    ∃ c r, cs = c :: r ∧ LeafS enc P w base spare held t [c] ∧ LeafsS enc P w base spare held ts r := by
  cases cs with
  | nil => exact absurd h (by simp [LeafsS])
  | cons c cs => exact ⟨c, cs, rfl, h.1, h.2⟩
theorem leafsS_cons {t : TypeId} {ts : List TypeId} {cs : List Value} (h : LeafsS enc P w base spare held (t :: ts) cs) :
    ∃ c r, cs = c :: r ∧ (∃ m y, DataW.trod enc P w base spare held m t [c] = some y) ∧ LeafS enc P w base spare held t [c] ∧ LeafsS enc P w base spare held ts r := by
  obtain ⟨c, r, e, h1, h2⟩ := leafsS_cons' h
  obtain ⟨m, y, h3, h4⟩ := h1
  exact ⟨c, r, e, ⟨m, y, h3⟩, ⟨m, y, h3, h4⟩, h2⟩
theorem leafsS_append {ts us : List TypeId} {cs ds : List Value} (h : LeafsS enc P w base spare held ts cs) (k : LeafsS enc P w base spare held us ds) :
    LeafsS enc P w base spare held (ts ++ us) (cs ++ ds) := by
  induction ts generalizing cs with
  | nil => obtain rfl := leafsS_nil h; simpa using k
  | cons t ts ih => obtain ⟨c, r, rfl, hc, hr⟩ := leafsS_cons' h; exact ⟨hc, ih hr⟩
theorem leafsS_fields {g : TypeId → Option (List TypeId)} {size : TypeId → Nat} {cs : List Value} (all : List (TypeId × Nat)) (o : Nat) (ts : List TypeId)
    (hg : ∀ t l sub, g t = some l → sub.length = l.length → LeafS enc P w base spare held t sub → LeafsS enc P w base spare held l sub)
    (hf : flatFields g size o all = some ts) (hlen : cs.length = o + ts.length)
    (hr : ∀ x, x ∈ all → LeafS enc P w base spare held x.1 ((cs.drop x.2).take (size x.1))) :
    LeafsS enc P w base spare held ts (cs.drop o) := by
  induction all generalizing o ts with
  | nil =>
    simp only [flatFields, Option.some.injEq] at hf
    subst hf
    simp only [List.length_nil, Nat.add_zero] at hlen
    rw [List.drop_of_length_le (by omega)]
    trivial
  | cons x all ih =>
    obtain ⟨t, off⟩ := x
    simp only [flatFields] at hf
    by_cases h1 : off = o
    · rw [if_pos h1] at hf
      subst h1
      cases h2 : g t with
      | none => rw [h2] at hf; simp at hf
      | some l =>
        rw [h2] at hf
        simp only at hf
        by_cases h3 : l.length = size t
        · rw [if_pos h3] at hf
          obtain ⟨us, h4, rfl⟩ := Option.map_eq_some_iff.1 hf
          simp only [List.length_append] at hlen
          have h5 := hr (t, off) (List.mem_cons_self)
          have h6 := hg t l ((cs.drop off).take (size t)) h2 (by simp; omega) h5
          have h7 := ih (off + l.length) us h4 (by omega) (fun x hx => hr x (List.mem_cons_of_mem _ hx))
          have h8 := leafsS_append h6 h7
          rwa [← h3, ← List.drop_drop, List.take_append_drop] at h8
        · rw [if_neg h3] at hf; simp at hf
    · rw [if_neg h1] at hf; simp at hf
theorem leafsS_of (n : Nat) : ∀ (t : TypeId) (ts : List TypeId) (cs : List Value),
    flatS P n t = some ts → cs.length = ts.length → LeafS enc P w base spare held t cs → LeafsS enc P w base spare held ts cs := by
  induction n with
  | zero => intro t ts cs h; simp [flatS] at h
  | succ n ih =>
    intro t ts cs h hlen hlf
    have leaf : some [t] = some ts → LeafsS enc P w base spare held ts cs := by
      intro h2
      simp only [Option.some.injEq] at h2
      subst h2
      match cs, hlen with
      | [c], _ => exact ⟨hlf, trivial⟩
    simp only [flatS] at h
    split at h
    · rename_i fs hu
      obtain ⟨m, y, ht, hw⟩ := hlf
      obtain ⟨xs, m', rfl, rfl, hl, hsz, hx⟩ := DataW.trod_struct hu ht
      have := leafsS_fields (cs := cs) _ 0 ts (fun t' l sub hl' hs h2 => ih t' l sub hl' hs h2) h (by omega) (by
        intro x hx'
        obtain ⟨f, hf, rfl⟩ := List.mem_map.1 hx'
        obtain ⟨i, hi, hfi⟩ := List.getElem_of_mem hf
        have hfi' : fs[i]? = some f := by simp at hi hfi; simp [hi, hfi]
        have h3 := hx i f hfi'
        have h4 : i < xs.length := by simp at hi; omega
        rw [List.getElem?_eq_getElem h4] at h3
        refine ⟨_, _, h3, fun k hk => hw k ?_⟩
        simp only [DataW.weights, hu]
        exact DataW.weights_mem_each (j := i) (t := f.type) (d := xs[i].1) (by rw [List.getElem?_map, List.getElem?_eq_getElem hi, hfi]; rfl) (by rw [List.getElem?_map, List.getElem?_eq_getElem h4]; rfl) k hk)
      simpa using this
    · exact leaf h
    · exact leaf h
    · exact leaf h
    · exact leaf h
    · simp at h
theorem open_flatS {r : Reach} {b0 : Nat} {t : TypeId} {v : Value} {d : DataW H} {ps : List MemPlace} (n : Nat) (ts : List TypeId)
    (hfl : flatS P n t = some ts) (hc : P.cellsOf t = ts.length) (hsa : (match P.underlying t with | some (.struct _) => true | _ => false) = true)
    (hval : Value.okWide P w r b0 t v) (hd : DataW.Trod enc P w base spare held t v d ps) (hw : ∀ k ∈ d.weights P t, k ≤ reachBytes) :
    ∃ cs : List Value, v = .agg cs.toArray ∧ LeafsS enc P w base spare held ts cs := by
  have h1 : ∃ cs, v = .agg cs ∧ cs.size = P.cellsOf t := by
    unfold Value.okWide at hval
    revert hsa hval
    cases P.underlying t with
    | none => simp
    | some u =>
      cases u with
      | struct fs => rintro _ ⟨cs, a, b, _⟩; exact ⟨cs, a, b⟩
      | _ => simp
  obtain ⟨cs, rfl, hs⟩ := h1
  obtain ⟨m, hm⟩ := hd
  exact ⟨cs.toList, by simp, leafsS_of n t ts cs.toList hfl (by simp [hs, hc]) ⟨m, _, by simpa [Value.cells] using hm, hw⟩⟩
theorem weights_of {ts : List TypeId} {ds : List (DataW H)} (h : (DataW.weightsEach P ts ds).all (· ≤ reachBytes) = true) {j : Nat} {t : TypeId} {d : DataW H} (ht : ts[j]? = some t) (hd : ds[j]? = some d) : ∀ k ∈ d.weights P t, k ≤ reachBytes := fun k hk => by
  have := List.all_eq_true.1 h _ (DataW.weights_mem_each ht hd k hk)
  simpa using this
end
section
variable {H : Type} {enc : TypeId × Value → H} {P : Program} {w : World} {base : Nat} {held : Bool}
theorem cap_leS {t e : TypeId} {a : Option Addr} {len cap B : Nat} (ht : P.underlying t = some (.slice e)) (hB : P.bytesOf e = B) (h : LeafS enc P w base (fun _ => true) held t [.slice a len cap]) : len ≤ cap ∧ cap * B ≤ 140737488351232 := by
  obtain ⟨m, y, h1, h2⟩ := h
  refine cap_le (d := y.1) (ps := y.2) ht ⟨m, by simpa [Value.cells] using h1⟩ (fun elems sp hd => ?_)
  have := h2 ((elems.length + sp.length) * P.bytesOf e) (by rw [hd]; simp [DataW.weights, ht])
  rwa [hB] at this
end
end Go.Proofs.Ytiocgmioijcjhaa.Open
