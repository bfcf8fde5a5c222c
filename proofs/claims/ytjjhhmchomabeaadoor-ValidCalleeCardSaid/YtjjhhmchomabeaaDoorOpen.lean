/- Arguments of any make, opened to plain values: by the kind of what is read. -/
import Derived.Test.YtjjhhmchomabeaaDoorProg
import Derived.Deep.Slices
import Derived.OpenShut
import Derived.ProofKit
import Derived.Test.YtjjhhmchomabeaaDoorWWords
namespace Go.Proofs.YtjjhhmchomabeaaDoor.Open
open Go.RowKit Go.Proofs.YtjjhhmchomabeaaDoorW.PrintWords Go.ChangeShapes Go.WideShapes Go.Deep
set_option linter.unusedVariables false
set_option linter.unusedSimpArgs false

theorem list_of {α : Type} (Q : Nat → α → Prop) : ∀ n : Nat, (∀ i, i < n → ∃ v, Q i v) → ∃ l : List α, l.length = n ∧ ∀ i v, l[i]? = some v → Q i v := by
  intro n
  induction n with
  | zero => intro _; exact ⟨[], rfl, fun i v h => by simp at h⟩
  | succ n ih =>
    intro hx
    obtain ⟨l, hll, hl2⟩ := ih (fun i hi => hx i (by omega))
    obtain ⟨v, hv⟩ := hx n (by omega)
    refine ⟨l ++ [v], by simp [hll], fun i u hu => ?_⟩
    by_cases hil : i < l.length
    · rw [List.getElem?_append_left hil] at hu; exact hl2 i u hu
    · rw [List.getElem?_append_right (by omega)] at hu
      by_cases h0 : i - l.length = 0
      · rw [h0] at hu
        simp at hu
        subst hu
        have hi' : i = n := by omega
        subst hi'
        exact hv
      · obtain ⟨q, hq⟩ : ∃ q, i - l.length = q + 1 := ⟨i - l.length - 1, by omega⟩
        rw [hq] at hu; simp at hu

section
variable {H : Type} {enc : TypeId × Value → H} {P : Program} {w : World} {base : Nat} {spare : Nat → Bool} {held : Bool}

/-- What can be read as data of type t is a value of kind d, of which W holds. -/
structure Opens (enc : TypeId × Value → H) (P : Program) (w : World) (base : Nat) (spare : Nat → Bool) (held : Bool) {α : Type} (d : Kd α) (W : α → Prop) (t : TypeId) : Prop where
  sz : P.cellsOf t = d.sz
  opens : ∀ {fuel cs x}, DataW.trod enc P w base spare held fuel t cs = some x → ∃ a, d.K w a cs ∧ W a

theorem Opens.imp {α : Type} {d : Kd α} {W W' : α → Prop} {t : TypeId} (h : Opens enc P w base spare held d W t) (hi : ∀ a, W a → W' a) : Opens enc P w base spare held d W' t :=
  ⟨h.sz, fun ht => let ⟨a, hk, hw⟩ := h.opens ht; ⟨a, hk, hi a hw⟩⟩

theorem opens_int {k : IntKind} {t : TypeId} (ht : P.underlying t = some (.int k)) (hs : P.cellsOf t = 1) : Opens enc P w base spare held (Kd.int k) (fun n => (Lit.int k n).wf = true) t :=
  ⟨hs, fun h => by obtain ⟨n, rfl, _, hw⟩ := DataW.trod_int ht h; exact ⟨n, rfl, hw⟩⟩
theorem opens_bool {t : TypeId} (ht : P.underlying t = some .bool) (hs : P.cellsOf t = 1) : Opens enc P w base spare held Kd.bool (fun _ => True) t :=
  ⟨hs, fun h => by obtain ⟨n, rfl, _⟩ := DataW.trod_bool ht h; exact ⟨n, rfl, trivial⟩⟩
theorem opens_string {t : TypeId} (ht : P.underlying t = some .string) (hs : P.cellsOf t = 1) : Opens enc P w base spare held Kd.string (fun s => s.size ≤ maxLen) t :=
  ⟨hs, fun h => by obtain ⟨s, rfl, _, hm⟩ := DataW.trod_string ht h; exact ⟨s, rfl, hm⟩⟩

theorem opens_slice {α : Type} {d : Kd α} {W : α → Prop} {t e : TypeId} (ht : P.underlying t = some (.slice e)) (hs : P.cellsOf t = 1) (h : Opens enc P w base spare held d W e) : Opens enc P w base spare held (Kd.slice e d) (fun l => ∀ a ∈ l, W a) t := by
  refine ⟨hs, fun {fuel cs x} hx => ?_⟩
  rcases open_slice ht hx with ⟨rfl, _⟩ | ⟨a, len, cap, m, n, D, Pl, rfl, hb, hl, hm, hmm, _, hi⟩
  · exact ⟨[], ⟨none, 0, rfl, Nat.le_refl _, Kd.C_nil _ _⟩, fun _ h => by simp at h⟩
  · have hlm : len ≤ m := by subst hmm; split <;> omega
    have hx : ∀ i, i < len → ∃ (v : α) (cs' : List Value), w.cells? base (a.add (i * P.cellsOf e)) (P.cellsOf e) = some cs' ∧ d.K w v cs' ∧ W v := fun i hi' => by
      obtain ⟨cs', hc, ht'⟩ := hi i (by omega)
      obtain ⟨v, hk, hw⟩ := h.opens ht'
      exact ⟨v, cs', hc, hk, hw⟩
    obtain ⟨l, hll, hl2⟩ := list_of (fun i (v : α) => ∃ cs', w.cells? base (a.add (i * P.cellsOf e)) (P.cellsOf e) = some cs' ∧ d.K w v cs' ∧ W v) len hx
    subst hll
    refine ⟨l, ⟨some a, cap, rfl, hl, rfl, by unfold maxLen at hm; omega, fun h0 => ⟨a, rfl, fun j p hj => ?_⟩⟩, fun v hv => ?_⟩
    · obtain ⟨cs', h1, h2, _⟩ := hl2 j p hj
      obtain ⟨_, hcl, hat⟩ := World.cells?_some h1
      rw [h.sz] at hcl hat h1
      refine ⟨cs', hcl, h2, fun i u hu => ?_⟩
      have hil : i < cs'.length := (List.getElem?_eq_some_iff.1 hu).1
      have := hat i (by omega)
      rw [← Go.Deep.add_add, this, hu]
    · obtain ⟨i, hi', rfl⟩ := List.mem_iff_getElem.1 hv
      obtain ⟨_, _, _, h3⟩ := hl2 i _ (List.getElem?_eq_getElem hi')
      exact h3

/-- The rest of a struct's fields, from number j on, which begins at cell 'off'. -/
structure OpensAt (enc : TypeId × Value → H) (P : Program) (w : World) (base : Nat) (spare : Nat → Bool) (held : Bool) (fs : Array Field) (total : Nat) (j off : Nat) {α : Type} (d : Kd α) (W : α → Prop) : Prop where
  fits : off + d.sz = total
  opens : ∀ {n : Nat} {cs : List Value} {xs : List (DataW H × List MemPlace)}, cs.length = total → xs.length = fs.size → (∀ (i : Nat) (f : Field), fs[i]? = some f → DataW.trod enc P w base spare held n f.type ((cs.drop f.offset).take (P.cellsOf f.type)) = xs[i]?) → ∃ a, d.K w a (cs.drop off) ∧ W a

theorem opensAt_last {fs : Array Field} {total j off : Nat} {α : Type} {d : Kd α} {W : α → Prop} (f : Field) (hf : fs[j]? = some f) (ho : f.offset = off) (h : Opens enc P w base spare held d W f.type) (ht : off + d.sz = total) : OpensAt enc P w base spare held fs total j off d W :=
  ⟨ht, fun {n cs xs} hl hx hh => by
    have h1 := hh j f hf
    have hj : j < xs.length := by rw [hx]; exact (Array.getElem?_eq_some_iff.1 hf).1
    rw [List.getElem?_eq_getElem hj, ho, h.sz] at h1
    have e : (cs.drop off).take d.sz = cs.drop off := List.take_of_length_le (by rw [List.length_drop]; omega)
    rw [e] at h1
    exact h.opens h1⟩
theorem opensAt_cons {fs : Array Field} {total j off : Nat} {α β : Type} {d : Kd α} {W : α → Prop} {d2 : Kd β} {W2 : β → Prop} (f : Field) (hf : fs[j]? = some f) (ho : f.offset = off) (h : Opens enc P w base spare held d W f.type) (h2 : OpensAt enc P w base spare held fs total (j + 1) (off + d.sz) d2 W2) : OpensAt enc P w base spare held fs total j off (Kd.pair d d2) (fun x => W x.1 ∧ W2 x.2) :=
  ⟨by have := h2.fits; show off + (d.sz + d2.sz) = total; omega, fun {n cs xs} hl hx hh => by
    have h1 := hh j f hf
    have hj : j < xs.length := by rw [hx]; exact (Array.getElem?_eq_some_iff.1 hf).1
    rw [List.getElem?_eq_getElem hj, ho, h.sz] at h1
    obtain ⟨a, ha, hwa⟩ := h.opens h1
    obtain ⟨b, hb, hwb⟩ := h2.opens hl hx hh
    refine ⟨(a, b), ⟨_, _, ?_, ha, hb⟩, hwa, hwb⟩
    rw [← List.drop_drop]
    exact (List.take_append_drop _ _).symm⟩
theorem opens_struct {fs : Array Field} {total : Nat} {α : Type} {d : Kd α} {W : α → Prop} {t : TypeId} (ht : P.underlying t = some (.struct fs)) (hs : P.cellsOf t = d.sz) (h : OpensAt enc P w base spare held fs total 0 0 d W) : Opens enc P w base spare held d W t :=
  ⟨hs, fun {fuel cs x} hx => by
    obtain ⟨xs, n, _, _, hl, hxl, hh⟩ := DataW.trod_struct ht hx
    have := h.fits
    obtain ⟨a, ha, hw⟩ := h.opens (by rw [hl, hs]; omega) hxl hh
    exact ⟨a, by simpa using ha, hw⟩⟩
theorem opens_array2 {α : Type} {d : Kd α} {W : α → Prop} {t e : TypeId} (ht : P.underlying t = some (.array 2 e)) (hs : P.cellsOf t = d.sz + d.sz) (h : Opens enc P w base spare held d W e) : Opens enc P w base spare held (Kd.pair d d) (fun x => W x.1 ∧ W x.2) t :=
  ⟨hs, fun {fuel cs x} hx => by
    obtain ⟨xs, n, _, _, hl, hxl, hh⟩ := DataW.trod_array ht hx
    have h0 := hh 0 (by omega)
    have h1 := hh 1 (by omega)
    rw [List.getElem?_eq_getElem (by omega), h.sz] at h0 h1
    obtain ⟨a, ha, hwa⟩ := h.opens h0
    obtain ⟨b, hb, hwb⟩ := h.opens h1
    rw [Nat.zero_mul, List.drop_zero] at ha
    rw [Nat.one_mul] at hb
    have e : (cs.drop d.sz).take d.sz = cs.drop d.sz := List.take_of_length_le (by rw [List.length_drop]; omega)
    rw [e] at hb
    exact ⟨(a, b), ⟨_, _, (List.take_append_drop _ _).symm, ha, hb⟩, hwa, hwb⟩⟩
theorem opens_trod {α : Type} {d : Kd α} {W : α → Prop} {t : TypeId} {v : Value} {dd : DataW H} {p : List MemPlace} (h : Opens enc P w base spare held d W t) (ht : DataW.Trod enc P w base spare held t v dd p) : ∃ a, d.K w a v.cells.toList ∧ W a := by
  obtain ⟨fuel, hf⟩ := ht
  exact h.opens hf
end

theorem K_slice {α : Type} {e : Nat} {d : Kd α} {w : World} {xs : List α} {A : Option Addr} {n c : Nat} (h : (Kd.slice e d).K w xs [.slice A n c]) : n = xs.length ∧ n ≤ c ∧ d.C w A xs.length xs := by
  obtain ⟨A', c', e1, h1, h2⟩ := h
  injection e1 with e1
  injection e1 with e1 e2 e3
  subst e1 e2 e3
  exact ⟨rfl, h1, h2⟩

/-! the same row, with its elements told otherwise -/
section
variable {α β : Type} {d : Kd α} {f : β → α} {w : World}
theorem C_iso {A : Option Addr} {n : Nat} {xs : List β} (h : (Kd.iso d f).C w A n xs) : d.C w A n (xs.map f) := by
  refine ⟨by simpa using h.1, h.2.1, fun h0 => ?_⟩
  obtain ⟨ad, e, hh⟩ := h.2.2 h0
  refine ⟨ad, e, fun j p hj => ?_⟩
  rw [List.getElem?_map] at hj
  cases hx : xs[j]? with
  | none => rw [hx] at hj; simp at hj
  | some q =>
    rw [hx] at hj
    simp only [Option.map_some, Option.some.injEq] at hj
    subst hj
    exact hh j q hx
theorem R_iso {e B : Nat} {ok : Nat → Prop} {v : Value} {xs : List β} (h : d.R e w B ok v (xs.map f)) : (Kd.iso d f).R e w B ok v xs := by
  obtain ⟨h1, inner, ho, hr⟩ := h
  rw [List.length_map] at ho
  have hr1 := hr.1
  rw [List.length_map] at hr1
  refine ⟨h1, inner, ho, hr1, fun j p hj => ?_⟩
  exact hr.2 j (f p) (by rw [List.getElem?_map, hj]; rfl)
end

end Go.Proofs.YtjjhhmchomabeaaDoor.Open
