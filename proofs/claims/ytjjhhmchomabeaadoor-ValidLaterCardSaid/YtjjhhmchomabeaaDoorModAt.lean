/- A module that is handed over, read: where its rows lie, and that its numbers have 64 bits. -/
import Derived.Test.YtjjhhmchomabeaaDoorProg
import Derived.Deep.Slices
import Derived.OpenShut
import Derived.ProofKit
import Derived.Test.YtjjhhmchomabeaaDoorWWords
import Derived.Test.YtjjhhmchomabeaaDoorRows
import Derived.WalkKit
import Derived.WideShapes
import Derived.ChangeOld
import Derived.Below
import Derived.SizedLaws
import Derived.Test.YtjjhhmchomabeaaDoorValMod
namespace Go.Proofs.YtjjhhmchomabeaaDoor.Open
open Go.RowKit Go.Proofs.YtjjhhmchomabeaaDoorW.PrintWords Go.ChangeShapes Go.WideShapes Go.Deep
set_option linter.unusedVariables false
set_option linter.unusedSimpArgs false

theorem list_of {α : Type} (Q : Nat → α → Prop) : ∀ n : Nat, (∀ i, i < n → ∃ v, Q i v) → ∃ l : List α, l.length = n ∧ ∀ i v, l[i]? = some v → Q i v := by
  intro n
  induction n with
  | zero => intro _; exact ⟨[], rfl, fun i v h => by simp at h⟩
  | succ n ih =>
    intro hx
    obtain ⟨l, hll, hl2⟩ := ih (fun i hi => hx i (by omega))
    obtain ⟨v, hv⟩ := hx n (by omega)
    refine ⟨l ++ [v], by simp [hll], fun i u hu => ?_⟩
    by_cases hil : i < l.length
    · rw [List.getElem?_append_left hil] at hu; exact hl2 i u hu
    · rw [List.getElem?_append_right (by omega)] at hu
      by_cases h0 : i - l.length = 0
      · rw [h0] at hu
        simp at hu
        subst hu
        have hi' : i = n := by omega
        subst hi'
        exact hv
      · obtain ⟨q, hq⟩ : ∃ q, i - l.length = q + 1 := ⟨i - l.length - 1, by omega⟩
        rw [hq] at hu; simp at hu

section
variable {H : Type} {enc : TypeId × Value → H} {P : Program} {w : World} {base : Nat} {spare : Nat → Bool} {held : Bool}

/-- What can be read as data of type t is a value of kind d, of which W holds. -/
structure Opens (enc : TypeId × Value → H) (P : Program) (w : World) (base : Nat) (spare : Nat → Bool) (held : Bool) {α : Type} (d : Kd α) (W : α → Prop) (t : TypeId) : Prop where
  sz : P.cellsOf t = d.sz
  opens : ∀ {fuel cs x}, DataW.trod enc P w base spare held fuel t cs = some x → ∃ a, d.K w a cs ∧ W a

theorem Opens.imp {α : Type} {d : Kd α} {W W' : α → Prop} {t : TypeId} (h : Opens enc P w base spare held d W t) (hi : ∀ a, W a → W' a) : Opens enc P w base spare held d W' t :=
  ⟨h.sz, fun ht => let ⟨a, hk, hw⟩ := h.opens ht; ⟨a, hk, hi a hw⟩⟩

theorem opens_int {k : IntKind} {t : TypeId} (ht : P.underlying t = some (.int k)) (hs : P.cellsOf t = 1) : Opens enc P w base spare held (Kd.int k) (fun n => (Lit.int k n).wf = true) t :=
  ⟨hs, fun h => by obtain ⟨n, rfl, _, hw⟩ := DataW.trod_int ht h; exact ⟨n, rfl, hw⟩⟩
theorem opens_bool {t : TypeId} (ht : P.underlying t = some .bool) (hs : P.cellsOf t = 1) : Opens enc P w base spare held Kd.bool (fun _ => True) t :=
  ⟨hs, fun h => by obtain ⟨n, rfl, _⟩ := DataW.trod_bool ht h; exact ⟨n, rfl, trivial⟩⟩
theorem opens_string {t : TypeId} (ht : P.underlying t = some .string) (hs : P.cellsOf t = 1) : Opens enc P w base spare held Kd.string (fun s => s.size ≤ maxLen) t :=
  ⟨hs, fun h => by obtain ⟨s, rfl, _, hm⟩ := DataW.trod_string ht h; exact ⟨s, rfl, hm⟩⟩

theorem opens_slice {α : Type} {d : Kd α} {W : α → Prop} {t e : TypeId} (ht : P.underlying t = some (.slice e)) (hs : P.cellsOf t = 1) (h : Opens enc P w base spare held d W e) : Opens enc P w base spare held (Kd.slice e d) (fun l => ∀ a ∈ l, W a) t := by
  refine ⟨hs, fun {fuel cs x} hx => ?_⟩
  rcases open_slice ht hx with ⟨rfl, _⟩ | ⟨a, len, cap, m, n, D, Pl, rfl, hb, hl, hm, hmm, _, hi⟩
  · exact ⟨[], ⟨none, 0, rfl, Nat.le_refl _, Kd.C_nil _ _⟩, fun _ h => by simp at h⟩
  · have hlm : len ≤ m := by subst hmm; split <;> omega
    have hx : ∀ i, i < len → ∃ (v : α) (cs' : List Value), w.cells? base (a.add (i * P.cellsOf e)) (P.cellsOf e) = some cs' ∧ d.K w v cs' ∧ W v := fun i hi' => by
      obtain ⟨cs', hc, ht'⟩ := hi i (by omega)
      obtain ⟨v, hk, hw⟩ := h.opens ht'
      exact ⟨v, cs', hc, hk, hw⟩
    obtain ⟨l, hll, hl2⟩ := list_of (fun i (v : α) => ∃ cs', w.cells? base (a.add (i * P.cellsOf e)) (P.cellsOf e) = some cs' ∧ d.K w v cs' ∧ W v) len hx
    subst hll
    refine ⟨l, ⟨some a, cap, rfl, hl, rfl, by unfold maxLen at hm; omega, fun h0 => ⟨a, rfl, fun j p hj => ?_⟩⟩, fun v hv => ?_⟩
    · obtain ⟨cs', h1, h2, _⟩ := hl2 j p hj
      obtain ⟨_, hcl, hat⟩ := World.cells?_some h1
      rw [h.sz] at hcl hat h1
      refine ⟨cs', hcl, h2, fun i u hu => ?_⟩
      have hil : i < cs'.length := (List.getElem?_eq_some_iff.1 hu).1
      have := hat i (by omega)
      rw [← Go.Deep.add_add, this, hu]
    · obtain ⟨i, hi', rfl⟩ := List.mem_iff_getElem.1 hv
      obtain ⟨_, _, _, h3⟩ := hl2 i _ (List.getElem?_eq_getElem hi')
      exact h3

/-- The rest of a struct's fields, from number j on, which begins at cell 'off'. -/
structure OpensAt (enc : TypeId × Value → H) (P : Program) (w : World) (base : Nat) (spare : Nat → Bool) (held : Bool) (fs : Array Field) (total : Nat) (j off : Nat) {α : Type} (d : Kd α) (W : α → Prop) : Prop where
  fits : off + d.sz = total
  opens : ∀ {n : Nat} {cs : List Value} {xs : List (DataW H × List MemPlace)}, cs.length = total → xs.length = fs.size → (∀ (i : Nat) (f : Field), fs[i]? = some f → DataW.trod enc P w base spare held n f.type ((cs.drop f.offset).take (P.cellsOf f.type)) = xs[i]?) → ∃ a, d.K w a (cs.drop off) ∧ W a

theorem opensAt_last {fs : Array Field} {total j off : Nat} {α : Type} {d : Kd α} {W : α → Prop} (f : Field) (hf : fs[j]? = some f) (ho : f.offset = off) (h : Opens enc P w base spare held d W f.type) (ht : off + d.sz = total) : OpensAt enc P w base spare held fs total j off d W :=
  ⟨ht, fun {n cs xs} hl hx hh => by
    have h1 := hh j f hf
    have hj : j < xs.length := by rw [hx]; exact (Array.getElem?_eq_some_iff.1 hf).1
    rw [List.getElem?_eq_getElem hj, ho, h.sz] at h1
    have e : (cs.drop off).take d.sz = cs.drop off := List.take_of_length_le (by rw [List.length_drop]; omega)
    rw [e] at h1
    exact h.opens h1⟩
theorem opensAt_cons {fs : Array Field} {total j off : Nat} {α β : Type} {d : Kd α} {W : α → Prop} {d2 : Kd β} {W2 : β → Prop} (f : Field) (hf : fs[j]? = some f) (ho : f.offset = off) (h : Opens enc P w base spare held d W f.type) (h2 : OpensAt enc P w base spare held fs total (j + 1) (off + d.sz) d2 W2) : OpensAt enc P w base spare held fs total j off (Kd.pair d d2) (fun x => W x.1 ∧ W2 x.2) :=
  ⟨by have := h2.fits; show off + (d.sz + d2.sz) = total; omega, fun {n cs xs} hl hx hh => by
    have h1 := hh j f hf
    have hj : j < xs.length := by rw [hx]; exact (Array.getElem?_eq_some_iff.1 hf).1
    rw [List.getElem?_eq_getElem hj, ho, h.sz] at h1
    obtain ⟨a, ha, hwa⟩ := h.opens h1
    obtain ⟨b, hb, hwb⟩ := h2.opens hl hx hh
    refine ⟨(a, b), ⟨_, _, ?_, ha, hb⟩, hwa, hwb⟩
    rw [← List.drop_drop]
    exact (List.take_append_drop _ _).symm⟩
theorem opens_struct {fs : Array Field} {total : Nat} {α : Type} {d : Kd α} {W : α → Prop} {t : TypeId} (ht : P.underlying t = some (.struct fs)) (hs : P.cellsOf t = d.sz) (h : OpensAt enc P w base spare held fs total 0 0 d W) : Opens enc P w base spare held d W t :=
  ⟨hs, fun {fuel cs x} hx => by
    obtain ⟨xs, n, _, _, hl, hxl, hh⟩ := DataW.trod_struct ht hx
    have := h.fits
    obtain ⟨a, ha, hw⟩ := h.opens (by rw [hl, hs]; omega) hxl hh
    exact ⟨a, by simpa using ha, hw⟩⟩
theorem opens_array2 {α : Type} {d : Kd α} {W : α → Prop} {t e : TypeId} (ht : P.underlying t = some (.array 2 e)) (hs : P.cellsOf t = d.sz + d.sz) (h : Opens enc P w base spare held d W e) : Opens enc P w base spare held (Kd.pair d d) (fun x => W x.1 ∧ W x.2) t :=
  ⟨hs, fun {fuel cs x} hx => by
    obtain ⟨xs, n, _, _, hl, hxl, hh⟩ := DataW.trod_array ht hx
    have h0 := hh 0 (by omega)
    have h1 := hh 1 (by omega)
    rw [List.getElem?_eq_getElem (by omega), h.sz] at h0 h1
    obtain ⟨a, ha, hwa⟩ := h.opens h0
    obtain ⟨b, hb, hwb⟩ := h.opens h1
    rw [Nat.zero_mul, List.drop_zero] at ha
    rw [Nat.one_mul] at hb
    have e : (cs.drop d.sz).take d.sz = cs.drop d.sz := List.take_of_length_le (by rw [List.length_drop]; omega)
    rw [e] at hb
    exact ⟨(a, b), ⟨_, _, (List.take_append_drop _ _).symm, ha, hb⟩, hwa, hwb⟩⟩
theorem opens_trod {α : Type} {d : Kd α} {W : α → Prop} {t : TypeId} {v : Value} {dd : DataW H} {p : List MemPlace} (h : Opens enc P w base spare held d W t) (ht : DataW.Trod enc P w base spare held t v dd p) : ∃ a, d.K w a v.cells.toList ∧ W a := by
  obtain ⟨fuel, hf⟩ := ht
  exact h.opens hf
end

theorem K_slice {α : Type} {e : Nat} {d : Kd α} {w : World} {xs : List α} {A : Option Addr} {n c : Nat} (h : (Kd.slice e d).K w xs [.slice A n c]) : n = xs.length ∧ n ≤ c ∧ d.C w A xs.length xs := by
  obtain ⟨A', c', e1, h1, h2⟩ := h
  injection e1 with e1
  injection e1 with e1 e2 e3
  subst e1 e2 e3
  exact ⟨rfl, h1, h2⟩

/-! the same row, with its elements told otherwise -/
section
variable {α β : Type} {d : Kd α} {f : β → α} {w : World}
theorem C_iso {A : Option Addr} {n : Nat} {xs : List β} (h : (Kd.iso d f).C w A n xs) : d.C w A n (xs.map f) := by
  refine ⟨by simpa using h.1, h.2.1, fun h0 => ?_⟩
  obtain ⟨ad, e, hh⟩ := h.2.2 h0
  refine ⟨ad, e, fun j p hj => ?_⟩
  rw [List.getElem?_map] at hj
  cases hx : xs[j]? with
  | none => rw [hx] at hj; simp at hj
  | some q =>
    rw [hx] at hj
    simp only [Option.map_some, Option.some.injEq] at hj
    subst hj
    exact hh j q hx
theorem R_iso {e B : Nat} {ok : Nat → Prop} {v : Value} {xs : List β} (h : d.R e w B ok v (xs.map f)) : (Kd.iso d f).R e w B ok v xs := by
  obtain ⟨h1, inner, ho, hr⟩ := h
  rw [List.length_map] at ho
  have hr1 := hr.1
  rw [List.length_map] at hr1
  refine ⟨h1, inner, ho, hr1, fun j p hj => ?_⟩
  exact hr.2 j (f p) (by rw [List.getElem?_map, hj]; rfl)
end

end Go.Proofs.YtjjhhmchomabeaaDoor.Open
namespace Go.Proofs.YtjjhhmchomabeaaDoor.ModRow
open Go.RowKit Go.Proofs.YtjjhhmchomabeaaDoorW.PrintWords Go.Proofs.YtjjhhmchomabeaaDoor.Open
set_option linter.unusedVariables false
set_option linter.unusedSimpArgs false

theorem laidOut : laidOutB Tryd.prog = true := by kernel_rfl
section
variable {H : Type} {enc : TypeId × Value → H} {w : World} {base : Nat} {spare : Nat → Bool} {held : Bool}
abbrev kSig := Kd.pair (Kd.slice 3 (Kd.int .i64)) (Kd.slice 3 (Kd.int .i64))
abbrev kInstr := Kd.pair (Kd.int .i64) (Kd.pair (Kd.int .i64) (Kd.int .i64))
abbrev kFunc := Kd.pair (Kd.int .i64) (Kd.pair Kd.bool (Kd.pair (Kd.slice 3 (Kd.int .i64)) (Kd.slice 45 kInstr)))
abbrev kGlobal := Kd.pair (Kd.int .i64) (Kd.int .i64)
abbrev kData := Kd.pair (Kd.int .i64) (Kd.pair (Kd.int .i64) Kd.string)
abbrev kMod := Kd.pair (Kd.slice 32 kSig) (Kd.pair (Kd.slice 3 (Kd.int .i64)) (Kd.pair (Kd.slice 43 kFunc) (Kd.pair (Kd.pair (Kd.int .i64) (Kd.int .i64)) (Kd.pair (Kd.slice 57 kGlobal) (Kd.slice 54 kData)))))
theorem open_mod {cs : Array Value} {d : DataW H} {p : List MemPlace} (h : DataW.Trod enc Tryd.prog w base spare held 29 (.agg cs) d p) :
    ∃ (A1 A2 A3 A4 A5 : Option Addr) (n1 n2 n3 n4 n5 c1 c2 c3 c4 c5 : Nat) (m0 m1 : Int), cs = #[.slice A1 n1 c1, .slice A2 n2 c2, .slice A3 n3 c3, .int .i64 m0, .int .i64 m1, .slice A4 n4 c4, .slice A5 n5 c5] := by
  have i1 := opens_int (enc := enc) (P := Tryd.prog) (w := w) (base := base) (spare := spare) (held := held) Tryd.underlying3 (by kernel_rfl)
  have b1 := opens_bool (enc := enc) (P := Tryd.prog) (w := w) (base := base) (spare := spare) (held := held) Tryd.underlying4 (by kernel_rfl)
  have s1 := opens_string (enc := enc) (P := Tryd.prog) (w := w) (base := base) (spare := spare) (held := held) Tryd.underlying9 (by kernel_rfl)
  have si := opens_slice Tryd.underlying23 (by kernel_rfl) i1
  have sig : Opens enc Tryd.prog w base spare held kSig _ 32 := opens_struct Tryd.underlying32 (by kernel_rfl) (opensAt_cons _ rfl rfl si (opensAt_last _ rfl rfl si rfl))
  have sigs := opens_slice Tryd.underlying22 (by kernel_rfl) sig
  have ins : Opens enc Tryd.prog w base spare held kInstr _ 45 := opens_struct Tryd.underlying45 (by kernel_rfl) (opensAt_cons _ rfl rfl i1 (opensAt_cons _ rfl rfl i1 (opensAt_last _ rfl rfl i1 rfl)))
  have inss := opens_slice Tryd.underlying41 (by kernel_rfl) ins
  have fn : Opens enc Tryd.prog w base spare held kFunc _ 43 := opens_struct Tryd.underlying43 (by kernel_rfl) (opensAt_cons _ rfl rfl i1 (opensAt_cons _ rfl rfl b1 (opensAt_cons _ rfl rfl si (opensAt_last _ rfl rfl inss rfl))))
  have fns := opens_slice Tryd.underlying24 (by kernel_rfl) fn
  have arr := opens_array2 Tryd.underlying25 (by kernel_rfl) i1
  have gl : Opens enc Tryd.prog w base spare held kGlobal _ 57 := opens_struct Tryd.underlying57 (by kernel_rfl) (opensAt_cons _ rfl rfl i1 (opensAt_last _ rfl rfl i1 rfl))
  have gls := opens_slice Tryd.underlying26 (by kernel_rfl) gl
  have da : Opens enc Tryd.prog w base spare held kData _ 54 := opens_struct Tryd.underlying54 (by kernel_rfl) (opensAt_cons _ rfl rfl i1 (opensAt_cons _ rfl rfl i1 (opensAt_last _ rfl rfl s1 rfl)))
  have das := opens_slice Tryd.underlying27 (by kernel_rfl) da
  have md : Opens enc Tryd.prog w base spare held kMod _ 29 := opens_struct Tryd.underlying29 (by kernel_rfl) (opensAt_cons _ rfl rfl sigs (opensAt_cons _ rfl rfl si (opensAt_cons _ rfl rfl fns (opensAt_cons _ rfl rfl arr (opensAt_cons _ rfl rfl gls (opensAt_last _ rfl rfl das rfl))))))
  obtain ⟨x, hK, _⟩ := opens_trod md h
  obtain ⟨_, _, e, h1, ⟨_, _, rfl, h2, ⟨_, _, rfl, h3, ⟨_, _, rfl, ⟨_, _, rfl, rfl, rfl⟩, ⟨_, _, rfl, h4, h5⟩⟩⟩⟩⟩ := hK
  obtain ⟨A1, c1, rfl, _⟩ := h1
  obtain ⟨A2, c2, rfl, _⟩ := h2
  obtain ⟨A3, c3, rfl, _⟩ := h3
  obtain ⟨A4, c4, rfl, _⟩ := h4
  obtain ⟨A5, c5, rfl, _⟩ := h5
  refine ⟨A1, A2, A3, A4, A5, x.1.length, x.2.1.length, x.2.2.1.length, x.2.2.2.2.1.length, x.2.2.2.2.2.length, c1, c2, c3, c4, c5, x.2.2.2.1.1, x.2.2.2.1.2, ?_⟩
  apply Array.ext'
  exact e
theorem back_mod {W W' : World} {v : Value} {d : DataW H} {p : List MemPlace} (h : DataW.Trod enc Tryd.prog W 0 (fun _ => true) true 29 v d p) (bel : Below W.heap.size W W') :
    DataW.Trod enc Tryd.prog W' 0 (fun b => decide (b < W.heap.size)) true 29 v d p :=
  Below.trod laidOut (by kernel_rfl) (of_decide_eq_true (by kernel_rfl)) h bel (by obtain ⟨m, hm⟩ := h; exact DataW.trod_lt m _ _ _ hm)
end
end Go.Proofs.YtjjhhmchomabeaaDoor.ModRow
namespace Go.Proofs.YtjjhhmchomabeaaDoor.ModRow
open Go.RowKit Go.Proofs.YtjjhhmchomabeaaDoorW.PrintWords Go.Proofs.YtjjhhmchomabeaaDoor.Open Go.Proofs.YtjjhhmchomabeaaDoor.Valid
set_option linter.unusedVariables false
set_option linter.unusedSimpArgs false

abbrev Wf64 (n : Int) : Prop := (Lit.int .i64 n).wf = true
section
variable {H : Type} {enc : TypeId × Value → H} {w : World} {base : Nat} {spare : Nat → Bool} {held : Bool}
theorem read_mod {cs : Array Value} {d : DataW H} {p : List MemPlace} (h : DataW.Trod enc Tryd.prog w base spare held 29 (.agg cs) d p) :
    ∃ (M : Md) (hd : Hd), cs = M.cells hd ∧ ModAt w hd M ∧ (∀ g ∈ M.sigs, (∀ t ∈ g.1, Wf64 t) ∧ (∀ t ∈ g.2, Wf64 t)) ∧ (∀ f ∈ M.funcs, (∀ t ∈ f.2.2.1, Wf64 t) ∧ (∀ x ∈ f.2.2.2, Wf64 x.2.1)) ∧ (∀ g ∈ M.globals, Wf64 g.1) := by
  have i1 := opens_int (enc := enc) (P := Tryd.prog) (w := w) (base := base) (spare := spare) (held := held) Tryd.underlying3 (by kernel_rfl)
  have b1 := opens_bool (enc := enc) (P := Tryd.prog) (w := w) (base := base) (spare := spare) (held := held) Tryd.underlying4 (by kernel_rfl)
  have s1 := opens_string (enc := enc) (P := Tryd.prog) (w := w) (base := base) (spare := spare) (held := held) Tryd.underlying9 (by kernel_rfl)
  have si := opens_slice Tryd.underlying23 (by kernel_rfl) i1
  have sig : Opens enc Tryd.prog w base spare held kSig _ 32 := opens_struct Tryd.underlying32 (by kernel_rfl) (opensAt_cons _ rfl rfl si (opensAt_last _ rfl rfl si rfl))
  have sigs := opens_slice Tryd.underlying22 (by kernel_rfl) sig
  have ins : Opens enc Tryd.prog w base spare held kInstr _ 45 := opens_struct Tryd.underlying45 (by kernel_rfl) (opensAt_cons _ rfl rfl i1 (opensAt_cons _ rfl rfl i1 (opensAt_last _ rfl rfl i1 rfl)))
  have inss := opens_slice Tryd.underlying41 (by kernel_rfl) ins
  have fn : Opens enc Tryd.prog w base spare held kFunc _ 43 := opens_struct Tryd.underlying43 (by kernel_rfl) (opensAt_cons _ rfl rfl i1 (opensAt_cons _ rfl rfl b1 (opensAt_cons _ rfl rfl si (opensAt_last _ rfl rfl inss rfl))))
  have fns := opens_slice Tryd.underlying24 (by kernel_rfl) fn
  have arr := opens_array2 Tryd.underlying25 (by kernel_rfl) i1
  have gl : Opens enc Tryd.prog w base spare held kGlobal _ 57 := opens_struct Tryd.underlying57 (by kernel_rfl) (opensAt_cons _ rfl rfl i1 (opensAt_last _ rfl rfl i1 rfl))
  have gls := opens_slice Tryd.underlying26 (by kernel_rfl) gl
  have da : Opens enc Tryd.prog w base spare held kData _ 54 := opens_struct Tryd.underlying54 (by kernel_rfl) (opensAt_cons _ rfl rfl i1 (opensAt_cons _ rfl rfl i1 (opensAt_last _ rfl rfl s1 rfl)))
  have das := opens_slice Tryd.underlying27 (by kernel_rfl) da
  have md : Opens enc Tryd.prog w base spare held kMod _ 29 := opens_struct Tryd.underlying29 (by kernel_rfl) (opensAt_cons _ rfl rfl sigs (opensAt_cons _ rfl rfl si (opensAt_cons _ rfl rfl fns (opensAt_cons _ rfl rfl arr (opensAt_cons _ rfl rfl gls (opensAt_last _ rfl rfl das rfl))))))
  obtain ⟨x, hK, hW⟩ := opens_trod md h
  obtain ⟨sigs0, imps0, funcs0, ⟨m0, m1⟩, globs0, data0⟩ := x
  obtain ⟨_, _, e, h1, ⟨_, _, rfl, h2, ⟨_, _, rfl, h3, ⟨_, _, rfl, ⟨_, _, rfl, rfl, rfl⟩, ⟨_, _, rfl, h4, h5⟩⟩⟩⟩⟩ := hK
  obtain ⟨A1, c1, rfl, hl1, hC1⟩ := h1
  obtain ⟨A2, c2, rfl, hl2, hC2⟩ := h2
  obtain ⟨A3, c3, rfl, hl3, hC3⟩ := h3
  obtain ⟨A4, c4, rfl, hl4, hC4⟩ := h4
  obtain ⟨A5, c5, rfl, hl5, hC5⟩ := h5
  refine ⟨⟨sigs0, imps0, funcs0, m0, m1, globs0, data0⟩, ⟨A1, A2, A3, A4, A5, c1, c2, c3, c4, c5⟩, Array.ext' e, ⟨hC1, hC2, hC3, hC4, hC5, hl1, hl2, hl3, hl4, hl5⟩, ?_⟩
  obtain ⟨w1, _, w3, _, w4, _⟩ := hW
  exact ⟨fun g hg => w1 g hg, fun f hf => ⟨(w3 f hf).2.2.1, fun x hx => ((w3 f hf).2.2.2 x hx).2.1⟩, fun g hg => (w4 g hg).1⟩
theorem slice_len {t e : TypeId} {fuel len cap B : Nat} {a : Option Addr} {x : DataW H × List MemPlace} (ht : Tryd.prog.underlying t = some (.slice e)) (hB : Tryd.prog.bytesOf e = B) (h : DataW.trod enc Tryd.prog w base spare held fuel t [.slice a len cap] = some x) (hsz : ∀ n ∈ x.1.weights Tryd.prog t, n ≤ reachBytes) : len * B ≤ reachBytes := by
  rcases Go.Deep.open_slice ht h with ⟨h0, _⟩ | ⟨a', len', cap', m, n, D, Pl, h0, _, _, _, _, rfl, _⟩
  · simp at h0
    obtain ⟨_, rfl, _⟩ := h0
    simp
  · simp at h0
    obtain ⟨_, rfl, _⟩ := h0
    have h1 := hsz ((((List.range len).map D).length + ((List.range (m - len)).map fun j => D (len + j)).length) * Tryd.prog.bytesOf e) (by simp [DataW.weights, ht])
    rw [hB] at h1
    simp at h1
    refine Nat.le_trans (Nat.mul_le_mul_right B ?_) h1
    omega
/-- the imports and the functions of a module that is handed over are not many: their rows' bytes have a bound -/
theorem mod_lens {M : Md} {hd : Hd} {d : DataW H} {p : List MemPlace} (h : DataW.Trod enc Tryd.prog w base spare held 29 (.agg (M.cells hd)) d p) (hsz : ∀ n ∈ d.weights Tryd.prog 29, n ≤ reachBytes) :
    M.imports.length * 8 ≤ reachBytes ∧ M.funcs.length * 64 ≤ reachBytes := by
  obtain ⟨fuel, hf⟩ := h
  obtain ⟨xs, n, _, e, _, hxl, hh⟩ := DataW.trod_struct Tryd.underlying29 hf
  obtain ⟨rfl, _⟩ := Prod.mk.inj e
  have hx6 : xs.length = 6 := hxl
  have hw : ∀ (j : Nat) (t : TypeId) (y : DataW H × List MemPlace), [22, 23, 24, 25, 26, 27][j]? = some t → xs[j]? = some y → ∀ n ∈ y.1.weights Tryd.prog t, n ≤ reachBytes := fun j t y ht hy n hn => hsz n (by
    simp only [DataW.weights, Tryd.underlying29]
    exact DataW.weights_mem_each (ts := [22, 23, 24, 25, 26, 27]) ht (by rw [List.getElem?_map, hy]; rfl) n hn)
  obtain ⟨y1, hy1⟩ : ∃ y, xs[1]? = some y := ⟨xs[1], List.getElem?_eq_getElem (by omega)⟩
  obtain ⟨y2, hy2⟩ : ∃ y, xs[2]? = some y := ⟨xs[2], List.getElem?_eq_getElem (by omega)⟩
  have h1 : DataW.trod enc Tryd.prog w base spare held n 23 (((Value.agg (M.cells hd)).cells.toList.drop 1).take (Tryd.prog.cellsOf 23)) = xs[1]? := hh 1 _ rfl
  have h2 : DataW.trod enc Tryd.prog w base spare held n 24 (((Value.agg (M.cells hd)).cells.toList.drop 2).take (Tryd.prog.cellsOf 24)) = xs[2]? := hh 2 _ rfl
  rw [hy1] at h1
  rw [hy2] at h2
  have c1 : Tryd.prog.cellsOf 23 = 1 := by kernel_rfl
  have c2 : Tryd.prog.cellsOf 24 = 1 := by kernel_rfl
  rw [c1] at h1
  rw [c2] at h2
  exact ⟨slice_len Tryd.underlying23 (by kernel_rfl) h1 (hw 1 _ y1 rfl hy1), slice_len Tryd.underlying24 (by kernel_rfl) h2 (hw 2 _ y2 rfl hy2)⟩
end
end Go.Proofs.YtjjhhmchomabeaaDoor.ModRow
