/- A module that is handed over, read: where its rows lie, and that its numbers have 64 bits. -/
import Derived.Test.YtjjhhmchomabeaaDoorOpen
import Derived.Test.YtjjhhmchomabeaaDoorRows
import Derived.WalkKit
import Derived.ProofKit
import Derived.OpenShut
import Derived.WideShapes
import Derived.ChangeOld
import Derived.Below
import Derived.SizedLaws
import Derived.Test.YtjjhhmchomabeaaDoorValMod
namespace Go.Proofs.YtjjhhmchomabeaaDoor.ModRow
open Go.RowKit Go.Proofs.YtjjhhmchomabeaaDoorW.PrintWords Go.Proofs.YtjjhhmchomabeaaDoor.Open
set_option linter.unusedVariables false
set_option linter.unusedSimpArgs false

theorem laidOut : laidOutB Tryd.prog = true := by kernel_rfl
section
variable {H : Type} {enc : TypeId × Value → H} {w : World} {base : Nat} {spare : Nat → Bool} {held : Bool}
abbrev kSig := Kd.pair (Kd.slice 3 (Kd.int .i64)) (Kd.slice 3 (Kd.int .i64))
abbrev kInstr := Kd.pair (Kd.int .i64) (Kd.pair (Kd.int .i64) (Kd.int .i64))
abbrev kFunc := Kd.pair (Kd.int .i64) (Kd.pair Kd.bool (Kd.pair (Kd.slice 3 (Kd.int .i64)) (Kd.slice 45 kInstr)))
abbrev kGlobal := Kd.pair (Kd.int .i64) (Kd.int .i64)
abbrev kData := Kd.pair (Kd.int .i64) (Kd.pair (Kd.int .i64) Kd.string)
abbrev kMod := Kd.pair (Kd.slice 32 kSig) (Kd.pair (Kd.slice 3 (Kd.int .i64)) (Kd.pair (Kd.slice 43 kFunc) (Kd.pair (Kd.pair (Kd.int .i64) (Kd.int .i64)) (Kd.pair (Kd.slice 57 kGlobal) (Kd.slice 54 kData)))))
theorem open_mod {cs : Array Value} {d : DataW H} {p : List MemPlace} (h : DataW.Trod enc Tryd.prog w base spare held 29 (.agg cs) d p) :
    ∃ (A1 A2 A3 A4 A5 : Option Addr) (n1 n2 n3 n4 n5 c1 c2 c3 c4 c5 : Nat) (m0 m1 : Int), cs = #[.slice A1 n1 c1, .slice A2 n2 c2, .slice A3 n3 c3, .int .i64 m0, .int .i64 m1, .slice A4 n4 c4, .slice A5 n5 c5] := by
  have i1 := opens_int (enc := enc) (P := Tryd.prog) (w := w) (base := base) (spare := spare) (held := held) Tryd.underlying3 (by kernel_rfl)
  have b1 := opens_bool (enc := enc) (P := Tryd.prog) (w := w) (base := base) (spare := spare) (held := held) Tryd.underlying4 (by kernel_rfl)
  have s1 := opens_string (enc := enc) (P := Tryd.prog) (w := w) (base := base) (spare := spare) (held := held) Tryd.underlying9 (by kernel_rfl)
  have si := opens_slice Tryd.underlying23 (by kernel_rfl) i1
  have sig : Opens enc Tryd.prog w base spare held kSig _ 32 := opens_struct Tryd.underlying32 (by kernel_rfl) (opensAt_cons _ rfl rfl si (opensAt_last _ rfl rfl si rfl))
  have sigs := opens_slice Tryd.underlying22 (by kernel_rfl) sig
  have ins : Opens enc Tryd.prog w base spare held kInstr _ 45 := opens_struct Tryd.underlying45 (by kernel_rfl) (opensAt_cons _ rfl rfl i1 (opensAt_cons _ rfl rfl i1 (opensAt_last _ rfl rfl i1 rfl)))
  have inss := opens_slice Tryd.underlying41 (by kernel_rfl) ins
  have fn : Opens enc Tryd.prog w base spare held kFunc _ 43 := opens_struct Tryd.underlying43 (by kernel_rfl) (opensAt_cons _ rfl rfl i1 (opensAt_cons _ rfl rfl b1 (opensAt_cons _ rfl rfl si (opensAt_last _ rfl rfl inss rfl))))
  have fns := opens_slice Tryd.underlying24 (by kernel_rfl) fn
  have arr := opens_array2 Tryd.underlying25 (by kernel_rfl) i1
  have gl : Opens enc Tryd.prog w base spare held kGlobal _ 57 := opens_struct Tryd.underlying57 (by kernel_rfl) (opensAt_cons _ rfl rfl i1 (opensAt_last _ rfl rfl i1 rfl))
  have gls := opens_slice Tryd.underlying26 (by kernel_rfl) gl
  have da : Opens enc Tryd.prog w base spare held kData _ 54 := opens_struct Tryd.underlying54 (by kernel_rfl) (opensAt_cons _ rfl rfl i1 (opensAt_cons _ rfl rfl i1 (opensAt_last _ rfl rfl s1 rfl)))
  have das := opens_slice Tryd.underlying27 (by kernel_rfl) da
  have md : Opens enc Tryd.prog w base spare held kMod _ 29 := opens_struct Tryd.underlying29 (by kernel_rfl) (opensAt_cons _ rfl rfl sigs (opensAt_cons _ rfl rfl si (opensAt_cons _ rfl rfl fns (opensAt_cons _ rfl rfl arr (opensAt_cons _ rfl rfl gls (opensAt_last _ rfl rfl das rfl))))))
  obtain ⟨x, hK, _⟩ := opens_trod md h
  obtain ⟨_, _, e, h1, ⟨_, _, rfl, h2, ⟨_, _, rfl, h3, ⟨_, _, rfl, ⟨_, _, rfl, rfl, rfl⟩, ⟨_, _, rfl, h4, h5⟩⟩⟩⟩⟩ := hK
  obtain ⟨A1, c1, rfl, _⟩ := h1
  obtain ⟨A2, c2, rfl, _⟩ := h2
  obtain ⟨A3, c3, rfl, _⟩ := h3
  obtain ⟨A4, c4, rfl, _⟩ := h4
  obtain ⟨A5, c5, rfl, _⟩ := h5
  refine ⟨A1, A2, A3, A4, A5, x.1.length, x.2.1.length, x.2.2.1.length, x.2.2.2.2.1.length, x.2.2.2.2.2.length, c1, c2, c3, c4, c5, x.2.2.2.1.1, x.2.2.2.1.2, ?_⟩
  apply Array.ext'
  exact e
theorem back_mod {W W' : World} {v : Value} {d : DataW H} {p : List MemPlace} (h : DataW.Trod enc Tryd.prog W 0 (fun _ => true) true 29 v d p) (bel : Below W.heap.size W W') :
    DataW.Trod enc Tryd.prog W' 0 (fun b => decide (b < W.heap.size)) true 29 v d p :=
  Below.trod laidOut (by kernel_rfl) (of_decide_eq_true (by kernel_rfl)) h bel (by obtain ⟨m, hm⟩ := h; exact DataW.trod_lt m _ _ _ hm)
end
end Go.Proofs.YtjjhhmchomabeaaDoor.ModRow
namespace Go.Proofs.YtjjhhmchomabeaaDoor.ModRow
open Go.RowKit Go.Proofs.YtjjhhmchomabeaaDoorW.PrintWords Go.Proofs.YtjjhhmchomabeaaDoor.Open Go.Proofs.YtjjhhmchomabeaaDoor.Valid
set_option linter.unusedVariables false
set_option linter.unusedSimpArgs false

abbrev Wf64 (n : Int) : Prop := (Lit.int .i64 n).wf = true
section
variable {H : Type} {enc : TypeId × Value → H} {w : World} {base : Nat} {spare : Nat → Bool} {held : Bool}
theorem read_mod {cs : Array Value} {d : DataW H} {p : List MemPlace} (h : DataW.Trod enc Tryd.prog w base spare held 29 (.agg cs) d p) :
    ∃ (M : Md) (hd : Hd), cs = M.cells hd ∧ ModAt w hd M ∧ (∀ g ∈ M.sigs, (∀ t ∈ g.1, Wf64 t) ∧ (∀ t ∈ g.2, Wf64 t)) ∧ (∀ f ∈ M.funcs, (∀ t ∈ f.2.2.1, Wf64 t) ∧ (∀ x ∈ f.2.2.2, Wf64 x.2.1)) ∧ (∀ g ∈ M.globals, Wf64 g.1) := by
  have i1 := opens_int (enc := enc) (P := Tryd.prog) (w := w) (base := base) (spare := spare) (held := held) Tryd.underlying3 (by kernel_rfl)
  have b1 := opens_bool (enc := enc) (P := Tryd.prog) (w := w) (base := base) (spare := spare) (held := held) Tryd.underlying4 (by kernel_rfl)
  have s1 := opens_string (enc := enc) (P := Tryd.prog) (w := w) (base := base) (spare := spare) (held := held) Tryd.underlying9 (by kernel_rfl)
  have si := opens_slice Tryd.underlying23 (by kernel_rfl) i1
  have sig : Opens enc Tryd.prog w base spare held kSig _ 32 := opens_struct Tryd.underlying32 (by kernel_rfl) (opensAt_cons _ rfl rfl si (opensAt_last _ rfl rfl si rfl))
  have sigs := opens_slice Tryd.underlying22 (by kernel_rfl) sig
  have ins : Opens enc Tryd.prog w base spare held kInstr _ 45 := opens_struct Tryd.underlying45 (by kernel_rfl) (opensAt_cons _ rfl rfl i1 (opensAt_cons _ rfl rfl i1 (opensAt_last _ rfl rfl i1 rfl)))
  have inss := opens_slice Tryd.underlying41 (by kernel_rfl) ins
  have fn : Opens enc Tryd.prog w base spare held kFunc _ 43 := opens_struct Tryd.underlying43 (by kernel_rfl) (opensAt_cons _ rfl rfl i1 (opensAt_cons _ rfl rfl b1 (opensAt_cons _ rfl rfl si (opensAt_last _ rfl rfl inss rfl))))
  have fns := opens_slice Tryd.underlying24 (by kernel_rfl) fn
  have arr := opens_array2 Tryd.underlying25 (by kernel_rfl) i1
  have gl : Opens enc Tryd.prog w base spare held kGlobal _ 57 := opens_struct Tryd.underlying57 (by kernel_rfl) (opensAt_cons _ rfl rfl i1 (opensAt_last _ rfl rfl i1 rfl))
  have gls := opens_slice Tryd.underlying26 (by kernel_rfl) gl
  have da : Opens enc Tryd.prog w base spare held kData _ 54 := opens_struct Tryd.underlying54 (by kernel_rfl) (opensAt_cons _ rfl rfl i1 (opensAt_cons _ rfl rfl i1 (opensAt_last _ rfl rfl s1 rfl)))
  have das := opens_slice Tryd.underlying27 (by kernel_rfl) da
  have md : Opens enc Tryd.prog w base spare held kMod _ 29 := opens_struct Tryd.underlying29 (by kernel_rfl) (opensAt_cons _ rfl rfl sigs (opensAt_cons _ rfl rfl si (opensAt_cons _ rfl rfl fns (opensAt_cons _ rfl rfl arr (opensAt_cons _ rfl rfl gls (opensAt_last _ rfl rfl das rfl))))))
  obtain ⟨x, hK, hW⟩ := opens_trod md h
  obtain ⟨sigs0, imps0, funcs0, ⟨m0, m1⟩, globs0, data0⟩ := x
  obtain ⟨_, _, e, h1, ⟨_, _, rfl, h2, ⟨_, _, rfl, h3, ⟨_, _, rfl, ⟨_, _, rfl, rfl, rfl⟩, ⟨_, _, rfl, h4, h5⟩⟩⟩⟩⟩ := hK
  obtain ⟨A1, c1, rfl, hl1, hC1⟩ := h1
  obtain ⟨A2, c2, rfl, hl2, hC2⟩ := h2
  obtain ⟨A3, c3, rfl, hl3, hC3⟩ := h3
  obtain ⟨A4, c4, rfl, hl4, hC4⟩ := h4
  obtain ⟨A5, c5, rfl, hl5, hC5⟩ := h5
  refine ⟨⟨sigs0, imps0, funcs0, m0, m1, globs0, data0⟩, ⟨A1, A2, A3, A4, A5, c1, c2, c3, c4, c5⟩, Array.ext' e, ⟨hC1, hC2, hC3, hC4, hC5, hl1, hl2, hl3, hl4, hl5⟩, ?_⟩
  obtain ⟨w1, _, w3, _, w4, _⟩ := hW
  exact ⟨fun g hg => w1 g hg, fun f hf => ⟨(w3 f hf).2.2.1, fun x hx => ((w3 f hf).2.2.2 x hx).2.1⟩, fun g hg => (w4 g hg).1⟩
theorem slice_len {t e : TypeId} {fuel len cap B : Nat} {a : Option Addr} {x : DataW H × List MemPlace} (ht : Tryd.prog.underlying t = some (.slice e)) (hB : Tryd.prog.bytesOf e = B) (h : DataW.trod enc Tryd.prog w base spare held fuel t [.slice a len cap] = some x) (hsz : ∀ n ∈ x.1.weights Tryd.prog t, n ≤ reachBytes) : len * B ≤ reachBytes := by
  rcases Go.Deep.open_slice ht h with ⟨h0, _⟩ | ⟨a', len', cap', m, n, D, Pl, h0, _, _, _, _, rfl, _⟩
  · simp at h0
    obtain ⟨_, rfl, _⟩ := h0
    simp
  · simp at h0
    obtain ⟨_, rfl, _⟩ := h0
    have h1 := hsz ((((List.range len).map D).length + ((List.range (m - len)).map fun j => D (len + j)).length) * Tryd.prog.bytesOf e) (by simp [DataW.weights, ht])
    rw [hB] at h1
    simp at h1
    refine Nat.le_trans (Nat.mul_le_mul_right B ?_) h1
    omega
/-- the imports and the functions of a module that is handed over are not many: their rows' bytes have a bound -/
theorem mod_lens {M : Md} {hd : Hd} {d : DataW H} {p : List MemPlace} (h : DataW.Trod enc Tryd.prog w base spare held 29 (.agg (M.cells hd)) d p) (hsz : ∀ n ∈ d.weights Tryd.prog 29, n ≤ reachBytes) :
    M.imports.length * 8 ≤ reachBytes ∧ M.funcs.length * 64 ≤ reachBytes := by
  obtain ⟨fuel, hf⟩ := h
  obtain ⟨xs, n, _, e, _, hxl, hh⟩ := DataW.trod_struct Tryd.underlying29 hf
  obtain ⟨rfl, _⟩ := Prod.mk.inj e
  have hx6 : xs.length = 6 := hxl
  have hw : ∀ (j : Nat) (t : TypeId) (y : DataW H × List MemPlace), [22, 23, 24, 25, 26, 27][j]? = some t → xs[j]? = some y → ∀ n ∈ y.1.weights Tryd.prog t, n ≤ reachBytes := fun j t y ht hy n hn => hsz n (by
    simp only [DataW.weights, Tryd.underlying29]
    exact DataW.weights_mem_each (ts := [22, 23, 24, 25, 26, 27]) ht (by rw [List.getElem?_map, hy]; rfl) n hn)
  obtain ⟨y1, hy1⟩ : ∃ y, xs[1]? = some y := ⟨xs[1], List.getElem?_eq_getElem (by omega)⟩
  obtain ⟨y2, hy2⟩ : ∃ y, xs[2]? = some y := ⟨xs[2], List.getElem?_eq_getElem (by omega)⟩
  have h1 : DataW.trod enc Tryd.prog w base spare held n 23 (((Value.agg (M.cells hd)).cells.toList.drop 1).take (Tryd.prog.cellsOf 23)) = xs[1]? := hh 1 _ rfl
  have h2 : DataW.trod enc Tryd.prog w base spare held n 24 (((Value.agg (M.cells hd)).cells.toList.drop 2).take (Tryd.prog.cellsOf 24)) = xs[2]? := hh 2 _ rfl
  rw [hy1] at h1
  rw [hy2] at h2
  have c1 : Tryd.prog.cellsOf 23 = 1 := by kernel_rfl
  have c2 : Tryd.prog.cellsOf 24 = 1 := by kernel_rfl
  rw [c1] at h1
  rw [c2] at h2
  exact ⟨slice_len Tryd.underlying23 (by kernel_rfl) h1 (hw 1 _ y1 rfl hy1), slice_len Tryd.underlying24 (by kernel_rfl) h2 (hw 2 _ y2 rfl hy2)⟩
end
end Go.Proofs.YtjjhhmchomabeaaDoor.ModRow
