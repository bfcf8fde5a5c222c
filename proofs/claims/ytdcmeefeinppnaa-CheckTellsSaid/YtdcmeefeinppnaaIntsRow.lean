/- Rows: a []int that is handed over, and a code. -/
import Derived.Test.YtdcmeefeinppnaaIr
import Derived.Test.YtdcmeefeinppnaaOpen
import Derived.Test.YtdcmeefeinppnaaRows
import Derived.WalkKit
import Derived.ProofKit
import Derived.OpenShut
import Derived.WideShapes
import Derived.ChangeOld
import Derived.Below
import Derived.SizedLaws
namespace Go.Proofs.Ytdcmeefeinppnaa.CodeRow
open Go.RowKit Go.Proofs.YtdcmeefeinppnaaW.PrintWords Go.Proofs.Ytdcmeefeinppnaa.Ir Go.Proofs.Ytdcmeefeinppnaa.Open
set_option linter.unusedVariables false
set_option linter.unusedSimpArgs false

abbrev k7 := Kd.pair (Kd.int .i64) (Kd.pair (Kd.int .i64) (Kd.pair (Kd.int .i64) (Kd.pair (Kd.int .i64) (Kd.pair (Kd.int .i64) (Kd.pair (Kd.int .i64) (Kd.int .i64))))))
def toIr (x : Int × Int × Int × Int × Int × Int × Int) : Ir := ⟨x.1, x.2.1, x.2.2.1, x.2.2.2.1, x.2.2.2.2.1, x.2.2.2.2.2.1, x.2.2.2.2.2.2⟩
theorem toIr_C {w : World} {A : Option Addr} {l : List (Int × Int × Int × Int × Int × Int × Int)} (h : Kd.C k7 w A l.length l) : Kd.C kIr w A (l.map toIr).length (l.map toIr) := by
  rw [List.length_map]
  refine ⟨by simp, h.2.1, fun h0 => ?_⟩
  obtain ⟨ad, e, hh⟩ := h.2.2 h0
  refine ⟨ad, e, fun j p hj => ?_⟩
  rw [List.getElem?_map] at hj
  cases hx : l[j]? with
  | none => rw [hx] at hj; simp at hj
  | some q =>
    rw [hx] at hj
    simp only [Option.map_some, Option.some.injEq] at hj
    subst hj
    exact hh j q hx
theorem laidOut : laidOutB Try.prog = true := by kernel_rfl
theorem open_code {H : Type} {enc : TypeId × Value → H} {w : World} {base : Nat} {spare : Nat → Bool} {held : Bool} {cs : Array Value} {d : DataW H} {p : List MemPlace} (h : DataW.Trod enc Try.prog w base spare held 24 (.agg cs) d p) :
    ∃ (cells params labels : Int) (L : List Ir) (A : Option Addr) (cap : Nat), cs = #[.int .i64 cells, .int .i64 params, .slice A L.length cap, .int .i64 labels] ∧ kIr.C w A L.length L ∧ L.length ≤ cap := by
  have i1 := opens_int (enc := enc) (P := Try.prog) (w := w) (base := base) (spare := spare) (held := held) Try.underlying3 (by kernel_rfl)
  have st : Opens enc Try.prog w base spare held k7 _ 38 := opens_struct Try.underlying38 (by kernel_rfl) (opensAt_cons _ rfl rfl i1 (opensAt_cons _ rfl rfl i1 (opensAt_cons _ rfl rfl i1 (opensAt_cons _ rfl rfl i1 (opensAt_cons _ rfl rfl i1 (opensAt_cons _ rfl rfl i1 (opensAt_last _ rfl rfl i1 rfl)))))))
  have sl := opens_slice Try.underlying22 (by kernel_rfl) st
  have cd : Opens enc Try.prog w base spare held (Kd.pair (Kd.int .i64) (Kd.pair (Kd.int .i64) (Kd.pair (Kd.slice 38 k7) (Kd.int .i64)))) _ 24 := opens_struct Try.underlying24 (by kernel_rfl) (opensAt_cons _ rfl rfl i1 (opensAt_cons _ rfl rfl i1 (opensAt_cons _ rfl rfl sl (opensAt_last _ rfl rfl i1 rfl))))
  obtain ⟨x, hK, _⟩ := opens_trod cd h
  obtain ⟨_, _, e, rfl, ⟨_, _, rfl, rfl, ⟨_, _, rfl, hs, rfl⟩⟩⟩ := hK
  obtain ⟨A, cap, rfl, h1, h2⟩ := hs
  refine ⟨x.1, x.2.1, x.2.2.2, x.2.2.1.map toIr, A, cap, ?_, toIr_C h2, by rw [List.length_map]; exact h1⟩
  rw [List.length_map]
  apply Array.ext'
  exact e
theorem back_code {H : Type} {enc : TypeId × Value → H} {W W' : World} {v : Value} {d : DataW H} {p : List MemPlace} (h : DataW.Trod enc Try.prog W 0 (fun _ => true) true 24 v d p) (bel : Below W.heap.size W W') :
    DataW.Trod enc Try.prog W' 0 (fun b => decide (b < W.heap.size)) true 24 v d p :=
  Below.trod laidOut (by kernel_rfl) (of_decide_eq_true (by kernel_rfl)) h bel (by obtain ⟨m, hm⟩ := h; exact DataW.trod_lt m _ _ _ hm)
end Go.Proofs.Ytdcmeefeinppnaa.CodeRow
namespace Go.Proofs.Ytdcmeefeinppnaa.CodeRow
open Go.RowKit Go.Proofs.YtdcmeefeinppnaaW.PrintWords Go.Proofs.Ytdcmeefeinppnaa.Ir Go.Proofs.Ytdcmeefeinppnaa.Open
set_option linter.unusedVariables false
set_option linter.unusedSimpArgs false
theorem wf_i64 {n : Int} (h : (Lit.int .i64 n).wf = true) : -9223372036854775808 ≤ n ∧ n ≤ 9223372036854775807 := by
  unfold Lit.wf at h
  simp only [Bool.and_eq_true, decide_eq_true_eq] at h
  exact h
theorem open_ints {H : Type} {enc : TypeId × Value → H} {w : World} {base : Nat} {spare : Nat → Bool} {held : Bool} {a : Option Addr} {len cap : Nat} {d : DataW H} {p : List MemPlace} (h : DataW.Trod enc Try.prog w base spare held 26 (.slice a len cap) d p) :
    ∃ l : List Int, len = l.length ∧ l.length ≤ cap ∧ (Kd.int .i64).C w a l.length l ∧ ∀ k ∈ l, -9223372036854775808 ≤ k ∧ k ≤ 9223372036854775807 := by
  have i1 := opens_int (enc := enc) (P := Try.prog) (w := w) (base := base) (spare := spare) (held := held) Try.underlying3 (by kernel_rfl)
  obtain ⟨l, hK, hW⟩ := opens_trod (opens_slice Try.underlying26 (by kernel_rfl) i1) h
  have hK' : (Kd.slice 3 (Kd.int .i64)).K w l [.slice a len cap] := hK
  obtain ⟨rfl, h1, h2⟩ := K_slice hK'
  exact ⟨l, rfl, h1, h2, fun k hk => wf_i64 (hW k hk)⟩
theorem back_ints {H : Type} {enc : TypeId × Value → H} {W W' : World} {v : Value} {d : DataW H} {p : List MemPlace} (h : DataW.Trod enc Try.prog W 0 (fun _ => true) true 26 v d p) (bel : Below W.heap.size W W') :
    DataW.Trod enc Try.prog W' 0 (fun b => decide (b < W.heap.size)) true 26 v d p :=
  Below.trod laidOut (by kernel_rfl) (of_decide_eq_true (by kernel_rfl)) h bel (by obtain ⟨m, hm⟩ := h; exact DataW.trod_lt m _ _ _ hm)
/-- a code that is handed over: its numbers are of 64 bits -/
theorem open_code_n {H : Type} {enc : TypeId × Value → H} {w : World} {base : Nat} {spare : Nat → Bool} {held : Bool} {cs : Array Value} {d : DataW H} {p : List MemPlace} (h : DataW.Trod enc Try.prog w base spare held 24 (.agg cs) d p) :
    ∃ (cells params labels : Int) (L : List Ir) (A : Option Addr) (cap : Nat), cs = #[.int .i64 cells, .int .i64 params, .slice A L.length cap, .int .i64 labels] ∧ kIr.C w A L.length L ∧ L.length ≤ cap ∧ ∀ i : Nat, i < L.length → -9223372036854775808 ≤ (atIr L i).n ∧ (atIr L i).n ≤ 9223372036854775807 := by
  have i1 := opens_int (enc := enc) (P := Try.prog) (w := w) (base := base) (spare := spare) (held := held) Try.underlying3 (by kernel_rfl)
  have st := opens_struct (enc := enc) (P := Try.prog) (w := w) (base := base) (spare := spare) (held := held) (d := k7) Try.underlying38 (by kernel_rfl) (opensAt_cons _ rfl rfl i1 (opensAt_cons _ rfl rfl i1 (opensAt_cons _ rfl rfl i1 (opensAt_cons _ rfl rfl i1 (opensAt_cons _ rfl rfl i1 (opensAt_cons _ rfl rfl i1 (opensAt_last _ rfl rfl i1 rfl)))))))
  have sl := opens_slice Try.underlying22 (by kernel_rfl) st
  have cd := opens_struct (d := Kd.pair (Kd.int .i64) (Kd.pair (Kd.int .i64) (Kd.pair (Kd.slice 38 k7) (Kd.int .i64)))) Try.underlying24 (by kernel_rfl) (opensAt_cons _ rfl rfl i1 (opensAt_cons _ rfl rfl i1 (opensAt_cons _ rfl rfl sl (opensAt_last _ rfl rfl i1 rfl))))
  obtain ⟨x, hK, hW⟩ := opens_trod cd h
  have hW3 := hW.2.2.1
  obtain ⟨_, _, e, rfl, ⟨_, _, rfl, rfl, ⟨_, _, rfl, hs, rfl⟩⟩⟩ := hK
  obtain ⟨A, cap, rfl, h1, h2⟩ := hs
  refine ⟨x.1, x.2.1, x.2.2.2, x.2.2.1.map toIr, A, cap, ?_, toIr_C h2, by rw [List.length_map]; exact h1, fun i hi => ?_⟩
  · rw [List.length_map]
    apply Array.ext'
    exact e
  · rw [List.length_map] at hi
    have h3 := hW3 _ (List.getElem_mem hi)
    have e1 : atIr (x.2.2.1.map toIr) i = toIr x.2.2.1[i] := by
      unfold atIr
      rw [List.getD_eq_getElem?_getD, List.getElem?_map, List.getElem?_eq_getElem hi]
      rfl
    rw [e1]
    exact wf_i64 h3.2.2.2.2.2.1
/-- the form's own reach: how long a row that is handed over may be -/
theorem ints_reach {H : Type} {enc : TypeId × Value → H} {w : World} {base : Nat} {spare : Nat → Bool} {held : Bool} {a : Option Addr} {len cap : Nat} {d : DataW H} {p : List MemPlace} (h : DataW.Trod enc Try.prog w base spare held 26 (.slice a len cap) d p)
    {ts : List TypeId} {ds : List (DataW H)} (hsz : (DataW.weightsEach Try.prog ts ds).all (· ≤ reachBytes) = true) {j : Nat} (ht : ts[j]? = some 26) (hd : ds[j]? = some d) : len * 8 ≤ 140737488351232 := by
  obtain ⟨fuel, hf⟩ := h
  rcases Go.Deep.open_slice Try.underlying26 hf with ⟨h1, _⟩ | ⟨a', len', cap', m, n, D, Pl, h1, hb, hl, hm, hmm, h2, hi⟩
  · have h1' : [Value.slice a len cap] = [.slice none 0 0] := h1
    injection h1' with h3
    injection h3 with _ h4 _
    subst h4
    decide
  · have h1' : [Value.slice a len cap] = [.slice (some a') len' cap'] := h1
    injection h1' with h3
    injection h3 with _ h4 _
    subst h4
    have h5 : d = .slice ((List.range len).map D) ((List.range (m - len)).map fun j => D (len + j)) := congrArg Prod.fst h2
    rw [h5] at hd
    have h6 := sized_slice hsz ht hd Try.underlying26
    have hb8 : Try.prog.bytesOf 3 = 8 := by kernel_rfl
    rw [hb8, List.length_map, List.length_range] at h6
    have h7 : len * 8 ≤ (len + ((List.range (m - len)).map fun j => D (len + j)).length) * 8 := Nat.mul_le_mul_right _ (Nat.le_add_right _ _)
    exact Nat.le_trans h7 h6
end Go.Proofs.Ytdcmeefeinppnaa.CodeRow
