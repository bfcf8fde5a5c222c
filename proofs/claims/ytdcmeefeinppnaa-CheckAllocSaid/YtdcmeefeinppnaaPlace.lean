/- alloc.Alloc: maps inside a fence; who clashes; the first place that is free. -/
import Derived.Test.YtdcmeefeinppnaaClashes
namespace Go.Proofs.Ytdcmeefeinppnaa.MapOf
open Go.MapKept Go.RowKit
set_option linter.unusedVariables false
set_option linter.unusedSimpArgs false
section
variable {F : Fence} {nF : Nat} {β : Type} {enc : β → Value} {P : Program} (w : World) {ops : Array Oper} {rest : List Oper} {o : Oper} {a : Act} {Q : Exit → Act → World → Prop}
theorem wpIn_look (hg : o.guard = none) (m x : Operand) (t : TypeId) (hop : o.op = Op.lookup t m x false) (kt et : TypeId) (ht : P.underlying t = some (.map kt et)) (hkt : P.underlying kt = some (.int .i64))
    (z : β) (hz : (zeroValue et).run P w = .ok (enc z) w) (b : Nat) (M : List (Int × β)) (hm : a.eval m = .map (some b)) (h : Is enc w b M) (k : Int) (hx : a.eval x = .int .i64 k) (v : β) (hv : (get M k).getD z = v)
    (hK : wpListIn F nF P ops Q rest (a.put o.dst (enc v)) w) : wpListIn F nF P ops Q (o :: rest) a w := by
  subst hv
  refine wpListIn_plain hg fun K' hK' => ?_
  unfold Oper.wpIn
  refine ⟨by simp [Oper.about, hop], ?_⟩
  rw [Oper.semAt_plain F _ _ (by rw [hop]; intro c hc'; cases hc')]
  simp [execOp, hop, hm, hx, run_lookup h ht hkt hz k false, Result.andThen]
  exact hK' _ _ hK
theorem wpIn_update (hg : o.guard = none) (m x v : Operand) (t : TypeId) (hop : o.op = Op.mapUpdate t m x v) (kt et : TypeId) (ht : P.underlying t = some (.map kt et)) (hkt : P.underlying kt = some (.int .i64))
    (b : Nat) (M : List (Int × β)) (hm : a.eval m = .map (some b)) (h : Is enc w b M) (k : Int) (u : β) (hx : a.eval x = .int .i64 k) (hv : a.eval v = enc u)
    (hK : ∀ w', Is enc w' b (put M k u) → w.grownBy w' (some b) → w'.heap.size = w.heap.size → wpListIn F nF P ops Q rest (a.put o.dst undef) w') : wpListIn F nF P ops Q (o :: rest) a w := by
  refine wpListIn_plain hg fun K' hK' => ?_
  obtain ⟨w', hrun, r1, r2, r3⟩ := run_update h ht hkt k u
  unfold Oper.wpIn
  refine ⟨by simp [Oper.about, hop], ?_⟩
  rw [Oper.semAt_plain F _ _ (by rw [hop]; intro c hc'; cases hc')]
  simp [execOp, hop, hm, hx, hv, hrun, Result.andThen]
  exact hK' _ _ (hK w' r1 r2 r3)
end
end Go.Proofs.Ytdcmeefeinppnaa.MapOf
namespace Go.Proofs.Ytdcmeefeinppnaa.Live
open Go.RowKit Go.Shelf Go.Proofs.YtdcmeefeinppnaaW.PrintWords Go.Proofs.YtdcmeefeinppnaaW.PrintLast Go.Proofs.YtdcmeefeinppnaaW.PrintMore Go.Proofs.Ytdcmeefeinppnaa.Mem Go.Proofs.Ytdcmeefeinppnaa.Ir
open MapOf (get put)
set_option linter.unusedVariables false
set_option linter.unusedSimpArgs false
attribute [local go_sem] Oper.semAt_some

/-- do two cells clash, by the rows of bits? -/
def clM (ms : List Int) (a b : Int) : Bool := (a != b) && inB (rd ms a) b
set_option maxHeartbeats 2000000 in
theorem clash2_in (F : Fence) (n : Nat) (hF : F.fn 74) (hro : F.round = none) (ms : List Int) (bm g : Nat) (a b : Int) (w : World) (hm : w.heap[bm]? = some (.cells #[.slice (some ⟨g, 0, none⟩) ms.length ms.length] 26 (0, 0))) (hg : w.heap[g]? = some (.cells (ints ms) 3 (0, 0)))
    (ha0 : 0 ≤ a) (ha1 : a < ms.length) (hb0 : 0 ≤ b) (hb1 : b ≤ 60) :
    CallsIn F n Try.prog 74 #[.int .i64 a, .int .i64 b, .pointer (some ⟨bm, 0, none⟩)] w fun e w' => e = .returned (.bool (clM ms a b)) ∧ w' = w := by
  obtain ⟨aa, rfl⟩ : ∃ aa : Nat, a = (aa : Int) := ⟨a.toNat, by omega⟩
  have hal : aa < ms.length := by omega
  have hc := blk_cell hm 0
  have hr := row_cell hg hal
  refine callsIn_of_wp Try.func74 rfl hF ?_ hro
  simp only [Try.ntmps74, List.size_toArray, List.length_cons, List.length_nil, Nat.reduceAdd, Nat.reduceSub, Array.replicate_succ, Array.replicate_zero, List.push_toArray, List.append_toArray, List.nil_append, List.cons_append]
  cases hne : ((aa : Int) != b) with
  | true =>
    gi_wp2
    go_ret
    exact ⟨by unfold clM; rw [hne]; simp [inB], rfl⟩
  | false =>
    gi_wp2
    go_ret
    exact ⟨by unfold clM; rw [hne]; simp, rfl⟩

/-- the places that are taken: of cells ahead of k that clash with it -/
def tkM (ms out : List Int) (k : Int) : Nat → List (Int × Bool)
  | 0 => []
  | i + 1 => if clM ms (i : Int) k = true then put (tkM ms out k i) (rd out (i : Int)) true else tkM ms out k i
def freeF (M : List (Int × Bool)) : Nat → Int → Int
  | 0, p => p
  | f + 1, p => if (get M p).getD false = true then freeF M f (p + 1) else p
theorem freeF_le {M : List (Int × Bool)} {B : Int} (hM : ∀ q, (get M q).getD false = true → q ≤ B) : ∀ (f : Nat) (p : Int), p ≤ B + 1 → freeF M f p ≤ B + 1 := by
  intro f
  induction f with
  | zero => intro p h; exact h
  | succ f ih =>
    intro p h
    unfold freeF
    split
    · rename_i ht
      have := hM p ht
      exact ih (p + 1) (by omega)
    · exact h
theorem freeF_ge {M : List (Int × Bool)} : ∀ (f : Nat) (p : Int), p ≤ freeF M f p := by
  intro f
  induction f with
  | zero => intro p; exact Int.le_refl _
  | succ f ih =>
    intro p
    unfold freeF
    split
    · have := ih (p + 1); omega
    · exact Int.le_refl _
theorem tkM_get {ms out : List Int} {k : Int} {q : Int} : ∀ n : Nat, (get (tkM ms out k n) q).getD false = true ↔ ∃ i : Nat, i < n ∧ clM ms (i : Int) k = true ∧ rd out (i : Int) = q := by
  intro n
  induction n with
  | zero => simp [tkM, MapOf.get_nil]
  | succ n ih =>
    unfold tkM
    by_cases hc : clM ms (n : Int) k = true
    · rw [if_pos hc, MapOf.get_put]
      by_cases hq : rd out (n : Int) = q
      · rw [if_pos hq]
        simp only [Option.getD_some, true_iff]
        exact ⟨n, by omega, hc, hq⟩
      · rw [if_neg hq, ih]
        constructor
        · rintro ⟨i, h1, h2, h3⟩; exact ⟨i, by omega, h2, h3⟩
        · rintro ⟨i, h1, h2, h3⟩
          rcases Nat.lt_or_ge i n with h | h
          · exact ⟨i, h, h2, h3⟩
          · have : i = n := by omega
            subst this
            exact absurd h3 hq
    · rw [if_neg hc, ih]
      constructor
      · rintro ⟨i, h1, h2, h3⟩; exact ⟨i, by omega, h2, h3⟩
      · rintro ⟨i, h1, h2, h3⟩
        rcases Nat.lt_or_ge i n with h | h
        · exact ⟨i, h, h2, h3⟩
        · have : i = n := by omega
          subst this
          exact absurd h2 hc
/-- where a cell goes -/
def placeOf (ms out : List Int) (cr : Int) (k : Nat) : Int := freeF (tkM ms out (k : Int) k) 100 (if inB cr (k : Int) = true then 6 else 0)
def putAt (ms : List Int) (cr : Int) (out : List Int) (k : Nat) : List Int := out.set k (placeOf ms out cr k)
def alL {nn : Nat} (ms : List Int) (cr : Int) (l : List (Fin nn)) : List Int := l.foldl (fun o x => putAt ms cr o x.val) (List.replicate nn (-1))
theorem alL_snoc {nn : Nat} (ms : List Int) (cr : Int) (l : List (Fin nn)) (x : Fin nn) : alL ms cr (l ++ [x]) = putAt ms cr (alL ms cr l) x.val := by simp [alL, List.foldl_append]
theorem alL_len {nn : Nat} (ms : List Int) (cr : Int) (l : List (Fin nn)) : (alL ms cr l).length = nn := by
  unfold alL
  suffices h : ∀ (l : List (Fin nn)) (o : List Int), (l.foldl (fun o x => putAt ms cr o x.val) o).length = o.length by rw [h]; simp
  intro l
  induction l with
  | nil => intro o; rfl
  | cons x l ih => intro o; exact (ih _).trans (by simp [putAt])
/-- each place lies within its cell's reach -/
def Bd (o : List Int) : Prop := ∀ i : Nat, i < o.length → -1 ≤ rd o (i : Int) ∧ rd o (i : Int) ≤ 6 + i
theorem rd_setN {o : List Int} {k : Nat} {v : Int} (i : Nat) (hi : i < o.length) : rd (o.set k v) (i : Int) = if k = i then v else rd o (i : Int) := by
  unfold rd
  simp only [Int.toNat_natCast, List.getD_eq_getElem?_getD, List.getElem?_set]
  by_cases h : k = i
  · subst h; simp [hi]
  · simp [h]
theorem placeOf_le {ms out : List Int} {cr : Int} {k : Nat} (hB : Bd out) (hk : k ≤ out.length) : 0 ≤ placeOf ms out cr k ∧ placeOf ms out cr k ≤ 6 + k := by
  unfold placeOf
  constructor
  · have := freeF_ge (M := tkM ms out (k : Int) k) 100 (if inB cr (k : Int) = true then 6 else 0)
    have h0 : (0 : Int) ≤ (if inB cr (k : Int) = true then 6 else 0) := by split <;> omega
    omega
  · have h := freeF_le (M := tkM ms out (k : Int) k) (B := 5 + (k : Int)) (fun q hq => by
      obtain ⟨i, h1, _, h3⟩ := (tkM_get k).1 hq
      have := hB i (by omega)
      omega) 100 (if inB cr (k : Int) = true then 6 else 0) (by split <;> omega)
    omega
theorem Bd.put {ms out : List Int} {cr : Int} {k : Nat} (hB : Bd out) (hk : k < out.length) : Bd (putAt ms cr out k) := by
  intro i hi
  have hi2 : i < out.length := by simpa [putAt] using hi
  unfold putAt
  rw [rd_setN i hi2]
  by_cases h : k = i
  · subst h
    rw [if_pos rfl]
    have := placeOf_le (ms := ms) (cr := cr) hB (Nat.le_of_lt hk)
    omega
  · rw [if_neg h]; exact hB i hi2
theorem alL_bd {nn : Nat} (ms : List Int) (cr : Int) (l : List (Fin nn)) : Bd (alL ms cr l) := by
  suffices h : ∀ (l : List (Fin nn)) (o : List Int), o.length = nn → Bd o → Bd (l.foldl (fun o x => putAt ms cr o x.val) o) by
    refine h l _ (by simp) (fun i hi => ?_)
    have : i < nn := by simpa using hi
    simp [rd, this]
    omega
  intro l
  induction l with
  | nil => intro o _ h; exact h
  | cons x l ih => intro o hl h; exact ih _ (by simp [putAt, hl]) (Bd.put h (by rw [hl]; exact x.isLt))
end Go.Proofs.Ytdcmeefeinppnaa.Live
