/- check.Exec: code carried out over places. -/
import Derived.Test.YtdcmeefeinppnaaRight
import Derived.Test.YtdcmeefeinppnaaSim
import Derived.Test.YtdcmeefeinppnaaEx16
namespace Go.Proofs.Ytdcmeefeinppnaa.Check
open Go.RowKit Go.Proofs.YtdcmeefeinppnaaW.PrintWords Go.Proofs.YtdcmeefeinppnaaW.PrintLast Go.Proofs.YtdcmeefeinppnaaW.PrintMore Go.Proofs.Ytdcmeefeinppnaa.Mem Go.Proofs.Ytdcmeefeinppnaa.Ir Go.Proofs.Ytdcmeefeinppnaa.Live Go.Proofs.Ytdcmeefeinppnaa.Rsem
open MapOf (get put)
open Uses (uses)
open Word (eval)
set_option linter.unusedVariables false
set_option linter.unusedSimpArgs false

/-- the code over places -/
def overC (c : Cod) (l : List Int) : Cod := ⟨66, c.params, c.body.map (ren (fun k => rd l k)), c.labels⟩
theorem ren_zIr (g : Int → Int) : ren g zIr = zIr := by
  unfold ren zIr defs Uses.raw
  simp
theorem atIr_map (g : Int → Int) (L : List Ir) (i : Nat) : atIr (L.map (ren g)) i = ren g (atIr L i) := by
  unfold atIr
  rw [List.getD_eq_getElem?_getD, List.getD_eq_getElem?_getD, List.getElem?_map]
  cases L[i]? with
  | none => exact (ren_zIr g).symm
  | some x => rfl
theorem cnt_map (g : Int → Int) (L : List Ir) (n : Int) (k : Nat) : cnt (L.map (ren g)) n k = cnt L n k := by
  induction k with
  | zero => rfl
  | succ k ih => unfold cnt; rw [ih, atIr_map]; rfl
theorem labR_map (g : Int → Int) (L : List Ir) (k : Nat) : labR (L.map (ren g)) k = labR L k := labR_congr (fun i => by rw [atIr_map]; exact ⟨rfl, rfl⟩) k
section
variable {c : Cod} {ah af l : List Int}
structure RightIs (c : Cod) (ah af l : List Int) : Prop where
  fit : fits c = true
  len : (l.length : Int) = c.cells
  one : ∀ a : Nat, a < l.length → OneOk c af l a
  two : ∀ a b : Nat, a < l.length → b < a → rd l (a : Int) = rd l (b : Int) → clashB c ah af (a : Int) (b : Int) = false
theorem right_is (h : rightB c ah af l = true) : RightIs c ah af l := by
  unfold rightB at h
  rw [Bool.and_eq_true, Bool.and_eq_true, decide_eq_true_iff, List.all_eq_true] at h
  obtain ⟨⟨h1, h2⟩, h3⟩ := h
  have hr : ∀ a : Nat, a < l.length → rowB c ah af l a = true := fun a ha => h3 a (List.mem_range.2 ha)
  refine ⟨h1, h2, fun a ha => ?_, fun a b ha hb he => ?_⟩
  · have h := hr a ha
    unfold rowB at h
    simp only [Bool.and_eq_true, Bool.not_eq_true', decide_eq_false_iff_not] at h
    exact ⟨h.1.1.1.1, h.1.1.1.2, h.1.1.2, h.1.2⟩
  · have h := hr a ha
    unfold rowB at h
    rw [Bool.and_eq_true, List.all_eq_true] at h
    have h4 := h.2 b (List.mem_range.2 hb)
    rw [decide_eq_true he, Bool.true_and, Bool.not_eq_true'] at h4
    exact h4
theorem right_of (h : RightIs c ah af l) : rightB c ah af l = true := right_all h.fit h.len ⟨fun a ha => row_yes (h.one a ha) ⟨fun b hb he => h.two a b ha hb he⟩⟩
theorem RightIs.named (h : RightIs c ah af l) {a : Nat} (ha : a < l.length) (hn : inB (namedN c c.body.length) (a : Int) = true) : 0 ≤ rd l (a : Int) ∧ rd l (a : Int) < 66 := by
  have h1 := h.one a ha
  have h2 := h1.nm
  rw [hn, Bool.true_and, decide_eq_false_iff_not] at h2
  have h3 := h1.hi
  omega
/-- what an instruction names is in a place -/
theorem RightIs.use (h : RightIs c ah af l) {i : Nat} (hi : i < c.body.length) {k : Int} (hk : k ∈ Uses.raw (atIr c.body i).op (atIr c.body i).a (atIr c.body i).b (atIr c.body i).c) : 0 ≤ k ∧ k < l.length ∧ 0 ≤ rd l k ∧ rd l k < 66 := by
  have hh := fits_head h.fit
  have hu := okIr_use (fits_ir h.fit i hi) k (uses_mem hk)
  have hl := h.len
  obtain ⟨q, rfl⟩ : ∃ q : Nat, k = (q : Int) := ⟨k.toNat, by omega⟩
  exact ⟨hu.1, by omega, h.named (by omega) (inB_sub (named_use c hi _ (uses_mem hk)) (by omega) (inB_shl (by omega)))⟩
theorem RightIs.dst (h : RightIs c ah af l) {i : Nat} (hi : i < c.body.length) (h0 : 0 ≤ defs (atIr c.body i)) : defs (atIr c.body i) < l.length ∧ 0 ≤ rd l (defs (atIr c.body i)) ∧ rd l (defs (atIr c.body i)) < 66 := by
  have hh := fits_head h.fit
  have hd := okIr_def (fits_ir h.fit i hi)
  have hl := h.len
  have hnd := named_def c hi h0
  obtain ⟨q, hq⟩ : ∃ q : Nat, defs (atIr c.body i) = (q : Int) := ⟨(defs (atIr c.body i)).toNat, by omega⟩
  rw [hq] at hd hnd ⊢
  exact ⟨by omega, h.named (by omega) (inB_sub hnd (by omega) (inB_shl (by omega)))⟩
/-- two cells that clash are in two places -/
theorem RightIs.apart (h : RightIs c ah af l) {a b : Nat} (ha : a < l.length) (hb : b < l.length) (hab : a ≠ b) (hc : clashB c ah af (a : Int) (b : Int) = true) : rd l (a : Int) ≠ rd l (b : Int) := by
  intro e
  rcases Nat.lt_or_ge b a with h1 | h1
  · rw [h.two a b ha h1 e] at hc; cases hc
  · rw [clash_sym (by omega)] at hc
    rw [h.two b a hb (by omega) e.symm] at hc; cases hc
theorem clash_def {c : Cod} {ah af : List Int} {i : Nat} (hi : i < c.body.length) {d k : Int} (hd : defs (atIr c.body i) = d) (hl : inB (rd af (i : Int)) k = true) : clashB c ah af d k = true := by
  unfold clashB
  rw [Bool.or_eq_true]; left
  rw [List.any_eq_true]
  refine ⟨i, List.mem_range.2 hi, ?_⟩
  unfold cl
  rw [if_pos hd]
  exact hl
theorem RightIs.places (h : RightIs c ah af l) (hS : SetsIs c ah af 0) (hL : LiveIs c ah af) : Places c af (fun k => rd l k) 66 where
  use := fun i hi k hk => ⟨(h.use hi hk).2.2.1, (h.use hi hk).2.2.2⟩
  dst := fun i hi h0 => (h.dst hi h0).2
  apart := fun i hi h0 k hk hne hl => by
    have hh := fits_head h.fit
    have hlen := h.len
    have hd := h.dst hi h0
    obtain ⟨q, hq⟩ : ∃ q : Nat, defs (atIr c.body i) = (q : Int) := ⟨(defs (atIr c.body i)).toNat, by omega⟩
    have hc : clashB c ah af (q : Int) (k : Int) = true := clash_def hi hq hl
    rw [hq] at hne hd ⊢
    refine ⟨(h.named (a := k) (by omega) (inB_sub (after_named hS h.fit hL i hi) (by omega) hl)).1, fun e => ?_⟩
    exact h.apart (a := q) (b := k) (by omega) (by omega) (by omega) hc e.symm
/-- the code over places may be carried out alone -/
theorem raw_ren {g : Int → Int} {x : Ir} (ho : x.op = 1 ∨ x.op = 2 ∨ x.op = 3 ∨ x.op = 4 ∨ x.op = 9 ∨ x.op = 10 ∨ x.op = 11 ∨ x.op = 12 ∨ x.op = 15 ∨ x.op = 16) (hg : ∀ k ∈ Uses.raw x.op x.a x.b x.c, 0 ≤ g k) : Uses.raw (ren g x).op (ren g x).a (ren g x).b (ren g x).c = (Uses.raw x.op x.a x.b x.c).map g := by
  obtain ⟨op, d, a, b, cc, n, m⟩ := x
  simp only at ho
  rcases ho with rfl | rfl | rfl | rfl | rfl | rfl | rfl | rfl | rfl | rfl
  case inr.inr.inr.inr.inr.inr.inr.inr.inl =>
    by_cases ha : 0 ≤ a
    · have h := hg a (by simp [Uses.raw, ha])
      simp [ren, Uses.raw, ha, h]
    · simp [ren, Uses.raw, ha]
  all_goals simp [ren, Uses.raw]
theorem any_odd {g : Int → Int} {n : Int} {r r' : List Int} (h : r' = r.map g) (hr : ∀ k ∈ r, 0 ≤ g k ∧ g k < n) : (Lib.compact (Uses.sorted r')).any (oddB n) = false := by
  rw [List.any_eq_false]
  intro k hk
  have hk := (Ins.compact_mem _ _).1 hk
  unfold Uses.sorted at hk
  have hk := List.mem_mergeSort.1 hk
  rw [h] at hk
  obtain ⟨k', hk', rfl⟩ := List.mem_map.1 hk
  have := hr k' hk'
  simp [oddB]
  omega
theorem kinds_of {c : Cod} {n : Int} {x : Ir} (h : okR c n x = true) : x.op = 1 ∨ x.op = 2 ∨ x.op = 3 ∨ x.op = 4 ∨ x.op = 9 ∨ x.op = 10 ∨ x.op = 11 ∨ x.op = 12 ∨ x.op = 15 ∨ x.op = 16 := by
  have := okR_kind h
  omega
theorem over_fits (h : RightIs c ah af l) (hR : fitsR c c.cells = true) : fitsR (overC c l) 66 = true := by
  unfold fitsR
  rw [Bool.and_eq_true, List.all_eq_true, decide_eq_true_iff]
  refine ⟨fun y hy => ?_, rfl⟩
  obtain ⟨x, hx, rfl⟩ := List.mem_map.1 hy
  obtain ⟨i, hi, rfl⟩ := List.getElem_of_mem hx
  have hat : c.body[i] = atIr c.body i := by
    unfold atIr
    rw [List.getD_eq_getElem?_getD, List.getElem?_eq_getElem hi]
    rfl
  rw [hat]
  have hok := okR_at hR hi
  have hu : ∀ k ∈ Uses.raw (atIr c.body i).op (atIr c.body i).a (atIr c.body i).b (atIr c.body i).c, 0 ≤ rd l k ∧ rd l k < 66 := fun k hk => (h.use hi hk).2.2
  have hany := any_odd (raw_ren (kinds_of hok) (fun k hk => (hu k hk).1)) hu
  have hd0 := fun h0 => h.dst hi h0
  have hdst := okR_dst hok
  obtain ⟨x, hx⟩ : ∃ x, atIr c.body i = x := ⟨_, rfl⟩
  rw [hx] at hok hany hd0 hdst ⊢
  have hD : x.op = 1 ∨ x.op = 2 ∨ x.op = 3 ∨ x.op = 4 → oddB 66 (ren (fun k => rd l k) x).dst = false := fun ho => by
    have hdef : defs x = x.dst := if_pos (by omega)
    have h1 := hdst ho
    have h2 := hd0 (by rw [hdef]; exact h1.1)
    rw [hdef] at h2
    have e : (ren (fun k => rd l k) x).dst = rd l x.dst := if_pos (by rw [hdef]; exact h1.1)
    rw [e]
    simp [oddB]; omega
  unfold okR
  rw [Bool.and_eq_true]
  refine ⟨?_, by unfold uses; rw [hany]; rfl⟩
  have hk := okR_kind hok
  unfold okR at hok
  rw [Bool.and_eq_true] at hok
  have hk1 := hok.1
  unfold kindR at hk1 ⊢
  have hop : (ren (fun k => rd l k) x).op = x.op := rfl
  have hn : (ren (fun k => rd l k) x).n = x.n := rfl
  rw [hop, hn]
  by_cases h3 : x.op = 3
  · rw [if_pos h3] at hk1 ⊢
    rw [Bool.and_eq_true] at hk1 ⊢
    exact ⟨hk1.1, by rw [hD (by omega)]; rfl⟩
  rw [if_neg h3] at hk1 ⊢
  by_cases h2 : x.op = 1 ∨ x.op = 2 ∨ x.op = 4
  · rw [if_pos h2]
    rw [hD (by omega)]; rfl
  rw [if_neg h2] at hk1 ⊢
  by_cases h4 : x.op = 10 ∨ x.op = 11 ∨ x.op = 12
  · rw [if_pos h4] at hk1 ⊢
    have e : cnt (overC c l).body x.n (overC c l).body.length = cnt c.body x.n c.body.length := by
      show cnt (c.body.map (ren (fun k => rd l k))) x.n (c.body.map (ren (fun k => rd l k))).length = _
      rw [cnt_map, List.length_map]
    rw [e]
    exact hk1
  rw [if_neg h4] at hk1 ⊢
  exact hk1
end
/-! ### the places' first values -/
def putP (l params ps : List Int) : Nat → List Int
  | 0 => ps
  | k + 1 => setI (putP l params ps k) (rd l (k : Int)) (rd params (k : Int))
theorem putP_len (l params ps : List Int) (k : Nat) : (putP l params ps k).length = ps.length := by
  induction k with
  | zero => rfl
  | succ k ih => unfold putP; rw [setI_len, ih]
def places0 (l params : List Int) : List Int := putP l params (List.replicate 66 77) params.length
theorem places0_len (l params : List Int) : (places0 l params).length = 66 := by unfold places0; rw [putP_len]; simp
theorem canL_rep (n : Nat) (v : Int) (hv : Live.Can v) : CanL (List.replicate n v) := fun i => by
  unfold rd
  rw [List.getD_eq_getElem?_getD, List.getElem?_replicate]
  split
  · exact hv
  · exact ⟨by decide, by decide⟩
theorem putP_can {l params ps : List Int} (hp : CanL params) (hc : CanL ps) (hl : ∀ k : Nat, k < params.length → 0 ≤ rd l (k : Int) ∧ rd l (k : Int) < ps.length) : ∀ k, k ≤ params.length → CanL (putP l params ps k) := by
  intro k
  induction k with
  | zero => intro _; exact hc
  | succ k ih =>
    intro hk
    unfold putP
    exact (ih (by omega)).set (by rw [putP_len]; exact hl k (by omega)) (hp _)
/-- where each that counts has a place of its own, it holds its own value -/
theorem putP_rd {l params ps : List Int} (hl : ∀ k : Nat, k < params.length → 0 ≤ rd l (k : Int) ∧ rd l (k : Int) < ps.length) (i : Nat) (hi : i < params.length) (hd : ∀ j : Nat, j < params.length → j ≠ i → rd l (j : Int) ≠ rd l (i : Int)) : ∀ k, k ≤ params.length → i < k → rd (putP l params ps k) (rd l (i : Int)) = rd params (i : Int) := by
  intro k
  induction k with
  | zero => intro _ h; omega
  | succ k ih =>
    intro hk hik
    unfold putP
    have h1 := hl k (by omega)
    have h2 := hl i hi
    rw [rd_setI (by rw [putP_len]; omega)]
    by_cases e : i = k
    · subst e; rw [if_pos rfl]
    · rw [if_neg (by have := hd k (by omega) (fun h => e h.symm); omega)]
      exact ih (by omega) (by omega)
/-- what comes of code over places -/
def checkS (c : Cod) (ah af l params : List Int) : Int × Int × Int :=
  if rightB c ah af l = true ∧ (params.length : Int) = c.params ∧ fitsR c c.cells = true then ((execS (overC c l) (places0 l params)).2.1, (execS (overC c l) (places0 l params)).2.2, 0) else (0, 0, 4)
theorem RightIs.params {c : Cod} {ah af l : List Int} (h : RightIs c ah af l) {k : Nat} (hk : (k : Int) < c.params) : 0 ≤ rd l (k : Int) ∧ rd l (k : Int) < 66 ∧ k < l.length := by
  have hh := fits_head h.fit
  have hl := h.len
  have h1 := h.named (a := k) (by omega) (by
    refine inB_sub (named_up c (Nat.zero_le _)) (by omega) ?_
    show inB (wrap64 (wrap64 (2 ^ c.params.toNat) - 1)) (k : Int) = true
    rw [inB_mask _ _ (by omega) (by omega)]
    simp; omega)
  exact ⟨h1.1, h1.2, by omega⟩
/-- code over cells of its own, and over its places -/
theorem over_same {c : Cod} {ah af l params cs : List Int} (h : RightIs c ah af l) (hS : SetsIs c ah af 0) (hL : LiveIs c ah af) (hR : fitsR c c.cells = true) (hp : (params.length : Int) = c.params) (hc : (cs.length : Int) = c.cells) (hcs : ∀ k : Nat, k < params.length → rd cs (k : Int) = rd params (k : Int))
    (ha : 0 < c.body.length → ∀ k : Nat, (k : Int) < c.cells → inB (rd ah 0) (k : Int) = true → k < params.length) : (execS c cs).2 = (execS (overC c l) (places0 l params)).2 := by
  have hlb : labR (overC c l).body (overC c l).body.length = labR c.body c.body.length := by
    show labR (c.body.map (ren (fun k => rd l k))) (c.body.map (ren (fun k => rd l k))).length = _
    rw [labR_map, List.length_map]
  unfold execS
  rw [hlb]
  refine run_same ⟨h.fit, hL⟩ hR (h.places hS hL) (overC c l).body (by show (c.body.map _).length = _; simp) (fun i _ => atIr_map _ _ _) 10000 0 cs (places0 l params) (by omega) hc (places0_len _ _) (fun hlt k hk hl => ?_)
  have hk1 := ha (by omega) k hk hl
  rw [hcs k hk1]
  have hpl : ∀ j : Nat, j < params.length → 0 ≤ rd l (j : Int) ∧ rd l (j : Int) < ((List.replicate 66 (77 : Int)).length : Int) := fun j hj => by
    have := h.params (k := j) (by omega)
    exact ⟨this.1, by simp; omega⟩
  refine (putP_rd hpl k hk1 (fun j hj hne e => ?_) params.length (Nat.le_refl _) hk1).symm
  have h1 := h.params (k := j) (by omega)
  have h2 := h.params (k := k) (by omega)
  refine h.apart (a := k) (b := j) h2.2.2 h1.2.2 (fun e => hne e.symm) ?_ e.symm
  unfold clashB
  rw [Bool.or_eq_true]; right
  rw [hl, Bool.true_or, Bool.and_true, Bool.and_eq_true, decide_eq_true_iff, decide_eq_true_iff]
  refine ⟨by rw [hL.la]; omega, ?_⟩
  split <;> omega
end Go.Proofs.Ytdcmeefeinppnaa.Check
namespace Go.Proofs.Ytdcmeefeinppnaa.Check
open Go.RowKit Go.Proofs.YtdcmeefeinppnaaW.PrintWords Go.Proofs.YtdcmeefeinppnaaW.PrintLast Go.Proofs.YtdcmeefeinppnaaW.PrintMore Go.Proofs.Ytdcmeefeinppnaa.Mem Go.Proofs.Ytdcmeefeinppnaa.Ir Go.Proofs.Ytdcmeefeinppnaa.Live Go.Proofs.Ytdcmeefeinppnaa.Rsem
open MapOf (get put)
open Uses (uses uses_calls infoInt)
set_option linter.unusedVariables false
set_option linter.unusedSimpArgs false

def ExOut2 (w : World) (r : Int × Int × Int) (e : Ending) (w' : World) : Prop := e = .returned (.tuple #[.int .i64 r.1, .int .i64 r.2.1, .int .i64 r.2.2]) ∧ Below w.heap.size w w'
theorem zeros_C {W : World} {n g : Nat} (hn : n ≤ 90000) (h : W.heap[g]? = some (.cells (Array.replicate n (.int .i64 0)) 3 (0, 0))) : (Kd.int .i64).C W (some ⟨g, 0, none⟩) n (List.replicate n 0) := by
  have h1 := C_ints (W := W) (g := g) (t := 3) (List.replicate n 0) (by simpa using hn) (by rw [zeros_map]; exact h)
  rw [List.length_replicate] at h1
  exact h1
theorem exec_zero (c : Cod) (A : Option Addr) (cap nn : Nat) (hn : nn ≤ 1000) {w : World} (hC : CodeAt w c A cap) (hlit : ∀ i : Nat, i < c.body.length → Live.Can (atIr c.body i).n) (W : World) (g : Nat) (hb : Below w.heap.size w W) (hg : W.heap[g]? = some (.cells (Array.replicate nn (.int .i64 0)) 3 (0, 0))) :
    Calls Try.prog 35 #[.agg (c.vals A cap), .slice (some ⟨g, 0, none⟩) nn nn] W (ExecOut W c (List.replicate nn 0)) := by
  have h := exec_calls c A cap (some ⟨g, 0, none⟩) nn (List.replicate nn 0) W (hC.below hb) (by rw [List.length_replicate]; exact zeros_C (by omega) hg) (by rw [List.length_replicate]; omega) (canL_rep _ _ ⟨by decide, by decide⟩) hlit
  rw [List.length_replicate] at h
  exact h
theorem zero_no (c : Cod) (A : Option Addr) (cap nn : Nat) (hn : nn ≤ 1000) {w : World} (hC : CodeAt w c A cap) (hlit : ∀ i : Nat, i < c.body.length → Live.Can (atIr c.body i).n) (hR : fitsR c (nn : Int) = false) (W : World) (g : Nat) (hb : Below w.heap.size w W) (hg : W.heap[g]? = some (.cells (Array.replicate nn (.int .i64 0)) 3 (0, 0))) :
    Calls Try.prog 35 #[.agg (c.vals A cap), .slice (some ⟨g, 0, none⟩) nn nn] W fun e w' => e = .returned (.tuple #[.slice none 0 0, .int .i64 0, .int .i64 0, .int .i64 4]) ∧ Below W.heap.size W w' :=
  (exec_zero c A cap nn hn hC hlit W g hb hg).mono fun e w' hx => exec_odd hx (by rw [List.length_replicate]; exact hR)
theorem zero_yes (c : Cod) (A : Option Addr) (cap nn : Nat) (hn : nn ≤ 1000) {w : World} (hC : CodeAt w c A cap) (hlit : ∀ i : Nat, i < c.body.length → Live.Can (atIr c.body i).n) (hR : fitsR c (nn : Int) = true) (W : World) (g : Nat) (hb : Below w.heap.size w W) (hg : W.heap[g]? = some (.cells (Array.replicate nn (.int .i64 0)) 3 (0, 0))) :
    Calls Try.prog 35 #[.agg (c.vals A cap), .slice (some ⟨g, 0, none⟩) nn nn] W fun e w' => ∃ (a : Option Addr) (n k : Nat) (u t : Int), e = .returned (.tuple #[.slice a n k, .int .i64 u, .int .i64 t, .int .i64 0]) ∧ Below W.heap.size W w' :=
  (exec_zero c A cap nn hn hC hlit W g hb hg).mono fun e w' hx => by
    obtain ⟨v, he, hR, hb⟩ := exec_fits hx (by rw [List.length_replicate]; exact hR)
    obtain ⟨a, k, rfl⟩ := Kd.R_slice hR
    exact ⟨_, _, _, _, _, he, hb⟩
set_option maxHeartbeats 4000000 in
set_option maxRecDepth 100000 in
theorem check_no1 (c : Cod) (A : Option Addr) (cap : Nat) (l : List Int) (B : Option Addr) (capB : Nat) (ps : List Int) (D : Option Addr) (capD : Nat) (w : World) (hC : CodeAt w c A cap) (hB : (Kd.int .i64).C w B l.length l) (hcapB : l.length ≤ capB) {ah af : List Int} {er : Int} (hS : SetsIs c ah af er) (hE : er = 0 ∧ fits c = true ∧ LiveIs c ah af ∨ er = 4 ∧ fits c = false ∧ ah = [] ∧ af = []) (h : ¬ (rightB c ah af l = true ∧ (ps.length : Int) = c.params)) :
    Calls Try.prog 37 #[.agg (c.vals A cap), .slice B l.length capB, .slice D ps.length capD] w (ExOut2 w (0, 0, 4)) := by
  have HP := Aside0.mk (Rf.init hC)
  have HRT := Aside0.mk (fun W hb => right_calls c A cap l B capB W (hC.below hb) (Kd.C_below hB hb) hcapB hS hE)
  clear hC hB hS hE
  cases hr : rightB c ah af l with
  | false =>
    rw [hr] at HRT
    clear h hr
    go_enter Try.func37, Try.ntmps37
    go_wp2_with (go_at_call 39; refine (HRT.out _ HP.out.bel).mono ?_; rintro e w1 ⟨rfl, hb⟩; have H1 := Aside0.mk (HP.out.below hb); clear hb HP)
    go_ret3
    exact ⟨rfl, H1.out.bel⟩
  | true =>
    have hne : ((ps.length : Int) != c.params) = true := by simpa using fun e => h ⟨hr, e⟩
    rw [hr] at HRT
    clear h hr
    go_enter Try.func37, Try.ntmps37
    go_wp2_with (go_at_call 39; refine (HRT.out _ HP.out.bel).mono ?_; rintro e w1 ⟨rfl, hb⟩; have H1 := Aside0.mk (HP.out.below hb); have hb1 := blk_cell H1.out.box 1; clear hb HP)
    go_ret3
    exact ⟨rfl, H1.out.bel⟩
set_option maxHeartbeats 4000000 in
set_option maxRecDepth 100000 in
theorem check_no2 (c : Cod) (A : Option Addr) (cap : Nat) (l : List Int) (B : Option Addr) (capB : Nat) (ps : List Int) (D : Option Addr) (capD : Nat) (w : World) (hC : CodeAt w c A cap) (hlit : ∀ i : Nat, i < c.body.length → Live.Can (atIr c.body i).n) (hB : (Kd.int .i64).C w B l.length l) (hcapB : l.length ≤ capB) {ah af : List Int} (hS : SetsIs c ah af 0) (hL : LiveIs c ah af) (hr : rightB c ah af l = true) (hp : (ps.length : Int) = c.params) (hR : fitsR c c.cells = false) :
    Calls Try.prog 37 #[.agg (c.vals A cap), .slice B l.length capB, .slice D ps.length capD] w (ExOut2 w (0, 0, 4)) := by
  have HP := Aside0.mk (Rf.init hC)
  have HRI := Aside0.mk (right_is hr)
  have HLIT := Aside0.mk hlit
  have HRT := Aside0.mk (fun W hb => right_calls c A cap l B capB W (hC.below hb) (Kd.C_below hB hb) hcapB hS (.inl ⟨rfl, HRI.out.fit, hL⟩))
  rw [hr] at HRT
  have hne : ((ps.length : Int) != c.params) = false := by simpa using hp
  have hh := fits_head HRI.out.fit
  obtain ⟨nn, hnn⟩ : ∃ nn : Nat, c.cells = (nn : Int) := ⟨c.cells.toNat, by omega⟩
  have hn60 : nn ≤ 60 := by omega
  have HN := Aside0.mk hnn
  have hmk : ∀ W : World, (Instr.makeSlice 26 (.int .i64 c.cells) (.int .i64 c.cells)).run Try.prog W = .ok (.slice (some ⟨W.heap.size, 0, none⟩) nn nn) (W.alloc (.cells (Array.replicate nn (.int .i64 0)) 3)) := by rw [hnn]; exact make_ints nn (by omega)
  have HEX := Aside0.mk (zero_no c A cap nn (by omega) hC hlit (by rw [← hnn]; exact hR))
  have HR := Aside0.mk hR
  clear hC hB hS hL hr hp hh hlit hR hnn
  go_enter Try.func37, Try.ntmps37
  go_wp2_with (go_at_call 39; refine (HRT.out _ HP.out.bel).mono ?_; rintro e w1 ⟨rfl, hb⟩; have H1 := Aside0.mk (HP.out.below hb); have hb0 := blk_cell H1.out.box 0; have hb1 := blk_cell H1.out.box 1; have hb2 := blk_cell H1.out.box 2; have hb3 := blk_cell H1.out.box 3; clear hb HP)
  go_region_held3 (fun w' => w'.cell? ⟨w.heap.size, 0, none⟩ = some (.int .i64 c.cells) ∧ w'.cell? ⟨w.heap.size, 1, none⟩ = some (.int .i64 c.params) ∧ w'.cell? ⟨w.heap.size, 2, none⟩ = some (.slice A c.body.length cap) ∧ w'.cell? ⟨w.heap.size, 3, none⟩ = some (.int .i64 c.labels)) (go_keep)
    (first | (go_at_call 35; refine (HEX.out _ _ (H1.out.bel.trans (((drew_below _).trans ((below_alloc (Below.refl _ _) _).mono (drew_below _).size)).mono H1.out.bel.size)) (blk_new _ _)).mono ?_; rintro e w2 ⟨rfl, hb⟩; have H2 := Aside0.mk (H1.out.below (((drew_below _).trans ((below_alloc (Below.refl _ _) _).mono (drew_below _).size)).trans (hb.mono (by simp)))); have hg0 := blk_cell H2.out.box 0; have hg1 := blk_cell H2.out.box 1; have hg2 := blk_cell H2.out.box 2; have hg3 := blk_cell H2.out.box 3; clear hb))
  all_goals
    go_wp2_with fail
    go_ret3
    exact ⟨rfl, H2.out.bel⟩
end Go.Proofs.Ytdcmeefeinppnaa.Check
