/- What live.sets comes to, by tables of the cells that are read: so that the kernel can reckon it. -/
import Derived.Test.YtdcmeefeinppnaaLiveFine
import Derived.KernelRfl
namespace Go.Proofs.Ytdcmeefeinppnaa.Live
open Go.RowKit Go.Proofs.YtdcmeefeinppnaaW.PrintWords Go.Proofs.YtdcmeefeinppnaaW.PrintLast Go.Proofs.YtdcmeefeinppnaaW.PrintMore Go.Proofs.Ytdcmeefeinppnaa.Ir
open Uses (uses sorted)
set_option linter.unusedVariables false
set_option linter.unusedSimpArgs false

def usesTab (c : Cod) : List (List Int) := (List.range c.body.length).map fun i => uses (atIr c.body i).op (atIr c.body i).a (atIr c.body i).b (atIr c.body i).c
def stepU (c : Cod) (us ws : List (List Int)) (ah : List Int) (j : Nat) : Int := bitL (us.getD j []) (clr (stepS ws ah j) (defs (atIr c.body j)))
def passU (c : Cod) (us ws : List (List Int)) : Nat → List Int → List Int → Bool → List Int × List Int × Bool
  | 0, ah, af, ch => (ah, af, ch)
  | j + 1, ah, af, ch => passU c us ws j (ah.set j (stepU c us ws ah j)) (af.set j (stepS ws ah j)) (ch || stepU c us ws ah j != rd ah j)
def iterU (c : Cod) (us ws : List (List Int)) : Nat → List Int → List Int → Option (List Int × List Int)
  | 0, _, _ => none
  | k + 1, ah, af => if (passU c us ws c.body.length ah af false).2.2 = true then iterU c us ws k (passU c us ws c.body.length ah af false).1 (passU c us ws c.body.length ah af false).2.1 else some ((passU c us ws c.body.length ah af false).1, (passU c us ws c.body.length ah af false).2.1)
theorem step_tab {c : Cod} {us ws : List (List Int)} (h : usesTab c = us) (ah : List Int) (j : Nat) (hj : j < c.body.length) : stepT c ws ah j = stepU c us ws ah j := by
  subst h
  unfold stepT stepU usesTab
  rw [List.getD_eq_getElem?_getD, List.getElem?_map, List.getElem?_range hj]
  rfl
theorem pass_tab {c : Cod} {us ws : List (List Int)} (h : usesTab c = us) : ∀ (k : Nat) (ah af : List Int) (ch : Bool), k ≤ c.body.length → passN c ws k ah af ch = passU c us ws k ah af ch := by
  intro k
  induction k with
  | zero => intro ah af ch _; rfl
  | succ k ih =>
    intro ah af ch hk
    unfold passN passU
    rw [step_tab h ah k (by omega)]
    exact ih _ _ _ (by omega)
theorem iter_tab {c : Cod} {us ws : List (List Int)} (h : usesTab c = us) : ∀ (k : Nat) (ah af : List Int), iterS c ws k ah af = iterU c us ws k ah af := by
  intro k
  induction k with
  | zero => intro ah af; rfl
  | succ k ih =>
    intro ah af
    unfold iterS iterU
    rw [pass_tab h _ _ _ _ (Nat.le_refl _), ih]
def okU (c : Cod) (x : Ir) (us : List Int) : Bool :=
  !(isW x.op && oddB c.cells (defs x)) && !(isJ x.op && decide (cnt c.body x.n c.body.length ≠ 1)) && !(decide (defs x < -1) || decide (defs x ≥ c.cells)) && !(us.any (oddB c.cells))
def fitsU (c : Cod) (us : List (List Int)) : Bool := headOk c && (List.range c.body.length).all fun i => okU c (atIr c.body i) (us.getD i [])
theorem fits_tab {c : Cod} {us : List (List Int)} (h : usesTab c = us) : fits c = fitsU c us := by
  subst h
  unfold fits fitsU
  congr 1
  rw [Bool.eq_iff_iff, List.all_eq_true, List.all_eq_true]
  have e : ∀ i, i < c.body.length → okU c (atIr c.body i) ((usesTab c).getD i []) = okIr c (atIr c.body i) := by
    intro i hi
    unfold usesTab okU okIr
    rw [List.getD_eq_getElem?_getD, List.getElem?_map, List.getElem?_range hi]
    rfl
  constructor
  · intro hx i hi
    have hi := List.mem_range.1 hi
    rw [e i hi]
    apply hx
    unfold atIr
    rw [List.getD_eq_getElem?_getD, List.getElem?_eq_getElem hi]
    exact List.getElem_mem hi
  · intro hx x hxm
    obtain ⟨i, hi, rfl⟩ := List.getElem_of_mem hxm
    have := hx i (List.mem_range.2 hi)
    rw [e i hi] at this
    unfold atIr at this
    rwa [List.getD_eq_getElem?_getD, List.getElem?_eq_getElem hi] at this
theorem sorted_two {x y : Int} (h : y ≤ x) : sorted [x, y] = [y, x] := by
  unfold sorted
  by_cases e : x = y
  · subst e
    exact List.mergeSort_of_pairwise (by simp)
  · have hp : [y, x].Pairwise (fun a b => decide (a ≤ b) = true) := by simp; omega
    have hperm : ([x, y].mergeSort fun a b => decide (a ≤ b)).Perm [y, x] := (List.mergeSort_perm _ _).trans (List.Perm.swap _ _ _)
    refine hperm.eq_of_pairwise (le := fun a b => decide (a ≤ b) = true) ?_ (List.pairwise_mergeSort (by simp; omega) (by simp; omega) _) hp
    intro a b _ _ h1 h2
    simp at h1 h2; omega
theorem uses_two (op a b : Int) (h : op = 3 ∨ op = 6) (hab : a < b) : uses op a b 0 = [a, b] := by
  have hr : Uses.raw op a b 0 = [b, a] := by unfold Uses.raw; rw [if_neg (by omega), if_pos h]
  unfold uses
  rw [hr, sorted_two (by omega)]
  have : Lib.compact [a, b] = [a, b] := by
    apply Lib.compact_all
    intro j hj
    have : j = 0 ∨ j = 1 := by simp at hj; omega
    rcases this with rfl | rfl
    · rfl
    · simp [Lib.keeps]; omega
  exact this
theorem uses_none (op a b c : Int) (h : op = 1 ∨ op = 7 ∨ op = 9 ∨ op = 10 ∨ op = 14 ∨ op = 16) : uses op a b c = [] := by
  have hr : Uses.raw op a b c = [] := by unfold Uses.raw; rw [if_neg (by omega), if_neg (by omega), if_neg (by omega), if_neg (by omega)]
  unfold uses
  rw [hr]; simp [sorted]; rfl
theorem uses_one (op a b c : Int) (h : op = 2 ∨ op = 8 ∨ op = 11 ∨ op = 12 ∨ op = 13 ∨ op = 5 ∨ (op = 15 ∧ 0 ≤ a)) : uses op a b c = [a] := by
  have hr : Uses.raw op a b c = [a] := by
    unfold Uses.raw
    rw [if_neg (by omega), if_neg (by omega)]
    by_cases h2 : op = 2 ∨ op = 8 ∨ op = 11 ∨ op = 12 ∨ op = 13 ∨ op = 5
    · rw [if_pos h2]
    · rw [if_neg h2, if_pos (by omega)]
  unfold uses
  rw [hr]; simp [sorted]; rfl
end Go.Proofs.Ytdcmeefeinppnaa.Live
