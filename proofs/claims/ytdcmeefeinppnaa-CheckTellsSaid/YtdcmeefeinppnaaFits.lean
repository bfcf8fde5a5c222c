/- live.Fits: may a code be asked about? With rir.Defs and slices.ContainsFunc of what Fits hands to it. -/
import Derived.Test.YtdcmeefeinppnaaLabels
import Derived.Test.YtdcmeefeinppnaaUses
import Derived.Conc.MuLone
namespace Go.Proofs.Ytdcmeefeinppnaa.Live
open Go.RowKit Go.Proofs.YtdcmeefeinppnaaW.PrintWords Go.Proofs.YtdcmeefeinppnaaW.PrintLast Go.Proofs.Ytdcmeefeinppnaa.Mem Go.Proofs.Ytdcmeefeinppnaa.Ir
open MapOf (get put wp_lookup wp_look wp_update)
open Uses (uses uses_calls)
set_option linter.unusedVariables false
set_option linter.unusedSimpArgs false

theorem defs_calls (x : Ir) (w : World) : Calls Try.prog 22 #[.agg x.vals] w fun e w' => e = .returned (.int .i64 (defs x)) ∧ Below w.heap.size w w' := by
  have HB := Aside0.mk ((Below.refl w.heap.size w).alloc (Nat.le_refl _) (.cells x.vals 38))
  obtain ⟨op, dst, a, b, c, n, m⟩ := x
  by_cases h : op = 1 ∨ op = 2 ∨ op = 3 ∨ op = 4 ∨ op = 5 ∨ op = 7 ∨ op = 14
  · have hd : defs ⟨op, dst, a, b, c, n, m⟩ = dst := by unfold defs; rw [if_pos h]
    rw [hd]
    clear hd
    rcases h with h | h | h | h | h | h | h <;> subst h
    all_goals
      go_enter Try.func22, Try.ntmps22
      go_wp2_with fail
      go_ret
      exact ⟨rfl, HB.out⟩
  · have hd : defs ⟨op, dst, a, b, c, n, m⟩ = -1 := by unfold defs; rw [if_neg h]
    rw [hd]
    clear hd
    have h1 : (op == 1) = false := by simp; omega
    have h2 : (op == 2) = false := by simp; omega
    have h3 : (op == 3) = false := by simp; omega
    have h4 : (op == 4) = false := by simp; omega
    have h5 : (op == 5) = false := by simp; omega
    have h7 : (op == 7) = false := by simp; omega
    have h14 : (op == 14) = false := by simp; omega
    clear h
    go_enter Try.func22, Try.ntmps22
    go_wp2_with fail
    go_ret
    exact ⟨rfl, HB.out⟩

/-- is a cell none of so many? -/
def oddB (cells k : Int) : Bool := decide (k < 0) || decide (k ≥ cells)
theorem odd_calls (b : Nat) (cells k : Int) (w : World) (hc : w.cell? ⟨b, 0, none⟩ = some (.int .i64 cells)) : Calls Try.prog 48 #[.int .i64 k, .pointer (some ⟨b, 0, none⟩)] w fun e w' => e = .returned (.bool (oddB cells k)) ∧ w = w' := by
  by_cases h : k < 0
  · have h1 : decide (k < 0) = true := decide_eq_true h
    have hd : oddB cells k = true := by simp [oddB, h]
    rw [hd]
    clear h hd
    go_enter Try.func48, Try.ntmps48
    go_wp2_with fail
    go_ret
    exact ⟨rfl, rfl⟩
  · have h1 : decide (k < 0) = false := decide_eq_false h
    have hd : oddB cells k = decide (cells ≤ k) := by simp [oddB, h]
    rw [hd]
    clear h hd
    go_enter Try.func48, Try.ntmps48
    go_wp2_with fail
    go_ret
    exact ⟨rfl, rfl⟩

abbrev oddV (b : Nat) : Value := .func (.func 48) #[] #[.pointer (some ⟨b, 0, none⟩)]
/-- the first place of an odd one, from place k on -/
def firstOdd (cells : Int) : List Int → Nat → Int
  | [], _ => -1
  | x :: l, k => if oddB cells x then k else firstOdd cells l (k + 1)
theorem firstOdd_ge (cells : Int) (l : List Int) : ∀ k, decide (firstOdd cells l k ≥ 0) = l.any (oddB cells) := by
  induction l with
  | nil => intro k; rfl
  | cons x l ih =>
    intro k
    unfold firstOdd
    by_cases h : oddB cells x = true
    · rw [if_pos h]; simp [h]
    · rw [if_neg h, ih]; simp [h]
theorem indexOdd_calls (b : Nat) (cells : Int) (A : Option Addr) (cap : Nat) (l : List Int) (w : World) (hc : w.cell? ⟨b, 0, none⟩ = some (.int .i64 cells)) (hl : (Kd.int .i64).C w A l.length l) (hn : l.length ≤ 100) :
    Calls Try.prog 70 #[.slice A l.length cap, oddV b] w fun e w' => e = .returned (.int .i64 (firstOdd cells l 0)) ∧ w = w' := by
  have HL := Aside0.mk hl
  clear hl
  go_enter Try.func70, Try.ntmps70
  go_wp2_with fail
  go_loop [8] (fun i => ∃ k : Nat, k ≤ l.length ∧ i = .int .i64 k ∧ Aside0 (firstOdd cells l 0 = firstOdd cells (l.drop k) k)) (fun i => l.length - (intOf i).toNat)
  case atStart => exact ⟨0, Nat.zero_le _, rfl, ⟨rfl⟩⟩
  case round =>
    obtain ⟨k, hk, rfl, HR⟩ := hrel
    by_cases hlt : k < l.length
    · obtain ⟨ad, e, hx⟩ := Kd.at_int HL.out (k : Int) (by omega) (by omega)
      subst e
      rw [Int.toNat_natCast] at hx
      have hd : l.drop k = rd l (k : Int) :: l.drop (k + 1) := by
        rw [List.drop_eq_getElem_cons hlt]
        unfold rd
        rw [Int.toNat_natCast, List.getD_eq_getElem?_getD, List.getElem?_eq_getElem hlt]
        rfl
      rw [hd, show firstOdd cells (rd l (k : Int) :: l.drop (k + 1)) k = if oddB cells (rd l (k : Int)) then (k : Int) else firstOdd cells (l.drop (k + 1)) (k + 1) from rfl] at HR
      clear hd
      by_cases ho : oddB cells (rd l (k : Int)) = true
      · rw [if_pos ho] at HR
        have HD : Aside0 (firstOdd cells l 0 = (k : Int)) := HR
        go_wp2_with (go_at_call 48; refine (odd_calls b cells _ _ hc).mono ?_; rintro e w' ⟨rfl, rfl⟩)
        go_ret
        exact ⟨by rw [HD.out]; rfl, rfl⟩
      · rw [if_neg ho] at HR
        replace ho : oddB cells (rd l (k : Int)) = false := by simpa using ho
        go_wp2_with (go_at_call 48; refine (odd_calls b cells _ _ hc).mono ?_; rintro e w' ⟨rfl, rfl⟩)
        go_round
        case rel => exact ⟨k + 1, by omega, by go_num, HR⟩
        case measure => simp [intOf]; omega
    · have hk2 : k = l.length := by omega
      have hlt2 : decide ((k : Int) < (l.length : Int)) = false := decide_eq_false (by omega)
      rw [hk2, List.drop_length] at HR
      clear hk2
      go_wp2_with fail
      go_ret
      exact ⟨by rw [HR.out]; rfl, rfl⟩
theorem containsOdd_calls (b : Nat) (cells : Int) (A : Option Addr) (cap : Nat) (l : List Int) (w : World) (hc : w.cell? ⟨b, 0, none⟩ = some (.int .i64 cells)) (hl : (Kd.int .i64).C w A l.length l) (hn : l.length ≤ 100) :
    Calls Try.prog 49 #[.slice A l.length cap, oddV b] w fun e w' => e = .returned (.bool (l.any (oddB cells))) ∧ w = w' := by
  have HL := Aside0.mk hl
  have HE := Aside0.mk (firstOdd_ge cells l 0)
  clear hl
  go_enter Try.func49, Try.ntmps49
  go_wp2_with (go_at_call 70; refine (indexOdd_calls b cells A _ l _ hc HL.out hn).mono ?_; rintro e w' ⟨rfl, rfl⟩)
  go_ret
  exact ⟨by rw [← HE.out]; rfl, rfl⟩
end Go.Proofs.Ytdcmeefeinppnaa.Live
