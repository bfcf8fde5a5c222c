/- wbin.Fits: may a module be written? -/
import Derived.Test.YtjjhhmchomabeaaDoorInstX
import Derived.Test.YtjjhhmchomabeaaDoorFitV
namespace Go.Proofs.YtjjhhmchomabeaaDoor.Valid
open Go.RowKit Go.Proofs.YtjjhhmchomabeaaDoorW.PrintWords Go.Proofs.YtjjhhmchomabeaaDoorW.PrintLast Go.Proofs.YtjjhhmchomabeaaDoor.Mem Go.Proofs.YtjjhhmchomabeaaDoor.Nest
set_option linter.unusedVariables false
set_option linter.unusedSimpArgs false

theorem few_calls {b : Bool} {n most : Int} (h : Aside0 (decide (n ≤ most) = b)) (w : World) : Calls Tryd.prog 28 #[.int .i64 n, .int .i64 most] w fun e w' => e = .returned (.bool b) ∧ w' = w := by
  obtain ⟨h⟩ := h
  subst h
  go_enter Tryd.func28, Tryd.ntmps28
  go_wp2_with fail
  go_ret
  exact ⟨rfl, rfl⟩
theorem odd_calls {b : Bool} {t : Int} (h : Aside0 (oddT t = b)) (hc : Aside0 (Can t)) (w : World) : Calls Tryd.prog 29 #[.int .i64 t] w fun e w' => e = .returned (.bool b) ∧ w' = w := by
  go_enter Tryd.func29, Tryd.ntmps29
  go_wp2_with (go_at_call 19; refine (right_calls _ _ hc.out).mono ?_; rintro e w' ⟨rfl, rfl⟩)
  go_ret
  exact ⟨by rw [← h.out]; rfl, rfl⟩
theorem word_calls {b : Bool} {n : Int} (h : Aside0 (wordB n = b)) (w : World) : Calls Tryd.prog 31 #[.int .i64 n] w fun e w' => e = .returned (.bool b) ∧ w' = w := by
  obtain ⟨h⟩ := h
  subst h
  by_cases h0 : 0 ≤ n
  · go_enter Tryd.func31, Tryd.ntmps31
    go_wp2_with fail
    go_ret
    exact ⟨by simp [wordB, h0], rfl⟩
  · go_enter Tryd.func31, Tryd.ntmps31
    go_wp2_with fail
    go_ret
    exact ⟨by simp [wordB, h0] <;> omega, rfl⟩
abbrev oddV : Value := .func (.func 29) #[] #[]
def firstOdd : List Int → Nat → Int
  | [], _ => -1
  | x :: l, k => if oddT x then k else firstOdd l (k + 1)
theorem firstOdd_ge (l : List Int) : ∀ k, decide (firstOdd l k ≥ 0) = l.any oddT := by
  induction l with
  | nil => intro k; rfl
  | cons x l ih =>
    intro k
    unfold firstOdd
    by_cases h : oddT x = true
    · rw [if_pos h]; simp [h]
    · rw [if_neg h, ih]; simp [h]
theorem index_calls (A : Option Addr) (cap : Nat) (l : List Int) (w : World) (hl : Aside0 ((Kd.int .i64).C w A l.length l)) (hcan : Aside0 (∀ t ∈ l, Can t)) (hn : Aside0 (l.length ≤ 100)) :
    Calls Tryd.prog 45 #[.slice A l.length cap, oddV] w fun e w' => e = .returned (.int .i64 (firstOdd l 0)) ∧ w' = w := by
  have HN := hn.out
  go_enter Tryd.func45, Tryd.ntmps45
  go_wp2_with fail
  go_loop [8] (fun i => ∃ k : Nat, k ≤ l.length ∧ i = .int .i64 k ∧ Aside0 (firstOdd l 0 = firstOdd (l.drop k) k)) (fun i => l.length - (intOf i).toNat)
  case atStart => exact ⟨0, Nat.zero_le _, rfl, ⟨rfl⟩⟩
  case round =>
    obtain ⟨k, hk, rfl, HR⟩ := hrel
    by_cases hlt : k < l.length
    · obtain ⟨ad, e, hx⟩ := Kd.at_int hl.out (k : Int) (by omega) (by omega)
      subst e
      rw [Int.toNat_natCast] at hx
      have HCX := Aside0.mk (hcan.out (rd l (k : Int)) (by unfold rd; rw [Int.toNat_natCast]; exact getD_mem _ _ _ hlt))
      have hd : l.drop k = rd l (k : Int) :: l.drop (k + 1) := by
        rw [List.drop_eq_getElem_cons hlt]
        unfold rd
        rw [Int.toNat_natCast, List.getD_eq_getElem?_getD, List.getElem?_eq_getElem hlt]
        rfl
      rw [hd, show firstOdd (rd l (k : Int) :: l.drop (k + 1)) k = if oddT (rd l (k : Int)) then (k : Int) else firstOdd (l.drop (k + 1)) (k + 1) from rfl] at HR
      clear hd
      by_cases ho : oddT (rd l (k : Int)) = true
      · rw [if_pos ho] at HR
        have HD : Aside0 (firstOdd l 0 = (k : Int)) := HR
        have HO := Aside0.mk ho
        go_wp2_with (go_at_call 29; refine (odd_calls HO HCX _).mono ?_; rintro e w' ⟨rfl, rfl⟩)
        go_ret
        exact ⟨by rw [HD.out]; rfl, rfl⟩
      · rw [if_neg ho] at HR
        have HO := Aside0.mk (show oddT (rd l (k : Int)) = false by simpa using ho)
        go_wp2_with (go_at_call 29; refine (odd_calls HO HCX _).mono ?_; rintro e w' ⟨rfl, rfl⟩)
        go_round
        case rel => exact ⟨k + 1, by omega, by go_num, HR⟩
        case measure => simp [intOf]; omega
    · have hk2 : k = l.length := by omega
      have hlt2 : decide ((k : Int) < (l.length : Int)) = false := decide_eq_false (by omega)
      rw [hk2, List.drop_length] at HR
      clear hk2
      go_wp2_with fail
      go_ret
      exact ⟨by rw [HR.out]; rfl, rfl⟩
theorem contains_calls {b : Bool} {A : Option Addr} {cap : Nat} {l : List Int} {w : World} (hl : Aside0 ((Kd.int .i64).C w A l.length l)) (hcan : Aside0 (∀ t ∈ l, Can t)) (hn : Aside0 (l.length ≤ 100)) (hb : Aside0 (l.any oddT = b)) :
    Calls Tryd.prog 30 #[.slice A l.length cap, oddV] w fun e w' => e = .returned (.bool b) ∧ w' = w := by
  have HE := Aside0.mk (firstOdd_ge l 0)
  go_enter Tryd.func30, Tryd.ntmps30
  go_wp2_with (go_at_call 45; refine (index_calls A _ l _ hl hcan hn).mono ?_; rintro e w' ⟨rfl, rfl⟩)
  go_ret
  exact ⟨by rw [← hb.out, ← HE.out]; rfl, rfl⟩
theorem wide_calls2 {b : Bool} {t : Int} (h : Aside0 (wide t = b)) (hc : Aside0 (Can t)) (w : World) : Calls Tryd.prog 21 #[.int .i64 t] w fun e w' => e = .returned (.bool b) ∧ w' = w := by
  obtain ⟨h⟩ := h
  subst h
  exact wide_calls t w hc.out
/-- the numbers of a module that are looked at have 64 bits -/
structure MCan (M : Md) : Prop where
  sigs : ∀ g ∈ M.sigs, (∀ t ∈ g.1, Can t) ∧ (∀ t ∈ g.2, Can t)
  funcs : ∀ f ∈ M.funcs, (∀ t ∈ f.2.2.1, Can t) ∧ (∀ x ∈ f.2.2.2, Can x.2.1)
  globals : ∀ g ∈ M.globals, Can g.1
/-- the module's box stands -/
structure FW (w : World) (M : Md) (h : Hd) (W : World) : Prop where
  bel : Below w.heap.size w W
  box : W.heap[w.heap.size]? = some (.cells (M.cells h) 29 (0, 0))
theorem FW.below {w W W1 : World} {M : Md} {h : Hd} (H : FW w M h W) (hb : Below W.heap.size W W1) : FW w M h W1 := ⟨H.bel.trans (hb.mono H.bel.size), blk_below H.box hb⟩
theorem K_put {K : Act → World → Prop} {a : Act} {d : Option Tmp} {x y : Value} {w : World} (h : x = y) (k : K (a.put d y) w) : K (a.put d x) w := h ▸ k
theorem all_take {α : Type} (z : α) (f : α → Bool) (l : List α) (k : Nat) (h : k < l.length) : (l.take (k + 1)).all f = ((l.take k).all f && f (l.getD k z)) := by
  rw [List.take_succ_eq_append_getElem h, List.all_append, List.getD_eq_getElem?_getD, List.getElem?_eq_getElem h]
  simp
def p0M (M : Md) : Bool := decide (M.sigs.length ≤ 16) && decide (M.imports.length ≤ 8) && decide (M.funcs.length ≤ 8) && decide (M.globals.length ≤ 8) && decide (M.data.length ≤ 8)
theorem limM_p0 (M : Md) : limM M = (((p0M M && M.sigs.all (fun s => decide (s.1.length ≤ 4))) && M.funcs.all (fun f => decide (f.2.2.1.length ≤ 8) && decide (f.2.2.2.length ≤ 200))) && [M.m0, M.m1].all (fun m => decide (m = 0) || decide (3 ≤ m) && decide (m ≤ 12))) := by
  simp [limM, p0M, Bool.and_assoc]
theorem bodyE_eq {l : List T3} {v : Bool} (h : l.all rightX = v) : (bodyE l == 0) = v := by
  unfold bodyE
  cases v
  · rw [h]; rfl
  · rw [h]; rfl
set_option maxHeartbeats 40000000 in
set_option maxRecDepth 100000 in
theorem fits_calls (M : Md) (h : Hd) (w : World) (H : ModAt w h M) (HC : MCan M) :
    Calls Tryd.prog 23 #[.agg (M.cells h)] w fun e w' => e = .returned (.int .i64 (fitsM M)) ∧ Below w.heap.size w w' := by
  obtain ⟨a1, a2, a3, a4, a5, c1, c2, c3, c4, c5⟩ := h
  have HM := Aside0.mk H
  have HMC := Aside0.mk HC
  have hl1 := H.l1
  have hl2 := H.l2
  have hl3 := H.l3
  have hl4 := H.l4
  have hl5 := H.l5
  dsimp only at hl1 hl2 hl3 hl4 hl5
  have HFW := Aside0.mk (show FW w M ⟨a1, a2, a3, a4, a5, c1, c2, c3, c4, c5⟩ (w.alloc (.cells (M.cells ⟨a1, a2, a3, a4, a5, c1, c2, c3, c4, c5⟩) 29)) from ⟨below_alloc (Below.refl _ _) (Nat.le_refl _) _, blk_new _ _⟩)
  have hz0 := blk_cell HFW.out.box 0
  have hz1 := blk_cell HFW.out.box 1
  have hz2 := blk_cell HFW.out.box 2
  have hz3 := blk_cell HFW.out.box 3
  have hz4 := blk_cell HFW.out.box 4
  have hz5 := blk_cell HFW.out.box 5
  have hz6 := blk_cell HFW.out.box 6
  have hq1 := H.sigs.2.1
  have hq2 := H.imports.2.1
  have hq3 := H.funcs.2.1
  have hq4 := H.globals.2.1
  have hq5 := H.data.2.1
  clear H HC
  go_enter Tryd.func23, Tryd.ntmps23
  go_upto_region 2 with (fail)
  go_cut [4] from 24 to 56 (fun s4 wx => s4 = .bool (p0M M) ∧ wx = w.alloc (.cells (M.cells ⟨a1, a2, a3, a4, a5, c1, c2, c3, c4, c5⟩) 29))
  case first =>
    rcases d0 : decide ((M.sigs.length : Int) ≤ 16) with _ | _
    · have Ad0 := Aside0.mk d0
      have HP0 := Aside0.mk (show p0M M = false from by
        unfold p0M
        first | (rw [(decide_eq_decide.2 (show M.sigs.length ≤ 16 ↔ (M.sigs.length : Int) ≤ 16 by omega)).trans d0]; done) | (rw [(decide_eq_decide.2 (show M.sigs.length ≤ 16 ↔ (M.sigs.length : Int) ≤ 16 by omega)).trans d0]; rfl) | simp [(decide_eq_decide.2 (show M.sigs.length ≤ 16 ↔ (M.sigs.length : Int) ≤ 16 by omega)).trans d0])
      go_wp2_with (go_at_call 28; refine (few_calls (by assumption) _).mono ?_; rintro e wq ⟨rfl, rfl⟩; dsimp only)
      go_meet
      exact ⟨by rw [HP0.out], rfl⟩
    · have Ad0 := Aside0.mk d0
      rcases d1 : decide ((M.imports.length : Int) ≤ 8) with _ | _
      · have Ad1 := Aside0.mk d1
        have HP0 := Aside0.mk (show p0M M = false from by
          unfold p0M
          first | (rw [(decide_eq_decide.2 (show M.sigs.length ≤ 16 ↔ (M.sigs.length : Int) ≤ 16 by omega)).trans d0, (decide_eq_decide.2 (show M.imports.length ≤ 8 ↔ (M.imports.length : Int) ≤ 8 by omega)).trans d1]; done) | (rw [(decide_eq_decide.2 (show M.sigs.length ≤ 16 ↔ (M.sigs.length : Int) ≤ 16 by omega)).trans d0, (decide_eq_decide.2 (show M.imports.length ≤ 8 ↔ (M.imports.length : Int) ≤ 8 by omega)).trans d1]; rfl) | simp [(decide_eq_decide.2 (show M.sigs.length ≤ 16 ↔ (M.sigs.length : Int) ≤ 16 by omega)).trans d0, (decide_eq_decide.2 (show M.imports.length ≤ 8 ↔ (M.imports.length : Int) ≤ 8 by omega)).trans d1])
        go_wp2_with (go_at_call 28; refine (few_calls (by assumption) _).mono ?_; rintro e wq ⟨rfl, rfl⟩; dsimp only)
        go_meet
        exact ⟨by rw [HP0.out], rfl⟩
      · have Ad1 := Aside0.mk d1
        rcases d2 : decide ((M.funcs.length : Int) ≤ 8) with _ | _
        · have Ad2 := Aside0.mk d2
          have HP0 := Aside0.mk (show p0M M = false from by
            unfold p0M
            first | (rw [(decide_eq_decide.2 (show M.sigs.length ≤ 16 ↔ (M.sigs.length : Int) ≤ 16 by omega)).trans d0, (decide_eq_decide.2 (show M.imports.length ≤ 8 ↔ (M.imports.length : Int) ≤ 8 by omega)).trans d1, (decide_eq_decide.2 (show M.funcs.length ≤ 8 ↔ (M.funcs.length : Int) ≤ 8 by omega)).trans d2]; done) | (rw [(decide_eq_decide.2 (show M.sigs.length ≤ 16 ↔ (M.sigs.length : Int) ≤ 16 by omega)).trans d0, (decide_eq_decide.2 (show M.imports.length ≤ 8 ↔ (M.imports.length : Int) ≤ 8 by omega)).trans d1, (decide_eq_decide.2 (show M.funcs.length ≤ 8 ↔ (M.funcs.length : Int) ≤ 8 by omega)).trans d2]; rfl) | simp [(decide_eq_decide.2 (show M.sigs.length ≤ 16 ↔ (M.sigs.length : Int) ≤ 16 by omega)).trans d0, (decide_eq_decide.2 (show M.imports.length ≤ 8 ↔ (M.imports.length : Int) ≤ 8 by omega)).trans d1, (decide_eq_decide.2 (show M.funcs.length ≤ 8 ↔ (M.funcs.length : Int) ≤ 8 by omega)).trans d2])
          go_wp2_with (go_at_call 28; refine (few_calls (by assumption) _).mono ?_; rintro e wq ⟨rfl, rfl⟩; dsimp only)
          go_meet
          exact ⟨by rw [HP0.out], rfl⟩
        · have Ad2 := Aside0.mk d2
          rcases d3 : decide ((M.globals.length : Int) ≤ 8) with _ | _
          · have Ad3 := Aside0.mk d3
            have HP0 := Aside0.mk (show p0M M = false from by
              unfold p0M
              first | (rw [(decide_eq_decide.2 (show M.sigs.length ≤ 16 ↔ (M.sigs.length : Int) ≤ 16 by omega)).trans d0, (decide_eq_decide.2 (show M.imports.length ≤ 8 ↔ (M.imports.length : Int) ≤ 8 by omega)).trans d1, (decide_eq_decide.2 (show M.funcs.length ≤ 8 ↔ (M.funcs.length : Int) ≤ 8 by omega)).trans d2, (decide_eq_decide.2 (show M.globals.length ≤ 8 ↔ (M.globals.length : Int) ≤ 8 by omega)).trans d3]; done) | (rw [(decide_eq_decide.2 (show M.sigs.length ≤ 16 ↔ (M.sigs.length : Int) ≤ 16 by omega)).trans d0, (decide_eq_decide.2 (show M.imports.length ≤ 8 ↔ (M.imports.length : Int) ≤ 8 by omega)).trans d1, (decide_eq_decide.2 (show M.funcs.length ≤ 8 ↔ (M.funcs.length : Int) ≤ 8 by omega)).trans d2, (decide_eq_decide.2 (show M.globals.length ≤ 8 ↔ (M.globals.length : Int) ≤ 8 by omega)).trans d3]; rfl) | simp [(decide_eq_decide.2 (show M.sigs.length ≤ 16 ↔ (M.sigs.length : Int) ≤ 16 by omega)).trans d0, (decide_eq_decide.2 (show M.imports.length ≤ 8 ↔ (M.imports.length : Int) ≤ 8 by omega)).trans d1, (decide_eq_decide.2 (show M.funcs.length ≤ 8 ↔ (M.funcs.length : Int) ≤ 8 by omega)).trans d2, (decide_eq_decide.2 (show M.globals.length ≤ 8 ↔ (M.globals.length : Int) ≤ 8 by omega)).trans d3])
            go_wp2_with (go_at_call 28; refine (few_calls (by assumption) _).mono ?_; rintro e wq ⟨rfl, rfl⟩; dsimp only)
            go_meet
            exact ⟨by rw [HP0.out], rfl⟩
          · have Ad3 := Aside0.mk d3
            rcases d4 : decide ((M.data.length : Int) ≤ 8) with _ | _
            · have Ad4 := Aside0.mk d4
              have HP0 := Aside0.mk (show p0M M = false from by
                unfold p0M
                first | (rw [(decide_eq_decide.2 (show M.sigs.length ≤ 16 ↔ (M.sigs.length : Int) ≤ 16 by omega)).trans d0, (decide_eq_decide.2 (show M.imports.length ≤ 8 ↔ (M.imports.length : Int) ≤ 8 by omega)).trans d1, (decide_eq_decide.2 (show M.funcs.length ≤ 8 ↔ (M.funcs.length : Int) ≤ 8 by omega)).trans d2, (decide_eq_decide.2 (show M.globals.length ≤ 8 ↔ (M.globals.length : Int) ≤ 8 by omega)).trans d3, (decide_eq_decide.2 (show M.data.length ≤ 8 ↔ (M.data.length : Int) ≤ 8 by omega)).trans d4]; done) | (rw [(decide_eq_decide.2 (show M.sigs.length ≤ 16 ↔ (M.sigs.length : Int) ≤ 16 by omega)).trans d0, (decide_eq_decide.2 (show M.imports.length ≤ 8 ↔ (M.imports.length : Int) ≤ 8 by omega)).trans d1, (decide_eq_decide.2 (show M.funcs.length ≤ 8 ↔ (M.funcs.length : Int) ≤ 8 by omega)).trans d2, (decide_eq_decide.2 (show M.globals.length ≤ 8 ↔ (M.globals.length : Int) ≤ 8 by omega)).trans d3, (decide_eq_decide.2 (show M.data.length ≤ 8 ↔ (M.data.length : Int) ≤ 8 by omega)).trans d4]; rfl) | simp [(decide_eq_decide.2 (show M.sigs.length ≤ 16 ↔ (M.sigs.length : Int) ≤ 16 by omega)).trans d0, (decide_eq_decide.2 (show M.imports.length ≤ 8 ↔ (M.imports.length : Int) ≤ 8 by omega)).trans d1, (decide_eq_decide.2 (show M.funcs.length ≤ 8 ↔ (M.funcs.length : Int) ≤ 8 by omega)).trans d2, (decide_eq_decide.2 (show M.globals.length ≤ 8 ↔ (M.globals.length : Int) ≤ 8 by omega)).trans d3, (decide_eq_decide.2 (show M.data.length ≤ 8 ↔ (M.data.length : Int) ≤ 8 by omega)).trans d4])
              go_wp2_with (go_at_call 28; refine (few_calls (by assumption) _).mono ?_; rintro e wq ⟨rfl, rfl⟩; dsimp only)
              go_meet
              exact ⟨by rw [HP0.out], rfl⟩
            · have Ad4 := Aside0.mk d4
              have HP0 := Aside0.mk (show p0M M = true from by
                unfold p0M
                first | (rw [(decide_eq_decide.2 (show M.sigs.length ≤ 16 ↔ (M.sigs.length : Int) ≤ 16 by omega)).trans d0, (decide_eq_decide.2 (show M.imports.length ≤ 8 ↔ (M.imports.length : Int) ≤ 8 by omega)).trans d1, (decide_eq_decide.2 (show M.funcs.length ≤ 8 ↔ (M.funcs.length : Int) ≤ 8 by omega)).trans d2, (decide_eq_decide.2 (show M.globals.length ≤ 8 ↔ (M.globals.length : Int) ≤ 8 by omega)).trans d3, (decide_eq_decide.2 (show M.data.length ≤ 8 ↔ (M.data.length : Int) ≤ 8 by omega)).trans d4]; done) | (rw [(decide_eq_decide.2 (show M.sigs.length ≤ 16 ↔ (M.sigs.length : Int) ≤ 16 by omega)).trans d0, (decide_eq_decide.2 (show M.imports.length ≤ 8 ↔ (M.imports.length : Int) ≤ 8 by omega)).trans d1, (decide_eq_decide.2 (show M.funcs.length ≤ 8 ↔ (M.funcs.length : Int) ≤ 8 by omega)).trans d2, (decide_eq_decide.2 (show M.globals.length ≤ 8 ↔ (M.globals.length : Int) ≤ 8 by omega)).trans d3, (decide_eq_decide.2 (show M.data.length ≤ 8 ↔ (M.data.length : Int) ≤ 8 by omega)).trans d4]; rfl) | simp [(decide_eq_decide.2 (show M.sigs.length ≤ 16 ↔ (M.sigs.length : Int) ≤ 16 by omega)).trans d0, (decide_eq_decide.2 (show M.imports.length ≤ 8 ↔ (M.imports.length : Int) ≤ 8 by omega)).trans d1, (decide_eq_decide.2 (show M.funcs.length ≤ 8 ↔ (M.funcs.length : Int) ≤ 8 by omega)).trans d2, (decide_eq_decide.2 (show M.globals.length ≤ 8 ↔ (M.globals.length : Int) ≤ 8 by omega)).trans d3, (decide_eq_decide.2 (show M.data.length ≤ 8 ↔ (M.data.length : Int) ≤ 8 by omega)).trans d4])
              go_wp2_with (go_at_call 28; refine (few_calls (by assumption) _).mono ?_; rintro e wq ⟨rfl, rfl⟩; dsimp only)
              go_meet
              exact ⟨by rw [HP0.out], rfl⟩
  case rest =>
  obtain ⟨rfl, rfl⟩ := hcut
  obtain ⟨b0, hb0⟩ : ∃ b, p0M M = b := ⟨_, rfl⟩
  have HB0 := Aside0.mk hb0
  rw [hb0]
  clear hb0
  have HFS := HFW
  go_wp2_with fail
  go_loopw [4, 60] (fun s4 iv wr => ∃ (k : Nat) (b : Bool), k ≤ M.sigs.length ∧ iv = .int .i64 k ∧ s4 = .bool b ∧ Aside0 (b = (b0 && (M.sigs.take k).all (fun s => decide (s.1.length ≤ 4)))) ∧ Aside0 (FW w M ⟨a1, a2, a3, a4, a5, c1, c2, c3, c4, c5⟩ wr)) (fun _ iv _ => M.sigs.length - (intOf iv).toNat)
  case atStart => exact ⟨0, b0, Nat.zero_le _, rfl, rfl, ⟨by simp⟩, HFS⟩
  case round =>
    obtain ⟨k, b1, hk, rfl, rfl, HBK, HFK⟩ := hrel
    clear HFW HFS hz0 hz1 hz2 hz3 hz4 hz5 hz6
    by_cases hlt : k < M.sigs.length
    · have HTK := Aside0.mk (all_take zS (fun s => decide (s.1.length ≤ 4)) M.sigs k hlt)
      obtain ⟨ad, D1, j1, D2, j2, ha, hv0, hv1, hj1, hj2, hD1, hD2⟩ := at_sig (HM.out.below HFK.out.bel).sigs k hlt
      dsimp only at ha
      have HGM := Aside0.mk (getD_mem zS M.sigs k hlt)
      obtain ⟨⟨sp, sr⟩, hel⟩ : ∃ el, M.sigs.getD k zS = el := ⟨_, rfl⟩
      rw [hel] at hv0 hv1 hj1 hj2 hD1 hD2 HTK HGM
      dsimp only at hv0 hv1 hj1 hj2 hD1 hD2
      have HD1 := Aside0.mk (Kd.C_below hD1 (below_alloc (Below.refl _ _) (Nat.le_refl _) (.cells #[.slice D1 sp.length j1, .slice D2 sr.length j2] 32)))
      have HD2 := Aside0.mk (Kd.C_below hD2 (below_alloc (Below.refl _ _) (Nat.le_refl _) (.cells #[.slice D1 sp.length j1, .slice D2 sr.length j2] 32)))
      have HC1 := Aside0.mk (HMC.out.sigs _ HGM.out).1
      have HC2 := Aside0.mk (HMC.out.sigs _ HGM.out).2
      dsimp only at HC1 HC2
      have HFE := Aside0.mk (HFK.out.below (below_alloc (Below.refl _ _) (Nat.le_refl _) (.cells #[.slice D1 sp.length j1, .slice D2 sr.length j2] 32)))
      have hy0 := blk_cell (blk_new wr (.cells #[.slice D1 sp.length j1, .slice D2 sr.length j2] 32)) 0
      have hy1 := blk_cell (blk_new wr (.cells #[.slice D1 sp.length j1, .slice D2 sr.length j2] 32)) 1
      subst ha
      clear hD1 hD2 hel
      cases b1 with
      | false =>
        have HNX := Aside0.mk (show (b0 && (M.sigs.take (k + 1)).all (fun s => decide (s.1.length ≤ 4))) = false from by rw [HTK.out, ← Bool.and_assoc, ← HBK.out, Bool.false_and])
        go_wp2_with fail
        go_roundw
        case rel => exact ⟨k + 1, false, by omega, by go_num, rfl, ⟨HNX.out.symm⟩, HFE⟩
        case measure => simp [intOf]; omega
      | true =>
        rcases c1 : decide ((sp.length : Int) ≤ 4) with _ | _
        · have Ac1 := Aside0.mk c1
          have HNX := Aside0.mk (show (b0 && (M.sigs.take (k + 1)).all (fun s => decide (s.1.length ≤ 4))) = false from by
            rw [HTK.out, ← Bool.and_assoc, ← HBK.out, Bool.true_and]
            show (decide (sp.length ≤ 4)) = false
            first | (rw [(decide_eq_decide.2 (show sp.length ≤ 4 ↔ (sp.length : Int) ≤ 4 by omega)).trans c1]; done) | (rw [(decide_eq_decide.2 (show sp.length ≤ 4 ↔ (sp.length : Int) ≤ 4 by omega)).trans c1]; rfl) | simp [(decide_eq_decide.2 (show sp.length ≤ 4 ↔ (sp.length : Int) ≤ 4 by omega)).trans c1])
          go_wp2_with (first | (go_at_call 28; refine (few_calls (by assumption) _).mono ?_; rintro e wq ⟨rfl, rfl⟩; dsimp only))
          go_roundw
          case rel => exact ⟨k + 1, false, by omega, by go_num, rfl, ⟨HNX.out.symm⟩, HFE⟩
          case measure => simp [intOf]; omega
        · have Ac1 := Aside0.mk c1
          have HNX := Aside0.mk (show (b0 && (M.sigs.take (k + 1)).all (fun s => decide (s.1.length ≤ 4))) = true from by
            rw [HTK.out, ← Bool.and_assoc, ← HBK.out, Bool.true_and]
            show (decide (sp.length ≤ 4)) = true
            first | (rw [(decide_eq_decide.2 (show sp.length ≤ 4 ↔ (sp.length : Int) ≤ 4 by omega)).trans c1]; done) | (rw [(decide_eq_decide.2 (show sp.length ≤ 4 ↔ (sp.length : Int) ≤ 4 by omega)).trans c1]; rfl) | simp [(decide_eq_decide.2 (show sp.length ≤ 4 ↔ (sp.length : Int) ≤ 4 by omega)).trans c1])
          go_wp2_with (first | (go_at_call 28; refine (few_calls (by assumption) _).mono ?_; rintro e wq ⟨rfl, rfl⟩; dsimp only))
          go_roundw
          case rel => exact ⟨k + 1, true, by omega, by go_num, rfl, ⟨HNX.out.symm⟩, HFE⟩
          case measure => simp [intOf]; omega
    · obtain rfl : k = M.sigs.length := by omega
      have HE1 := Aside0.mk (show b1 = (b0 && M.sigs.all (fun s => decide (s.1.length ≤ 4))) from by rw [HBK.out]; first | rw [List.take_length] | rfl)
      have HFW := HFK
      have hz0 := blk_cell HFW.out.box 0
      have hz1 := blk_cell HFW.out.box 1
      have hz2 := blk_cell HFW.out.box 2
      have hz3 := blk_cell HFW.out.box 3
      have hz4 := blk_cell HFW.out.box 4
      have hz5 := blk_cell HFW.out.box 5
      have hz6 := blk_cell HFW.out.box 6
      clear HBK HFK hlt
      have HFS := HFW
      go_wp2_with fail
      go_loopw [4, 76] (fun s4 iv wr => ∃ (k : Nat) (b : Bool), k ≤ M.funcs.length ∧ iv = .int .i64 k ∧ s4 = .bool b ∧ Aside0 (b = (b1 && (M.funcs.take k).all (fun f => decide (f.2.2.1.length ≤ 8) && decide (f.2.2.2.length ≤ 200)))) ∧ Aside0 (FW w M ⟨a1, a2, a3, a4, a5, c1, c2, c3, c4, c5⟩ wr)) (fun _ iv _ => M.funcs.length - (intOf iv).toNat)
      case atStart => exact ⟨0, b1, Nat.zero_le _, rfl, rfl, ⟨by simp⟩, HFS⟩
      case round =>
        obtain ⟨k, b2, hk, rfl, rfl, HBK, HFK⟩ := hrel
        clear HFW HFS hz0 hz1 hz2 hz3 hz4 hz5 hz6
        by_cases hlt : k < M.funcs.length
        · have HTK := Aside0.mk (all_take zF (fun f => decide (f.2.2.1.length ≤ 8) && decide (f.2.2.2.length ≤ 200)) M.funcs k hlt)
          obtain ⟨ad, D1, j1, D2, j2, ha, hv0, hv1, hv2, hv3, hj1, hj2, hD1, hD2⟩ := at_func (HM.out.below HFK.out.bel).funcs k hlt
          dsimp only at ha
          have HGM := Aside0.mk (getD_mem zF M.funcs k hlt)
          obtain ⟨⟨fs, ft, fl, fb⟩, hel⟩ : ∃ el, M.funcs.getD k zF = el := ⟨_, rfl⟩
          rw [hel] at hv0 hv1 hv2 hv3 hj1 hj2 hD1 hD2 HTK HGM
          dsimp only at hv0 hv1 hv2 hv3 hj1 hj2 hD1 hD2
          have HD1 := Aside0.mk (Kd.C_below hD1 (below_alloc (Below.refl _ _) (Nat.le_refl _) (.cells #[.int .i64 fs, .bool ft, .slice D1 fl.length j1, .slice D2 fb.length j2] 43)))
          have HD2 := Aside0.mk (Kd.C_below hD2 (below_alloc (Below.refl _ _) (Nat.le_refl _) (.cells #[.int .i64 fs, .bool ft, .slice D1 fl.length j1, .slice D2 fb.length j2] 43)))
          have HC1 := Aside0.mk (HMC.out.funcs _ HGM.out).1
          have HC2 := Aside0.mk (HMC.out.funcs _ HGM.out).2
          dsimp only at HC1 HC2
          have HFE := Aside0.mk (HFK.out.below (below_alloc (Below.refl _ _) (Nat.le_refl _) (.cells #[.int .i64 fs, .bool ft, .slice D1 fl.length j1, .slice D2 fb.length j2] 43)))
          have HBX := Aside0.mk (blk_new wr (.cells #[.int .i64 fs, .bool ft, .slice D1 fl.length j1, .slice D2 fb.length j2] 43))
          have hy0 := blk_cell HBX.out 0
          have hy2 := blk_cell HBX.out 2
          have hy3 := blk_cell HBX.out 3
          subst ha
          clear hD1 hD2 hel
          cases b2 with
          | false =>
            have HNX := Aside0.mk (show (b1 && (M.funcs.take (k + 1)).all (fun f => decide (f.2.2.1.length ≤ 8) && decide (f.2.2.2.length ≤ 200))) = false from by rw [HTK.out, ← Bool.and_assoc, ← HBK.out, Bool.false_and])
            go_wp2_with fail
            go_roundw
            case rel => exact ⟨k + 1, false, by omega, by go_num, rfl, ⟨HNX.out.symm⟩, HFE⟩
            case measure => simp [intOf]; omega
          | true =>
            rcases c1 : decide ((fl.length : Int) ≤ 8) with _ | _
            · have Ac1 := Aside0.mk c1
              have HNX := Aside0.mk (show (b1 && (M.funcs.take (k + 1)).all (fun f => decide (f.2.2.1.length ≤ 8) && decide (f.2.2.2.length ≤ 200))) = false from by
                rw [HTK.out, ← Bool.and_assoc, ← HBK.out, Bool.true_and]
                show (decide (fl.length ≤ 8) && decide (fb.length ≤ 200)) = false
                first | (rw [(decide_eq_decide.2 (show fl.length ≤ 8 ↔ (fl.length : Int) ≤ 8 by omega)).trans c1]; done) | (rw [(decide_eq_decide.2 (show fl.length ≤ 8 ↔ (fl.length : Int) ≤ 8 by omega)).trans c1]; rfl) | simp [(decide_eq_decide.2 (show fl.length ≤ 8 ↔ (fl.length : Int) ≤ 8 by omega)).trans c1])
              go_wp2_with (first | (go_at_call 28; refine (few_calls (by assumption) _).mono ?_; rintro e wq ⟨rfl, rfl⟩; dsimp only))
              go_roundw
              case rel => exact ⟨k + 1, false, by omega, by go_num, rfl, ⟨HNX.out.symm⟩, HFE⟩
              case measure => simp [intOf]; omega
            · have Ac1 := Aside0.mk c1
              rcases c2 : decide ((fb.length : Int) ≤ 200) with _ | _
              · have Ac2 := Aside0.mk c2
                have HNX := Aside0.mk (show (b1 && (M.funcs.take (k + 1)).all (fun f => decide (f.2.2.1.length ≤ 8) && decide (f.2.2.2.length ≤ 200))) = false from by
                  rw [HTK.out, ← Bool.and_assoc, ← HBK.out, Bool.true_and]
                  show (decide (fl.length ≤ 8) && decide (fb.length ≤ 200)) = false
                  first | (rw [(decide_eq_decide.2 (show fl.length ≤ 8 ↔ (fl.length : Int) ≤ 8 by omega)).trans c1, (decide_eq_decide.2 (show fb.length ≤ 200 ↔ (fb.length : Int) ≤ 200 by omega)).trans c2]; done) | (rw [(decide_eq_decide.2 (show fl.length ≤ 8 ↔ (fl.length : Int) ≤ 8 by omega)).trans c1, (decide_eq_decide.2 (show fb.length ≤ 200 ↔ (fb.length : Int) ≤ 200 by omega)).trans c2]; rfl) | simp [(decide_eq_decide.2 (show fl.length ≤ 8 ↔ (fl.length : Int) ≤ 8 by omega)).trans c1, (decide_eq_decide.2 (show fb.length ≤ 200 ↔ (fb.length : Int) ≤ 200 by omega)).trans c2])
                go_wp2_with (first | (go_at_call 28; refine (few_calls (by assumption) _).mono ?_; rintro e wq ⟨rfl, rfl⟩; dsimp only))
                go_roundw
                case rel => exact ⟨k + 1, false, by omega, by go_num, rfl, ⟨HNX.out.symm⟩, HFE⟩
                case measure => simp [intOf]; omega
              · have Ac2 := Aside0.mk c2
                have HNX := Aside0.mk (show (b1 && (M.funcs.take (k + 1)).all (fun f => decide (f.2.2.1.length ≤ 8) && decide (f.2.2.2.length ≤ 200))) = true from by
                  rw [HTK.out, ← Bool.and_assoc, ← HBK.out, Bool.true_and]
                  show (decide (fl.length ≤ 8) && decide (fb.length ≤ 200)) = true
                  first | (rw [(decide_eq_decide.2 (show fl.length ≤ 8 ↔ (fl.length : Int) ≤ 8 by omega)).trans c1, (decide_eq_decide.2 (show fb.length ≤ 200 ↔ (fb.length : Int) ≤ 200 by omega)).trans c2]; done) | (rw [(decide_eq_decide.2 (show fl.length ≤ 8 ↔ (fl.length : Int) ≤ 8 by omega)).trans c1, (decide_eq_decide.2 (show fb.length ≤ 200 ↔ (fb.length : Int) ≤ 200 by omega)).trans c2]; rfl) | simp [(decide_eq_decide.2 (show fl.length ≤ 8 ↔ (fl.length : Int) ≤ 8 by omega)).trans c1, (decide_eq_decide.2 (show fb.length ≤ 200 ↔ (fb.length : Int) ≤ 200 by omega)).trans c2])
                go_wp2_with (first | (go_at_call 28; refine (few_calls (by assumption) _).mono ?_; rintro e wq ⟨rfl, rfl⟩; dsimp only))
                go_roundw
                case rel => exact ⟨k + 1, true, by omega, by go_num, rfl, ⟨HNX.out.symm⟩, HFE⟩
                case measure => simp [intOf]; omega
        · obtain rfl : k = M.funcs.length := by omega
          have HE2 := Aside0.mk (show b2 = (b1 && M.funcs.all (fun f => decide (f.2.2.1.length ≤ 8) && decide (f.2.2.2.length ≤ 200))) from by rw [HBK.out]; first | rw [List.take_length] | rfl)
          have HFW := HFK
          have hz0 := blk_cell HFW.out.box 0
          have hz1 := blk_cell HFW.out.box 1
          have hz2 := blk_cell HFW.out.box 2
          have hz3 := blk_cell HFW.out.box 3
          have hz4 := blk_cell HFW.out.box 4
          have hz5 := blk_cell HFW.out.box 5
          have hz6 := blk_cell HFW.out.box 6
          clear HBK HFK hlt
          have HFS := HFW
          go_wp2_with fail
          go_loopw [4, 98] (fun s4 iv wr => ∃ (k : Nat) (b : Bool), k ≤ 2 ∧ iv = .int .i64 k ∧ s4 = .bool b ∧ Aside0 (b = (b2 && ([M.m0, M.m1].take k).all (fun m => decide (m = 0) || decide (3 ≤ m) && decide (m ≤ 12)))) ∧ Aside0 (FW w M ⟨a1, a2, a3, a4, a5, c1, c2, c3, c4, c5⟩ wr)) (fun _ iv _ => 2 - (intOf iv).toNat)
          case atStart => exact ⟨0, b2, Nat.zero_le _, rfl, rfl, ⟨by simp⟩, HFS⟩
          case round =>
            obtain ⟨k, b3, hk, rfl, rfl, HBK, HFK⟩ := hrel
            clear HFW HFS hz0 hz1 hz2 hz3 hz4 hz5 hz6
            by_cases hlt : k < 2
            · have HTK := Aside0.mk (all_take 0 (fun m => decide (m = 0) || decide (3 ≤ m) && decide (m ≤ 12)) [M.m0, M.m1] k hlt)
              rcases (show k = 0 ∨ k = 1 by omega) with rfl | rfl
              · have HFE := HFK
                cases b3 with
                | false =>
                  have HNX := Aside0.mk (show (b2 && ([M.m0, M.m1].take (0 + 1)).all (fun m => decide (m = 0) || decide (3 ≤ m) && decide (m ≤ 12))) = false from by rw [HTK.out, ← Bool.and_assoc, ← HBK.out, Bool.false_and])
                  go_wp2_with fail
                  refine K_put (y := .int .i64 M.m0) (by first | rfl | kernel_rfl) ?_
                  go_wp2_with fail
                  go_roundw
                  case rel => exact ⟨0 + 1, false, by omega, by go_num, rfl, ⟨HNX.out.symm⟩, HFE⟩
                  case measure => simp [intOf]
                | true =>
                  rcases c1 : (M.m0 == 0) with _ | _
                  · rcases c2 : decide (3 ≤ M.m0) with _ | _
                    · have HNX := Aside0.mk (show (b2 && ([M.m0, M.m1].take (0 + 1)).all (fun m => decide (m = 0) || decide (3 ≤ m) && decide (m ≤ 12))) = false from by
                        rw [HTK.out, ← Bool.and_assoc, ← HBK.out, Bool.true_and]
                        show (decide (M.m0 = 0) || decide (3 ≤ M.m0) && decide (M.m0 ≤ 12)) = false
                        first | (rw [(show decide (M.m0 = 0) = false from c1), c2]; done) | (rw [(show decide (M.m0 = 0) = false from c1), c2]; rfl) | simp [(show decide (M.m0 = 0) = false from c1), c2])
                      go_wp2_with fail
                      refine K_put (y := .int .i64 M.m0) (by first | rfl | kernel_rfl) ?_
                      go_wp2_with fail
                      go_roundw
                      case rel => exact ⟨0 + 1, false, by omega, by go_num, rfl, ⟨HNX.out.symm⟩, HFE⟩
                      case measure => simp [intOf]
                    · rcases c3 : decide (M.m0 ≤ 12) with _ | _
                      · have HNX := Aside0.mk (show (b2 && ([M.m0, M.m1].take (0 + 1)).all (fun m => decide (m = 0) || decide (3 ≤ m) && decide (m ≤ 12))) = false from by
                          rw [HTK.out, ← Bool.and_assoc, ← HBK.out, Bool.true_and]
                          show (decide (M.m0 = 0) || decide (3 ≤ M.m0) && decide (M.m0 ≤ 12)) = false
                          first | (rw [(show decide (M.m0 = 0) = false from c1), c2, c3]; done) | (rw [(show decide (M.m0 = 0) = false from c1), c2, c3]; rfl) | simp [(show decide (M.m0 = 0) = false from c1), c2, c3])
                        go_wp2_with fail
                        refine K_put (y := .int .i64 M.m0) (by first | rfl | kernel_rfl) ?_
                        go_wp2_with fail
                        go_roundw
                        case rel => exact ⟨0 + 1, false, by omega, by go_num, rfl, ⟨HNX.out.symm⟩, HFE⟩
                        case measure => simp [intOf]
                      · have HNX := Aside0.mk (show (b2 && ([M.m0, M.m1].take (0 + 1)).all (fun m => decide (m = 0) || decide (3 ≤ m) && decide (m ≤ 12))) = true from by
                          rw [HTK.out, ← Bool.and_assoc, ← HBK.out, Bool.true_and]
                          show (decide (M.m0 = 0) || decide (3 ≤ M.m0) && decide (M.m0 ≤ 12)) = true
                          first | (rw [(show decide (M.m0 = 0) = false from c1), c2, c3]; done) | (rw [(show decide (M.m0 = 0) = false from c1), c2, c3]; rfl) | simp [(show decide (M.m0 = 0) = false from c1), c2, c3])
                        go_wp2_with fail
                        refine K_put (y := .int .i64 M.m0) (by first | rfl | kernel_rfl) ?_
                        go_wp2_with fail
                        go_roundw
                        case rel => exact ⟨0 + 1, true, by omega, by go_num, rfl, ⟨HNX.out.symm⟩, HFE⟩
                        case measure => simp [intOf]
                  · have HNX := Aside0.mk (show (b2 && ([M.m0, M.m1].take (0 + 1)).all (fun m => decide (m = 0) || decide (3 ≤ m) && decide (m ≤ 12))) = true from by
                      rw [HTK.out, ← Bool.and_assoc, ← HBK.out, Bool.true_and]
                      show (decide (M.m0 = 0) || decide (3 ≤ M.m0) && decide (M.m0 ≤ 12)) = true
                      first | (rw [(show decide (M.m0 = 0) = true from c1)]; done) | (rw [(show decide (M.m0 = 0) = true from c1)]; rfl) | simp [(show decide (M.m0 = 0) = true from c1)])
                    go_wp2_with fail
                    refine K_put (y := .int .i64 M.m0) (by first | rfl | kernel_rfl) ?_
                    go_wp2_with fail
                    go_roundw
                    case rel => exact ⟨0 + 1, true, by omega, by go_num, rfl, ⟨HNX.out.symm⟩, HFE⟩
                    case measure => simp [intOf]
              · have HFE := HFK
                cases b3 with
                | false =>
                  have HNX := Aside0.mk (show (b2 && ([M.m0, M.m1].take (1 + 1)).all (fun m => decide (m = 0) || decide (3 ≤ m) && decide (m ≤ 12))) = false from by rw [HTK.out, ← Bool.and_assoc, ← HBK.out, Bool.false_and])
                  go_wp2_with fail
                  refine K_put (y := .int .i64 M.m1) (by first | rfl | kernel_rfl) ?_
                  go_wp2_with fail
                  go_roundw
                  case rel => exact ⟨1 + 1, false, by omega, by go_num, rfl, ⟨HNX.out.symm⟩, HFE⟩
                  case measure => simp [intOf]
                | true =>
                  rcases c1 : (M.m1 == 0) with _ | _
                  · rcases c2 : decide (3 ≤ M.m1) with _ | _
                    · have HNX := Aside0.mk (show (b2 && ([M.m0, M.m1].take (1 + 1)).all (fun m => decide (m = 0) || decide (3 ≤ m) && decide (m ≤ 12))) = false from by
                        rw [HTK.out, ← Bool.and_assoc, ← HBK.out, Bool.true_and]
                        show (decide (M.m1 = 0) || decide (3 ≤ M.m1) && decide (M.m1 ≤ 12)) = false
                        first | (rw [(show decide (M.m1 = 0) = false from c1), c2]; done) | (rw [(show decide (M.m1 = 0) = false from c1), c2]; rfl) | simp [(show decide (M.m1 = 0) = false from c1), c2])
                      go_wp2_with fail
                      refine K_put (y := .int .i64 M.m1) (by first | rfl | kernel_rfl) ?_
                      go_wp2_with fail
                      go_roundw
                      case rel => exact ⟨1 + 1, false, by omega, by go_num, rfl, ⟨HNX.out.symm⟩, HFE⟩
                      case measure => simp [intOf]
                    · rcases c3 : decide (M.m1 ≤ 12) with _ | _
                      · have HNX := Aside0.mk (show (b2 && ([M.m0, M.m1].take (1 + 1)).all (fun m => decide (m = 0) || decide (3 ≤ m) && decide (m ≤ 12))) = false from by
                          rw [HTK.out, ← Bool.and_assoc, ← HBK.out, Bool.true_and]
                          show (decide (M.m1 = 0) || decide (3 ≤ M.m1) && decide (M.m1 ≤ 12)) = false
                          first | (rw [(show decide (M.m1 = 0) = false from c1), c2, c3]; done) | (rw [(show decide (M.m1 = 0) = false from c1), c2, c3]; rfl) | simp [(show decide (M.m1 = 0) = false from c1), c2, c3])
                        go_wp2_with fail
                        refine K_put (y := .int .i64 M.m1) (by first | rfl | kernel_rfl) ?_
                        go_wp2_with fail
                        go_roundw
                        case rel => exact ⟨1 + 1, false, by omega, by go_num, rfl, ⟨HNX.out.symm⟩, HFE⟩
                        case measure => simp [intOf]
                      · have HNX := Aside0.mk (show (b2 && ([M.m0, M.m1].take (1 + 1)).all (fun m => decide (m = 0) || decide (3 ≤ m) && decide (m ≤ 12))) = true from by
                          rw [HTK.out, ← Bool.and_assoc, ← HBK.out, Bool.true_and]
                          show (decide (M.m1 = 0) || decide (3 ≤ M.m1) && decide (M.m1 ≤ 12)) = true
                          first | (rw [(show decide (M.m1 = 0) = false from c1), c2, c3]; done) | (rw [(show decide (M.m1 = 0) = false from c1), c2, c3]; rfl) | simp [(show decide (M.m1 = 0) = false from c1), c2, c3])
                        go_wp2_with fail
                        refine K_put (y := .int .i64 M.m1) (by first | rfl | kernel_rfl) ?_
                        go_wp2_with fail
                        go_roundw
                        case rel => exact ⟨1 + 1, true, by omega, by go_num, rfl, ⟨HNX.out.symm⟩, HFE⟩
                        case measure => simp [intOf]
                  · have HNX := Aside0.mk (show (b2 && ([M.m0, M.m1].take (1 + 1)).all (fun m => decide (m = 0) || decide (3 ≤ m) && decide (m ≤ 12))) = true from by
                      rw [HTK.out, ← Bool.and_assoc, ← HBK.out, Bool.true_and]
                      show (decide (M.m1 = 0) || decide (3 ≤ M.m1) && decide (M.m1 ≤ 12)) = true
                      first | (rw [(show decide (M.m1 = 0) = true from c1)]; done) | (rw [(show decide (M.m1 = 0) = true from c1)]; rfl) | simp [(show decide (M.m1 = 0) = true from c1)])
                    go_wp2_with fail
                    refine K_put (y := .int .i64 M.m1) (by first | rfl | kernel_rfl) ?_
                    go_wp2_with fail
                    go_roundw
                    case rel => exact ⟨1 + 1, true, by omega, by go_num, rfl, ⟨HNX.out.symm⟩, HFE⟩
                    case measure => simp [intOf]
            · obtain rfl : k = 2 := by omega
              have HE3 := Aside0.mk (show b3 = (b2 && [M.m0, M.m1].all (fun m => decide (m = 0) || decide (3 ≤ m) && decide (m ≤ 12))) from by rw [HBK.out]; first | rw [List.take_length] | rfl)
              have HFW := HFK
              have hz0 := blk_cell HFW.out.box 0
              have hz1 := blk_cell HFW.out.box 1
              have hz2 := blk_cell HFW.out.box 2
              have hz3 := blk_cell HFW.out.box 3
              have hz4 := blk_cell HFW.out.box 4
              have hz5 := blk_cell HFW.out.box 5
              have hz6 := blk_cell HFW.out.box 6
              clear HBK HFK hlt
              have HLIM0 := Aside0.mk (show limM M = b3 from by rw [limM_p0, HE3.out, HE2.out, HE1.out, HB0.out])
              cases b3 with
              | false =>
                have HF := Aside0.mk (show fitsM M = 1 from by unfold fitsM; rw [if_neg (by rw [HLIM0.out]; decide)])
                go_wp2_with fail
                go_ret
                exact ⟨by rw [HF.out]; rfl, HFW.out.bel⟩
              | true =>
                have HLIM := HLIM0
                have HLM := Aside0.mk ((limM_iff M).1 HLIM.out)
                clear HLIM0 HE1 HE2 HE3
                have HFS := HFW
                go_wp2_with fail
                go_loopw [4, 120] (fun s4 iv wr => ∃ (k : Nat) (b : Bool), k ≤ M.sigs.length ∧ iv = .int .i64 k ∧ s4 = .bool b ∧ Aside0 (b = (true && (M.sigs.take k).all sigB)) ∧ Aside0 (FW w M ⟨a1, a2, a3, a4, a5, c1, c2, c3, c4, c5⟩ wr)) (fun _ iv _ => M.sigs.length - (intOf iv).toNat)
                case atStart => exact ⟨0, true, Nat.zero_le _, rfl, rfl, ⟨by simp⟩, HFS⟩
                case round =>
                  obtain ⟨k, b4, hk, rfl, rfl, HBK, HFK⟩ := hrel
                  clear HFW HFS hz0 hz1 hz2 hz3 hz4 hz5 hz6
                  by_cases hlt : k < M.sigs.length
                  · have HTK := Aside0.mk (all_take zS sigB M.sigs k hlt)
                    obtain ⟨ad, D1, j1, D2, j2, ha, hv0, hv1, hj1, hj2, hD1, hD2⟩ := at_sig (HM.out.below HFK.out.bel).sigs k hlt
                    dsimp only at ha
                    have HGM := Aside0.mk (getD_mem zS M.sigs k hlt)
                    obtain ⟨⟨sp, sr⟩, hel⟩ : ∃ el, M.sigs.getD k zS = el := ⟨_, rfl⟩
                    rw [hel] at hv0 hv1 hj1 hj2 hD1 hD2 HTK HGM
                    dsimp only at hv0 hv1 hj1 hj2 hD1 hD2
                    have HD1 := Aside0.mk (Kd.C_below hD1 (below_alloc (Below.refl _ _) (Nat.le_refl _) (.cells #[.slice D1 sp.length j1, .slice D2 sr.length j2] 32)))
                    have HD2 := Aside0.mk (Kd.C_below hD2 (below_alloc (Below.refl _ _) (Nat.le_refl _) (.cells #[.slice D1 sp.length j1, .slice D2 sr.length j2] 32)))
                    have HC1 := Aside0.mk (HMC.out.sigs _ HGM.out).1
                    have HC2 := Aside0.mk (HMC.out.sigs _ HGM.out).2
                    dsimp only at HC1 HC2
                    have HFE := Aside0.mk (HFK.out.below (below_alloc (Below.refl _ _) (Nat.le_refl _) (.cells #[.slice D1 sp.length j1, .slice D2 sr.length j2] 32)))
                    have hy0 := blk_cell (blk_new wr (.cells #[.slice D1 sp.length j1, .slice D2 sr.length j2] 32)) 0
                    have hy1 := blk_cell (blk_new wr (.cells #[.slice D1 sp.length j1, .slice D2 sr.length j2] 32)) 1
                    subst ha
                    clear hD1 hD2 hel
                    have HNL := Aside0.mk (show sp.length ≤ 100 from by have := HLM.out.2.1 _ HGM.out; dsimp only at this; omega)
                    cases b4 with
                    | false =>
                      have HNX := Aside0.mk (show (true && (M.sigs.take (k + 1)).all sigB) = false from by rw [HTK.out, ← Bool.and_assoc, ← HBK.out, Bool.false_and])
                      go_wp2_with fail
                      go_roundw
                      case rel => exact ⟨k + 1, false, by omega, by go_num, rfl, ⟨HNX.out.symm⟩, HFE⟩
                      case measure => simp [intOf]; omega
                    | true =>
                      rcases c1 : decide ((sr.length : Int) ≤ 1) with _ | _
                      · have Pc1 : decide (sr.length ≤ 1) = false := (decide_eq_decide.2 (show sr.length ≤ 1 ↔ (sr.length : Int) ≤ 1 by omega)).trans c1
                        have HNX := Aside0.mk (show (true && (M.sigs.take (k + 1)).all sigB) = false from by
                          rw [HTK.out, ← Bool.and_assoc, ← HBK.out, Bool.true_and]
                          show (decide (sr.length ≤ 1) && !sp.any oddT && !sr.any oddT) = false
                          first | (rw [(decide_eq_decide.2 (show sr.length ≤ 1 ↔ (sr.length : Int) ≤ 1 by omega)).trans c1]; done) | (rw [(decide_eq_decide.2 (show sr.length ≤ 1 ↔ (sr.length : Int) ≤ 1 by omega)).trans c1]; rfl) | simp [(decide_eq_decide.2 (show sr.length ≤ 1 ↔ (sr.length : Int) ≤ 1 by omega)).trans c1])
                        go_wp2_with (first | (go_at_call 30; refine (contains_calls (by assumption) (by assumption) (by assumption) (by assumption)).mono ?_; rintro e wq ⟨rfl, rfl⟩; dsimp only))
                        go_roundw
                        case rel => exact ⟨k + 1, false, by omega, by go_num, rfl, ⟨HNX.out.symm⟩, HFE⟩
                        case measure => simp [intOf]; omega
                      · have Pc1 : decide (sr.length ≤ 1) = true := (decide_eq_decide.2 (show sr.length ≤ 1 ↔ (sr.length : Int) ≤ 1 by omega)).trans c1
                        rcases c2 : sp.any oddT with _ | _
                        · have Ac2 := Aside0.mk c2
                          rcases c3 : sr.any oddT with _ | _
                          · have Ac3 := Aside0.mk c3
                            have HNR := Aside0.mk (show sr.length ≤ 100 from by have := of_decide_eq_true c1; omega)
                            have HNX := Aside0.mk (show (true && (M.sigs.take (k + 1)).all sigB) = true from by
                              rw [HTK.out, ← Bool.and_assoc, ← HBK.out, Bool.true_and]
                              show (decide (sr.length ≤ 1) && !sp.any oddT && !sr.any oddT) = true
                              first | (rw [(decide_eq_decide.2 (show sr.length ≤ 1 ↔ (sr.length : Int) ≤ 1 by omega)).trans c1, c2, c3]; done) | (rw [(decide_eq_decide.2 (show sr.length ≤ 1 ↔ (sr.length : Int) ≤ 1 by omega)).trans c1, c2, c3]; rfl) | simp [(decide_eq_decide.2 (show sr.length ≤ 1 ↔ (sr.length : Int) ≤ 1 by omega)).trans c1, c2, c3])
                            go_wp2_with (first | (go_at_call 30; refine (contains_calls (by assumption) (by assumption) (by assumption) (by assumption)).mono ?_; rintro e wq ⟨rfl, rfl⟩; dsimp only))
                            go_roundw
                            case rel => exact ⟨k + 1, true, by omega, by go_num, rfl, ⟨HNX.out.symm⟩, HFE⟩
                            case measure => simp [intOf]; omega
                          · have Ac3 := Aside0.mk c3
                            have HNR := Aside0.mk (show sr.length ≤ 100 from by have := of_decide_eq_true c1; omega)
                            have HNX := Aside0.mk (show (true && (M.sigs.take (k + 1)).all sigB) = false from by
                              rw [HTK.out, ← Bool.and_assoc, ← HBK.out, Bool.true_and]
                              show (decide (sr.length ≤ 1) && !sp.any oddT && !sr.any oddT) = false
                              first | (rw [(decide_eq_decide.2 (show sr.length ≤ 1 ↔ (sr.length : Int) ≤ 1 by omega)).trans c1, c2, c3]; done) | (rw [(decide_eq_decide.2 (show sr.length ≤ 1 ↔ (sr.length : Int) ≤ 1 by omega)).trans c1, c2, c3]; rfl) | simp [(decide_eq_decide.2 (show sr.length ≤ 1 ↔ (sr.length : Int) ≤ 1 by omega)).trans c1, c2, c3])
                            go_wp2_with (first | (go_at_call 30; refine (contains_calls (by assumption) (by assumption) (by assumption) (by assumption)).mono ?_; rintro e wq ⟨rfl, rfl⟩; dsimp only))
                            go_roundw
                            case rel => exact ⟨k + 1, false, by omega, by go_num, rfl, ⟨HNX.out.symm⟩, HFE⟩
                            case measure => simp [intOf]; omega
                        · have Ac2 := Aside0.mk c2
                          have HNX := Aside0.mk (show (true && (M.sigs.take (k + 1)).all sigB) = false from by
                            rw [HTK.out, ← Bool.and_assoc, ← HBK.out, Bool.true_and]
                            show (decide (sr.length ≤ 1) && !sp.any oddT && !sr.any oddT) = false
                            first | (rw [(decide_eq_decide.2 (show sr.length ≤ 1 ↔ (sr.length : Int) ≤ 1 by omega)).trans c1, c2]; done) | (rw [(decide_eq_decide.2 (show sr.length ≤ 1 ↔ (sr.length : Int) ≤ 1 by omega)).trans c1, c2]; rfl) | simp [(decide_eq_decide.2 (show sr.length ≤ 1 ↔ (sr.length : Int) ≤ 1 by omega)).trans c1, c2])
                          go_wp2_with (first | (go_at_call 30; refine (contains_calls (by assumption) (by assumption) (by assumption) (by assumption)).mono ?_; rintro e wq ⟨rfl, rfl⟩; dsimp only))
                          go_roundw
                          case rel => exact ⟨k + 1, false, by omega, by go_num, rfl, ⟨HNX.out.symm⟩, HFE⟩
                          case measure => simp [intOf]; omega
                  · obtain rfl : k = M.sigs.length := by omega
                    have HE4 := Aside0.mk (show b4 = (true && M.sigs.all sigB) from by rw [HBK.out]; first | rw [List.take_length] | rfl)
                    have HFW := HFK
                    have hz0 := blk_cell HFW.out.box 0
                    have hz1 := blk_cell HFW.out.box 1
                    have hz2 := blk_cell HFW.out.box 2
                    have hz3 := blk_cell HFW.out.box 3
                    have hz4 := blk_cell HFW.out.box 4
                    have hz5 := blk_cell HFW.out.box 5
                    have hz6 := blk_cell HFW.out.box 6
                    clear HBK HFK hlt
                    have HFS := HFW
                    go_wp2_with fail
                    go_loopw [4, 149] (fun s4 iv wr => ∃ (k : Nat) (b : Bool), k ≤ M.imports.length ∧ iv = .int .i64 k ∧ s4 = .bool b ∧ Aside0 (b = (b4 && (M.imports.take k).all wordB)) ∧ Aside0 (FW w M ⟨a1, a2, a3, a4, a5, c1, c2, c3, c4, c5⟩ wr)) (fun _ iv _ => M.imports.length - (intOf iv).toNat)
                    case atStart => exact ⟨0, b4, Nat.zero_le _, rfl, rfl, ⟨by simp⟩, HFS⟩
                    case round =>
                      obtain ⟨k, b5, hk, rfl, rfl, HBK, HFK⟩ := hrel
                      clear HFW HFS hz0 hz1 hz2 hz3 hz4 hz5 hz6
                      by_cases hlt : k < M.imports.length
                      · have HTK := Aside0.mk (all_take 0 wordB M.imports k hlt)
                        obtain ⟨ad, ha, hv0⟩ := Kd.at_int (HM.out.below HFK.out.bel).imports (k : Int) (by omega) (by omega)
                        rw [Int.toNat_natCast] at hv0
                        dsimp only at ha
                        obtain ⟨el, hel⟩ : ∃ el, rd M.imports (k : Int) = el := ⟨_, rfl⟩
                        have hel2 : M.imports.getD k 0 = el := by rw [← hel]; unfold rd; rw [Int.toNat_natCast]
                        rw [hel] at hv0
                        rw [hel2] at HTK
                        have HFE := HFK
                        subst ha
                        clear hel hel2
                        cases b5 with
                        | false =>
                          have HNX := Aside0.mk (show (b4 && (M.imports.take (k + 1)).all wordB) = false from by rw [HTK.out, ← Bool.and_assoc, ← HBK.out, Bool.false_and])
                          go_wp2_with fail
                          go_roundw
                          case rel => exact ⟨k + 1, false, by omega, by go_num, rfl, ⟨HNX.out.symm⟩, HFE⟩
                          case measure => simp [intOf]; omega
                        | true =>
                          rcases c1 : wordB el with _ | _
                          · have Ac1 := Aside0.mk c1
                            have HNX := Aside0.mk (show (b4 && (M.imports.take (k + 1)).all wordB) = false from by
                              rw [HTK.out, ← Bool.and_assoc, ← HBK.out, Bool.true_and]
                              show (wordB el) = false
                              first | (rw [c1]; done) | (rw [c1]; rfl) | simp [c1])
                            go_wp2_with (first | (go_at_call 31; refine (word_calls (by assumption) _).mono ?_; rintro e wq ⟨rfl, rfl⟩; dsimp only))
                            go_roundw
                            case rel => exact ⟨k + 1, false, by omega, by go_num, rfl, ⟨HNX.out.symm⟩, HFE⟩
                            case measure => simp [intOf]; omega
                          · have Ac1 := Aside0.mk c1
                            have HNX := Aside0.mk (show (b4 && (M.imports.take (k + 1)).all wordB) = true from by
                              rw [HTK.out, ← Bool.and_assoc, ← HBK.out, Bool.true_and]
                              show (wordB el) = true
                              first | (rw [c1]; done) | (rw [c1]; rfl) | simp [c1])
                            go_wp2_with (first | (go_at_call 31; refine (word_calls (by assumption) _).mono ?_; rintro e wq ⟨rfl, rfl⟩; dsimp only))
                            go_roundw
                            case rel => exact ⟨k + 1, true, by omega, by go_num, rfl, ⟨HNX.out.symm⟩, HFE⟩
                            case measure => simp [intOf]; omega
                      · obtain rfl : k = M.imports.length := by omega
                        have HE5 := Aside0.mk (show b5 = (b4 && M.imports.all wordB) from by rw [HBK.out]; first | rw [List.take_length] | rfl)
                        have HFW := HFK
                        have hz0 := blk_cell HFW.out.box 0
                        have hz1 := blk_cell HFW.out.box 1
                        have hz2 := blk_cell HFW.out.box 2
                        have hz3 := blk_cell HFW.out.box 3
                        have hz4 := blk_cell HFW.out.box 4
                        have hz5 := blk_cell HFW.out.box 5
                        have hz6 := blk_cell HFW.out.box 6
                        clear HBK HFK hlt
                        have HFS := HFW
                        go_wp2_with fail
                        go_loopw [4, 162] (fun s4 iv wr => ∃ (k : Nat) (b : Bool), k ≤ M.funcs.length ∧ iv = .int .i64 k ∧ s4 = .bool b ∧ Aside0 (b = (b5 && (M.funcs.take k).all funcB)) ∧ Aside0 (FW w M ⟨a1, a2, a3, a4, a5, c1, c2, c3, c4, c5⟩ wr)) (fun _ iv _ => M.funcs.length - (intOf iv).toNat)
                        case atStart => exact ⟨0, b5, Nat.zero_le _, rfl, rfl, ⟨by simp⟩, HFS⟩
                        case round =>
                          obtain ⟨k, b6, hk, rfl, rfl, HBK, HFK⟩ := hrel
                          clear HFW HFS hz0 hz1 hz2 hz3 hz4 hz5 hz6
                          by_cases hlt : k < M.funcs.length
                          · have HTK := Aside0.mk (all_take zF funcB M.funcs k hlt)
                            obtain ⟨ad, D1, j1, D2, j2, ha, hv0, hv1, hv2, hv3, hj1, hj2, hD1, hD2⟩ := at_func (HM.out.below HFK.out.bel).funcs k hlt
                            dsimp only at ha
                            have HGM := Aside0.mk (getD_mem zF M.funcs k hlt)
                            obtain ⟨⟨fs, ft, fl, fb⟩, hel⟩ : ∃ el, M.funcs.getD k zF = el := ⟨_, rfl⟩
                            rw [hel] at hv0 hv1 hv2 hv3 hj1 hj2 hD1 hD2 HTK HGM
                            dsimp only at hv0 hv1 hv2 hv3 hj1 hj2 hD1 hD2
                            have HD1 := Aside0.mk (Kd.C_below hD1 (below_alloc (Below.refl _ _) (Nat.le_refl _) (.cells #[.int .i64 fs, .bool ft, .slice D1 fl.length j1, .slice D2 fb.length j2] 43)))
                            have HD2 := Aside0.mk (Kd.C_below hD2 (below_alloc (Below.refl _ _) (Nat.le_refl _) (.cells #[.int .i64 fs, .bool ft, .slice D1 fl.length j1, .slice D2 fb.length j2] 43)))
                            have HC1 := Aside0.mk (HMC.out.funcs _ HGM.out).1
                            have HC2 := Aside0.mk (HMC.out.funcs _ HGM.out).2
                            dsimp only at HC1 HC2
                            have HFE := Aside0.mk (HFK.out.below (below_alloc (Below.refl _ _) (Nat.le_refl _) (.cells #[.int .i64 fs, .bool ft, .slice D1 fl.length j1, .slice D2 fb.length j2] 43)))
                            have HBX := Aside0.mk (blk_new wr (.cells #[.int .i64 fs, .bool ft, .slice D1 fl.length j1, .slice D2 fb.length j2] 43))
                            have hy0 := blk_cell HBX.out 0
                            have hy2 := blk_cell HBX.out 2
                            have hy3 := blk_cell HBX.out 3
                            have hfb : fb.length ≤ 200 := (HLM.out.2.2.1 _ HGM.out).2
                            have HNL := Aside0.mk (show fl.length ≤ 100 from by have := (HLM.out.2.2.1 _ HGM.out).1; dsimp only at this; omega)
                            subst ha
                            clear hD1 hD2 hel
                            cases b6 with
                            | false =>
                              have HNX := Aside0.mk (show (b5 && (M.funcs.take (k + 1)).all funcB) = false from by rw [HTK.out, ← Bool.and_assoc, ← HBK.out, Bool.false_and])
                              go_wp2_with (first | (go_at_call 32; refine (body_calls D2 _ fb _ HD2.out hj2 hfb HC2.out).mono ?_; rintro e w2 ⟨sb, rfl, hb⟩; have HFE := Aside0.mk (HFE.out.below hb); have HD1 := Aside0.mk (Kd.C_below HD1.out hb); have HD3 := Aside0.mk (Kd.C_below HD2.out hb); have HBX2 := Aside0.mk (blk_below HBX.out hb); have hw0 := blk_cell HBX2.out 0; have hw2 := blk_cell HBX2.out 2; have hw3 := blk_cell HBX2.out 3; clear hb; dsimp only))
                              go_roundw
                              case rel => exact ⟨k + 1, false, by omega, by go_num, rfl, ⟨HNX.out.symm⟩, HFE⟩
                              case measure => simp [intOf]; omega
                            | true =>
                              rcases c1 : wordB fs with _ | _
                              · have Ac1 := Aside0.mk c1
                                have HNX := Aside0.mk (show (b5 && (M.funcs.take (k + 1)).all funcB) = false from by
                                  rw [HTK.out, ← Bool.and_assoc, ← HBK.out, Bool.true_and]
                                  show (wordB fs && !fl.any oddT && fb.all rightX && closedB fb) = false
                                  first | (rw [c1]; done) | (rw [c1]; rfl) | simp [c1])
                                go_wp2_with (first | (go_at_call 32; refine (body_calls D2 _ fb _ HD2.out hj2 hfb HC2.out).mono ?_; rintro e w2 ⟨sb, rfl, hb⟩; have HFE := Aside0.mk (HFE.out.below hb); have HD1 := Aside0.mk (Kd.C_below HD1.out hb); have HD3 := Aside0.mk (Kd.C_below HD2.out hb); have HBX2 := Aside0.mk (blk_below HBX.out hb); have hw0 := blk_cell HBX2.out 0; have hw2 := blk_cell HBX2.out 2; have hw3 := blk_cell HBX2.out 3; clear hb; dsimp only) | (go_at_call 31; refine (word_calls (by assumption) _).mono ?_; rintro e wq ⟨rfl, rfl⟩; dsimp only) | (go_at_call 30; refine (contains_calls (by assumption) (by assumption) (by assumption) (by assumption)).mono ?_; rintro e wq ⟨rfl, rfl⟩; dsimp only) | (go_at_call 33; refine (closed_calls D2 _ fb _ HD3.out hj2 hfb).mono ?_; rw [Ac4.out]; rintro e w3 ⟨rfl, hb⟩; have HFE := Aside0.mk (HFE.out.below hb); clear hb; dsimp only))
                                go_roundw
                                case rel => exact ⟨k + 1, false, by omega, by go_num, rfl, ⟨HNX.out.symm⟩, HFE⟩
                                case measure => simp [intOf]; omega
                              · have Ac1 := Aside0.mk c1
                                rcases c2 : fl.any oddT with _ | _
                                · have Ac2 := Aside0.mk c2
                                  rcases c3 : fb.all rightX with _ | _
                                  · have hbe : (bodyE fb == 0) = false := bodyE_eq c3
                                    have HNX := Aside0.mk (show (b5 && (M.funcs.take (k + 1)).all funcB) = false from by
                                      rw [HTK.out, ← Bool.and_assoc, ← HBK.out, Bool.true_and]
                                      show (wordB fs && !fl.any oddT && fb.all rightX && closedB fb) = false
                                      first | (rw [c1, c2, c3]; done) | (rw [c1, c2, c3]; rfl) | simp [c1, c2, c3])
                                    go_wp2_with (first | (go_at_call 32; refine (body_calls D2 _ fb _ HD2.out hj2 hfb HC2.out).mono ?_; rintro e w2 ⟨sb, rfl, hb⟩; have HFE := Aside0.mk (HFE.out.below hb); have HD1 := Aside0.mk (Kd.C_below HD1.out hb); have HD3 := Aside0.mk (Kd.C_below HD2.out hb); have HBX2 := Aside0.mk (blk_below HBX.out hb); have hw0 := blk_cell HBX2.out 0; have hw2 := blk_cell HBX2.out 2; have hw3 := blk_cell HBX2.out 3; clear hb; dsimp only) | (go_at_call 31; refine (word_calls (by assumption) _).mono ?_; rintro e wq ⟨rfl, rfl⟩; dsimp only) | (go_at_call 30; refine (contains_calls (by assumption) (by assumption) (by assumption) (by assumption)).mono ?_; rintro e wq ⟨rfl, rfl⟩; dsimp only) | (go_at_call 33; refine (closed_calls D2 _ fb _ HD3.out hj2 hfb).mono ?_; rw [Ac4.out]; rintro e w3 ⟨rfl, hb⟩; have HFE := Aside0.mk (HFE.out.below hb); clear hb; dsimp only))
                                    go_roundw
                                    case rel => exact ⟨k + 1, false, by omega, by go_num, rfl, ⟨HNX.out.symm⟩, HFE⟩
                                    case measure => simp [intOf]; omega
                                  · have hbe : (bodyE fb == 0) = true := bodyE_eq c3
                                    rcases c4 : closedB fb with _ | _
                                    · have Ac4 := Aside0.mk c4
                                      have HNX := Aside0.mk (show (b5 && (M.funcs.take (k + 1)).all funcB) = false from by
                                        rw [HTK.out, ← Bool.and_assoc, ← HBK.out, Bool.true_and]
                                        show (wordB fs && !fl.any oddT && fb.all rightX && closedB fb) = false
                                        first | (rw [c1, c2, c3, c4]; done) | (rw [c1, c2, c3, c4]; rfl) | simp [c1, c2, c3, c4])
                                      go_wp2_with (first | (go_at_call 32; refine (body_calls D2 _ fb _ HD2.out hj2 hfb HC2.out).mono ?_; rintro e w2 ⟨sb, rfl, hb⟩; have HFE := Aside0.mk (HFE.out.below hb); have HD1 := Aside0.mk (Kd.C_below HD1.out hb); have HD3 := Aside0.mk (Kd.C_below HD2.out hb); have HBX2 := Aside0.mk (blk_below HBX.out hb); have hw0 := blk_cell HBX2.out 0; have hw2 := blk_cell HBX2.out 2; have hw3 := blk_cell HBX2.out 3; clear hb; dsimp only) | (go_at_call 31; refine (word_calls (by assumption) _).mono ?_; rintro e wq ⟨rfl, rfl⟩; dsimp only) | (go_at_call 30; refine (contains_calls (by assumption) (by assumption) (by assumption) (by assumption)).mono ?_; rintro e wq ⟨rfl, rfl⟩; dsimp only) | (go_at_call 33; refine (closed_calls D2 _ fb _ HD3.out hj2 hfb).mono ?_; rw [Ac4.out]; rintro e w3 ⟨rfl, hb⟩; have HFE := Aside0.mk (HFE.out.below hb); clear hb; dsimp only))
                                      go_roundw
                                      case rel => exact ⟨k + 1, false, by omega, by go_num, rfl, ⟨HNX.out.symm⟩, HFE⟩
                                      case measure => simp [intOf]; omega
                                    · have Ac4 := Aside0.mk c4
                                      have HNX := Aside0.mk (show (b5 && (M.funcs.take (k + 1)).all funcB) = true from by
                                        rw [HTK.out, ← Bool.and_assoc, ← HBK.out, Bool.true_and]
                                        show (wordB fs && !fl.any oddT && fb.all rightX && closedB fb) = true
                                        first | (rw [c1, c2, c3, c4]; done) | (rw [c1, c2, c3, c4]; rfl) | simp [c1, c2, c3, c4])
                                      go_wp2_with (first | (go_at_call 32; refine (body_calls D2 _ fb _ HD2.out hj2 hfb HC2.out).mono ?_; rintro e w2 ⟨sb, rfl, hb⟩; have HFE := Aside0.mk (HFE.out.below hb); have HD1 := Aside0.mk (Kd.C_below HD1.out hb); have HD3 := Aside0.mk (Kd.C_below HD2.out hb); have HBX2 := Aside0.mk (blk_below HBX.out hb); have hw0 := blk_cell HBX2.out 0; have hw2 := blk_cell HBX2.out 2; have hw3 := blk_cell HBX2.out 3; clear hb; dsimp only) | (go_at_call 31; refine (word_calls (by assumption) _).mono ?_; rintro e wq ⟨rfl, rfl⟩; dsimp only) | (go_at_call 30; refine (contains_calls (by assumption) (by assumption) (by assumption) (by assumption)).mono ?_; rintro e wq ⟨rfl, rfl⟩; dsimp only) | (go_at_call 33; refine (closed_calls D2 _ fb _ HD3.out hj2 hfb).mono ?_; rw [Ac4.out]; rintro e w3 ⟨rfl, hb⟩; have HFE := Aside0.mk (HFE.out.below hb); clear hb; dsimp only))
                                      go_roundw
                                      case rel => exact ⟨k + 1, true, by omega, by go_num, rfl, ⟨HNX.out.symm⟩, HFE⟩
                                      case measure => simp [intOf]; omega
                                · have Ac2 := Aside0.mk c2
                                  have HNX := Aside0.mk (show (b5 && (M.funcs.take (k + 1)).all funcB) = false from by
                                    rw [HTK.out, ← Bool.and_assoc, ← HBK.out, Bool.true_and]
                                    show (wordB fs && !fl.any oddT && fb.all rightX && closedB fb) = false
                                    first | (rw [c1, c2]; done) | (rw [c1, c2]; rfl) | simp [c1, c2])
                                  go_wp2_with (first | (go_at_call 32; refine (body_calls D2 _ fb _ HD2.out hj2 hfb HC2.out).mono ?_; rintro e w2 ⟨sb, rfl, hb⟩; have HFE := Aside0.mk (HFE.out.below hb); have HD1 := Aside0.mk (Kd.C_below HD1.out hb); have HD3 := Aside0.mk (Kd.C_below HD2.out hb); have HBX2 := Aside0.mk (blk_below HBX.out hb); have hw0 := blk_cell HBX2.out 0; have hw2 := blk_cell HBX2.out 2; have hw3 := blk_cell HBX2.out 3; clear hb; dsimp only) | (go_at_call 31; refine (word_calls (by assumption) _).mono ?_; rintro e wq ⟨rfl, rfl⟩; dsimp only) | (go_at_call 30; refine (contains_calls (by assumption) (by assumption) (by assumption) (by assumption)).mono ?_; rintro e wq ⟨rfl, rfl⟩; dsimp only) | (go_at_call 33; refine (closed_calls D2 _ fb _ HD3.out hj2 hfb).mono ?_; rw [Ac4.out]; rintro e w3 ⟨rfl, hb⟩; have HFE := Aside0.mk (HFE.out.below hb); clear hb; dsimp only))
                                  go_roundw
                                  case rel => exact ⟨k + 1, false, by omega, by go_num, rfl, ⟨HNX.out.symm⟩, HFE⟩
                                  case measure => simp [intOf]; omega
                          · obtain rfl : k = M.funcs.length := by omega
                            have HE6 := Aside0.mk (show b6 = (b5 && M.funcs.all funcB) from by rw [HBK.out]; first | rw [List.take_length] | rfl)
                            have HFW := HFK
                            have hz0 := blk_cell HFW.out.box 0
                            have hz1 := blk_cell HFW.out.box 1
                            have hz2 := blk_cell HFW.out.box 2
                            have hz3 := blk_cell HFW.out.box 3
                            have hz4 := blk_cell HFW.out.box 4
                            have hz5 := blk_cell HFW.out.box 5
                            have hz6 := blk_cell HFW.out.box 6
                            clear HBK HFK hlt
                            have HFS := HFW
                            go_wp2_with fail
                            go_loopw [4, 198] (fun s4 iv wr => ∃ (k : Nat) (b : Bool), k ≤ M.globals.length ∧ iv = .int .i64 k ∧ s4 = .bool b ∧ Aside0 (b = (b6 && (M.globals.take k).all globB)) ∧ Aside0 (FW w M ⟨a1, a2, a3, a4, a5, c1, c2, c3, c4, c5⟩ wr)) (fun _ iv _ => M.globals.length - (intOf iv).toNat)
                            case atStart => exact ⟨0, b6, Nat.zero_le _, rfl, rfl, ⟨by simp⟩, HFS⟩
                            case round =>
                              obtain ⟨k, b7, hk, rfl, rfl, HBK, HFK⟩ := hrel
                              clear HFW HFS hz0 hz1 hz2 hz3 hz4 hz5 hz6
                              by_cases hlt : k < M.globals.length
                              · have HTK := Aside0.mk (all_take (0, 0) globB M.globals k hlt)
                                obtain ⟨ad, ha, hv0, hv1⟩ := at_global (HM.out.below HFK.out.bel).globals k hlt
                                dsimp only at ha
                                have HGM := Aside0.mk (getD_mem (0, 0) M.globals k hlt)
                                obtain ⟨⟨gt, gv⟩, hel⟩ : ∃ el, M.globals.getD k (0, 0) = el := ⟨_, rfl⟩
                                rw [hel] at hv0 hv1 HTK HGM
                                dsimp only at hv0 hv1
                                have HC1 := Aside0.mk (HMC.out.globals _ HGM.out)
                                dsimp only at HC1
                                have HFE := Aside0.mk (HFK.out.below (below_alloc (Below.refl _ _) (Nat.le_refl _) (.cells #[.int .i64 gt, .int .i64 gv] 57)))
                                have hy0 := blk_cell (blk_new wr (.cells #[.int .i64 gt, .int .i64 gv] 57)) 0
                                have hy1 := blk_cell (blk_new wr (.cells #[.int .i64 gt, .int .i64 gv] 57)) 1
                                subst ha
                                clear hel
                                cases b7 with
                                | false =>
                                  have HNX := Aside0.mk (show (b6 && (M.globals.take (k + 1)).all globB) = false from by rw [HTK.out, ← Bool.and_assoc, ← HBK.out, Bool.false_and])
                                  go_wp2_with fail
                                  go_roundw
                                  case rel => exact ⟨k + 1, false, by omega, by go_num, rfl, ⟨HNX.out.symm⟩, HFE⟩
                                  case measure => simp [intOf]; omega
                                | true =>
                                  rcases c1 : oddT gt with _ | _
                                  · have Ac1 := Aside0.mk c1
                                    rcases c2 : wide gt with _ | _
                                    · have Ac2 := Aside0.mk c2
                                      rcases c3 : wordB gv with _ | _
                                      · have Ac3 := Aside0.mk c3
                                        have HNX := Aside0.mk (show (b6 && (M.globals.take (k + 1)).all globB) = false from by
                                          rw [HTK.out, ← Bool.and_assoc, ← HBK.out, Bool.true_and]
                                          show (!oddT gt && (wide gt || wordB gv)) = false
                                          first | (rw [c1, c2, c3]; done) | (rw [c1, c2, c3]; rfl) | simp [c1, c2, c3])
                                        go_wp2_with (first | (go_at_call 29; refine (odd_calls (by assumption) (by assumption) _).mono ?_; rintro e wq ⟨rfl, rfl⟩; dsimp only) | (go_at_call 21; refine (wide_calls2 (by assumption) (by assumption) _).mono ?_; rintro e wq ⟨rfl, rfl⟩; dsimp only) | (go_at_call 31; refine (word_calls (by assumption) _).mono ?_; rintro e wq ⟨rfl, rfl⟩; dsimp only))
                                        go_roundw
                                        case rel => exact ⟨k + 1, false, by omega, by go_num, rfl, ⟨HNX.out.symm⟩, HFE⟩
                                        case measure => simp [intOf]; omega
                                      · have Ac3 := Aside0.mk c3
                                        have HNX := Aside0.mk (show (b6 && (M.globals.take (k + 1)).all globB) = true from by
                                          rw [HTK.out, ← Bool.and_assoc, ← HBK.out, Bool.true_and]
                                          show (!oddT gt && (wide gt || wordB gv)) = true
                                          first | (rw [c1, c2, c3]; done) | (rw [c1, c2, c3]; rfl) | simp [c1, c2, c3])
                                        go_wp2_with (first | (go_at_call 29; refine (odd_calls (by assumption) (by assumption) _).mono ?_; rintro e wq ⟨rfl, rfl⟩; dsimp only) | (go_at_call 21; refine (wide_calls2 (by assumption) (by assumption) _).mono ?_; rintro e wq ⟨rfl, rfl⟩; dsimp only) | (go_at_call 31; refine (word_calls (by assumption) _).mono ?_; rintro e wq ⟨rfl, rfl⟩; dsimp only))
                                        go_roundw
                                        case rel => exact ⟨k + 1, true, by omega, by go_num, rfl, ⟨HNX.out.symm⟩, HFE⟩
                                        case measure => simp [intOf]; omega
                                    · have Ac2 := Aside0.mk c2
                                      have HNX := Aside0.mk (show (b6 && (M.globals.take (k + 1)).all globB) = true from by
                                        rw [HTK.out, ← Bool.and_assoc, ← HBK.out, Bool.true_and]
                                        show (!oddT gt && (wide gt || wordB gv)) = true
                                        first | (rw [c1, c2]; done) | (rw [c1, c2]; rfl) | simp [c1, c2])
                                      go_wp2_with (first | (go_at_call 29; refine (odd_calls (by assumption) (by assumption) _).mono ?_; rintro e wq ⟨rfl, rfl⟩; dsimp only) | (go_at_call 21; refine (wide_calls2 (by assumption) (by assumption) _).mono ?_; rintro e wq ⟨rfl, rfl⟩; dsimp only) | (go_at_call 31; refine (word_calls (by assumption) _).mono ?_; rintro e wq ⟨rfl, rfl⟩; dsimp only))
                                      go_roundw
                                      case rel => exact ⟨k + 1, true, by omega, by go_num, rfl, ⟨HNX.out.symm⟩, HFE⟩
                                      case measure => simp [intOf]; omega
                                  · have Ac1 := Aside0.mk c1
                                    have HNX := Aside0.mk (show (b6 && (M.globals.take (k + 1)).all globB) = false from by
                                      rw [HTK.out, ← Bool.and_assoc, ← HBK.out, Bool.true_and]
                                      show (!oddT gt && (wide gt || wordB gv)) = false
                                      first | (rw [c1]; done) | (rw [c1]; rfl) | simp [c1])
                                    go_wp2_with (first | (go_at_call 29; refine (odd_calls (by assumption) (by assumption) _).mono ?_; rintro e wq ⟨rfl, rfl⟩; dsimp only) | (go_at_call 21; refine (wide_calls2 (by assumption) (by assumption) _).mono ?_; rintro e wq ⟨rfl, rfl⟩; dsimp only) | (go_at_call 31; refine (word_calls (by assumption) _).mono ?_; rintro e wq ⟨rfl, rfl⟩; dsimp only))
                                    go_roundw
                                    case rel => exact ⟨k + 1, false, by omega, by go_num, rfl, ⟨HNX.out.symm⟩, HFE⟩
                                    case measure => simp [intOf]; omega
                              · obtain rfl : k = M.globals.length := by omega
                                have HE7 := Aside0.mk (show b7 = (b6 && M.globals.all globB) from by rw [HBK.out]; first | rw [List.take_length] | rfl)
                                have HFW := HFK
                                have hz0 := blk_cell HFW.out.box 0
                                have hz1 := blk_cell HFW.out.box 1
                                have hz2 := blk_cell HFW.out.box 2
                                have hz3 := blk_cell HFW.out.box 3
                                have hz4 := blk_cell HFW.out.box 4
                                have hz5 := blk_cell HFW.out.box 5
                                have hz6 := blk_cell HFW.out.box 6
                                clear HBK HFK hlt
                                have HFS := HFW
                                go_wp2_with fail
                                go_loopw [4, 224] (fun s4 iv wr => ∃ (k : Nat) (b : Bool), k ≤ M.data.length ∧ iv = .int .i64 k ∧ s4 = .bool b ∧ Aside0 (b = (b7 && (M.data.take k).all dataB)) ∧ Aside0 (FW w M ⟨a1, a2, a3, a4, a5, c1, c2, c3, c4, c5⟩ wr)) (fun _ iv _ => M.data.length - (intOf iv).toNat)
                                case atStart => exact ⟨0, b7, Nat.zero_le _, rfl, rfl, ⟨by simp⟩, HFS⟩
                                case round =>
                                  obtain ⟨k, b8, hk, rfl, rfl, HBK, HFK⟩ := hrel
                                  clear HFW HFS hz0 hz1 hz2 hz3 hz4 hz5 hz6
                                  by_cases hlt : k < M.data.length
                                  · have HTK := Aside0.mk (all_take zD dataB M.data k hlt)
                                    obtain ⟨ad, ha, hv0, hv1, hv2⟩ := at_data (HM.out.below HFK.out.bel).data k hlt
                                    dsimp only at ha
                                    obtain ⟨⟨dm, da, db⟩, hel⟩ : ∃ el, M.data.getD k zD = el := ⟨_, rfl⟩
                                    rw [hel] at hv0 hv1 hv2 HTK
                                    dsimp only at hv0 hv1 hv2
                                    have HFE := Aside0.mk (HFK.out.below (below_alloc (Below.refl _ _) (Nat.le_refl _) (.cells #[.int .i64 dm, .int .i64 da, .string db] 54)))
                                    have hy0 := blk_cell (blk_new wr (.cells #[.int .i64 dm, .int .i64 da, .string db] 54)) 0
                                    have hy1 := blk_cell (blk_new wr (.cells #[.int .i64 dm, .int .i64 da, .string db] 54)) 1
                                    subst ha
                                    clear hel
                                    cases b8 with
                                    | false =>
                                      have HNX := Aside0.mk (show (b7 && (M.data.take (k + 1)).all dataB) = false from by rw [HTK.out, ← Bool.and_assoc, ← HBK.out, Bool.false_and])
                                      go_wp2_with fail
                                      go_roundw
                                      case rel => exact ⟨k + 1, false, by omega, by go_num, rfl, ⟨HNX.out.symm⟩, HFE⟩
                                      case measure => simp [intOf]; omega
                                    | true =>
                                      rcases c1 : (dm == 0) with _ | _
                                      · rcases c2 : (dm == 1) with _ | _
                                        · have HNX := Aside0.mk (show (b7 && (M.data.take (k + 1)).all dataB) = false from by
                                            rw [HTK.out, ← Bool.and_assoc, ← HBK.out, Bool.true_and]
                                            show ((decide (dm = 0) || decide (dm = 1)) && wordB da) = false
                                            first | (rw [(show decide (dm = 0) = false from c1), (show decide (dm = 1) = false from c2)]; done) | (rw [(show decide (dm = 0) = false from c1), (show decide (dm = 1) = false from c2)]; rfl) | simp [(show decide (dm = 0) = false from c1), (show decide (dm = 1) = false from c2)])
                                          go_wp2_with (first | (go_at_call 31; refine (word_calls (by assumption) _).mono ?_; rintro e wq ⟨rfl, rfl⟩; dsimp only))
                                          go_roundw
                                          case rel => exact ⟨k + 1, false, by omega, by go_num, rfl, ⟨HNX.out.symm⟩, HFE⟩
                                          case measure => simp [intOf]; omega
                                        · rcases c3 : wordB da with _ | _
                                          · have Ac3 := Aside0.mk c3
                                            have HNX := Aside0.mk (show (b7 && (M.data.take (k + 1)).all dataB) = false from by
                                              rw [HTK.out, ← Bool.and_assoc, ← HBK.out, Bool.true_and]
                                              show ((decide (dm = 0) || decide (dm = 1)) && wordB da) = false
                                              first | (rw [(show decide (dm = 0) = false from c1), (show decide (dm = 1) = true from c2), c3]; done) | (rw [(show decide (dm = 0) = false from c1), (show decide (dm = 1) = true from c2), c3]; rfl) | simp [(show decide (dm = 0) = false from c1), (show decide (dm = 1) = true from c2), c3])
                                            go_wp2_with (first | (go_at_call 31; refine (word_calls (by assumption) _).mono ?_; rintro e wq ⟨rfl, rfl⟩; dsimp only))
                                            go_roundw
                                            case rel => exact ⟨k + 1, false, by omega, by go_num, rfl, ⟨HNX.out.symm⟩, HFE⟩
                                            case measure => simp [intOf]; omega
                                          · have Ac3 := Aside0.mk c3
                                            have HNX := Aside0.mk (show (b7 && (M.data.take (k + 1)).all dataB) = true from by
                                              rw [HTK.out, ← Bool.and_assoc, ← HBK.out, Bool.true_and]
                                              show ((decide (dm = 0) || decide (dm = 1)) && wordB da) = true
                                              first | (rw [(show decide (dm = 0) = false from c1), (show decide (dm = 1) = true from c2), c3]; done) | (rw [(show decide (dm = 0) = false from c1), (show decide (dm = 1) = true from c2), c3]; rfl) | simp [(show decide (dm = 0) = false from c1), (show decide (dm = 1) = true from c2), c3])
                                            go_wp2_with (first | (go_at_call 31; refine (word_calls (by assumption) _).mono ?_; rintro e wq ⟨rfl, rfl⟩; dsimp only))
                                            go_roundw
                                            case rel => exact ⟨k + 1, true, by omega, by go_num, rfl, ⟨HNX.out.symm⟩, HFE⟩
                                            case measure => simp [intOf]; omega
                                      · rcases c3 : wordB da with _ | _
                                        · have Ac3 := Aside0.mk c3
                                          have HNX := Aside0.mk (show (b7 && (M.data.take (k + 1)).all dataB) = false from by
                                            rw [HTK.out, ← Bool.and_assoc, ← HBK.out, Bool.true_and]
                                            show ((decide (dm = 0) || decide (dm = 1)) && wordB da) = false
                                            first | (rw [(show decide (dm = 0) = true from c1), c3]; done) | (rw [(show decide (dm = 0) = true from c1), c3]; rfl) | simp [(show decide (dm = 0) = true from c1), c3])
                                          go_wp2_with (first | (go_at_call 31; refine (word_calls (by assumption) _).mono ?_; rintro e wq ⟨rfl, rfl⟩; dsimp only))
                                          go_roundw
                                          case rel => exact ⟨k + 1, false, by omega, by go_num, rfl, ⟨HNX.out.symm⟩, HFE⟩
                                          case measure => simp [intOf]; omega
                                        · have Ac3 := Aside0.mk c3
                                          have HNX := Aside0.mk (show (b7 && (M.data.take (k + 1)).all dataB) = true from by
                                            rw [HTK.out, ← Bool.and_assoc, ← HBK.out, Bool.true_and]
                                            show ((decide (dm = 0) || decide (dm = 1)) && wordB da) = true
                                            first | (rw [(show decide (dm = 0) = true from c1), c3]; done) | (rw [(show decide (dm = 0) = true from c1), c3]; rfl) | simp [(show decide (dm = 0) = true from c1), c3])
                                          go_wp2_with (first | (go_at_call 31; refine (word_calls (by assumption) _).mono ?_; rintro e wq ⟨rfl, rfl⟩; dsimp only))
                                          go_roundw
                                          case rel => exact ⟨k + 1, true, by omega, by go_num, rfl, ⟨HNX.out.symm⟩, HFE⟩
                                          case measure => simp [intOf]; omega
                                  · obtain rfl : k = M.data.length := by omega
                                    have HE8 := Aside0.mk (show b8 = (b7 && M.data.all dataB) from by rw [HBK.out]; first | rw [List.take_length] | rfl)
                                    have HFW := HFK
                                    have hz0 := blk_cell HFW.out.box 0
                                    have hz1 := blk_cell HFW.out.box 1
                                    have hz2 := blk_cell HFW.out.box 2
                                    have hz3 := blk_cell HFW.out.box 3
                                    have hz4 := blk_cell HFW.out.box 4
                                    have hz5 := blk_cell HFW.out.box 5
                                    have hz6 := blk_cell HFW.out.box 6
                                    clear HBK HFK hlt
                                    have HARG := fun (h8 : b8 = (b7 && M.data.all dataB)) => (show argM M = b8 from by unfold argM; rw [h8, HE7.out, HE6.out, HE5.out, HE4.out, Bool.true_and])
                                    cases b8 with
                                    | false =>
                                      have HF := Aside0.mk (show fitsM M = 4 from by unfold fitsM; rw [if_pos HLIM.out, if_neg (by rw [HARG HE8.out]; decide)])
                                      go_wp2_with fail
                                      go_ret
                                      exact ⟨by rw [HF.out]; rfl, HFW.out.bel⟩
                                    | true =>
                                      have HF := Aside0.mk (show fitsM M = 0 from by unfold fitsM; rw [if_pos HLIM.out, if_pos (by rw [HARG HE8.out])])
                                      go_wp2_with fail
                                      go_ret
                                      exact ⟨by rw [HF.out]; rfl, HFW.out.bel⟩
end Go.Proofs.YtjjhhmchomabeaaDoor.Valid
