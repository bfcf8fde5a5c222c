/- The reference's Next. -/
import Derived.Test.YtdcmeefeinppnaaRFits
namespace Go.Proofs.Ytdcmeefeinppnaa.Live
open Go.RowKit Go.Proofs.YtdcmeefeinppnaaW.PrintWords Go.Proofs.YtdcmeefeinppnaaW.PrintLast Go.Proofs.YtdcmeefeinppnaaW.PrintMore Go.Proofs.Ytdcmeefeinppnaa.Mem Go.Proofs.Ytdcmeefeinppnaa.Ir
open MapOf (get put)
open Uses (uses sorted)
open Ins
set_option linter.unusedVariables false
set_option linter.unusedSimpArgs false

theorem uniq {l m : List Int} (h : m.Pairwise (· < ·)) (hm : ∀ x, x ∈ m ↔ x ∈ l) : Lib.compact (sorted l) = m :=
  same_of_up _ _ (compact_up _ (sorted_up l)) h fun x => by
    rw [compact_mem]; unfold sorted; rw [List.mem_mergeSort]; exact (hm x).symm
/-- of two places the ones that there are, in order -/
def two (a b : Int) : List Int := if a < 0 then (if b < 0 then [] else [b]) else if b < 0 then [a] else if a = b then [a] else if a < b then [a, b] else [b, a]
def lab1 (a : Int) : List Int := if a < 0 then [] else [a]
theorem two_uniq (a b : Int) : Lib.compact (sorted (lab1 a ++ lab1 b)) = two a b := by
  refine uniq ?_ fun x => ?_
  · unfold two
    repeat' split
    all_goals simp <;> omega
  · unfold two lab1
    repeat' split
    all_goals simp <;> omega
theorem label_at (c : Cod) (n : Int) (xs : List Int) : addTo c xs ((get (labs c.body c.body.length).1 n).getD 0) (get (labs c.body c.body.length).1 n).isSome = xs ++ lab1 (fa c.body n c.body.length) := by
  obtain ⟨h1, h2⟩ := fa_labs c.body n c.body.length
  have hp := labs_places c.body n c.body.length
  unfold addTo lab1
  cases h : get (labs c.body c.body.length).1 n with
  | none => rw [h] at h1; rw [h1]; simp
  | some v =>
    rw [h] at h1
    have h3 := hp v h
    rw [h1]
    simp only [Option.getD_some, Option.isSome_some, true_and]
    rw [if_pos h3.2, if_neg (by omega)]
theorem place_at (c : Cod) (k : Nat) (hk : k < c.body.length) (xs : List Int) : addTo c xs ((k : Int) + 1) true = xs ++ lab1 (if (k : Int) + 1 = c.body.length then -1 else (k : Int) + 1) := by
  unfold addTo lab1
  by_cases h : (k : Int) + 1 = c.body.length
  · rw [if_pos h, if_neg (by omega)]; simp
  · rw [if_neg h, if_pos ⟨rfl, by omega⟩, if_neg (by omega)]
def nx (c : Cod) (k : Nat) : List Int :=
  let x := atIr c.body k
  let t := fa c.body x.n c.body.length
  let b := if (k : Int) + 1 = c.body.length then -1 else (k : Int) + 1
  if x.op = 15 ∨ x.op = 16 then [] else if x.op = 10 then two t (-1) else if x.op = 11 ∨ x.op = 12 then two t b else two (-1) b
theorem nx_eq (c : Cod) (k : Nat) (hk : k < c.body.length) : nextTop c (k : Int) = nx c k := by
  unfold nextTop
  rw [if_neg (by omega), Int.toNat_natCast]
  unfold nextOf rawNext nx
  simp only []
  split
  · exact uniq List.Pairwise.nil (fun x => Iff.rfl)
  · split
    · rw [label_at, ← two_uniq]; simp [lab1]
    · split
      · rw [label_at, place_at c k hk, ← two_uniq]; simp
      · rw [place_at c k hk, ← two_uniq]; simp [lab1]
/-- the code's box, and the instruction's -/
structure Rn (w W : World) (c : Cod) (A : Option Addr) (cap : Nat) (x : Ir) : Prop where
  f : Rf w W c A cap
  xb : W.heap[w.heap.size + 1]? = some (.cells x.vals 38 (0, 0))
theorem Rn.below {w W W1 : World} {c : Cod} {A : Option Addr} {cap : Nat} {x : Ir} (h : Rn w W c A cap x) (hb : Below W.heap.size W W1) : Rn w W1 c A cap x := ⟨h.f.below hb, blk_below h.xb hb⟩
attribute [local go_sem] max2_int min2_int max_two min_two

set_option maxHeartbeats 4000000 in
set_option maxRecDepth 100000 in
theorem rnext_calls (c : Cod) (A : Option Addr) (cap : Nat) (at_ : Int) (w : World) (hC : CodeAt w c A cap) : Calls Try.prog 19 #[.agg (c.vals A cap), .int .i64 at_] w (NextOut w (nextTop c at_)) := by
  have HP := Aside0.mk (Rf.init hC)
  clear hC
  by_cases h1 : at_ < 0
  · have g1 := decide_eq_true h1
    have he : nextTop c at_ = [] := by unfold nextTop; rw [if_pos (.inl h1)]
    rw [he]; clear he h1
    go_enter Try.func19, Try.ntmps19
    go_wp2_with fail
    go_ret
    exact ⟨_, rfl, Kd.R_nil _ _ _ _ _, HP.out.bel⟩
  by_cases h2 : at_ ≥ c.body.length
  · have g1 := decide_eq_false h1
    have g2 : decide ((c.body.length : Int) ≤ at_) = true := decide_eq_true h2
    have he : nextTop c at_ = [] := by unfold nextTop; rw [if_pos (.inr h2)]
    rw [he]; clear he h1 h2
    go_enter Try.func19, Try.ntmps19
    go_wp2_with fail
    go_ret
    exact ⟨_, rfl, Kd.R_nil _ _ _ _ _, HP.out.bel⟩
  have g1 := decide_eq_false h1
  have g2 : decide ((c.body.length : Int) ≤ at_) = false := decide_eq_false h2
  obtain ⟨k, rfl⟩ := Int.eq_ofNat_of_zero_le (show 0 ≤ at_ by omega)
  have hk : k < c.body.length := by omega
  have hs := HP.out.code.small
  rw [nx_eq c k hk]
  clear h1 h2
  have hb2 := blk_cell HP.out.box 2
  obtain ⟨ad, e, hx0, hx1, hx2, hx3, hx4, hx5, hx6⟩ := at_ir HP.out.code.row k hk
  subst e
  have HNX : Aside0 (nx c k = (if (atIr c.body k).op = 15 ∨ (atIr c.body k).op = 16 then [] else if (atIr c.body k).op = 10 then two (fa c.body (atIr c.body k).n c.body.length) (-1) else if (atIr c.body k).op = 11 ∨ (atIr c.body k).op = 12 then two (fa c.body (atIr c.body k).n c.body.length) (if (k : Int) + 1 = c.body.length then -1 else (k : Int) + 1) else two (-1) (if (k : Int) + 1 = c.body.length then -1 else (k : Int) + 1))) := ⟨rfl⟩
  obtain ⟨x, hx⟩ : ∃ x, atIr c.body k = x := ⟨_, rfl⟩
  rw [hx] at hx0 hx1 hx2 hx3 hx4 hx5 hx6 HNX
  clear hx
  obtain ⟨op, dst, a, b, cc, n, m⟩ := x
  obtain ⟨htl, hth⟩ := fa_lo c.body n c.body.length
  obtain ⟨t, ht⟩ : ∃ t, fa c.body n c.body.length = t := ⟨_, rfl⟩
  rw [ht] at htl hth HNX
  have HT := Aside0.mk ht
  have HC1 := Aside0.mk (show Rn w ((w.alloc (.cells (c.vals (some ad) cap) 24)).alloc (.cells #[.int .i64 op, .int .i64 dst, .int .i64 a, .int .i64 b, .int .i64 cc, .int .i64 n, .int .i64 m] 38)) c (some ad) cap ⟨op, dst, a, b, cc, n, m⟩ from ⟨HP.out.alloc _, by have := blk_new (w.alloc (.cells (c.vals (some ad) cap) 24)) (.cells #[.int .i64 op, .int .i64 dst, .int .i64 a, .int .i64 b, .int .i64 cc, .int .i64 n, .int .i64 m] 38); simpa using this⟩)
  have hy0 := blk_cell HC1.out.f.box 0
  have hy1 := blk_cell HC1.out.f.box 1
  have hy2 := blk_cell HC1.out.f.box 2
  have hy3 := blk_cell HC1.out.f.box 3
  have hy4 := blk_cell HC1.out.xb 5
  have hy5 := blk_cell HC1.out.xb 0
  have hy6 := hy5
  clear ht HP
  simp only [] at HNX
  have HLAST : ((k : Int) + 1 = c.body.length) ∨ ¬ ((k : Int) + 1 = c.body.length) := Classical.em _
  have HOP : op = 15 ∨ op = 16 ∨ op = 10 ∨ op = 11 ∨ op = 12 ∨ (op ≠ 15 ∧ op ≠ 16 ∧ op ≠ 10 ∧ op ≠ 11 ∧ op ≠ 12) := by omega
  rcases HLAST with hla | hla
  · have hlb : ((k : Int) + 1 == (c.body.length : Int)) = true := by simpa using hla
    rw [if_pos hla] at HNX
    rcases HOP with rfl | rfl | rfl | rfl | rfl | ⟨o15, o16, o10, o11, o12⟩
    · have HN := Aside0.mk (HNX.out.trans (if_pos (by simp)))
      clear HNX hla
      go_enter Try.func19, Try.ntmps19
      go_wp2_with (first | fail | (go_at_call 47; refine (find_calls c (some ad) cap n _ HC1.out.f.code).mono ?_; rw [HT.out]; rintro e w1 ⟨rfl, hb⟩; have HC2 := Aside0.mk (HC1.out.below hb); have hx0 := blk_cell HC2.out.xb 0; have hb2 := blk_cell HC2.out.f.box 2; clear hb HC1 hy0 hy1 hy2 hy3 hy4 hy5 hy6))
      go_ret
      exact ⟨_, rfl, by rw [HN.out]; exact Kd.R_nil _ _ _ _ _, HC2.out.f.bel⟩
    · have HN := Aside0.mk (HNX.out.trans (if_pos (by simp)))
      clear HNX hla
      go_enter Try.func19, Try.ntmps19
      go_wp2_with (first | fail | (go_at_call 47; refine (find_calls c (some ad) cap n _ HC1.out.f.code).mono ?_; rw [HT.out]; rintro e w1 ⟨rfl, hb⟩; have HC2 := Aside0.mk (HC1.out.below hb); have hx0 := blk_cell HC2.out.xb 0; have hb2 := blk_cell HC2.out.f.box 2; clear hb HC1 hy0 hy1 hy2 hy3 hy4 hy5 hy6))
      go_ret
      exact ⟨_, rfl, by rw [HN.out]; exact Kd.R_nil _ _ _ _ _, HC2.out.f.bel⟩
    · have HN := Aside0.mk (HNX.out.trans ((if_neg (by simp)).trans (if_pos rfl)))
      clear HNX hla
      by_cases h0 : t < 0
      · obtain rfl : t = -1 := by omega
        have HE := Aside0.mk (show two (-1) (-1) = [] from rfl)
        clear h0 htl hth
        go_enter Try.func19, Try.ntmps19
        go_wp2_with (first | fail | (go_at_call 47; refine (find_calls c (some ad) cap n _ HC1.out.f.code).mono ?_; rw [HT.out]; rintro e w1 ⟨rfl, hb⟩; have HC2 := Aside0.mk (HC1.out.below hb); have hx0 := blk_cell HC2.out.xb 0; have hb2 := blk_cell HC2.out.f.box 2; clear hb HC1 hy0 hy1 hy2 hy3 hy4 hy5 hy6))
        go_ret
        exact ⟨_, rfl, by rw [HN.out, HE.out]; exact Kd.R_nil _ _ _ _ _, HC2.out.f.bel⟩
      · have HE := Aside0.mk (show two t (-1) = [t] by unfold two; rw [if_neg h0]; rfl)
        have e1 : (t == -1) = false := by simp; omega
        have e2 : (-1 : Int) < t := by omega
        have e2b : ¬ (t < -1) := by omega
        have e3 : decide (0 ≤ t) = true := decide_eq_true (by omega)
        clear h0
        go_enter Try.func19, Try.ntmps19
        go_wp2_with (first | fail | (go_at_call 47; refine (find_calls c (some ad) cap n _ HC1.out.f.code).mono ?_; rw [HT.out]; rintro e w1 ⟨rfl, hb⟩; have HC2 := Aside0.mk (HC1.out.below hb); have hx0 := blk_cell HC2.out.xb 0; have hb2 := blk_cell HC2.out.f.box 2; clear hb HC1 hy0 hy1 hy2 hy3 hy4 hy5 hy6) | ((with_reducible refine gate_builtin (b := .append) (xs := #[.tmp 67, .tmp 69]) rfl ?_); at_builtin; refine wp_row (ys := [t]) ⟨Un.init _⟩ rfl (.tmp 67) (.tmp 69) rfl _ 1 1 rfl rfl (C_ints [t] (by simp) (blk_new _ _)) (by first | (simp; done) | (simp; omega)) 1 (by first | (simp; done) | (simp; omega)) ?_; intro A4 c4 w4 HU4))
        go_ret
        exact ⟨_, rfl, by rw [HN.out, HE.out]; exact Kd.R_lower HU4.out.row (by have := HC2.out.f.bel.size; simp; omega), (HC2.out.f.alloc _).bel.trans (HU4.out.bel.mono (by have := HC2.out.f.bel.size; simp; omega))⟩
    · have HN := Aside0.mk (HNX.out.trans ((if_neg (by simp)).trans ((if_neg (by simp)).trans (if_pos (by simp)))))
      clear HNX hla
      by_cases h0 : t < 0
      · obtain rfl : t = -1 := by omega
        have HE := Aside0.mk (show two (-1) (-1) = [] from rfl)
        clear h0 htl hth
        go_enter Try.func19, Try.ntmps19
        go_wp2_with (first | fail | (go_at_call 47; refine (find_calls c (some ad) cap n _ HC1.out.f.code).mono ?_; rw [HT.out]; rintro e w1 ⟨rfl, hb⟩; have HC2 := Aside0.mk (HC1.out.below hb); have hx0 := blk_cell HC2.out.xb 0; have hb2 := blk_cell HC2.out.f.box 2; clear hb HC1 hy0 hy1 hy2 hy3 hy4 hy5 hy6))
        go_ret
        exact ⟨_, rfl, by rw [HN.out, HE.out]; exact Kd.R_nil _ _ _ _ _, HC2.out.f.bel⟩
      · have HE := Aside0.mk (show two t (-1) = [t] by unfold two; rw [if_neg h0]; rfl)
        have e1 : (t == -1) = false := by simp; omega
        have e2 : (-1 : Int) < t := by omega
        have e2b : ¬ (t < -1) := by omega
        have e3 : decide (0 ≤ t) = true := decide_eq_true (by omega)
        clear h0
        go_enter Try.func19, Try.ntmps19
        go_wp2_with (first | fail | (go_at_call 47; refine (find_calls c (some ad) cap n _ HC1.out.f.code).mono ?_; rw [HT.out]; rintro e w1 ⟨rfl, hb⟩; have HC2 := Aside0.mk (HC1.out.below hb); have hx0 := blk_cell HC2.out.xb 0; have hb2 := blk_cell HC2.out.f.box 2; clear hb HC1 hy0 hy1 hy2 hy3 hy4 hy5 hy6) | ((with_reducible refine gate_builtin (b := .append) (xs := #[.tmp 67, .tmp 69]) rfl ?_); at_builtin; refine wp_row (ys := [t]) ⟨Un.init _⟩ rfl (.tmp 67) (.tmp 69) rfl _ 1 1 rfl rfl (C_ints [t] (by simp) (blk_new _ _)) (by first | (simp; done) | (simp; omega)) 1 (by first | (simp; done) | (simp; omega)) ?_; intro A4 c4 w4 HU4))
        go_ret
        exact ⟨_, rfl, by rw [HN.out, HE.out]; exact Kd.R_lower HU4.out.row (by have := HC2.out.f.bel.size; simp; omega), (HC2.out.f.alloc _).bel.trans (HU4.out.bel.mono (by have := HC2.out.f.bel.size; simp; omega))⟩
    · have HN := Aside0.mk (HNX.out.trans ((if_neg (by simp)).trans ((if_neg (by simp)).trans (if_pos (by simp)))))
      clear HNX hla
      by_cases h0 : t < 0
      · obtain rfl : t = -1 := by omega
        have HE := Aside0.mk (show two (-1) (-1) = [] from rfl)
        clear h0 htl hth
        go_enter Try.func19, Try.ntmps19
        go_wp2_with (first | fail | (go_at_call 47; refine (find_calls c (some ad) cap n _ HC1.out.f.code).mono ?_; rw [HT.out]; rintro e w1 ⟨rfl, hb⟩; have HC2 := Aside0.mk (HC1.out.below hb); have hx0 := blk_cell HC2.out.xb 0; have hb2 := blk_cell HC2.out.f.box 2; clear hb HC1 hy0 hy1 hy2 hy3 hy4 hy5 hy6))
        go_ret
        exact ⟨_, rfl, by rw [HN.out, HE.out]; exact Kd.R_nil _ _ _ _ _, HC2.out.f.bel⟩
      · have HE := Aside0.mk (show two t (-1) = [t] by unfold two; rw [if_neg h0]; rfl)
        have e1 : (t == -1) = false := by simp; omega
        have e2 : (-1 : Int) < t := by omega
        have e2b : ¬ (t < -1) := by omega
        have e3 : decide (0 ≤ t) = true := decide_eq_true (by omega)
        clear h0
        go_enter Try.func19, Try.ntmps19
        go_wp2_with (first | fail | (go_at_call 47; refine (find_calls c (some ad) cap n _ HC1.out.f.code).mono ?_; rw [HT.out]; rintro e w1 ⟨rfl, hb⟩; have HC2 := Aside0.mk (HC1.out.below hb); have hx0 := blk_cell HC2.out.xb 0; have hb2 := blk_cell HC2.out.f.box 2; clear hb HC1 hy0 hy1 hy2 hy3 hy4 hy5 hy6) | ((with_reducible refine gate_builtin (b := .append) (xs := #[.tmp 67, .tmp 69]) rfl ?_); at_builtin; refine wp_row (ys := [t]) ⟨Un.init _⟩ rfl (.tmp 67) (.tmp 69) rfl _ 1 1 rfl rfl (C_ints [t] (by simp) (blk_new _ _)) (by first | (simp; done) | (simp; omega)) 1 (by first | (simp; done) | (simp; omega)) ?_; intro A4 c4 w4 HU4))
        go_ret
        exact ⟨_, rfl, by rw [HN.out, HE.out]; exact Kd.R_lower HU4.out.row (by have := HC2.out.f.bel.size; simp; omega), (HC2.out.f.alloc _).bel.trans (HU4.out.bel.mono (by have := HC2.out.f.bel.size; simp; omega))⟩
    · have HN := Aside0.mk (HNX.out.trans ((if_neg (by omega)).trans ((if_neg o10).trans (if_neg (by omega)))))
      have n15 : (op == 15) = false := by simpa using o15
      have n16 : (op == 16) = false := by simpa using o16
      have n10 : (op == 10) = false := by simpa using o10
      have n11 : (op == 11) = false := by simpa using o11
      have n12 : (op == 12) = false := by simpa using o12
      clear HNX o15 o16 o10 o11 o12
      have HE := Aside0.mk (show two (-1) (-1) = [] from rfl)
      clear hla
      go_enter Try.func19, Try.ntmps19
      go_wp2_with (first | fail | (go_at_call 47; refine (find_calls c (some ad) cap n _ HC1.out.f.code).mono ?_; rw [HT.out]; rintro e w1 ⟨rfl, hb⟩; have HC2 := Aside0.mk (HC1.out.below hb); have hx0 := blk_cell HC2.out.xb 0; have hb2 := blk_cell HC2.out.f.box 2; clear hb HC1 hy0 hy1 hy2 hy3 hy4 hy5 hy6))
      go_ret
      exact ⟨_, rfl, by rw [HN.out, HE.out]; exact Kd.R_nil _ _ _ _ _, HC2.out.f.bel⟩
  · have hlb : ((k : Int) + 1 == (c.body.length : Int)) = false := by simpa using hla
    rw [if_neg hla] at HNX
    rcases HOP with rfl | rfl | rfl | rfl | rfl | ⟨o15, o16, o10, o11, o12⟩
    · have HN := Aside0.mk (HNX.out.trans (if_pos (by simp)))
      clear HNX hla
      go_enter Try.func19, Try.ntmps19
      go_wp2_with (first | fail | (go_at_call 47; refine (find_calls c (some ad) cap n _ HC1.out.f.code).mono ?_; rw [HT.out]; rintro e w1 ⟨rfl, hb⟩; have HC2 := Aside0.mk (HC1.out.below hb); have hx0 := blk_cell HC2.out.xb 0; have hb2 := blk_cell HC2.out.f.box 2; clear hb HC1 hy0 hy1 hy2 hy3 hy4 hy5 hy6))
      go_ret
      exact ⟨_, rfl, by rw [HN.out]; exact Kd.R_nil _ _ _ _ _, HC2.out.f.bel⟩
    · have HN := Aside0.mk (HNX.out.trans (if_pos (by simp)))
      clear HNX hla
      go_enter Try.func19, Try.ntmps19
      go_wp2_with (first | fail | (go_at_call 47; refine (find_calls c (some ad) cap n _ HC1.out.f.code).mono ?_; rw [HT.out]; rintro e w1 ⟨rfl, hb⟩; have HC2 := Aside0.mk (HC1.out.below hb); have hx0 := blk_cell HC2.out.xb 0; have hb2 := blk_cell HC2.out.f.box 2; clear hb HC1 hy0 hy1 hy2 hy3 hy4 hy5 hy6))
      go_ret
      exact ⟨_, rfl, by rw [HN.out]; exact Kd.R_nil _ _ _ _ _, HC2.out.f.bel⟩
    · have HN := Aside0.mk (HNX.out.trans ((if_neg (by simp)).trans (if_pos rfl)))
      clear HNX hla
      by_cases h0 : t < 0
      · obtain rfl : t = -1 := by omega
        have HE := Aside0.mk (show two (-1) (-1) = [] from rfl)
        clear h0 htl hth
        go_enter Try.func19, Try.ntmps19
        go_wp2_with (first | fail | (go_at_call 47; refine (find_calls c (some ad) cap n _ HC1.out.f.code).mono ?_; rw [HT.out]; rintro e w1 ⟨rfl, hb⟩; have HC2 := Aside0.mk (HC1.out.below hb); have hx0 := blk_cell HC2.out.xb 0; have hb2 := blk_cell HC2.out.f.box 2; clear hb HC1 hy0 hy1 hy2 hy3 hy4 hy5 hy6))
        go_ret
        exact ⟨_, rfl, by rw [HN.out, HE.out]; exact Kd.R_nil _ _ _ _ _, HC2.out.f.bel⟩
      · have HE := Aside0.mk (show two t (-1) = [t] by unfold two; rw [if_neg h0]; rfl)
        have e1 : (t == -1) = false := by simp; omega
        have e2 : (-1 : Int) < t := by omega
        have e2b : ¬ (t < -1) := by omega
        have e3 : decide (0 ≤ t) = true := decide_eq_true (by omega)
        clear h0
        go_enter Try.func19, Try.ntmps19
        go_wp2_with (first | fail | (go_at_call 47; refine (find_calls c (some ad) cap n _ HC1.out.f.code).mono ?_; rw [HT.out]; rintro e w1 ⟨rfl, hb⟩; have HC2 := Aside0.mk (HC1.out.below hb); have hx0 := blk_cell HC2.out.xb 0; have hb2 := blk_cell HC2.out.f.box 2; clear hb HC1 hy0 hy1 hy2 hy3 hy4 hy5 hy6) | ((with_reducible refine gate_builtin (b := .append) (xs := #[.tmp 67, .tmp 69]) rfl ?_); at_builtin; refine wp_row (ys := [t]) ⟨Un.init _⟩ rfl (.tmp 67) (.tmp 69) rfl _ 1 1 rfl rfl (C_ints [t] (by simp) (blk_new _ _)) (by first | (simp; done) | (simp; omega)) 1 (by first | (simp; done) | (simp; omega)) ?_; intro A4 c4 w4 HU4))
        go_ret
        exact ⟨_, rfl, by rw [HN.out, HE.out]; exact Kd.R_lower HU4.out.row (by have := HC2.out.f.bel.size; simp; omega), (HC2.out.f.alloc _).bel.trans (HU4.out.bel.mono (by have := HC2.out.f.bel.size; simp; omega))⟩
    · have HN := Aside0.mk (HNX.out.trans ((if_neg (by simp)).trans ((if_neg (by simp)).trans (if_pos (by simp)))))
      clear HNX
      have e0 : decide (0 ≤ (k : Int) + 1) = true := decide_eq_true (by omega)
      by_cases h0 : t < 0
      · obtain rfl : t = -1 := by omega
        have HE := Aside0.mk (show two (-1) ((k : Int) + 1) = [(k : Int) + 1] by unfold two; rw [if_pos (by omega), if_neg (by omega)])
        have e1 : ((-1 : Int) == (k : Int) + 1) = false := by simp; omega
        have e2 : (-1 : Int) < (k : Int) + 1 := by omega
        have e2b : ¬ ((k : Int) + 1 < -1) := by omega
        clear h0 hla
        go_enter Try.func19, Try.ntmps19
        go_wp2_with (first | fail | (go_at_call 47; refine (find_calls c (some ad) cap n _ HC1.out.f.code).mono ?_; rw [HT.out]; rintro e w1 ⟨rfl, hb⟩; have HC2 := Aside0.mk (HC1.out.below hb); have hx0 := blk_cell HC2.out.xb 0; have hb2 := blk_cell HC2.out.f.box 2; clear hb HC1 hy0 hy1 hy2 hy3 hy4 hy5 hy6) | ((with_reducible refine gate_builtin (b := .append) (xs := #[.tmp 67, .tmp 69]) rfl ?_); at_builtin; refine wp_row (ys := [(k : Int) + 1]) ⟨Un.init _⟩ rfl (.tmp 67) (.tmp 69) rfl _ 1 1 rfl rfl (C_ints [(k : Int) + 1] (by simp) (blk_new _ _)) (by first | (simp; done) | (simp; omega)) 1 (by first | (simp; done) | (simp; omega)) ?_; intro A4 c4 w4 HU4))
        go_ret
        exact ⟨_, rfl, by rw [HN.out, HE.out]; exact Kd.R_lower HU4.out.row (by have := HC2.out.f.bel.size; simp; omega), (HC2.out.f.alloc _).bel.trans (HU4.out.bel.mono (by have := HC2.out.f.bel.size; simp; omega))⟩
      · by_cases hb0 : t = (k : Int) + 1
        · subst hb0
          have HE := Aside0.mk (show two ((k : Int) + 1) ((k : Int) + 1) = [(k : Int) + 1] by unfold two; rw [if_neg (by omega), if_neg (by omega), if_pos rfl])
          have e2 : (-1 : Int) < (k : Int) + 1 := by omega
          have e2b : ¬ ((k : Int) + 1 < -1) := by omega
          clear h0 hla
          go_enter Try.func19, Try.ntmps19
          go_wp2_with (first | fail | (go_at_call 47; refine (find_calls c (some ad) cap n _ HC1.out.f.code).mono ?_; rw [HT.out]; rintro e w1 ⟨rfl, hb⟩; have HC2 := Aside0.mk (HC1.out.below hb); have hx0 := blk_cell HC2.out.xb 0; have hb2 := blk_cell HC2.out.f.box 2; clear hb HC1 hy0 hy1 hy2 hy3 hy4 hy5 hy6) | ((with_reducible refine gate_builtin (b := .append) (xs := #[.tmp 67, .tmp 69]) rfl ?_); at_builtin; refine wp_row (ys := [(k : Int) + 1]) ⟨Un.init _⟩ rfl (.tmp 67) (.tmp 69) rfl _ 1 1 rfl rfl (C_ints [(k : Int) + 1] (by simp) (blk_new _ _)) (by first | (simp; done) | (simp; omega)) 1 (by first | (simp; done) | (simp; omega)) ?_; intro A4 c4 w4 HU4))
          go_ret
          exact ⟨_, rfl, by rw [HN.out, HE.out]; exact Kd.R_lower HU4.out.row (by have := HC2.out.f.bel.size; simp; omega), (HC2.out.f.alloc _).bel.trans (HU4.out.bel.mono (by have := HC2.out.f.bel.size; simp; omega))⟩
        · have e1 : (t == (k : Int) + 1) = false := by simpa using hb0
          have e3 : decide (0 ≤ t) = true := decide_eq_true (by omega)
          by_cases hlt : t < (k : Int) + 1
          · have e4 : ¬ ((k : Int) + 1 < t) := by omega
            have HE := Aside0.mk (show two t ((k : Int) + 1) = [t, (k : Int) + 1] by unfold two; rw [if_neg h0, if_neg (by omega), if_neg hb0, if_pos hlt])
            clear h0 hla hb0
            go_enter Try.func19, Try.ntmps19
            go_wp2_with (first | fail | (go_at_call 47; refine (find_calls c (some ad) cap n _ HC1.out.f.code).mono ?_; rw [HT.out]; rintro e w1 ⟨rfl, hb⟩; have HC2 := Aside0.mk (HC1.out.below hb); have hx0 := blk_cell HC2.out.xb 0; have hb2 := blk_cell HC2.out.f.box 2; clear hb HC1 hy0 hy1 hy2 hy3 hy4 hy5 hy6) | ((with_reducible refine gate_builtin (b := .append) (xs := #[.tmp 61, .tmp 63]) rfl ?_); at_builtin; refine wp_row (ys := [t]) ⟨Un.init _⟩ rfl (.tmp 61) (.tmp 63) rfl _ 1 1 rfl rfl (C_ints [t] (by simp) (blk_new _ _)) (by first | (simp; done) | (simp; omega)) 1 (by first | (simp; done) | (simp; omega)) ?_; intro A3 c3 w3 HU3) | ((with_reducible refine gate_builtin (b := .append) (xs := #[.tmp 67, .tmp 69]) rfl ?_); at_builtin; refine wp_row (ys := [(k : Int) + 1]) ⟨HU3.out.alloc _⟩ rfl (.tmp 67) (.tmp 69) rfl _ 1 1 rfl rfl (C_ints [(k : Int) + 1] (by simp) (blk_new _ _)) (by first | (simp; done) | (simp; omega)) 2 (by first | (simp; done) | (simp; omega)) ?_; intro A4 c4 w4 HU4))
            go_ret
            exact ⟨_, rfl, by rw [HN.out, HE.out]; exact Kd.R_lower HU4.out.row (by have := HC2.out.f.bel.size; simp; omega), (HC2.out.f.alloc _).bel.trans (HU4.out.bel.mono (by have := HC2.out.f.bel.size; simp; omega))⟩
          · have e4 : (k : Int) + 1 < t := by omega
            have HE := Aside0.mk (show two t ((k : Int) + 1) = [(k : Int) + 1, t] by unfold two; rw [if_neg h0, if_neg (by omega), if_neg hb0, if_neg hlt])
            clear h0 hla hb0
            go_enter Try.func19, Try.ntmps19
            go_wp2_with (first | fail | (go_at_call 47; refine (find_calls c (some ad) cap n _ HC1.out.f.code).mono ?_; rw [HT.out]; rintro e w1 ⟨rfl, hb⟩; have HC2 := Aside0.mk (HC1.out.below hb); have hx0 := blk_cell HC2.out.xb 0; have hb2 := blk_cell HC2.out.f.box 2; clear hb HC1 hy0 hy1 hy2 hy3 hy4 hy5 hy6) | ((with_reducible refine gate_builtin (b := .append) (xs := #[.tmp 61, .tmp 63]) rfl ?_); at_builtin; refine wp_row (ys := [(k : Int) + 1]) ⟨Un.init _⟩ rfl (.tmp 61) (.tmp 63) rfl _ 1 1 rfl rfl (C_ints [(k : Int) + 1] (by simp) (blk_new _ _)) (by first | (simp; done) | (simp; omega)) 1 (by first | (simp; done) | (simp; omega)) ?_; intro A3 c3 w3 HU3) | ((with_reducible refine gate_builtin (b := .append) (xs := #[.tmp 67, .tmp 69]) rfl ?_); at_builtin; refine wp_row (ys := [t]) ⟨HU3.out.alloc _⟩ rfl (.tmp 67) (.tmp 69) rfl _ 1 1 rfl rfl (C_ints [t] (by simp) (blk_new _ _)) (by first | (simp; done) | (simp; omega)) 2 (by first | (simp; done) | (simp; omega)) ?_; intro A4 c4 w4 HU4))
            go_ret
            exact ⟨_, rfl, by rw [HN.out, HE.out]; exact Kd.R_lower HU4.out.row (by have := HC2.out.f.bel.size; simp; omega), (HC2.out.f.alloc _).bel.trans (HU4.out.bel.mono (by have := HC2.out.f.bel.size; simp; omega))⟩
    · have HN := Aside0.mk (HNX.out.trans ((if_neg (by simp)).trans ((if_neg (by simp)).trans (if_pos (by simp)))))
      clear HNX
      have e0 : decide (0 ≤ (k : Int) + 1) = true := decide_eq_true (by omega)
      by_cases h0 : t < 0
      · obtain rfl : t = -1 := by omega
        have HE := Aside0.mk (show two (-1) ((k : Int) + 1) = [(k : Int) + 1] by unfold two; rw [if_pos (by omega), if_neg (by omega)])
        have e1 : ((-1 : Int) == (k : Int) + 1) = false := by simp; omega
        have e2 : (-1 : Int) < (k : Int) + 1 := by omega
        have e2b : ¬ ((k : Int) + 1 < -1) := by omega
        clear h0 hla
        go_enter Try.func19, Try.ntmps19
        go_wp2_with (first | fail | (go_at_call 47; refine (find_calls c (some ad) cap n _ HC1.out.f.code).mono ?_; rw [HT.out]; rintro e w1 ⟨rfl, hb⟩; have HC2 := Aside0.mk (HC1.out.below hb); have hx0 := blk_cell HC2.out.xb 0; have hb2 := blk_cell HC2.out.f.box 2; clear hb HC1 hy0 hy1 hy2 hy3 hy4 hy5 hy6) | ((with_reducible refine gate_builtin (b := .append) (xs := #[.tmp 67, .tmp 69]) rfl ?_); at_builtin; refine wp_row (ys := [(k : Int) + 1]) ⟨Un.init _⟩ rfl (.tmp 67) (.tmp 69) rfl _ 1 1 rfl rfl (C_ints [(k : Int) + 1] (by simp) (blk_new _ _)) (by first | (simp; done) | (simp; omega)) 1 (by first | (simp; done) | (simp; omega)) ?_; intro A4 c4 w4 HU4))
        go_ret
        exact ⟨_, rfl, by rw [HN.out, HE.out]; exact Kd.R_lower HU4.out.row (by have := HC2.out.f.bel.size; simp; omega), (HC2.out.f.alloc _).bel.trans (HU4.out.bel.mono (by have := HC2.out.f.bel.size; simp; omega))⟩
      · by_cases hb0 : t = (k : Int) + 1
        · subst hb0
          have HE := Aside0.mk (show two ((k : Int) + 1) ((k : Int) + 1) = [(k : Int) + 1] by unfold two; rw [if_neg (by omega), if_neg (by omega), if_pos rfl])
          have e2 : (-1 : Int) < (k : Int) + 1 := by omega
          have e2b : ¬ ((k : Int) + 1 < -1) := by omega
          clear h0 hla
          go_enter Try.func19, Try.ntmps19
          go_wp2_with (first | fail | (go_at_call 47; refine (find_calls c (some ad) cap n _ HC1.out.f.code).mono ?_; rw [HT.out]; rintro e w1 ⟨rfl, hb⟩; have HC2 := Aside0.mk (HC1.out.below hb); have hx0 := blk_cell HC2.out.xb 0; have hb2 := blk_cell HC2.out.f.box 2; clear hb HC1 hy0 hy1 hy2 hy3 hy4 hy5 hy6) | ((with_reducible refine gate_builtin (b := .append) (xs := #[.tmp 67, .tmp 69]) rfl ?_); at_builtin; refine wp_row (ys := [(k : Int) + 1]) ⟨Un.init _⟩ rfl (.tmp 67) (.tmp 69) rfl _ 1 1 rfl rfl (C_ints [(k : Int) + 1] (by simp) (blk_new _ _)) (by first | (simp; done) | (simp; omega)) 1 (by first | (simp; done) | (simp; omega)) ?_; intro A4 c4 w4 HU4))
          go_ret
          exact ⟨_, rfl, by rw [HN.out, HE.out]; exact Kd.R_lower HU4.out.row (by have := HC2.out.f.bel.size; simp; omega), (HC2.out.f.alloc _).bel.trans (HU4.out.bel.mono (by have := HC2.out.f.bel.size; simp; omega))⟩
        · have e1 : (t == (k : Int) + 1) = false := by simpa using hb0
          have e3 : decide (0 ≤ t) = true := decide_eq_true (by omega)
          by_cases hlt : t < (k : Int) + 1
          · have e4 : ¬ ((k : Int) + 1 < t) := by omega
            have HE := Aside0.mk (show two t ((k : Int) + 1) = [t, (k : Int) + 1] by unfold two; rw [if_neg h0, if_neg (by omega), if_neg hb0, if_pos hlt])
            clear h0 hla hb0
            go_enter Try.func19, Try.ntmps19
            go_wp2_with (first | fail | (go_at_call 47; refine (find_calls c (some ad) cap n _ HC1.out.f.code).mono ?_; rw [HT.out]; rintro e w1 ⟨rfl, hb⟩; have HC2 := Aside0.mk (HC1.out.below hb); have hx0 := blk_cell HC2.out.xb 0; have hb2 := blk_cell HC2.out.f.box 2; clear hb HC1 hy0 hy1 hy2 hy3 hy4 hy5 hy6) | ((with_reducible refine gate_builtin (b := .append) (xs := #[.tmp 61, .tmp 63]) rfl ?_); at_builtin; refine wp_row (ys := [t]) ⟨Un.init _⟩ rfl (.tmp 61) (.tmp 63) rfl _ 1 1 rfl rfl (C_ints [t] (by simp) (blk_new _ _)) (by first | (simp; done) | (simp; omega)) 1 (by first | (simp; done) | (simp; omega)) ?_; intro A3 c3 w3 HU3) | ((with_reducible refine gate_builtin (b := .append) (xs := #[.tmp 67, .tmp 69]) rfl ?_); at_builtin; refine wp_row (ys := [(k : Int) + 1]) ⟨HU3.out.alloc _⟩ rfl (.tmp 67) (.tmp 69) rfl _ 1 1 rfl rfl (C_ints [(k : Int) + 1] (by simp) (blk_new _ _)) (by first | (simp; done) | (simp; omega)) 2 (by first | (simp; done) | (simp; omega)) ?_; intro A4 c4 w4 HU4))
            go_ret
            exact ⟨_, rfl, by rw [HN.out, HE.out]; exact Kd.R_lower HU4.out.row (by have := HC2.out.f.bel.size; simp; omega), (HC2.out.f.alloc _).bel.trans (HU4.out.bel.mono (by have := HC2.out.f.bel.size; simp; omega))⟩
          · have e4 : (k : Int) + 1 < t := by omega
            have HE := Aside0.mk (show two t ((k : Int) + 1) = [(k : Int) + 1, t] by unfold two; rw [if_neg h0, if_neg (by omega), if_neg hb0, if_neg hlt])
            clear h0 hla hb0
            go_enter Try.func19, Try.ntmps19
            go_wp2_with (first | fail | (go_at_call 47; refine (find_calls c (some ad) cap n _ HC1.out.f.code).mono ?_; rw [HT.out]; rintro e w1 ⟨rfl, hb⟩; have HC2 := Aside0.mk (HC1.out.below hb); have hx0 := blk_cell HC2.out.xb 0; have hb2 := blk_cell HC2.out.f.box 2; clear hb HC1 hy0 hy1 hy2 hy3 hy4 hy5 hy6) | ((with_reducible refine gate_builtin (b := .append) (xs := #[.tmp 61, .tmp 63]) rfl ?_); at_builtin; refine wp_row (ys := [(k : Int) + 1]) ⟨Un.init _⟩ rfl (.tmp 61) (.tmp 63) rfl _ 1 1 rfl rfl (C_ints [(k : Int) + 1] (by simp) (blk_new _ _)) (by first | (simp; done) | (simp; omega)) 1 (by first | (simp; done) | (simp; omega)) ?_; intro A3 c3 w3 HU3) | ((with_reducible refine gate_builtin (b := .append) (xs := #[.tmp 67, .tmp 69]) rfl ?_); at_builtin; refine wp_row (ys := [t]) ⟨HU3.out.alloc _⟩ rfl (.tmp 67) (.tmp 69) rfl _ 1 1 rfl rfl (C_ints [t] (by simp) (blk_new _ _)) (by first | (simp; done) | (simp; omega)) 2 (by first | (simp; done) | (simp; omega)) ?_; intro A4 c4 w4 HU4))
            go_ret
            exact ⟨_, rfl, by rw [HN.out, HE.out]; exact Kd.R_lower HU4.out.row (by have := HC2.out.f.bel.size; simp; omega), (HC2.out.f.alloc _).bel.trans (HU4.out.bel.mono (by have := HC2.out.f.bel.size; simp; omega))⟩
    · have HN := Aside0.mk (HNX.out.trans ((if_neg (by omega)).trans ((if_neg o10).trans (if_neg (by omega)))))
      have n15 : (op == 15) = false := by simpa using o15
      have n16 : (op == 16) = false := by simpa using o16
      have n10 : (op == 10) = false := by simpa using o10
      have n11 : (op == 11) = false := by simpa using o11
      have n12 : (op == 12) = false := by simpa using o12
      clear HNX o15 o16 o10 o11 o12
      have e0 : decide (0 ≤ (k : Int) + 1) = true := decide_eq_true (by omega)
      have HE := Aside0.mk (show two (-1) ((k : Int) + 1) = [(k : Int) + 1] by unfold two; rw [if_pos (by omega), if_neg (by omega)])
      have e1 : ((-1 : Int) == (k : Int) + 1) = false := by simp; omega
      have e2 : (-1 : Int) < (k : Int) + 1 := by omega
      have e2b : ¬ ((k : Int) + 1 < -1) := by omega
      clear hla
      go_enter Try.func19, Try.ntmps19
      go_wp2_with (first | fail | (go_at_call 47; refine (find_calls c (some ad) cap n _ HC1.out.f.code).mono ?_; rw [HT.out]; rintro e w1 ⟨rfl, hb⟩; have HC2 := Aside0.mk (HC1.out.below hb); have hx0 := blk_cell HC2.out.xb 0; have hb2 := blk_cell HC2.out.f.box 2; clear hb HC1 hy0 hy1 hy2 hy3 hy4 hy5 hy6) | ((with_reducible refine gate_builtin (b := .append) (xs := #[.tmp 67, .tmp 69]) rfl ?_); at_builtin; refine wp_row (ys := [(k : Int) + 1]) ⟨Un.init _⟩ rfl (.tmp 67) (.tmp 69) rfl _ 1 1 rfl rfl (C_ints [(k : Int) + 1] (by simp) (blk_new _ _)) (by first | (simp; done) | (simp; omega)) 1 (by first | (simp; done) | (simp; omega)) ?_; intro A4 c4 w4 HU4))
      go_ret
      exact ⟨_, rfl, by rw [HN.out, HE.out]; exact Kd.R_lower HU4.out.row (by have := HC2.out.f.bel.size; simp; omega), (HC2.out.f.alloc _).bel.trans (HU4.out.bel.mono (by have := HC2.out.f.bel.size; simp; omega))⟩
end Go.Proofs.Ytdcmeefeinppnaa.Live
