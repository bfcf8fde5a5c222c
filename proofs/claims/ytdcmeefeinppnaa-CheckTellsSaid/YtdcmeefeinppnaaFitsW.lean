/- live.Fits: the walk. -/
import Derived.Test.YtdcmeefeinppnaaFits
namespace Go.Proofs.Ytdcmeefeinppnaa.Live
open Go.RowKit Go.Proofs.YtdcmeefeinppnaaW.PrintWords Go.Proofs.YtdcmeefeinppnaaW.PrintLast Go.Proofs.Ytdcmeefeinppnaa.Mem Go.Proofs.Ytdcmeefeinppnaa.Ir
open MapOf (get put wp_lookup wp_look wp_update)
open Uses (uses uses_calls)
set_option linter.unusedVariables false
set_option linter.unusedSimpArgs false

def isW (op : Int) : Bool := op == 1 || op == 2 || op == 3 || op == 4 || op == 5 || op == 7
def isJ (op : Int) : Bool := op == 10 || op == 11 || op == 12
def okIr (c : Cod) (x : Ir) : Bool :=
  !(isW x.op && oddB c.cells (defs x)) && !(isJ x.op && decide (cnt c.body x.n c.body.length ≠ 1)) && !(decide (defs x < -1) || decide (defs x ≥ c.cells)) && !((uses x.op x.a x.b x.c).any (oddB c.cells))
def headOk (c : Cod) : Bool := !(decide (c.cells < 0) || decide (c.cells > 60) || decide (c.params < 0) || decide (c.params > c.cells) || decide (c.body.length > 1000))
def fits (c : Cod) : Bool := headOk c && c.body.all (okIr c)

def FitsOut (w : World) (r : Bool) (e : Ending) (w' : World) : Prop := e = .returned (.bool r) ∧ Below w.heap.size w w'

theorem fits_no (c : Cod) (A : Option Addr) (cap : Nat) (w : World) (hC : CodeAt w c A cap) (h : headOk c = false) : Calls Try.prog 20 #[.agg (c.vals A cap)] w (FitsOut w false) := by
  have HB := Aside0.mk ((Below.refl w.heap.size w).alloc (Nat.le_refl _) (.cells (c.vals A cap) 24))
  have hs := hC.small
  clear hC
  have HH : c.cells < 0 ∨ (¬ c.cells < 0 ∧ c.cells > 60) ∨ (¬ c.cells < 0 ∧ ¬ c.cells > 60 ∧ c.params < 0) ∨ (¬ c.cells < 0 ∧ ¬ c.cells > 60 ∧ ¬ c.params < 0 ∧ c.params > c.cells) ∨ (¬ c.cells < 0 ∧ ¬ c.cells > 60 ∧ ¬ c.params < 0 ∧ ¬ c.params > c.cells ∧ c.body.length > 1000) := by
    simp [headOk] at h; omega
  clear h
  rcases HH with h1 | ⟨h1, h2⟩ | ⟨h1, h2, h3⟩ | ⟨h1, h2, h3, h4⟩ | ⟨h1, h2, h3, h4, h5⟩
  · have g1 := decide_eq_true h1
    clear h1
    go_enter Try.func20, Try.ntmps20
    go_wp2_with fail
    go_ret
    exact ⟨rfl, HB.out⟩
  · have g1 := decide_eq_false h1
    have g2 : decide (60 < c.cells) = true := decide_eq_true h2
    clear h1 h2
    go_enter Try.func20, Try.ntmps20
    go_wp2_with fail
    go_ret
    exact ⟨rfl, HB.out⟩
  · have g1 := decide_eq_false h1
    have g2 : decide (60 < c.cells) = false := decide_eq_false h2
    have g3 := decide_eq_true h3
    clear h1 h2 h3
    go_enter Try.func20, Try.ntmps20
    go_wp2_with fail
    go_ret
    exact ⟨rfl, HB.out⟩
  · have g1 := decide_eq_false h1
    have g2 : decide (60 < c.cells) = false := decide_eq_false h2
    have g3 := decide_eq_false h3
    have g4 : decide (c.cells < c.params) = true := decide_eq_true h4
    clear h1 h2 h3 h4
    go_enter Try.func20, Try.ntmps20
    go_wp2_with fail
    go_ret
    exact ⟨rfl, HB.out⟩
  · have g1 := decide_eq_false h1
    have g2 : decide (60 < c.cells) = false := decide_eq_false h2
    have g3 := decide_eq_false h3
    have g4 : decide (c.cells < c.params) = false := decide_eq_false h4
    have g5 : decide (1000 < (c.body.length : Int)) = true := decide_eq_true (by omega)
    clear h1 h2 h3 h4 h5
    go_enter Try.func20, Try.ntmps20
    go_wp2_with fail
    go_ret
    exact ⟨rfl, HB.out⟩

structure Fs (w W : World) (c : Cod) (A : Option Addr) (cap b1 b2 : Nat) : Prop where
  bel : Below w.heap.size w W
  sz : w.heap.size + 1 ≤ W.heap.size
  box : W.heap[w.heap.size]? = some (.cells (c.vals A cap) 24 (0, 0))
  maps : Maps2 W b1 b2 (labs c.body c.body.length).1 (labs c.body c.body.length).2
theorem Fs.below {w W W1 : World} {c : Cod} {A : Option Addr} {cap b1 b2 : Nat} (h : Fs w W c A cap b1 b2) (hb : Below W.heap.size W W1) : Fs w W1 c A cap b1 b2 :=
  ⟨h.bel.trans (hb.mono (by have := h.sz; omega)), Nat.le_trans h.sz hb.size, blk_below h.box hb, h.maps.below hb⟩
theorem Fs.alloc {w W : World} {c : Cod} {A : Option Addr} {cap b1 b2 : Nat} (h : Fs w W c A cap b1 b2) (o : Obj) : Fs w (W.alloc o) c A cap b1 b2 := h.below ((Below.refl _ _).alloc (Nat.le_refl _) o)

theorem uses_len (op a b c : Int) : (uses op a b c).length ≤ 3 := by
  unfold uses
  refine Nat.le_trans (Lib.compact_length_le _) ?_
  rw [Uses.sorted_length]
  unfold Uses.raw
  repeat' split
  all_goals simp
theorem fits_at {c : Cod} {k : Nat} (hk : k < c.body.length) (h : okIr c (atIr c.body k) = false) : fits c = false := by
  unfold fits
  rw [Bool.and_eq_false_iff]; right
  rw [List.all_eq_false]
  refine ⟨atIr c.body k, ?_, by simp [h]⟩
  unfold atIr
  rw [List.getD_eq_getElem?_getD, List.getElem?_eq_getElem hk]
  exact List.getElem_mem hk
theorem defs_calls' {x : Ir} {d : Int} (h : defs x = d) (w : World) : Calls Try.prog 22 #[.agg x.vals] w fun e w' => e = .returned (.int .i64 d) ∧ Below w.heap.size w w' := h ▸ defs_calls x w

/-- what is known of one round -/
structure Rd (c : Cod) (k : Nat) : Prop where
  all : ∀ j, j < k → okIr c (atIr c.body j) = true
theorem fits_all {c : Cod} (h : headOk c = true) (hr : Rd c c.body.length) : fits c = true := by
  unfold fits
  rw [Bool.and_eq_true]
  refine ⟨h, List.all_eq_true.2 fun x hx => ?_⟩
  obtain ⟨j, hj, rfl⟩ := List.getElem_of_mem hx
  have := hr.all j hj
  unfold atIr at this
  rwa [List.getD_eq_getElem?_getD, List.getElem?_eq_getElem hj] at this
theorem Rd.next {c : Cod} {k : Nat} (h : Rd c k) (ho : okIr c (atIr c.body k) = true) : Rd c (k + 1) :=
  ⟨fun j hj => by
    by_cases e : j = k
    · rw [e]; exact ho
    · exact h.all j (by omega)⟩

set_option maxHeartbeats 2000000 in
theorem fits_calls (c : Cod) (A : Option Addr) (cap : Nat) (w : World) (hC : CodeAt w c A cap) : Calls Try.prog 20 #[.agg (c.vals A cap)] w (FitsOut w (fits c)) := by
  by_cases hh : headOk c = false
  · have : fits c = false := by unfold fits; rw [hh]; rfl
    rw [this]; exact fits_no c A cap w hC hh
  replace hh : headOk c = true := by simpa using hh
  have hcells : 0 ≤ c.cells ∧ c.cells ≤ 60 ∧ 0 ≤ c.params ∧ c.params ≤ c.cells ∧ c.body.length ≤ 1000 := by simp [headOk] at hh; omega
  have g1 : decide (c.cells < 0) = false := decide_eq_false (by omega)
  have g2 : decide (60 < c.cells) = false := decide_eq_false (by omega)
  have g3 : decide (c.params < 0) = false := decide_eq_false (by omega)
  have g4 : decide (c.cells < c.params) = false := decide_eq_false (by omega)
  have g5 : decide (1000 < (c.body.length : Int)) = false := decide_eq_false (by omega)
  have g6 : decide (c.cells ≤ -1) = false := decide_eq_false (by omega)
  have HH := Aside0.mk hh
  have HC := Aside0.mk hC
  have hn : c.body.length ≤ 1000 := hcells.2.2.2.2
  have HCE := Aside0.mk hcells
  clear hh hC hcells
  go_enter Try.func20, Try.ntmps20
  go_wp2_with (go_at_call 45; refine (labels_calls c A cap _ (HC.out.below ((Below.refl _ _).alloc (Nat.le_refl _) _))).mono ?_; rintro e w0 ⟨b1, b2, rfl, hb1, hb2, hm, hb⟩; have hbx := blk_below (blk_new w (.cells (c.vals A cap) 24)) hb; have HP0 := Aside0.mk (show Fs w w0 c A cap b1 b2 from ⟨((Below.refl _ _).alloc (Nat.le_refl _) _).trans (hb.mono (by simp)), by have := hb.size; simpa using this, hbx, hm⟩); have hz := blk_cell hbx 2; clear hb1 hb2 hm hb hbx)
  clear hz
  go_loopw [44] (fun i wr => ∃ k : Nat, k ≤ c.body.length ∧ i = .int .i64 k ∧ Aside0 (Rd c k) ∧ Aside0 (Fs w wr c A cap b1 b2)) (fun i _ => c.body.length - (intOf i).toNat)
  case atStart => exact ⟨0, Nat.zero_le _, rfl, ⟨⟨fun j hj => by omega⟩⟩, HP0⟩
  case round =>
    obtain ⟨k, hk, rfl, HR, HP⟩ := hrel
    clear HP0
    by_cases hlt : k < c.body.length
    · obtain ⟨ad, e, hx0, hx1, hx2, hx3, hx4, hx5, hx6⟩ := at_ir (Kd.C_below HC.out.row HP.out.bel) k hlt
      subst e
      obtain ⟨x, hx⟩ : ∃ x, atIr c.body k = x := ⟨_, rfl⟩
      rw [hx] at hx0 hx1 hx2 hx3 hx4 hx5 hx6
      have HK := Aside0.mk hx
      clear hx
      obtain ⟨op, dst, a, b, cc, n, m⟩ := x
      by_cases hW : op = 1 ∨ op = 2 ∨ op = 3 ∨ op = 4 ∨ op = 5 ∨ op = 7
      · have HD := Aside0.mk (show defs ⟨op, dst, a, b, cc, n, m⟩ = dst from if_pos (show op = 1 ∨ op = 2 ∨ op = 3 ∨ op = 4 ∨ op = 5 ∨ op = 7 ∨ op = 14 from by omega))
        have hw : isW op = true := by simp [isW]; omega
        have hj : isJ op = false := by simp [isJ]; omega
        by_cases hod : oddB c.cells dst = true
        · have HO := Aside0.mk (show okIr c ⟨op, dst, a, b, cc, n, m⟩ = false from by simp [okIr, HD.out, hod, hw])
          clear hw hj
          rcases hW with h | h | h | h | h | h <;> subst h
          all_goals
            go_wp2_with (first
              | (go_at_call 22; refine (defs_calls' HD.out _).mono ?_; rintro e w1 ⟨rfl, hb⟩; have H1 := Aside0.mk ((HP.out.alloc _).below hb); have hxb := blk_below (blk_new wr _) hb; have hy0 := blk_cell hxb 0; have hy1 := blk_cell hxb 1; have hy2 := blk_cell hxb 2; have hy3 := blk_cell hxb 3; have hy4 := blk_cell hxb 4; have hy5 := blk_cell hxb 5; have hy6 := blk_cell hxb 6; have hz0 := blk_cell H1.out.box 0; clear hb HP hxb)
              | (go_at_call 48; refine (odd_calls w.heap.size c.cells _ _ (blk_cell H1.out.box 0)).mono ?_; rintro e w2 ⟨rfl, rfl⟩)
              | ((with_reducible refine gate_ (.lookup 64 (.tmp 66) (.tmp 68) false) rfl ?_); refine wp_look _ rfl (.tmp 66) (.tmp 68) 64 rfl 3 3 Try.underlying64 Try.underlying3 (0 : Int) (zeroInt _) _ _ rfl H1.out.maps.m2 _ rfl (cnt c.body n c.body.length : Int) (labs_many _ _ _) ?_)
              | (go_at_call 23; refine (uses_calls _ _ _ _ _ _ _ _).mono ?_; rintro e w3 ⟨v3, rfl, hR, hb⟩; have H2 := Aside0.mk (H1.out.below hb); obtain ⟨A3, c3, rfl, hc3, hC3⟩ := Kd.R_reads hR; have HC3 := Aside0.mk hC3; have hz1 := blk_cell H2.out.box 0; clear hb hR hC3 hz0 hy0 hy1 hy2 hy3 hy4 hy5 hy6)
              | (go_at_call 49; refine (containsOdd_calls w.heap.size c.cells A3 _ _ _ (blk_cell H2.out.box 0) HC3.out (by exact Nat.le_trans (uses_len _ _ _ _) (by omega))).mono ?_; rintro e w4 ⟨rfl, rfl⟩))
            go_ret
            exact ⟨by rw [fits_at hlt (by rw [HK.out]; exact HO.out)]; rfl, Fs.bel H1.out⟩
        · replace hod : oddB c.cells dst = false := by simpa using hod
          have hd1 : decide (dst < -1) = false := decide_eq_false (by simp [oddB] at hod; omega)
          have hd2 : decide (c.cells ≤ dst) = false := decide_eq_false (by simp [oddB] at hod; omega)
          by_cases hu : (uses op a b cc).any (oddB c.cells) = true
          · have HO := Aside0.mk (show okIr c ⟨op, dst, a, b, cc, n, m⟩ = false from by simp only [okIr, hu]; simp)
            clear hw hj
            rcases hW with h | h | h | h | h | h <;> subst h
            all_goals
              go_wp2_with (first
                | (go_at_call 22; refine (defs_calls' HD.out _).mono ?_; rintro e w1 ⟨rfl, hb⟩; have H1 := Aside0.mk ((HP.out.alloc _).below hb); have hxb := blk_below (blk_new wr _) hb; have hy0 := blk_cell hxb 0; have hy1 := blk_cell hxb 1; have hy2 := blk_cell hxb 2; have hy3 := blk_cell hxb 3; have hy4 := blk_cell hxb 4; have hy5 := blk_cell hxb 5; have hy6 := blk_cell hxb 6; have hz0 := blk_cell H1.out.box 0; clear hb HP hxb)
                | (go_at_call 48; refine (odd_calls w.heap.size c.cells _ _ (blk_cell H1.out.box 0)).mono ?_; rintro e w2 ⟨rfl, rfl⟩)
                | ((with_reducible refine gate_ (.lookup 64 (.tmp 66) (.tmp 68) false) rfl ?_); refine wp_look _ rfl (.tmp 66) (.tmp 68) 64 rfl 3 3 Try.underlying64 Try.underlying3 (0 : Int) (zeroInt _) _ _ rfl H1.out.maps.m2 _ rfl (cnt c.body n c.body.length : Int) (labs_many _ _ _) ?_)
                | (go_at_call 23; refine (uses_calls _ _ _ _ _ _ _ _).mono ?_; rintro e w3 ⟨v3, rfl, hR, hb⟩; have H2 := Aside0.mk (H1.out.below hb); obtain ⟨A3, c3, rfl, hc3, hC3⟩ := Kd.R_reads hR; have HC3 := Aside0.mk hC3; have hz1 := blk_cell H2.out.box 0; clear hb hR hC3 hz0 hy0 hy1 hy2 hy3 hy4 hy5 hy6)
                | (go_at_call 49; refine (containsOdd_calls w.heap.size c.cells A3 _ _ _ (blk_cell H2.out.box 0) HC3.out (by exact Nat.le_trans (uses_len _ _ _ _) (by omega))).mono ?_; rintro e w4 ⟨rfl, rfl⟩))
              go_ret
              exact ⟨by rw [fits_at hlt (by rw [HK.out]; exact HO.out)]; rfl, Fs.bel H2.out⟩
          · replace hu : (uses op a b cc).any (oddB c.cells) = false := by simpa using hu
            have HO := Aside0.mk (show okIr c ⟨op, dst, a, b, cc, n, m⟩ = true from by simp only [okIr, hu, HD.out, hod, hw, hj, hd1, show decide (dst ≥ c.cells) = false from hd2]; rfl)
            clear hw hj
            rcases hW with h | h | h | h | h | h <;> subst h
            all_goals
              go_wp2_with (first
                | (go_at_call 22; refine (defs_calls' HD.out _).mono ?_; rintro e w1 ⟨rfl, hb⟩; have H1 := Aside0.mk ((HP.out.alloc _).below hb); have hxb := blk_below (blk_new wr _) hb; have hy0 := blk_cell hxb 0; have hy1 := blk_cell hxb 1; have hy2 := blk_cell hxb 2; have hy3 := blk_cell hxb 3; have hy4 := blk_cell hxb 4; have hy5 := blk_cell hxb 5; have hy6 := blk_cell hxb 6; have hz0 := blk_cell H1.out.box 0; clear hb HP hxb)
                | (go_at_call 48; refine (odd_calls w.heap.size c.cells _ _ (blk_cell H1.out.box 0)).mono ?_; rintro e w2 ⟨rfl, rfl⟩)
                | ((with_reducible refine gate_ (.lookup 64 (.tmp 66) (.tmp 68) false) rfl ?_); refine wp_look _ rfl (.tmp 66) (.tmp 68) 64 rfl 3 3 Try.underlying64 Try.underlying3 (0 : Int) (zeroInt _) _ _ rfl H1.out.maps.m2 _ rfl (cnt c.body n c.body.length : Int) (labs_many _ _ _) ?_)
                | (go_at_call 23; refine (uses_calls _ _ _ _ _ _ _ _).mono ?_; rintro e w3 ⟨v3, rfl, hR, hb⟩; have H2 := Aside0.mk (H1.out.below hb); obtain ⟨A3, c3, rfl, hc3, hC3⟩ := Kd.R_reads hR; have HC3 := Aside0.mk hC3; have hz1 := blk_cell H2.out.box 0; clear hb hR hC3 hz0 hy0 hy1 hy2 hy3 hy4 hy5 hy6)
                | (go_at_call 49; refine (containsOdd_calls w.heap.size c.cells A3 _ _ _ (blk_cell H2.out.box 0) HC3.out (by exact Nat.le_trans (uses_len _ _ _ _) (by omega))).mono ?_; rintro e w4 ⟨rfl, rfl⟩))
              go_roundw
              case rel => exact ⟨k + 1, by omega, by go_num, ⟨HR.out.next (by rw [HK.out]; exact HO.out)⟩, H2⟩
              case measure => simp [intOf]; omega
      by_cases hJ : op = 10 ∨ op = 11 ∨ op = 12
      · have HD := Aside0.mk (show defs ⟨op, dst, a, b, cc, n, m⟩ = -1 from if_neg (show ¬ (op = 1 ∨ op = 2 ∨ op = 3 ∨ op = 4 ∨ op = 5 ∨ op = 7 ∨ op = 14) from by omega))
        have hw : isW op = false := by simp [isW]; omega
        have hj : isJ op = true := by simp [isJ]; omega
        have hg6 : decide ((-1 : Int) ≥ c.cells) = false := g6
        clear hW
        by_cases hm : cnt c.body n c.body.length = 1
        · have hmb : (((cnt c.body n c.body.length : Nat) : Int) != 1) = false := by rw [hm]; rfl
          by_cases hu : (uses op a b cc).any (oddB c.cells) = true
          · have HO := Aside0.mk (show okIr c ⟨op, dst, a, b, cc, n, m⟩ = false from by simp only [okIr, hu]; simp)
            clear hw hj hm hg6
            rcases hJ with h | h | h <;> subst h
            all_goals
              go_wp2_with (first
                | (go_at_call 22; refine (defs_calls' HD.out _).mono ?_; rintro e w1 ⟨rfl, hb⟩; have H1 := Aside0.mk ((HP.out.alloc _).below hb); have hxb := blk_below (blk_new wr _) hb; have hy0 := blk_cell hxb 0; have hy1 := blk_cell hxb 1; have hy2 := blk_cell hxb 2; have hy3 := blk_cell hxb 3; have hy4 := blk_cell hxb 4; have hy5 := blk_cell hxb 5; have hy6 := blk_cell hxb 6; have hz0 := blk_cell H1.out.box 0; clear hb HP hxb)
                | (go_at_call 48; refine (odd_calls w.heap.size c.cells _ _ (blk_cell H1.out.box 0)).mono ?_; rintro e w2 ⟨rfl, rfl⟩)
                | ((with_reducible refine gate_ (.lookup 64 (.tmp 66) (.tmp 68) false) rfl ?_); refine wp_look _ rfl (.tmp 66) (.tmp 68) 64 rfl 3 3 Try.underlying64 Try.underlying3 (0 : Int) (zeroInt _) _ _ rfl H1.out.maps.m2 _ rfl (cnt c.body n c.body.length : Int) (labs_many _ _ _) ?_)
                | (go_at_call 23; refine (uses_calls _ _ _ _ _ _ _ _).mono ?_; rintro e w3 ⟨v3, rfl, hR, hb⟩; have H2 := Aside0.mk (H1.out.below hb); obtain ⟨A3, c3, rfl, hc3, hC3⟩ := Kd.R_reads hR; have HC3 := Aside0.mk hC3; have hz1 := blk_cell H2.out.box 0; clear hb hR hC3 hz0 hy0 hy1 hy2 hy3 hy4 hy5 hy6)
                | (go_at_call 49; refine (containsOdd_calls w.heap.size c.cells A3 _ _ _ (blk_cell H2.out.box 0) HC3.out (by exact Nat.le_trans (uses_len _ _ _ _) (by omega))).mono ?_; rintro e w4 ⟨rfl, rfl⟩))
              go_ret
              exact ⟨by rw [fits_at hlt (by rw [HK.out]; exact HO.out)]; rfl, Fs.bel H2.out⟩
          · replace hu : (uses op a b cc).any (oddB c.cells) = false := by simpa using hu
            have HO := Aside0.mk (show okIr c ⟨op, dst, a, b, cc, n, m⟩ = true from by simp only [okIr, hu, HD.out, hw, hj, hm, hg6]; rfl)
            clear hw hj hm hg6
            rcases hJ with h | h | h <;> subst h
            all_goals
              go_wp2_with (first
                | (go_at_call 22; refine (defs_calls' HD.out _).mono ?_; rintro e w1 ⟨rfl, hb⟩; have H1 := Aside0.mk ((HP.out.alloc _).below hb); have hxb := blk_below (blk_new wr _) hb; have hy0 := blk_cell hxb 0; have hy1 := blk_cell hxb 1; have hy2 := blk_cell hxb 2; have hy3 := blk_cell hxb 3; have hy4 := blk_cell hxb 4; have hy5 := blk_cell hxb 5; have hy6 := blk_cell hxb 6; have hz0 := blk_cell H1.out.box 0; clear hb HP hxb)
                | (go_at_call 48; refine (odd_calls w.heap.size c.cells _ _ (blk_cell H1.out.box 0)).mono ?_; rintro e w2 ⟨rfl, rfl⟩)
                | ((with_reducible refine gate_ (.lookup 64 (.tmp 66) (.tmp 68) false) rfl ?_); refine wp_look _ rfl (.tmp 66) (.tmp 68) 64 rfl 3 3 Try.underlying64 Try.underlying3 (0 : Int) (zeroInt _) _ _ rfl H1.out.maps.m2 _ rfl (cnt c.body n c.body.length : Int) (labs_many _ _ _) ?_)
                | (go_at_call 23; refine (uses_calls _ _ _ _ _ _ _ _).mono ?_; rintro e w3 ⟨v3, rfl, hR, hb⟩; have H2 := Aside0.mk (H1.out.below hb); obtain ⟨A3, c3, rfl, hc3, hC3⟩ := Kd.R_reads hR; have HC3 := Aside0.mk hC3; have hz1 := blk_cell H2.out.box 0; clear hb hR hC3 hz0 hy0 hy1 hy2 hy3 hy4 hy5 hy6)
                | (go_at_call 49; refine (containsOdd_calls w.heap.size c.cells A3 _ _ _ (blk_cell H2.out.box 0) HC3.out (by exact Nat.le_trans (uses_len _ _ _ _) (by omega))).mono ?_; rintro e w4 ⟨rfl, rfl⟩))
              go_roundw
              case rel => exact ⟨k + 1, by omega, by go_num, ⟨HR.out.next (by rw [HK.out]; exact HO.out)⟩, H2⟩
              case measure => simp [intOf]; omega
        · have hmb : (((cnt c.body n c.body.length : Nat) : Int) != 1) = true := by simp; omega
          have HO := Aside0.mk (show okIr c ⟨op, dst, a, b, cc, n, m⟩ = false from by simp [okIr, hj, hm])
          clear hw hj hm hg6
          rcases hJ with h | h | h <;> subst h
          all_goals
            go_wp2_with (first
              | (go_at_call 22; refine (defs_calls' HD.out _).mono ?_; rintro e w1 ⟨rfl, hb⟩; have H1 := Aside0.mk ((HP.out.alloc _).below hb); have hxb := blk_below (blk_new wr _) hb; have hy0 := blk_cell hxb 0; have hy1 := blk_cell hxb 1; have hy2 := blk_cell hxb 2; have hy3 := blk_cell hxb 3; have hy4 := blk_cell hxb 4; have hy5 := blk_cell hxb 5; have hy6 := blk_cell hxb 6; have hz0 := blk_cell H1.out.box 0; clear hb HP hxb)
              | (go_at_call 48; refine (odd_calls w.heap.size c.cells _ _ (blk_cell H1.out.box 0)).mono ?_; rintro e w2 ⟨rfl, rfl⟩)
              | ((with_reducible refine gate_ (.lookup 64 (.tmp 66) (.tmp 68) false) rfl ?_); refine wp_look _ rfl (.tmp 66) (.tmp 68) 64 rfl 3 3 Try.underlying64 Try.underlying3 (0 : Int) (zeroInt _) _ _ rfl H1.out.maps.m2 _ rfl (cnt c.body n c.body.length : Int) (labs_many _ _ _) ?_)
              | (go_at_call 23; refine (uses_calls _ _ _ _ _ _ _ _).mono ?_; rintro e w3 ⟨v3, rfl, hR, hb⟩; have H2 := Aside0.mk (H1.out.below hb); obtain ⟨A3, c3, rfl, hc3, hC3⟩ := Kd.R_reads hR; have HC3 := Aside0.mk hC3; have hz1 := blk_cell H2.out.box 0; clear hb hR hC3 hz0 hy0 hy1 hy2 hy3 hy4 hy5 hy6)
              | (go_at_call 49; refine (containsOdd_calls w.heap.size c.cells A3 _ _ _ (blk_cell H2.out.box 0) HC3.out (by exact Nat.le_trans (uses_len _ _ _ _) (by omega))).mono ?_; rintro e w4 ⟨rfl, rfl⟩))
            go_ret
            exact ⟨by rw [fits_at hlt (by rw [HK.out]; exact HO.out)]; rfl, Fs.bel H1.out⟩
      have hw : isW op = false := by simp [isW]; omega
      have hj : isJ op = false := by simp [isJ]; omega
      have t1 : (op == 1) = false := by simp; omega
      have t2 : (op == 2) = false := by simp; omega
      have t3 : (op == 3) = false := by simp; omega
      have t4 : (op == 4) = false := by simp; omega
      have t5 : (op == 5) = false := by simp; omega
      have t7 : (op == 7) = false := by simp; omega
      have t10 : (op == 10) = false := by simp; omega
      have t11 : (op == 11) = false := by simp; omega
      have t12 : (op == 12) = false := by simp; omega
      obtain ⟨d, hd⟩ : ∃ d, defs ⟨op, dst, a, b, cc, n, m⟩ = d := ⟨_, rfl⟩
      have HD := Aside0.mk hd
      clear hW hJ hd
      by_cases h1 : d < -1
      · have hd1 : decide (d < -1) = true := decide_eq_true h1
        have HO := Aside0.mk (show okIr c ⟨op, dst, a, b, cc, n, m⟩ = false from by simp [okIr, HD.out, h1])
        clear hw hj h1
        go_wp2_with (first
          | (go_at_call 22; refine (defs_calls' HD.out _).mono ?_; rintro e w1 ⟨rfl, hb⟩; have H1 := Aside0.mk ((HP.out.alloc _).below hb); have hxb := blk_below (blk_new wr _) hb; have hy0 := blk_cell hxb 0; have hy1 := blk_cell hxb 1; have hy2 := blk_cell hxb 2; have hy3 := blk_cell hxb 3; have hy4 := blk_cell hxb 4; have hy5 := blk_cell hxb 5; have hy6 := blk_cell hxb 6; have hz0 := blk_cell H1.out.box 0; clear hb HP hxb)
          | (go_at_call 48; refine (odd_calls w.heap.size c.cells _ _ (blk_cell H1.out.box 0)).mono ?_; rintro e w2 ⟨rfl, rfl⟩)
          | ((with_reducible refine gate_ (.lookup 64 (.tmp 66) (.tmp 68) false) rfl ?_); refine wp_look _ rfl (.tmp 66) (.tmp 68) 64 rfl 3 3 Try.underlying64 Try.underlying3 (0 : Int) (zeroInt _) _ _ rfl H1.out.maps.m2 _ rfl (cnt c.body n c.body.length : Int) (labs_many _ _ _) ?_)
          | (go_at_call 23; refine (uses_calls _ _ _ _ _ _ _ _).mono ?_; rintro e w3 ⟨v3, rfl, hR, hb⟩; have H2 := Aside0.mk (H1.out.below hb); obtain ⟨A3, c3, rfl, hc3, hC3⟩ := Kd.R_reads hR; have HC3 := Aside0.mk hC3; have hz1 := blk_cell H2.out.box 0; clear hb hR hC3 hz0 hy0 hy1 hy2 hy3 hy4 hy5 hy6)
          | (go_at_call 49; refine (containsOdd_calls w.heap.size c.cells A3 _ _ _ (blk_cell H2.out.box 0) HC3.out (by exact Nat.le_trans (uses_len _ _ _ _) (by omega))).mono ?_; rintro e w4 ⟨rfl, rfl⟩))
        go_ret
        exact ⟨by rw [fits_at hlt (by rw [HK.out]; exact HO.out)]; rfl, Fs.bel H1.out⟩
      have hd1 : decide (d < -1) = false := decide_eq_false h1
      by_cases h2 : d ≥ c.cells
      · have hd2 : decide (c.cells ≤ d) = true := decide_eq_true h2
        have HO := Aside0.mk (show okIr c ⟨op, dst, a, b, cc, n, m⟩ = false from by simp [okIr, HD.out, h2])
        clear hw hj h1 h2
        go_wp2_with (first
          | (go_at_call 22; refine (defs_calls' HD.out _).mono ?_; rintro e w1 ⟨rfl, hb⟩; have H1 := Aside0.mk ((HP.out.alloc _).below hb); have hxb := blk_below (blk_new wr _) hb; have hy0 := blk_cell hxb 0; have hy1 := blk_cell hxb 1; have hy2 := blk_cell hxb 2; have hy3 := blk_cell hxb 3; have hy4 := blk_cell hxb 4; have hy5 := blk_cell hxb 5; have hy6 := blk_cell hxb 6; have hz0 := blk_cell H1.out.box 0; clear hb HP hxb)
          | (go_at_call 48; refine (odd_calls w.heap.size c.cells _ _ (blk_cell H1.out.box 0)).mono ?_; rintro e w2 ⟨rfl, rfl⟩)
          | ((with_reducible refine gate_ (.lookup 64 (.tmp 66) (.tmp 68) false) rfl ?_); refine wp_look _ rfl (.tmp 66) (.tmp 68) 64 rfl 3 3 Try.underlying64 Try.underlying3 (0 : Int) (zeroInt _) _ _ rfl H1.out.maps.m2 _ rfl (cnt c.body n c.body.length : Int) (labs_many _ _ _) ?_)
          | (go_at_call 23; refine (uses_calls _ _ _ _ _ _ _ _).mono ?_; rintro e w3 ⟨v3, rfl, hR, hb⟩; have H2 := Aside0.mk (H1.out.below hb); obtain ⟨A3, c3, rfl, hc3, hC3⟩ := Kd.R_reads hR; have HC3 := Aside0.mk hC3; have hz1 := blk_cell H2.out.box 0; clear hb hR hC3 hz0 hy0 hy1 hy2 hy3 hy4 hy5 hy6)
          | (go_at_call 49; refine (containsOdd_calls w.heap.size c.cells A3 _ _ _ (blk_cell H2.out.box 0) HC3.out (by exact Nat.le_trans (uses_len _ _ _ _) (by omega))).mono ?_; rintro e w4 ⟨rfl, rfl⟩))
        go_ret
        exact ⟨by rw [fits_at hlt (by rw [HK.out]; exact HO.out)]; rfl, Fs.bel H1.out⟩
      have hd2 : decide (c.cells ≤ d) = false := decide_eq_false h2
      clear h1 h2
      by_cases hu : (uses op a b cc).any (oddB c.cells) = true
      · have HO := Aside0.mk (show okIr c ⟨op, dst, a, b, cc, n, m⟩ = false from by simp only [okIr, hu]; simp)
        clear hw hj
        go_wp2_with (first
          | (go_at_call 22; refine (defs_calls' HD.out _).mono ?_; rintro e w1 ⟨rfl, hb⟩; have H1 := Aside0.mk ((HP.out.alloc _).below hb); have hxb := blk_below (blk_new wr _) hb; have hy0 := blk_cell hxb 0; have hy1 := blk_cell hxb 1; have hy2 := blk_cell hxb 2; have hy3 := blk_cell hxb 3; have hy4 := blk_cell hxb 4; have hy5 := blk_cell hxb 5; have hy6 := blk_cell hxb 6; have hz0 := blk_cell H1.out.box 0; clear hb HP hxb)
          | (go_at_call 48; refine (odd_calls w.heap.size c.cells _ _ (blk_cell H1.out.box 0)).mono ?_; rintro e w2 ⟨rfl, rfl⟩)
          | ((with_reducible refine gate_ (.lookup 64 (.tmp 66) (.tmp 68) false) rfl ?_); refine wp_look _ rfl (.tmp 66) (.tmp 68) 64 rfl 3 3 Try.underlying64 Try.underlying3 (0 : Int) (zeroInt _) _ _ rfl H1.out.maps.m2 _ rfl (cnt c.body n c.body.length : Int) (labs_many _ _ _) ?_)
          | (go_at_call 23; refine (uses_calls _ _ _ _ _ _ _ _).mono ?_; rintro e w3 ⟨v3, rfl, hR, hb⟩; have H2 := Aside0.mk (H1.out.below hb); obtain ⟨A3, c3, rfl, hc3, hC3⟩ := Kd.R_reads hR; have HC3 := Aside0.mk hC3; have hz1 := blk_cell H2.out.box 0; clear hb hR hC3 hz0 hy0 hy1 hy2 hy3 hy4 hy5 hy6)
          | (go_at_call 49; refine (containsOdd_calls w.heap.size c.cells A3 _ _ _ (blk_cell H2.out.box 0) HC3.out (by exact Nat.le_trans (uses_len _ _ _ _) (by omega))).mono ?_; rintro e w4 ⟨rfl, rfl⟩))
        go_ret
        exact ⟨by rw [fits_at hlt (by rw [HK.out]; exact HO.out)]; rfl, Fs.bel H2.out⟩
      · replace hu : (uses op a b cc).any (oddB c.cells) = false := by simpa using hu
        have HO := Aside0.mk (show okIr c ⟨op, dst, a, b, cc, n, m⟩ = true from by simp only [okIr, hu, HD.out, hw, hj, hd1, show decide (d ≥ c.cells) = false from hd2]; rfl)
        clear hw hj
        go_wp2_with (first
          | (go_at_call 22; refine (defs_calls' HD.out _).mono ?_; rintro e w1 ⟨rfl, hb⟩; have H1 := Aside0.mk ((HP.out.alloc _).below hb); have hxb := blk_below (blk_new wr _) hb; have hy0 := blk_cell hxb 0; have hy1 := blk_cell hxb 1; have hy2 := blk_cell hxb 2; have hy3 := blk_cell hxb 3; have hy4 := blk_cell hxb 4; have hy5 := blk_cell hxb 5; have hy6 := blk_cell hxb 6; have hz0 := blk_cell H1.out.box 0; clear hb HP hxb)
          | (go_at_call 48; refine (odd_calls w.heap.size c.cells _ _ (blk_cell H1.out.box 0)).mono ?_; rintro e w2 ⟨rfl, rfl⟩)
          | ((with_reducible refine gate_ (.lookup 64 (.tmp 66) (.tmp 68) false) rfl ?_); refine wp_look _ rfl (.tmp 66) (.tmp 68) 64 rfl 3 3 Try.underlying64 Try.underlying3 (0 : Int) (zeroInt _) _ _ rfl H1.out.maps.m2 _ rfl (cnt c.body n c.body.length : Int) (labs_many _ _ _) ?_)
          | (go_at_call 23; refine (uses_calls _ _ _ _ _ _ _ _).mono ?_; rintro e w3 ⟨v3, rfl, hR, hb⟩; have H2 := Aside0.mk (H1.out.below hb); obtain ⟨A3, c3, rfl, hc3, hC3⟩ := Kd.R_reads hR; have HC3 := Aside0.mk hC3; have hz1 := blk_cell H2.out.box 0; clear hb hR hC3 hz0 hy0 hy1 hy2 hy3 hy4 hy5 hy6)
          | (go_at_call 49; refine (containsOdd_calls w.heap.size c.cells A3 _ _ _ (blk_cell H2.out.box 0) HC3.out (by exact Nat.le_trans (uses_len _ _ _ _) (by omega))).mono ?_; rintro e w4 ⟨rfl, rfl⟩))
        go_roundw
        case rel => exact ⟨k + 1, by omega, by go_num, ⟨HR.out.next (by rw [HK.out]; exact HO.out)⟩, H2⟩
        case measure => simp [intOf]; omega
    · have hk2 : k = c.body.length := by omega
      have hlt2 : decide ((k : Int) < (c.body.length : Int)) = false := decide_eq_false (by omega)
      go_wp2_with fail
      go_ret
      subst hk2
      exact ⟨by rw [fits_all HH.out HR.out]; rfl, HP.out.bel⟩
end Go.Proofs.Ytdcmeefeinppnaa.Live
