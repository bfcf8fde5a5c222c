/- The reference's Fits. -/
import Derived.Test.YtdcmeefeinppnaaRDefs
import Derived.Test.YtdcmeefeinppnaaRUses
namespace Go.Proofs.Ytdcmeefeinppnaa.Live
open Go.RowKit Go.Proofs.YtdcmeefeinppnaaW.PrintWords Go.Proofs.YtdcmeefeinppnaaW.PrintLast Go.Proofs.Ytdcmeefeinppnaa.Mem Go.Proofs.Ytdcmeefeinppnaa.Ir
open Uses (uses)
set_option linter.unusedVariables false
set_option linter.unusedSimpArgs false

theorem writes_calls (op : Int) (w : World) : Calls Try.prog 50 #[.int .i64 op] w fun e w' => e = .returned (.bool (isW op)) ∧ w = w' := by
  by_cases h : op = 1 ∨ op = 2 ∨ op = 3 ∨ op = 4 ∨ op = 5 ∨ op = 7
  · rcases h with h | h | h | h | h | h <;> subst h
    all_goals
      go_enter Try.func50, Try.ntmps50
      go_wp2_with fail
      go_ret
      exact ⟨rfl, rfl⟩
  · have hd : isW op = false := by simp [isW]; omega
    rw [hd]
    clear hd
    have h1 : (op == 1) = false := by simp; omega
    have h2 : (op == 2) = false := by simp; omega
    have h3 : (op == 3) = false := by simp; omega
    have h4 : (op == 4) = false := by simp; omega
    have h5 : (op == 5) = false := by simp; omega
    have h7 : (op == 7) = false := by simp; omega
    clear h
    go_enter Try.func50, Try.ntmps50
    go_wp2_with fail
    go_ret
    exact ⟨rfl, rfl⟩
theorem jump_calls (op : Int) (w : World) : Calls Try.prog 51 #[.int .i64 op] w fun e w' => e = .returned (.bool (isJ op)) ∧ w = w' := by
  by_cases h : op = 10 ∨ op = 11 ∨ op = 12
  · rcases h with h | h | h <;> subst h
    all_goals
      go_enter Try.func51, Try.ntmps51
      go_wp2_with fail
      go_ret
      exact ⟨rfl, rfl⟩
  · have hd : isJ op = false := by simp [isJ]; omega
    rw [hd]
    clear hd
    have h1 : (op == 10) = false := by simp; omega
    have h2 : (op == 11) = false := by simp; omega
    have h3 : (op == 12) = false := by simp; omega
    clear h
    go_enter Try.func51, Try.ntmps51
    go_wp2_with fail
    go_ret
    exact ⟨rfl, rfl⟩
theorem writes_calls' {op : Int} {b : Bool} (h : isW op = b) (w : World) : Calls Try.prog 50 #[.int .i64 op] w fun e w' => e = .returned (.bool b) ∧ w = w' := h ▸ writes_calls op w
theorem jump_calls' {op : Int} {b : Bool} (h : isJ op = b) (w : World) : Calls Try.prog 51 #[.int .i64 op] w fun e w' => e = .returned (.bool b) ∧ w = w' := h ▸ jump_calls op w

theorem rfits_no (c : Cod) (A : Option Addr) (cap : Nat) (w : World) (hC : CodeAt w c A cap) (h : headOk c = false) : Calls Try.prog 21 #[.agg (c.vals A cap)] w (FitsOut w false) := by
  have HB := Aside0.mk ((Below.refl w.heap.size w).alloc (Nat.le_refl _) (.cells (c.vals A cap) 24))
  have hs := hC.small
  clear hC
  have HH : c.cells < 0 ∨ (¬ c.cells < 0 ∧ c.cells > 60) ∨ (¬ c.cells < 0 ∧ ¬ c.cells > 60 ∧ c.params < 0) ∨ (¬ c.cells < 0 ∧ ¬ c.cells > 60 ∧ ¬ c.params < 0 ∧ c.params > c.cells) ∨ (¬ c.cells < 0 ∧ ¬ c.cells > 60 ∧ ¬ c.params < 0 ∧ ¬ c.params > c.cells ∧ c.body.length > 1000) := by
    simp [headOk] at h; omega
  clear h
  rcases HH with h1 | ⟨h1, h2⟩ | ⟨h1, h2, h3⟩ | ⟨h1, h2, h3, h4⟩ | ⟨h1, h2, h3, h4, h5⟩
  · have g1 := decide_eq_true h1
    clear h1
    go_enter Try.func21, Try.ntmps21
    go_wp2_with fail
    go_ret
    exact ⟨rfl, HB.out⟩
  · have g1 := decide_eq_false h1
    have g2 : decide (60 < c.cells) = true := decide_eq_true h2
    clear h1 h2
    go_enter Try.func21, Try.ntmps21
    go_wp2_with fail
    go_ret
    exact ⟨rfl, HB.out⟩
  · have g1 := decide_eq_false h1
    have g2 : decide (60 < c.cells) = false := decide_eq_false h2
    have g3 := decide_eq_true h3
    clear h1 h2 h3
    go_enter Try.func21, Try.ntmps21
    go_wp2_with fail
    go_ret
    exact ⟨rfl, HB.out⟩
  · have g1 := decide_eq_false h1
    have g2 : decide (60 < c.cells) = false := decide_eq_false h2
    have g3 := decide_eq_false h3
    have g4 : decide (c.cells < c.params) = true := decide_eq_true h4
    clear h1 h2 h3 h4
    go_enter Try.func21, Try.ntmps21
    go_wp2_with fail
    go_ret
    exact ⟨rfl, HB.out⟩
  · have g1 := decide_eq_false h1
    have g2 : decide (60 < c.cells) = false := decide_eq_false h2
    have g3 := decide_eq_false h3
    have g4 : decide (c.cells < c.params) = false := decide_eq_false h4
    have g5 : decide (1000 < (c.body.length : Int)) = true := decide_eq_true (by omega)
    clear h1 h2 h3 h4 h5
    go_enter Try.func21, Try.ntmps21
    go_wp2_with fail
    go_ret
    exact ⟨rfl, HB.out⟩


/-- the code's box; the instruction's; the row of what it reads -/
structure Rx (w W : World) (c : Cod) (A : Option Addr) (cap bx : Nat) (x : Ir) (U : Option Addr) (us : List Int) : Prop where
  f : Rf w W c A cap
  xb : W.heap[bx]? = some (.cells x.vals 38 (0, 0))
  us : (Kd.int .i64).C W U us.length us
theorem Rx.below {w W W1 : World} {c : Cod} {A : Option Addr} {cap bx : Nat} {x : Ir} {U : Option Addr} {us : List Int} (h : Rx w W c A cap bx x U us) (hb : Below W.heap.size W W1) : Rx w W1 c A cap bx x U us :=
  ⟨h.f.below hb, blk_below h.xb hb, Kd.C_below h.us hb⟩
theorem Rx.drewN {w W : World} {c : Cod} {A : Option Addr} {cap bx : Nat} {x : Ir} {U : Option Addr} {us : List Int} (h : Rx w W c A cap bx x U us) (n : Nat) : Rx w (W.drewN n) c A cap bx x U us := h.below (pw_below_drewN (Below.refl _ _) n)

theorem okIr_use_false {c : Cod} {x : Ir} {k : Int} (hm : k ∈ uses x.op x.a x.b x.c) (h : oddB c.cells k = true) : okIr c x = false := by
  unfold okIr
  have : (uses x.op x.a x.b x.c).any (oddB c.cells) = true := List.any_eq_true.2 ⟨k, hm, h⟩
  rw [this]; simp
theorem okIr_all {c : Cod} {x : Ir} (hu : ∀ q : Nat, q < (uses x.op x.a x.b x.c).length → oddB c.cells (rd (uses x.op x.a x.b x.c) (q : Int)) = false) (h1 : ¬ c.cells ≤ defs x) (h2 : ¬ defs x < -1) (h3 : ¬ (defs x = -1 ∧ isW x.op = true)) (h4 : isJ x.op = true → cnt c.body x.n c.body.length = 1) : okIr c x = true := by
  have hu' : (uses x.op x.a x.b x.c).any (oddB c.cells) = false := by
    rw [List.any_eq_false]
    intro y hy
    obtain ⟨q, hq, rfl⟩ := List.mem_iff_getElem.1 hy
    have := hu q hq
    rw [Ins.rd_get _ q hq] at this
    rw [this]; simp
  unfold okIr
  rw [hu']
  have e1 : (isW x.op && oddB c.cells (defs x)) = false := by
    rw [Bool.and_eq_false_iff]
    by_cases hw : isW x.op = true
    · right
      have : defs x ≠ -1 := fun e => h3 ⟨e, hw⟩
      unfold oddB
      simp; omega
    · left; simpa using hw
  have e2 : (isJ x.op && decide (cnt c.body x.n c.body.length ≠ 1)) = false := by
    rw [Bool.and_eq_false_iff]
    by_cases hj : isJ x.op = true
    · right; rw [h4 hj]; simp
    · left; simpa using hj
  rw [e1, e2]
  simp; omega

set_option maxHeartbeats 4000000 in
set_option maxRecDepth 100000 in
theorem rfits_calls (c : Cod) (A : Option Addr) (cap : Nat) (w : World) (hC : CodeAt w c A cap) : Calls Try.prog 21 #[.agg (c.vals A cap)] w (FitsOut w (fits c)) := by
  by_cases hh : headOk c = false
  · have : fits c = false := by unfold fits; rw [hh]; rfl
    rw [this]; exact rfits_no c A cap w hC hh
  replace hh : headOk c = true := by simpa using hh
  have hcells : 0 ≤ c.cells ∧ c.cells ≤ 60 ∧ 0 ≤ c.params ∧ c.params ≤ c.cells ∧ c.body.length ≤ 1000 := by simp [headOk] at hh; omega
  have g1 : decide (c.cells < 0) = false := decide_eq_false (by omega)
  have g2 : decide (60 < c.cells) = false := decide_eq_false (by omega)
  have g3 : decide (c.params < 0) = false := decide_eq_false (by omega)
  have g4 : decide (c.cells < c.params) = false := decide_eq_false (by omega)
  have g5 : decide (1000 < (c.body.length : Int)) = false := decide_eq_false (by omega)
  have HH := Aside0.mk hh
  have HP := Aside0.mk (Rf.init hC)
  have hn : c.body.length ≤ 1000 := hcells.2.2.2.2
  have hc0 : 0 ≤ c.cells := hcells.1
  clear hh hC hcells
  go_enter Try.func21, Try.ntmps21
  go_wp2_with fail
  clear g1 g2 g3 g4 g5
  go_loopw [3] (fun i wr => ∃ k : Nat, k ≤ c.body.length ∧ i = .int .i64 k ∧ Aside0 (Rd c k) ∧ Aside0 (Rf w wr c A cap)) (fun i _ => c.body.length - (intOf i).toNat)
  case atStart => exact ⟨0, Nat.zero_le _, rfl, ⟨⟨fun j hj => by omega⟩⟩, HP⟩
  case round =>
    obtain ⟨k, hk, rfl, HR, HP1⟩ := hrel
    clear HP
    have hb2 := blk_cell HP1.out.box 2
    by_cases hlt : k < c.body.length
    · obtain ⟨ad, e, hx0, hx1, hx2, hx3, hx4, hx5, hx6⟩ := at_ir HP1.out.code.row k hlt
      subst e
      obtain ⟨x, hx⟩ : ∃ x, atIr c.body k = x := ⟨_, rfl⟩
      rw [hx] at hx0 hx1 hx2 hx3 hx4 hx5 hx6
      have HX := Aside0.mk hx
      clear hx
      obtain ⟨op, dst, a, b, cc, n, m⟩ := x
      have hul := uses_len op a b cc
      obtain ⟨us, hus⟩ : ∃ us, uses op a b cc = us := ⟨_, rfl⟩
      rw [hus] at hul
      have HUS := Aside0.mk hus
      obtain ⟨d, hd⟩ : ∃ d, defs ⟨op, dst, a, b, cc, n, m⟩ = d := ⟨_, rfl⟩
      have HD := Aside0.mk hd
      clear hus hd
      go_wp2_with (go_at_call 44; refine (ruses_calls _ _ _ _ _ _ _ _).mono ?_; rw [HUS.out]; rintro e w3 ⟨v3, rfl, hR, hb⟩; obtain ⟨U, cU, rfl, hcU, hCU⟩ := Kd.R_reads hR; have HX2 := Aside0.mk (show Rx w w3 c (some ad) cap wr.heap.size ⟨op, dst, a, b, cc, n, m⟩ U us from ⟨(HP1.out.alloc _).below hb, blk_below (blk_new wr (.cells #[.int .i64 op, .int .i64 dst, .int .i64 a, .int .i64 b, .int .i64 cc, .int .i64 n, .int .i64 m] 38)) hb, hCU⟩); clear hb hR hCU hx0 hx1 hx2 hx3 hx4 hx5 hx6 hb2 HP1)
      obtain ⟨bx, hbx⟩ : ∃ bx, wr.heap.size = bx := ⟨_, rfl⟩
      rw [hbx] at HX2 ⊢
      clear hbx
      go_loopw [6] (fun iv wq => ∃ q : Nat, q ≤ us.length ∧ iv = .int .i64 q ∧ Aside0 (∀ j : Nat, j < q → oddB c.cells (rd us (j : Int)) = false) ∧ Aside0 (Rx w wq c (some ad) cap bx ⟨op, dst, a, b, cc, n, m⟩ U us)) (fun iv _ => us.length - (intOf iv).toNat)
      case atStart => exact ⟨0, Nat.zero_le _, rfl, ⟨fun j hj => by omega⟩, HX2⟩
      case round =>
        obtain ⟨q, hq, rfl, HO, HX3⟩ := hrel
        clear HX2
        by_cases hql : q < us.length
        · obtain ⟨adw, e, hqc⟩ := Kd.at_int HX3.out.us (q : Int) (by omega) (by omega)
          subst e
          rw [Int.toNat_natCast] at hqc
          have hb0 := blk_cell HX3.out.f.box 0
          by_cases ho : oddB c.cells (rd us (q : Int)) = true
          · have HF : Aside0 (fits c = false) := ⟨fits_at hlt (by rw [HX.out]; exact okIr_use_false (k := rd us (q : Int)) (by rw [← HUS.out] at hql ⊢; exact rd_mem hql) ho)⟩
            by_cases hneg : rd us (q : Int) < 0
            · have hnb := decide_eq_true hneg
              clear ho hneg
              go_wp2_with fail
              go_quiet (fail)
              go_wp2_with fail
              go_ret
              exact ⟨by rw [HF.out]; rfl, (HX3.out.drewN _).f.bel⟩
            · have hnb := decide_eq_false hneg
              have hge : decide (c.cells ≤ rd us (q : Int)) = true := decide_eq_true (by simp [oddB] at ho; omega)
              clear ho hneg
              go_wp2_with fail
              go_quiet (fail)
              go_wp2_with fail
              go_ret
              exact ⟨by rw [HF.out]; rfl, (HX3.out.drewN _).f.bel⟩
          · replace ho : oddB c.cells (rd us (q : Int)) = false := by simpa using ho
            have HOQ := Aside0.mk ho
            have hnb : decide (rd us (q : Int) < 0) = false := decide_eq_false (by simp [oddB] at ho; omega)
            have hge : decide (c.cells ≤ rd us (q : Int)) = false := decide_eq_false (by simp [oddB] at ho; omega)
            clear ho
            go_wp2_with fail
            go_quiet (fail)
            go_wp2_with fail
            go_roundw
            case rel => exact ⟨q + 1, by omega, by go_num, ⟨fun j hj => by rcases Nat.lt_succ_iff_lt_or_eq.1 hj with h | rfl; exact HO.out j h; exact HOQ.out⟩, ⟨HX3.out.drewN _⟩⟩
            case measure => first | (simp [intOf]; done) | (simp [intOf]; omega)
        · have HO2 := Aside0.mk (show ∀ j : Nat, j < us.length → oddB c.cells (rd us (j : Int)) = false from fun j hj => HO.out j (by omega))
          clear HO
          have hx0 := blk_cell HX3.out.xb 0
          have hx1 := blk_cell HX3.out.xb 1
          have hx2 := blk_cell HX3.out.xb 2
          have hx3 := blk_cell HX3.out.xb 3
          have hx4 := blk_cell HX3.out.xb 4
          have hx5 := blk_cell HX3.out.xb 5
          have hx6 := blk_cell HX3.out.xb 6
          go_wp2_with fail
          refine (rdefs_calls' HD.out _).mono ?_
          rintro e w5 ⟨rfl, hb⟩
          have HX4 := Aside0.mk (HX3.out.below hb)
          clear hb hx0 hx1 hx2 hx3 hx4 hx5 hx6 HX3
          have hb0 := blk_cell HX4.out.f.box 0
          have hb1 := blk_cell HX4.out.f.box 1
          have hb2 := blk_cell HX4.out.f.box 2
          have hb3 := blk_cell HX4.out.f.box 3
          have hx0 := blk_cell HX4.out.xb 0
          have hx5 := blk_cell HX4.out.xb 5
          have HBAD : Aside0 (okIr c ⟨op, dst, a, b, cc, n, m⟩ = false → fits c = false) := ⟨fun h => fits_at hlt (by rw [HX.out]; exact h)⟩
          by_cases h1 : c.cells ≤ d
          · have h1b := decide_eq_true h1
            have HF := Aside0.mk (HBAD.out (by unfold okIr; rw [HD.out]; simp; intros; omega))
            go_wp2_with fail
            go_ret
            exact ⟨by rw [HF.out]; rfl, HX4.out.f.bel⟩
          · have h1b := decide_eq_false h1
            by_cases h2 : d < -1
            · have h2b := decide_eq_true h2
              have HF := Aside0.mk (HBAD.out (by unfold okIr; rw [HD.out]; simp; intros; omega))
              go_wp2_with fail
              go_ret
              exact ⟨by rw [HF.out]; rfl, HX4.out.f.bel⟩
            · have h2b := decide_eq_false h2
              have HOK : Aside0 (¬ (d = -1 ∧ isW op = true) → (isJ op = true → cnt c.body n c.body.length = 1) → okIr c ⟨op, dst, a, b, cc, n, m⟩ = true) := ⟨fun h3 h4 => okIr_all (by rw [HUS.out]; exact HO2.out) (by rw [HD.out]; exact h1) (by rw [HD.out]; exact h2) (by rw [HD.out]; exact h3) h4⟩
              have HW3 : (d = -1 ∧ isW op = true) ∨ (d = -1 ∧ isW op = false) ∨ d ≠ -1 := by
                by_cases e : d = -1
                · cases h : isW op
                  · exact .inr (.inl ⟨e, rfl⟩)
                  · exact .inl ⟨e, rfl⟩
                · exact .inr (.inr e)
              clear h1 h2
              rcases HW3 with ⟨hd1, hw⟩ | hrest
              · have HF := Aside0.mk (HBAD.out (by unfold okIr; rw [HD.out, hd1, hw]; simp [oddB]))
                have hdb : (d == -1) = true := by simpa using hd1
                have HW := Aside0.mk hw
                clear hd1 hw
                go_wp2_with (go_at_call 50; refine (writes_calls' HW.out _).mono ?_; rintro e w6 ⟨rfl, rfl⟩)
                go_ret
                exact ⟨by rw [HF.out]; rfl, HX4.out.f.bel⟩
              · have HN3 := Aside0.mk (show ¬ (d = -1 ∧ isW op = true) from fun e => by rcases hrest with ⟨_, h⟩ | h; exact absurd e.2 (by rw [h]; simp); exact h e.1)
                rcases hrest with ⟨hd1, hw⟩ | hd1
                all_goals
                  have HJJ : (isJ op = true ∧ cnt c.body n c.body.length = 1) ∨ (isJ op = true ∧ cnt c.body n c.body.length ≠ 1) ∨ isJ op = false := by
                    cases h : isJ op
                    · exact .inr (.inr rfl)
                    · by_cases e : cnt c.body n c.body.length = 1
                      · exact .inl ⟨rfl, e⟩
                      · exact .inr (.inl ⟨rfl, e⟩)
                · have hdb : (d == -1) = true := by simpa using hd1
                  have HW := Aside0.mk hw
                  clear hd1 hw
                  rcases HJJ with ⟨hj, hm⟩ | ⟨hj, hm⟩ | hj
                  · have HN := Aside0.mk (HR.out.next (by rw [HX.out]; exact HOK.out HN3.out (fun _ => hm)))
                    have hmb : (((cnt c.body n c.body.length : Nat) : Int) != 1) = false := by rw [hm]; rfl
                    have HJ := Aside0.mk hj
                    clear hj hm
                    go_wp2_with (first | (go_at_call 50; refine (writes_calls' HW.out _).mono ?_; rintro e w6 ⟨rfl, rfl⟩) | (go_at_call 51; refine (jump_calls' HJ.out _).mono ?_; rintro e w7 ⟨rfl, rfl⟩) | (go_at_call 47; refine (find_calls c (some ad) cap n _ HX4.out.f.code).mono ?_; rintro e w8 ⟨rfl, hb⟩; have HP5 := Aside0.mk (HX4.out.f.below hb); clear hb))
                    go_roundw
                    case rel => exact ⟨k + 1, by omega, by go_num, HN, HP5⟩
                    case measure => first | (simp [intOf]; done) | (simp [intOf]; omega)
                  · have HF := Aside0.mk (HBAD.out (by unfold okIr; rw [hj]; simp [hm]))
                    have hmb : (((cnt c.body n c.body.length : Nat) : Int) != 1) = true := by simp; omega
                    have HJ := Aside0.mk hj
                    clear hj hm
                    go_wp2_with (first | (go_at_call 50; refine (writes_calls' HW.out _).mono ?_; rintro e w6 ⟨rfl, rfl⟩) | (go_at_call 51; refine (jump_calls' HJ.out _).mono ?_; rintro e w7 ⟨rfl, rfl⟩) | (go_at_call 47; refine (find_calls c (some ad) cap n _ HX4.out.f.code).mono ?_; rintro e w8 ⟨rfl, hb⟩; have HP5 := Aside0.mk (HX4.out.f.below hb); clear hb))
                    go_ret
                    exact ⟨by rw [HF.out]; rfl, HP5.out.bel⟩
                  · have HN := Aside0.mk (HR.out.next (by rw [HX.out]; exact HOK.out HN3.out (fun e => absurd e (by rw [hj]; simp))))
                    have HJ := Aside0.mk hj
                    clear hj
                    go_wp2_with (first | (go_at_call 50; refine (writes_calls' HW.out _).mono ?_; rintro e w6 ⟨rfl, rfl⟩) | (go_at_call 51; refine (jump_calls' HJ.out _).mono ?_; rintro e w7 ⟨rfl, rfl⟩) | (go_at_call 47; refine (find_calls c (some ad) cap n _ HX4.out.f.code).mono ?_; rintro e w8 ⟨rfl, hb⟩; have HP5 := Aside0.mk (HX4.out.f.below hb); clear hb))
                    go_roundw
                    case rel => exact ⟨k + 1, by omega, by go_num, HN, ⟨HX4.out.f⟩⟩
                    case measure => first | (simp [intOf]; done) | (simp [intOf]; omega)
                · have hdb : (d == -1) = false := by simpa using hd1
                  clear hd1
                  rcases HJJ with ⟨hj, hm⟩ | ⟨hj, hm⟩ | hj
                  · have HN := Aside0.mk (HR.out.next (by rw [HX.out]; exact HOK.out HN3.out (fun _ => hm)))
                    have hmb : (((cnt c.body n c.body.length : Nat) : Int) != 1) = false := by rw [hm]; rfl
                    have HJ := Aside0.mk hj
                    clear hj hm
                    go_wp2_with (first | (go_at_call 50; refine (writes_calls' HW.out _).mono ?_; rintro e w6 ⟨rfl, rfl⟩) | (go_at_call 51; refine (jump_calls' HJ.out _).mono ?_; rintro e w7 ⟨rfl, rfl⟩) | (go_at_call 47; refine (find_calls c (some ad) cap n _ HX4.out.f.code).mono ?_; rintro e w8 ⟨rfl, hb⟩; have HP5 := Aside0.mk (HX4.out.f.below hb); clear hb))
                    go_roundw
                    case rel => exact ⟨k + 1, by omega, by go_num, HN, HP5⟩
                    case measure => first | (simp [intOf]; done) | (simp [intOf]; omega)
                  · have HF := Aside0.mk (HBAD.out (by unfold okIr; rw [hj]; simp [hm]))
                    have hmb : (((cnt c.body n c.body.length : Nat) : Int) != 1) = true := by simp; omega
                    have HJ := Aside0.mk hj
                    clear hj hm
                    go_wp2_with (first | (go_at_call 50; refine (writes_calls' HW.out _).mono ?_; rintro e w6 ⟨rfl, rfl⟩) | (go_at_call 51; refine (jump_calls' HJ.out _).mono ?_; rintro e w7 ⟨rfl, rfl⟩) | (go_at_call 47; refine (find_calls c (some ad) cap n _ HX4.out.f.code).mono ?_; rintro e w8 ⟨rfl, hb⟩; have HP5 := Aside0.mk (HX4.out.f.below hb); clear hb))
                    go_ret
                    exact ⟨by rw [HF.out]; rfl, HP5.out.bel⟩
                  · have HN := Aside0.mk (HR.out.next (by rw [HX.out]; exact HOK.out HN3.out (fun e => absurd e (by rw [hj]; simp))))
                    have HJ := Aside0.mk hj
                    clear hj
                    go_wp2_with (first | (go_at_call 50; refine (writes_calls' HW.out _).mono ?_; rintro e w6 ⟨rfl, rfl⟩) | (go_at_call 51; refine (jump_calls' HJ.out _).mono ?_; rintro e w7 ⟨rfl, rfl⟩) | (go_at_call 47; refine (find_calls c (some ad) cap n _ HX4.out.f.code).mono ?_; rintro e w8 ⟨rfl, hb⟩; have HP5 := Aside0.mk (HX4.out.f.below hb); clear hb))
                    go_roundw
                    case rel => exact ⟨k + 1, by omega, by go_num, HN, ⟨HX4.out.f⟩⟩
                    case measure => first | (simp [intOf]; done) | (simp [intOf]; omega)
    · have HF := Aside0.mk (fits_all HH.out (show Rd c c.body.length from ⟨fun j hj => HR.out.all j (by omega)⟩))
      go_wp2_with fail
      go_ret
      exact ⟨by rw [HF.out]; rfl, HP1.out.bel⟩
end Go.Proofs.Ytdcmeefeinppnaa.Live
