/- CheckTurns: the walk of the statement. -/
import Derived.Test.YtdcmeefeinppnaaEx18
import Derived.Test.YtdcmeefeinppnaaFlows
namespace Go.Proofs.Ytdcmeefeinppnaa.Check
open Go.RowKit Go.Proofs.YtdcmeefeinppnaaW.PrintWords Go.Proofs.YtdcmeefeinppnaaW.PrintLast Go.Proofs.YtdcmeefeinppnaaW.PrintMore Go.Proofs.Ytdcmeefeinppnaa.Mem Go.Proofs.Ytdcmeefeinppnaa.Ir Go.Proofs.Ytdcmeefeinppnaa.Live Go.Proofs.Ytdcmeefeinppnaa.Rsem
open Uses (uses infoInt)
set_option linter.unusedVariables false
set_option linter.unusedSimpArgs false

def turn (B p : Int) : Int := if 6 ≤ p then 6 + (p - 6 + B % 60) % 60 else if 0 ≤ p then (p + B % 6) % 6 else p
theorem turn_lo {B p : Int} (h0 : -1 ≤ p) (h1 : p ≤ 65) : -1 ≤ turn B p ∧ turn B p ≤ 65 ∧ (0 ≤ p → 0 ≤ turn B p) ∧ (6 ≤ p → 6 ≤ turn B p) := by
  unfold turn
  split
  · omega
  · split <;> omega
theorem turn_inj {B p q : Int} (hp0 : -1 ≤ p) (hp1 : p ≤ 65) (hq0 : -1 ≤ q) (hq1 : q ≤ 65) (h : turn B p = turn B q) : p = q := by
  unfold turn at h
  split at h
  · split at h
    · omega
    · split at h <;> omega
  · split at h
    · split at h
      · omega
      · split at h <;> omega
    · split at h
      · omega
      · split at h <;> omega
theorem rd_map {f : Int → Int} {l : List Int} {a : Nat} (h : a < l.length) : rd (l.map f) (a : Int) = f (rd l (a : Int)) := by
  unfold rd
  rw [Int.toNat_natCast, List.getD_eq_getElem?_getD, List.getD_eq_getElem?_getD, List.getElem?_map, List.getElem?_eq_getElem h]
  rfl
theorem right_turn {c : Cod} {ah af l : List Int} (B : Int) (h : RightIs c ah af l) : RightIs c ah af (l.map (turn B)) := by
  have hr : ∀ a : Nat, a < l.length → -1 ≤ rd l (a : Int) ∧ rd l (a : Int) ≤ 65 := fun a ha => by
    have h1 := (h.one a ha).lo
    have h2 := (h.one a ha).hi
    omega
  refine ⟨h.fit, by rw [List.length_map]; exact h.len, fun a ha => ?_, fun a b ha hb he => ?_⟩
  · rw [List.length_map] at ha
    obtain ⟨h1, h2, h3, h4⟩ := turn_lo (B := B) (hr a ha).1 (hr a ha).2
    have ho := h.one a ha
    refine ⟨by rw [rd_map ha]; omega, by rw [rd_map ha]; omega, ?_, ?_⟩
    · rw [rd_map ha]
      have hn := ho.nm
      cases hb : inB (namedN c c.body.length) (a : Int) with
      | false => rfl
      | true =>
        rw [hb, Bool.true_and, decide_eq_false_iff_not] at hn
        rw [Bool.true_and, decide_eq_false_iff_not]
        have := h3 (by omega)
        omega
    · rw [rd_map ha]
      have hn := ho.cr
      cases hb : inB (crossS c af c.body.length) (a : Int) with
      | false => rfl
      | true =>
        rw [hb, Bool.true_and, decide_eq_false_iff_not] at hn
        rw [Bool.true_and, decide_eq_false_iff_not]
        have := h4 (by omega)
        omega
  · rw [List.length_map] at ha
    rw [rd_map ha, rd_map (by omega)] at he
    exact h.two a b ha hb (turn_inj (hr a ha).1 (hr a ha).2 (hr b (by omega)).1 (hr b (by omega)).2 he)
theorem take_map {f : Int → Int} {l : List Int} {k : Nat} (h : k < l.length) : (l.take (k + 1)).map f = (l.take k).map f ++ [f (rd l (k : Int))] := by
  rw [List.take_succ_eq_append_getElem h, List.map_append]
  unfold rd
  rw [Int.toNat_natCast, List.getD_eq_getElem?_getD, List.getElem?_eq_getElem h]
  rfl
attribute [local go_sem] max2_int min2_int max_two min_two
set_option maxHeartbeats 8000000 in
set_option maxRecDepth 100000 in
theorem turns_walk (cells params labels : Int) (L : List Ir) (A : Option Addr) (cap : Nat) (l : List Int) (B : Option Addr) (capB : Nat) (k : Int) (w : World) (hC : kIr.C w A L.length L) (hcap : L.length ≤ cap) (hB : (Kd.int .i64).C w B l.length l) (hcapB : l.length ≤ capB) (hk0 : -9223372036854775808 ≤ k) (hk1 : k ≤ 9223372036854775807) :
    Calls Try.prog 10 #[.agg #[.int .i64 cells, .int .i64 params, .slice A L.length cap, .int .i64 labels], .slice B l.length capB, .int .i64 k] w fun e w' => e = .returned (.bool true) ∧ Below w.heap.size w w' := by
  obtain ⟨L', hL⟩ : ∃ L', L' = L.take 80 := ⟨_, rfl⟩
  have hmin : (if (80 : Int) < (L.length : Int) then 80 else (L.length : Int)) = (L'.length : Int) := min_cut L L' 80 hL
  have hm0 : (0 : Int) ≤ (L'.length : Int) := by omega
  have hmc : (L'.length : Int) ≤ (cap : Int) := by rw [hL, List.length_take]; omega
  have hsm : L'.length ≤ 80 := by rw [hL, List.length_take]; omega
  have HC := Aside0.mk hC
  have HL := Aside0.mk hL
  have HROW := Aside0.mk hB
  have hbx0 := blk_new w (.cells #[.int .i64 cells, .int .i64 params, .slice A L.length cap, .int .i64 labels] 24)
  have HB := Aside0.mk ((Below.refl w.heap.size w).alloc (Nat.le_refl _) (.cells #[.int .i64 cells, .int .i64 params, .slice A L.length cap, .int .i64 labels] 24))
  have HX := Aside0.mk hbx0
  clear hC hL hbx0 hB
  go_enter Try.func10, Try.ntmps10
  go_wp2_with fail
  refine (examples_calls _).mono ?_
  rintro e w1 ⟨rfl, hb1⟩
  have hbx := blk_below HX.out hb1
  have hc0 := blk_cell hbx 0
  have hc1 := blk_cell hbx 1
  have hc2 := blk_cell hbx 2
  have hc3 := blk_cell hbx 3
  have hf2 := blk_frozen hbx 2
  have HCUT := Aside0.mk (Bx.cut (HB.out.trans (hb1.mono HB.out.size)) (by have := hb1.size; simpa using this) hbx HC.out hcap 80 HL.out (by omega))
  obtain ⟨ah, af, er, HS, hE⟩ := sets_ends ⟨cells, params, L', labels⟩
  have HS := Aside0.mk HS
  have HE := Aside0.mk hE
  clear hbx hb1 HB HX HL hE
  go_wp2_with fail
  refine (right_calls ⟨cells, params, L', labels⟩ A cap l B capB _ HCUT.out.code (Kd.C_below HROW.out HCUT.out.bel) hcapB HS.out HE.out).mono ?_
  rintro e w2 ⟨rfl, hb2⟩
  have HB2 := Aside0.mk (HCUT.out.below hb2)
  clear hc0 hc1 hc2 hc3 hf2 hb2 HCUT hmin hm0 hmc HC hcap
  obtain ⟨c, hcd⟩ : ∃ c, Cod.mk cells params L' labels = c := ⟨_, rfl⟩
  rw [hcd] at HS HE HB2 ⊢
  clear hcd
  have hbx0 := blk_cell HB2.out.box 0
  have hbx1 := blk_cell HB2.out.box 1
  have hbx2 := blk_cell HB2.out.box 2
  have hbx3 := blk_cell HB2.out.box 3
  cases hr : rightB c ah af l with
  | false =>
    clear hr
    go_wp2_with fail
    go_ret
    exact ⟨rfl, HB2.out.bel⟩
  | true =>
    have HRI := Aside0.mk (right_is hr)
    have hl60 : l.length ≤ 60 := by have h1 := HRI.out.len; have h2 := fits_head HRI.out.fit; omega
    clear hr
    have hsl : ∃ M : Int, 0 ≤ M ∧ M ≤ 9223372036854775807 ∧ ((k < 0 ∧ -(k + 1) = M) ∨ (¬ k < 0 ∧ k = M)) := by
      by_cases hk : k < 0
      · exact ⟨-(k + 1), by omega, by omega, .inl ⟨hk, rfl⟩⟩
      · exact ⟨k, by omega, by omega, .inr ⟨hk, rfl⟩⟩
    obtain ⟨M, hM0, hM1, hsl⟩ := hsl
    have HRT := Aside0.mk (right_of (right_turn M HRI.out))
    rcases hsl with ⟨hkn, hse⟩ | ⟨hkn, hse⟩
    · go_wp2_with fail
      clear hbx0 hbx1 hbx2 hbx3
      go_loopw [8, 9] (fun mv iv wr => ∃ (i : Nat) (Am : Option Addr) (cm : Nat), i ≤ l.length ∧ iv = .int .i64 i ∧ mv = .slice Am ((l.take i).map (turn M)).length cm ∧ Aside0 (Below w2.heap.size w2 wr) ∧ Aside0 ((Kd.int .i64).R 3 wr w2.heap.size (fun _ => True) (.slice Am ((l.take i).map (turn M)).length cm) ((l.take i).map (turn M)))) (fun _ iv _ => l.length - (intOf iv).toNat)
      case atStart => exact ⟨0, none, 0, Nat.zero_le _, rfl, rfl, ⟨Below.refl _ _⟩, ⟨Kd.R_nil _ _ _ _ _⟩⟩
      case round =>
        obtain ⟨i, Am, cm, hi, rfl, rfl, HBW, HRM⟩ := hrel
        by_cases hlt : i < l.length
        · obtain ⟨adl, el, hxl⟩ := Kd.at_int (Kd.C_below (Kd.C_below HROW.out HB2.out.bel) HBW.out) (i : Int) (by omega) (by omega)
          subst el
          rw [Int.toNat_natCast] at hxl
          have HTS := Aside0.mk (take_map (f := turn M) hlt)
          have hX : ((l.take i).map (turn M)).length ≤ 60 := by rw [List.length_map, List.length_take]; omega
          obtain ⟨X0, hX0⟩ : ∃ X0, (l.take i).map (turn M) = X0 := ⟨_, rfl⟩
          rw [hX0] at HTS HRM hX ⊢
          have ho1 := (HRI.out.one i hlt).lo
          have ho2 := (HRI.out.one i hlt).hi
          obtain ⟨p, hp⟩ : ∃ p, rd l (i : Int) = p := ⟨_, rfl⟩
          rw [hp] at HTS hxl ho1 ho2
          clear hX0 hp
          have hq0 := Int.emod_nonneg M (show (60 : Int) ≠ 0 by decide)
          have hq1 := Int.emod_lt_of_pos M (show (0 : Int) < 60 by decide)
          have hq2 := Int.emod_nonneg M (show (6 : Int) ≠ 0 by decide)
          have hq3 := Int.emod_lt_of_pos M (show (0 : Int) < 6 by decide)
          by_cases hp6 : 6 ≤ p
          · have HTU := Aside0.mk (show turn M p = 6 + (p - 6 + M) % 60 from by unfold turn; rw [if_pos hp6]; omega)
            have hp6b : decide (6 ≤ p) = true := decide_eq_true hp6
            go_wp2_with ((with_reducible refine gate_builtin (b := .append) (xs := #[.tmp 58, .tmp 60]) rfl ?_); at_builtin; refine Kd.R_append (Kd.int .i64) (w0 := w2) (W := wr) w2.heap.size rfl (.tmp 58) (.tmp 60) 26 3 (.int .i64 0) 8 rfl Try.underlying26 infoInt rfl (by decide) (by omega) (.slice Am X0.length cm) X0 (6 + (p - 6 + M) % 60) [.int .i64 (6 + (p - 6 + M) % 60)] (fun _ => True) (fun _ => False) rfl rfl rfl (fun _ h => h.elim) (fun _ _ => trivial) HRM.out HBW.out HBW.out.size (by omega) ?_; intro v6 w6 hO hb6 hg6 hat6; obtain ⟨A6, c6, e6⟩ := Kd.R_slice hO; subst e6; have HO6 := Aside0.mk hO; have HB6 := Aside0.mk hb6; clear hO hb6 hg6 hat6)
            go_roundw
            case rel => exact ⟨i + 1, A6, c6, by omega, by go_num, by rw [HTS.out, List.length_append, List.length_singleton], HB6, ⟨by rw [HTS.out, HTU.out]; have h := HO6.out; simp only [List.length_append, List.length_singleton] at h ⊢; exact h⟩⟩
            case measure => simp [intOf]; omega
          by_cases hp0 : 0 ≤ p
          · have HTU := Aside0.mk (show turn M p = (p + M) % 6 from by unfold turn; rw [if_neg hp6, if_pos hp0]; omega)
            have hp6b : decide (6 ≤ p) = false := decide_eq_false hp6
            have hp0b : decide (0 ≤ p) = true := decide_eq_true hp0
            go_wp2_with ((with_reducible refine gate_builtin (b := .append) (xs := #[.tmp 58, .tmp 60]) rfl ?_); at_builtin; refine Kd.R_append (Kd.int .i64) (w0 := w2) (W := wr) w2.heap.size rfl (.tmp 58) (.tmp 60) 26 3 (.int .i64 0) 8 rfl Try.underlying26 infoInt rfl (by decide) (by omega) (.slice Am X0.length cm) X0 ((p + M) % 6) [.int .i64 ((p + M) % 6)] (fun _ => True) (fun _ => False) rfl rfl rfl (fun _ h => h.elim) (fun _ _ => trivial) HRM.out HBW.out HBW.out.size (by omega) ?_; intro v6 w6 hO hb6 hg6 hat6; obtain ⟨A6, c6, e6⟩ := Kd.R_slice hO; subst e6; have HO6 := Aside0.mk hO; have HB6 := Aside0.mk hb6; clear hO hb6 hg6 hat6)
            go_roundw
            case rel => exact ⟨i + 1, A6, c6, by omega, by go_num, by rw [HTS.out, List.length_append, List.length_singleton], HB6, ⟨by rw [HTS.out, HTU.out]; have h := HO6.out; simp only [List.length_append, List.length_singleton] at h ⊢; exact h⟩⟩
            case measure => simp [intOf]; omega
          · have HTU := Aside0.mk (show turn M p = p from by unfold turn; rw [if_neg hp6, if_neg hp0])
            have hp6b : decide (6 ≤ p) = false := decide_eq_false hp6
            have hp0b : decide (0 ≤ p) = false := decide_eq_false hp0
            go_wp2_with ((with_reducible refine gate_builtin (b := .append) (xs := #[.tmp 58, .tmp 60]) rfl ?_); at_builtin; refine Kd.R_append (Kd.int .i64) (w0 := w2) (W := wr) w2.heap.size rfl (.tmp 58) (.tmp 60) 26 3 (.int .i64 0) 8 rfl Try.underlying26 infoInt rfl (by decide) (by omega) (.slice Am X0.length cm) X0 (p) [.int .i64 (p)] (fun _ => True) (fun _ => False) rfl rfl rfl (fun _ h => h.elim) (fun _ _ => trivial) HRM.out HBW.out HBW.out.size (by omega) ?_; intro v6 w6 hO hb6 hg6 hat6; obtain ⟨A6, c6, e6⟩ := Kd.R_slice hO; subst e6; have HO6 := Aside0.mk hO; have HB6 := Aside0.mk hb6; clear hO hb6 hg6 hat6)
            go_roundw
            case rel => exact ⟨i + 1, A6, c6, by omega, by go_num, by rw [HTS.out, List.length_append, List.length_singleton], HB6, ⟨by rw [HTS.out, HTU.out]; have h := HO6.out; simp only [List.length_append, List.length_singleton] at h ⊢; exact h⟩⟩
            case measure => simp [intOf]; omega
        · have hle : i = l.length := by omega
          subst hle
          rw [List.take_length] at HRM ⊢
          have HB9 := Aside0.mk (HB2.out.below HBW.out)
          have hbx0 := blk_cell HB9.out.box 0
          have hbx1 := blk_cell HB9.out.box 1
          have hbx2 := blk_cell HB9.out.box 2
          have hbx3 := blk_cell HB9.out.box 3
          obtain ⟨_, hcm, hCm⟩ := Kd.R_reads' HRM.out
          have HR9 := Aside0.mk (right_calls c A cap (l.map (turn M)) Am cm _ HB9.out.code hCm hcm HS.out HE.out)
          rw [HRT.out, List.length_map] at HR9
          clear hcm hCm
          go_wp2_with fail
          refine HR9.out.mono ?_
          rintro e w9 ⟨rfl, hb9⟩
          have HD := Aside0.mk (HB9.out.below hb9).bel
          clear hb9 hbx0 hbx1 hbx2 hbx3 HB9 HR9
          go_wp2_with fail
          go_ret
          exact ⟨rfl, HD.out⟩
    · obtain rfl : M = k := hse.symm
      go_wp2_with fail
      clear hbx0 hbx1 hbx2 hbx3
      go_loopw [8, 9] (fun mv iv wr => ∃ (i : Nat) (Am : Option Addr) (cm : Nat), i ≤ l.length ∧ iv = .int .i64 i ∧ mv = .slice Am ((l.take i).map (turn M)).length cm ∧ Aside0 (Below w2.heap.size w2 wr) ∧ Aside0 ((Kd.int .i64).R 3 wr w2.heap.size (fun _ => True) (.slice Am ((l.take i).map (turn M)).length cm) ((l.take i).map (turn M)))) (fun _ iv _ => l.length - (intOf iv).toNat)
      case atStart => exact ⟨0, none, 0, Nat.zero_le _, rfl, rfl, ⟨Below.refl _ _⟩, ⟨Kd.R_nil _ _ _ _ _⟩⟩
      case round =>
        obtain ⟨i, Am, cm, hi, rfl, rfl, HBW, HRM⟩ := hrel
        by_cases hlt : i < l.length
        · obtain ⟨adl, el, hxl⟩ := Kd.at_int (Kd.C_below (Kd.C_below HROW.out HB2.out.bel) HBW.out) (i : Int) (by omega) (by omega)
          subst el
          rw [Int.toNat_natCast] at hxl
          have HTS := Aside0.mk (take_map (f := turn M) hlt)
          have hX : ((l.take i).map (turn M)).length ≤ 60 := by rw [List.length_map, List.length_take]; omega
          obtain ⟨X0, hX0⟩ : ∃ X0, (l.take i).map (turn M) = X0 := ⟨_, rfl⟩
          rw [hX0] at HTS HRM hX ⊢
          have ho1 := (HRI.out.one i hlt).lo
          have ho2 := (HRI.out.one i hlt).hi
          obtain ⟨p, hp⟩ : ∃ p, rd l (i : Int) = p := ⟨_, rfl⟩
          rw [hp] at HTS hxl ho1 ho2
          clear hX0 hp
          have hq0 := Int.emod_nonneg M (show (60 : Int) ≠ 0 by decide)
          have hq1 := Int.emod_lt_of_pos M (show (0 : Int) < 60 by decide)
          have hq2 := Int.emod_nonneg M (show (6 : Int) ≠ 0 by decide)
          have hq3 := Int.emod_lt_of_pos M (show (0 : Int) < 6 by decide)
          by_cases hp6 : 6 ≤ p
          · have HTU := Aside0.mk (show turn M p = 6 + (p - 6 + M) % 60 from by unfold turn; rw [if_pos hp6]; omega)
            have hp6b : decide (6 ≤ p) = true := decide_eq_true hp6
            go_wp2_with ((with_reducible refine gate_builtin (b := .append) (xs := #[.tmp 58, .tmp 60]) rfl ?_); at_builtin; refine Kd.R_append (Kd.int .i64) (w0 := w2) (W := wr) w2.heap.size rfl (.tmp 58) (.tmp 60) 26 3 (.int .i64 0) 8 rfl Try.underlying26 infoInt rfl (by decide) (by omega) (.slice Am X0.length cm) X0 (6 + (p - 6 + M) % 60) [.int .i64 (6 + (p - 6 + M) % 60)] (fun _ => True) (fun _ => False) rfl rfl rfl (fun _ h => h.elim) (fun _ _ => trivial) HRM.out HBW.out HBW.out.size (by omega) ?_; intro v6 w6 hO hb6 hg6 hat6; obtain ⟨A6, c6, e6⟩ := Kd.R_slice hO; subst e6; have HO6 := Aside0.mk hO; have HB6 := Aside0.mk hb6; clear hO hb6 hg6 hat6)
            go_roundw
            case rel => exact ⟨i + 1, A6, c6, by omega, by go_num, by rw [HTS.out, List.length_append, List.length_singleton], HB6, ⟨by rw [HTS.out, HTU.out]; have h := HO6.out; simp only [List.length_append, List.length_singleton] at h ⊢; exact h⟩⟩
            case measure => simp [intOf]; omega
          by_cases hp0 : 0 ≤ p
          · have HTU := Aside0.mk (show turn M p = (p + M) % 6 from by unfold turn; rw [if_neg hp6, if_pos hp0]; omega)
            have hp6b : decide (6 ≤ p) = false := decide_eq_false hp6
            have hp0b : decide (0 ≤ p) = true := decide_eq_true hp0
            go_wp2_with ((with_reducible refine gate_builtin (b := .append) (xs := #[.tmp 58, .tmp 60]) rfl ?_); at_builtin; refine Kd.R_append (Kd.int .i64) (w0 := w2) (W := wr) w2.heap.size rfl (.tmp 58) (.tmp 60) 26 3 (.int .i64 0) 8 rfl Try.underlying26 infoInt rfl (by decide) (by omega) (.slice Am X0.length cm) X0 ((p + M) % 6) [.int .i64 ((p + M) % 6)] (fun _ => True) (fun _ => False) rfl rfl rfl (fun _ h => h.elim) (fun _ _ => trivial) HRM.out HBW.out HBW.out.size (by omega) ?_; intro v6 w6 hO hb6 hg6 hat6; obtain ⟨A6, c6, e6⟩ := Kd.R_slice hO; subst e6; have HO6 := Aside0.mk hO; have HB6 := Aside0.mk hb6; clear hO hb6 hg6 hat6)
            go_roundw
            case rel => exact ⟨i + 1, A6, c6, by omega, by go_num, by rw [HTS.out, List.length_append, List.length_singleton], HB6, ⟨by rw [HTS.out, HTU.out]; have h := HO6.out; simp only [List.length_append, List.length_singleton] at h ⊢; exact h⟩⟩
            case measure => simp [intOf]; omega
          · have HTU := Aside0.mk (show turn M p = p from by unfold turn; rw [if_neg hp6, if_neg hp0])
            have hp6b : decide (6 ≤ p) = false := decide_eq_false hp6
            have hp0b : decide (0 ≤ p) = false := decide_eq_false hp0
            go_wp2_with ((with_reducible refine gate_builtin (b := .append) (xs := #[.tmp 58, .tmp 60]) rfl ?_); at_builtin; refine Kd.R_append (Kd.int .i64) (w0 := w2) (W := wr) w2.heap.size rfl (.tmp 58) (.tmp 60) 26 3 (.int .i64 0) 8 rfl Try.underlying26 infoInt rfl (by decide) (by omega) (.slice Am X0.length cm) X0 (p) [.int .i64 (p)] (fun _ => True) (fun _ => False) rfl rfl rfl (fun _ h => h.elim) (fun _ _ => trivial) HRM.out HBW.out HBW.out.size (by omega) ?_; intro v6 w6 hO hb6 hg6 hat6; obtain ⟨A6, c6, e6⟩ := Kd.R_slice hO; subst e6; have HO6 := Aside0.mk hO; have HB6 := Aside0.mk hb6; clear hO hb6 hg6 hat6)
            go_roundw
            case rel => exact ⟨i + 1, A6, c6, by omega, by go_num, by rw [HTS.out, List.length_append, List.length_singleton], HB6, ⟨by rw [HTS.out, HTU.out]; have h := HO6.out; simp only [List.length_append, List.length_singleton] at h ⊢; exact h⟩⟩
            case measure => simp [intOf]; omega
        · have hle : i = l.length := by omega
          subst hle
          rw [List.take_length] at HRM ⊢
          have HB9 := Aside0.mk (HB2.out.below HBW.out)
          have hbx0 := blk_cell HB9.out.box 0
          have hbx1 := blk_cell HB9.out.box 1
          have hbx2 := blk_cell HB9.out.box 2
          have hbx3 := blk_cell HB9.out.box 3
          obtain ⟨_, hcm, hCm⟩ := Kd.R_reads' HRM.out
          have HR9 := Aside0.mk (right_calls c A cap (l.map (turn M)) Am cm _ HB9.out.code hCm hcm HS.out HE.out)
          rw [HRT.out, List.length_map] at HR9
          clear hcm hCm
          go_wp2_with fail
          refine HR9.out.mono ?_
          rintro e w9 ⟨rfl, hb9⟩
          have HD := Aside0.mk (HB9.out.below hb9).bel
          clear hb9 hbx0 hbx1 hbx2 hbx3 HB9 HR9
          go_wp2_with fail
          go_ret
          exact ⟨rfl, HD.out⟩
end Go.Proofs.Ytdcmeefeinppnaa.Check
