/- valid.Valid: what is wrong with a module. -/
import Derived.Test.YtjjhhmchomabeaaDoorFitW
import Derived.Test.YtjjhhmchomabeaaDoorValIs
import Derived.Test.YtjjhhmchomabeaaDoorValI
namespace Go.Proofs.YtjjhhmchomabeaaDoor.Valid
open Go.RowKit Go.Proofs.YtjjhhmchomabeaaDoorW.PrintWords Go.Proofs.YtjjhhmchomabeaaDoorW.PrintLast Go.Proofs.YtjjhhmchomabeaaDoor.Mem Go.Proofs.YtjjhhmchomabeaaDoor.Nest
set_option linter.unusedVariables false
set_option linter.unusedSimpArgs false

/-- a piece of data lies within its memory -/
def liesD (M : Md) (d : Int × Int × ByteArray) : Bool := !(memOf M d.1 == 0) && decide (wrap64 (d.2.1 + (d.2.2.size : Int)) ≤ wrap64 (2 ^ (memOf M d.1).toNat))
def impB (M : Md) (k : Int) : Bool := decide (k < (M.sigs.length : Int))
def sgB (M : Md) (f : Fn) : Bool := decide (f.1 < (M.sigs.length : Int))
def refsM (M : Md) : Bool := M.imports.all (impB M) && M.funcs.all (sgB M) && M.data.all (liesD M)
/-- the first function, from the k-th on, that breaks a rule; r are left -/
def firstBad (M : Md) : Nat → Nat → Option (Int × Int)
  | 0, _ => none
  | r + 1, k => match oneT M k with
    | .error x => some x
    | .ok _ => firstBad M r (k + 1)
/-- what is wrong with a module, and where -/
def validT (M : Md) : Option (Int × Int) :=
  if fitsM M = 1 then some (1, 0) else if fitsM M ≠ 0 then some (3, 0) else if refsM M = false then some (3, 0) else firstBad M M.funcs.length 0
/-- an error as it is handed back: none, or a fault and where it lies -/
def ErrIs (w w' : World) (v : Value) (r : Option (Int × Int)) : Prop := match r with
  | none => v = .nilIface
  | some (q, a) => ∃ b, v = fErr b ∧ w.heap.size ≤ b ∧ w'.heap[b]? = some (.cells (fCells q a) 69 (0, 0))
def ValOut (w : World) (r : Option (Int × Int)) (e : Ending) (w' : World) : Prop := Below w.heap.size w w' ∧ ∃ v, e = .returned v ∧ ErrIs w w' v r
theorem fits_cases (M : Md) : fitsM M = 0 ∨ fitsM M = 1 ∨ fitsM M = 4 := by
  unfold fitsM
  split
  · split
    · exact .inl rfl
    · exact .inr (.inr rfl)
  · exact .inr (.inl rfl)
theorem val_fault {w W : World} {M : Md} (q a : Int) (hb : Below w.heap.size w W) (h : validT M = some (q, a)) : ValOut w (validT M) (.returned (fErr W.heap.size)) (W.alloc (fBox q a)) := by
  rw [h]
  exact ⟨hb.alloc hb.size _, _, rfl, _, rfl, hb.size, blk_new _ _⟩
theorem Fit.fnok {M : Md} (F : Fit M) (C : MCan M) (hr : M.funcs.all (sgB M) = true) (k : Nat) (hk : k < M.funcs.length) : FnOk M (M.funcs.getD k zF) := by
  obtain ⟨f, hf⟩ : ∃ f, M.funcs.getD k zF = f := ⟨_, rfl⟩
  have hm : f ∈ M.funcs := by rw [← hf]; exact getD_mem _ _ _ hk
  rw [hf]
  have h1 := F.argAll.2.2.1 f hm
  have h2 := (limM_iff M).1 F.lim
  have h3 := List.all_eq_true.1 hr f hm
  unfold funcB at h1
  simp only [Bool.and_eq_true, Bool.not_eq_true'] at h1
  obtain ⟨⟨⟨hw, ho⟩, hx⟩, hc⟩ := h1
  unfold wordB at hw
  simp only [Bool.and_eq_true, decide_eq_true_eq] at hw
  have h3 : f.1 < (M.sigs.length : Int) := by simpa [sgB] using h3
  refine ⟨⟨hw.1, h3⟩, any_odd ho, (h2.2.2.1 f hm).1, ?_, fun x hxm => right_xok ((C.funcs f hm).2 x hxm) (List.all_eq_true.1 hx x hxm), (h2.2.2.1 f hm).2⟩
  exact h2.2.1 _ (getD_mem zS M.sigs _ (by omega))
set_option maxHeartbeats 40000000 in
set_option maxRecDepth 100000 in
theorem valid_calls (M : Md) (h : Hd) (w : World) (H : ModAt w h M) (HC : MCan M) :
    Calls Tryd.prog 14 #[.agg (M.cells h)] w (ValOut w (validT M)) := by
  obtain ⟨a1, a2, a3, a4, a5, c1, c2, c3, c4, c5⟩ := h
  have HM := Aside0.mk H
  have HMC := Aside0.mk HC
  have hl1 := H.l1
  have hl2 := H.l2
  have hl3 := H.l3
  have hl4 := H.l4
  have hl5 := H.l5
  dsimp only at hl1 hl2 hl3 hl4 hl5
  have HF0 := Aside0.mk (show FW w M ⟨a1, a2, a3, a4, a5, c1, c2, c3, c4, c5⟩ (w.alloc (.cells (M.cells ⟨a1, a2, a3, a4, a5, c1, c2, c3, c4, c5⟩) 29)) from ⟨below_alloc (Below.refl _ _) (Nat.le_refl _) _, blk_new _ _⟩)
  have hz0 := blk_cell HF0.out.box 0
  have hz1 := blk_cell HF0.out.box 1
  have hz2 := blk_cell HF0.out.box 2
  have hz3 := blk_cell HF0.out.box 3
  have hz4 := blk_cell HF0.out.box 4
  have hz5 := blk_cell HF0.out.box 5
  have hz6 := blk_cell HF0.out.box 6
  have hq1 := H.sigs.2.1
  have hq2 := H.imports.2.1
  have hq3 := H.funcs.2.1
  have hq5 := H.data.2.1
  have HFI := Aside0.mk (fits_calls M ⟨a1, a2, a3, a4, a5, c1, c2, c3, c4, c5⟩ (w.alloc (.cells (M.cells ⟨a1, a2, a3, a4, a5, c1, c2, c3, c4, c5⟩) 29)) (H.below HF0.out.bel) HC)
  try dsimp only at HFI
  clear H HC
  go_enter Tryd.func14, Tryd.ntmps14
  go_wp2_with fail
  refine HFI.out.mono ?_
  rintro e w1 ⟨rfl, hb1⟩
  have HFW := Aside0.mk (HF0.out.below hb1)
  clear HFI HF0 hb1 hz0 hz1 hz2 hz3 hz4 hz5 hz6
  have hz0 := blk_cell HFW.out.box 0
  have hz1 := blk_cell HFW.out.box 1
  have hz2 := blk_cell HFW.out.box 2
  have hz3 := blk_cell HFW.out.box 3
  have hz4 := blk_cell HFW.out.box 4
  have hz5 := blk_cell HFW.out.box 5
  have hz6 := blk_cell HFW.out.box 6
  rcases fits_cases M with hf | hf | hf
  · have hf0 := Aside0.mk hf
    have HFIT := Aside0.mk (fits_zero.1 hf)
    rw [hf]
    clear hf
    go_wp2_with (go_at_call 24; refine (As.is_errno 0 1 _).mono ?_; rintro e wq ⟨rfl, rfl⟩)
    have HFS := HFW
    go_loopw [4, 27] (fun s4 iv wr => ∃ (k : Nat) (b : Bool), k ≤ M.imports.length ∧ iv = .int .i64 k ∧ s4 = .bool b ∧ Aside0 (b = (true && (M.imports.take k).all (impB M))) ∧ Aside0 (FW w M ⟨a1, a2, a3, a4, a5, c1, c2, c3, c4, c5⟩ wr)) (fun _ iv _ => M.imports.length - (intOf iv).toNat)
    case atStart => exact ⟨0, true, Nat.zero_le _, rfl, rfl, ⟨by simp⟩, HFS⟩
    case round =>
      obtain ⟨k, b4, hk, rfl, rfl, HBK, HFK⟩ := hrel
      clear HFW HFS hz0 hz1 hz2 hz3 hz4 hz5 hz6
      have hz0 := blk_cell HFK.out.box 0
      have hz1 := blk_cell HFK.out.box 1
      have hz2 := blk_cell HFK.out.box 2
      have hz3 := blk_cell HFK.out.box 3
      have hz4 := blk_cell HFK.out.box 4
      have hz5 := blk_cell HFK.out.box 5
      have hz6 := blk_cell HFK.out.box 6
      by_cases hlt : k < M.imports.length
      · have HTK := Aside0.mk (all_take 0 (impB M) M.imports k hlt)
        obtain ⟨ad, ha, hv0⟩ := Kd.at_int (HM.out.below HFK.out.bel).imports (k : Int) (by omega) (by omega)
        rw [Int.toNat_natCast] at hv0
        dsimp only at ha
        obtain ⟨el, hel⟩ : ∃ el, rd M.imports (k : Int) = el := ⟨_, rfl⟩
        have hel2 : M.imports.getD k 0 = el := by rw [← hel]; unfold rd; rw [Int.toNat_natCast]
        rw [hel] at hv0
        rw [hel2] at HTK
        have HFE := HFK
        subst ha
        clear hel hel2
        cases b4 with
        | false =>
          have HNX := Aside0.mk (show (true && (M.imports.take (k + 1)).all (impB M)) = false from by rw [HTK.out, ← Bool.and_assoc, ← HBK.out, Bool.false_and])
          go_wp2_with fail
          go_roundw
          case rel => exact ⟨k + 1, false, by omega, by go_num, rfl, ⟨HNX.out.symm⟩, HFE⟩
          case measure => simp [intOf]; omega
        | true =>
          rcases c1 : decide (el < (M.sigs.length : Int)) with _ | _
          · have HNX := Aside0.mk (show (true && (M.imports.take (k + 1)).all (impB M)) = false from by
              rw [HTK.out, ← Bool.and_assoc, ← HBK.out, Bool.true_and]
              show (decide (el < (M.sigs.length : Int))) = false
              first | (rw [c1]; done) | (rw [c1]; rfl) | simp [c1])
            go_wp2_with fail
            go_roundw
            case rel => exact ⟨k + 1, false, by omega, by go_num, rfl, ⟨HNX.out.symm⟩, HFE⟩
            case measure => simp [intOf]; omega
          · have HNX := Aside0.mk (show (true && (M.imports.take (k + 1)).all (impB M)) = true from by
              rw [HTK.out, ← Bool.and_assoc, ← HBK.out, Bool.true_and]
              show (decide (el < (M.sigs.length : Int))) = true
              first | (rw [c1]; done) | (rw [c1]; rfl) | simp [c1])
            go_wp2_with fail
            go_roundw
            case rel => exact ⟨k + 1, true, by omega, by go_num, rfl, ⟨HNX.out.symm⟩, HFE⟩
            case measure => simp [intOf]; omega
      · obtain rfl : k = M.imports.length := by omega
        have HE4 := Aside0.mk (show b4 = (true && M.imports.all (impB M)) from by rw [HBK.out]; first | rw [List.take_length] | rfl)
        have HFW := HFK
        clear HBK HFK hlt
        have HFS := HFW
        go_wp2_with fail
        go_loopw [4, 43] (fun s4 iv wr => ∃ (k : Nat) (b : Bool), k ≤ M.funcs.length ∧ iv = .int .i64 k ∧ s4 = .bool b ∧ Aside0 (b = (b4 && (M.funcs.take k).all (sgB M))) ∧ Aside0 (FW w M ⟨a1, a2, a3, a4, a5, c1, c2, c3, c4, c5⟩ wr)) (fun _ iv _ => M.funcs.length - (intOf iv).toNat)
        case atStart => exact ⟨0, b4, Nat.zero_le _, rfl, rfl, ⟨by simp⟩, HFS⟩
        case round =>
          obtain ⟨k, b5, hk, rfl, rfl, HBK, HFK⟩ := hrel
          clear HFW HFS hz0 hz1 hz2 hz3 hz4 hz5 hz6
          have hz0 := blk_cell HFK.out.box 0
          have hz1 := blk_cell HFK.out.box 1
          have hz2 := blk_cell HFK.out.box 2
          have hz3 := blk_cell HFK.out.box 3
          have hz4 := blk_cell HFK.out.box 4
          have hz5 := blk_cell HFK.out.box 5
          have hz6 := blk_cell HFK.out.box 6
          by_cases hlt : k < M.funcs.length
          · have HTK := Aside0.mk (all_take zF (sgB M) M.funcs k hlt)
            obtain ⟨ad, D1, j1, D2, j2, ha, hv0, hv1, hv2, hv3, hj1, hj2, hD1, hD2⟩ := at_func (HM.out.below HFK.out.bel).funcs k hlt
            dsimp only at ha
            have HGM := Aside0.mk (getD_mem zF M.funcs k hlt)
            obtain ⟨⟨fs, ft, fl, fb⟩, hel⟩ : ∃ el, M.funcs.getD k zF = el := ⟨_, rfl⟩
            rw [hel] at hv0 hv1 hv2 hv3 hj1 hj2 hD1 hD2 HTK HGM
            dsimp only at hv0 hv1 hv2 hv3 hj1 hj2 hD1 hD2
            have HD1 := Aside0.mk (Kd.C_below hD1 (below_alloc (Below.refl _ _) (Nat.le_refl _) (.cells #[.int .i64 fs, .bool ft, .slice D1 fl.length j1, .slice D2 fb.length j2] 43)))
            have HD2 := Aside0.mk (Kd.C_below hD2 (below_alloc (Below.refl _ _) (Nat.le_refl _) (.cells #[.int .i64 fs, .bool ft, .slice D1 fl.length j1, .slice D2 fb.length j2] 43)))
            have HC1 := Aside0.mk (HMC.out.funcs _ HGM.out).1
            have HC2 := Aside0.mk (HMC.out.funcs _ HGM.out).2
            dsimp only at HC1 HC2
            have HFE := Aside0.mk (HFK.out.below (below_alloc (Below.refl _ _) (Nat.le_refl _) (.cells #[.int .i64 fs, .bool ft, .slice D1 fl.length j1, .slice D2 fb.length j2] 43)))
            have HBX := Aside0.mk (blk_new wr (.cells #[.int .i64 fs, .bool ft, .slice D1 fl.length j1, .slice D2 fb.length j2] 43))
            have hy0 := blk_cell HBX.out 0
            have hy2 := blk_cell HBX.out 2
            have hy3 := blk_cell HBX.out 3
            subst ha
            clear hD1 hD2 hel
            have hg0 := blk_cell HFE.out.box 0
            have hg1 := blk_cell HFE.out.box 1
            have hg2 := blk_cell HFE.out.box 2
            have hg3 := blk_cell HFE.out.box 3
            have hg4 := blk_cell HFE.out.box 4
            have hg5 := blk_cell HFE.out.box 5
            have hg6 := blk_cell HFE.out.box 6
            cases b5 with
            | false =>
              have HNX := Aside0.mk (show (b4 && (M.funcs.take (k + 1)).all (sgB M)) = false from by rw [HTK.out, ← Bool.and_assoc, ← HBK.out, Bool.false_and])
              go_wp2_with fail
              go_roundw
              case rel => exact ⟨k + 1, false, by omega, by go_num, rfl, ⟨HNX.out.symm⟩, HFE⟩
              case measure => simp [intOf]; omega
            | true =>
              rcases c1 : decide (fs < (M.sigs.length : Int)) with _ | _
              · have HNX := Aside0.mk (show (b4 && (M.funcs.take (k + 1)).all (sgB M)) = false from by
                  rw [HTK.out, ← Bool.and_assoc, ← HBK.out, Bool.true_and]
                  show (decide (fs < (M.sigs.length : Int))) = false
                  first | (rw [c1]; done) | (rw [c1]; rfl) | simp [c1])
                go_wp2_with fail
                go_roundw
                case rel => exact ⟨k + 1, false, by omega, by go_num, rfl, ⟨HNX.out.symm⟩, HFE⟩
                case measure => simp [intOf]; omega
              · have HNX := Aside0.mk (show (b4 && (M.funcs.take (k + 1)).all (sgB M)) = true from by
                  rw [HTK.out, ← Bool.and_assoc, ← HBK.out, Bool.true_and]
                  show (decide (fs < (M.sigs.length : Int))) = true
                  first | (rw [c1]; done) | (rw [c1]; rfl) | simp [c1])
                go_wp2_with fail
                go_roundw
                case rel => exact ⟨k + 1, true, by omega, by go_num, rfl, ⟨HNX.out.symm⟩, HFE⟩
                case measure => simp [intOf]; omega
          · obtain rfl : k = M.funcs.length := by omega
            have HE5 := Aside0.mk (show b5 = (b4 && M.funcs.all (sgB M)) from by rw [HBK.out]; first | rw [List.take_length] | rfl)
            have HFW := HFK
            clear HBK HFK hlt
            have HFS := HFW
            go_wp2_with fail
            go_loopw [4, 60] (fun s4 iv wr => ∃ (k : Nat) (b : Bool), k ≤ M.data.length ∧ iv = .int .i64 k ∧ s4 = .bool b ∧ Aside0 (b = (b5 && (M.data.take k).all (liesD M))) ∧ Aside0 (FW w M ⟨a1, a2, a3, a4, a5, c1, c2, c3, c4, c5⟩ wr)) (fun _ iv _ => M.data.length - (intOf iv).toNat)
            case atStart => exact ⟨0, b5, Nat.zero_le _, rfl, rfl, ⟨by simp⟩, HFS⟩
            case round =>
              obtain ⟨k, b6, hk, rfl, rfl, HBK, HFK⟩ := hrel
              clear HFW HFS hz0 hz1 hz2 hz3 hz4 hz5 hz6
              have hz0 := blk_cell HFK.out.box 0
              have hz1 := blk_cell HFK.out.box 1
              have hz2 := blk_cell HFK.out.box 2
              have hz3 := blk_cell HFK.out.box 3
              have hz4 := blk_cell HFK.out.box 4
              have hz5 := blk_cell HFK.out.box 5
              have hz6 := blk_cell HFK.out.box 6
              by_cases hlt : k < M.data.length
              · have HTK := Aside0.mk (all_take zD (liesD M) M.data k hlt)
                obtain ⟨ad, ha, hv0, hv1, hv2⟩ := at_data (HM.out.below HFK.out.bel).data k hlt
                dsimp only at ha
                obtain ⟨⟨dm, da, db⟩, hel⟩ : ∃ el, M.data.getD k zD = el := ⟨_, rfl⟩
                have hel0 := hel
                rw [hel] at hv0 hv1 hv2 HTK
                dsimp only at hv0 hv1 hv2
                have HFE := Aside0.mk (HFK.out.below (below_alloc (Below.refl _ _) (Nat.le_refl _) (.cells #[.int .i64 dm, .int .i64 da, .string db] 54)))
                have hy0 := blk_cell (blk_new wr (.cells #[.int .i64 dm, .int .i64 da, .string db] 54)) 0
                have hy1 := blk_cell (blk_new wr (.cells #[.int .i64 dm, .int .i64 da, .string db] 54)) 1
                have hy2 := blk_cell (blk_new wr (.cells #[.int .i64 dm, .int .i64 da, .string db] 54)) 2
                subst ha
                clear hel
                have hdm : dm = 0 ∨ dm = 1 := by
                  have h := HFIT.out.argAll.2.2.2.2 (dm, da, db) (by rw [← hel0]; exact getD_mem _ _ _ hlt)
                  unfold dataB at h
                  simp only [Bool.and_eq_true, Bool.or_eq_true, decide_eq_true_eq] at h
                  exact h.1
                rcases hdm with rfl | rfl
                · have HFE := HFE
                  have hg0 := blk_cell HFE.out.box 0
                  have hg1 := blk_cell HFE.out.box 1
                  have hg2 := blk_cell HFE.out.box 2
                  have hg3 := blk_cell HFE.out.box 3
                  have hg4 := blk_cell HFE.out.box 4
                  have hg5 := blk_cell HFE.out.box 5
                  have hg6 := blk_cell HFE.out.box 6
                  cases b6 with
                  | false =>
                    have HNX := Aside0.mk (show (b5 && (M.data.take (k + 1)).all (liesD M)) = false from by rw [HTK.out, ← Bool.and_assoc, ← HBK.out, Bool.false_and])
                    go_wp2_with fail
                    go_quiet (fail)
                    go_wp2_with fail
                    go_roundw
                    case rel => exact ⟨k + 1, false, by omega, by go_num, rfl, ⟨HNX.out.symm⟩, Aside0.mk (HFE.out.below (pw_below_drewN (Below.refl _ _) _))⟩
                    case measure => simp [intOf]; omega
                  | true =>
                    rcases c1 : (M.m0 == 0) with _ | _
                    · have c1b : (M.m0 != 0) = true := by show (!(M.m0 == 0)) = _; rw [c1]; rfl
                      rcases c2 : decide (wrap64 (da + (db.size : Int)) ≤ wrap64 (2 ^ (M.m0).toNat)) with _ | _
                      · have hrg : 3 ≤ M.m0 ∧ M.m0 ≤ 12 := by have h := ((limM_iff M).1 HFIT.out.lim).2.2.2.1; have h2 : M.m0 ≠ 0 := (fun e => by rw [e] at c1; cases c1); omega
                        obtain ⟨hlo, hhi⟩ := hrg
                        have HNX := Aside0.mk (show (b5 && (M.data.take (k + 1)).all (liesD M)) = false from by
                          rw [HTK.out, ← Bool.and_assoc, ← HBK.out, Bool.true_and]
                          show (!(M.m0 == 0) && decide (wrap64 (da + (db.size : Int)) ≤ wrap64 (2 ^ (M.m0).toNat))) = false
                          first | (rw [c1, c2]; done) | (rw [c1, c2]; rfl) | simp [c1, c2])
                        go_wp2_with fail
                        go_quiet (fail)
                        go_wp2_with fail
                        go_roundw
                        case rel => exact ⟨k + 1, false, by omega, by go_num, rfl, ⟨HNX.out.symm⟩, Aside0.mk (HFE.out.below (pw_below_drewN (Below.refl _ _) _))⟩
                        case measure => simp [intOf]; omega
                      · have hrg : 3 ≤ M.m0 ∧ M.m0 ≤ 12 := by have h := ((limM_iff M).1 HFIT.out.lim).2.2.2.1; have h2 : M.m0 ≠ 0 := (fun e => by rw [e] at c1; cases c1); omega
                        obtain ⟨hlo, hhi⟩ := hrg
                        have HNX := Aside0.mk (show (b5 && (M.data.take (k + 1)).all (liesD M)) = true from by
                          rw [HTK.out, ← Bool.and_assoc, ← HBK.out, Bool.true_and]
                          show (!(M.m0 == 0) && decide (wrap64 (da + (db.size : Int)) ≤ wrap64 (2 ^ (M.m0).toNat))) = true
                          first | (rw [c1, c2]; done) | (rw [c1, c2]; rfl) | simp [c1, c2])
                        go_wp2_with fail
                        go_quiet (fail)
                        go_wp2_with fail
                        go_roundw
                        case rel => exact ⟨k + 1, true, by omega, by go_num, rfl, ⟨HNX.out.symm⟩, Aside0.mk (HFE.out.below (pw_below_drewN (Below.refl _ _) _))⟩
                        case measure => simp [intOf]; omega
                    · have c1b : (M.m0 != 0) = false := by show (!(M.m0 == 0)) = _; rw [c1]; rfl
                      have HNX := Aside0.mk (show (b5 && (M.data.take (k + 1)).all (liesD M)) = false from by
                        rw [HTK.out, ← Bool.and_assoc, ← HBK.out, Bool.true_and]
                        show (!(M.m0 == 0) && decide (wrap64 (da + (db.size : Int)) ≤ wrap64 (2 ^ (M.m0).toNat))) = false
                        first | (rw [c1]; done) | (rw [c1]; rfl) | simp [c1])
                      go_wp2_with fail
                      go_quiet (fail)
                      go_wp2_with fail
                      go_roundw
                      case rel => exact ⟨k + 1, false, by omega, by go_num, rfl, ⟨HNX.out.symm⟩, Aside0.mk (HFE.out.below (pw_below_drewN (Below.refl _ _) _))⟩
                      case measure => simp [intOf]; omega
                · have HFE := HFE
                  have hg0 := blk_cell HFE.out.box 0
                  have hg1 := blk_cell HFE.out.box 1
                  have hg2 := blk_cell HFE.out.box 2
                  have hg3 := blk_cell HFE.out.box 3
                  have hg4 := blk_cell HFE.out.box 4
                  have hg5 := blk_cell HFE.out.box 5
                  have hg6 := blk_cell HFE.out.box 6
                  cases b6 with
                  | false =>
                    have HNX := Aside0.mk (show (b5 && (M.data.take (k + 1)).all (liesD M)) = false from by rw [HTK.out, ← Bool.and_assoc, ← HBK.out, Bool.false_and])
                    go_wp2_with fail
                    go_quiet (fail)
                    go_wp2_with fail
                    go_roundw
                    case rel => exact ⟨k + 1, false, by omega, by go_num, rfl, ⟨HNX.out.symm⟩, Aside0.mk (HFE.out.below (pw_below_drewN (Below.refl _ _) _))⟩
                    case measure => simp [intOf]; omega
                  | true =>
                    rcases c1 : (M.m1 == 0) with _ | _
                    · have c1b : (M.m1 != 0) = true := by show (!(M.m1 == 0)) = _; rw [c1]; rfl
                      rcases c2 : decide (wrap64 (da + (db.size : Int)) ≤ wrap64 (2 ^ (M.m1).toNat)) with _ | _
                      · have hrg : 3 ≤ M.m1 ∧ M.m1 ≤ 12 := by have h := ((limM_iff M).1 HFIT.out.lim).2.2.2.2; have h2 : M.m1 ≠ 0 := (fun e => by rw [e] at c1; cases c1); omega
                        obtain ⟨hlo, hhi⟩ := hrg
                        have HNX := Aside0.mk (show (b5 && (M.data.take (k + 1)).all (liesD M)) = false from by
                          rw [HTK.out, ← Bool.and_assoc, ← HBK.out, Bool.true_and]
                          show (!(M.m1 == 0) && decide (wrap64 (da + (db.size : Int)) ≤ wrap64 (2 ^ (M.m1).toNat))) = false
                          first | (rw [c1, c2]; done) | (rw [c1, c2]; rfl) | simp [c1, c2])
                        go_wp2_with fail
                        go_quiet (fail)
                        go_wp2_with fail
                        go_roundw
                        case rel => exact ⟨k + 1, false, by omega, by go_num, rfl, ⟨HNX.out.symm⟩, Aside0.mk (HFE.out.below (pw_below_drewN (Below.refl _ _) _))⟩
                        case measure => simp [intOf]; omega
                      · have hrg : 3 ≤ M.m1 ∧ M.m1 ≤ 12 := by have h := ((limM_iff M).1 HFIT.out.lim).2.2.2.2; have h2 : M.m1 ≠ 0 := (fun e => by rw [e] at c1; cases c1); omega
                        obtain ⟨hlo, hhi⟩ := hrg
                        have HNX := Aside0.mk (show (b5 && (M.data.take (k + 1)).all (liesD M)) = true from by
                          rw [HTK.out, ← Bool.and_assoc, ← HBK.out, Bool.true_and]
                          show (!(M.m1 == 0) && decide (wrap64 (da + (db.size : Int)) ≤ wrap64 (2 ^ (M.m1).toNat))) = true
                          first | (rw [c1, c2]; done) | (rw [c1, c2]; rfl) | simp [c1, c2])
                        go_wp2_with fail
                        go_quiet (fail)
                        go_wp2_with fail
                        go_roundw
                        case rel => exact ⟨k + 1, true, by omega, by go_num, rfl, ⟨HNX.out.symm⟩, Aside0.mk (HFE.out.below (pw_below_drewN (Below.refl _ _) _))⟩
                        case measure => simp [intOf]; omega
                    · have c1b : (M.m1 != 0) = false := by show (!(M.m1 == 0)) = _; rw [c1]; rfl
                      have HNX := Aside0.mk (show (b5 && (M.data.take (k + 1)).all (liesD M)) = false from by
                        rw [HTK.out, ← Bool.and_assoc, ← HBK.out, Bool.true_and]
                        show (!(M.m1 == 0) && decide (wrap64 (da + (db.size : Int)) ≤ wrap64 (2 ^ (M.m1).toNat))) = false
                        first | (rw [c1]; done) | (rw [c1]; rfl) | simp [c1])
                      go_wp2_with fail
                      go_quiet (fail)
                      go_wp2_with fail
                      go_roundw
                      case rel => exact ⟨k + 1, false, by omega, by go_num, rfl, ⟨HNX.out.symm⟩, Aside0.mk (HFE.out.below (pw_below_drewN (Below.refl _ _) _))⟩
                      case measure => simp [intOf]; omega
              · obtain rfl : k = M.data.length := by omega
                have HE6 := Aside0.mk (show b6 = (b5 && M.data.all (liesD M)) from by rw [HBK.out]; first | rw [List.take_length] | rfl)
                have HFW := HFK
                clear HBK HFK hlt
                have HREF0 := Aside0.mk (show refsM M = b6 from by unfold refsM; rw [HE6.out, HE5.out, HE4.out, Bool.true_and])
                cases b6 with
                | false =>
                  have HF := Aside0.mk (show validT M = some (3, 0) from by unfold validT; rw [if_neg (by rw [hf0.out]; decide), if_neg (by rw [hf0.out]; decide), if_pos HREF0.out])
                  go_wp2_with (go_at_call 25; refine (fault_calls 3 0 _).mono ?_; rintro e wq ⟨rfl, rfl⟩)
                  go_ret
                  exact val_fault 3 0 HFW.out.bel HF.out
                | true =>
                  have HREF := HREF0
                  have HSG := Aside0.mk (show M.funcs.all (sgB M) = true from by have h := HREF.out; unfold refsM at h; simp only [Bool.and_eq_true] at h; exact h.1.2)
                  clear HREF0 HE4 HE5 HE6
                  have HFS := HFW
                  have HFB := Aside0.mk (show validT M = firstBad M M.funcs.length 0 from by unfold validT; rw [if_neg (by rw [hf0.out]; decide), if_neg (by rw [hf0.out]; decide), if_neg (by rw [HREF.out]; decide)])
                  go_wp2_with fail
                  go_loopw [95] (fun iv wr => ∃ k : Nat, k ≤ M.funcs.length ∧ iv = .int .i64 k ∧ Aside0 (firstBad M (M.funcs.length - k) k = validT M) ∧ Aside0 (FW w M ⟨a1, a2, a3, a4, a5, c1, c2, c3, c4, c5⟩ wr)) (fun iv _ => M.funcs.length - (intOf iv).toNat)
                  case atStart => exact ⟨0, Nat.zero_le _, rfl, ⟨HFB.out.symm⟩, HFS⟩
                  case round =>
                    obtain ⟨k, hk, rfl, HBK, HFK⟩ := hrel
                    clear HFW HFS hz0 hz1 hz2 hz3 hz4 hz5 hz6
                    have hz0 := blk_cell HFK.out.box 0
                    have hz1 := blk_cell HFK.out.box 1
                    have hz2 := blk_cell HFK.out.box 2
                    have hz3 := blk_cell HFK.out.box 3
                    have hz4 := blk_cell HFK.out.box 4
                    have hz5 := blk_cell HFK.out.box 5
                    have hz6 := blk_cell HFK.out.box 6
                    by_cases hlt : k < M.funcs.length
                    · have HONE := Aside0.mk (one_calls M ⟨a1, a2, a3, a4, a5, c1, c2, c3, c4, c5⟩ k wr (HM.out.below HFK.out.bel) HFIT.out.fine hlt (by have := ((limM_iff M).1 HFIT.out.lim).1.2.2.1; omega) (HFIT.out.fnok HMC.out HSG.out k hlt))
                      have HSTEP := Aside0.mk (show firstBad M (M.funcs.length - k) k = (match (motive := Except (Int × Int) (List Int) → Option (Int × Int)) oneT M k with | .error x => some x | .ok _ => firstBad M (M.funcs.length - (k + 1)) (k + 1)) from by
                        have h1 : M.funcs.length - k = (M.funcs.length - (k + 1)) + 1 := by omega
                        rw [h1]
                        rfl)
                      try dsimp only at HONE
                      go_wp2_with fail
                      refine HONE.out.mono ?_
                      intro e w1 hh
                      cases ho : oneT M k with
                      | error x =>
                        obtain ⟨q, a⟩ := x
                        rw [ho] at hh HSTEP
                        obtain ⟨hb, bq, rfl, hbq, hbx⟩ := hh
                        have HF := Aside0.mk (show validT M = some (q, a) from by rw [← HBK.out, HSTEP.out])
                        have HO := Aside0.mk (And.intro (HFK.out.bel.trans (hb.mono HFK.out.bel.size)) (And.intro (Nat.le_trans HFK.out.bel.size hbq) hbx))
                        clear hb hbq hbx HONE
                        go_wp2_with fail
                        go_ret
                        rw [HF.out]
                        exact ⟨HO.out.1, _, rfl, bq, rfl, HO.out.2.1, HO.out.2.2⟩
                      | ok l =>
                        rw [ho] at hh HSTEP
                        obtain ⟨hb, vl, rfl, hR⟩ := hh
                        have HN := Aside0.mk (show firstBad M (M.funcs.length - (k + 1)) (k + 1) = validT M from by rw [← HBK.out, HSTEP.out])
                        have HFN := Aside0.mk (HFK.out.below hb)
                        clear hb hR HONE
                        go_wp2_with fail
                        go_roundw
                        case rel => exact ⟨k + 1, by omega, by go_num, HN, HFN⟩
                        case measure => simp [intOf]; omega
                    · obtain rfl : k = M.funcs.length := by omega
                      have HF := Aside0.mk (show validT M = none from by rw [← HBK.out, Nat.sub_self]; rfl)
                      go_wp2_with fail
                      go_ret
                      rw [HF.out]
                      exact ⟨HFK.out.bel, _, rfl, rfl⟩
  · have HF := Aside0.mk (show validT M = some (1, 0) from by unfold validT; rw [if_pos hf])
    rw [hf]
    clear hf
    go_wp2_with (first | (go_at_call 24; refine (As.is_errno 1 1 _).mono ?_; rintro e wq ⟨rfl, rfl⟩) | (go_at_call 25; refine (fault_calls 1 0 _).mono ?_; rintro e wq ⟨rfl, rfl⟩))
    go_ret
    exact val_fault 1 0 HFW.out.bel HF.out
  · have HF := Aside0.mk (show validT M = some (3, 0) from by unfold validT; rw [if_neg (by rw [hf]; decide), if_pos (by rw [hf]; decide)])
    rw [hf]
    clear hf
    go_wp2_with (first | (go_at_call 24; refine (As.is_errno 4 1 _).mono ?_; rintro e wq ⟨rfl, rfl⟩) | (go_at_call 25; refine (fault_calls 3 0 _).mono ?_; rintro e wq ⟨rfl, rfl⟩))
    go_ret
    exact val_fault 3 0 HFW.out.bel HF.out
end Go.Proofs.YtjjhhmchomabeaaDoor.Valid
