/- isel.Op at instructions, each walked. -/
import Derived.Test.YtngpmijbjhpfhaaIselG
namespace Go.Proofs.Ytngpmijbjhpfhaa.Isel
open Go.RowKit Go.Proofs.YtngpmijbjhpfhaaW.PrintWords Go.Proofs.YtngpmijbjhpfhaaW.PrintLast Go.Proofs.Ytngpmijbjhpfhaa.Mem
set_option linter.unusedVariables false
set_option linter.unusedSimpArgs false
set_option maxHeartbeats 4000000 in
set_option maxRecDepth 100000 in
theorem op_70 (w : World) : Calls Try.prog 5 #[.int .i64 70] w (OpOut w [⟨⟨3, false, 1, 0, 0, 7, 0⟩, 0, 0⟩, ⟨⟨13, false, 0, 0, 0, 4, 0⟩, 0, 0⟩, ⟨⟨14, false, 0, 0, 0, 0, 0⟩, 0, 0⟩] 0) := by
  go_enter Try.func5, Try.ntmps5
  go_wp2_with (first
      | (go_at_call 12; refine (arity_yes (n := 70) rfl _).mono ?_; rintro e W0 ⟨rfl, hb⟩; have HC := Aside0.mk (Cd.init hb); clear hb)
      | (go_at_call 13; refine (narrow_calls (op := 70) (k := 70) (b := false) rfl _ (by omega) (by omega)).mono ?_; rintro e w' ⟨rfl, hb⟩; replace HC := Aside0.mk (HC.out.below hb); clear hb)
      | (go_at_call 19; refine (alu_calls _ _ _ _  _).mono ?_; rintro e w' ⟨rfl, hb⟩; replace HC := Aside0.mk (HC.out.below hb); clear hb)
      | (go_at_call 33; refine (alui_calls _ _ _ _  _).mono ?_; rintro e w' ⟨rfl, hb⟩; replace HC := Aside0.mk (HC.out.below hb); clear hb)
      | (go_at_call 18; refine (num_calls _ _  _).mono ?_; rintro e w' ⟨rfl, hb⟩; replace HC := Aside0.mk (HC.out.below hb); clear hb)
      | (go_at_call 16; refine (test_calls _ _  _).mono ?_; rintro e w' ⟨rfl, hb⟩; replace HC := Aside0.mk (HC.out.below hb); clear hb))
  refine (x_calls (HC.out.alloc _) _ [⟨3, false, 1, 0, 0, 7, 0⟩, ⟨13, false, 0, 0, 0, 4, 0⟩, ⟨14, false, 0, 0, 0, 0, 0⟩] 3 (blk_new _ _) (by simp)).mono ?_
  rintro e W1 ⟨rfl, v1, hC, hK⟩
  replace hC := Aside0.mk hC
  clear HC hK
  have HC := hC
  clear hC
  simp only [List.nil_append, List.cons_append, List.map_cons, List.map_nil, List.append_nil, is, zX] at HC
  have hc := blk_cell HC.out.box 0
  go_wp2_with fail
  exact bodyPost_ret (by simp [results, Try.results5, go_sem]) rfl ⟨_, rfl, Kd.R_mono HC.out.row (fun _ _ => trivial), HC.out.bel⟩
set_option maxHeartbeats 4000000 in
set_option maxRecDepth 100000 in
theorem op_72 (w : World) : Calls Try.prog 5 #[.int .i64 72] w (OpOut w [⟨⟨3, false, 1, 0, 0, 7, 0⟩, 0, 0⟩, ⟨⟨13, false, 0, 0, 0, 12, 0⟩, 0, 0⟩, ⟨⟨14, false, 0, 0, 0, 0, 0⟩, 0, 0⟩] 0) := by
  go_enter Try.func5, Try.ntmps5
  go_wp2_with (first
      | (go_at_call 12; refine (arity_yes (n := 72) rfl _).mono ?_; rintro e W0 ⟨rfl, hb⟩; have HC := Aside0.mk (Cd.init hb); clear hb)
      | (go_at_call 13; refine (narrow_calls (op := 72) (k := 72) (b := false) rfl _ (by omega) (by omega)).mono ?_; rintro e w' ⟨rfl, hb⟩; replace HC := Aside0.mk (HC.out.below hb); clear hb)
      | (go_at_call 19; refine (alu_calls _ _ _ _  _).mono ?_; rintro e w' ⟨rfl, hb⟩; replace HC := Aside0.mk (HC.out.below hb); clear hb)
      | (go_at_call 33; refine (alui_calls _ _ _ _  _).mono ?_; rintro e w' ⟨rfl, hb⟩; replace HC := Aside0.mk (HC.out.below hb); clear hb)
      | (go_at_call 18; refine (num_calls _ _  _).mono ?_; rintro e w' ⟨rfl, hb⟩; replace HC := Aside0.mk (HC.out.below hb); clear hb)
      | (go_at_call 16; refine (test_calls _ _  _).mono ?_; rintro e w' ⟨rfl, hb⟩; replace HC := Aside0.mk (HC.out.below hb); clear hb))
  refine (x_calls (HC.out.alloc _) _ [⟨3, false, 1, 0, 0, 7, 0⟩, ⟨13, false, 0, 0, 0, 12, 0⟩, ⟨14, false, 0, 0, 0, 0, 0⟩] 3 (blk_new _ _) (by simp)).mono ?_
  rintro e W1 ⟨rfl, v1, hC, hK⟩
  replace hC := Aside0.mk hC
  clear HC hK
  have HC := hC
  clear hC
  simp only [List.nil_append, List.cons_append, List.map_cons, List.map_nil, List.append_nil, is, zX] at HC
  have hc := blk_cell HC.out.box 0
  go_wp2_with fail
  exact bodyPost_ret (by simp [results, Try.results5, go_sem]) rfl ⟨_, rfl, Kd.R_mono HC.out.row (fun _ _ => trivial), HC.out.bel⟩
set_option maxHeartbeats 4000000 in
set_option maxRecDepth 100000 in
theorem op_74 (w : World) : Calls Try.prog 5 #[.int .i64 74] w (OpOut w [⟨⟨3, false, 1, 0, 0, 7, 0⟩, 0, 0⟩, ⟨⟨13, false, 0, 0, 0, 15, 0⟩, 0, 0⟩, ⟨⟨14, false, 0, 0, 0, 0, 0⟩, 0, 0⟩] 0) := by
  go_enter Try.func5, Try.ntmps5
  go_wp2_with (first
      | (go_at_call 12; refine (arity_yes (n := 74) rfl _).mono ?_; rintro e W0 ⟨rfl, hb⟩; have HC := Aside0.mk (Cd.init hb); clear hb)
      | (go_at_call 13; refine (narrow_calls (op := 74) (k := 74) (b := false) rfl _ (by omega) (by omega)).mono ?_; rintro e w' ⟨rfl, hb⟩; replace HC := Aside0.mk (HC.out.below hb); clear hb)
      | (go_at_call 19; refine (alu_calls _ _ _ _  _).mono ?_; rintro e w' ⟨rfl, hb⟩; replace HC := Aside0.mk (HC.out.below hb); clear hb)
      | (go_at_call 33; refine (alui_calls _ _ _ _  _).mono ?_; rintro e w' ⟨rfl, hb⟩; replace HC := Aside0.mk (HC.out.below hb); clear hb)
      | (go_at_call 18; refine (num_calls _ _  _).mono ?_; rintro e w' ⟨rfl, hb⟩; replace HC := Aside0.mk (HC.out.below hb); clear hb)
      | (go_at_call 16; refine (test_calls _ _  _).mono ?_; rintro e w' ⟨rfl, hb⟩; replace HC := Aside0.mk (HC.out.below hb); clear hb))
  refine (x_calls (HC.out.alloc _) _ [⟨3, false, 1, 0, 0, 7, 0⟩, ⟨13, false, 0, 0, 0, 15, 0⟩, ⟨14, false, 0, 0, 0, 0, 0⟩] 3 (blk_new _ _) (by simp)).mono ?_
  rintro e W1 ⟨rfl, v1, hC, hK⟩
  replace hC := Aside0.mk hC
  clear HC hK
  have HC := hC
  clear hC
  simp only [List.nil_append, List.cons_append, List.map_cons, List.map_nil, List.append_nil, is, zX] at HC
  have hc := blk_cell HC.out.box 0
  go_wp2_with fail
  exact bodyPost_ret (by simp [results, Try.results5, go_sem]) rfl ⟨_, rfl, Kd.R_mono HC.out.row (fun _ _ => trivial), HC.out.bel⟩
set_option maxHeartbeats 4000000 in
set_option maxRecDepth 100000 in
theorem op_76 (w : World) : Calls Try.prog 5 #[.int .i64 76] w (OpOut w [⟨⟨3, false, 1, 0, 0, 7, 0⟩, 0, 0⟩, ⟨⟨13, false, 0, 0, 0, 14, 0⟩, 0, 0⟩, ⟨⟨14, false, 0, 0, 0, 0, 0⟩, 0, 0⟩] 0) := by
  go_enter Try.func5, Try.ntmps5
  go_wp2_with (first
      | (go_at_call 12; refine (arity_yes (n := 76) rfl _).mono ?_; rintro e W0 ⟨rfl, hb⟩; have HC := Aside0.mk (Cd.init hb); clear hb)
      | (go_at_call 13; refine (narrow_calls (op := 76) (k := 76) (b := false) rfl _ (by omega) (by omega)).mono ?_; rintro e w' ⟨rfl, hb⟩; replace HC := Aside0.mk (HC.out.below hb); clear hb)
      | (go_at_call 19; refine (alu_calls _ _ _ _  _).mono ?_; rintro e w' ⟨rfl, hb⟩; replace HC := Aside0.mk (HC.out.below hb); clear hb)
      | (go_at_call 33; refine (alui_calls _ _ _ _  _).mono ?_; rintro e w' ⟨rfl, hb⟩; replace HC := Aside0.mk (HC.out.below hb); clear hb)
      | (go_at_call 18; refine (num_calls _ _  _).mono ?_; rintro e w' ⟨rfl, hb⟩; replace HC := Aside0.mk (HC.out.below hb); clear hb)
      | (go_at_call 16; refine (test_calls _ _  _).mono ?_; rintro e w' ⟨rfl, hb⟩; replace HC := Aside0.mk (HC.out.below hb); clear hb))
  refine (x_calls (HC.out.alloc _) _ [⟨3, false, 1, 0, 0, 7, 0⟩, ⟨13, false, 0, 0, 0, 14, 0⟩, ⟨14, false, 0, 0, 0, 0, 0⟩] 3 (blk_new _ _) (by simp)).mono ?_
  rintro e W1 ⟨rfl, v1, hC, hK⟩
  replace hC := Aside0.mk hC
  clear HC hK
  have HC := hC
  clear hC
  simp only [List.nil_append, List.cons_append, List.map_cons, List.map_nil, List.append_nil, is, zX] at HC
  have hc := blk_cell HC.out.box 0
  go_wp2_with fail
  exact bodyPost_ret (by simp [results, Try.results5, go_sem]) rfl ⟨_, rfl, Kd.R_mono HC.out.row (fun _ _ => trivial), HC.out.bel⟩
set_option maxHeartbeats 4000000 in
set_option maxRecDepth 100000 in
theorem op_78 (w : World) : Calls Try.prog 5 #[.int .i64 78] w (OpOut w [⟨⟨3, false, 1, 0, 0, 7, 0⟩, 0, 0⟩, ⟨⟨13, false, 0, 0, 0, 13, 0⟩, 0, 0⟩, ⟨⟨14, false, 0, 0, 0, 0, 0⟩, 0, 0⟩] 0) := by
  go_enter Try.func5, Try.ntmps5
  go_wp2_with (first
      | (go_at_call 12; refine (arity_yes (n := 78) rfl _).mono ?_; rintro e W0 ⟨rfl, hb⟩; have HC := Aside0.mk (Cd.init hb); clear hb)
      | (go_at_call 13; refine (narrow_calls (op := 78) (k := 78) (b := false) rfl _ (by omega) (by omega)).mono ?_; rintro e w' ⟨rfl, hb⟩; replace HC := Aside0.mk (HC.out.below hb); clear hb)
      | (go_at_call 19; refine (alu_calls _ _ _ _  _).mono ?_; rintro e w' ⟨rfl, hb⟩; replace HC := Aside0.mk (HC.out.below hb); clear hb)
      | (go_at_call 33; refine (alui_calls _ _ _ _  _).mono ?_; rintro e w' ⟨rfl, hb⟩; replace HC := Aside0.mk (HC.out.below hb); clear hb)
      | (go_at_call 18; refine (num_calls _ _  _).mono ?_; rintro e w' ⟨rfl, hb⟩; replace HC := Aside0.mk (HC.out.below hb); clear hb)
      | (go_at_call 16; refine (test_calls _ _  _).mono ?_; rintro e w' ⟨rfl, hb⟩; replace HC := Aside0.mk (HC.out.below hb); clear hb))
  refine (x_calls (HC.out.alloc _) _ [⟨3, false, 1, 0, 0, 7, 0⟩, ⟨13, false, 0, 0, 0, 13, 0⟩, ⟨14, false, 0, 0, 0, 0, 0⟩] 3 (blk_new _ _) (by simp)).mono ?_
  rintro e W1 ⟨rfl, v1, hC, hK⟩
  replace hC := Aside0.mk hC
  clear HC hK
  have HC := hC
  clear hC
  simp only [List.nil_append, List.cons_append, List.map_cons, List.map_nil, List.append_nil, is, zX] at HC
  have hc := blk_cell HC.out.box 0
  go_wp2_with fail
  exact bodyPost_ret (by simp [results, Try.results5, go_sem]) rfl ⟨_, rfl, Kd.R_mono HC.out.row (fun _ _ => trivial), HC.out.bel⟩
set_option maxHeartbeats 4000000 in
set_option maxRecDepth 100000 in
theorem op_80 (w : World) : Calls Try.prog 5 #[.int .i64 80] w (OpOut w [⟨⟨5, true, 0, 0, 0, 0, 0⟩, 0, 0⟩, ⟨⟨13, false, 0, 0, 0, 4, 0⟩, 0, 0⟩, ⟨⟨14, false, 0, 0, 0, 0, 0⟩, 0, 0⟩] 0) := by
  go_enter Try.func5, Try.ntmps5
  go_wp2_with (first
      | (go_at_call 12; refine (arity_yes (n := 80) rfl _).mono ?_; rintro e W0 ⟨rfl, hb⟩; have HC := Aside0.mk (Cd.init hb); clear hb)
      | (go_at_call 13; refine (narrow_calls (op := 80) (k := 69) (b := true) rfl _ (by omega) (by omega)).mono ?_; rintro e w' ⟨rfl, hb⟩; replace HC := Aside0.mk (HC.out.below hb); clear hb)
      | (go_at_call 19; refine (alu_calls _ _ _ _  _).mono ?_; rintro e w' ⟨rfl, hb⟩; replace HC := Aside0.mk (HC.out.below hb); clear hb)
      | (go_at_call 33; refine (alui_calls _ _ _ _  _).mono ?_; rintro e w' ⟨rfl, hb⟩; replace HC := Aside0.mk (HC.out.below hb); clear hb)
      | (go_at_call 18; refine (num_calls _ _  _).mono ?_; rintro e w' ⟨rfl, hb⟩; replace HC := Aside0.mk (HC.out.below hb); clear hb)
      | (go_at_call 16; refine (test_calls _ _  _).mono ?_; rintro e w' ⟨rfl, hb⟩; replace HC := Aside0.mk (HC.out.below hb); clear hb))
  refine (x_calls (HC.out.alloc _) _ [⟨5, true, 0, 0, 0, 0, 0⟩, ⟨13, false, 0, 0, 0, 4, 0⟩, ⟨14, false, 0, 0, 0, 0, 0⟩] 3 (blk_new _ _) (by simp)).mono ?_
  rintro e W1 ⟨rfl, v1, hC, hK⟩
  replace hC := Aside0.mk hC
  clear HC hK
  have HC := hC
  clear hC
  simp only [List.nil_append, List.cons_append, List.map_cons, List.map_nil, List.append_nil, is, zX] at HC
  have hc := blk_cell HC.out.box 0
  go_wp2_with fail
  exact bodyPost_ret (by simp [results, Try.results5, go_sem]) rfl ⟨_, rfl, Kd.R_mono HC.out.row (fun _ _ => trivial), HC.out.bel⟩
set_option maxHeartbeats 4000000 in
set_option maxRecDepth 100000 in
theorem op_82 (w : World) : Calls Try.prog 5 #[.int .i64 82] w (OpOut w [⟨⟨3, true, 1, 0, 0, 7, 0⟩, 0, 0⟩, ⟨⟨13, false, 0, 0, 0, 5, 0⟩, 0, 0⟩, ⟨⟨14, false, 0, 0, 0, 0, 0⟩, 0, 0⟩] 0) := by
  go_enter Try.func5, Try.ntmps5
  go_wp2_with (first
      | (go_at_call 12; refine (arity_yes (n := 82) rfl _).mono ?_; rintro e W0 ⟨rfl, hb⟩; have HC := Aside0.mk (Cd.init hb); clear hb)
      | (go_at_call 13; refine (narrow_calls (op := 82) (k := 71) (b := true) rfl _ (by omega) (by omega)).mono ?_; rintro e w' ⟨rfl, hb⟩; replace HC := Aside0.mk (HC.out.below hb); clear hb)
      | (go_at_call 19; refine (alu_calls _ _ _ _  _).mono ?_; rintro e w' ⟨rfl, hb⟩; replace HC := Aside0.mk (HC.out.below hb); clear hb)
      | (go_at_call 33; refine (alui_calls _ _ _ _  _).mono ?_; rintro e w' ⟨rfl, hb⟩; replace HC := Aside0.mk (HC.out.below hb); clear hb)
      | (go_at_call 18; refine (num_calls _ _  _).mono ?_; rintro e w' ⟨rfl, hb⟩; replace HC := Aside0.mk (HC.out.below hb); clear hb)
      | (go_at_call 16; refine (test_calls _ _  _).mono ?_; rintro e w' ⟨rfl, hb⟩; replace HC := Aside0.mk (HC.out.below hb); clear hb))
  refine (x_calls (HC.out.alloc _) _ [⟨3, true, 1, 0, 0, 7, 0⟩, ⟨13, false, 0, 0, 0, 5, 0⟩, ⟨14, false, 0, 0, 0, 0, 0⟩] 3 (blk_new _ _) (by simp)).mono ?_
  rintro e W1 ⟨rfl, v1, hC, hK⟩
  replace hC := Aside0.mk hC
  clear HC hK
  have HC := hC
  clear hC
  simp only [List.nil_append, List.cons_append, List.map_cons, List.map_nil, List.append_nil, is, zX] at HC
  have hc := blk_cell HC.out.box 0
  go_wp2_with fail
  exact bodyPost_ret (by simp [results, Try.results5, go_sem]) rfl ⟨_, rfl, Kd.R_mono HC.out.row (fun _ _ => trivial), HC.out.bel⟩
set_option maxHeartbeats 4000000 in
set_option maxRecDepth 100000 in
theorem op_84 (w : World) : Calls Try.prog 5 #[.int .i64 84] w (OpOut w [⟨⟨3, true, 1, 0, 0, 7, 0⟩, 0, 0⟩, ⟨⟨13, false, 0, 0, 0, 2, 0⟩, 0, 0⟩, ⟨⟨14, false, 0, 0, 0, 0, 0⟩, 0, 0⟩] 0) := by
  go_enter Try.func5, Try.ntmps5
  go_wp2_with (first
      | (go_at_call 12; refine (arity_yes (n := 84) rfl _).mono ?_; rintro e W0 ⟨rfl, hb⟩; have HC := Aside0.mk (Cd.init hb); clear hb)
      | (go_at_call 13; refine (narrow_calls (op := 84) (k := 73) (b := true) rfl _ (by omega) (by omega)).mono ?_; rintro e w' ⟨rfl, hb⟩; replace HC := Aside0.mk (HC.out.below hb); clear hb)
      | (go_at_call 19; refine (alu_calls _ _ _ _  _).mono ?_; rintro e w' ⟨rfl, hb⟩; replace HC := Aside0.mk (HC.out.below hb); clear hb)
      | (go_at_call 33; refine (alui_calls _ _ _ _  _).mono ?_; rintro e w' ⟨rfl, hb⟩; replace HC := Aside0.mk (HC.out.below hb); clear hb)
      | (go_at_call 18; refine (num_calls _ _  _).mono ?_; rintro e w' ⟨rfl, hb⟩; replace HC := Aside0.mk (HC.out.below hb); clear hb)
      | (go_at_call 16; refine (test_calls _ _  _).mono ?_; rintro e w' ⟨rfl, hb⟩; replace HC := Aside0.mk (HC.out.below hb); clear hb))
  refine (x_calls (HC.out.alloc _) _ [⟨3, true, 1, 0, 0, 7, 0⟩, ⟨13, false, 0, 0, 0, 2, 0⟩, ⟨14, false, 0, 0, 0, 0, 0⟩] 3 (blk_new _ _) (by simp)).mono ?_
  rintro e W1 ⟨rfl, v1, hC, hK⟩
  replace hC := Aside0.mk hC
  clear HC hK
  have HC := hC
  clear hC
  simp only [List.nil_append, List.cons_append, List.map_cons, List.map_nil, List.append_nil, is, zX] at HC
  have hc := blk_cell HC.out.box 0
  go_wp2_with fail
  exact bodyPost_ret (by simp [results, Try.results5, go_sem]) rfl ⟨_, rfl, Kd.R_mono HC.out.row (fun _ _ => trivial), HC.out.bel⟩
set_option maxHeartbeats 4000000 in
set_option maxRecDepth 100000 in
theorem op_86 (w : World) : Calls Try.prog 5 #[.int .i64 86] w (OpOut w [⟨⟨3, true, 1, 0, 0, 7, 0⟩, 0, 0⟩, ⟨⟨13, false, 0, 0, 0, 7, 0⟩, 0, 0⟩, ⟨⟨14, false, 0, 0, 0, 0, 0⟩, 0, 0⟩] 0) := by
  go_enter Try.func5, Try.ntmps5
  go_wp2_with (first
      | (go_at_call 12; refine (arity_yes (n := 86) rfl _).mono ?_; rintro e W0 ⟨rfl, hb⟩; have HC := Aside0.mk (Cd.init hb); clear hb)
      | (go_at_call 13; refine (narrow_calls (op := 86) (k := 75) (b := true) rfl _ (by omega) (by omega)).mono ?_; rintro e w' ⟨rfl, hb⟩; replace HC := Aside0.mk (HC.out.below hb); clear hb)
      | (go_at_call 19; refine (alu_calls _ _ _ _  _).mono ?_; rintro e w' ⟨rfl, hb⟩; replace HC := Aside0.mk (HC.out.below hb); clear hb)
      | (go_at_call 33; refine (alui_calls _ _ _ _  _).mono ?_; rintro e w' ⟨rfl, hb⟩; replace HC := Aside0.mk (HC.out.below hb); clear hb)
      | (go_at_call 18; refine (num_calls _ _  _).mono ?_; rintro e w' ⟨rfl, hb⟩; replace HC := Aside0.mk (HC.out.below hb); clear hb)
      | (go_at_call 16; refine (test_calls _ _  _).mono ?_; rintro e w' ⟨rfl, hb⟩; replace HC := Aside0.mk (HC.out.below hb); clear hb))
  refine (x_calls (HC.out.alloc _) _ [⟨3, true, 1, 0, 0, 7, 0⟩, ⟨13, false, 0, 0, 0, 7, 0⟩, ⟨14, false, 0, 0, 0, 0, 0⟩] 3 (blk_new _ _) (by simp)).mono ?_
  rintro e W1 ⟨rfl, v1, hC, hK⟩
  replace hC := Aside0.mk hC
  clear HC hK
  have HC := hC
  clear hC
  simp only [List.nil_append, List.cons_append, List.map_cons, List.map_nil, List.append_nil, is, zX] at HC
  have hc := blk_cell HC.out.box 0
  go_wp2_with fail
  exact bodyPost_ret (by simp [results, Try.results5, go_sem]) rfl ⟨_, rfl, Kd.R_mono HC.out.row (fun _ _ => trivial), HC.out.bel⟩
set_option maxHeartbeats 4000000 in
set_option maxRecDepth 100000 in
theorem op_88 (w : World) : Calls Try.prog 5 #[.int .i64 88] w (OpOut w [⟨⟨3, true, 1, 0, 0, 7, 0⟩, 0, 0⟩, ⟨⟨13, false, 0, 0, 0, 6, 0⟩, 0, 0⟩, ⟨⟨14, false, 0, 0, 0, 0, 0⟩, 0, 0⟩] 0) := by
  go_enter Try.func5, Try.ntmps5
  go_wp2_with (first
      | (go_at_call 12; refine (arity_yes (n := 88) rfl _).mono ?_; rintro e W0 ⟨rfl, hb⟩; have HC := Aside0.mk (Cd.init hb); clear hb)
      | (go_at_call 13; refine (narrow_calls (op := 88) (k := 77) (b := true) rfl _ (by omega) (by omega)).mono ?_; rintro e w' ⟨rfl, hb⟩; replace HC := Aside0.mk (HC.out.below hb); clear hb)
      | (go_at_call 19; refine (alu_calls _ _ _ _  _).mono ?_; rintro e w' ⟨rfl, hb⟩; replace HC := Aside0.mk (HC.out.below hb); clear hb)
      | (go_at_call 33; refine (alui_calls _ _ _ _  _).mono ?_; rintro e w' ⟨rfl, hb⟩; replace HC := Aside0.mk (HC.out.below hb); clear hb)
      | (go_at_call 18; refine (num_calls _ _  _).mono ?_; rintro e w' ⟨rfl, hb⟩; replace HC := Aside0.mk (HC.out.below hb); clear hb)
      | (go_at_call 16; refine (test_calls _ _  _).mono ?_; rintro e w' ⟨rfl, hb⟩; replace HC := Aside0.mk (HC.out.below hb); clear hb))
  refine (x_calls (HC.out.alloc _) _ [⟨3, true, 1, 0, 0, 7, 0⟩, ⟨13, false, 0, 0, 0, 6, 0⟩, ⟨14, false, 0, 0, 0, 0, 0⟩] 3 (blk_new _ _) (by simp)).mono ?_
  rintro e W1 ⟨rfl, v1, hC, hK⟩
  replace hC := Aside0.mk hC
  clear HC hK
  have HC := hC
  clear hC
  simp only [List.nil_append, List.cons_append, List.map_cons, List.map_nil, List.append_nil, is, zX] at HC
  have hc := blk_cell HC.out.box 0
  go_wp2_with fail
  exact bodyPost_ret (by simp [results, Try.results5, go_sem]) rfl ⟨_, rfl, Kd.R_mono HC.out.row (fun _ _ => trivial), HC.out.bel⟩
set_option maxHeartbeats 4000000 in
set_option maxRecDepth 100000 in
theorem op_90 (w : World) : Calls Try.prog 5 #[.int .i64 90] w (OpOut w [⟨⟨3, true, 1, 0, 0, 7, 0⟩, 0, 0⟩, ⟨⟨13, false, 0, 0, 0, 3, 0⟩, 0, 0⟩, ⟨⟨14, false, 0, 0, 0, 0, 0⟩, 0, 0⟩] 0) := by
  go_enter Try.func5, Try.ntmps5
  go_wp2_with (first
      | (go_at_call 12; refine (arity_yes (n := 90) rfl _).mono ?_; rintro e W0 ⟨rfl, hb⟩; have HC := Aside0.mk (Cd.init hb); clear hb)
      | (go_at_call 13; refine (narrow_calls (op := 90) (k := 79) (b := true) rfl _ (by omega) (by omega)).mono ?_; rintro e w' ⟨rfl, hb⟩; replace HC := Aside0.mk (HC.out.below hb); clear hb)
      | (go_at_call 19; refine (alu_calls _ _ _ _  _).mono ?_; rintro e w' ⟨rfl, hb⟩; replace HC := Aside0.mk (HC.out.below hb); clear hb)
      | (go_at_call 33; refine (alui_calls _ _ _ _  _).mono ?_; rintro e w' ⟨rfl, hb⟩; replace HC := Aside0.mk (HC.out.below hb); clear hb)
      | (go_at_call 18; refine (num_calls _ _  _).mono ?_; rintro e w' ⟨rfl, hb⟩; replace HC := Aside0.mk (HC.out.below hb); clear hb)
      | (go_at_call 16; refine (test_calls _ _  _).mono ?_; rintro e w' ⟨rfl, hb⟩; replace HC := Aside0.mk (HC.out.below hb); clear hb))
  refine (x_calls (HC.out.alloc _) _ [⟨3, true, 1, 0, 0, 7, 0⟩, ⟨13, false, 0, 0, 0, 3, 0⟩, ⟨14, false, 0, 0, 0, 0, 0⟩] 3 (blk_new _ _) (by simp)).mono ?_
  rintro e W1 ⟨rfl, v1, hC, hK⟩
  replace hC := Aside0.mk hC
  clear HC hK
  have HC := hC
  clear hC
  simp only [List.nil_append, List.cons_append, List.map_cons, List.map_nil, List.append_nil, is, zX] at HC
  have hc := blk_cell HC.out.box 0
  go_wp2_with fail
  exact bodyPost_ret (by simp [results, Try.results5, go_sem]) rfl ⟨_, rfl, Kd.R_mono HC.out.row (fun _ _ => trivial), HC.out.bel⟩
set_option maxHeartbeats 4000000 in
set_option maxRecDepth 100000 in
theorem op_107 (w : World) : Calls Try.prog 5 #[.int .i64 107] w (OpOut w [⟨⟨3, false, 1, 0, 0, 5, 0⟩, 0, 0⟩] 0) := by
  go_enter Try.func5, Try.ntmps5
  go_wp2_with (first
      | (go_at_call 12; refine (arity_yes (n := 107) rfl _).mono ?_; rintro e W0 ⟨rfl, hb⟩; have HC := Aside0.mk (Cd.init hb); clear hb)
      | (go_at_call 13; refine (narrow_calls (op := 107) (k := 107) (b := false) rfl _ (by omega) (by omega)).mono ?_; rintro e w' ⟨rfl, hb⟩; replace HC := Aside0.mk (HC.out.below hb); clear hb)
      | (go_at_call 19; refine (alu_calls _ _ _ _  _).mono ?_; rintro e w' ⟨rfl, hb⟩; replace HC := Aside0.mk (HC.out.below hb); clear hb)
      | (go_at_call 33; refine (alui_calls _ _ _ _  _).mono ?_; rintro e w' ⟨rfl, hb⟩; replace HC := Aside0.mk (HC.out.below hb); clear hb)
      | (go_at_call 18; refine (num_calls _ _  _).mono ?_; rintro e w' ⟨rfl, hb⟩; replace HC := Aside0.mk (HC.out.below hb); clear hb)
      | (go_at_call 16; refine (test_calls _ _  _).mono ?_; rintro e w' ⟨rfl, hb⟩; replace HC := Aside0.mk (HC.out.below hb); clear hb))
  refine (x_calls (HC.out.alloc _) _ [⟨3, false, 1, 0, 0, 5, 0⟩] 1 (blk_new _ _) (by simp)).mono ?_
  rintro e W1 ⟨rfl, v1, hC, hK⟩
  replace hC := Aside0.mk hC
  clear HC hK
  have HC := hC
  clear hC
  simp only [List.nil_append, List.cons_append, List.map_cons, List.map_nil, List.append_nil, is, zX] at HC
  have hc := blk_cell HC.out.box 0
  go_wp2_with fail
  exact bodyPost_ret (by simp [results, Try.results5, go_sem]) rfl ⟨_, rfl, Kd.R_mono HC.out.row (fun _ _ => trivial), HC.out.bel⟩
set_option maxHeartbeats 4000000 in
set_option maxRecDepth 100000 in
theorem op_109 (w : World) : Calls Try.prog 5 #[.int .i64 109] w (OpOut w [⟨⟨5, false, 1, 1, 0, 0, 0⟩, 0, 0⟩, ⟨⟨18, false, 0, 0, 0, 4, 0⟩, 0, 1⟩, ⟨⟨4, false, 0, 1, 0, 7, -1⟩, 0, 0⟩, ⟨⟨18, false, 0, 0, 0, 5, 0⟩, 0, 100⟩, ⟨⟨2, true, 2, 0, 0, 0, 2147483648⟩, 0, 0⟩, ⟨⟨3, false, 2, 0, 0, 7, 0⟩, 0, 0⟩, ⟨⟨18, false, 0, 0, 0, 4, 0⟩, 0, 2⟩, ⟨⟨0, false, 0, 0, 0, 0, 0⟩, 100, 0⟩, ⟨⟨10, false, 0, 0, 0, 0, 0⟩, 0, 0⟩, ⟨⟨9, false, 0, 1, 0, 0, 0⟩, 0, 0⟩] 1) := by
  go_enter Try.func5, Try.ntmps5
  go_wp2_with (first
      | (go_at_call 12; refine (arity_yes (n := 109) rfl _).mono ?_; rintro e W0 ⟨rfl, hb⟩; have HC := Aside0.mk (Cd.init hb); clear hb)
      | (go_at_call 13; refine (narrow_calls (op := 109) (k := 109) (b := false) rfl _ (by omega) (by omega)).mono ?_; rintro e w' ⟨rfl, hb⟩; replace HC := Aside0.mk (HC.out.below hb); clear hb)
      | (go_at_call 19; refine (alu_calls _ _ _ _  _).mono ?_; rintro e w' ⟨rfl, hb⟩; replace HC := Aside0.mk (HC.out.below hb); clear hb)
      | (go_at_call 33; refine (alui_calls _ _ _ _  _).mono ?_; rintro e w' ⟨rfl, hb⟩; replace HC := Aside0.mk (HC.out.below hb); clear hb)
      | (go_at_call 18; refine (num_calls _ _  _).mono ?_; rintro e w' ⟨rfl, hb⟩; replace HC := Aside0.mk (HC.out.below hb); clear hb)
      | (go_at_call 16; refine (test_calls _ _  _).mono ?_; rintro e w' ⟨rfl, hb⟩; replace HC := Aside0.mk (HC.out.below hb); clear hb))
  refine (signed_109_n HC.out).mono ?_
  rintro e W1 ⟨rfl, v1, hC⟩
  replace hC := Aside0.mk hC
  clear HC
  have HC := hC
  clear hC
  have hc := blk_cell HC.out.box 0
  go_wp2_with fail
  exact bodyPost_ret (by simp [results, Try.results5, go_sem]) rfl ⟨_, rfl, Kd.R_mono HC.out.row (fun _ _ => trivial), HC.out.bel⟩
set_option maxHeartbeats 4000000 in
set_option maxRecDepth 100000 in
theorem op_111 (w : World) : Calls Try.prog 5 #[.int .i64 111] w (OpOut w [⟨⟨5, false, 1, 1, 0, 0, 0⟩, 0, 0⟩, ⟨⟨18, false, 0, 0, 0, 4, 0⟩, 0, 1⟩, ⟨⟨4, false, 0, 1, 0, 7, -1⟩, 0, 0⟩, ⟨⟨18, false, 0, 0, 0, 5, 0⟩, 0, 100⟩, ⟨⟨2, true, 2, 0, 0, 0, 0⟩, 0, 0⟩, ⟨⟨17, false, 0, 0, 0, 0, 0⟩, 0, 101⟩, ⟨⟨0, false, 0, 0, 0, 0, 0⟩, 100, 0⟩, ⟨⟨10, false, 0, 0, 0, 0, 0⟩, 0, 0⟩, ⟨⟨9, false, 0, 1, 0, 0, 0⟩, 0, 0⟩, ⟨⟨0, false, 0, 0, 0, 0, 0⟩, 101, 0⟩, ⟨⟨1, true, 2, 0, 0, 0, 0⟩, 0, 0⟩] 2) := by
  go_enter Try.func5, Try.ntmps5
  go_wp2_with (first
      | (go_at_call 12; refine (arity_yes (n := 111) rfl _).mono ?_; rintro e W0 ⟨rfl, hb⟩; have HC := Aside0.mk (Cd.init hb); clear hb)
      | (go_at_call 13; refine (narrow_calls (op := 111) (k := 111) (b := false) rfl _ (by omega) (by omega)).mono ?_; rintro e w' ⟨rfl, hb⟩; replace HC := Aside0.mk (HC.out.below hb); clear hb)
      | (go_at_call 19; refine (alu_calls _ _ _ _  _).mono ?_; rintro e w' ⟨rfl, hb⟩; replace HC := Aside0.mk (HC.out.below hb); clear hb)
      | (go_at_call 33; refine (alui_calls _ _ _ _  _).mono ?_; rintro e w' ⟨rfl, hb⟩; replace HC := Aside0.mk (HC.out.below hb); clear hb)
      | (go_at_call 18; refine (num_calls _ _  _).mono ?_; rintro e w' ⟨rfl, hb⟩; replace HC := Aside0.mk (HC.out.below hb); clear hb)
      | (go_at_call 16; refine (test_calls _ _  _).mono ?_; rintro e w' ⟨rfl, hb⟩; replace HC := Aside0.mk (HC.out.below hb); clear hb))
  refine (signed_111_n HC.out).mono ?_
  rintro e W1 ⟨rfl, v1, hC⟩
  replace hC := Aside0.mk hC
  clear HC
  have HC := hC
  clear hC
  have hc := blk_cell HC.out.box 0
  go_wp2_with fail
  exact bodyPost_ret (by simp [results, Try.results5, go_sem]) rfl ⟨_, rfl, Kd.R_mono HC.out.row (fun _ _ => trivial), HC.out.bel⟩
set_option maxHeartbeats 4000000 in
set_option maxRecDepth 100000 in
theorem op_113 (w : World) : Calls Try.prog 5 #[.int .i64 113] w (OpOut w [⟨⟨3, false, 1, 0, 0, 4, 0⟩, 0, 0⟩] 0) := by
  go_enter Try.func5, Try.ntmps5
  go_wp2_with (first
      | (go_at_call 12; refine (arity_yes (n := 113) rfl _).mono ?_; rintro e W0 ⟨rfl, hb⟩; have HC := Aside0.mk (Cd.init hb); clear hb)
      | (go_at_call 13; refine (narrow_calls (op := 113) (k := 113) (b := false) rfl _ (by omega) (by omega)).mono ?_; rintro e w' ⟨rfl, hb⟩; replace HC := Aside0.mk (HC.out.below hb); clear hb)
      | (go_at_call 19; refine (alu_calls _ _ _ _  _).mono ?_; rintro e w' ⟨rfl, hb⟩; replace HC := Aside0.mk (HC.out.below hb); clear hb)
      | (go_at_call 33; refine (alui_calls _ _ _ _  _).mono ?_; rintro e w' ⟨rfl, hb⟩; replace HC := Aside0.mk (HC.out.below hb); clear hb)
      | (go_at_call 18; refine (num_calls _ _  _).mono ?_; rintro e w' ⟨rfl, hb⟩; replace HC := Aside0.mk (HC.out.below hb); clear hb)
      | (go_at_call 16; refine (test_calls _ _  _).mono ?_; rintro e w' ⟨rfl, hb⟩; replace HC := Aside0.mk (HC.out.below hb); clear hb))
  refine (x_calls (HC.out.alloc _) _ [⟨3, false, 1, 0, 0, 4, 0⟩] 1 (blk_new _ _) (by simp)).mono ?_
  rintro e W1 ⟨rfl, v1, hC, hK⟩
  replace hC := Aside0.mk hC
  clear HC hK
  have HC := hC
  clear hC
  simp only [List.nil_append, List.cons_append, List.map_cons, List.map_nil, List.append_nil, is, zX] at HC
  have hc := blk_cell HC.out.box 0
  go_wp2_with fail
  exact bodyPost_ret (by simp [results, Try.results5, go_sem]) rfl ⟨_, rfl, Kd.R_mono HC.out.row (fun _ _ => trivial), HC.out.bel⟩
set_option maxHeartbeats 4000000 in
set_option maxRecDepth 100000 in
theorem op_115 (w : World) : Calls Try.prog 5 #[.int .i64 115] w (OpOut w [⟨⟨3, false, 1, 0, 0, 6, 0⟩, 0, 0⟩] 0) := by
  go_enter Try.func5, Try.ntmps5
  go_wp2_with (first
      | (go_at_call 12; refine (arity_yes (n := 115) rfl _).mono ?_; rintro e W0 ⟨rfl, hb⟩; have HC := Aside0.mk (Cd.init hb); clear hb)
      | (go_at_call 13; refine (narrow_calls (op := 115) (k := 115) (b := false) rfl _ (by omega) (by omega)).mono ?_; rintro e w' ⟨rfl, hb⟩; replace HC := Aside0.mk (HC.out.below hb); clear hb)
      | (go_at_call 19; refine (alu_calls _ _ _ _  _).mono ?_; rintro e w' ⟨rfl, hb⟩; replace HC := Aside0.mk (HC.out.below hb); clear hb)
      | (go_at_call 33; refine (alui_calls _ _ _ _  _).mono ?_; rintro e w' ⟨rfl, hb⟩; replace HC := Aside0.mk (HC.out.below hb); clear hb)
      | (go_at_call 18; refine (num_calls _ _  _).mono ?_; rintro e w' ⟨rfl, hb⟩; replace HC := Aside0.mk (HC.out.below hb); clear hb)
      | (go_at_call 16; refine (test_calls _ _  _).mono ?_; rintro e w' ⟨rfl, hb⟩; replace HC := Aside0.mk (HC.out.below hb); clear hb))
  refine (x_calls (HC.out.alloc _) _ [⟨3, false, 1, 0, 0, 6, 0⟩] 1 (blk_new _ _) (by simp)).mono ?_
  rintro e W1 ⟨rfl, v1, hC, hK⟩
  replace hC := Aside0.mk hC
  clear HC hK
  have HC := hC
  clear hC
  simp only [List.nil_append, List.cons_append, List.map_cons, List.map_nil, List.append_nil, is, zX] at HC
  have hc := blk_cell HC.out.box 0
  go_wp2_with fail
  exact bodyPost_ret (by simp [results, Try.results5, go_sem]) rfl ⟨_, rfl, Kd.R_mono HC.out.row (fun _ _ => trivial), HC.out.bel⟩
set_option maxHeartbeats 4000000 in
set_option maxRecDepth 100000 in
theorem op_117 (w : World) : Calls Try.prog 5 #[.int .i64 117] w (OpOut w [⟨⟨7, false, 0, 0, 0, 7, 0⟩, 0, 0⟩] 0) := by
  go_enter Try.func5, Try.ntmps5
  go_wp2_with (first
      | (go_at_call 12; refine (arity_yes (n := 117) rfl _).mono ?_; rintro e W0 ⟨rfl, hb⟩; have HC := Aside0.mk (Cd.init hb); clear hb)
      | (go_at_call 13; refine (narrow_calls (op := 117) (k := 117) (b := false) rfl _ (by omega) (by omega)).mono ?_; rintro e w' ⟨rfl, hb⟩; replace HC := Aside0.mk (HC.out.below hb); clear hb)
      | (go_at_call 19; refine (alu_calls _ _ _ _  _).mono ?_; rintro e w' ⟨rfl, hb⟩; replace HC := Aside0.mk (HC.out.below hb); clear hb)
      | (go_at_call 33; refine (alui_calls _ _ _ _  _).mono ?_; rintro e w' ⟨rfl, hb⟩; replace HC := Aside0.mk (HC.out.below hb); clear hb)
      | (go_at_call 18; refine (num_calls _ _  _).mono ?_; rintro e w' ⟨rfl, hb⟩; replace HC := Aside0.mk (HC.out.below hb); clear hb)
      | (go_at_call 16; refine (test_calls _ _  _).mono ?_; rintro e w' ⟨rfl, hb⟩; replace HC := Aside0.mk (HC.out.below hb); clear hb))
  refine (x_calls (HC.out.alloc _) _ [⟨7, false, 0, 0, 0, 7, 0⟩] 1 (blk_new _ _) (by simp)).mono ?_
  rintro e W1 ⟨rfl, v1, hC, hK⟩
  replace hC := Aside0.mk hC
  clear HC hK
  have HC := hC
  clear hC
  simp only [List.nil_append, List.cons_append, List.map_cons, List.map_nil, List.append_nil, is, zX] at HC
  have hc := blk_cell HC.out.box 0
  go_wp2_with fail
  exact bodyPost_ret (by simp [results, Try.results5, go_sem]) rfl ⟨_, rfl, Kd.R_mono HC.out.row (fun _ _ => trivial), HC.out.bel⟩
set_option maxHeartbeats 4000000 in
set_option maxRecDepth 100000 in
theorem op_119 (w : World) : Calls Try.prog 5 #[.int .i64 119] w (OpOut w [⟨⟨7, false, 0, 0, 0, 0, 0⟩, 0, 0⟩] 0) := by
  go_enter Try.func5, Try.ntmps5
  go_wp2_with (first
      | (go_at_call 12; refine (arity_yes (n := 119) rfl _).mono ?_; rintro e W0 ⟨rfl, hb⟩; have HC := Aside0.mk (Cd.init hb); clear hb)
      | (go_at_call 13; refine (narrow_calls (op := 119) (k := 119) (b := false) rfl _ (by omega) (by omega)).mono ?_; rintro e w' ⟨rfl, hb⟩; replace HC := Aside0.mk (HC.out.below hb); clear hb)
      | (go_at_call 19; refine (alu_calls _ _ _ _  _).mono ?_; rintro e w' ⟨rfl, hb⟩; replace HC := Aside0.mk (HC.out.below hb); clear hb)
      | (go_at_call 33; refine (alui_calls _ _ _ _  _).mono ?_; rintro e w' ⟨rfl, hb⟩; replace HC := Aside0.mk (HC.out.below hb); clear hb)
      | (go_at_call 18; refine (num_calls _ _  _).mono ?_; rintro e w' ⟨rfl, hb⟩; replace HC := Aside0.mk (HC.out.below hb); clear hb)
      | (go_at_call 16; refine (test_calls _ _  _).mono ?_; rintro e w' ⟨rfl, hb⟩; replace HC := Aside0.mk (HC.out.below hb); clear hb))
  refine (x_calls (HC.out.alloc _) _ [⟨7, false, 0, 0, 0, 0, 0⟩] 1 (blk_new _ _) (by simp)).mono ?_
  rintro e W1 ⟨rfl, v1, hC, hK⟩
  replace hC := Aside0.mk hC
  clear HC hK
  have HC := hC
  clear hC
  simp only [List.nil_append, List.cons_append, List.map_cons, List.map_nil, List.append_nil, is, zX] at HC
  have hc := blk_cell HC.out.box 0
  go_wp2_with fail
  exact bodyPost_ret (by simp [results, Try.results5, go_sem]) rfl ⟨_, rfl, Kd.R_mono HC.out.row (fun _ _ => trivial), HC.out.bel⟩
set_option maxHeartbeats 4000000 in
set_option maxRecDepth 100000 in
theorem op_124 (w : World) : Calls Try.prog 5 #[.int .i64 124] w (OpOut w [⟨⟨3, true, 1, 0, 0, 0, 0⟩, 0, 0⟩] 0) := by
  go_enter Try.func5, Try.ntmps5
  go_wp2_with (first
      | (go_at_call 12; refine (arity_yes (n := 124) rfl _).mono ?_; rintro e W0 ⟨rfl, hb⟩; have HC := Aside0.mk (Cd.init hb); clear hb)
      | (go_at_call 13; refine (narrow_calls (op := 124) (k := 106) (b := true) rfl _ (by omega) (by omega)).mono ?_; rintro e w' ⟨rfl, hb⟩; replace HC := Aside0.mk (HC.out.below hb); clear hb)
      | (go_at_call 19; refine (alu_calls _ _ _ _  _).mono ?_; rintro e w' ⟨rfl, hb⟩; replace HC := Aside0.mk (HC.out.below hb); clear hb)
      | (go_at_call 33; refine (alui_calls _ _ _ _  _).mono ?_; rintro e w' ⟨rfl, hb⟩; replace HC := Aside0.mk (HC.out.below hb); clear hb)
      | (go_at_call 18; refine (num_calls _ _  _).mono ?_; rintro e w' ⟨rfl, hb⟩; replace HC := Aside0.mk (HC.out.below hb); clear hb)
      | (go_at_call 16; refine (test_calls _ _  _).mono ?_; rintro e w' ⟨rfl, hb⟩; replace HC := Aside0.mk (HC.out.below hb); clear hb))
  refine (x_calls (HC.out.alloc _) _ [⟨3, true, 1, 0, 0, 0, 0⟩] 1 (blk_new _ _) (by simp)).mono ?_
  rintro e W1 ⟨rfl, v1, hC, hK⟩
  replace hC := Aside0.mk hC
  clear HC hK
  have HC := hC
  clear hC
  simp only [List.nil_append, List.cons_append, List.map_cons, List.map_nil, List.append_nil, is, zX] at HC
  have hc := blk_cell HC.out.box 0
  go_wp2_with fail
  exact bodyPost_ret (by simp [results, Try.results5, go_sem]) rfl ⟨_, rfl, Kd.R_mono HC.out.row (fun _ _ => trivial), HC.out.bel⟩
set_option maxHeartbeats 4000000 in
set_option maxRecDepth 100000 in
theorem op_126 (w : World) : Calls Try.prog 5 #[.int .i64 126] w (OpOut w [⟨⟨6, true, 0, 1, 0, 0, 0⟩, 0, 0⟩] 0) := by
  go_enter Try.func5, Try.ntmps5
  go_wp2_with (first
      | (go_at_call 12; refine (arity_yes (n := 126) rfl _).mono ?_; rintro e W0 ⟨rfl, hb⟩; have HC := Aside0.mk (Cd.init hb); clear hb)
      | (go_at_call 13; refine (narrow_calls (op := 126) (k := 108) (b := true) rfl _ (by omega) (by omega)).mono ?_; rintro e w' ⟨rfl, hb⟩; replace HC := Aside0.mk (HC.out.below hb); clear hb)
      | (go_at_call 19; refine (alu_calls _ _ _ _  _).mono ?_; rintro e w' ⟨rfl, hb⟩; replace HC := Aside0.mk (HC.out.below hb); clear hb)
      | (go_at_call 33; refine (alui_calls _ _ _ _  _).mono ?_; rintro e w' ⟨rfl, hb⟩; replace HC := Aside0.mk (HC.out.below hb); clear hb)
      | (go_at_call 18; refine (num_calls _ _  _).mono ?_; rintro e w' ⟨rfl, hb⟩; replace HC := Aside0.mk (HC.out.below hb); clear hb)
      | (go_at_call 16; refine (test_calls _ _  _).mono ?_; rintro e w' ⟨rfl, hb⟩; replace HC := Aside0.mk (HC.out.below hb); clear hb))
  refine (x_calls (HC.out.alloc _) _ [⟨6, true, 0, 1, 0, 0, 0⟩] 1 (blk_new _ _) (by simp)).mono ?_
  rintro e W1 ⟨rfl, v1, hC, hK⟩
  replace hC := Aside0.mk hC
  clear HC hK
  have HC := hC
  clear hC
  simp only [List.nil_append, List.cons_append, List.map_cons, List.map_nil, List.append_nil, is, zX] at HC
  have hc := blk_cell HC.out.box 0
  go_wp2_with fail
  exact bodyPost_ret (by simp [results, Try.results5, go_sem]) rfl ⟨_, rfl, Kd.R_mono HC.out.row (fun _ _ => trivial), HC.out.bel⟩
set_option maxHeartbeats 4000000 in
set_option maxRecDepth 100000 in
theorem op_128 (w : World) : Calls Try.prog 5 #[.int .i64 128] w (OpOut w [⟨⟨5, true, 1, 1, 0, 0, 0⟩, 0, 0⟩, ⟨⟨18, false, 0, 0, 0, 4, 0⟩, 0, 1⟩, ⟨⟨2, true, 2, 0, 0, 0, 0⟩, 0, 0⟩, ⟨⟨8, true, 0, 1, 0, 0, 0⟩, 0, 0⟩] 0) := by
  go_enter Try.func5, Try.ntmps5
  go_wp2_with (first
      | (go_at_call 12; refine (arity_yes (n := 128) rfl _).mono ?_; rintro e W0 ⟨rfl, hb⟩; have HC := Aside0.mk (Cd.init hb); clear hb)
      | (go_at_call 13; refine (narrow_calls (op := 128) (k := 110) (b := true) rfl _ (by omega) (by omega)).mono ?_; rintro e w' ⟨rfl, hb⟩; replace HC := Aside0.mk (HC.out.below hb); clear hb)
      | (go_at_call 19; refine (alu_calls _ _ _ _  _).mono ?_; rintro e w' ⟨rfl, hb⟩; replace HC := Aside0.mk (HC.out.below hb); clear hb)
      | (go_at_call 33; refine (alui_calls _ _ _ _  _).mono ?_; rintro e w' ⟨rfl, hb⟩; replace HC := Aside0.mk (HC.out.below hb); clear hb)
      | (go_at_call 18; refine (num_calls _ _  _).mono ?_; rintro e w' ⟨rfl, hb⟩; replace HC := Aside0.mk (HC.out.below hb); clear hb)
      | (go_at_call 16; refine (test_calls _ _  _).mono ?_; rintro e w' ⟨rfl, hb⟩; replace HC := Aside0.mk (HC.out.below hb); clear hb))
  refine (x_calls (HC.out.alloc _) _ [⟨5, true, 1, 1, 0, 0, 0⟩] 1 (blk_new _ _) (by simp)).mono ?_
  rintro e W1 ⟨rfl, v1, hC, hK⟩
  replace hC := Aside0.mk hC
  clear HC hK
  have HC := hC
  clear hC
  simp only [List.nil_append, List.cons_append, List.map_cons, List.map_nil, List.append_nil, is, zX] at HC
  go_wp2_with (first
      | (go_at_call 19; refine (alu_calls _ _ _ _  _).mono ?_; rintro e w' ⟨rfl, hb⟩; replace HC := Aside0.mk (HC.out.below hb); clear hb)
      | (go_at_call 33; refine (alui_calls _ _ _ _  _).mono ?_; rintro e w' ⟨rfl, hb⟩; replace HC := Aside0.mk (HC.out.below hb); clear hb)
      | (go_at_call 18; refine (num_calls _ _  _).mono ?_; rintro e w' ⟨rfl, hb⟩; replace HC := Aside0.mk (HC.out.below hb); clear hb)
      | (go_at_call 16; refine (test_calls _ _  _).mono ?_; rintro e w' ⟨rfl, hb⟩; replace HC := Aside0.mk (HC.out.below hb); clear hb))
  refine (when_calls HC.out 4 1 (by simp)).mono ?_
  rintro e W2 ⟨rfl, v2, hC, hK⟩
  replace hC := Aside0.mk hC
  clear HC hK
  have HC := hC
  clear hC
  simp only [List.nil_append, List.cons_append, List.map_cons, List.map_nil, List.append_nil, is, zX] at HC
  go_wp2_with (first
      | (go_at_call 19; refine (alu_calls _ _ _ _  _).mono ?_; rintro e w' ⟨rfl, hb⟩; replace HC := Aside0.mk (HC.out.below hb); clear hb)
      | (go_at_call 33; refine (alui_calls _ _ _ _  _).mono ?_; rintro e w' ⟨rfl, hb⟩; replace HC := Aside0.mk (HC.out.below hb); clear hb)
      | (go_at_call 18; refine (num_calls _ _  _).mono ?_; rintro e w' ⟨rfl, hb⟩; replace HC := Aside0.mk (HC.out.below hb); clear hb)
      | (go_at_call 16; refine (test_calls _ _  _).mono ?_; rintro e w' ⟨rfl, hb⟩; replace HC := Aside0.mk (HC.out.below hb); clear hb))
  refine (x_calls (HC.out.alloc _) _ [⟨2, true, 2, 0, 0, 0, 0⟩, ⟨8, true, 0, 1, 0, 0, 0⟩] 2 (blk_new _ _) (by simp)).mono ?_
  rintro e W3 ⟨rfl, v3, hC, hK⟩
  replace hC := Aside0.mk hC
  clear HC hK
  have HC := hC
  clear hC
  simp only [List.nil_append, List.cons_append, List.map_cons, List.map_nil, List.append_nil, is, zX] at HC
  have hc := blk_cell HC.out.box 0
  go_wp2_with fail
  exact bodyPost_ret (by simp [results, Try.results5, go_sem]) rfl ⟨_, rfl, Kd.R_mono HC.out.row (fun _ _ => trivial), HC.out.bel⟩
set_option maxHeartbeats 4000000 in
set_option maxRecDepth 100000 in
theorem op_130 (w : World) : Calls Try.prog 5 #[.int .i64 130] w (OpOut w [⟨⟨5, true, 1, 1, 0, 0, 0⟩, 0, 0⟩, ⟨⟨18, false, 0, 0, 0, 4, 0⟩, 0, 1⟩, ⟨⟨2, true, 2, 0, 0, 0, 0⟩, 0, 0⟩, ⟨⟨8, true, 0, 1, 0, 0, 0⟩, 0, 0⟩, ⟨⟨1, true, 2, 0, 0, 0, 0⟩, 0, 0⟩] 0) := by
  go_enter Try.func5, Try.ntmps5
  go_wp2_with (first
      | (go_at_call 12; refine (arity_yes (n := 130) rfl _).mono ?_; rintro e W0 ⟨rfl, hb⟩; have HC := Aside0.mk (Cd.init hb); clear hb)
      | (go_at_call 13; refine (narrow_calls (op := 130) (k := 112) (b := true) rfl _ (by omega) (by omega)).mono ?_; rintro e w' ⟨rfl, hb⟩; replace HC := Aside0.mk (HC.out.below hb); clear hb)
      | (go_at_call 19; refine (alu_calls _ _ _ _  _).mono ?_; rintro e w' ⟨rfl, hb⟩; replace HC := Aside0.mk (HC.out.below hb); clear hb)
      | (go_at_call 33; refine (alui_calls _ _ _ _  _).mono ?_; rintro e w' ⟨rfl, hb⟩; replace HC := Aside0.mk (HC.out.below hb); clear hb)
      | (go_at_call 18; refine (num_calls _ _  _).mono ?_; rintro e w' ⟨rfl, hb⟩; replace HC := Aside0.mk (HC.out.below hb); clear hb)
      | (go_at_call 16; refine (test_calls _ _  _).mono ?_; rintro e w' ⟨rfl, hb⟩; replace HC := Aside0.mk (HC.out.below hb); clear hb))
  refine (x_calls (HC.out.alloc _) _ [⟨5, true, 1, 1, 0, 0, 0⟩] 1 (blk_new _ _) (by simp)).mono ?_
  rintro e W1 ⟨rfl, v1, hC, hK⟩
  replace hC := Aside0.mk hC
  clear HC hK
  have HC := hC
  clear hC
  simp only [List.nil_append, List.cons_append, List.map_cons, List.map_nil, List.append_nil, is, zX] at HC
  go_wp2_with (first
      | (go_at_call 19; refine (alu_calls _ _ _ _  _).mono ?_; rintro e w' ⟨rfl, hb⟩; replace HC := Aside0.mk (HC.out.below hb); clear hb)
      | (go_at_call 33; refine (alui_calls _ _ _ _  _).mono ?_; rintro e w' ⟨rfl, hb⟩; replace HC := Aside0.mk (HC.out.below hb); clear hb)
      | (go_at_call 18; refine (num_calls _ _  _).mono ?_; rintro e w' ⟨rfl, hb⟩; replace HC := Aside0.mk (HC.out.below hb); clear hb)
      | (go_at_call 16; refine (test_calls _ _  _).mono ?_; rintro e w' ⟨rfl, hb⟩; replace HC := Aside0.mk (HC.out.below hb); clear hb))
  refine (when_calls HC.out 4 1 (by simp)).mono ?_
  rintro e W2 ⟨rfl, v2, hC, hK⟩
  replace hC := Aside0.mk hC
  clear HC hK
  have HC := hC
  clear hC
  simp only [List.nil_append, List.cons_append, List.map_cons, List.map_nil, List.append_nil, is, zX] at HC
  go_wp2_with (first
      | (go_at_call 19; refine (alu_calls _ _ _ _  _).mono ?_; rintro e w' ⟨rfl, hb⟩; replace HC := Aside0.mk (HC.out.below hb); clear hb)
      | (go_at_call 33; refine (alui_calls _ _ _ _  _).mono ?_; rintro e w' ⟨rfl, hb⟩; replace HC := Aside0.mk (HC.out.below hb); clear hb)
      | (go_at_call 18; refine (num_calls _ _  _).mono ?_; rintro e w' ⟨rfl, hb⟩; replace HC := Aside0.mk (HC.out.below hb); clear hb)
      | (go_at_call 16; refine (test_calls _ _  _).mono ?_; rintro e w' ⟨rfl, hb⟩; replace HC := Aside0.mk (HC.out.below hb); clear hb))
  refine (x_calls (HC.out.alloc _) _ [⟨2, true, 2, 0, 0, 0, 0⟩, ⟨8, true, 0, 1, 0, 0, 0⟩] 2 (blk_new _ _) (by simp)).mono ?_
  rintro e W3 ⟨rfl, v3, hC, hK⟩
  replace hC := Aside0.mk hC
  clear HC hK
  have HC := hC
  clear hC
  simp only [List.nil_append, List.cons_append, List.map_cons, List.map_nil, List.append_nil, is, zX] at HC
  go_wp2_with (first
      | (go_at_call 19; refine (alu_calls _ _ _ _  _).mono ?_; rintro e w' ⟨rfl, hb⟩; replace HC := Aside0.mk (HC.out.below hb); clear hb)
      | (go_at_call 33; refine (alui_calls _ _ _ _  _).mono ?_; rintro e w' ⟨rfl, hb⟩; replace HC := Aside0.mk (HC.out.below hb); clear hb)
      | (go_at_call 18; refine (num_calls _ _  _).mono ?_; rintro e w' ⟨rfl, hb⟩; replace HC := Aside0.mk (HC.out.below hb); clear hb)
      | (go_at_call 16; refine (test_calls _ _  _).mono ?_; rintro e w' ⟨rfl, hb⟩; replace HC := Aside0.mk (HC.out.below hb); clear hb))
  refine (x_calls (HC.out.alloc _) _ [⟨1, true, 2, 0, 0, 0, 0⟩] 1 (blk_new _ _) (by simp)).mono ?_
  rintro e W4 ⟨rfl, v4, hC, hK⟩
  replace hC := Aside0.mk hC
  clear HC hK
  have HC := hC
  clear hC
  simp only [List.nil_append, List.cons_append, List.map_cons, List.map_nil, List.append_nil, is, zX] at HC
  have hc := blk_cell HC.out.box 0
  go_wp2_with fail
  exact bodyPost_ret (by simp [results, Try.results5, go_sem]) rfl ⟨_, rfl, Kd.R_mono HC.out.row (fun _ _ => trivial), HC.out.bel⟩
set_option maxHeartbeats 4000000 in
set_option maxRecDepth 100000 in
theorem op_132 (w : World) : Calls Try.prog 5 #[.int .i64 132] w (OpOut w [⟨⟨3, true, 1, 0, 0, 1, 0⟩, 0, 0⟩] 0) := by
  go_enter Try.func5, Try.ntmps5
  go_wp2_with (first
      | (go_at_call 12; refine (arity_yes (n := 132) rfl _).mono ?_; rintro e W0 ⟨rfl, hb⟩; have HC := Aside0.mk (Cd.init hb); clear hb)
      | (go_at_call 13; refine (narrow_calls (op := 132) (k := 114) (b := true) rfl _ (by omega) (by omega)).mono ?_; rintro e w' ⟨rfl, hb⟩; replace HC := Aside0.mk (HC.out.below hb); clear hb)
      | (go_at_call 19; refine (alu_calls _ _ _ _  _).mono ?_; rintro e w' ⟨rfl, hb⟩; replace HC := Aside0.mk (HC.out.below hb); clear hb)
      | (go_at_call 33; refine (alui_calls _ _ _ _  _).mono ?_; rintro e w' ⟨rfl, hb⟩; replace HC := Aside0.mk (HC.out.below hb); clear hb)
      | (go_at_call 18; refine (num_calls _ _  _).mono ?_; rintro e w' ⟨rfl, hb⟩; replace HC := Aside0.mk (HC.out.below hb); clear hb)
      | (go_at_call 16; refine (test_calls _ _  _).mono ?_; rintro e w' ⟨rfl, hb⟩; replace HC := Aside0.mk (HC.out.below hb); clear hb))
  refine (x_calls (HC.out.alloc _) _ [⟨3, true, 1, 0, 0, 1, 0⟩] 1 (blk_new _ _) (by simp)).mono ?_
  rintro e W1 ⟨rfl, v1, hC, hK⟩
  replace hC := Aside0.mk hC
  clear HC hK
  have HC := hC
  clear hC
  simp only [List.nil_append, List.cons_append, List.map_cons, List.map_nil, List.append_nil, is, zX] at HC
  have hc := blk_cell HC.out.box 0
  go_wp2_with fail
  exact bodyPost_ret (by simp [results, Try.results5, go_sem]) rfl ⟨_, rfl, Kd.R_mono HC.out.row (fun _ _ => trivial), HC.out.bel⟩
set_option maxHeartbeats 4000000 in
set_option maxRecDepth 100000 in
theorem op_134 (w : World) : Calls Try.prog 5 #[.int .i64 134] w (OpOut w [⟨⟨7, true, 0, 0, 0, 4, 0⟩, 0, 0⟩] 0) := by
  go_enter Try.func5, Try.ntmps5
  go_wp2_with (first
      | (go_at_call 12; refine (arity_yes (n := 134) rfl _).mono ?_; rintro e W0 ⟨rfl, hb⟩; have HC := Aside0.mk (Cd.init hb); clear hb)
      | (go_at_call 13; refine (narrow_calls (op := 134) (k := 116) (b := true) rfl _ (by omega) (by omega)).mono ?_; rintro e w' ⟨rfl, hb⟩; replace HC := Aside0.mk (HC.out.below hb); clear hb)
      | (go_at_call 19; refine (alu_calls _ _ _ _  _).mono ?_; rintro e w' ⟨rfl, hb⟩; replace HC := Aside0.mk (HC.out.below hb); clear hb)
      | (go_at_call 33; refine (alui_calls _ _ _ _  _).mono ?_; rintro e w' ⟨rfl, hb⟩; replace HC := Aside0.mk (HC.out.below hb); clear hb)
      | (go_at_call 18; refine (num_calls _ _  _).mono ?_; rintro e w' ⟨rfl, hb⟩; replace HC := Aside0.mk (HC.out.below hb); clear hb)
      | (go_at_call 16; refine (test_calls _ _  _).mono ?_; rintro e w' ⟨rfl, hb⟩; replace HC := Aside0.mk (HC.out.below hb); clear hb))
  refine (x_calls (HC.out.alloc _) _ [⟨7, true, 0, 0, 0, 4, 0⟩] 1 (blk_new _ _) (by simp)).mono ?_
  rintro e W1 ⟨rfl, v1, hC, hK⟩
  replace hC := Aside0.mk hC
  clear HC hK
  have HC := hC
  clear hC
  simp only [List.nil_append, List.cons_append, List.map_cons, List.map_nil, List.append_nil, is, zX] at HC
  have hc := blk_cell HC.out.box 0
  go_wp2_with fail
  exact bodyPost_ret (by simp [results, Try.results5, go_sem]) rfl ⟨_, rfl, Kd.R_mono HC.out.row (fun _ _ => trivial), HC.out.bel⟩
set_option maxHeartbeats 4000000 in
set_option maxRecDepth 100000 in
theorem op_136 (w : World) : Calls Try.prog 5 #[.int .i64 136] w (OpOut w [⟨⟨7, true, 0, 0, 0, 5, 0⟩, 0, 0⟩] 0) := by
  go_enter Try.func5, Try.ntmps5
  go_wp2_with (first
      | (go_at_call 12; refine (arity_yes (n := 136) rfl _).mono ?_; rintro e W0 ⟨rfl, hb⟩; have HC := Aside0.mk (Cd.init hb); clear hb)
      | (go_at_call 13; refine (narrow_calls (op := 136) (k := 118) (b := true) rfl _ (by omega) (by omega)).mono ?_; rintro e w' ⟨rfl, hb⟩; replace HC := Aside0.mk (HC.out.below hb); clear hb)
      | (go_at_call 19; refine (alu_calls _ _ _ _  _).mono ?_; rintro e w' ⟨rfl, hb⟩; replace HC := Aside0.mk (HC.out.below hb); clear hb)
      | (go_at_call 33; refine (alui_calls _ _ _ _  _).mono ?_; rintro e w' ⟨rfl, hb⟩; replace HC := Aside0.mk (HC.out.below hb); clear hb)
      | (go_at_call 18; refine (num_calls _ _  _).mono ?_; rintro e w' ⟨rfl, hb⟩; replace HC := Aside0.mk (HC.out.below hb); clear hb)
      | (go_at_call 16; refine (test_calls _ _  _).mono ?_; rintro e w' ⟨rfl, hb⟩; replace HC := Aside0.mk (HC.out.below hb); clear hb))
  refine (x_calls (HC.out.alloc _) _ [⟨7, true, 0, 0, 0, 5, 0⟩] 1 (blk_new _ _) (by simp)).mono ?_
  rintro e W1 ⟨rfl, v1, hC, hK⟩
  replace hC := Aside0.mk hC
  clear HC hK
  have HC := hC
  clear hC
  simp only [List.nil_append, List.cons_append, List.map_cons, List.map_nil, List.append_nil, is, zX] at HC
  have hc := blk_cell HC.out.box 0
  go_wp2_with fail
  exact bodyPost_ret (by simp [results, Try.results5, go_sem]) rfl ⟨_, rfl, Kd.R_mono HC.out.row (fun _ _ => trivial), HC.out.bel⟩
set_option maxHeartbeats 4000000 in
set_option maxRecDepth 100000 in
theorem op_138 (w : World) : Calls Try.prog 5 #[.int .i64 138] w (OpOut w [⟨⟨7, true, 0, 0, 0, 1, 0⟩, 0, 0⟩] 0) := by
  go_enter Try.func5, Try.ntmps5
  go_wp2_with (first
      | (go_at_call 12; refine (arity_yes (n := 138) rfl _).mono ?_; rintro e W0 ⟨rfl, hb⟩; have HC := Aside0.mk (Cd.init hb); clear hb)
      | (go_at_call 13; refine (narrow_calls (op := 138) (k := 120) (b := true) rfl _ (by omega) (by omega)).mono ?_; rintro e w' ⟨rfl, hb⟩; replace HC := Aside0.mk (HC.out.below hb); clear hb)
      | (go_at_call 19; refine (alu_calls _ _ _ _  _).mono ?_; rintro e w' ⟨rfl, hb⟩; replace HC := Aside0.mk (HC.out.below hb); clear hb)
      | (go_at_call 33; refine (alui_calls _ _ _ _  _).mono ?_; rintro e w' ⟨rfl, hb⟩; replace HC := Aside0.mk (HC.out.below hb); clear hb)
      | (go_at_call 18; refine (num_calls _ _  _).mono ?_; rintro e w' ⟨rfl, hb⟩; replace HC := Aside0.mk (HC.out.below hb); clear hb)
      | (go_at_call 16; refine (test_calls _ _  _).mono ?_; rintro e w' ⟨rfl, hb⟩; replace HC := Aside0.mk (HC.out.below hb); clear hb))
  refine (x_calls (HC.out.alloc _) _ [⟨7, true, 0, 0, 0, 1, 0⟩] 1 (blk_new _ _) (by simp)).mono ?_
  rintro e W1 ⟨rfl, v1, hC, hK⟩
  replace hC := Aside0.mk hC
  clear HC hK
  have HC := hC
  clear hC
  simp only [List.nil_append, List.cons_append, List.map_cons, List.map_nil, List.append_nil, is, zX] at HC
  have hc := blk_cell HC.out.box 0
  go_wp2_with fail
  exact bodyPost_ret (by simp [results, Try.results5, go_sem]) rfl ⟨_, rfl, Kd.R_mono HC.out.row (fun _ _ => trivial), HC.out.bel⟩
set_option maxHeartbeats 4000000 in
set_option maxRecDepth 100000 in
theorem op_172 (w : World) : Calls Try.prog 5 #[.int .i64 172] w (OpOut w [⟨⟨16, true, 0, 0, 0, 0, 0⟩, 0, 0⟩] 0) := by
  go_enter Try.func5, Try.ntmps5
  go_wp2_with (first
      | (go_at_call 12; refine (arity_yes (n := 172) rfl _).mono ?_; rintro e W0 ⟨rfl, hb⟩; have HC := Aside0.mk (Cd.init hb); clear hb)
      | (go_at_call 13; refine (narrow_calls (op := 172) (k := 172) (b := false) rfl _ (by omega) (by omega)).mono ?_; rintro e w' ⟨rfl, hb⟩; replace HC := Aside0.mk (HC.out.below hb); clear hb)
      | (go_at_call 19; refine (alu_calls _ _ _ _  _).mono ?_; rintro e w' ⟨rfl, hb⟩; replace HC := Aside0.mk (HC.out.below hb); clear hb)
      | (go_at_call 33; refine (alui_calls _ _ _ _  _).mono ?_; rintro e w' ⟨rfl, hb⟩; replace HC := Aside0.mk (HC.out.below hb); clear hb)
      | (go_at_call 18; refine (num_calls _ _  _).mono ?_; rintro e w' ⟨rfl, hb⟩; replace HC := Aside0.mk (HC.out.below hb); clear hb)
      | (go_at_call 16; refine (test_calls _ _  _).mono ?_; rintro e w' ⟨rfl, hb⟩; replace HC := Aside0.mk (HC.out.below hb); clear hb))
  refine (x_calls (HC.out.alloc _) _ [⟨16, true, 0, 0, 0, 0, 0⟩] 1 (blk_new _ _) (by simp)).mono ?_
  rintro e W1 ⟨rfl, v1, hC, hK⟩
  replace hC := Aside0.mk hC
  clear HC hK
  have HC := hC
  clear hC
  simp only [List.nil_append, List.cons_append, List.map_cons, List.map_nil, List.append_nil, is, zX] at HC
  have hc := blk_cell HC.out.box 0
  go_wp2_with fail
  exact bodyPost_ret (by simp [results, Try.results5, go_sem]) rfl ⟨_, rfl, Kd.R_mono HC.out.row (fun _ _ => trivial), HC.out.bel⟩
end Go.Proofs.Ytngpmijbjhpfhaa.Isel
