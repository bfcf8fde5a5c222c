/- isel.Op at instructions, each walked. -/
import Derived.Test.YtngpmijbjhpfhaaIselG
namespace Go.Proofs.Ytngpmijbjhpfhaa.Isel
open Go.RowKit Go.Proofs.YtngpmijbjhpfhaaW.PrintWords Go.Proofs.YtngpmijbjhpfhaaW.PrintLast Go.Proofs.Ytngpmijbjhpfhaa.Mem
set_option linter.unusedVariables false
set_option linter.unusedSimpArgs false
set_option maxHeartbeats 4000000 in
set_option maxRecDepth 100000 in
theorem op_69 (w : World) : Calls Try.prog 5 #[.int .i64 69] w (OpOut w [⟨⟨5, false, 0, 0, 0, 0, 0⟩, 0, 0⟩, ⟨⟨13, false, 0, 0, 0, 4, 0⟩, 0, 0⟩, ⟨⟨14, false, 0, 0, 0, 0, 0⟩, 0, 0⟩] 0) := by
  go_enter Try.func5, Try.ntmps5
  go_wp2_with (first
      | (go_at_call 12; refine (arity_yes (n := 69) rfl _).mono ?_; rintro e W0 ⟨rfl, hb⟩; have HC := Aside0.mk (Cd.init hb); clear hb)
      | (go_at_call 13; refine (narrow_calls (op := 69) (k := 69) (b := false) rfl _ (by omega) (by omega)).mono ?_; rintro e w' ⟨rfl, hb⟩; replace HC := Aside0.mk (HC.out.below hb); clear hb)
      | (go_at_call 19; refine (alu_calls _ _ _ _  _).mono ?_; rintro e w' ⟨rfl, hb⟩; replace HC := Aside0.mk (HC.out.below hb); clear hb)
      | (go_at_call 33; refine (alui_calls _ _ _ _  _).mono ?_; rintro e w' ⟨rfl, hb⟩; replace HC := Aside0.mk (HC.out.below hb); clear hb)
      | (go_at_call 18; refine (num_calls _ _  _).mono ?_; rintro e w' ⟨rfl, hb⟩; replace HC := Aside0.mk (HC.out.below hb); clear hb)
      | (go_at_call 16; refine (test_calls _ _  _).mono ?_; rintro e w' ⟨rfl, hb⟩; replace HC := Aside0.mk (HC.out.below hb); clear hb))
  refine (x_calls (HC.out.alloc _) _ [⟨5, false, 0, 0, 0, 0, 0⟩, ⟨13, false, 0, 0, 0, 4, 0⟩, ⟨14, false, 0, 0, 0, 0, 0⟩] 3 (blk_new _ _) (by simp)).mono ?_
  rintro e W1 ⟨rfl, v1, hC, hK⟩
  replace hC := Aside0.mk hC
  clear HC hK
  have HC := hC
  clear hC
  simp only [List.nil_append, List.cons_append, List.map_cons, List.map_nil, List.append_nil, is, zX] at HC
  have hc := blk_cell HC.out.box 0
  go_wp2_with fail
  exact bodyPost_ret (by simp [results, Try.results5, go_sem]) rfl ⟨_, rfl, Kd.R_mono HC.out.row (fun _ _ => trivial), HC.out.bel⟩
set_option maxHeartbeats 4000000 in
set_option maxRecDepth 100000 in
theorem op_71 (w : World) : Calls Try.prog 5 #[.int .i64 71] w (OpOut w [⟨⟨3, false, 1, 0, 0, 7, 0⟩, 0, 0⟩, ⟨⟨13, false, 0, 0, 0, 5, 0⟩, 0, 0⟩, ⟨⟨14, false, 0, 0, 0, 0, 0⟩, 0, 0⟩] 0) := by
  go_enter Try.func5, Try.ntmps5
  go_wp2_with (first
      | (go_at_call 12; refine (arity_yes (n := 71) rfl _).mono ?_; rintro e W0 ⟨rfl, hb⟩; have HC := Aside0.mk (Cd.init hb); clear hb)
      | (go_at_call 13; refine (narrow_calls (op := 71) (k := 71) (b := false) rfl _ (by omega) (by omega)).mono ?_; rintro e w' ⟨rfl, hb⟩; replace HC := Aside0.mk (HC.out.below hb); clear hb)
      | (go_at_call 19; refine (alu_calls _ _ _ _  _).mono ?_; rintro e w' ⟨rfl, hb⟩; replace HC := Aside0.mk (HC.out.below hb); clear hb)
      | (go_at_call 33; refine (alui_calls _ _ _ _  _).mono ?_; rintro e w' ⟨rfl, hb⟩; replace HC := Aside0.mk (HC.out.below hb); clear hb)
      | (go_at_call 18; refine (num_calls _ _  _).mono ?_; rintro e w' ⟨rfl, hb⟩; replace HC := Aside0.mk (HC.out.below hb); clear hb)
      | (go_at_call 16; refine (test_calls _ _  _).mono ?_; rintro e w' ⟨rfl, hb⟩; replace HC := Aside0.mk (HC.out.below hb); clear hb))
  refine (x_calls (HC.out.alloc _) _ [⟨3, false, 1, 0, 0, 7, 0⟩, ⟨13, false, 0, 0, 0, 5, 0⟩, ⟨14, false, 0, 0, 0, 0, 0⟩] 3 (blk_new _ _) (by simp)).mono ?_
  rintro e W1 ⟨rfl, v1, hC, hK⟩
  replace hC := Aside0.mk hC
  clear HC hK
  have HC := hC
  clear hC
  simp only [List.nil_append, List.cons_append, List.map_cons, List.map_nil, List.append_nil, is, zX] at HC
  have hc := blk_cell HC.out.box 0
  go_wp2_with fail
  exact bodyPost_ret (by simp [results, Try.results5, go_sem]) rfl ⟨_, rfl, Kd.R_mono HC.out.row (fun _ _ => trivial), HC.out.bel⟩
set_option maxHeartbeats 4000000 in
set_option maxRecDepth 100000 in
theorem op_73 (w : World) : Calls Try.prog 5 #[.int .i64 73] w (OpOut w [⟨⟨3, false, 1, 0, 0, 7, 0⟩, 0, 0⟩, ⟨⟨13, false, 0, 0, 0, 2, 0⟩, 0, 0⟩, ⟨⟨14, false, 0, 0, 0, 0, 0⟩, 0, 0⟩] 0) := by
  go_enter Try.func5, Try.ntmps5
  go_wp2_with (first
      | (go_at_call 12; refine (arity_yes (n := 73) rfl _).mono ?_; rintro e W0 ⟨rfl, hb⟩; have HC := Aside0.mk (Cd.init hb); clear hb)
      | (go_at_call 13; refine (narrow_calls (op := 73) (k := 73) (b := false) rfl _ (by omega) (by omega)).mono ?_; rintro e w' ⟨rfl, hb⟩; replace HC := Aside0.mk (HC.out.below hb); clear hb)
      | (go_at_call 19; refine (alu_calls _ _ _ _  _).mono ?_; rintro e w' ⟨rfl, hb⟩; replace HC := Aside0.mk (HC.out.below hb); clear hb)
      | (go_at_call 33; refine (alui_calls _ _ _ _  _).mono ?_; rintro e w' ⟨rfl, hb⟩; replace HC := Aside0.mk (HC.out.below hb); clear hb)
      | (go_at_call 18; refine (num_calls _ _  _).mono ?_; rintro e w' ⟨rfl, hb⟩; replace HC := Aside0.mk (HC.out.below hb); clear hb)
      | (go_at_call 16; refine (test_calls _ _  _).mono ?_; rintro e w' ⟨rfl, hb⟩; replace HC := Aside0.mk (HC.out.below hb); clear hb))
  refine (x_calls (HC.out.alloc _) _ [⟨3, false, 1, 0, 0, 7, 0⟩, ⟨13, false, 0, 0, 0, 2, 0⟩, ⟨14, false, 0, 0, 0, 0, 0⟩] 3 (blk_new _ _) (by simp)).mono ?_
  rintro e W1 ⟨rfl, v1, hC, hK⟩
  replace hC := Aside0.mk hC
  clear HC hK
  have HC := hC
  clear hC
  simp only [List.nil_append, List.cons_append, List.map_cons, List.map_nil, List.append_nil, is, zX] at HC
  have hc := blk_cell HC.out.box 0
  go_wp2_with fail
  exact bodyPost_ret (by simp [results, Try.results5, go_sem]) rfl ⟨_, rfl, Kd.R_mono HC.out.row (fun _ _ => trivial), HC.out.bel⟩
set_option maxHeartbeats 4000000 in
set_option maxRecDepth 100000 in
theorem op_75 (w : World) : Calls Try.prog 5 #[.int .i64 75] w (OpOut w [⟨⟨3, false, 1, 0, 0, 7, 0⟩, 0, 0⟩, ⟨⟨13, false, 0, 0, 0, 7, 0⟩, 0, 0⟩, ⟨⟨14, false, 0, 0, 0, 0, 0⟩, 0, 0⟩] 0) := by
  go_enter Try.func5, Try.ntmps5
  go_wp2_with (first
      | (go_at_call 12; refine (arity_yes (n := 75) rfl _).mono ?_; rintro e W0 ⟨rfl, hb⟩; have HC := Aside0.mk (Cd.init hb); clear hb)
      | (go_at_call 13; refine (narrow_calls (op := 75) (k := 75) (b := false) rfl _ (by omega) (by omega)).mono ?_; rintro e w' ⟨rfl, hb⟩; replace HC := Aside0.mk (HC.out.below hb); clear hb)
      | (go_at_call 19; refine (alu_calls _ _ _ _  _).mono ?_; rintro e w' ⟨rfl, hb⟩; replace HC := Aside0.mk (HC.out.below hb); clear hb)
      | (go_at_call 33; refine (alui_calls _ _ _ _  _).mono ?_; rintro e w' ⟨rfl, hb⟩; replace HC := Aside0.mk (HC.out.below hb); clear hb)
      | (go_at_call 18; refine (num_calls _ _  _).mono ?_; rintro e w' ⟨rfl, hb⟩; replace HC := Aside0.mk (HC.out.below hb); clear hb)
      | (go_at_call 16; refine (test_calls _ _  _).mono ?_; rintro e w' ⟨rfl, hb⟩; replace HC := Aside0.mk (HC.out.below hb); clear hb))
  refine (x_calls (HC.out.alloc _) _ [⟨3, false, 1, 0, 0, 7, 0⟩, ⟨13, false, 0, 0, 0, 7, 0⟩, ⟨14, false, 0, 0, 0, 0, 0⟩] 3 (blk_new _ _) (by simp)).mono ?_
  rintro e W1 ⟨rfl, v1, hC, hK⟩
  replace hC := Aside0.mk hC
  clear HC hK
  have HC := hC
  clear hC
  simp only [List.nil_append, List.cons_append, List.map_cons, List.map_nil, List.append_nil, is, zX] at HC
  have hc := blk_cell HC.out.box 0
  go_wp2_with fail
  exact bodyPost_ret (by simp [results, Try.results5, go_sem]) rfl ⟨_, rfl, Kd.R_mono HC.out.row (fun _ _ => trivial), HC.out.bel⟩
set_option maxHeartbeats 4000000 in
set_option maxRecDepth 100000 in
theorem op_77 (w : World) : Calls Try.prog 5 #[.int .i64 77] w (OpOut w [⟨⟨3, false, 1, 0, 0, 7, 0⟩, 0, 0⟩, ⟨⟨13, false, 0, 0, 0, 6, 0⟩, 0, 0⟩, ⟨⟨14, false, 0, 0, 0, 0, 0⟩, 0, 0⟩] 0) := by
  go_enter Try.func5, Try.ntmps5
  go_wp2_with (first
      | (go_at_call 12; refine (arity_yes (n := 77) rfl _).mono ?_; rintro e W0 ⟨rfl, hb⟩; have HC := Aside0.mk (Cd.init hb); clear hb)
      | (go_at_call 13; refine (narrow_calls (op := 77) (k := 77) (b := false) rfl _ (by omega) (by omega)).mono ?_; rintro e w' ⟨rfl, hb⟩; replace HC := Aside0.mk (HC.out.below hb); clear hb)
      | (go_at_call 19; refine (alu_calls _ _ _ _  _).mono ?_; rintro e w' ⟨rfl, hb⟩; replace HC := Aside0.mk (HC.out.below hb); clear hb)
      | (go_at_call 33; refine (alui_calls _ _ _ _  _).mono ?_; rintro e w' ⟨rfl, hb⟩; replace HC := Aside0.mk (HC.out.below hb); clear hb)
      | (go_at_call 18; refine (num_calls _ _  _).mono ?_; rintro e w' ⟨rfl, hb⟩; replace HC := Aside0.mk (HC.out.below hb); clear hb)
      | (go_at_call 16; refine (test_calls _ _  _).mono ?_; rintro e w' ⟨rfl, hb⟩; replace HC := Aside0.mk (HC.out.below hb); clear hb))
  refine (x_calls (HC.out.alloc _) _ [⟨3, false, 1, 0, 0, 7, 0⟩, ⟨13, false, 0, 0, 0, 6, 0⟩, ⟨14, false, 0, 0, 0, 0, 0⟩] 3 (blk_new _ _) (by simp)).mono ?_
  rintro e W1 ⟨rfl, v1, hC, hK⟩
  replace hC := Aside0.mk hC
  clear HC hK
  have HC := hC
  clear hC
  simp only [List.nil_append, List.cons_append, List.map_cons, List.map_nil, List.append_nil, is, zX] at HC
  have hc := blk_cell HC.out.box 0
  go_wp2_with fail
  exact bodyPost_ret (by simp [results, Try.results5, go_sem]) rfl ⟨_, rfl, Kd.R_mono HC.out.row (fun _ _ => trivial), HC.out.bel⟩
set_option maxHeartbeats 4000000 in
set_option maxRecDepth 100000 in
theorem op_79 (w : World) : Calls Try.prog 5 #[.int .i64 79] w (OpOut w [⟨⟨3, false, 1, 0, 0, 7, 0⟩, 0, 0⟩, ⟨⟨13, false, 0, 0, 0, 3, 0⟩, 0, 0⟩, ⟨⟨14, false, 0, 0, 0, 0, 0⟩, 0, 0⟩] 0) := by
  go_enter Try.func5, Try.ntmps5
  go_wp2_with (first
      | (go_at_call 12; refine (arity_yes (n := 79) rfl _).mono ?_; rintro e W0 ⟨rfl, hb⟩; have HC := Aside0.mk (Cd.init hb); clear hb)
      | (go_at_call 13; refine (narrow_calls (op := 79) (k := 79) (b := false) rfl _ (by omega) (by omega)).mono ?_; rintro e w' ⟨rfl, hb⟩; replace HC := Aside0.mk (HC.out.below hb); clear hb)
      | (go_at_call 19; refine (alu_calls _ _ _ _  _).mono ?_; rintro e w' ⟨rfl, hb⟩; replace HC := Aside0.mk (HC.out.below hb); clear hb)
      | (go_at_call 33; refine (alui_calls _ _ _ _  _).mono ?_; rintro e w' ⟨rfl, hb⟩; replace HC := Aside0.mk (HC.out.below hb); clear hb)
      | (go_at_call 18; refine (num_calls _ _  _).mono ?_; rintro e w' ⟨rfl, hb⟩; replace HC := Aside0.mk (HC.out.below hb); clear hb)
      | (go_at_call 16; refine (test_calls _ _  _).mono ?_; rintro e w' ⟨rfl, hb⟩; replace HC := Aside0.mk (HC.out.below hb); clear hb))
  refine (x_calls (HC.out.alloc _) _ [⟨3, false, 1, 0, 0, 7, 0⟩, ⟨13, false, 0, 0, 0, 3, 0⟩, ⟨14, false, 0, 0, 0, 0, 0⟩] 3 (blk_new _ _) (by simp)).mono ?_
  rintro e W1 ⟨rfl, v1, hC, hK⟩
  replace hC := Aside0.mk hC
  clear HC hK
  have HC := hC
  clear hC
  simp only [List.nil_append, List.cons_append, List.map_cons, List.map_nil, List.append_nil, is, zX] at HC
  have hc := blk_cell HC.out.box 0
  go_wp2_with fail
  exact bodyPost_ret (by simp [results, Try.results5, go_sem]) rfl ⟨_, rfl, Kd.R_mono HC.out.row (fun _ _ => trivial), HC.out.bel⟩
set_option maxHeartbeats 4000000 in
set_option maxRecDepth 100000 in
theorem op_81 (w : World) : Calls Try.prog 5 #[.int .i64 81] w (OpOut w [⟨⟨3, true, 1, 0, 0, 7, 0⟩, 0, 0⟩, ⟨⟨13, false, 0, 0, 0, 4, 0⟩, 0, 0⟩, ⟨⟨14, false, 0, 0, 0, 0, 0⟩, 0, 0⟩] 0) := by
  go_enter Try.func5, Try.ntmps5
  go_wp2_with (first
      | (go_at_call 12; refine (arity_yes (n := 81) rfl _).mono ?_; rintro e W0 ⟨rfl, hb⟩; have HC := Aside0.mk (Cd.init hb); clear hb)
      | (go_at_call 13; refine (narrow_calls (op := 81) (k := 70) (b := true) rfl _ (by omega) (by omega)).mono ?_; rintro e w' ⟨rfl, hb⟩; replace HC := Aside0.mk (HC.out.below hb); clear hb)
      | (go_at_call 19; refine (alu_calls _ _ _ _  _).mono ?_; rintro e w' ⟨rfl, hb⟩; replace HC := Aside0.mk (HC.out.below hb); clear hb)
      | (go_at_call 33; refine (alui_calls _ _ _ _  _).mono ?_; rintro e w' ⟨rfl, hb⟩; replace HC := Aside0.mk (HC.out.below hb); clear hb)
      | (go_at_call 18; refine (num_calls _ _  _).mono ?_; rintro e w' ⟨rfl, hb⟩; replace HC := Aside0.mk (HC.out.below hb); clear hb)
      | (go_at_call 16; refine (test_calls _ _  _).mono ?_; rintro e w' ⟨rfl, hb⟩; replace HC := Aside0.mk (HC.out.below hb); clear hb))
  refine (x_calls (HC.out.alloc _) _ [⟨3, true, 1, 0, 0, 7, 0⟩, ⟨13, false, 0, 0, 0, 4, 0⟩, ⟨14, false, 0, 0, 0, 0, 0⟩] 3 (blk_new _ _) (by simp)).mono ?_
  rintro e W1 ⟨rfl, v1, hC, hK⟩
  replace hC := Aside0.mk hC
  clear HC hK
  have HC := hC
  clear hC
  simp only [List.nil_append, List.cons_append, List.map_cons, List.map_nil, List.append_nil, is, zX] at HC
  have hc := blk_cell HC.out.box 0
  go_wp2_with fail
  exact bodyPost_ret (by simp [results, Try.results5, go_sem]) rfl ⟨_, rfl, Kd.R_mono HC.out.row (fun _ _ => trivial), HC.out.bel⟩
set_option maxHeartbeats 4000000 in
set_option maxRecDepth 100000 in
theorem op_83 (w : World) : Calls Try.prog 5 #[.int .i64 83] w (OpOut w [⟨⟨3, true, 1, 0, 0, 7, 0⟩, 0, 0⟩, ⟨⟨13, false, 0, 0, 0, 12, 0⟩, 0, 0⟩, ⟨⟨14, false, 0, 0, 0, 0, 0⟩, 0, 0⟩] 0) := by
  go_enter Try.func5, Try.ntmps5
  go_wp2_with (first
      | (go_at_call 12; refine (arity_yes (n := 83) rfl _).mono ?_; rintro e W0 ⟨rfl, hb⟩; have HC := Aside0.mk (Cd.init hb); clear hb)
      | (go_at_call 13; refine (narrow_calls (op := 83) (k := 72) (b := true) rfl _ (by omega) (by omega)).mono ?_; rintro e w' ⟨rfl, hb⟩; replace HC := Aside0.mk (HC.out.below hb); clear hb)
      | (go_at_call 19; refine (alu_calls _ _ _ _  _).mono ?_; rintro e w' ⟨rfl, hb⟩; replace HC := Aside0.mk (HC.out.below hb); clear hb)
      | (go_at_call 33; refine (alui_calls _ _ _ _  _).mono ?_; rintro e w' ⟨rfl, hb⟩; replace HC := Aside0.mk (HC.out.below hb); clear hb)
      | (go_at_call 18; refine (num_calls _ _  _).mono ?_; rintro e w' ⟨rfl, hb⟩; replace HC := Aside0.mk (HC.out.below hb); clear hb)
      | (go_at_call 16; refine (test_calls _ _  _).mono ?_; rintro e w' ⟨rfl, hb⟩; replace HC := Aside0.mk (HC.out.below hb); clear hb))
  refine (x_calls (HC.out.alloc _) _ [⟨3, true, 1, 0, 0, 7, 0⟩, ⟨13, false, 0, 0, 0, 12, 0⟩, ⟨14, false, 0, 0, 0, 0, 0⟩] 3 (blk_new _ _) (by simp)).mono ?_
  rintro e W1 ⟨rfl, v1, hC, hK⟩
  replace hC := Aside0.mk hC
  clear HC hK
  have HC := hC
  clear hC
  simp only [List.nil_append, List.cons_append, List.map_cons, List.map_nil, List.append_nil, is, zX] at HC
  have hc := blk_cell HC.out.box 0
  go_wp2_with fail
  exact bodyPost_ret (by simp [results, Try.results5, go_sem]) rfl ⟨_, rfl, Kd.R_mono HC.out.row (fun _ _ => trivial), HC.out.bel⟩
set_option maxHeartbeats 4000000 in
set_option maxRecDepth 100000 in
theorem op_85 (w : World) : Calls Try.prog 5 #[.int .i64 85] w (OpOut w [⟨⟨3, true, 1, 0, 0, 7, 0⟩, 0, 0⟩, ⟨⟨13, false, 0, 0, 0, 15, 0⟩, 0, 0⟩, ⟨⟨14, false, 0, 0, 0, 0, 0⟩, 0, 0⟩] 0) := by
  go_enter Try.func5, Try.ntmps5
  go_wp2_with (first
      | (go_at_call 12; refine (arity_yes (n := 85) rfl _).mono ?_; rintro e W0 ⟨rfl, hb⟩; have HC := Aside0.mk (Cd.init hb); clear hb)
      | (go_at_call 13; refine (narrow_calls (op := 85) (k := 74) (b := true) rfl _ (by omega) (by omega)).mono ?_; rintro e w' ⟨rfl, hb⟩; replace HC := Aside0.mk (HC.out.below hb); clear hb)
      | (go_at_call 19; refine (alu_calls _ _ _ _  _).mono ?_; rintro e w' ⟨rfl, hb⟩; replace HC := Aside0.mk (HC.out.below hb); clear hb)
      | (go_at_call 33; refine (alui_calls _ _ _ _  _).mono ?_; rintro e w' ⟨rfl, hb⟩; replace HC := Aside0.mk (HC.out.below hb); clear hb)
      | (go_at_call 18; refine (num_calls _ _  _).mono ?_; rintro e w' ⟨rfl, hb⟩; replace HC := Aside0.mk (HC.out.below hb); clear hb)
      | (go_at_call 16; refine (test_calls _ _  _).mono ?_; rintro e w' ⟨rfl, hb⟩; replace HC := Aside0.mk (HC.out.below hb); clear hb))
  refine (x_calls (HC.out.alloc _) _ [⟨3, true, 1, 0, 0, 7, 0⟩, ⟨13, false, 0, 0, 0, 15, 0⟩, ⟨14, false, 0, 0, 0, 0, 0⟩] 3 (blk_new _ _) (by simp)).mono ?_
  rintro e W1 ⟨rfl, v1, hC, hK⟩
  replace hC := Aside0.mk hC
  clear HC hK
  have HC := hC
  clear hC
  simp only [List.nil_append, List.cons_append, List.map_cons, List.map_nil, List.append_nil, is, zX] at HC
  have hc := blk_cell HC.out.box 0
  go_wp2_with fail
  exact bodyPost_ret (by simp [results, Try.results5, go_sem]) rfl ⟨_, rfl, Kd.R_mono HC.out.row (fun _ _ => trivial), HC.out.bel⟩
set_option maxHeartbeats 4000000 in
set_option maxRecDepth 100000 in
theorem op_87 (w : World) : Calls Try.prog 5 #[.int .i64 87] w (OpOut w [⟨⟨3, true, 1, 0, 0, 7, 0⟩, 0, 0⟩, ⟨⟨13, false, 0, 0, 0, 14, 0⟩, 0, 0⟩, ⟨⟨14, false, 0, 0, 0, 0, 0⟩, 0, 0⟩] 0) := by
  go_enter Try.func5, Try.ntmps5
  go_wp2_with (first
      | (go_at_call 12; refine (arity_yes (n := 87) rfl _).mono ?_; rintro e W0 ⟨rfl, hb⟩; have HC := Aside0.mk (Cd.init hb); clear hb)
      | (go_at_call 13; refine (narrow_calls (op := 87) (k := 76) (b := true) rfl _ (by omega) (by omega)).mono ?_; rintro e w' ⟨rfl, hb⟩; replace HC := Aside0.mk (HC.out.below hb); clear hb)
      | (go_at_call 19; refine (alu_calls _ _ _ _  _).mono ?_; rintro e w' ⟨rfl, hb⟩; replace HC := Aside0.mk (HC.out.below hb); clear hb)
      | (go_at_call 33; refine (alui_calls _ _ _ _  _).mono ?_; rintro e w' ⟨rfl, hb⟩; replace HC := Aside0.mk (HC.out.below hb); clear hb)
      | (go_at_call 18; refine (num_calls _ _  _).mono ?_; rintro e w' ⟨rfl, hb⟩; replace HC := Aside0.mk (HC.out.below hb); clear hb)
      | (go_at_call 16; refine (test_calls _ _  _).mono ?_; rintro e w' ⟨rfl, hb⟩; replace HC := Aside0.mk (HC.out.below hb); clear hb))
  refine (x_calls (HC.out.alloc _) _ [⟨3, true, 1, 0, 0, 7, 0⟩, ⟨13, false, 0, 0, 0, 14, 0⟩, ⟨14, false, 0, 0, 0, 0, 0⟩] 3 (blk_new _ _) (by simp)).mono ?_
  rintro e W1 ⟨rfl, v1, hC, hK⟩
  replace hC := Aside0.mk hC
  clear HC hK
  have HC := hC
  clear hC
  simp only [List.nil_append, List.cons_append, List.map_cons, List.map_nil, List.append_nil, is, zX] at HC
  have hc := blk_cell HC.out.box 0
  go_wp2_with fail
  exact bodyPost_ret (by simp [results, Try.results5, go_sem]) rfl ⟨_, rfl, Kd.R_mono HC.out.row (fun _ _ => trivial), HC.out.bel⟩
set_option maxHeartbeats 4000000 in
set_option maxRecDepth 100000 in
theorem op_89 (w : World) : Calls Try.prog 5 #[.int .i64 89] w (OpOut w [⟨⟨3, true, 1, 0, 0, 7, 0⟩, 0, 0⟩, ⟨⟨13, false, 0, 0, 0, 13, 0⟩, 0, 0⟩, ⟨⟨14, false, 0, 0, 0, 0, 0⟩, 0, 0⟩] 0) := by
  go_enter Try.func5, Try.ntmps5
  go_wp2_with (first
      | (go_at_call 12; refine (arity_yes (n := 89) rfl _).mono ?_; rintro e W0 ⟨rfl, hb⟩; have HC := Aside0.mk (Cd.init hb); clear hb)
      | (go_at_call 13; refine (narrow_calls (op := 89) (k := 78) (b := true) rfl _ (by omega) (by omega)).mono ?_; rintro e w' ⟨rfl, hb⟩; replace HC := Aside0.mk (HC.out.below hb); clear hb)
      | (go_at_call 19; refine (alu_calls _ _ _ _  _).mono ?_; rintro e w' ⟨rfl, hb⟩; replace HC := Aside0.mk (HC.out.below hb); clear hb)
      | (go_at_call 33; refine (alui_calls _ _ _ _  _).mono ?_; rintro e w' ⟨rfl, hb⟩; replace HC := Aside0.mk (HC.out.below hb); clear hb)
      | (go_at_call 18; refine (num_calls _ _  _).mono ?_; rintro e w' ⟨rfl, hb⟩; replace HC := Aside0.mk (HC.out.below hb); clear hb)
      | (go_at_call 16; refine (test_calls _ _  _).mono ?_; rintro e w' ⟨rfl, hb⟩; replace HC := Aside0.mk (HC.out.below hb); clear hb))
  refine (x_calls (HC.out.alloc _) _ [⟨3, true, 1, 0, 0, 7, 0⟩, ⟨13, false, 0, 0, 0, 13, 0⟩, ⟨14, false, 0, 0, 0, 0, 0⟩] 3 (blk_new _ _) (by simp)).mono ?_
  rintro e W1 ⟨rfl, v1, hC, hK⟩
  replace hC := Aside0.mk hC
  clear HC hK
  have HC := hC
  clear hC
  simp only [List.nil_append, List.cons_append, List.map_cons, List.map_nil, List.append_nil, is, zX] at HC
  have hc := blk_cell HC.out.box 0
  go_wp2_with fail
  exact bodyPost_ret (by simp [results, Try.results5, go_sem]) rfl ⟨_, rfl, Kd.R_mono HC.out.row (fun _ _ => trivial), HC.out.bel⟩
set_option maxHeartbeats 4000000 in
set_option maxRecDepth 100000 in
theorem op_106 (w : World) : Calls Try.prog 5 #[.int .i64 106] w (OpOut w [⟨⟨3, false, 1, 0, 0, 0, 0⟩, 0, 0⟩] 0) := by
  go_enter Try.func5, Try.ntmps5
  go_wp2_with (first
      | (go_at_call 12; refine (arity_yes (n := 106) rfl _).mono ?_; rintro e W0 ⟨rfl, hb⟩; have HC := Aside0.mk (Cd.init hb); clear hb)
      | (go_at_call 13; refine (narrow_calls (op := 106) (k := 106) (b := false) rfl _ (by omega) (by omega)).mono ?_; rintro e w' ⟨rfl, hb⟩; replace HC := Aside0.mk (HC.out.below hb); clear hb)
      | (go_at_call 19; refine (alu_calls _ _ _ _  _).mono ?_; rintro e w' ⟨rfl, hb⟩; replace HC := Aside0.mk (HC.out.below hb); clear hb)
      | (go_at_call 33; refine (alui_calls _ _ _ _  _).mono ?_; rintro e w' ⟨rfl, hb⟩; replace HC := Aside0.mk (HC.out.below hb); clear hb)
      | (go_at_call 18; refine (num_calls _ _  _).mono ?_; rintro e w' ⟨rfl, hb⟩; replace HC := Aside0.mk (HC.out.below hb); clear hb)
      | (go_at_call 16; refine (test_calls _ _  _).mono ?_; rintro e w' ⟨rfl, hb⟩; replace HC := Aside0.mk (HC.out.below hb); clear hb))
  refine (x_calls (HC.out.alloc _) _ [⟨3, false, 1, 0, 0, 0, 0⟩] 1 (blk_new _ _) (by simp)).mono ?_
  rintro e W1 ⟨rfl, v1, hC, hK⟩
  replace hC := Aside0.mk hC
  clear HC hK
  have HC := hC
  clear hC
  simp only [List.nil_append, List.cons_append, List.map_cons, List.map_nil, List.append_nil, is, zX] at HC
  have hc := blk_cell HC.out.box 0
  go_wp2_with fail
  exact bodyPost_ret (by simp [results, Try.results5, go_sem]) rfl ⟨_, rfl, Kd.R_mono HC.out.row (fun _ _ => trivial), HC.out.bel⟩
set_option maxHeartbeats 4000000 in
set_option maxRecDepth 100000 in
theorem op_108 (w : World) : Calls Try.prog 5 #[.int .i64 108] w (OpOut w [⟨⟨6, false, 0, 1, 0, 0, 0⟩, 0, 0⟩] 0) := by
  go_enter Try.func5, Try.ntmps5
  go_wp2_with (first
      | (go_at_call 12; refine (arity_yes (n := 108) rfl _).mono ?_; rintro e W0 ⟨rfl, hb⟩; have HC := Aside0.mk (Cd.init hb); clear hb)
      | (go_at_call 13; refine (narrow_calls (op := 108) (k := 108) (b := false) rfl _ (by omega) (by omega)).mono ?_; rintro e w' ⟨rfl, hb⟩; replace HC := Aside0.mk (HC.out.below hb); clear hb)
      | (go_at_call 19; refine (alu_calls _ _ _ _  _).mono ?_; rintro e w' ⟨rfl, hb⟩; replace HC := Aside0.mk (HC.out.below hb); clear hb)
      | (go_at_call 33; refine (alui_calls _ _ _ _  _).mono ?_; rintro e w' ⟨rfl, hb⟩; replace HC := Aside0.mk (HC.out.below hb); clear hb)
      | (go_at_call 18; refine (num_calls _ _  _).mono ?_; rintro e w' ⟨rfl, hb⟩; replace HC := Aside0.mk (HC.out.below hb); clear hb)
      | (go_at_call 16; refine (test_calls _ _  _).mono ?_; rintro e w' ⟨rfl, hb⟩; replace HC := Aside0.mk (HC.out.below hb); clear hb))
  refine (x_calls (HC.out.alloc _) _ [⟨6, false, 0, 1, 0, 0, 0⟩] 1 (blk_new _ _) (by simp)).mono ?_
  rintro e W1 ⟨rfl, v1, hC, hK⟩
  replace hC := Aside0.mk hC
  clear HC hK
  have HC := hC
  clear hC
  simp only [List.nil_append, List.cons_append, List.map_cons, List.map_nil, List.append_nil, is, zX] at HC
  have hc := blk_cell HC.out.box 0
  go_wp2_with fail
  exact bodyPost_ret (by simp [results, Try.results5, go_sem]) rfl ⟨_, rfl, Kd.R_mono HC.out.row (fun _ _ => trivial), HC.out.bel⟩
set_option maxHeartbeats 4000000 in
set_option maxRecDepth 100000 in
theorem op_110 (w : World) : Calls Try.prog 5 #[.int .i64 110] w (OpOut w [⟨⟨5, false, 1, 1, 0, 0, 0⟩, 0, 0⟩, ⟨⟨18, false, 0, 0, 0, 4, 0⟩, 0, 1⟩, ⟨⟨2, true, 2, 0, 0, 0, 0⟩, 0, 0⟩, ⟨⟨8, false, 0, 1, 0, 0, 0⟩, 0, 0⟩] 0) := by
  go_enter Try.func5, Try.ntmps5
  go_wp2_with (first
      | (go_at_call 12; refine (arity_yes (n := 110) rfl _).mono ?_; rintro e W0 ⟨rfl, hb⟩; have HC := Aside0.mk (Cd.init hb); clear hb)
      | (go_at_call 13; refine (narrow_calls (op := 110) (k := 110) (b := false) rfl _ (by omega) (by omega)).mono ?_; rintro e w' ⟨rfl, hb⟩; replace HC := Aside0.mk (HC.out.below hb); clear hb)
      | (go_at_call 19; refine (alu_calls _ _ _ _  _).mono ?_; rintro e w' ⟨rfl, hb⟩; replace HC := Aside0.mk (HC.out.below hb); clear hb)
      | (go_at_call 33; refine (alui_calls _ _ _ _  _).mono ?_; rintro e w' ⟨rfl, hb⟩; replace HC := Aside0.mk (HC.out.below hb); clear hb)
      | (go_at_call 18; refine (num_calls _ _  _).mono ?_; rintro e w' ⟨rfl, hb⟩; replace HC := Aside0.mk (HC.out.below hb); clear hb)
      | (go_at_call 16; refine (test_calls _ _  _).mono ?_; rintro e w' ⟨rfl, hb⟩; replace HC := Aside0.mk (HC.out.below hb); clear hb))
  refine (x_calls (HC.out.alloc _) _ [⟨5, false, 1, 1, 0, 0, 0⟩] 1 (blk_new _ _) (by simp)).mono ?_
  rintro e W1 ⟨rfl, v1, hC, hK⟩
  replace hC := Aside0.mk hC
  clear HC hK
  have HC := hC
  clear hC
  simp only [List.nil_append, List.cons_append, List.map_cons, List.map_nil, List.append_nil, is, zX] at HC
  go_wp2_with (first
      | (go_at_call 19; refine (alu_calls _ _ _ _  _).mono ?_; rintro e w' ⟨rfl, hb⟩; replace HC := Aside0.mk (HC.out.below hb); clear hb)
      | (go_at_call 33; refine (alui_calls _ _ _ _  _).mono ?_; rintro e w' ⟨rfl, hb⟩; replace HC := Aside0.mk (HC.out.below hb); clear hb)
      | (go_at_call 18; refine (num_calls _ _  _).mono ?_; rintro e w' ⟨rfl, hb⟩; replace HC := Aside0.mk (HC.out.below hb); clear hb)
      | (go_at_call 16; refine (test_calls _ _  _).mono ?_; rintro e w' ⟨rfl, hb⟩; replace HC := Aside0.mk (HC.out.below hb); clear hb))
  refine (when_calls HC.out 4 1 (by simp)).mono ?_
  rintro e W2 ⟨rfl, v2, hC, hK⟩
  replace hC := Aside0.mk hC
  clear HC hK
  have HC := hC
  clear hC
  simp only [List.nil_append, List.cons_append, List.map_cons, List.map_nil, List.append_nil, is, zX] at HC
  go_wp2_with (first
      | (go_at_call 19; refine (alu_calls _ _ _ _  _).mono ?_; rintro e w' ⟨rfl, hb⟩; replace HC := Aside0.mk (HC.out.below hb); clear hb)
      | (go_at_call 33; refine (alui_calls _ _ _ _  _).mono ?_; rintro e w' ⟨rfl, hb⟩; replace HC := Aside0.mk (HC.out.below hb); clear hb)
      | (go_at_call 18; refine (num_calls _ _  _).mono ?_; rintro e w' ⟨rfl, hb⟩; replace HC := Aside0.mk (HC.out.below hb); clear hb)
      | (go_at_call 16; refine (test_calls _ _  _).mono ?_; rintro e w' ⟨rfl, hb⟩; replace HC := Aside0.mk (HC.out.below hb); clear hb))
  refine (x_calls (HC.out.alloc _) _ [⟨2, true, 2, 0, 0, 0, 0⟩, ⟨8, false, 0, 1, 0, 0, 0⟩] 2 (blk_new _ _) (by simp)).mono ?_
  rintro e W3 ⟨rfl, v3, hC, hK⟩
  replace hC := Aside0.mk hC
  clear HC hK
  have HC := hC
  clear hC
  simp only [List.nil_append, List.cons_append, List.map_cons, List.map_nil, List.append_nil, is, zX] at HC
  have hc := blk_cell HC.out.box 0
  go_wp2_with fail
  exact bodyPost_ret (by simp [results, Try.results5, go_sem]) rfl ⟨_, rfl, Kd.R_mono HC.out.row (fun _ _ => trivial), HC.out.bel⟩
set_option maxHeartbeats 4000000 in
set_option maxRecDepth 100000 in
theorem op_112 (w : World) : Calls Try.prog 5 #[.int .i64 112] w (OpOut w [⟨⟨5, false, 1, 1, 0, 0, 0⟩, 0, 0⟩, ⟨⟨18, false, 0, 0, 0, 4, 0⟩, 0, 1⟩, ⟨⟨2, true, 2, 0, 0, 0, 0⟩, 0, 0⟩, ⟨⟨8, false, 0, 1, 0, 0, 0⟩, 0, 0⟩, ⟨⟨1, true, 2, 0, 0, 0, 0⟩, 0, 0⟩] 0) := by
  go_enter Try.func5, Try.ntmps5
  go_wp2_with (first
      | (go_at_call 12; refine (arity_yes (n := 112) rfl _).mono ?_; rintro e W0 ⟨rfl, hb⟩; have HC := Aside0.mk (Cd.init hb); clear hb)
      | (go_at_call 13; refine (narrow_calls (op := 112) (k := 112) (b := false) rfl _ (by omega) (by omega)).mono ?_; rintro e w' ⟨rfl, hb⟩; replace HC := Aside0.mk (HC.out.below hb); clear hb)
      | (go_at_call 19; refine (alu_calls _ _ _ _  _).mono ?_; rintro e w' ⟨rfl, hb⟩; replace HC := Aside0.mk (HC.out.below hb); clear hb)
      | (go_at_call 33; refine (alui_calls _ _ _ _  _).mono ?_; rintro e w' ⟨rfl, hb⟩; replace HC := Aside0.mk (HC.out.below hb); clear hb)
      | (go_at_call 18; refine (num_calls _ _  _).mono ?_; rintro e w' ⟨rfl, hb⟩; replace HC := Aside0.mk (HC.out.below hb); clear hb)
      | (go_at_call 16; refine (test_calls _ _  _).mono ?_; rintro e w' ⟨rfl, hb⟩; replace HC := Aside0.mk (HC.out.below hb); clear hb))
  refine (x_calls (HC.out.alloc _) _ [⟨5, false, 1, 1, 0, 0, 0⟩] 1 (blk_new _ _) (by simp)).mono ?_
  rintro e W1 ⟨rfl, v1, hC, hK⟩
  replace hC := Aside0.mk hC
  clear HC hK
  have HC := hC
  clear hC
  simp only [List.nil_append, List.cons_append, List.map_cons, List.map_nil, List.append_nil, is, zX] at HC
  go_wp2_with (first
      | (go_at_call 19; refine (alu_calls _ _ _ _  _).mono ?_; rintro e w' ⟨rfl, hb⟩; replace HC := Aside0.mk (HC.out.below hb); clear hb)
      | (go_at_call 33; refine (alui_calls _ _ _ _  _).mono ?_; rintro e w' ⟨rfl, hb⟩; replace HC := Aside0.mk (HC.out.below hb); clear hb)
      | (go_at_call 18; refine (num_calls _ _  _).mono ?_; rintro e w' ⟨rfl, hb⟩; replace HC := Aside0.mk (HC.out.below hb); clear hb)
      | (go_at_call 16; refine (test_calls _ _  _).mono ?_; rintro e w' ⟨rfl, hb⟩; replace HC := Aside0.mk (HC.out.below hb); clear hb))
  refine (when_calls HC.out 4 1 (by simp)).mono ?_
  rintro e W2 ⟨rfl, v2, hC, hK⟩
  replace hC := Aside0.mk hC
  clear HC hK
  have HC := hC
  clear hC
  simp only [List.nil_append, List.cons_append, List.map_cons, List.map_nil, List.append_nil, is, zX] at HC
  go_wp2_with (first
      | (go_at_call 19; refine (alu_calls _ _ _ _  _).mono ?_; rintro e w' ⟨rfl, hb⟩; replace HC := Aside0.mk (HC.out.below hb); clear hb)
      | (go_at_call 33; refine (alui_calls _ _ _ _  _).mono ?_; rintro e w' ⟨rfl, hb⟩; replace HC := Aside0.mk (HC.out.below hb); clear hb)
      | (go_at_call 18; refine (num_calls _ _  _).mono ?_; rintro e w' ⟨rfl, hb⟩; replace HC := Aside0.mk (HC.out.below hb); clear hb)
      | (go_at_call 16; refine (test_calls _ _  _).mono ?_; rintro e w' ⟨rfl, hb⟩; replace HC := Aside0.mk (HC.out.below hb); clear hb))
  refine (x_calls (HC.out.alloc _) _ [⟨2, true, 2, 0, 0, 0, 0⟩, ⟨8, false, 0, 1, 0, 0, 0⟩] 2 (blk_new _ _) (by simp)).mono ?_
  rintro e W3 ⟨rfl, v3, hC, hK⟩
  replace hC := Aside0.mk hC
  clear HC hK
  have HC := hC
  clear hC
  simp only [List.nil_append, List.cons_append, List.map_cons, List.map_nil, List.append_nil, is, zX] at HC
  go_wp2_with (first
      | (go_at_call 19; refine (alu_calls _ _ _ _  _).mono ?_; rintro e w' ⟨rfl, hb⟩; replace HC := Aside0.mk (HC.out.below hb); clear hb)
      | (go_at_call 33; refine (alui_calls _ _ _ _  _).mono ?_; rintro e w' ⟨rfl, hb⟩; replace HC := Aside0.mk (HC.out.below hb); clear hb)
      | (go_at_call 18; refine (num_calls _ _  _).mono ?_; rintro e w' ⟨rfl, hb⟩; replace HC := Aside0.mk (HC.out.below hb); clear hb)
      | (go_at_call 16; refine (test_calls _ _  _).mono ?_; rintro e w' ⟨rfl, hb⟩; replace HC := Aside0.mk (HC.out.below hb); clear hb))
  refine (x_calls (HC.out.alloc _) _ [⟨1, true, 2, 0, 0, 0, 0⟩] 1 (blk_new _ _) (by simp)).mono ?_
  rintro e W4 ⟨rfl, v4, hC, hK⟩
  replace hC := Aside0.mk hC
  clear HC hK
  have HC := hC
  clear hC
  simp only [List.nil_append, List.cons_append, List.map_cons, List.map_nil, List.append_nil, is, zX] at HC
  have hc := blk_cell HC.out.box 0
  go_wp2_with fail
  exact bodyPost_ret (by simp [results, Try.results5, go_sem]) rfl ⟨_, rfl, Kd.R_mono HC.out.row (fun _ _ => trivial), HC.out.bel⟩
set_option maxHeartbeats 4000000 in
set_option maxRecDepth 100000 in
theorem op_114 (w : World) : Calls Try.prog 5 #[.int .i64 114] w (OpOut w [⟨⟨3, false, 1, 0, 0, 1, 0⟩, 0, 0⟩] 0) := by
  go_enter Try.func5, Try.ntmps5
  go_wp2_with (first
      | (go_at_call 12; refine (arity_yes (n := 114) rfl _).mono ?_; rintro e W0 ⟨rfl, hb⟩; have HC := Aside0.mk (Cd.init hb); clear hb)
      | (go_at_call 13; refine (narrow_calls (op := 114) (k := 114) (b := false) rfl _ (by omega) (by omega)).mono ?_; rintro e w' ⟨rfl, hb⟩; replace HC := Aside0.mk (HC.out.below hb); clear hb)
      | (go_at_call 19; refine (alu_calls _ _ _ _  _).mono ?_; rintro e w' ⟨rfl, hb⟩; replace HC := Aside0.mk (HC.out.below hb); clear hb)
      | (go_at_call 33; refine (alui_calls _ _ _ _  _).mono ?_; rintro e w' ⟨rfl, hb⟩; replace HC := Aside0.mk (HC.out.below hb); clear hb)
      | (go_at_call 18; refine (num_calls _ _  _).mono ?_; rintro e w' ⟨rfl, hb⟩; replace HC := Aside0.mk (HC.out.below hb); clear hb)
      | (go_at_call 16; refine (test_calls _ _  _).mono ?_; rintro e w' ⟨rfl, hb⟩; replace HC := Aside0.mk (HC.out.below hb); clear hb))
  refine (x_calls (HC.out.alloc _) _ [⟨3, false, 1, 0, 0, 1, 0⟩] 1 (blk_new _ _) (by simp)).mono ?_
  rintro e W1 ⟨rfl, v1, hC, hK⟩
  replace hC := Aside0.mk hC
  clear HC hK
  have HC := hC
  clear hC
  simp only [List.nil_append, List.cons_append, List.map_cons, List.map_nil, List.append_nil, is, zX] at HC
  have hc := blk_cell HC.out.box 0
  go_wp2_with fail
  exact bodyPost_ret (by simp [results, Try.results5, go_sem]) rfl ⟨_, rfl, Kd.R_mono HC.out.row (fun _ _ => trivial), HC.out.bel⟩
set_option maxHeartbeats 4000000 in
set_option maxRecDepth 100000 in
theorem op_116 (w : World) : Calls Try.prog 5 #[.int .i64 116] w (OpOut w [⟨⟨7, false, 0, 0, 0, 4, 0⟩, 0, 0⟩] 0) := by
  go_enter Try.func5, Try.ntmps5
  go_wp2_with (first
      | (go_at_call 12; refine (arity_yes (n := 116) rfl _).mono ?_; rintro e W0 ⟨rfl, hb⟩; have HC := Aside0.mk (Cd.init hb); clear hb)
      | (go_at_call 13; refine (narrow_calls (op := 116) (k := 116) (b := false) rfl _ (by omega) (by omega)).mono ?_; rintro e w' ⟨rfl, hb⟩; replace HC := Aside0.mk (HC.out.below hb); clear hb)
      | (go_at_call 19; refine (alu_calls _ _ _ _  _).mono ?_; rintro e w' ⟨rfl, hb⟩; replace HC := Aside0.mk (HC.out.below hb); clear hb)
      | (go_at_call 33; refine (alui_calls _ _ _ _  _).mono ?_; rintro e w' ⟨rfl, hb⟩; replace HC := Aside0.mk (HC.out.below hb); clear hb)
      | (go_at_call 18; refine (num_calls _ _  _).mono ?_; rintro e w' ⟨rfl, hb⟩; replace HC := Aside0.mk (HC.out.below hb); clear hb)
      | (go_at_call 16; refine (test_calls _ _  _).mono ?_; rintro e w' ⟨rfl, hb⟩; replace HC := Aside0.mk (HC.out.below hb); clear hb))
  refine (x_calls (HC.out.alloc _) _ [⟨7, false, 0, 0, 0, 4, 0⟩] 1 (blk_new _ _) (by simp)).mono ?_
  rintro e W1 ⟨rfl, v1, hC, hK⟩
  replace hC := Aside0.mk hC
  clear HC hK
  have HC := hC
  clear hC
  simp only [List.nil_append, List.cons_append, List.map_cons, List.map_nil, List.append_nil, is, zX] at HC
  have hc := blk_cell HC.out.box 0
  go_wp2_with fail
  exact bodyPost_ret (by simp [results, Try.results5, go_sem]) rfl ⟨_, rfl, Kd.R_mono HC.out.row (fun _ _ => trivial), HC.out.bel⟩
set_option maxHeartbeats 4000000 in
set_option maxRecDepth 100000 in
theorem op_118 (w : World) : Calls Try.prog 5 #[.int .i64 118] w (OpOut w [⟨⟨7, false, 0, 0, 0, 5, 0⟩, 0, 0⟩] 0) := by
  go_enter Try.func5, Try.ntmps5
  go_wp2_with (first
      | (go_at_call 12; refine (arity_yes (n := 118) rfl _).mono ?_; rintro e W0 ⟨rfl, hb⟩; have HC := Aside0.mk (Cd.init hb); clear hb)
      | (go_at_call 13; refine (narrow_calls (op := 118) (k := 118) (b := false) rfl _ (by omega) (by omega)).mono ?_; rintro e w' ⟨rfl, hb⟩; replace HC := Aside0.mk (HC.out.below hb); clear hb)
      | (go_at_call 19; refine (alu_calls _ _ _ _  _).mono ?_; rintro e w' ⟨rfl, hb⟩; replace HC := Aside0.mk (HC.out.below hb); clear hb)
      | (go_at_call 33; refine (alui_calls _ _ _ _  _).mono ?_; rintro e w' ⟨rfl, hb⟩; replace HC := Aside0.mk (HC.out.below hb); clear hb)
      | (go_at_call 18; refine (num_calls _ _  _).mono ?_; rintro e w' ⟨rfl, hb⟩; replace HC := Aside0.mk (HC.out.below hb); clear hb)
      | (go_at_call 16; refine (test_calls _ _  _).mono ?_; rintro e w' ⟨rfl, hb⟩; replace HC := Aside0.mk (HC.out.below hb); clear hb))
  refine (x_calls (HC.out.alloc _) _ [⟨7, false, 0, 0, 0, 5, 0⟩] 1 (blk_new _ _) (by simp)).mono ?_
  rintro e W1 ⟨rfl, v1, hC, hK⟩
  replace hC := Aside0.mk hC
  clear HC hK
  have HC := hC
  clear hC
  simp only [List.nil_append, List.cons_append, List.map_cons, List.map_nil, List.append_nil, is, zX] at HC
  have hc := blk_cell HC.out.box 0
  go_wp2_with fail
  exact bodyPost_ret (by simp [results, Try.results5, go_sem]) rfl ⟨_, rfl, Kd.R_mono HC.out.row (fun _ _ => trivial), HC.out.bel⟩
set_option maxHeartbeats 4000000 in
set_option maxRecDepth 100000 in
theorem op_120 (w : World) : Calls Try.prog 5 #[.int .i64 120] w (OpOut w [⟨⟨7, false, 0, 0, 0, 1, 0⟩, 0, 0⟩] 0) := by
  go_enter Try.func5, Try.ntmps5
  go_wp2_with (first
      | (go_at_call 12; refine (arity_yes (n := 120) rfl _).mono ?_; rintro e W0 ⟨rfl, hb⟩; have HC := Aside0.mk (Cd.init hb); clear hb)
      | (go_at_call 13; refine (narrow_calls (op := 120) (k := 120) (b := false) rfl _ (by omega) (by omega)).mono ?_; rintro e w' ⟨rfl, hb⟩; replace HC := Aside0.mk (HC.out.below hb); clear hb)
      | (go_at_call 19; refine (alu_calls _ _ _ _  _).mono ?_; rintro e w' ⟨rfl, hb⟩; replace HC := Aside0.mk (HC.out.below hb); clear hb)
      | (go_at_call 33; refine (alui_calls _ _ _ _  _).mono ?_; rintro e w' ⟨rfl, hb⟩; replace HC := Aside0.mk (HC.out.below hb); clear hb)
      | (go_at_call 18; refine (num_calls _ _  _).mono ?_; rintro e w' ⟨rfl, hb⟩; replace HC := Aside0.mk (HC.out.below hb); clear hb)
      | (go_at_call 16; refine (test_calls _ _  _).mono ?_; rintro e w' ⟨rfl, hb⟩; replace HC := Aside0.mk (HC.out.below hb); clear hb))
  refine (x_calls (HC.out.alloc _) _ [⟨7, false, 0, 0, 0, 1, 0⟩] 1 (blk_new _ _) (by simp)).mono ?_
  rintro e W1 ⟨rfl, v1, hC, hK⟩
  replace hC := Aside0.mk hC
  clear HC hK
  have HC := hC
  clear hC
  simp only [List.nil_append, List.cons_append, List.map_cons, List.map_nil, List.append_nil, is, zX] at HC
  have hc := blk_cell HC.out.box 0
  go_wp2_with fail
  exact bodyPost_ret (by simp [results, Try.results5, go_sem]) rfl ⟨_, rfl, Kd.R_mono HC.out.row (fun _ _ => trivial), HC.out.bel⟩
set_option maxHeartbeats 4000000 in
set_option maxRecDepth 100000 in
theorem op_125 (w : World) : Calls Try.prog 5 #[.int .i64 125] w (OpOut w [⟨⟨3, true, 1, 0, 0, 5, 0⟩, 0, 0⟩] 0) := by
  go_enter Try.func5, Try.ntmps5
  go_wp2_with (first
      | (go_at_call 12; refine (arity_yes (n := 125) rfl _).mono ?_; rintro e W0 ⟨rfl, hb⟩; have HC := Aside0.mk (Cd.init hb); clear hb)
      | (go_at_call 13; refine (narrow_calls (op := 125) (k := 107) (b := true) rfl _ (by omega) (by omega)).mono ?_; rintro e w' ⟨rfl, hb⟩; replace HC := Aside0.mk (HC.out.below hb); clear hb)
      | (go_at_call 19; refine (alu_calls _ _ _ _  _).mono ?_; rintro e w' ⟨rfl, hb⟩; replace HC := Aside0.mk (HC.out.below hb); clear hb)
      | (go_at_call 33; refine (alui_calls _ _ _ _  _).mono ?_; rintro e w' ⟨rfl, hb⟩; replace HC := Aside0.mk (HC.out.below hb); clear hb)
      | (go_at_call 18; refine (num_calls _ _  _).mono ?_; rintro e w' ⟨rfl, hb⟩; replace HC := Aside0.mk (HC.out.below hb); clear hb)
      | (go_at_call 16; refine (test_calls _ _  _).mono ?_; rintro e w' ⟨rfl, hb⟩; replace HC := Aside0.mk (HC.out.below hb); clear hb))
  refine (x_calls (HC.out.alloc _) _ [⟨3, true, 1, 0, 0, 5, 0⟩] 1 (blk_new _ _) (by simp)).mono ?_
  rintro e W1 ⟨rfl, v1, hC, hK⟩
  replace hC := Aside0.mk hC
  clear HC hK
  have HC := hC
  clear hC
  simp only [List.nil_append, List.cons_append, List.map_cons, List.map_nil, List.append_nil, is, zX] at HC
  have hc := blk_cell HC.out.box 0
  go_wp2_with fail
  exact bodyPost_ret (by simp [results, Try.results5, go_sem]) rfl ⟨_, rfl, Kd.R_mono HC.out.row (fun _ _ => trivial), HC.out.bel⟩
set_option maxHeartbeats 4000000 in
set_option maxRecDepth 100000 in
theorem op_127 (w : World) : Calls Try.prog 5 #[.int .i64 127] w (OpOut w [⟨⟨5, true, 1, 1, 0, 0, 0⟩, 0, 0⟩, ⟨⟨18, false, 0, 0, 0, 4, 0⟩, 0, 1⟩, ⟨⟨4, true, 0, 1, 0, 7, -1⟩, 0, 0⟩, ⟨⟨18, false, 0, 0, 0, 5, 0⟩, 0, 100⟩, ⟨⟨2, true, 2, 0, 0, 0, -9223372036854775808⟩, 0, 0⟩, ⟨⟨3, true, 2, 0, 0, 7, 0⟩, 0, 0⟩, ⟨⟨18, false, 0, 0, 0, 4, 0⟩, 0, 2⟩, ⟨⟨0, false, 0, 0, 0, 0, 0⟩, 100, 0⟩, ⟨⟨10, true, 0, 0, 0, 0, 0⟩, 0, 0⟩, ⟨⟨9, true, 0, 1, 0, 0, 0⟩, 0, 0⟩] 1) := by
  go_enter Try.func5, Try.ntmps5
  go_wp2_with (first
      | (go_at_call 12; refine (arity_yes (n := 127) rfl _).mono ?_; rintro e W0 ⟨rfl, hb⟩; have HC := Aside0.mk (Cd.init hb); clear hb)
      | (go_at_call 13; refine (narrow_calls (op := 127) (k := 109) (b := true) rfl _ (by omega) (by omega)).mono ?_; rintro e w' ⟨rfl, hb⟩; replace HC := Aside0.mk (HC.out.below hb); clear hb)
      | (go_at_call 19; refine (alu_calls _ _ _ _  _).mono ?_; rintro e w' ⟨rfl, hb⟩; replace HC := Aside0.mk (HC.out.below hb); clear hb)
      | (go_at_call 33; refine (alui_calls _ _ _ _  _).mono ?_; rintro e w' ⟨rfl, hb⟩; replace HC := Aside0.mk (HC.out.below hb); clear hb)
      | (go_at_call 18; refine (num_calls _ _  _).mono ?_; rintro e w' ⟨rfl, hb⟩; replace HC := Aside0.mk (HC.out.below hb); clear hb)
      | (go_at_call 16; refine (test_calls _ _  _).mono ?_; rintro e w' ⟨rfl, hb⟩; replace HC := Aside0.mk (HC.out.below hb); clear hb))
  refine (signed_109_w HC.out).mono ?_
  rintro e W1 ⟨rfl, v1, hC⟩
  replace hC := Aside0.mk hC
  clear HC
  have HC := hC
  clear hC
  have hc := blk_cell HC.out.box 0
  go_wp2_with fail
  exact bodyPost_ret (by simp [results, Try.results5, go_sem]) rfl ⟨_, rfl, Kd.R_mono HC.out.row (fun _ _ => trivial), HC.out.bel⟩
set_option maxHeartbeats 4000000 in
set_option maxRecDepth 100000 in
theorem op_129 (w : World) : Calls Try.prog 5 #[.int .i64 129] w (OpOut w [⟨⟨5, true, 1, 1, 0, 0, 0⟩, 0, 0⟩, ⟨⟨18, false, 0, 0, 0, 4, 0⟩, 0, 1⟩, ⟨⟨4, true, 0, 1, 0, 7, -1⟩, 0, 0⟩, ⟨⟨18, false, 0, 0, 0, 5, 0⟩, 0, 100⟩, ⟨⟨2, true, 2, 0, 0, 0, 0⟩, 0, 0⟩, ⟨⟨17, false, 0, 0, 0, 0, 0⟩, 0, 101⟩, ⟨⟨0, false, 0, 0, 0, 0, 0⟩, 100, 0⟩, ⟨⟨10, true, 0, 0, 0, 0, 0⟩, 0, 0⟩, ⟨⟨9, true, 0, 1, 0, 0, 0⟩, 0, 0⟩, ⟨⟨0, false, 0, 0, 0, 0, 0⟩, 101, 0⟩, ⟨⟨1, true, 2, 0, 0, 0, 0⟩, 0, 0⟩] 2) := by
  go_enter Try.func5, Try.ntmps5
  go_wp2_with (first
      | (go_at_call 12; refine (arity_yes (n := 129) rfl _).mono ?_; rintro e W0 ⟨rfl, hb⟩; have HC := Aside0.mk (Cd.init hb); clear hb)
      | (go_at_call 13; refine (narrow_calls (op := 129) (k := 111) (b := true) rfl _ (by omega) (by omega)).mono ?_; rintro e w' ⟨rfl, hb⟩; replace HC := Aside0.mk (HC.out.below hb); clear hb)
      | (go_at_call 19; refine (alu_calls _ _ _ _  _).mono ?_; rintro e w' ⟨rfl, hb⟩; replace HC := Aside0.mk (HC.out.below hb); clear hb)
      | (go_at_call 33; refine (alui_calls _ _ _ _  _).mono ?_; rintro e w' ⟨rfl, hb⟩; replace HC := Aside0.mk (HC.out.below hb); clear hb)
      | (go_at_call 18; refine (num_calls _ _  _).mono ?_; rintro e w' ⟨rfl, hb⟩; replace HC := Aside0.mk (HC.out.below hb); clear hb)
      | (go_at_call 16; refine (test_calls _ _  _).mono ?_; rintro e w' ⟨rfl, hb⟩; replace HC := Aside0.mk (HC.out.below hb); clear hb))
  refine (signed_111_w HC.out).mono ?_
  rintro e W1 ⟨rfl, v1, hC⟩
  replace hC := Aside0.mk hC
  clear HC
  have HC := hC
  clear hC
  have hc := blk_cell HC.out.box 0
  go_wp2_with fail
  exact bodyPost_ret (by simp [results, Try.results5, go_sem]) rfl ⟨_, rfl, Kd.R_mono HC.out.row (fun _ _ => trivial), HC.out.bel⟩
set_option maxHeartbeats 4000000 in
set_option maxRecDepth 100000 in
theorem op_131 (w : World) : Calls Try.prog 5 #[.int .i64 131] w (OpOut w [⟨⟨3, true, 1, 0, 0, 4, 0⟩, 0, 0⟩] 0) := by
  go_enter Try.func5, Try.ntmps5
  go_wp2_with (first
      | (go_at_call 12; refine (arity_yes (n := 131) rfl _).mono ?_; rintro e W0 ⟨rfl, hb⟩; have HC := Aside0.mk (Cd.init hb); clear hb)
      | (go_at_call 13; refine (narrow_calls (op := 131) (k := 113) (b := true) rfl _ (by omega) (by omega)).mono ?_; rintro e w' ⟨rfl, hb⟩; replace HC := Aside0.mk (HC.out.below hb); clear hb)
      | (go_at_call 19; refine (alu_calls _ _ _ _  _).mono ?_; rintro e w' ⟨rfl, hb⟩; replace HC := Aside0.mk (HC.out.below hb); clear hb)
      | (go_at_call 33; refine (alui_calls _ _ _ _  _).mono ?_; rintro e w' ⟨rfl, hb⟩; replace HC := Aside0.mk (HC.out.below hb); clear hb)
      | (go_at_call 18; refine (num_calls _ _  _).mono ?_; rintro e w' ⟨rfl, hb⟩; replace HC := Aside0.mk (HC.out.below hb); clear hb)
      | (go_at_call 16; refine (test_calls _ _  _).mono ?_; rintro e w' ⟨rfl, hb⟩; replace HC := Aside0.mk (HC.out.below hb); clear hb))
  refine (x_calls (HC.out.alloc _) _ [⟨3, true, 1, 0, 0, 4, 0⟩] 1 (blk_new _ _) (by simp)).mono ?_
  rintro e W1 ⟨rfl, v1, hC, hK⟩
  replace hC := Aside0.mk hC
  clear HC hK
  have HC := hC
  clear hC
  simp only [List.nil_append, List.cons_append, List.map_cons, List.map_nil, List.append_nil, is, zX] at HC
  have hc := blk_cell HC.out.box 0
  go_wp2_with fail
  exact bodyPost_ret (by simp [results, Try.results5, go_sem]) rfl ⟨_, rfl, Kd.R_mono HC.out.row (fun _ _ => trivial), HC.out.bel⟩
set_option maxHeartbeats 4000000 in
set_option maxRecDepth 100000 in
theorem op_133 (w : World) : Calls Try.prog 5 #[.int .i64 133] w (OpOut w [⟨⟨3, true, 1, 0, 0, 6, 0⟩, 0, 0⟩] 0) := by
  go_enter Try.func5, Try.ntmps5
  go_wp2_with (first
      | (go_at_call 12; refine (arity_yes (n := 133) rfl _).mono ?_; rintro e W0 ⟨rfl, hb⟩; have HC := Aside0.mk (Cd.init hb); clear hb)
      | (go_at_call 13; refine (narrow_calls (op := 133) (k := 115) (b := true) rfl _ (by omega) (by omega)).mono ?_; rintro e w' ⟨rfl, hb⟩; replace HC := Aside0.mk (HC.out.below hb); clear hb)
      | (go_at_call 19; refine (alu_calls _ _ _ _  _).mono ?_; rintro e w' ⟨rfl, hb⟩; replace HC := Aside0.mk (HC.out.below hb); clear hb)
      | (go_at_call 33; refine (alui_calls _ _ _ _  _).mono ?_; rintro e w' ⟨rfl, hb⟩; replace HC := Aside0.mk (HC.out.below hb); clear hb)
      | (go_at_call 18; refine (num_calls _ _  _).mono ?_; rintro e w' ⟨rfl, hb⟩; replace HC := Aside0.mk (HC.out.below hb); clear hb)
      | (go_at_call 16; refine (test_calls _ _  _).mono ?_; rintro e w' ⟨rfl, hb⟩; replace HC := Aside0.mk (HC.out.below hb); clear hb))
  refine (x_calls (HC.out.alloc _) _ [⟨3, true, 1, 0, 0, 6, 0⟩] 1 (blk_new _ _) (by simp)).mono ?_
  rintro e W1 ⟨rfl, v1, hC, hK⟩
  replace hC := Aside0.mk hC
  clear HC hK
  have HC := hC
  clear hC
  simp only [List.nil_append, List.cons_append, List.map_cons, List.map_nil, List.append_nil, is, zX] at HC
  have hc := blk_cell HC.out.box 0
  go_wp2_with fail
  exact bodyPost_ret (by simp [results, Try.results5, go_sem]) rfl ⟨_, rfl, Kd.R_mono HC.out.row (fun _ _ => trivial), HC.out.bel⟩
set_option maxHeartbeats 4000000 in
set_option maxRecDepth 100000 in
theorem op_135 (w : World) : Calls Try.prog 5 #[.int .i64 135] w (OpOut w [⟨⟨7, true, 0, 0, 0, 7, 0⟩, 0, 0⟩] 0) := by
  go_enter Try.func5, Try.ntmps5
  go_wp2_with (first
      | (go_at_call 12; refine (arity_yes (n := 135) rfl _).mono ?_; rintro e W0 ⟨rfl, hb⟩; have HC := Aside0.mk (Cd.init hb); clear hb)
      | (go_at_call 13; refine (narrow_calls (op := 135) (k := 117) (b := true) rfl _ (by omega) (by omega)).mono ?_; rintro e w' ⟨rfl, hb⟩; replace HC := Aside0.mk (HC.out.below hb); clear hb)
      | (go_at_call 19; refine (alu_calls _ _ _ _  _).mono ?_; rintro e w' ⟨rfl, hb⟩; replace HC := Aside0.mk (HC.out.below hb); clear hb)
      | (go_at_call 33; refine (alui_calls _ _ _ _  _).mono ?_; rintro e w' ⟨rfl, hb⟩; replace HC := Aside0.mk (HC.out.below hb); clear hb)
      | (go_at_call 18; refine (num_calls _ _  _).mono ?_; rintro e w' ⟨rfl, hb⟩; replace HC := Aside0.mk (HC.out.below hb); clear hb)
      | (go_at_call 16; refine (test_calls _ _  _).mono ?_; rintro e w' ⟨rfl, hb⟩; replace HC := Aside0.mk (HC.out.below hb); clear hb))
  refine (x_calls (HC.out.alloc _) _ [⟨7, true, 0, 0, 0, 7, 0⟩] 1 (blk_new _ _) (by simp)).mono ?_
  rintro e W1 ⟨rfl, v1, hC, hK⟩
  replace hC := Aside0.mk hC
  clear HC hK
  have HC := hC
  clear hC
  simp only [List.nil_append, List.cons_append, List.map_cons, List.map_nil, List.append_nil, is, zX] at HC
  have hc := blk_cell HC.out.box 0
  go_wp2_with fail
  exact bodyPost_ret (by simp [results, Try.results5, go_sem]) rfl ⟨_, rfl, Kd.R_mono HC.out.row (fun _ _ => trivial), HC.out.bel⟩
set_option maxHeartbeats 4000000 in
set_option maxRecDepth 100000 in
theorem op_137 (w : World) : Calls Try.prog 5 #[.int .i64 137] w (OpOut w [⟨⟨7, true, 0, 0, 0, 0, 0⟩, 0, 0⟩] 0) := by
  go_enter Try.func5, Try.ntmps5
  go_wp2_with (first
      | (go_at_call 12; refine (arity_yes (n := 137) rfl _).mono ?_; rintro e W0 ⟨rfl, hb⟩; have HC := Aside0.mk (Cd.init hb); clear hb)
      | (go_at_call 13; refine (narrow_calls (op := 137) (k := 119) (b := true) rfl _ (by omega) (by omega)).mono ?_; rintro e w' ⟨rfl, hb⟩; replace HC := Aside0.mk (HC.out.below hb); clear hb)
      | (go_at_call 19; refine (alu_calls _ _ _ _  _).mono ?_; rintro e w' ⟨rfl, hb⟩; replace HC := Aside0.mk (HC.out.below hb); clear hb)
      | (go_at_call 33; refine (alui_calls _ _ _ _  _).mono ?_; rintro e w' ⟨rfl, hb⟩; replace HC := Aside0.mk (HC.out.below hb); clear hb)
      | (go_at_call 18; refine (num_calls _ _  _).mono ?_; rintro e w' ⟨rfl, hb⟩; replace HC := Aside0.mk (HC.out.below hb); clear hb)
      | (go_at_call 16; refine (test_calls _ _  _).mono ?_; rintro e w' ⟨rfl, hb⟩; replace HC := Aside0.mk (HC.out.below hb); clear hb))
  refine (x_calls (HC.out.alloc _) _ [⟨7, true, 0, 0, 0, 0, 0⟩] 1 (blk_new _ _) (by simp)).mono ?_
  rintro e W1 ⟨rfl, v1, hC, hK⟩
  replace hC := Aside0.mk hC
  clear HC hK
  have HC := hC
  clear hC
  simp only [List.nil_append, List.cons_append, List.map_cons, List.map_nil, List.append_nil, is, zX] at HC
  have hc := blk_cell HC.out.box 0
  go_wp2_with fail
  exact bodyPost_ret (by simp [results, Try.results5, go_sem]) rfl ⟨_, rfl, Kd.R_mono HC.out.row (fun _ _ => trivial), HC.out.bel⟩
set_option maxHeartbeats 4000000 in
set_option maxRecDepth 100000 in
theorem op_167 (w : World) : Calls Try.prog 5 #[.int .i64 167] w (OpOut w [⟨⟨1, false, 0, 0, 0, 0, 0⟩, 0, 0⟩] 0) := by
  go_enter Try.func5, Try.ntmps5
  go_wp2_with (first
      | (go_at_call 12; refine (arity_yes (n := 167) rfl _).mono ?_; rintro e W0 ⟨rfl, hb⟩; have HC := Aside0.mk (Cd.init hb); clear hb)
      | (go_at_call 13; refine (narrow_calls (op := 167) (k := 167) (b := false) rfl _ (by omega) (by omega)).mono ?_; rintro e w' ⟨rfl, hb⟩; replace HC := Aside0.mk (HC.out.below hb); clear hb)
      | (go_at_call 19; refine (alu_calls _ _ _ _  _).mono ?_; rintro e w' ⟨rfl, hb⟩; replace HC := Aside0.mk (HC.out.below hb); clear hb)
      | (go_at_call 33; refine (alui_calls _ _ _ _  _).mono ?_; rintro e w' ⟨rfl, hb⟩; replace HC := Aside0.mk (HC.out.below hb); clear hb)
      | (go_at_call 18; refine (num_calls _ _  _).mono ?_; rintro e w' ⟨rfl, hb⟩; replace HC := Aside0.mk (HC.out.below hb); clear hb)
      | (go_at_call 16; refine (test_calls _ _  _).mono ?_; rintro e w' ⟨rfl, hb⟩; replace HC := Aside0.mk (HC.out.below hb); clear hb))
  refine (x_calls (HC.out.alloc _) _ [⟨1, false, 0, 0, 0, 0, 0⟩] 1 (blk_new _ _) (by simp)).mono ?_
  rintro e W1 ⟨rfl, v1, hC, hK⟩
  replace hC := Aside0.mk hC
  clear HC hK
  have HC := hC
  clear hC
  simp only [List.nil_append, List.cons_append, List.map_cons, List.map_nil, List.append_nil, is, zX] at HC
  have hc := blk_cell HC.out.box 0
  go_wp2_with fail
  exact bodyPost_ret (by simp [results, Try.results5, go_sem]) rfl ⟨_, rfl, Kd.R_mono HC.out.row (fun _ _ => trivial), HC.out.bel⟩
set_option maxHeartbeats 4000000 in
set_option maxRecDepth 100000 in
theorem op_173 (w : World) : Calls Try.prog 5 #[.int .i64 173] w (OpOut w [⟨⟨1, false, 0, 0, 0, 0, 0⟩, 0, 0⟩] 0) := by
  go_enter Try.func5, Try.ntmps5
  go_wp2_with (first
      | (go_at_call 12; refine (arity_yes (n := 173) rfl _).mono ?_; rintro e W0 ⟨rfl, hb⟩; have HC := Aside0.mk (Cd.init hb); clear hb)
      | (go_at_call 13; refine (narrow_calls (op := 173) (k := 173) (b := false) rfl _ (by omega) (by omega)).mono ?_; rintro e w' ⟨rfl, hb⟩; replace HC := Aside0.mk (HC.out.below hb); clear hb)
      | (go_at_call 19; refine (alu_calls _ _ _ _  _).mono ?_; rintro e w' ⟨rfl, hb⟩; replace HC := Aside0.mk (HC.out.below hb); clear hb)
      | (go_at_call 33; refine (alui_calls _ _ _ _  _).mono ?_; rintro e w' ⟨rfl, hb⟩; replace HC := Aside0.mk (HC.out.below hb); clear hb)
      | (go_at_call 18; refine (num_calls _ _  _).mono ?_; rintro e w' ⟨rfl, hb⟩; replace HC := Aside0.mk (HC.out.below hb); clear hb)
      | (go_at_call 16; refine (test_calls _ _  _).mono ?_; rintro e w' ⟨rfl, hb⟩; replace HC := Aside0.mk (HC.out.below hb); clear hb))
  refine (x_calls (HC.out.alloc _) _ [⟨1, false, 0, 0, 0, 0, 0⟩] 1 (blk_new _ _) (by simp)).mono ?_
  rintro e W1 ⟨rfl, v1, hC, hK⟩
  replace hC := Aside0.mk hC
  clear HC hK
  have HC := hC
  clear hC
  simp only [List.nil_append, List.cons_append, List.map_cons, List.map_nil, List.append_nil, is, zX] at HC
  have hc := blk_cell HC.out.box 0
  go_wp2_with fail
  exact bodyPost_ret (by simp [results, Try.results5, go_sem]) rfl ⟨_, rfl, Kd.R_mono HC.out.row (fun _ _ => trivial), HC.out.bel⟩
end Go.Proofs.Ytngpmijbjhpfhaa.Isel
