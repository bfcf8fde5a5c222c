/- oublietteref20.Op at instructions, each walked. -/
import Derived.Test.YtngpmijbjhpfhaaIselR
namespace Go.Proofs.Ytngpmijbjhpfhaa.Isel
open Go.RowKit Go.Proofs.YtngpmijbjhpfhaaW.PrintWords Go.Proofs.YtngpmijbjhpfhaaW.PrintLast Go.Proofs.Ytngpmijbjhpfhaa.Mem
open PIselOps (S42 S40 k42 k40 k42_open k42_mkM k42_mk)
set_option linter.unusedVariables false
set_option linter.unusedSimpArgs false
set_option maxHeartbeats 4000000 in
set_option maxRecDepth 100000 in
theorem rop_69 (w : World) : Calls Try.prog 6 #[.int .i64 69] w (ROut w [⟨⟨5, false, 0, 0, 0, 0, 0⟩, 0, 0⟩, ⟨⟨13, false, 0, 0, 0, 4, 0⟩, 0, 0⟩, ⟨⟨14, false, 0, 0, 0, 0, 0⟩, 0, 0⟩] 0) := by
  have HB := Aside0.mk (Below.refl w.heap.size w)
  go_enter Try.func6, Try.ntmps6
  go_wp2_with (first
      | (go_at_call 20; refine (ref_arity_yes (n := 69) rfl _).mono ?_; rintro e w' ⟨rfl, rfl⟩)
      | (go_at_call 21; refine (PIselOps.oublietteref20_is.calls _ _ _ _ _ _ _ _ _ _ _ _ _ _ _ _ _ rfl).mono ?_; rintro e w' ⟨rfl, hb⟩; replace HB := Aside0.mk (HB.out.trans (hb.mono HB.out.size)); clear hb)
      | (go_at_call 22; refine (PIselOps.oublietteref20_test.calls _ _ _ _ _ _ _ _ _ _ _ _ rfl).mono ?_; rintro e w' ⟨rfl, hb⟩; replace HB := Aside0.mk (HB.out.trans (hb.mono HB.out.size)); clear hb)
      | (go_at_call 24; refine (PIselOps.oublietteref20_alu.calls _ _ _ _ _ _ _ _ _ _ _ _ _ _ rfl).mono ?_; rintro e w' ⟨rfl, hb⟩; replace HB := Aside0.mk (HB.out.trans (hb.mono HB.out.size)); clear hb))
  have HL := Aside0.mk (Rr.lit HB.out [⟨⟨5, false, 0, 0, 0, 0, 0⟩, 0, 0⟩] (by simp))
  refine (PIselOps.oublietteref20_truth.calls _ [⟨⟨13, false, 0, 0, 0, 4, 0⟩, 0, 0⟩, ⟨⟨14, false, 0, 0, 0, 0, 0⟩, 0, 0⟩] _ rfl).mono ?_
  rintro e w2 ⟨v2, rfl, hR2, hb2⟩
  replace HL := Aside0.mk (HL.out.below hb2)
  obtain ⟨A2, c2, rfl, hc2, hC2⟩ := Kd.R_reads hR2
  have HC2 := Aside0.mk hC2
  clear hR2 hb2 hC2 hc2
  go_wp2_with ((with_reducible refine gate_builtin (b := .append) (xs := #[.tmp 50, .tmp 51]) rfl ?_); at_builtin; refine wp_app HL rfl (.tmp 50) (.tmp 51) rfl A2 2 c2 rfl rfl HC2.out (by simp) ?_; intro v3 w3 HL3)
  exact bodyPost_ret (by simp [results, Try.results6, go_sem]) rfl ⟨_, rfl, HL3.out.row, HL3.out.bel⟩
set_option maxHeartbeats 4000000 in
set_option maxRecDepth 100000 in
theorem rop_70 (w : World) : Calls Try.prog 6 #[.int .i64 70] w (ROut w [⟨⟨3, false, 1, 0, 0, 7, 0⟩, 0, 0⟩, ⟨⟨13, false, 0, 0, 0, 4, 0⟩, 0, 0⟩, ⟨⟨14, false, 0, 0, 0, 0, 0⟩, 0, 0⟩] 0) := by
  have HB := Aside0.mk (Below.refl w.heap.size w)
  go_enter Try.func6, Try.ntmps6
  go_wp2_with (first
      | (go_at_call 20; refine (ref_arity_yes (n := 70) rfl _).mono ?_; rintro e w' ⟨rfl, rfl⟩)
      | (go_at_call 21; refine (PIselOps.oublietteref20_is.calls _ _ _ _ _ _ _ _ _ _ _ _ _ _ _ _ _ rfl).mono ?_; rintro e w' ⟨rfl, hb⟩; replace HB := Aside0.mk (HB.out.trans (hb.mono HB.out.size)); clear hb)
      | (go_at_call 22; refine (PIselOps.oublietteref20_test.calls _ _ _ _ _ _ _ _ _ _ _ _ rfl).mono ?_; rintro e w' ⟨rfl, hb⟩; replace HB := Aside0.mk (HB.out.trans (hb.mono HB.out.size)); clear hb)
      | (go_at_call 24; refine (PIselOps.oublietteref20_alu.calls _ _ _ _ _ _ _ _ _ _ _ _ _ _ rfl).mono ?_; rintro e w' ⟨rfl, hb⟩; replace HB := Aside0.mk (HB.out.trans (hb.mono HB.out.size)); clear hb))
  refine (PIselOps.oublietteref20_cond.calls _ 4 _ rfl).mono ?_
  rintro e w' ⟨rfl, hb⟩
  have HL := Aside0.mk (Rr.lit HB.out [⟨⟨3, false, 1, 0, 0, 7, 0⟩, 0, 0⟩] (by simp))
  replace HL := Aside0.mk (HL.out.below hb.below)
  clear hb
  go_wp2_with fail
  refine (PIselOps.oublietteref20_truth.calls _ [⟨⟨13, false, 0, 0, 0, 4, 0⟩, 0, 0⟩, ⟨⟨14, false, 0, 0, 0, 0, 0⟩, 0, 0⟩] _ rfl).mono ?_
  rintro e w2 ⟨v2, rfl, hR2, hb2⟩
  replace HL := Aside0.mk (HL.out.below hb2)
  obtain ⟨A2, c2, rfl, hc2, hC2⟩ := Kd.R_reads hR2
  have HC2 := Aside0.mk hC2
  clear hR2 hb2 hC2 hc2
  go_wp2_with ((with_reducible refine gate_builtin (b := .append) (xs := #[.tmp 75, .tmp 78]) rfl ?_); at_builtin; refine wp_app HL rfl (.tmp 75) (.tmp 78) rfl A2 2 c2 rfl rfl HC2.out (by simp) ?_; intro v3 w3 HL3)
  exact bodyPost_ret (by simp [results, Try.results6, go_sem]) rfl ⟨_, rfl, HL3.out.row, HL3.out.bel⟩
set_option maxHeartbeats 4000000 in
set_option maxRecDepth 100000 in
theorem rop_71 (w : World) : Calls Try.prog 6 #[.int .i64 71] w (ROut w [⟨⟨3, false, 1, 0, 0, 7, 0⟩, 0, 0⟩, ⟨⟨13, false, 0, 0, 0, 5, 0⟩, 0, 0⟩, ⟨⟨14, false, 0, 0, 0, 0, 0⟩, 0, 0⟩] 0) := by
  have HB := Aside0.mk (Below.refl w.heap.size w)
  go_enter Try.func6, Try.ntmps6
  go_wp2_with (first
      | (go_at_call 20; refine (ref_arity_yes (n := 71) rfl _).mono ?_; rintro e w' ⟨rfl, rfl⟩)
      | (go_at_call 21; refine (PIselOps.oublietteref20_is.calls _ _ _ _ _ _ _ _ _ _ _ _ _ _ _ _ _ rfl).mono ?_; rintro e w' ⟨rfl, hb⟩; replace HB := Aside0.mk (HB.out.trans (hb.mono HB.out.size)); clear hb)
      | (go_at_call 22; refine (PIselOps.oublietteref20_test.calls _ _ _ _ _ _ _ _ _ _ _ _ rfl).mono ?_; rintro e w' ⟨rfl, hb⟩; replace HB := Aside0.mk (HB.out.trans (hb.mono HB.out.size)); clear hb)
      | (go_at_call 24; refine (PIselOps.oublietteref20_alu.calls _ _ _ _ _ _ _ _ _ _ _ _ _ _ rfl).mono ?_; rintro e w' ⟨rfl, hb⟩; replace HB := Aside0.mk (HB.out.trans (hb.mono HB.out.size)); clear hb))
  refine (PIselOps.oublietteref20_cond.calls _ 5 _ rfl).mono ?_
  rintro e w' ⟨rfl, hb⟩
  have HL := Aside0.mk (Rr.lit HB.out [⟨⟨3, false, 1, 0, 0, 7, 0⟩, 0, 0⟩] (by simp))
  replace HL := Aside0.mk (HL.out.below hb.below)
  clear hb
  go_wp2_with fail
  refine (PIselOps.oublietteref20_truth.calls _ [⟨⟨13, false, 0, 0, 0, 5, 0⟩, 0, 0⟩, ⟨⟨14, false, 0, 0, 0, 0, 0⟩, 0, 0⟩] _ rfl).mono ?_
  rintro e w2 ⟨v2, rfl, hR2, hb2⟩
  replace HL := Aside0.mk (HL.out.below hb2)
  obtain ⟨A2, c2, rfl, hc2, hC2⟩ := Kd.R_reads hR2
  have HC2 := Aside0.mk hC2
  clear hR2 hb2 hC2 hc2
  go_wp2_with ((with_reducible refine gate_builtin (b := .append) (xs := #[.tmp 75, .tmp 78]) rfl ?_); at_builtin; refine wp_app HL rfl (.tmp 75) (.tmp 78) rfl A2 2 c2 rfl rfl HC2.out (by simp) ?_; intro v3 w3 HL3)
  exact bodyPost_ret (by simp [results, Try.results6, go_sem]) rfl ⟨_, rfl, HL3.out.row, HL3.out.bel⟩
set_option maxHeartbeats 4000000 in
set_option maxRecDepth 100000 in
theorem rop_72 (w : World) : Calls Try.prog 6 #[.int .i64 72] w (ROut w [⟨⟨3, false, 1, 0, 0, 7, 0⟩, 0, 0⟩, ⟨⟨13, false, 0, 0, 0, 12, 0⟩, 0, 0⟩, ⟨⟨14, false, 0, 0, 0, 0, 0⟩, 0, 0⟩] 0) := by
  have HB := Aside0.mk (Below.refl w.heap.size w)
  go_enter Try.func6, Try.ntmps6
  go_wp2_with (first
      | (go_at_call 20; refine (ref_arity_yes (n := 72) rfl _).mono ?_; rintro e w' ⟨rfl, rfl⟩)
      | (go_at_call 21; refine (PIselOps.oublietteref20_is.calls _ _ _ _ _ _ _ _ _ _ _ _ _ _ _ _ _ rfl).mono ?_; rintro e w' ⟨rfl, hb⟩; replace HB := Aside0.mk (HB.out.trans (hb.mono HB.out.size)); clear hb)
      | (go_at_call 22; refine (PIselOps.oublietteref20_test.calls _ _ _ _ _ _ _ _ _ _ _ _ rfl).mono ?_; rintro e w' ⟨rfl, hb⟩; replace HB := Aside0.mk (HB.out.trans (hb.mono HB.out.size)); clear hb)
      | (go_at_call 24; refine (PIselOps.oublietteref20_alu.calls _ _ _ _ _ _ _ _ _ _ _ _ _ _ rfl).mono ?_; rintro e w' ⟨rfl, hb⟩; replace HB := Aside0.mk (HB.out.trans (hb.mono HB.out.size)); clear hb))
  refine (PIselOps.oublietteref20_cond.calls _ 12 _ rfl).mono ?_
  rintro e w' ⟨rfl, hb⟩
  have HL := Aside0.mk (Rr.lit HB.out [⟨⟨3, false, 1, 0, 0, 7, 0⟩, 0, 0⟩] (by simp))
  replace HL := Aside0.mk (HL.out.below hb.below)
  clear hb
  go_wp2_with fail
  refine (PIselOps.oublietteref20_truth.calls _ [⟨⟨13, false, 0, 0, 0, 12, 0⟩, 0, 0⟩, ⟨⟨14, false, 0, 0, 0, 0, 0⟩, 0, 0⟩] _ rfl).mono ?_
  rintro e w2 ⟨v2, rfl, hR2, hb2⟩
  replace HL := Aside0.mk (HL.out.below hb2)
  obtain ⟨A2, c2, rfl, hc2, hC2⟩ := Kd.R_reads hR2
  have HC2 := Aside0.mk hC2
  clear hR2 hb2 hC2 hc2
  go_wp2_with ((with_reducible refine gate_builtin (b := .append) (xs := #[.tmp 75, .tmp 78]) rfl ?_); at_builtin; refine wp_app HL rfl (.tmp 75) (.tmp 78) rfl A2 2 c2 rfl rfl HC2.out (by simp) ?_; intro v3 w3 HL3)
  exact bodyPost_ret (by simp [results, Try.results6, go_sem]) rfl ⟨_, rfl, HL3.out.row, HL3.out.bel⟩
set_option maxHeartbeats 4000000 in
set_option maxRecDepth 100000 in
theorem rop_73 (w : World) : Calls Try.prog 6 #[.int .i64 73] w (ROut w [⟨⟨3, false, 1, 0, 0, 7, 0⟩, 0, 0⟩, ⟨⟨13, false, 0, 0, 0, 2, 0⟩, 0, 0⟩, ⟨⟨14, false, 0, 0, 0, 0, 0⟩, 0, 0⟩] 0) := by
  have HB := Aside0.mk (Below.refl w.heap.size w)
  go_enter Try.func6, Try.ntmps6
  go_wp2_with (first
      | (go_at_call 20; refine (ref_arity_yes (n := 73) rfl _).mono ?_; rintro e w' ⟨rfl, rfl⟩)
      | (go_at_call 21; refine (PIselOps.oublietteref20_is.calls _ _ _ _ _ _ _ _ _ _ _ _ _ _ _ _ _ rfl).mono ?_; rintro e w' ⟨rfl, hb⟩; replace HB := Aside0.mk (HB.out.trans (hb.mono HB.out.size)); clear hb)
      | (go_at_call 22; refine (PIselOps.oublietteref20_test.calls _ _ _ _ _ _ _ _ _ _ _ _ rfl).mono ?_; rintro e w' ⟨rfl, hb⟩; replace HB := Aside0.mk (HB.out.trans (hb.mono HB.out.size)); clear hb)
      | (go_at_call 24; refine (PIselOps.oublietteref20_alu.calls _ _ _ _ _ _ _ _ _ _ _ _ _ _ rfl).mono ?_; rintro e w' ⟨rfl, hb⟩; replace HB := Aside0.mk (HB.out.trans (hb.mono HB.out.size)); clear hb))
  refine (PIselOps.oublietteref20_cond.calls _ 2 _ rfl).mono ?_
  rintro e w' ⟨rfl, hb⟩
  have HL := Aside0.mk (Rr.lit HB.out [⟨⟨3, false, 1, 0, 0, 7, 0⟩, 0, 0⟩] (by simp))
  replace HL := Aside0.mk (HL.out.below hb.below)
  clear hb
  go_wp2_with fail
  refine (PIselOps.oublietteref20_truth.calls _ [⟨⟨13, false, 0, 0, 0, 2, 0⟩, 0, 0⟩, ⟨⟨14, false, 0, 0, 0, 0, 0⟩, 0, 0⟩] _ rfl).mono ?_
  rintro e w2 ⟨v2, rfl, hR2, hb2⟩
  replace HL := Aside0.mk (HL.out.below hb2)
  obtain ⟨A2, c2, rfl, hc2, hC2⟩ := Kd.R_reads hR2
  have HC2 := Aside0.mk hC2
  clear hR2 hb2 hC2 hc2
  go_wp2_with ((with_reducible refine gate_builtin (b := .append) (xs := #[.tmp 75, .tmp 78]) rfl ?_); at_builtin; refine wp_app HL rfl (.tmp 75) (.tmp 78) rfl A2 2 c2 rfl rfl HC2.out (by simp) ?_; intro v3 w3 HL3)
  exact bodyPost_ret (by simp [results, Try.results6, go_sem]) rfl ⟨_, rfl, HL3.out.row, HL3.out.bel⟩
set_option maxHeartbeats 4000000 in
set_option maxRecDepth 100000 in
theorem rop_74 (w : World) : Calls Try.prog 6 #[.int .i64 74] w (ROut w [⟨⟨3, false, 1, 0, 0, 7, 0⟩, 0, 0⟩, ⟨⟨13, false, 0, 0, 0, 15, 0⟩, 0, 0⟩, ⟨⟨14, false, 0, 0, 0, 0, 0⟩, 0, 0⟩] 0) := by
  have HB := Aside0.mk (Below.refl w.heap.size w)
  go_enter Try.func6, Try.ntmps6
  go_wp2_with (first
      | (go_at_call 20; refine (ref_arity_yes (n := 74) rfl _).mono ?_; rintro e w' ⟨rfl, rfl⟩)
      | (go_at_call 21; refine (PIselOps.oublietteref20_is.calls _ _ _ _ _ _ _ _ _ _ _ _ _ _ _ _ _ rfl).mono ?_; rintro e w' ⟨rfl, hb⟩; replace HB := Aside0.mk (HB.out.trans (hb.mono HB.out.size)); clear hb)
      | (go_at_call 22; refine (PIselOps.oublietteref20_test.calls _ _ _ _ _ _ _ _ _ _ _ _ rfl).mono ?_; rintro e w' ⟨rfl, hb⟩; replace HB := Aside0.mk (HB.out.trans (hb.mono HB.out.size)); clear hb)
      | (go_at_call 24; refine (PIselOps.oublietteref20_alu.calls _ _ _ _ _ _ _ _ _ _ _ _ _ _ rfl).mono ?_; rintro e w' ⟨rfl, hb⟩; replace HB := Aside0.mk (HB.out.trans (hb.mono HB.out.size)); clear hb))
  refine (PIselOps.oublietteref20_cond.calls _ 15 _ rfl).mono ?_
  rintro e w' ⟨rfl, hb⟩
  have HL := Aside0.mk (Rr.lit HB.out [⟨⟨3, false, 1, 0, 0, 7, 0⟩, 0, 0⟩] (by simp))
  replace HL := Aside0.mk (HL.out.below hb.below)
  clear hb
  go_wp2_with fail
  refine (PIselOps.oublietteref20_truth.calls _ [⟨⟨13, false, 0, 0, 0, 15, 0⟩, 0, 0⟩, ⟨⟨14, false, 0, 0, 0, 0, 0⟩, 0, 0⟩] _ rfl).mono ?_
  rintro e w2 ⟨v2, rfl, hR2, hb2⟩
  replace HL := Aside0.mk (HL.out.below hb2)
  obtain ⟨A2, c2, rfl, hc2, hC2⟩ := Kd.R_reads hR2
  have HC2 := Aside0.mk hC2
  clear hR2 hb2 hC2 hc2
  go_wp2_with ((with_reducible refine gate_builtin (b := .append) (xs := #[.tmp 75, .tmp 78]) rfl ?_); at_builtin; refine wp_app HL rfl (.tmp 75) (.tmp 78) rfl A2 2 c2 rfl rfl HC2.out (by simp) ?_; intro v3 w3 HL3)
  exact bodyPost_ret (by simp [results, Try.results6, go_sem]) rfl ⟨_, rfl, HL3.out.row, HL3.out.bel⟩
set_option maxHeartbeats 4000000 in
set_option maxRecDepth 100000 in
theorem rop_75 (w : World) : Calls Try.prog 6 #[.int .i64 75] w (ROut w [⟨⟨3, false, 1, 0, 0, 7, 0⟩, 0, 0⟩, ⟨⟨13, false, 0, 0, 0, 7, 0⟩, 0, 0⟩, ⟨⟨14, false, 0, 0, 0, 0, 0⟩, 0, 0⟩] 0) := by
  have HB := Aside0.mk (Below.refl w.heap.size w)
  go_enter Try.func6, Try.ntmps6
  go_wp2_with (first
      | (go_at_call 20; refine (ref_arity_yes (n := 75) rfl _).mono ?_; rintro e w' ⟨rfl, rfl⟩)
      | (go_at_call 21; refine (PIselOps.oublietteref20_is.calls _ _ _ _ _ _ _ _ _ _ _ _ _ _ _ _ _ rfl).mono ?_; rintro e w' ⟨rfl, hb⟩; replace HB := Aside0.mk (HB.out.trans (hb.mono HB.out.size)); clear hb)
      | (go_at_call 22; refine (PIselOps.oublietteref20_test.calls _ _ _ _ _ _ _ _ _ _ _ _ rfl).mono ?_; rintro e w' ⟨rfl, hb⟩; replace HB := Aside0.mk (HB.out.trans (hb.mono HB.out.size)); clear hb)
      | (go_at_call 24; refine (PIselOps.oublietteref20_alu.calls _ _ _ _ _ _ _ _ _ _ _ _ _ _ rfl).mono ?_; rintro e w' ⟨rfl, hb⟩; replace HB := Aside0.mk (HB.out.trans (hb.mono HB.out.size)); clear hb))
  refine (PIselOps.oublietteref20_cond.calls _ 7 _ rfl).mono ?_
  rintro e w' ⟨rfl, hb⟩
  have HL := Aside0.mk (Rr.lit HB.out [⟨⟨3, false, 1, 0, 0, 7, 0⟩, 0, 0⟩] (by simp))
  replace HL := Aside0.mk (HL.out.below hb.below)
  clear hb
  go_wp2_with fail
  refine (PIselOps.oublietteref20_truth.calls _ [⟨⟨13, false, 0, 0, 0, 7, 0⟩, 0, 0⟩, ⟨⟨14, false, 0, 0, 0, 0, 0⟩, 0, 0⟩] _ rfl).mono ?_
  rintro e w2 ⟨v2, rfl, hR2, hb2⟩
  replace HL := Aside0.mk (HL.out.below hb2)
  obtain ⟨A2, c2, rfl, hc2, hC2⟩ := Kd.R_reads hR2
  have HC2 := Aside0.mk hC2
  clear hR2 hb2 hC2 hc2
  go_wp2_with ((with_reducible refine gate_builtin (b := .append) (xs := #[.tmp 75, .tmp 78]) rfl ?_); at_builtin; refine wp_app HL rfl (.tmp 75) (.tmp 78) rfl A2 2 c2 rfl rfl HC2.out (by simp) ?_; intro v3 w3 HL3)
  exact bodyPost_ret (by simp [results, Try.results6, go_sem]) rfl ⟨_, rfl, HL3.out.row, HL3.out.bel⟩
set_option maxHeartbeats 4000000 in
set_option maxRecDepth 100000 in
theorem rop_76 (w : World) : Calls Try.prog 6 #[.int .i64 76] w (ROut w [⟨⟨3, false, 1, 0, 0, 7, 0⟩, 0, 0⟩, ⟨⟨13, false, 0, 0, 0, 14, 0⟩, 0, 0⟩, ⟨⟨14, false, 0, 0, 0, 0, 0⟩, 0, 0⟩] 0) := by
  have HB := Aside0.mk (Below.refl w.heap.size w)
  go_enter Try.func6, Try.ntmps6
  go_wp2_with (first
      | (go_at_call 20; refine (ref_arity_yes (n := 76) rfl _).mono ?_; rintro e w' ⟨rfl, rfl⟩)
      | (go_at_call 21; refine (PIselOps.oublietteref20_is.calls _ _ _ _ _ _ _ _ _ _ _ _ _ _ _ _ _ rfl).mono ?_; rintro e w' ⟨rfl, hb⟩; replace HB := Aside0.mk (HB.out.trans (hb.mono HB.out.size)); clear hb)
      | (go_at_call 22; refine (PIselOps.oublietteref20_test.calls _ _ _ _ _ _ _ _ _ _ _ _ rfl).mono ?_; rintro e w' ⟨rfl, hb⟩; replace HB := Aside0.mk (HB.out.trans (hb.mono HB.out.size)); clear hb)
      | (go_at_call 24; refine (PIselOps.oublietteref20_alu.calls _ _ _ _ _ _ _ _ _ _ _ _ _ _ rfl).mono ?_; rintro e w' ⟨rfl, hb⟩; replace HB := Aside0.mk (HB.out.trans (hb.mono HB.out.size)); clear hb))
  refine (PIselOps.oublietteref20_cond.calls _ 14 _ rfl).mono ?_
  rintro e w' ⟨rfl, hb⟩
  have HL := Aside0.mk (Rr.lit HB.out [⟨⟨3, false, 1, 0, 0, 7, 0⟩, 0, 0⟩] (by simp))
  replace HL := Aside0.mk (HL.out.below hb.below)
  clear hb
  go_wp2_with fail
  refine (PIselOps.oublietteref20_truth.calls _ [⟨⟨13, false, 0, 0, 0, 14, 0⟩, 0, 0⟩, ⟨⟨14, false, 0, 0, 0, 0, 0⟩, 0, 0⟩] _ rfl).mono ?_
  rintro e w2 ⟨v2, rfl, hR2, hb2⟩
  replace HL := Aside0.mk (HL.out.below hb2)
  obtain ⟨A2, c2, rfl, hc2, hC2⟩ := Kd.R_reads hR2
  have HC2 := Aside0.mk hC2
  clear hR2 hb2 hC2 hc2
  go_wp2_with ((with_reducible refine gate_builtin (b := .append) (xs := #[.tmp 75, .tmp 78]) rfl ?_); at_builtin; refine wp_app HL rfl (.tmp 75) (.tmp 78) rfl A2 2 c2 rfl rfl HC2.out (by simp) ?_; intro v3 w3 HL3)
  exact bodyPost_ret (by simp [results, Try.results6, go_sem]) rfl ⟨_, rfl, HL3.out.row, HL3.out.bel⟩
set_option maxHeartbeats 4000000 in
set_option maxRecDepth 100000 in
theorem rop_77 (w : World) : Calls Try.prog 6 #[.int .i64 77] w (ROut w [⟨⟨3, false, 1, 0, 0, 7, 0⟩, 0, 0⟩, ⟨⟨13, false, 0, 0, 0, 6, 0⟩, 0, 0⟩, ⟨⟨14, false, 0, 0, 0, 0, 0⟩, 0, 0⟩] 0) := by
  have HB := Aside0.mk (Below.refl w.heap.size w)
  go_enter Try.func6, Try.ntmps6
  go_wp2_with (first
      | (go_at_call 20; refine (ref_arity_yes (n := 77) rfl _).mono ?_; rintro e w' ⟨rfl, rfl⟩)
      | (go_at_call 21; refine (PIselOps.oublietteref20_is.calls _ _ _ _ _ _ _ _ _ _ _ _ _ _ _ _ _ rfl).mono ?_; rintro e w' ⟨rfl, hb⟩; replace HB := Aside0.mk (HB.out.trans (hb.mono HB.out.size)); clear hb)
      | (go_at_call 22; refine (PIselOps.oublietteref20_test.calls _ _ _ _ _ _ _ _ _ _ _ _ rfl).mono ?_; rintro e w' ⟨rfl, hb⟩; replace HB := Aside0.mk (HB.out.trans (hb.mono HB.out.size)); clear hb)
      | (go_at_call 24; refine (PIselOps.oublietteref20_alu.calls _ _ _ _ _ _ _ _ _ _ _ _ _ _ rfl).mono ?_; rintro e w' ⟨rfl, hb⟩; replace HB := Aside0.mk (HB.out.trans (hb.mono HB.out.size)); clear hb))
  refine (PIselOps.oublietteref20_cond.calls _ 6 _ rfl).mono ?_
  rintro e w' ⟨rfl, hb⟩
  have HL := Aside0.mk (Rr.lit HB.out [⟨⟨3, false, 1, 0, 0, 7, 0⟩, 0, 0⟩] (by simp))
  replace HL := Aside0.mk (HL.out.below hb.below)
  clear hb
  go_wp2_with fail
  refine (PIselOps.oublietteref20_truth.calls _ [⟨⟨13, false, 0, 0, 0, 6, 0⟩, 0, 0⟩, ⟨⟨14, false, 0, 0, 0, 0, 0⟩, 0, 0⟩] _ rfl).mono ?_
  rintro e w2 ⟨v2, rfl, hR2, hb2⟩
  replace HL := Aside0.mk (HL.out.below hb2)
  obtain ⟨A2, c2, rfl, hc2, hC2⟩ := Kd.R_reads hR2
  have HC2 := Aside0.mk hC2
  clear hR2 hb2 hC2 hc2
  go_wp2_with ((with_reducible refine gate_builtin (b := .append) (xs := #[.tmp 75, .tmp 78]) rfl ?_); at_builtin; refine wp_app HL rfl (.tmp 75) (.tmp 78) rfl A2 2 c2 rfl rfl HC2.out (by simp) ?_; intro v3 w3 HL3)
  exact bodyPost_ret (by simp [results, Try.results6, go_sem]) rfl ⟨_, rfl, HL3.out.row, HL3.out.bel⟩
set_option maxHeartbeats 4000000 in
set_option maxRecDepth 100000 in
theorem rop_78 (w : World) : Calls Try.prog 6 #[.int .i64 78] w (ROut w [⟨⟨3, false, 1, 0, 0, 7, 0⟩, 0, 0⟩, ⟨⟨13, false, 0, 0, 0, 13, 0⟩, 0, 0⟩, ⟨⟨14, false, 0, 0, 0, 0, 0⟩, 0, 0⟩] 0) := by
  have HB := Aside0.mk (Below.refl w.heap.size w)
  go_enter Try.func6, Try.ntmps6
  go_wp2_with (first
      | (go_at_call 20; refine (ref_arity_yes (n := 78) rfl _).mono ?_; rintro e w' ⟨rfl, rfl⟩)
      | (go_at_call 21; refine (PIselOps.oublietteref20_is.calls _ _ _ _ _ _ _ _ _ _ _ _ _ _ _ _ _ rfl).mono ?_; rintro e w' ⟨rfl, hb⟩; replace HB := Aside0.mk (HB.out.trans (hb.mono HB.out.size)); clear hb)
      | (go_at_call 22; refine (PIselOps.oublietteref20_test.calls _ _ _ _ _ _ _ _ _ _ _ _ rfl).mono ?_; rintro e w' ⟨rfl, hb⟩; replace HB := Aside0.mk (HB.out.trans (hb.mono HB.out.size)); clear hb)
      | (go_at_call 24; refine (PIselOps.oublietteref20_alu.calls _ _ _ _ _ _ _ _ _ _ _ _ _ _ rfl).mono ?_; rintro e w' ⟨rfl, hb⟩; replace HB := Aside0.mk (HB.out.trans (hb.mono HB.out.size)); clear hb))
  refine (PIselOps.oublietteref20_cond.calls _ 13 _ rfl).mono ?_
  rintro e w' ⟨rfl, hb⟩
  have HL := Aside0.mk (Rr.lit HB.out [⟨⟨3, false, 1, 0, 0, 7, 0⟩, 0, 0⟩] (by simp))
  replace HL := Aside0.mk (HL.out.below hb.below)
  clear hb
  go_wp2_with fail
  refine (PIselOps.oublietteref20_truth.calls _ [⟨⟨13, false, 0, 0, 0, 13, 0⟩, 0, 0⟩, ⟨⟨14, false, 0, 0, 0, 0, 0⟩, 0, 0⟩] _ rfl).mono ?_
  rintro e w2 ⟨v2, rfl, hR2, hb2⟩
  replace HL := Aside0.mk (HL.out.below hb2)
  obtain ⟨A2, c2, rfl, hc2, hC2⟩ := Kd.R_reads hR2
  have HC2 := Aside0.mk hC2
  clear hR2 hb2 hC2 hc2
  go_wp2_with ((with_reducible refine gate_builtin (b := .append) (xs := #[.tmp 75, .tmp 78]) rfl ?_); at_builtin; refine wp_app HL rfl (.tmp 75) (.tmp 78) rfl A2 2 c2 rfl rfl HC2.out (by simp) ?_; intro v3 w3 HL3)
  exact bodyPost_ret (by simp [results, Try.results6, go_sem]) rfl ⟨_, rfl, HL3.out.row, HL3.out.bel⟩
set_option maxHeartbeats 4000000 in
set_option maxRecDepth 100000 in
theorem rop_79 (w : World) : Calls Try.prog 6 #[.int .i64 79] w (ROut w [⟨⟨3, false, 1, 0, 0, 7, 0⟩, 0, 0⟩, ⟨⟨13, false, 0, 0, 0, 3, 0⟩, 0, 0⟩, ⟨⟨14, false, 0, 0, 0, 0, 0⟩, 0, 0⟩] 0) := by
  have HB := Aside0.mk (Below.refl w.heap.size w)
  go_enter Try.func6, Try.ntmps6
  go_wp2_with (first
      | (go_at_call 20; refine (ref_arity_yes (n := 79) rfl _).mono ?_; rintro e w' ⟨rfl, rfl⟩)
      | (go_at_call 21; refine (PIselOps.oublietteref20_is.calls _ _ _ _ _ _ _ _ _ _ _ _ _ _ _ _ _ rfl).mono ?_; rintro e w' ⟨rfl, hb⟩; replace HB := Aside0.mk (HB.out.trans (hb.mono HB.out.size)); clear hb)
      | (go_at_call 22; refine (PIselOps.oublietteref20_test.calls _ _ _ _ _ _ _ _ _ _ _ _ rfl).mono ?_; rintro e w' ⟨rfl, hb⟩; replace HB := Aside0.mk (HB.out.trans (hb.mono HB.out.size)); clear hb)
      | (go_at_call 24; refine (PIselOps.oublietteref20_alu.calls _ _ _ _ _ _ _ _ _ _ _ _ _ _ rfl).mono ?_; rintro e w' ⟨rfl, hb⟩; replace HB := Aside0.mk (HB.out.trans (hb.mono HB.out.size)); clear hb))
  refine (PIselOps.oublietteref20_cond.calls _ 3 _ rfl).mono ?_
  rintro e w' ⟨rfl, hb⟩
  have HL := Aside0.mk (Rr.lit HB.out [⟨⟨3, false, 1, 0, 0, 7, 0⟩, 0, 0⟩] (by simp))
  replace HL := Aside0.mk (HL.out.below hb.below)
  clear hb
  go_wp2_with fail
  refine (PIselOps.oublietteref20_truth.calls _ [⟨⟨13, false, 0, 0, 0, 3, 0⟩, 0, 0⟩, ⟨⟨14, false, 0, 0, 0, 0, 0⟩, 0, 0⟩] _ rfl).mono ?_
  rintro e w2 ⟨v2, rfl, hR2, hb2⟩
  replace HL := Aside0.mk (HL.out.below hb2)
  obtain ⟨A2, c2, rfl, hc2, hC2⟩ := Kd.R_reads hR2
  have HC2 := Aside0.mk hC2
  clear hR2 hb2 hC2 hc2
  go_wp2_with ((with_reducible refine gate_builtin (b := .append) (xs := #[.tmp 75, .tmp 78]) rfl ?_); at_builtin; refine wp_app HL rfl (.tmp 75) (.tmp 78) rfl A2 2 c2 rfl rfl HC2.out (by simp) ?_; intro v3 w3 HL3)
  exact bodyPost_ret (by simp [results, Try.results6, go_sem]) rfl ⟨_, rfl, HL3.out.row, HL3.out.bel⟩
set_option maxHeartbeats 4000000 in
set_option maxRecDepth 100000 in
theorem rop_80 (w : World) : Calls Try.prog 6 #[.int .i64 80] w (ROut w [⟨⟨5, true, 0, 0, 0, 0, 0⟩, 0, 0⟩, ⟨⟨13, false, 0, 0, 0, 4, 0⟩, 0, 0⟩, ⟨⟨14, false, 0, 0, 0, 0, 0⟩, 0, 0⟩] 0) := by
  have HB := Aside0.mk (Below.refl w.heap.size w)
  go_enter Try.func6, Try.ntmps6
  go_wp2_with (first
      | (go_at_call 20; refine (ref_arity_yes (n := 80) rfl _).mono ?_; rintro e w' ⟨rfl, rfl⟩)
      | (go_at_call 21; refine (PIselOps.oublietteref20_is.calls _ _ _ _ _ _ _ _ _ _ _ _ _ _ _ _ _ rfl).mono ?_; rintro e w' ⟨rfl, hb⟩; replace HB := Aside0.mk (HB.out.trans (hb.mono HB.out.size)); clear hb)
      | (go_at_call 22; refine (PIselOps.oublietteref20_test.calls _ _ _ _ _ _ _ _ _ _ _ _ rfl).mono ?_; rintro e w' ⟨rfl, hb⟩; replace HB := Aside0.mk (HB.out.trans (hb.mono HB.out.size)); clear hb)
      | (go_at_call 24; refine (PIselOps.oublietteref20_alu.calls _ _ _ _ _ _ _ _ _ _ _ _ _ _ rfl).mono ?_; rintro e w' ⟨rfl, hb⟩; replace HB := Aside0.mk (HB.out.trans (hb.mono HB.out.size)); clear hb))
  have HL := Aside0.mk (Rr.lit HB.out [⟨⟨5, true, 0, 0, 0, 0, 0⟩, 0, 0⟩] (by simp))
  refine (PIselOps.oublietteref20_truth.calls _ [⟨⟨13, false, 0, 0, 0, 4, 0⟩, 0, 0⟩, ⟨⟨14, false, 0, 0, 0, 0, 0⟩, 0, 0⟩] _ rfl).mono ?_
  rintro e w2 ⟨v2, rfl, hR2, hb2⟩
  replace HL := Aside0.mk (HL.out.below hb2)
  obtain ⟨A2, c2, rfl, hc2, hC2⟩ := Kd.R_reads hR2
  have HC2 := Aside0.mk hC2
  clear hR2 hb2 hC2 hc2
  go_wp2_with ((with_reducible refine gate_builtin (b := .append) (xs := #[.tmp 50, .tmp 51]) rfl ?_); at_builtin; refine wp_app HL rfl (.tmp 50) (.tmp 51) rfl A2 2 c2 rfl rfl HC2.out (by simp) ?_; intro v3 w3 HL3)
  exact bodyPost_ret (by simp [results, Try.results6, go_sem]) rfl ⟨_, rfl, HL3.out.row, HL3.out.bel⟩
set_option maxHeartbeats 4000000 in
set_option maxRecDepth 100000 in
theorem rop_81 (w : World) : Calls Try.prog 6 #[.int .i64 81] w (ROut w [⟨⟨3, true, 1, 0, 0, 7, 0⟩, 0, 0⟩, ⟨⟨13, false, 0, 0, 0, 4, 0⟩, 0, 0⟩, ⟨⟨14, false, 0, 0, 0, 0, 0⟩, 0, 0⟩] 0) := by
  have HB := Aside0.mk (Below.refl w.heap.size w)
  go_enter Try.func6, Try.ntmps6
  go_wp2_with (first
      | (go_at_call 20; refine (ref_arity_yes (n := 81) rfl _).mono ?_; rintro e w' ⟨rfl, rfl⟩)
      | (go_at_call 21; refine (PIselOps.oublietteref20_is.calls _ _ _ _ _ _ _ _ _ _ _ _ _ _ _ _ _ rfl).mono ?_; rintro e w' ⟨rfl, hb⟩; replace HB := Aside0.mk (HB.out.trans (hb.mono HB.out.size)); clear hb)
      | (go_at_call 22; refine (PIselOps.oublietteref20_test.calls _ _ _ _ _ _ _ _ _ _ _ _ rfl).mono ?_; rintro e w' ⟨rfl, hb⟩; replace HB := Aside0.mk (HB.out.trans (hb.mono HB.out.size)); clear hb)
      | (go_at_call 24; refine (PIselOps.oublietteref20_alu.calls _ _ _ _ _ _ _ _ _ _ _ _ _ _ rfl).mono ?_; rintro e w' ⟨rfl, hb⟩; replace HB := Aside0.mk (HB.out.trans (hb.mono HB.out.size)); clear hb))
  refine (PIselOps.oublietteref20_cond.calls _ 4 _ rfl).mono ?_
  rintro e w' ⟨rfl, hb⟩
  have HL := Aside0.mk (Rr.lit HB.out [⟨⟨3, true, 1, 0, 0, 7, 0⟩, 0, 0⟩] (by simp))
  replace HL := Aside0.mk (HL.out.below hb.below)
  clear hb
  go_wp2_with fail
  refine (PIselOps.oublietteref20_truth.calls _ [⟨⟨13, false, 0, 0, 0, 4, 0⟩, 0, 0⟩, ⟨⟨14, false, 0, 0, 0, 0, 0⟩, 0, 0⟩] _ rfl).mono ?_
  rintro e w2 ⟨v2, rfl, hR2, hb2⟩
  replace HL := Aside0.mk (HL.out.below hb2)
  obtain ⟨A2, c2, rfl, hc2, hC2⟩ := Kd.R_reads hR2
  have HC2 := Aside0.mk hC2
  clear hR2 hb2 hC2 hc2
  go_wp2_with ((with_reducible refine gate_builtin (b := .append) (xs := #[.tmp 75, .tmp 78]) rfl ?_); at_builtin; refine wp_app HL rfl (.tmp 75) (.tmp 78) rfl A2 2 c2 rfl rfl HC2.out (by simp) ?_; intro v3 w3 HL3)
  exact bodyPost_ret (by simp [results, Try.results6, go_sem]) rfl ⟨_, rfl, HL3.out.row, HL3.out.bel⟩
set_option maxHeartbeats 4000000 in
set_option maxRecDepth 100000 in
theorem rop_82 (w : World) : Calls Try.prog 6 #[.int .i64 82] w (ROut w [⟨⟨3, true, 1, 0, 0, 7, 0⟩, 0, 0⟩, ⟨⟨13, false, 0, 0, 0, 5, 0⟩, 0, 0⟩, ⟨⟨14, false, 0, 0, 0, 0, 0⟩, 0, 0⟩] 0) := by
  have HB := Aside0.mk (Below.refl w.heap.size w)
  go_enter Try.func6, Try.ntmps6
  go_wp2_with (first
      | (go_at_call 20; refine (ref_arity_yes (n := 82) rfl _).mono ?_; rintro e w' ⟨rfl, rfl⟩)
      | (go_at_call 21; refine (PIselOps.oublietteref20_is.calls _ _ _ _ _ _ _ _ _ _ _ _ _ _ _ _ _ rfl).mono ?_; rintro e w' ⟨rfl, hb⟩; replace HB := Aside0.mk (HB.out.trans (hb.mono HB.out.size)); clear hb)
      | (go_at_call 22; refine (PIselOps.oublietteref20_test.calls _ _ _ _ _ _ _ _ _ _ _ _ rfl).mono ?_; rintro e w' ⟨rfl, hb⟩; replace HB := Aside0.mk (HB.out.trans (hb.mono HB.out.size)); clear hb)
      | (go_at_call 24; refine (PIselOps.oublietteref20_alu.calls _ _ _ _ _ _ _ _ _ _ _ _ _ _ rfl).mono ?_; rintro e w' ⟨rfl, hb⟩; replace HB := Aside0.mk (HB.out.trans (hb.mono HB.out.size)); clear hb))
  refine (PIselOps.oublietteref20_cond.calls _ 5 _ rfl).mono ?_
  rintro e w' ⟨rfl, hb⟩
  have HL := Aside0.mk (Rr.lit HB.out [⟨⟨3, true, 1, 0, 0, 7, 0⟩, 0, 0⟩] (by simp))
  replace HL := Aside0.mk (HL.out.below hb.below)
  clear hb
  go_wp2_with fail
  refine (PIselOps.oublietteref20_truth.calls _ [⟨⟨13, false, 0, 0, 0, 5, 0⟩, 0, 0⟩, ⟨⟨14, false, 0, 0, 0, 0, 0⟩, 0, 0⟩] _ rfl).mono ?_
  rintro e w2 ⟨v2, rfl, hR2, hb2⟩
  replace HL := Aside0.mk (HL.out.below hb2)
  obtain ⟨A2, c2, rfl, hc2, hC2⟩ := Kd.R_reads hR2
  have HC2 := Aside0.mk hC2
  clear hR2 hb2 hC2 hc2
  go_wp2_with ((with_reducible refine gate_builtin (b := .append) (xs := #[.tmp 75, .tmp 78]) rfl ?_); at_builtin; refine wp_app HL rfl (.tmp 75) (.tmp 78) rfl A2 2 c2 rfl rfl HC2.out (by simp) ?_; intro v3 w3 HL3)
  exact bodyPost_ret (by simp [results, Try.results6, go_sem]) rfl ⟨_, rfl, HL3.out.row, HL3.out.bel⟩
set_option maxHeartbeats 4000000 in
set_option maxRecDepth 100000 in
theorem rop_83 (w : World) : Calls Try.prog 6 #[.int .i64 83] w (ROut w [⟨⟨3, true, 1, 0, 0, 7, 0⟩, 0, 0⟩, ⟨⟨13, false, 0, 0, 0, 12, 0⟩, 0, 0⟩, ⟨⟨14, false, 0, 0, 0, 0, 0⟩, 0, 0⟩] 0) := by
  have HB := Aside0.mk (Below.refl w.heap.size w)
  go_enter Try.func6, Try.ntmps6
  go_wp2_with (first
      | (go_at_call 20; refine (ref_arity_yes (n := 83) rfl _).mono ?_; rintro e w' ⟨rfl, rfl⟩)
      | (go_at_call 21; refine (PIselOps.oublietteref20_is.calls _ _ _ _ _ _ _ _ _ _ _ _ _ _ _ _ _ rfl).mono ?_; rintro e w' ⟨rfl, hb⟩; replace HB := Aside0.mk (HB.out.trans (hb.mono HB.out.size)); clear hb)
      | (go_at_call 22; refine (PIselOps.oublietteref20_test.calls _ _ _ _ _ _ _ _ _ _ _ _ rfl).mono ?_; rintro e w' ⟨rfl, hb⟩; replace HB := Aside0.mk (HB.out.trans (hb.mono HB.out.size)); clear hb)
      | (go_at_call 24; refine (PIselOps.oublietteref20_alu.calls _ _ _ _ _ _ _ _ _ _ _ _ _ _ rfl).mono ?_; rintro e w' ⟨rfl, hb⟩; replace HB := Aside0.mk (HB.out.trans (hb.mono HB.out.size)); clear hb))
  refine (PIselOps.oublietteref20_cond.calls _ 12 _ rfl).mono ?_
  rintro e w' ⟨rfl, hb⟩
  have HL := Aside0.mk (Rr.lit HB.out [⟨⟨3, true, 1, 0, 0, 7, 0⟩, 0, 0⟩] (by simp))
  replace HL := Aside0.mk (HL.out.below hb.below)
  clear hb
  go_wp2_with fail
  refine (PIselOps.oublietteref20_truth.calls _ [⟨⟨13, false, 0, 0, 0, 12, 0⟩, 0, 0⟩, ⟨⟨14, false, 0, 0, 0, 0, 0⟩, 0, 0⟩] _ rfl).mono ?_
  rintro e w2 ⟨v2, rfl, hR2, hb2⟩
  replace HL := Aside0.mk (HL.out.below hb2)
  obtain ⟨A2, c2, rfl, hc2, hC2⟩ := Kd.R_reads hR2
  have HC2 := Aside0.mk hC2
  clear hR2 hb2 hC2 hc2
  go_wp2_with ((with_reducible refine gate_builtin (b := .append) (xs := #[.tmp 75, .tmp 78]) rfl ?_); at_builtin; refine wp_app HL rfl (.tmp 75) (.tmp 78) rfl A2 2 c2 rfl rfl HC2.out (by simp) ?_; intro v3 w3 HL3)
  exact bodyPost_ret (by simp [results, Try.results6, go_sem]) rfl ⟨_, rfl, HL3.out.row, HL3.out.bel⟩
set_option maxHeartbeats 4000000 in
set_option maxRecDepth 100000 in
theorem rop_84 (w : World) : Calls Try.prog 6 #[.int .i64 84] w (ROut w [⟨⟨3, true, 1, 0, 0, 7, 0⟩, 0, 0⟩, ⟨⟨13, false, 0, 0, 0, 2, 0⟩, 0, 0⟩, ⟨⟨14, false, 0, 0, 0, 0, 0⟩, 0, 0⟩] 0) := by
  have HB := Aside0.mk (Below.refl w.heap.size w)
  go_enter Try.func6, Try.ntmps6
  go_wp2_with (first
      | (go_at_call 20; refine (ref_arity_yes (n := 84) rfl _).mono ?_; rintro e w' ⟨rfl, rfl⟩)
      | (go_at_call 21; refine (PIselOps.oublietteref20_is.calls _ _ _ _ _ _ _ _ _ _ _ _ _ _ _ _ _ rfl).mono ?_; rintro e w' ⟨rfl, hb⟩; replace HB := Aside0.mk (HB.out.trans (hb.mono HB.out.size)); clear hb)
      | (go_at_call 22; refine (PIselOps.oublietteref20_test.calls _ _ _ _ _ _ _ _ _ _ _ _ rfl).mono ?_; rintro e w' ⟨rfl, hb⟩; replace HB := Aside0.mk (HB.out.trans (hb.mono HB.out.size)); clear hb)
      | (go_at_call 24; refine (PIselOps.oublietteref20_alu.calls _ _ _ _ _ _ _ _ _ _ _ _ _ _ rfl).mono ?_; rintro e w' ⟨rfl, hb⟩; replace HB := Aside0.mk (HB.out.trans (hb.mono HB.out.size)); clear hb))
  refine (PIselOps.oublietteref20_cond.calls _ 2 _ rfl).mono ?_
  rintro e w' ⟨rfl, hb⟩
  have HL := Aside0.mk (Rr.lit HB.out [⟨⟨3, true, 1, 0, 0, 7, 0⟩, 0, 0⟩] (by simp))
  replace HL := Aside0.mk (HL.out.below hb.below)
  clear hb
  go_wp2_with fail
  refine (PIselOps.oublietteref20_truth.calls _ [⟨⟨13, false, 0, 0, 0, 2, 0⟩, 0, 0⟩, ⟨⟨14, false, 0, 0, 0, 0, 0⟩, 0, 0⟩] _ rfl).mono ?_
  rintro e w2 ⟨v2, rfl, hR2, hb2⟩
  replace HL := Aside0.mk (HL.out.below hb2)
  obtain ⟨A2, c2, rfl, hc2, hC2⟩ := Kd.R_reads hR2
  have HC2 := Aside0.mk hC2
  clear hR2 hb2 hC2 hc2
  go_wp2_with ((with_reducible refine gate_builtin (b := .append) (xs := #[.tmp 75, .tmp 78]) rfl ?_); at_builtin; refine wp_app HL rfl (.tmp 75) (.tmp 78) rfl A2 2 c2 rfl rfl HC2.out (by simp) ?_; intro v3 w3 HL3)
  exact bodyPost_ret (by simp [results, Try.results6, go_sem]) rfl ⟨_, rfl, HL3.out.row, HL3.out.bel⟩
set_option maxHeartbeats 4000000 in
set_option maxRecDepth 100000 in
theorem rop_85 (w : World) : Calls Try.prog 6 #[.int .i64 85] w (ROut w [⟨⟨3, true, 1, 0, 0, 7, 0⟩, 0, 0⟩, ⟨⟨13, false, 0, 0, 0, 15, 0⟩, 0, 0⟩, ⟨⟨14, false, 0, 0, 0, 0, 0⟩, 0, 0⟩] 0) := by
  have HB := Aside0.mk (Below.refl w.heap.size w)
  go_enter Try.func6, Try.ntmps6
  go_wp2_with (first
      | (go_at_call 20; refine (ref_arity_yes (n := 85) rfl _).mono ?_; rintro e w' ⟨rfl, rfl⟩)
      | (go_at_call 21; refine (PIselOps.oublietteref20_is.calls _ _ _ _ _ _ _ _ _ _ _ _ _ _ _ _ _ rfl).mono ?_; rintro e w' ⟨rfl, hb⟩; replace HB := Aside0.mk (HB.out.trans (hb.mono HB.out.size)); clear hb)
      | (go_at_call 22; refine (PIselOps.oublietteref20_test.calls _ _ _ _ _ _ _ _ _ _ _ _ rfl).mono ?_; rintro e w' ⟨rfl, hb⟩; replace HB := Aside0.mk (HB.out.trans (hb.mono HB.out.size)); clear hb)
      | (go_at_call 24; refine (PIselOps.oublietteref20_alu.calls _ _ _ _ _ _ _ _ _ _ _ _ _ _ rfl).mono ?_; rintro e w' ⟨rfl, hb⟩; replace HB := Aside0.mk (HB.out.trans (hb.mono HB.out.size)); clear hb))
  refine (PIselOps.oublietteref20_cond.calls _ 15 _ rfl).mono ?_
  rintro e w' ⟨rfl, hb⟩
  have HL := Aside0.mk (Rr.lit HB.out [⟨⟨3, true, 1, 0, 0, 7, 0⟩, 0, 0⟩] (by simp))
  replace HL := Aside0.mk (HL.out.below hb.below)
  clear hb
  go_wp2_with fail
  refine (PIselOps.oublietteref20_truth.calls _ [⟨⟨13, false, 0, 0, 0, 15, 0⟩, 0, 0⟩, ⟨⟨14, false, 0, 0, 0, 0, 0⟩, 0, 0⟩] _ rfl).mono ?_
  rintro e w2 ⟨v2, rfl, hR2, hb2⟩
  replace HL := Aside0.mk (HL.out.below hb2)
  obtain ⟨A2, c2, rfl, hc2, hC2⟩ := Kd.R_reads hR2
  have HC2 := Aside0.mk hC2
  clear hR2 hb2 hC2 hc2
  go_wp2_with ((with_reducible refine gate_builtin (b := .append) (xs := #[.tmp 75, .tmp 78]) rfl ?_); at_builtin; refine wp_app HL rfl (.tmp 75) (.tmp 78) rfl A2 2 c2 rfl rfl HC2.out (by simp) ?_; intro v3 w3 HL3)
  exact bodyPost_ret (by simp [results, Try.results6, go_sem]) rfl ⟨_, rfl, HL3.out.row, HL3.out.bel⟩
set_option maxHeartbeats 4000000 in
set_option maxRecDepth 100000 in
theorem rop_86 (w : World) : Calls Try.prog 6 #[.int .i64 86] w (ROut w [⟨⟨3, true, 1, 0, 0, 7, 0⟩, 0, 0⟩, ⟨⟨13, false, 0, 0, 0, 7, 0⟩, 0, 0⟩, ⟨⟨14, false, 0, 0, 0, 0, 0⟩, 0, 0⟩] 0) := by
  have HB := Aside0.mk (Below.refl w.heap.size w)
  go_enter Try.func6, Try.ntmps6
  go_wp2_with (first
      | (go_at_call 20; refine (ref_arity_yes (n := 86) rfl _).mono ?_; rintro e w' ⟨rfl, rfl⟩)
      | (go_at_call 21; refine (PIselOps.oublietteref20_is.calls _ _ _ _ _ _ _ _ _ _ _ _ _ _ _ _ _ rfl).mono ?_; rintro e w' ⟨rfl, hb⟩; replace HB := Aside0.mk (HB.out.trans (hb.mono HB.out.size)); clear hb)
      | (go_at_call 22; refine (PIselOps.oublietteref20_test.calls _ _ _ _ _ _ _ _ _ _ _ _ rfl).mono ?_; rintro e w' ⟨rfl, hb⟩; replace HB := Aside0.mk (HB.out.trans (hb.mono HB.out.size)); clear hb)
      | (go_at_call 24; refine (PIselOps.oublietteref20_alu.calls _ _ _ _ _ _ _ _ _ _ _ _ _ _ rfl).mono ?_; rintro e w' ⟨rfl, hb⟩; replace HB := Aside0.mk (HB.out.trans (hb.mono HB.out.size)); clear hb))
  refine (PIselOps.oublietteref20_cond.calls _ 7 _ rfl).mono ?_
  rintro e w' ⟨rfl, hb⟩
  have HL := Aside0.mk (Rr.lit HB.out [⟨⟨3, true, 1, 0, 0, 7, 0⟩, 0, 0⟩] (by simp))
  replace HL := Aside0.mk (HL.out.below hb.below)
  clear hb
  go_wp2_with fail
  refine (PIselOps.oublietteref20_truth.calls _ [⟨⟨13, false, 0, 0, 0, 7, 0⟩, 0, 0⟩, ⟨⟨14, false, 0, 0, 0, 0, 0⟩, 0, 0⟩] _ rfl).mono ?_
  rintro e w2 ⟨v2, rfl, hR2, hb2⟩
  replace HL := Aside0.mk (HL.out.below hb2)
  obtain ⟨A2, c2, rfl, hc2, hC2⟩ := Kd.R_reads hR2
  have HC2 := Aside0.mk hC2
  clear hR2 hb2 hC2 hc2
  go_wp2_with ((with_reducible refine gate_builtin (b := .append) (xs := #[.tmp 75, .tmp 78]) rfl ?_); at_builtin; refine wp_app HL rfl (.tmp 75) (.tmp 78) rfl A2 2 c2 rfl rfl HC2.out (by simp) ?_; intro v3 w3 HL3)
  exact bodyPost_ret (by simp [results, Try.results6, go_sem]) rfl ⟨_, rfl, HL3.out.row, HL3.out.bel⟩
set_option maxHeartbeats 4000000 in
set_option maxRecDepth 100000 in
theorem rop_87 (w : World) : Calls Try.prog 6 #[.int .i64 87] w (ROut w [⟨⟨3, true, 1, 0, 0, 7, 0⟩, 0, 0⟩, ⟨⟨13, false, 0, 0, 0, 14, 0⟩, 0, 0⟩, ⟨⟨14, false, 0, 0, 0, 0, 0⟩, 0, 0⟩] 0) := by
  have HB := Aside0.mk (Below.refl w.heap.size w)
  go_enter Try.func6, Try.ntmps6
  go_wp2_with (first
      | (go_at_call 20; refine (ref_arity_yes (n := 87) rfl _).mono ?_; rintro e w' ⟨rfl, rfl⟩)
      | (go_at_call 21; refine (PIselOps.oublietteref20_is.calls _ _ _ _ _ _ _ _ _ _ _ _ _ _ _ _ _ rfl).mono ?_; rintro e w' ⟨rfl, hb⟩; replace HB := Aside0.mk (HB.out.trans (hb.mono HB.out.size)); clear hb)
      | (go_at_call 22; refine (PIselOps.oublietteref20_test.calls _ _ _ _ _ _ _ _ _ _ _ _ rfl).mono ?_; rintro e w' ⟨rfl, hb⟩; replace HB := Aside0.mk (HB.out.trans (hb.mono HB.out.size)); clear hb)
      | (go_at_call 24; refine (PIselOps.oublietteref20_alu.calls _ _ _ _ _ _ _ _ _ _ _ _ _ _ rfl).mono ?_; rintro e w' ⟨rfl, hb⟩; replace HB := Aside0.mk (HB.out.trans (hb.mono HB.out.size)); clear hb))
  refine (PIselOps.oublietteref20_cond.calls _ 14 _ rfl).mono ?_
  rintro e w' ⟨rfl, hb⟩
  have HL := Aside0.mk (Rr.lit HB.out [⟨⟨3, true, 1, 0, 0, 7, 0⟩, 0, 0⟩] (by simp))
  replace HL := Aside0.mk (HL.out.below hb.below)
  clear hb
  go_wp2_with fail
  refine (PIselOps.oublietteref20_truth.calls _ [⟨⟨13, false, 0, 0, 0, 14, 0⟩, 0, 0⟩, ⟨⟨14, false, 0, 0, 0, 0, 0⟩, 0, 0⟩] _ rfl).mono ?_
  rintro e w2 ⟨v2, rfl, hR2, hb2⟩
  replace HL := Aside0.mk (HL.out.below hb2)
  obtain ⟨A2, c2, rfl, hc2, hC2⟩ := Kd.R_reads hR2
  have HC2 := Aside0.mk hC2
  clear hR2 hb2 hC2 hc2
  go_wp2_with ((with_reducible refine gate_builtin (b := .append) (xs := #[.tmp 75, .tmp 78]) rfl ?_); at_builtin; refine wp_app HL rfl (.tmp 75) (.tmp 78) rfl A2 2 c2 rfl rfl HC2.out (by simp) ?_; intro v3 w3 HL3)
  exact bodyPost_ret (by simp [results, Try.results6, go_sem]) rfl ⟨_, rfl, HL3.out.row, HL3.out.bel⟩
set_option maxHeartbeats 4000000 in
set_option maxRecDepth 100000 in
theorem rop_88 (w : World) : Calls Try.prog 6 #[.int .i64 88] w (ROut w [⟨⟨3, true, 1, 0, 0, 7, 0⟩, 0, 0⟩, ⟨⟨13, false, 0, 0, 0, 6, 0⟩, 0, 0⟩, ⟨⟨14, false, 0, 0, 0, 0, 0⟩, 0, 0⟩] 0) := by
  have HB := Aside0.mk (Below.refl w.heap.size w)
  go_enter Try.func6, Try.ntmps6
  go_wp2_with (first
      | (go_at_call 20; refine (ref_arity_yes (n := 88) rfl _).mono ?_; rintro e w' ⟨rfl, rfl⟩)
      | (go_at_call 21; refine (PIselOps.oublietteref20_is.calls _ _ _ _ _ _ _ _ _ _ _ _ _ _ _ _ _ rfl).mono ?_; rintro e w' ⟨rfl, hb⟩; replace HB := Aside0.mk (HB.out.trans (hb.mono HB.out.size)); clear hb)
      | (go_at_call 22; refine (PIselOps.oublietteref20_test.calls _ _ _ _ _ _ _ _ _ _ _ _ rfl).mono ?_; rintro e w' ⟨rfl, hb⟩; replace HB := Aside0.mk (HB.out.trans (hb.mono HB.out.size)); clear hb)
      | (go_at_call 24; refine (PIselOps.oublietteref20_alu.calls _ _ _ _ _ _ _ _ _ _ _ _ _ _ rfl).mono ?_; rintro e w' ⟨rfl, hb⟩; replace HB := Aside0.mk (HB.out.trans (hb.mono HB.out.size)); clear hb))
  refine (PIselOps.oublietteref20_cond.calls _ 6 _ rfl).mono ?_
  rintro e w' ⟨rfl, hb⟩
  have HL := Aside0.mk (Rr.lit HB.out [⟨⟨3, true, 1, 0, 0, 7, 0⟩, 0, 0⟩] (by simp))
  replace HL := Aside0.mk (HL.out.below hb.below)
  clear hb
  go_wp2_with fail
  refine (PIselOps.oublietteref20_truth.calls _ [⟨⟨13, false, 0, 0, 0, 6, 0⟩, 0, 0⟩, ⟨⟨14, false, 0, 0, 0, 0, 0⟩, 0, 0⟩] _ rfl).mono ?_
  rintro e w2 ⟨v2, rfl, hR2, hb2⟩
  replace HL := Aside0.mk (HL.out.below hb2)
  obtain ⟨A2, c2, rfl, hc2, hC2⟩ := Kd.R_reads hR2
  have HC2 := Aside0.mk hC2
  clear hR2 hb2 hC2 hc2
  go_wp2_with ((with_reducible refine gate_builtin (b := .append) (xs := #[.tmp 75, .tmp 78]) rfl ?_); at_builtin; refine wp_app HL rfl (.tmp 75) (.tmp 78) rfl A2 2 c2 rfl rfl HC2.out (by simp) ?_; intro v3 w3 HL3)
  exact bodyPost_ret (by simp [results, Try.results6, go_sem]) rfl ⟨_, rfl, HL3.out.row, HL3.out.bel⟩
set_option maxHeartbeats 4000000 in
set_option maxRecDepth 100000 in
theorem rop_89 (w : World) : Calls Try.prog 6 #[.int .i64 89] w (ROut w [⟨⟨3, true, 1, 0, 0, 7, 0⟩, 0, 0⟩, ⟨⟨13, false, 0, 0, 0, 13, 0⟩, 0, 0⟩, ⟨⟨14, false, 0, 0, 0, 0, 0⟩, 0, 0⟩] 0) := by
  have HB := Aside0.mk (Below.refl w.heap.size w)
  go_enter Try.func6, Try.ntmps6
  go_wp2_with (first
      | (go_at_call 20; refine (ref_arity_yes (n := 89) rfl _).mono ?_; rintro e w' ⟨rfl, rfl⟩)
      | (go_at_call 21; refine (PIselOps.oublietteref20_is.calls _ _ _ _ _ _ _ _ _ _ _ _ _ _ _ _ _ rfl).mono ?_; rintro e w' ⟨rfl, hb⟩; replace HB := Aside0.mk (HB.out.trans (hb.mono HB.out.size)); clear hb)
      | (go_at_call 22; refine (PIselOps.oublietteref20_test.calls _ _ _ _ _ _ _ _ _ _ _ _ rfl).mono ?_; rintro e w' ⟨rfl, hb⟩; replace HB := Aside0.mk (HB.out.trans (hb.mono HB.out.size)); clear hb)
      | (go_at_call 24; refine (PIselOps.oublietteref20_alu.calls _ _ _ _ _ _ _ _ _ _ _ _ _ _ rfl).mono ?_; rintro e w' ⟨rfl, hb⟩; replace HB := Aside0.mk (HB.out.trans (hb.mono HB.out.size)); clear hb))
  refine (PIselOps.oublietteref20_cond.calls _ 13 _ rfl).mono ?_
  rintro e w' ⟨rfl, hb⟩
  have HL := Aside0.mk (Rr.lit HB.out [⟨⟨3, true, 1, 0, 0, 7, 0⟩, 0, 0⟩] (by simp))
  replace HL := Aside0.mk (HL.out.below hb.below)
  clear hb
  go_wp2_with fail
  refine (PIselOps.oublietteref20_truth.calls _ [⟨⟨13, false, 0, 0, 0, 13, 0⟩, 0, 0⟩, ⟨⟨14, false, 0, 0, 0, 0, 0⟩, 0, 0⟩] _ rfl).mono ?_
  rintro e w2 ⟨v2, rfl, hR2, hb2⟩
  replace HL := Aside0.mk (HL.out.below hb2)
  obtain ⟨A2, c2, rfl, hc2, hC2⟩ := Kd.R_reads hR2
  have HC2 := Aside0.mk hC2
  clear hR2 hb2 hC2 hc2
  go_wp2_with ((with_reducible refine gate_builtin (b := .append) (xs := #[.tmp 75, .tmp 78]) rfl ?_); at_builtin; refine wp_app HL rfl (.tmp 75) (.tmp 78) rfl A2 2 c2 rfl rfl HC2.out (by simp) ?_; intro v3 w3 HL3)
  exact bodyPost_ret (by simp [results, Try.results6, go_sem]) rfl ⟨_, rfl, HL3.out.row, HL3.out.bel⟩
set_option maxHeartbeats 4000000 in
set_option maxRecDepth 100000 in
theorem rop_90 (w : World) : Calls Try.prog 6 #[.int .i64 90] w (ROut w [⟨⟨3, true, 1, 0, 0, 7, 0⟩, 0, 0⟩, ⟨⟨13, false, 0, 0, 0, 3, 0⟩, 0, 0⟩, ⟨⟨14, false, 0, 0, 0, 0, 0⟩, 0, 0⟩] 0) := by
  have HB := Aside0.mk (Below.refl w.heap.size w)
  go_enter Try.func6, Try.ntmps6
  go_wp2_with (first
      | (go_at_call 20; refine (ref_arity_yes (n := 90) rfl _).mono ?_; rintro e w' ⟨rfl, rfl⟩)
      | (go_at_call 21; refine (PIselOps.oublietteref20_is.calls _ _ _ _ _ _ _ _ _ _ _ _ _ _ _ _ _ rfl).mono ?_; rintro e w' ⟨rfl, hb⟩; replace HB := Aside0.mk (HB.out.trans (hb.mono HB.out.size)); clear hb)
      | (go_at_call 22; refine (PIselOps.oublietteref20_test.calls _ _ _ _ _ _ _ _ _ _ _ _ rfl).mono ?_; rintro e w' ⟨rfl, hb⟩; replace HB := Aside0.mk (HB.out.trans (hb.mono HB.out.size)); clear hb)
      | (go_at_call 24; refine (PIselOps.oublietteref20_alu.calls _ _ _ _ _ _ _ _ _ _ _ _ _ _ rfl).mono ?_; rintro e w' ⟨rfl, hb⟩; replace HB := Aside0.mk (HB.out.trans (hb.mono HB.out.size)); clear hb))
  refine (PIselOps.oublietteref20_cond.calls _ 3 _ rfl).mono ?_
  rintro e w' ⟨rfl, hb⟩
  have HL := Aside0.mk (Rr.lit HB.out [⟨⟨3, true, 1, 0, 0, 7, 0⟩, 0, 0⟩] (by simp))
  replace HL := Aside0.mk (HL.out.below hb.below)
  clear hb
  go_wp2_with fail
  refine (PIselOps.oublietteref20_truth.calls _ [⟨⟨13, false, 0, 0, 0, 3, 0⟩, 0, 0⟩, ⟨⟨14, false, 0, 0, 0, 0, 0⟩, 0, 0⟩] _ rfl).mono ?_
  rintro e w2 ⟨v2, rfl, hR2, hb2⟩
  replace HL := Aside0.mk (HL.out.below hb2)
  obtain ⟨A2, c2, rfl, hc2, hC2⟩ := Kd.R_reads hR2
  have HC2 := Aside0.mk hC2
  clear hR2 hb2 hC2 hc2
  go_wp2_with ((with_reducible refine gate_builtin (b := .append) (xs := #[.tmp 75, .tmp 78]) rfl ?_); at_builtin; refine wp_app HL rfl (.tmp 75) (.tmp 78) rfl A2 2 c2 rfl rfl HC2.out (by simp) ?_; intro v3 w3 HL3)
  exact bodyPost_ret (by simp [results, Try.results6, go_sem]) rfl ⟨_, rfl, HL3.out.row, HL3.out.bel⟩
set_option maxHeartbeats 4000000 in
set_option maxRecDepth 100000 in
theorem rop_106 (w : World) : Calls Try.prog 6 #[.int .i64 106] w (ROut w [⟨⟨3, false, 1, 0, 0, 0, 0⟩, 0, 0⟩] 0) := by
  have HB := Aside0.mk (Below.refl w.heap.size w)
  go_enter Try.func6, Try.ntmps6
  go_wp2_with (first
      | (go_at_call 20; refine (ref_arity_yes (n := 106) rfl _).mono ?_; rintro e w' ⟨rfl, rfl⟩)
      | (go_at_call 21; refine (PIselOps.oublietteref20_is.calls _ _ _ _ _ _ _ _ _ _ _ _ _ _ _ _ _ rfl).mono ?_; rintro e w' ⟨rfl, hb⟩; replace HB := Aside0.mk (HB.out.trans (hb.mono HB.out.size)); clear hb)
      | (go_at_call 22; refine (PIselOps.oublietteref20_test.calls _ _ _ _ _ _ _ _ _ _ _ _ rfl).mono ?_; rintro e w' ⟨rfl, hb⟩; replace HB := Aside0.mk (HB.out.trans (hb.mono HB.out.size)); clear hb)
      | (go_at_call 24; refine (PIselOps.oublietteref20_alu.calls _ _ _ _ _ _ _ _ _ _ _ _ _ _ rfl).mono ?_; rintro e w' ⟨rfl, hb⟩; replace HB := Aside0.mk (HB.out.trans (hb.mono HB.out.size)); clear hb))
  have HL := Aside0.mk (Rr.lit HB.out [⟨⟨3, false, 1, 0, 0, 0, 0⟩, 0, 0⟩] (by simp))
  exact bodyPost_ret (by simp [results, Try.results6, go_sem]) rfl ⟨_, rfl, HL.out.row, HL.out.bel⟩
set_option maxHeartbeats 4000000 in
set_option maxRecDepth 100000 in
theorem rop_107 (w : World) : Calls Try.prog 6 #[.int .i64 107] w (ROut w [⟨⟨3, false, 1, 0, 0, 5, 0⟩, 0, 0⟩] 0) := by
  have HB := Aside0.mk (Below.refl w.heap.size w)
  go_enter Try.func6, Try.ntmps6
  go_wp2_with (first
      | (go_at_call 20; refine (ref_arity_yes (n := 107) rfl _).mono ?_; rintro e w' ⟨rfl, rfl⟩)
      | (go_at_call 21; refine (PIselOps.oublietteref20_is.calls _ _ _ _ _ _ _ _ _ _ _ _ _ _ _ _ _ rfl).mono ?_; rintro e w' ⟨rfl, hb⟩; replace HB := Aside0.mk (HB.out.trans (hb.mono HB.out.size)); clear hb)
      | (go_at_call 22; refine (PIselOps.oublietteref20_test.calls _ _ _ _ _ _ _ _ _ _ _ _ rfl).mono ?_; rintro e w' ⟨rfl, hb⟩; replace HB := Aside0.mk (HB.out.trans (hb.mono HB.out.size)); clear hb)
      | (go_at_call 24; refine (PIselOps.oublietteref20_alu.calls _ _ _ _ _ _ _ _ _ _ _ _ _ _ rfl).mono ?_; rintro e w' ⟨rfl, hb⟩; replace HB := Aside0.mk (HB.out.trans (hb.mono HB.out.size)); clear hb))
  have HL := Aside0.mk (Rr.lit HB.out [⟨⟨3, false, 1, 0, 0, 5, 0⟩, 0, 0⟩] (by simp))
  exact bodyPost_ret (by simp [results, Try.results6, go_sem]) rfl ⟨_, rfl, HL.out.row, HL.out.bel⟩
set_option maxHeartbeats 4000000 in
set_option maxRecDepth 100000 in
theorem rop_108 (w : World) : Calls Try.prog 6 #[.int .i64 108] w (ROut w [⟨⟨6, false, 0, 1, 0, 0, 0⟩, 0, 0⟩] 0) := by
  have HB := Aside0.mk (Below.refl w.heap.size w)
  go_enter Try.func6, Try.ntmps6
  go_wp2_with (first
      | (go_at_call 20; refine (ref_arity_yes (n := 108) rfl _).mono ?_; rintro e w' ⟨rfl, rfl⟩)
      | (go_at_call 21; refine (PIselOps.oublietteref20_is.calls _ _ _ _ _ _ _ _ _ _ _ _ _ _ _ _ _ rfl).mono ?_; rintro e w' ⟨rfl, hb⟩; replace HB := Aside0.mk (HB.out.trans (hb.mono HB.out.size)); clear hb)
      | (go_at_call 22; refine (PIselOps.oublietteref20_test.calls _ _ _ _ _ _ _ _ _ _ _ _ rfl).mono ?_; rintro e w' ⟨rfl, hb⟩; replace HB := Aside0.mk (HB.out.trans (hb.mono HB.out.size)); clear hb)
      | (go_at_call 24; refine (PIselOps.oublietteref20_alu.calls _ _ _ _ _ _ _ _ _ _ _ _ _ _ rfl).mono ?_; rintro e w' ⟨rfl, hb⟩; replace HB := Aside0.mk (HB.out.trans (hb.mono HB.out.size)); clear hb))
  have HL := Aside0.mk (Rr.lit HB.out [⟨⟨6, false, 0, 1, 0, 0, 0⟩, 0, 0⟩] (by simp))
  exact bodyPost_ret (by simp [results, Try.results6, go_sem]) rfl ⟨_, rfl, HL.out.row, HL.out.bel⟩
set_option maxHeartbeats 4000000 in
set_option maxRecDepth 100000 in
theorem rop_109 (w : World) : Calls Try.prog 6 #[.int .i64 109] w (ROut w [⟨⟨5, false, 1, 1, 0, 0, 0⟩, 0, 0⟩, ⟨⟨18, false, 0, 0, 0, 4, 0⟩, 0, 1⟩, ⟨⟨4, false, 0, 1, 0, 7, -1⟩, 0, 0⟩, ⟨⟨18, false, 0, 0, 0, 5, 0⟩, 0, 100⟩, ⟨⟨2, true, 2, 0, 0, 0, 2147483648⟩, 0, 0⟩, ⟨⟨3, false, 2, 0, 0, 7, 0⟩, 0, 0⟩, ⟨⟨18, false, 0, 0, 0, 4, 0⟩, 0, 2⟩, ⟨⟨0, false, 0, 0, 0, 0, 0⟩, 100, 0⟩, ⟨⟨10, false, 0, 0, 0, 0, 0⟩, 0, 0⟩, ⟨⟨9, false, 0, 1, 0, 0, 0⟩, 0, 0⟩] 1) := by
  have HB := Aside0.mk (Below.refl w.heap.size w)
  go_enter Try.func6, Try.ntmps6
  go_wp2_with (first
      | (go_at_call 20; refine (ref_arity_yes (n := 109) rfl _).mono ?_; rintro e w' ⟨rfl, rfl⟩)
      | (go_at_call 21; refine (PIselOps.oublietteref20_is.calls _ _ _ _ _ _ _ _ _ _ _ _ _ _ _ _ _ rfl).mono ?_; rintro e w' ⟨rfl, hb⟩; replace HB := Aside0.mk (HB.out.trans (hb.mono HB.out.size)); clear hb)
      | (go_at_call 22; refine (PIselOps.oublietteref20_test.calls _ _ _ _ _ _ _ _ _ _ _ _ rfl).mono ?_; rintro e w' ⟨rfl, hb⟩; replace HB := Aside0.mk (HB.out.trans (hb.mono HB.out.size)); clear hb)
      | (go_at_call 24; refine (PIselOps.oublietteref20_alu.calls _ _ _ _ _ _ _ _ _ _ _ _ _ _ rfl).mono ?_; rintro e w' ⟨rfl, hb⟩; replace HB := Aside0.mk (HB.out.trans (hb.mono HB.out.size)); clear hb))
  refine (PIselOps.oublietteref20_divides.calls 3 0 false [⟨⟨5, false, 1, 1, 0, 0, 0⟩, 0, 0⟩, ⟨⟨18, false, 0, 0, 0, 4, 0⟩, 0, 1⟩, ⟨⟨4, false, 0, 1, 0, 7, -1⟩, 0, 0⟩, ⟨⟨18, false, 0, 0, 0, 5, 0⟩, 0, 100⟩, ⟨⟨2, true, 2, 0, 0, 0, 2147483648⟩, 0, 0⟩, ⟨⟨3, false, 2, 0, 0, 7, 0⟩, 0, 0⟩, ⟨⟨18, false, 0, 0, 0, 4, 0⟩, 0, 2⟩, ⟨⟨0, false, 0, 0, 0, 0, 0⟩, 100, 0⟩, ⟨⟨10, false, 0, 0, 0, 0, 0⟩, 0, 0⟩, ⟨⟨9, false, 0, 1, 0, 0, 0⟩, 0, 0⟩] 1 _ (by kernel_rfl)).mono ?_
  rintro e w2 ⟨v2, rfl, hR2, hb2⟩
  replace HB := Aside0.mk (HB.out.trans (hb2.mono HB.out.size))
  have HR2 := Aside0.mk (Kd.R_lower hR2 (by first | exact Nat.le_refl _ | exact (Below.refl _ _).size))
  clear hR2 hb2
  go_wp2_with fail
  exact bodyPost_ret (by simp [results, Try.results6, go_sem]) rfl ⟨_, rfl, HR2.out, HB.out⟩
set_option maxHeartbeats 4000000 in
set_option maxRecDepth 100000 in
theorem rop_110 (w : World) : Calls Try.prog 6 #[.int .i64 110] w (ROut w [⟨⟨5, false, 1, 1, 0, 0, 0⟩, 0, 0⟩, ⟨⟨18, false, 0, 0, 0, 4, 0⟩, 0, 1⟩, ⟨⟨2, true, 2, 0, 0, 0, 0⟩, 0, 0⟩, ⟨⟨8, false, 0, 1, 0, 0, 0⟩, 0, 0⟩] 0) := by
  have HB := Aside0.mk (Below.refl w.heap.size w)
  go_enter Try.func6, Try.ntmps6
  go_wp2_with (first
      | (go_at_call 20; refine (ref_arity_yes (n := 110) rfl _).mono ?_; rintro e w' ⟨rfl, rfl⟩)
      | (go_at_call 21; refine (PIselOps.oublietteref20_is.calls _ _ _ _ _ _ _ _ _ _ _ _ _ _ _ _ _ rfl).mono ?_; rintro e w' ⟨rfl, hb⟩; replace HB := Aside0.mk (HB.out.trans (hb.mono HB.out.size)); clear hb)
      | (go_at_call 22; refine (PIselOps.oublietteref20_test.calls _ _ _ _ _ _ _ _ _ _ _ _ rfl).mono ?_; rintro e w' ⟨rfl, hb⟩; replace HB := Aside0.mk (HB.out.trans (hb.mono HB.out.size)); clear hb)
      | (go_at_call 24; refine (PIselOps.oublietteref20_alu.calls _ _ _ _ _ _ _ _ _ _ _ _ _ _ rfl).mono ?_; rintro e w' ⟨rfl, hb⟩; replace HB := Aside0.mk (HB.out.trans (hb.mono HB.out.size)); clear hb))
  refine (PIselOps.oublietteref20_divides.calls 3 1 false [⟨⟨5, false, 1, 1, 0, 0, 0⟩, 0, 0⟩, ⟨⟨18, false, 0, 0, 0, 4, 0⟩, 0, 1⟩, ⟨⟨2, true, 2, 0, 0, 0, 0⟩, 0, 0⟩, ⟨⟨8, false, 0, 1, 0, 0, 0⟩, 0, 0⟩] 0 _ (by kernel_rfl)).mono ?_
  rintro e w2 ⟨v2, rfl, hR2, hb2⟩
  replace HB := Aside0.mk (HB.out.trans (hb2.mono HB.out.size))
  have HR2 := Aside0.mk (Kd.R_lower hR2 (by first | exact Nat.le_refl _ | exact (Below.refl _ _).size))
  clear hR2 hb2
  go_wp2_with fail
  exact bodyPost_ret (by simp [results, Try.results6, go_sem]) rfl ⟨_, rfl, HR2.out, HB.out⟩
set_option maxHeartbeats 4000000 in
set_option maxRecDepth 100000 in
theorem rop_111 (w : World) : Calls Try.prog 6 #[.int .i64 111] w (ROut w [⟨⟨5, false, 1, 1, 0, 0, 0⟩, 0, 0⟩, ⟨⟨18, false, 0, 0, 0, 4, 0⟩, 0, 1⟩, ⟨⟨4, false, 0, 1, 0, 7, -1⟩, 0, 0⟩, ⟨⟨18, false, 0, 0, 0, 5, 0⟩, 0, 100⟩, ⟨⟨2, true, 2, 0, 0, 0, 0⟩, 0, 0⟩, ⟨⟨17, false, 0, 0, 0, 0, 0⟩, 0, 101⟩, ⟨⟨0, false, 0, 0, 0, 0, 0⟩, 100, 0⟩, ⟨⟨10, false, 0, 0, 0, 0, 0⟩, 0, 0⟩, ⟨⟨9, false, 0, 1, 0, 0, 0⟩, 0, 0⟩, ⟨⟨0, false, 0, 0, 0, 0, 0⟩, 101, 0⟩, ⟨⟨1, true, 2, 0, 0, 0, 0⟩, 0, 0⟩] 2) := by
  have HB := Aside0.mk (Below.refl w.heap.size w)
  go_enter Try.func6, Try.ntmps6
  go_wp2_with (first
      | (go_at_call 20; refine (ref_arity_yes (n := 111) rfl _).mono ?_; rintro e w' ⟨rfl, rfl⟩)
      | (go_at_call 21; refine (PIselOps.oublietteref20_is.calls _ _ _ _ _ _ _ _ _ _ _ _ _ _ _ _ _ rfl).mono ?_; rintro e w' ⟨rfl, hb⟩; replace HB := Aside0.mk (HB.out.trans (hb.mono HB.out.size)); clear hb)
      | (go_at_call 22; refine (PIselOps.oublietteref20_test.calls _ _ _ _ _ _ _ _ _ _ _ _ rfl).mono ?_; rintro e w' ⟨rfl, hb⟩; replace HB := Aside0.mk (HB.out.trans (hb.mono HB.out.size)); clear hb)
      | (go_at_call 24; refine (PIselOps.oublietteref20_alu.calls _ _ _ _ _ _ _ _ _ _ _ _ _ _ rfl).mono ?_; rintro e w' ⟨rfl, hb⟩; replace HB := Aside0.mk (HB.out.trans (hb.mono HB.out.size)); clear hb))
  refine (PIselOps.oublietteref20_divides.calls 3 2 false [⟨⟨5, false, 1, 1, 0, 0, 0⟩, 0, 0⟩, ⟨⟨18, false, 0, 0, 0, 4, 0⟩, 0, 1⟩, ⟨⟨4, false, 0, 1, 0, 7, -1⟩, 0, 0⟩, ⟨⟨18, false, 0, 0, 0, 5, 0⟩, 0, 100⟩, ⟨⟨2, true, 2, 0, 0, 0, 0⟩, 0, 0⟩, ⟨⟨17, false, 0, 0, 0, 0, 0⟩, 0, 101⟩, ⟨⟨0, false, 0, 0, 0, 0, 0⟩, 100, 0⟩, ⟨⟨10, false, 0, 0, 0, 0, 0⟩, 0, 0⟩, ⟨⟨9, false, 0, 1, 0, 0, 0⟩, 0, 0⟩, ⟨⟨0, false, 0, 0, 0, 0, 0⟩, 101, 0⟩, ⟨⟨1, true, 2, 0, 0, 0, 0⟩, 0, 0⟩] 2 _ (by kernel_rfl)).mono ?_
  rintro e w2 ⟨v2, rfl, hR2, hb2⟩
  replace HB := Aside0.mk (HB.out.trans (hb2.mono HB.out.size))
  have HR2 := Aside0.mk (Kd.R_lower hR2 (by first | exact Nat.le_refl _ | exact (Below.refl _ _).size))
  clear hR2 hb2
  go_wp2_with fail
  exact bodyPost_ret (by simp [results, Try.results6, go_sem]) rfl ⟨_, rfl, HR2.out, HB.out⟩
set_option maxHeartbeats 4000000 in
set_option maxRecDepth 100000 in
theorem rop_112 (w : World) : Calls Try.prog 6 #[.int .i64 112] w (ROut w [⟨⟨5, false, 1, 1, 0, 0, 0⟩, 0, 0⟩, ⟨⟨18, false, 0, 0, 0, 4, 0⟩, 0, 1⟩, ⟨⟨2, true, 2, 0, 0, 0, 0⟩, 0, 0⟩, ⟨⟨8, false, 0, 1, 0, 0, 0⟩, 0, 0⟩, ⟨⟨1, true, 2, 0, 0, 0, 0⟩, 0, 0⟩] 0) := by
  have HB := Aside0.mk (Below.refl w.heap.size w)
  go_enter Try.func6, Try.ntmps6
  go_wp2_with (first
      | (go_at_call 20; refine (ref_arity_yes (n := 112) rfl _).mono ?_; rintro e w' ⟨rfl, rfl⟩)
      | (go_at_call 21; refine (PIselOps.oublietteref20_is.calls _ _ _ _ _ _ _ _ _ _ _ _ _ _ _ _ _ rfl).mono ?_; rintro e w' ⟨rfl, hb⟩; replace HB := Aside0.mk (HB.out.trans (hb.mono HB.out.size)); clear hb)
      | (go_at_call 22; refine (PIselOps.oublietteref20_test.calls _ _ _ _ _ _ _ _ _ _ _ _ rfl).mono ?_; rintro e w' ⟨rfl, hb⟩; replace HB := Aside0.mk (HB.out.trans (hb.mono HB.out.size)); clear hb)
      | (go_at_call 24; refine (PIselOps.oublietteref20_alu.calls _ _ _ _ _ _ _ _ _ _ _ _ _ _ rfl).mono ?_; rintro e w' ⟨rfl, hb⟩; replace HB := Aside0.mk (HB.out.trans (hb.mono HB.out.size)); clear hb))
  refine (PIselOps.oublietteref20_divides.calls 3 3 false [⟨⟨5, false, 1, 1, 0, 0, 0⟩, 0, 0⟩, ⟨⟨18, false, 0, 0, 0, 4, 0⟩, 0, 1⟩, ⟨⟨2, true, 2, 0, 0, 0, 0⟩, 0, 0⟩, ⟨⟨8, false, 0, 1, 0, 0, 0⟩, 0, 0⟩, ⟨⟨1, true, 2, 0, 0, 0, 0⟩, 0, 0⟩] 0 _ (by kernel_rfl)).mono ?_
  rintro e w2 ⟨v2, rfl, hR2, hb2⟩
  replace HB := Aside0.mk (HB.out.trans (hb2.mono HB.out.size))
  have HR2 := Aside0.mk (Kd.R_lower hR2 (by first | exact Nat.le_refl _ | exact (Below.refl _ _).size))
  clear hR2 hb2
  go_wp2_with fail
  exact bodyPost_ret (by simp [results, Try.results6, go_sem]) rfl ⟨_, rfl, HR2.out, HB.out⟩
set_option maxHeartbeats 4000000 in
set_option maxRecDepth 100000 in
theorem rop_113 (w : World) : Calls Try.prog 6 #[.int .i64 113] w (ROut w [⟨⟨3, false, 1, 0, 0, 4, 0⟩, 0, 0⟩] 0) := by
  have HB := Aside0.mk (Below.refl w.heap.size w)
  go_enter Try.func6, Try.ntmps6
  go_wp2_with (first
      | (go_at_call 20; refine (ref_arity_yes (n := 113) rfl _).mono ?_; rintro e w' ⟨rfl, rfl⟩)
      | (go_at_call 21; refine (PIselOps.oublietteref20_is.calls _ _ _ _ _ _ _ _ _ _ _ _ _ _ _ _ _ rfl).mono ?_; rintro e w' ⟨rfl, hb⟩; replace HB := Aside0.mk (HB.out.trans (hb.mono HB.out.size)); clear hb)
      | (go_at_call 22; refine (PIselOps.oublietteref20_test.calls _ _ _ _ _ _ _ _ _ _ _ _ rfl).mono ?_; rintro e w' ⟨rfl, hb⟩; replace HB := Aside0.mk (HB.out.trans (hb.mono HB.out.size)); clear hb)
      | (go_at_call 24; refine (PIselOps.oublietteref20_alu.calls _ _ _ _ _ _ _ _ _ _ _ _ _ _ rfl).mono ?_; rintro e w' ⟨rfl, hb⟩; replace HB := Aside0.mk (HB.out.trans (hb.mono HB.out.size)); clear hb))
  have HL := Aside0.mk (Rr.lit HB.out [⟨⟨3, false, 1, 0, 0, 4, 0⟩, 0, 0⟩] (by simp))
  exact bodyPost_ret (by simp [results, Try.results6, go_sem]) rfl ⟨_, rfl, HL.out.row, HL.out.bel⟩
set_option maxHeartbeats 4000000 in
set_option maxRecDepth 100000 in
theorem rop_114 (w : World) : Calls Try.prog 6 #[.int .i64 114] w (ROut w [⟨⟨3, false, 1, 0, 0, 1, 0⟩, 0, 0⟩] 0) := by
  have HB := Aside0.mk (Below.refl w.heap.size w)
  go_enter Try.func6, Try.ntmps6
  go_wp2_with (first
      | (go_at_call 20; refine (ref_arity_yes (n := 114) rfl _).mono ?_; rintro e w' ⟨rfl, rfl⟩)
      | (go_at_call 21; refine (PIselOps.oublietteref20_is.calls _ _ _ _ _ _ _ _ _ _ _ _ _ _ _ _ _ rfl).mono ?_; rintro e w' ⟨rfl, hb⟩; replace HB := Aside0.mk (HB.out.trans (hb.mono HB.out.size)); clear hb)
      | (go_at_call 22; refine (PIselOps.oublietteref20_test.calls _ _ _ _ _ _ _ _ _ _ _ _ rfl).mono ?_; rintro e w' ⟨rfl, hb⟩; replace HB := Aside0.mk (HB.out.trans (hb.mono HB.out.size)); clear hb)
      | (go_at_call 24; refine (PIselOps.oublietteref20_alu.calls _ _ _ _ _ _ _ _ _ _ _ _ _ _ rfl).mono ?_; rintro e w' ⟨rfl, hb⟩; replace HB := Aside0.mk (HB.out.trans (hb.mono HB.out.size)); clear hb))
  have HL := Aside0.mk (Rr.lit HB.out [⟨⟨3, false, 1, 0, 0, 1, 0⟩, 0, 0⟩] (by simp))
  exact bodyPost_ret (by simp [results, Try.results6, go_sem]) rfl ⟨_, rfl, HL.out.row, HL.out.bel⟩
set_option maxHeartbeats 4000000 in
set_option maxRecDepth 100000 in
theorem rop_115 (w : World) : Calls Try.prog 6 #[.int .i64 115] w (ROut w [⟨⟨3, false, 1, 0, 0, 6, 0⟩, 0, 0⟩] 0) := by
  have HB := Aside0.mk (Below.refl w.heap.size w)
  go_enter Try.func6, Try.ntmps6
  go_wp2_with (first
      | (go_at_call 20; refine (ref_arity_yes (n := 115) rfl _).mono ?_; rintro e w' ⟨rfl, rfl⟩)
      | (go_at_call 21; refine (PIselOps.oublietteref20_is.calls _ _ _ _ _ _ _ _ _ _ _ _ _ _ _ _ _ rfl).mono ?_; rintro e w' ⟨rfl, hb⟩; replace HB := Aside0.mk (HB.out.trans (hb.mono HB.out.size)); clear hb)
      | (go_at_call 22; refine (PIselOps.oublietteref20_test.calls _ _ _ _ _ _ _ _ _ _ _ _ rfl).mono ?_; rintro e w' ⟨rfl, hb⟩; replace HB := Aside0.mk (HB.out.trans (hb.mono HB.out.size)); clear hb)
      | (go_at_call 24; refine (PIselOps.oublietteref20_alu.calls _ _ _ _ _ _ _ _ _ _ _ _ _ _ rfl).mono ?_; rintro e w' ⟨rfl, hb⟩; replace HB := Aside0.mk (HB.out.trans (hb.mono HB.out.size)); clear hb))
  have HL := Aside0.mk (Rr.lit HB.out [⟨⟨3, false, 1, 0, 0, 6, 0⟩, 0, 0⟩] (by simp))
  exact bodyPost_ret (by simp [results, Try.results6, go_sem]) rfl ⟨_, rfl, HL.out.row, HL.out.bel⟩
set_option maxHeartbeats 4000000 in
set_option maxRecDepth 100000 in
theorem rop_116 (w : World) : Calls Try.prog 6 #[.int .i64 116] w (ROut w [⟨⟨7, false, 0, 0, 0, 4, 0⟩, 0, 0⟩] 0) := by
  have HB := Aside0.mk (Below.refl w.heap.size w)
  go_enter Try.func6, Try.ntmps6
  go_wp2_with (first
      | (go_at_call 20; refine (ref_arity_yes (n := 116) rfl _).mono ?_; rintro e w' ⟨rfl, rfl⟩)
      | (go_at_call 21; refine (PIselOps.oublietteref20_is.calls _ _ _ _ _ _ _ _ _ _ _ _ _ _ _ _ _ rfl).mono ?_; rintro e w' ⟨rfl, hb⟩; replace HB := Aside0.mk (HB.out.trans (hb.mono HB.out.size)); clear hb)
      | (go_at_call 22; refine (PIselOps.oublietteref20_test.calls _ _ _ _ _ _ _ _ _ _ _ _ rfl).mono ?_; rintro e w' ⟨rfl, hb⟩; replace HB := Aside0.mk (HB.out.trans (hb.mono HB.out.size)); clear hb)
      | (go_at_call 24; refine (PIselOps.oublietteref20_alu.calls _ _ _ _ _ _ _ _ _ _ _ _ _ _ rfl).mono ?_; rintro e w' ⟨rfl, hb⟩; replace HB := Aside0.mk (HB.out.trans (hb.mono HB.out.size)); clear hb))
  have HL := Aside0.mk (Rr.lit HB.out [⟨⟨7, false, 0, 0, 0, 4, 0⟩, 0, 0⟩] (by simp))
  exact bodyPost_ret (by simp [results, Try.results6, go_sem]) rfl ⟨_, rfl, HL.out.row, HL.out.bel⟩
set_option maxHeartbeats 4000000 in
set_option maxRecDepth 100000 in
theorem rop_117 (w : World) : Calls Try.prog 6 #[.int .i64 117] w (ROut w [⟨⟨7, false, 0, 0, 0, 7, 0⟩, 0, 0⟩] 0) := by
  have HB := Aside0.mk (Below.refl w.heap.size w)
  go_enter Try.func6, Try.ntmps6
  go_wp2_with (first
      | (go_at_call 20; refine (ref_arity_yes (n := 117) rfl _).mono ?_; rintro e w' ⟨rfl, rfl⟩)
      | (go_at_call 21; refine (PIselOps.oublietteref20_is.calls _ _ _ _ _ _ _ _ _ _ _ _ _ _ _ _ _ rfl).mono ?_; rintro e w' ⟨rfl, hb⟩; replace HB := Aside0.mk (HB.out.trans (hb.mono HB.out.size)); clear hb)
      | (go_at_call 22; refine (PIselOps.oublietteref20_test.calls _ _ _ _ _ _ _ _ _ _ _ _ rfl).mono ?_; rintro e w' ⟨rfl, hb⟩; replace HB := Aside0.mk (HB.out.trans (hb.mono HB.out.size)); clear hb)
      | (go_at_call 24; refine (PIselOps.oublietteref20_alu.calls _ _ _ _ _ _ _ _ _ _ _ _ _ _ rfl).mono ?_; rintro e w' ⟨rfl, hb⟩; replace HB := Aside0.mk (HB.out.trans (hb.mono HB.out.size)); clear hb))
  have HL := Aside0.mk (Rr.lit HB.out [⟨⟨7, false, 0, 0, 0, 7, 0⟩, 0, 0⟩] (by simp))
  exact bodyPost_ret (by simp [results, Try.results6, go_sem]) rfl ⟨_, rfl, HL.out.row, HL.out.bel⟩
set_option maxHeartbeats 4000000 in
set_option maxRecDepth 100000 in
theorem rop_118 (w : World) : Calls Try.prog 6 #[.int .i64 118] w (ROut w [⟨⟨7, false, 0, 0, 0, 5, 0⟩, 0, 0⟩] 0) := by
  have HB := Aside0.mk (Below.refl w.heap.size w)
  go_enter Try.func6, Try.ntmps6
  go_wp2_with (first
      | (go_at_call 20; refine (ref_arity_yes (n := 118) rfl _).mono ?_; rintro e w' ⟨rfl, rfl⟩)
      | (go_at_call 21; refine (PIselOps.oublietteref20_is.calls _ _ _ _ _ _ _ _ _ _ _ _ _ _ _ _ _ rfl).mono ?_; rintro e w' ⟨rfl, hb⟩; replace HB := Aside0.mk (HB.out.trans (hb.mono HB.out.size)); clear hb)
      | (go_at_call 22; refine (PIselOps.oublietteref20_test.calls _ _ _ _ _ _ _ _ _ _ _ _ rfl).mono ?_; rintro e w' ⟨rfl, hb⟩; replace HB := Aside0.mk (HB.out.trans (hb.mono HB.out.size)); clear hb)
      | (go_at_call 24; refine (PIselOps.oublietteref20_alu.calls _ _ _ _ _ _ _ _ _ _ _ _ _ _ rfl).mono ?_; rintro e w' ⟨rfl, hb⟩; replace HB := Aside0.mk (HB.out.trans (hb.mono HB.out.size)); clear hb))
  have HL := Aside0.mk (Rr.lit HB.out [⟨⟨7, false, 0, 0, 0, 5, 0⟩, 0, 0⟩] (by simp))
  exact bodyPost_ret (by simp [results, Try.results6, go_sem]) rfl ⟨_, rfl, HL.out.row, HL.out.bel⟩
set_option maxHeartbeats 4000000 in
set_option maxRecDepth 100000 in
theorem rop_119 (w : World) : Calls Try.prog 6 #[.int .i64 119] w (ROut w [⟨⟨7, false, 0, 0, 0, 0, 0⟩, 0, 0⟩] 0) := by
  have HB := Aside0.mk (Below.refl w.heap.size w)
  go_enter Try.func6, Try.ntmps6
  go_wp2_with (first
      | (go_at_call 20; refine (ref_arity_yes (n := 119) rfl _).mono ?_; rintro e w' ⟨rfl, rfl⟩)
      | (go_at_call 21; refine (PIselOps.oublietteref20_is.calls _ _ _ _ _ _ _ _ _ _ _ _ _ _ _ _ _ rfl).mono ?_; rintro e w' ⟨rfl, hb⟩; replace HB := Aside0.mk (HB.out.trans (hb.mono HB.out.size)); clear hb)
      | (go_at_call 22; refine (PIselOps.oublietteref20_test.calls _ _ _ _ _ _ _ _ _ _ _ _ rfl).mono ?_; rintro e w' ⟨rfl, hb⟩; replace HB := Aside0.mk (HB.out.trans (hb.mono HB.out.size)); clear hb)
      | (go_at_call 24; refine (PIselOps.oublietteref20_alu.calls _ _ _ _ _ _ _ _ _ _ _ _ _ _ rfl).mono ?_; rintro e w' ⟨rfl, hb⟩; replace HB := Aside0.mk (HB.out.trans (hb.mono HB.out.size)); clear hb))
  have HL := Aside0.mk (Rr.lit HB.out [⟨⟨7, false, 0, 0, 0, 0, 0⟩, 0, 0⟩] (by simp))
  exact bodyPost_ret (by simp [results, Try.results6, go_sem]) rfl ⟨_, rfl, HL.out.row, HL.out.bel⟩
set_option maxHeartbeats 4000000 in
set_option maxRecDepth 100000 in
theorem rop_120 (w : World) : Calls Try.prog 6 #[.int .i64 120] w (ROut w [⟨⟨7, false, 0, 0, 0, 1, 0⟩, 0, 0⟩] 0) := by
  have HB := Aside0.mk (Below.refl w.heap.size w)
  go_enter Try.func6, Try.ntmps6
  go_wp2_with (first
      | (go_at_call 20; refine (ref_arity_yes (n := 120) rfl _).mono ?_; rintro e w' ⟨rfl, rfl⟩)
      | (go_at_call 21; refine (PIselOps.oublietteref20_is.calls _ _ _ _ _ _ _ _ _ _ _ _ _ _ _ _ _ rfl).mono ?_; rintro e w' ⟨rfl, hb⟩; replace HB := Aside0.mk (HB.out.trans (hb.mono HB.out.size)); clear hb)
      | (go_at_call 22; refine (PIselOps.oublietteref20_test.calls _ _ _ _ _ _ _ _ _ _ _ _ rfl).mono ?_; rintro e w' ⟨rfl, hb⟩; replace HB := Aside0.mk (HB.out.trans (hb.mono HB.out.size)); clear hb)
      | (go_at_call 24; refine (PIselOps.oublietteref20_alu.calls _ _ _ _ _ _ _ _ _ _ _ _ _ _ rfl).mono ?_; rintro e w' ⟨rfl, hb⟩; replace HB := Aside0.mk (HB.out.trans (hb.mono HB.out.size)); clear hb))
  have HL := Aside0.mk (Rr.lit HB.out [⟨⟨7, false, 0, 0, 0, 1, 0⟩, 0, 0⟩] (by simp))
  exact bodyPost_ret (by simp [results, Try.results6, go_sem]) rfl ⟨_, rfl, HL.out.row, HL.out.bel⟩
set_option maxHeartbeats 4000000 in
set_option maxRecDepth 100000 in
theorem rop_124 (w : World) : Calls Try.prog 6 #[.int .i64 124] w (ROut w [⟨⟨3, true, 1, 0, 0, 0, 0⟩, 0, 0⟩] 0) := by
  have HB := Aside0.mk (Below.refl w.heap.size w)
  go_enter Try.func6, Try.ntmps6
  go_wp2_with (first
      | (go_at_call 20; refine (ref_arity_yes (n := 124) rfl _).mono ?_; rintro e w' ⟨rfl, rfl⟩)
      | (go_at_call 21; refine (PIselOps.oublietteref20_is.calls _ _ _ _ _ _ _ _ _ _ _ _ _ _ _ _ _ rfl).mono ?_; rintro e w' ⟨rfl, hb⟩; replace HB := Aside0.mk (HB.out.trans (hb.mono HB.out.size)); clear hb)
      | (go_at_call 22; refine (PIselOps.oublietteref20_test.calls _ _ _ _ _ _ _ _ _ _ _ _ rfl).mono ?_; rintro e w' ⟨rfl, hb⟩; replace HB := Aside0.mk (HB.out.trans (hb.mono HB.out.size)); clear hb)
      | (go_at_call 24; refine (PIselOps.oublietteref20_alu.calls _ _ _ _ _ _ _ _ _ _ _ _ _ _ rfl).mono ?_; rintro e w' ⟨rfl, hb⟩; replace HB := Aside0.mk (HB.out.trans (hb.mono HB.out.size)); clear hb))
  have HL := Aside0.mk (Rr.lit HB.out [⟨⟨3, true, 1, 0, 0, 0, 0⟩, 0, 0⟩] (by simp))
  exact bodyPost_ret (by simp [results, Try.results6, go_sem]) rfl ⟨_, rfl, HL.out.row, HL.out.bel⟩
set_option maxHeartbeats 4000000 in
set_option maxRecDepth 100000 in
theorem rop_125 (w : World) : Calls Try.prog 6 #[.int .i64 125] w (ROut w [⟨⟨3, true, 1, 0, 0, 5, 0⟩, 0, 0⟩] 0) := by
  have HB := Aside0.mk (Below.refl w.heap.size w)
  go_enter Try.func6, Try.ntmps6
  go_wp2_with (first
      | (go_at_call 20; refine (ref_arity_yes (n := 125) rfl _).mono ?_; rintro e w' ⟨rfl, rfl⟩)
      | (go_at_call 21; refine (PIselOps.oublietteref20_is.calls _ _ _ _ _ _ _ _ _ _ _ _ _ _ _ _ _ rfl).mono ?_; rintro e w' ⟨rfl, hb⟩; replace HB := Aside0.mk (HB.out.trans (hb.mono HB.out.size)); clear hb)
      | (go_at_call 22; refine (PIselOps.oublietteref20_test.calls _ _ _ _ _ _ _ _ _ _ _ _ rfl).mono ?_; rintro e w' ⟨rfl, hb⟩; replace HB := Aside0.mk (HB.out.trans (hb.mono HB.out.size)); clear hb)
      | (go_at_call 24; refine (PIselOps.oublietteref20_alu.calls _ _ _ _ _ _ _ _ _ _ _ _ _ _ rfl).mono ?_; rintro e w' ⟨rfl, hb⟩; replace HB := Aside0.mk (HB.out.trans (hb.mono HB.out.size)); clear hb))
  have HL := Aside0.mk (Rr.lit HB.out [⟨⟨3, true, 1, 0, 0, 5, 0⟩, 0, 0⟩] (by simp))
  exact bodyPost_ret (by simp [results, Try.results6, go_sem]) rfl ⟨_, rfl, HL.out.row, HL.out.bel⟩
set_option maxHeartbeats 4000000 in
set_option maxRecDepth 100000 in
theorem rop_126 (w : World) : Calls Try.prog 6 #[.int .i64 126] w (ROut w [⟨⟨6, true, 0, 1, 0, 0, 0⟩, 0, 0⟩] 0) := by
  have HB := Aside0.mk (Below.refl w.heap.size w)
  go_enter Try.func6, Try.ntmps6
  go_wp2_with (first
      | (go_at_call 20; refine (ref_arity_yes (n := 126) rfl _).mono ?_; rintro e w' ⟨rfl, rfl⟩)
      | (go_at_call 21; refine (PIselOps.oublietteref20_is.calls _ _ _ _ _ _ _ _ _ _ _ _ _ _ _ _ _ rfl).mono ?_; rintro e w' ⟨rfl, hb⟩; replace HB := Aside0.mk (HB.out.trans (hb.mono HB.out.size)); clear hb)
      | (go_at_call 22; refine (PIselOps.oublietteref20_test.calls _ _ _ _ _ _ _ _ _ _ _ _ rfl).mono ?_; rintro e w' ⟨rfl, hb⟩; replace HB := Aside0.mk (HB.out.trans (hb.mono HB.out.size)); clear hb)
      | (go_at_call 24; refine (PIselOps.oublietteref20_alu.calls _ _ _ _ _ _ _ _ _ _ _ _ _ _ rfl).mono ?_; rintro e w' ⟨rfl, hb⟩; replace HB := Aside0.mk (HB.out.trans (hb.mono HB.out.size)); clear hb))
  have HL := Aside0.mk (Rr.lit HB.out [⟨⟨6, true, 0, 1, 0, 0, 0⟩, 0, 0⟩] (by simp))
  exact bodyPost_ret (by simp [results, Try.results6, go_sem]) rfl ⟨_, rfl, HL.out.row, HL.out.bel⟩
set_option maxHeartbeats 4000000 in
set_option maxRecDepth 100000 in
theorem rop_127 (w : World) : Calls Try.prog 6 #[.int .i64 127] w (ROut w [⟨⟨5, true, 1, 1, 0, 0, 0⟩, 0, 0⟩, ⟨⟨18, false, 0, 0, 0, 4, 0⟩, 0, 1⟩, ⟨⟨4, true, 0, 1, 0, 7, -1⟩, 0, 0⟩, ⟨⟨18, false, 0, 0, 0, 5, 0⟩, 0, 100⟩, ⟨⟨2, true, 2, 0, 0, 0, -9223372036854775808⟩, 0, 0⟩, ⟨⟨3, true, 2, 0, 0, 7, 0⟩, 0, 0⟩, ⟨⟨18, false, 0, 0, 0, 4, 0⟩, 0, 2⟩, ⟨⟨0, false, 0, 0, 0, 0, 0⟩, 100, 0⟩, ⟨⟨10, true, 0, 0, 0, 0, 0⟩, 0, 0⟩, ⟨⟨9, true, 0, 1, 0, 0, 0⟩, 0, 0⟩] 1) := by
  have HB := Aside0.mk (Below.refl w.heap.size w)
  go_enter Try.func6, Try.ntmps6
  go_wp2_with (first
      | (go_at_call 20; refine (ref_arity_yes (n := 127) rfl _).mono ?_; rintro e w' ⟨rfl, rfl⟩)
      | (go_at_call 21; refine (PIselOps.oublietteref20_is.calls _ _ _ _ _ _ _ _ _ _ _ _ _ _ _ _ _ rfl).mono ?_; rintro e w' ⟨rfl, hb⟩; replace HB := Aside0.mk (HB.out.trans (hb.mono HB.out.size)); clear hb)
      | (go_at_call 22; refine (PIselOps.oublietteref20_test.calls _ _ _ _ _ _ _ _ _ _ _ _ rfl).mono ?_; rintro e w' ⟨rfl, hb⟩; replace HB := Aside0.mk (HB.out.trans (hb.mono HB.out.size)); clear hb)
      | (go_at_call 24; refine (PIselOps.oublietteref20_alu.calls _ _ _ _ _ _ _ _ _ _ _ _ _ _ rfl).mono ?_; rintro e w' ⟨rfl, hb⟩; replace HB := Aside0.mk (HB.out.trans (hb.mono HB.out.size)); clear hb))
  refine (PIselOps.oublietteref20_divides.calls 3 0 true [⟨⟨5, true, 1, 1, 0, 0, 0⟩, 0, 0⟩, ⟨⟨18, false, 0, 0, 0, 4, 0⟩, 0, 1⟩, ⟨⟨4, true, 0, 1, 0, 7, -1⟩, 0, 0⟩, ⟨⟨18, false, 0, 0, 0, 5, 0⟩, 0, 100⟩, ⟨⟨2, true, 2, 0, 0, 0, -9223372036854775808⟩, 0, 0⟩, ⟨⟨3, true, 2, 0, 0, 7, 0⟩, 0, 0⟩, ⟨⟨18, false, 0, 0, 0, 4, 0⟩, 0, 2⟩, ⟨⟨0, false, 0, 0, 0, 0, 0⟩, 100, 0⟩, ⟨⟨10, true, 0, 0, 0, 0, 0⟩, 0, 0⟩, ⟨⟨9, true, 0, 1, 0, 0, 0⟩, 0, 0⟩] 1 _ (by kernel_rfl)).mono ?_
  rintro e w2 ⟨v2, rfl, hR2, hb2⟩
  replace HB := Aside0.mk (HB.out.trans (hb2.mono HB.out.size))
  have HR2 := Aside0.mk (Kd.R_lower hR2 (by first | exact Nat.le_refl _ | exact (Below.refl _ _).size))
  clear hR2 hb2
  go_wp2_with fail
  exact bodyPost_ret (by simp [results, Try.results6, go_sem]) rfl ⟨_, rfl, HR2.out, HB.out⟩
set_option maxHeartbeats 4000000 in
set_option maxRecDepth 100000 in
theorem rop_128 (w : World) : Calls Try.prog 6 #[.int .i64 128] w (ROut w [⟨⟨5, true, 1, 1, 0, 0, 0⟩, 0, 0⟩, ⟨⟨18, false, 0, 0, 0, 4, 0⟩, 0, 1⟩, ⟨⟨2, true, 2, 0, 0, 0, 0⟩, 0, 0⟩, ⟨⟨8, true, 0, 1, 0, 0, 0⟩, 0, 0⟩] 0) := by
  have HB := Aside0.mk (Below.refl w.heap.size w)
  go_enter Try.func6, Try.ntmps6
  go_wp2_with (first
      | (go_at_call 20; refine (ref_arity_yes (n := 128) rfl _).mono ?_; rintro e w' ⟨rfl, rfl⟩)
      | (go_at_call 21; refine (PIselOps.oublietteref20_is.calls _ _ _ _ _ _ _ _ _ _ _ _ _ _ _ _ _ rfl).mono ?_; rintro e w' ⟨rfl, hb⟩; replace HB := Aside0.mk (HB.out.trans (hb.mono HB.out.size)); clear hb)
      | (go_at_call 22; refine (PIselOps.oublietteref20_test.calls _ _ _ _ _ _ _ _ _ _ _ _ rfl).mono ?_; rintro e w' ⟨rfl, hb⟩; replace HB := Aside0.mk (HB.out.trans (hb.mono HB.out.size)); clear hb)
      | (go_at_call 24; refine (PIselOps.oublietteref20_alu.calls _ _ _ _ _ _ _ _ _ _ _ _ _ _ rfl).mono ?_; rintro e w' ⟨rfl, hb⟩; replace HB := Aside0.mk (HB.out.trans (hb.mono HB.out.size)); clear hb))
  refine (PIselOps.oublietteref20_divides.calls 3 1 true [⟨⟨5, true, 1, 1, 0, 0, 0⟩, 0, 0⟩, ⟨⟨18, false, 0, 0, 0, 4, 0⟩, 0, 1⟩, ⟨⟨2, true, 2, 0, 0, 0, 0⟩, 0, 0⟩, ⟨⟨8, true, 0, 1, 0, 0, 0⟩, 0, 0⟩] 0 _ (by kernel_rfl)).mono ?_
  rintro e w2 ⟨v2, rfl, hR2, hb2⟩
  replace HB := Aside0.mk (HB.out.trans (hb2.mono HB.out.size))
  have HR2 := Aside0.mk (Kd.R_lower hR2 (by first | exact Nat.le_refl _ | exact (Below.refl _ _).size))
  clear hR2 hb2
  go_wp2_with fail
  exact bodyPost_ret (by simp [results, Try.results6, go_sem]) rfl ⟨_, rfl, HR2.out, HB.out⟩
set_option maxHeartbeats 4000000 in
set_option maxRecDepth 100000 in
theorem rop_129 (w : World) : Calls Try.prog 6 #[.int .i64 129] w (ROut w [⟨⟨5, true, 1, 1, 0, 0, 0⟩, 0, 0⟩, ⟨⟨18, false, 0, 0, 0, 4, 0⟩, 0, 1⟩, ⟨⟨4, true, 0, 1, 0, 7, -1⟩, 0, 0⟩, ⟨⟨18, false, 0, 0, 0, 5, 0⟩, 0, 100⟩, ⟨⟨2, true, 2, 0, 0, 0, 0⟩, 0, 0⟩, ⟨⟨17, false, 0, 0, 0, 0, 0⟩, 0, 101⟩, ⟨⟨0, false, 0, 0, 0, 0, 0⟩, 100, 0⟩, ⟨⟨10, true, 0, 0, 0, 0, 0⟩, 0, 0⟩, ⟨⟨9, true, 0, 1, 0, 0, 0⟩, 0, 0⟩, ⟨⟨0, false, 0, 0, 0, 0, 0⟩, 101, 0⟩, ⟨⟨1, true, 2, 0, 0, 0, 0⟩, 0, 0⟩] 2) := by
  have HB := Aside0.mk (Below.refl w.heap.size w)
  go_enter Try.func6, Try.ntmps6
  go_wp2_with (first
      | (go_at_call 20; refine (ref_arity_yes (n := 129) rfl _).mono ?_; rintro e w' ⟨rfl, rfl⟩)
      | (go_at_call 21; refine (PIselOps.oublietteref20_is.calls _ _ _ _ _ _ _ _ _ _ _ _ _ _ _ _ _ rfl).mono ?_; rintro e w' ⟨rfl, hb⟩; replace HB := Aside0.mk (HB.out.trans (hb.mono HB.out.size)); clear hb)
      | (go_at_call 22; refine (PIselOps.oublietteref20_test.calls _ _ _ _ _ _ _ _ _ _ _ _ rfl).mono ?_; rintro e w' ⟨rfl, hb⟩; replace HB := Aside0.mk (HB.out.trans (hb.mono HB.out.size)); clear hb)
      | (go_at_call 24; refine (PIselOps.oublietteref20_alu.calls _ _ _ _ _ _ _ _ _ _ _ _ _ _ rfl).mono ?_; rintro e w' ⟨rfl, hb⟩; replace HB := Aside0.mk (HB.out.trans (hb.mono HB.out.size)); clear hb))
  refine (PIselOps.oublietteref20_divides.calls 3 2 true [⟨⟨5, true, 1, 1, 0, 0, 0⟩, 0, 0⟩, ⟨⟨18, false, 0, 0, 0, 4, 0⟩, 0, 1⟩, ⟨⟨4, true, 0, 1, 0, 7, -1⟩, 0, 0⟩, ⟨⟨18, false, 0, 0, 0, 5, 0⟩, 0, 100⟩, ⟨⟨2, true, 2, 0, 0, 0, 0⟩, 0, 0⟩, ⟨⟨17, false, 0, 0, 0, 0, 0⟩, 0, 101⟩, ⟨⟨0, false, 0, 0, 0, 0, 0⟩, 100, 0⟩, ⟨⟨10, true, 0, 0, 0, 0, 0⟩, 0, 0⟩, ⟨⟨9, true, 0, 1, 0, 0, 0⟩, 0, 0⟩, ⟨⟨0, false, 0, 0, 0, 0, 0⟩, 101, 0⟩, ⟨⟨1, true, 2, 0, 0, 0, 0⟩, 0, 0⟩] 2 _ (by kernel_rfl)).mono ?_
  rintro e w2 ⟨v2, rfl, hR2, hb2⟩
  replace HB := Aside0.mk (HB.out.trans (hb2.mono HB.out.size))
  have HR2 := Aside0.mk (Kd.R_lower hR2 (by first | exact Nat.le_refl _ | exact (Below.refl _ _).size))
  clear hR2 hb2
  go_wp2_with fail
  exact bodyPost_ret (by simp [results, Try.results6, go_sem]) rfl ⟨_, rfl, HR2.out, HB.out⟩
set_option maxHeartbeats 4000000 in
set_option maxRecDepth 100000 in
theorem rop_130 (w : World) : Calls Try.prog 6 #[.int .i64 130] w (ROut w [⟨⟨5, true, 1, 1, 0, 0, 0⟩, 0, 0⟩, ⟨⟨18, false, 0, 0, 0, 4, 0⟩, 0, 1⟩, ⟨⟨2, true, 2, 0, 0, 0, 0⟩, 0, 0⟩, ⟨⟨8, true, 0, 1, 0, 0, 0⟩, 0, 0⟩, ⟨⟨1, true, 2, 0, 0, 0, 0⟩, 0, 0⟩] 0) := by
  have HB := Aside0.mk (Below.refl w.heap.size w)
  go_enter Try.func6, Try.ntmps6
  go_wp2_with (first
      | (go_at_call 20; refine (ref_arity_yes (n := 130) rfl _).mono ?_; rintro e w' ⟨rfl, rfl⟩)
      | (go_at_call 21; refine (PIselOps.oublietteref20_is.calls _ _ _ _ _ _ _ _ _ _ _ _ _ _ _ _ _ rfl).mono ?_; rintro e w' ⟨rfl, hb⟩; replace HB := Aside0.mk (HB.out.trans (hb.mono HB.out.size)); clear hb)
      | (go_at_call 22; refine (PIselOps.oublietteref20_test.calls _ _ _ _ _ _ _ _ _ _ _ _ rfl).mono ?_; rintro e w' ⟨rfl, hb⟩; replace HB := Aside0.mk (HB.out.trans (hb.mono HB.out.size)); clear hb)
      | (go_at_call 24; refine (PIselOps.oublietteref20_alu.calls _ _ _ _ _ _ _ _ _ _ _ _ _ _ rfl).mono ?_; rintro e w' ⟨rfl, hb⟩; replace HB := Aside0.mk (HB.out.trans (hb.mono HB.out.size)); clear hb))
  refine (PIselOps.oublietteref20_divides.calls 3 3 true [⟨⟨5, true, 1, 1, 0, 0, 0⟩, 0, 0⟩, ⟨⟨18, false, 0, 0, 0, 4, 0⟩, 0, 1⟩, ⟨⟨2, true, 2, 0, 0, 0, 0⟩, 0, 0⟩, ⟨⟨8, true, 0, 1, 0, 0, 0⟩, 0, 0⟩, ⟨⟨1, true, 2, 0, 0, 0, 0⟩, 0, 0⟩] 0 _ (by kernel_rfl)).mono ?_
  rintro e w2 ⟨v2, rfl, hR2, hb2⟩
  replace HB := Aside0.mk (HB.out.trans (hb2.mono HB.out.size))
  have HR2 := Aside0.mk (Kd.R_lower hR2 (by first | exact Nat.le_refl _ | exact (Below.refl _ _).size))
  clear hR2 hb2
  go_wp2_with fail
  exact bodyPost_ret (by simp [results, Try.results6, go_sem]) rfl ⟨_, rfl, HR2.out, HB.out⟩
set_option maxHeartbeats 4000000 in
set_option maxRecDepth 100000 in
theorem rop_131 (w : World) : Calls Try.prog 6 #[.int .i64 131] w (ROut w [⟨⟨3, true, 1, 0, 0, 4, 0⟩, 0, 0⟩] 0) := by
  have HB := Aside0.mk (Below.refl w.heap.size w)
  go_enter Try.func6, Try.ntmps6
  go_wp2_with (first
      | (go_at_call 20; refine (ref_arity_yes (n := 131) rfl _).mono ?_; rintro e w' ⟨rfl, rfl⟩)
      | (go_at_call 21; refine (PIselOps.oublietteref20_is.calls _ _ _ _ _ _ _ _ _ _ _ _ _ _ _ _ _ rfl).mono ?_; rintro e w' ⟨rfl, hb⟩; replace HB := Aside0.mk (HB.out.trans (hb.mono HB.out.size)); clear hb)
      | (go_at_call 22; refine (PIselOps.oublietteref20_test.calls _ _ _ _ _ _ _ _ _ _ _ _ rfl).mono ?_; rintro e w' ⟨rfl, hb⟩; replace HB := Aside0.mk (HB.out.trans (hb.mono HB.out.size)); clear hb)
      | (go_at_call 24; refine (PIselOps.oublietteref20_alu.calls _ _ _ _ _ _ _ _ _ _ _ _ _ _ rfl).mono ?_; rintro e w' ⟨rfl, hb⟩; replace HB := Aside0.mk (HB.out.trans (hb.mono HB.out.size)); clear hb))
  have HL := Aside0.mk (Rr.lit HB.out [⟨⟨3, true, 1, 0, 0, 4, 0⟩, 0, 0⟩] (by simp))
  exact bodyPost_ret (by simp [results, Try.results6, go_sem]) rfl ⟨_, rfl, HL.out.row, HL.out.bel⟩
set_option maxHeartbeats 4000000 in
set_option maxRecDepth 100000 in
theorem rop_132 (w : World) : Calls Try.prog 6 #[.int .i64 132] w (ROut w [⟨⟨3, true, 1, 0, 0, 1, 0⟩, 0, 0⟩] 0) := by
  have HB := Aside0.mk (Below.refl w.heap.size w)
  go_enter Try.func6, Try.ntmps6
  go_wp2_with (first
      | (go_at_call 20; refine (ref_arity_yes (n := 132) rfl _).mono ?_; rintro e w' ⟨rfl, rfl⟩)
      | (go_at_call 21; refine (PIselOps.oublietteref20_is.calls _ _ _ _ _ _ _ _ _ _ _ _ _ _ _ _ _ rfl).mono ?_; rintro e w' ⟨rfl, hb⟩; replace HB := Aside0.mk (HB.out.trans (hb.mono HB.out.size)); clear hb)
      | (go_at_call 22; refine (PIselOps.oublietteref20_test.calls _ _ _ _ _ _ _ _ _ _ _ _ rfl).mono ?_; rintro e w' ⟨rfl, hb⟩; replace HB := Aside0.mk (HB.out.trans (hb.mono HB.out.size)); clear hb)
      | (go_at_call 24; refine (PIselOps.oublietteref20_alu.calls _ _ _ _ _ _ _ _ _ _ _ _ _ _ rfl).mono ?_; rintro e w' ⟨rfl, hb⟩; replace HB := Aside0.mk (HB.out.trans (hb.mono HB.out.size)); clear hb))
  have HL := Aside0.mk (Rr.lit HB.out [⟨⟨3, true, 1, 0, 0, 1, 0⟩, 0, 0⟩] (by simp))
  exact bodyPost_ret (by simp [results, Try.results6, go_sem]) rfl ⟨_, rfl, HL.out.row, HL.out.bel⟩
set_option maxHeartbeats 4000000 in
set_option maxRecDepth 100000 in
theorem rop_133 (w : World) : Calls Try.prog 6 #[.int .i64 133] w (ROut w [⟨⟨3, true, 1, 0, 0, 6, 0⟩, 0, 0⟩] 0) := by
  have HB := Aside0.mk (Below.refl w.heap.size w)
  go_enter Try.func6, Try.ntmps6
  go_wp2_with (first
      | (go_at_call 20; refine (ref_arity_yes (n := 133) rfl _).mono ?_; rintro e w' ⟨rfl, rfl⟩)
      | (go_at_call 21; refine (PIselOps.oublietteref20_is.calls _ _ _ _ _ _ _ _ _ _ _ _ _ _ _ _ _ rfl).mono ?_; rintro e w' ⟨rfl, hb⟩; replace HB := Aside0.mk (HB.out.trans (hb.mono HB.out.size)); clear hb)
      | (go_at_call 22; refine (PIselOps.oublietteref20_test.calls _ _ _ _ _ _ _ _ _ _ _ _ rfl).mono ?_; rintro e w' ⟨rfl, hb⟩; replace HB := Aside0.mk (HB.out.trans (hb.mono HB.out.size)); clear hb)
      | (go_at_call 24; refine (PIselOps.oublietteref20_alu.calls _ _ _ _ _ _ _ _ _ _ _ _ _ _ rfl).mono ?_; rintro e w' ⟨rfl, hb⟩; replace HB := Aside0.mk (HB.out.trans (hb.mono HB.out.size)); clear hb))
  have HL := Aside0.mk (Rr.lit HB.out [⟨⟨3, true, 1, 0, 0, 6, 0⟩, 0, 0⟩] (by simp))
  exact bodyPost_ret (by simp [results, Try.results6, go_sem]) rfl ⟨_, rfl, HL.out.row, HL.out.bel⟩
set_option maxHeartbeats 4000000 in
set_option maxRecDepth 100000 in
theorem rop_134 (w : World) : Calls Try.prog 6 #[.int .i64 134] w (ROut w [⟨⟨7, true, 0, 0, 0, 4, 0⟩, 0, 0⟩] 0) := by
  have HB := Aside0.mk (Below.refl w.heap.size w)
  go_enter Try.func6, Try.ntmps6
  go_wp2_with (first
      | (go_at_call 20; refine (ref_arity_yes (n := 134) rfl _).mono ?_; rintro e w' ⟨rfl, rfl⟩)
      | (go_at_call 21; refine (PIselOps.oublietteref20_is.calls _ _ _ _ _ _ _ _ _ _ _ _ _ _ _ _ _ rfl).mono ?_; rintro e w' ⟨rfl, hb⟩; replace HB := Aside0.mk (HB.out.trans (hb.mono HB.out.size)); clear hb)
      | (go_at_call 22; refine (PIselOps.oublietteref20_test.calls _ _ _ _ _ _ _ _ _ _ _ _ rfl).mono ?_; rintro e w' ⟨rfl, hb⟩; replace HB := Aside0.mk (HB.out.trans (hb.mono HB.out.size)); clear hb)
      | (go_at_call 24; refine (PIselOps.oublietteref20_alu.calls _ _ _ _ _ _ _ _ _ _ _ _ _ _ rfl).mono ?_; rintro e w' ⟨rfl, hb⟩; replace HB := Aside0.mk (HB.out.trans (hb.mono HB.out.size)); clear hb))
  have HL := Aside0.mk (Rr.lit HB.out [⟨⟨7, true, 0, 0, 0, 4, 0⟩, 0, 0⟩] (by simp))
  exact bodyPost_ret (by simp [results, Try.results6, go_sem]) rfl ⟨_, rfl, HL.out.row, HL.out.bel⟩
set_option maxHeartbeats 4000000 in
set_option maxRecDepth 100000 in
theorem rop_135 (w : World) : Calls Try.prog 6 #[.int .i64 135] w (ROut w [⟨⟨7, true, 0, 0, 0, 7, 0⟩, 0, 0⟩] 0) := by
  have HB := Aside0.mk (Below.refl w.heap.size w)
  go_enter Try.func6, Try.ntmps6
  go_wp2_with (first
      | (go_at_call 20; refine (ref_arity_yes (n := 135) rfl _).mono ?_; rintro e w' ⟨rfl, rfl⟩)
      | (go_at_call 21; refine (PIselOps.oublietteref20_is.calls _ _ _ _ _ _ _ _ _ _ _ _ _ _ _ _ _ rfl).mono ?_; rintro e w' ⟨rfl, hb⟩; replace HB := Aside0.mk (HB.out.trans (hb.mono HB.out.size)); clear hb)
      | (go_at_call 22; refine (PIselOps.oublietteref20_test.calls _ _ _ _ _ _ _ _ _ _ _ _ rfl).mono ?_; rintro e w' ⟨rfl, hb⟩; replace HB := Aside0.mk (HB.out.trans (hb.mono HB.out.size)); clear hb)
      | (go_at_call 24; refine (PIselOps.oublietteref20_alu.calls _ _ _ _ _ _ _ _ _ _ _ _ _ _ rfl).mono ?_; rintro e w' ⟨rfl, hb⟩; replace HB := Aside0.mk (HB.out.trans (hb.mono HB.out.size)); clear hb))
  have HL := Aside0.mk (Rr.lit HB.out [⟨⟨7, true, 0, 0, 0, 7, 0⟩, 0, 0⟩] (by simp))
  exact bodyPost_ret (by simp [results, Try.results6, go_sem]) rfl ⟨_, rfl, HL.out.row, HL.out.bel⟩
set_option maxHeartbeats 4000000 in
set_option maxRecDepth 100000 in
theorem rop_136 (w : World) : Calls Try.prog 6 #[.int .i64 136] w (ROut w [⟨⟨7, true, 0, 0, 0, 5, 0⟩, 0, 0⟩] 0) := by
  have HB := Aside0.mk (Below.refl w.heap.size w)
  go_enter Try.func6, Try.ntmps6
  go_wp2_with (first
      | (go_at_call 20; refine (ref_arity_yes (n := 136) rfl _).mono ?_; rintro e w' ⟨rfl, rfl⟩)
      | (go_at_call 21; refine (PIselOps.oublietteref20_is.calls _ _ _ _ _ _ _ _ _ _ _ _ _ _ _ _ _ rfl).mono ?_; rintro e w' ⟨rfl, hb⟩; replace HB := Aside0.mk (HB.out.trans (hb.mono HB.out.size)); clear hb)
      | (go_at_call 22; refine (PIselOps.oublietteref20_test.calls _ _ _ _ _ _ _ _ _ _ _ _ rfl).mono ?_; rintro e w' ⟨rfl, hb⟩; replace HB := Aside0.mk (HB.out.trans (hb.mono HB.out.size)); clear hb)
      | (go_at_call 24; refine (PIselOps.oublietteref20_alu.calls _ _ _ _ _ _ _ _ _ _ _ _ _ _ rfl).mono ?_; rintro e w' ⟨rfl, hb⟩; replace HB := Aside0.mk (HB.out.trans (hb.mono HB.out.size)); clear hb))
  have HL := Aside0.mk (Rr.lit HB.out [⟨⟨7, true, 0, 0, 0, 5, 0⟩, 0, 0⟩] (by simp))
  exact bodyPost_ret (by simp [results, Try.results6, go_sem]) rfl ⟨_, rfl, HL.out.row, HL.out.bel⟩
set_option maxHeartbeats 4000000 in
set_option maxRecDepth 100000 in
theorem rop_137 (w : World) : Calls Try.prog 6 #[.int .i64 137] w (ROut w [⟨⟨7, true, 0, 0, 0, 0, 0⟩, 0, 0⟩] 0) := by
  have HB := Aside0.mk (Below.refl w.heap.size w)
  go_enter Try.func6, Try.ntmps6
  go_wp2_with (first
      | (go_at_call 20; refine (ref_arity_yes (n := 137) rfl _).mono ?_; rintro e w' ⟨rfl, rfl⟩)
      | (go_at_call 21; refine (PIselOps.oublietteref20_is.calls _ _ _ _ _ _ _ _ _ _ _ _ _ _ _ _ _ rfl).mono ?_; rintro e w' ⟨rfl, hb⟩; replace HB := Aside0.mk (HB.out.trans (hb.mono HB.out.size)); clear hb)
      | (go_at_call 22; refine (PIselOps.oublietteref20_test.calls _ _ _ _ _ _ _ _ _ _ _ _ rfl).mono ?_; rintro e w' ⟨rfl, hb⟩; replace HB := Aside0.mk (HB.out.trans (hb.mono HB.out.size)); clear hb)
      | (go_at_call 24; refine (PIselOps.oublietteref20_alu.calls _ _ _ _ _ _ _ _ _ _ _ _ _ _ rfl).mono ?_; rintro e w' ⟨rfl, hb⟩; replace HB := Aside0.mk (HB.out.trans (hb.mono HB.out.size)); clear hb))
  have HL := Aside0.mk (Rr.lit HB.out [⟨⟨7, true, 0, 0, 0, 0, 0⟩, 0, 0⟩] (by simp))
  exact bodyPost_ret (by simp [results, Try.results6, go_sem]) rfl ⟨_, rfl, HL.out.row, HL.out.bel⟩
set_option maxHeartbeats 4000000 in
set_option maxRecDepth 100000 in
theorem rop_138 (w : World) : Calls Try.prog 6 #[.int .i64 138] w (ROut w [⟨⟨7, true, 0, 0, 0, 1, 0⟩, 0, 0⟩] 0) := by
  have HB := Aside0.mk (Below.refl w.heap.size w)
  go_enter Try.func6, Try.ntmps6
  go_wp2_with (first
      | (go_at_call 20; refine (ref_arity_yes (n := 138) rfl _).mono ?_; rintro e w' ⟨rfl, rfl⟩)
      | (go_at_call 21; refine (PIselOps.oublietteref20_is.calls _ _ _ _ _ _ _ _ _ _ _ _ _ _ _ _ _ rfl).mono ?_; rintro e w' ⟨rfl, hb⟩; replace HB := Aside0.mk (HB.out.trans (hb.mono HB.out.size)); clear hb)
      | (go_at_call 22; refine (PIselOps.oublietteref20_test.calls _ _ _ _ _ _ _ _ _ _ _ _ rfl).mono ?_; rintro e w' ⟨rfl, hb⟩; replace HB := Aside0.mk (HB.out.trans (hb.mono HB.out.size)); clear hb)
      | (go_at_call 24; refine (PIselOps.oublietteref20_alu.calls _ _ _ _ _ _ _ _ _ _ _ _ _ _ rfl).mono ?_; rintro e w' ⟨rfl, hb⟩; replace HB := Aside0.mk (HB.out.trans (hb.mono HB.out.size)); clear hb))
  have HL := Aside0.mk (Rr.lit HB.out [⟨⟨7, true, 0, 0, 0, 1, 0⟩, 0, 0⟩] (by simp))
  exact bodyPost_ret (by simp [results, Try.results6, go_sem]) rfl ⟨_, rfl, HL.out.row, HL.out.bel⟩
set_option maxHeartbeats 4000000 in
set_option maxRecDepth 100000 in
theorem rop_167 (w : World) : Calls Try.prog 6 #[.int .i64 167] w (ROut w [⟨⟨1, false, 0, 0, 0, 0, 0⟩, 0, 0⟩] 0) := by
  have HB := Aside0.mk (Below.refl w.heap.size w)
  go_enter Try.func6, Try.ntmps6
  go_wp2_with (first
      | (go_at_call 20; refine (ref_arity_yes (n := 167) rfl _).mono ?_; rintro e w' ⟨rfl, rfl⟩)
      | (go_at_call 21; refine (PIselOps.oublietteref20_is.calls _ _ _ _ _ _ _ _ _ _ _ _ _ _ _ _ _ rfl).mono ?_; rintro e w' ⟨rfl, hb⟩; replace HB := Aside0.mk (HB.out.trans (hb.mono HB.out.size)); clear hb)
      | (go_at_call 22; refine (PIselOps.oublietteref20_test.calls _ _ _ _ _ _ _ _ _ _ _ _ rfl).mono ?_; rintro e w' ⟨rfl, hb⟩; replace HB := Aside0.mk (HB.out.trans (hb.mono HB.out.size)); clear hb)
      | (go_at_call 24; refine (PIselOps.oublietteref20_alu.calls _ _ _ _ _ _ _ _ _ _ _ _ _ _ rfl).mono ?_; rintro e w' ⟨rfl, hb⟩; replace HB := Aside0.mk (HB.out.trans (hb.mono HB.out.size)); clear hb))
  have HL := Aside0.mk (Rr.lit HB.out [⟨⟨1, false, 0, 0, 0, 0, 0⟩, 0, 0⟩] (by simp))
  exact bodyPost_ret (by simp [results, Try.results6, go_sem]) rfl ⟨_, rfl, HL.out.row, HL.out.bel⟩
set_option maxHeartbeats 4000000 in
set_option maxRecDepth 100000 in
theorem rop_172 (w : World) : Calls Try.prog 6 #[.int .i64 172] w (ROut w [⟨⟨16, true, 0, 0, 0, 0, 0⟩, 0, 0⟩] 0) := by
  have HB := Aside0.mk (Below.refl w.heap.size w)
  go_enter Try.func6, Try.ntmps6
  go_wp2_with (first
      | (go_at_call 20; refine (ref_arity_yes (n := 172) rfl _).mono ?_; rintro e w' ⟨rfl, rfl⟩)
      | (go_at_call 21; refine (PIselOps.oublietteref20_is.calls _ _ _ _ _ _ _ _ _ _ _ _ _ _ _ _ _ rfl).mono ?_; rintro e w' ⟨rfl, hb⟩; replace HB := Aside0.mk (HB.out.trans (hb.mono HB.out.size)); clear hb)
      | (go_at_call 22; refine (PIselOps.oublietteref20_test.calls _ _ _ _ _ _ _ _ _ _ _ _ rfl).mono ?_; rintro e w' ⟨rfl, hb⟩; replace HB := Aside0.mk (HB.out.trans (hb.mono HB.out.size)); clear hb)
      | (go_at_call 24; refine (PIselOps.oublietteref20_alu.calls _ _ _ _ _ _ _ _ _ _ _ _ _ _ rfl).mono ?_; rintro e w' ⟨rfl, hb⟩; replace HB := Aside0.mk (HB.out.trans (hb.mono HB.out.size)); clear hb))
  have HL := Aside0.mk (Rr.lit HB.out [⟨⟨16, true, 0, 0, 0, 0, 0⟩, 0, 0⟩] (by simp))
  exact bodyPost_ret (by simp [results, Try.results6, go_sem]) rfl ⟨_, rfl, HL.out.row, HL.out.bel⟩
set_option maxHeartbeats 4000000 in
set_option maxRecDepth 100000 in
theorem rop_173 (w : World) : Calls Try.prog 6 #[.int .i64 173] w (ROut w [⟨⟨1, false, 0, 0, 0, 0, 0⟩, 0, 0⟩] 0) := by
  have HB := Aside0.mk (Below.refl w.heap.size w)
  go_enter Try.func6, Try.ntmps6
  go_wp2_with (first
      | (go_at_call 20; refine (ref_arity_yes (n := 173) rfl _).mono ?_; rintro e w' ⟨rfl, rfl⟩)
      | (go_at_call 21; refine (PIselOps.oublietteref20_is.calls _ _ _ _ _ _ _ _ _ _ _ _ _ _ _ _ _ rfl).mono ?_; rintro e w' ⟨rfl, hb⟩; replace HB := Aside0.mk (HB.out.trans (hb.mono HB.out.size)); clear hb)
      | (go_at_call 22; refine (PIselOps.oublietteref20_test.calls _ _ _ _ _ _ _ _ _ _ _ _ rfl).mono ?_; rintro e w' ⟨rfl, hb⟩; replace HB := Aside0.mk (HB.out.trans (hb.mono HB.out.size)); clear hb)
      | (go_at_call 24; refine (PIselOps.oublietteref20_alu.calls _ _ _ _ _ _ _ _ _ _ _ _ _ _ rfl).mono ?_; rintro e w' ⟨rfl, hb⟩; replace HB := Aside0.mk (HB.out.trans (hb.mono HB.out.size)); clear hb))
  have HL := Aside0.mk (Rr.lit HB.out [⟨⟨1, false, 0, 0, 0, 0, 0⟩, 0, 0⟩] (by simp))
  exact bodyPost_ret (by simp [results, Try.results6, go_sem]) rfl ⟨_, rfl, HL.out.row, HL.out.bel⟩
end Go.Proofs.Ytngpmijbjhpfhaa.Isel
