/- isel's division of signed numbers. -/
import Derived.Test.YtngpmijbjhpfhaaIselS
namespace Go.Proofs.Ytngpmijbjhpfhaa.Isel
open Go.RowKit Go.Proofs.YtngpmijbjhpfhaaW.PrintWords Go.Proofs.YtngpmijbjhpfhaaW.PrintLast Go.Proofs.Ytngpmijbjhpfhaa.Mem
set_option linter.unusedVariables false
set_option linter.unusedSimpArgs false
set_option maxHeartbeats 4000000 in
set_option maxRecDepth 100000 in
theorem signed_109_n {w W : World} {g : Nat} {v : Value} (H : Cd w W g v []) : Calls Try.prog 15 #[.pointer (some ⟨g, 0, none⟩), .int .i64 109, .bool false] W (SgnOut w W g [⟨⟨5, false, 1, 1, 0, 0, 0⟩, 0, 0⟩, ⟨⟨18, false, 0, 0, 0, 4, 0⟩, 0, 1⟩, ⟨⟨4, false, 0, 1, 0, 7, -1⟩, 0, 0⟩, ⟨⟨18, false, 0, 0, 0, 5, 0⟩, 0, 100⟩, ⟨⟨2, true, 2, 0, 0, 0, 2147483648⟩, 0, 0⟩, ⟨⟨3, false, 2, 0, 0, 7, 0⟩, 0, 0⟩, ⟨⟨18, false, 0, 0, 0, 4, 0⟩, 0, 2⟩, ⟨⟨0, false, 0, 0, 0, 0, 0⟩, 100, 0⟩, ⟨⟨10, false, 0, 0, 0, 0, 0⟩, 0, 0⟩, ⟨⟨9, false, 0, 1, 0, 0, 0⟩, 0, 0⟩] 1) := by
  have HC := Aside0.mk (H.alloc (.cells ([⟨10, false, 0, 0, 0, 0, 0⟩, ⟨9, false, 0, 1, 0, 0, 0⟩].flatMap X.cells).toArray 40))
  have HD := Aside0.mk (blk_new W (.cells ([⟨10, false, 0, 0, 0, 0, 0⟩, ⟨9, false, 0, 1, 0, 0, 0⟩].flatMap X.cells).toArray 40))
  clear H
  go_enter Try.func15, Try.ntmps15
  go_wp2_with (first
      | (go_at_call 19; refine (alu_calls _ _ _ _  _).mono ?_; rintro e w' ⟨rfl, hb⟩; replace HC := Aside0.mk (HC.out.below hb); replace HD := Aside0.mk (Kp.of_below hb _ _ _ (by decide) (by decide) HD.out); clear hb)
      | (go_at_call 33; refine (alui_calls _ _ _ _  _).mono ?_; rintro e w' ⟨rfl, hb⟩; replace HC := Aside0.mk (HC.out.below hb); replace HD := Aside0.mk (Kp.of_below hb _ _ _ (by decide) (by decide) HD.out); clear hb)
      | (go_at_call 18; refine (num_calls _ _  _).mono ?_; rintro e w' ⟨rfl, hb⟩; replace HC := Aside0.mk (HC.out.below hb); replace HD := Aside0.mk (Kp.of_below hb _ _ _ (by decide) (by decide) HD.out); clear hb)
      | (go_at_call 16; refine (test_calls _ _  _).mono ?_; rintro e w' ⟨rfl, hb⟩; replace HC := Aside0.mk (HC.out.below hb); replace HD := Aside0.mk (Kp.of_below hb _ _ _ (by decide) (by decide) HD.out); clear hb))
  refine (x_calls (HC.out.alloc _) _ [⟨5, false, 1, 1, 0, 0, 0⟩] 1 (blk_new _ _) (by simp)).mono ?_
  rintro e W1 ⟨rfl, v1, hC, hK⟩
  replace hC := Aside0.mk hC
  replace HD := Aside0.mk (((Kp.of_below ((Below.refl _ _).alloc (Nat.le_refl _) _)).trans hK) _ _ _ (by decide) (by decide) HD.out)
  clear HC hK
  have HC := hC
  clear hC
  simp only [List.nil_append, List.cons_append, List.map_cons, List.map_nil, List.append_nil, is, zX] at HC
  go_wp2_with (first
      | (go_at_call 19; refine (alu_calls _ _ _ _  _).mono ?_; rintro e w' ⟨rfl, hb⟩; replace HC := Aside0.mk (HC.out.below hb); replace HD := Aside0.mk (Kp.of_below hb _ _ _ (by decide) (by decide) HD.out); clear hb)
      | (go_at_call 33; refine (alui_calls _ _ _ _  _).mono ?_; rintro e w' ⟨rfl, hb⟩; replace HC := Aside0.mk (HC.out.below hb); replace HD := Aside0.mk (Kp.of_below hb _ _ _ (by decide) (by decide) HD.out); clear hb)
      | (go_at_call 18; refine (num_calls _ _  _).mono ?_; rintro e w' ⟨rfl, hb⟩; replace HC := Aside0.mk (HC.out.below hb); replace HD := Aside0.mk (Kp.of_below hb _ _ _ (by decide) (by decide) HD.out); clear hb)
      | (go_at_call 16; refine (test_calls _ _  _).mono ?_; rintro e w' ⟨rfl, hb⟩; replace HC := Aside0.mk (HC.out.below hb); replace HD := Aside0.mk (Kp.of_below hb _ _ _ (by decide) (by decide) HD.out); clear hb))
  refine (when_calls HC.out 4 1 (by simp)).mono ?_
  rintro e W2 ⟨rfl, v2, hC, hK⟩
  replace hC := Aside0.mk hC
  replace HD := Aside0.mk ((hK) _ _ _ (by decide) (by decide) HD.out)
  clear HC hK
  have HC := hC
  clear hC
  simp only [List.nil_append, List.cons_append, List.map_cons, List.map_nil, List.append_nil, is, zX] at HC
  go_wp2_with (first
      | (go_at_call 19; refine (alu_calls _ _ _ _  _).mono ?_; rintro e w' ⟨rfl, hb⟩; replace HC := Aside0.mk (HC.out.below hb); replace HD := Aside0.mk (Kp.of_below hb _ _ _ (by decide) (by decide) HD.out); clear hb)
      | (go_at_call 33; refine (alui_calls _ _ _ _  _).mono ?_; rintro e w' ⟨rfl, hb⟩; replace HC := Aside0.mk (HC.out.below hb); replace HD := Aside0.mk (Kp.of_below hb _ _ _ (by decide) (by decide) HD.out); clear hb)
      | (go_at_call 18; refine (num_calls _ _  _).mono ?_; rintro e w' ⟨rfl, hb⟩; replace HC := Aside0.mk (HC.out.below hb); replace HD := Aside0.mk (Kp.of_below hb _ _ _ (by decide) (by decide) HD.out); clear hb)
      | (go_at_call 16; refine (test_calls _ _  _).mono ?_; rintro e w' ⟨rfl, hb⟩; replace HC := Aside0.mk (HC.out.below hb); replace HD := Aside0.mk (Kp.of_below hb _ _ _ (by decide) (by decide) HD.out); clear hb))
  refine (x_calls (HC.out.alloc _) _ [⟨4, false, 0, 1, 0, 7, -1⟩] 1 (blk_new _ _) (by simp)).mono ?_
  rintro e W3 ⟨rfl, v3, hC, hK⟩
  replace hC := Aside0.mk hC
  replace HD := Aside0.mk (((Kp.of_below ((Below.refl _ _).alloc (Nat.le_refl _) _)).trans hK) _ _ _ (by decide) (by decide) HD.out)
  clear HC hK
  have HC := hC
  clear hC
  simp only [List.nil_append, List.cons_append, List.map_cons, List.map_nil, List.append_nil, is, zX] at HC
  go_wp2_with (first
      | (go_at_call 19; refine (alu_calls _ _ _ _  _).mono ?_; rintro e w' ⟨rfl, hb⟩; replace HC := Aside0.mk (HC.out.below hb); replace HD := Aside0.mk (Kp.of_below hb _ _ _ (by decide) (by decide) HD.out); clear hb)
      | (go_at_call 33; refine (alui_calls _ _ _ _  _).mono ?_; rintro e w' ⟨rfl, hb⟩; replace HC := Aside0.mk (HC.out.below hb); replace HD := Aside0.mk (Kp.of_below hb _ _ _ (by decide) (by decide) HD.out); clear hb)
      | (go_at_call 18; refine (num_calls _ _  _).mono ?_; rintro e w' ⟨rfl, hb⟩; replace HC := Aside0.mk (HC.out.below hb); replace HD := Aside0.mk (Kp.of_below hb _ _ _ (by decide) (by decide) HD.out); clear hb)
      | (go_at_call 16; refine (test_calls _ _  _).mono ?_; rintro e w' ⟨rfl, hb⟩; replace HC := Aside0.mk (HC.out.below hb); replace HD := Aside0.mk (Kp.of_below hb _ _ _ (by decide) (by decide) HD.out); clear hb))
  refine (when_calls HC.out 5 100 (by simp)).mono ?_
  rintro e W4 ⟨rfl, v4, hC, hK⟩
  replace hC := Aside0.mk hC
  replace HD := Aside0.mk ((hK) _ _ _ (by decide) (by decide) HD.out)
  clear HC hK
  have HC := hC
  clear hC
  simp only [List.nil_append, List.cons_append, List.map_cons, List.map_nil, List.append_nil, is, zX] at HC
  go_wp2_with (first
      | (go_at_call 19; refine (alu_calls _ _ _ _  _).mono ?_; rintro e w' ⟨rfl, hb⟩; replace HC := Aside0.mk (HC.out.below hb); replace HD := Aside0.mk (Kp.of_below hb _ _ _ (by decide) (by decide) HD.out); clear hb)
      | (go_at_call 33; refine (alui_calls _ _ _ _  _).mono ?_; rintro e w' ⟨rfl, hb⟩; replace HC := Aside0.mk (HC.out.below hb); replace HD := Aside0.mk (Kp.of_below hb _ _ _ (by decide) (by decide) HD.out); clear hb)
      | (go_at_call 18; refine (num_calls _ _  _).mono ?_; rintro e w' ⟨rfl, hb⟩; replace HC := Aside0.mk (HC.out.below hb); replace HD := Aside0.mk (Kp.of_below hb _ _ _ (by decide) (by decide) HD.out); clear hb)
      | (go_at_call 16; refine (test_calls _ _  _).mono ?_; rintro e w' ⟨rfl, hb⟩; replace HC := Aside0.mk (HC.out.below hb); replace HD := Aside0.mk (Kp.of_below hb _ _ _ (by decide) (by decide) HD.out); clear hb))
  refine (x_calls (HC.out.alloc _) _ [⟨2, true, 2, 0, 0, 0, 2147483648⟩, ⟨3, false, 2, 0, 0, 7, 0⟩] 2 (blk_new _ _) (by simp)).mono ?_
  rintro e W5 ⟨rfl, v5, hC, hK⟩
  replace hC := Aside0.mk hC
  replace HD := Aside0.mk (((Kp.of_below ((Below.refl _ _).alloc (Nat.le_refl _) _)).trans hK) _ _ _ (by decide) (by decide) HD.out)
  clear HC hK
  have HC := hC
  clear hC
  simp only [List.nil_append, List.cons_append, List.map_cons, List.map_nil, List.append_nil, is, zX] at HC
  go_wp2_with (first
      | (go_at_call 19; refine (alu_calls _ _ _ _  _).mono ?_; rintro e w' ⟨rfl, hb⟩; replace HC := Aside0.mk (HC.out.below hb); replace HD := Aside0.mk (Kp.of_below hb _ _ _ (by decide) (by decide) HD.out); clear hb)
      | (go_at_call 33; refine (alui_calls _ _ _ _  _).mono ?_; rintro e w' ⟨rfl, hb⟩; replace HC := Aside0.mk (HC.out.below hb); replace HD := Aside0.mk (Kp.of_below hb _ _ _ (by decide) (by decide) HD.out); clear hb)
      | (go_at_call 18; refine (num_calls _ _  _).mono ?_; rintro e w' ⟨rfl, hb⟩; replace HC := Aside0.mk (HC.out.below hb); replace HD := Aside0.mk (Kp.of_below hb _ _ _ (by decide) (by decide) HD.out); clear hb)
      | (go_at_call 16; refine (test_calls _ _  _).mono ?_; rintro e w' ⟨rfl, hb⟩; replace HC := Aside0.mk (HC.out.below hb); replace HD := Aside0.mk (Kp.of_below hb _ _ _ (by decide) (by decide) HD.out); clear hb))
  refine (when_calls HC.out 4 2 (by simp)).mono ?_
  rintro e W6 ⟨rfl, v6, hC, hK⟩
  replace hC := Aside0.mk hC
  replace HD := Aside0.mk ((hK) _ _ _ (by decide) (by decide) HD.out)
  clear HC hK
  have HC := hC
  clear hC
  simp only [List.nil_append, List.cons_append, List.map_cons, List.map_nil, List.append_nil, is, zX] at HC
  go_wp2_with (first
      | (go_at_call 19; refine (alu_calls _ _ _ _  _).mono ?_; rintro e w' ⟨rfl, hb⟩; replace HC := Aside0.mk (HC.out.below hb); replace HD := Aside0.mk (Kp.of_below hb _ _ _ (by decide) (by decide) HD.out); clear hb)
      | (go_at_call 33; refine (alui_calls _ _ _ _  _).mono ?_; rintro e w' ⟨rfl, hb⟩; replace HC := Aside0.mk (HC.out.below hb); replace HD := Aside0.mk (Kp.of_below hb _ _ _ (by decide) (by decide) HD.out); clear hb)
      | (go_at_call 18; refine (num_calls _ _  _).mono ?_; rintro e w' ⟨rfl, hb⟩; replace HC := Aside0.mk (HC.out.below hb); replace HD := Aside0.mk (Kp.of_below hb _ _ _ (by decide) (by decide) HD.out); clear hb)
      | (go_at_call 16; refine (test_calls _ _  _).mono ?_; rintro e w' ⟨rfl, hb⟩; replace HC := Aside0.mk (HC.out.below hb); replace HD := Aside0.mk (Kp.of_below hb _ _ _ (by decide) (by decide) HD.out); clear hb))
  refine (mark_calls HC.out 100 (by simp)).mono ?_
  rintro e W7 ⟨rfl, v7, hC, hK⟩
  replace hC := Aside0.mk hC
  replace HD := Aside0.mk ((hK) _ _ _ (by decide) (by decide) HD.out)
  clear HC hK
  have HC := hC
  clear hC
  simp only [List.nil_append, List.cons_append, List.map_cons, List.map_nil, List.append_nil, is, zX] at HC
  go_wp2_with (first
      | (go_at_call 19; refine (alu_calls _ _ _ _  _).mono ?_; rintro e w' ⟨rfl, hb⟩; replace HC := Aside0.mk (HC.out.below hb); replace HD := Aside0.mk (Kp.of_below hb _ _ _ (by decide) (by decide) HD.out); clear hb)
      | (go_at_call 33; refine (alui_calls _ _ _ _  _).mono ?_; rintro e w' ⟨rfl, hb⟩; replace HC := Aside0.mk (HC.out.below hb); replace HD := Aside0.mk (Kp.of_below hb _ _ _ (by decide) (by decide) HD.out); clear hb)
      | (go_at_call 18; refine (num_calls _ _  _).mono ?_; rintro e w' ⟨rfl, hb⟩; replace HC := Aside0.mk (HC.out.below hb); replace HD := Aside0.mk (Kp.of_below hb _ _ _ (by decide) (by decide) HD.out); clear hb)
      | (go_at_call 16; refine (test_calls _ _  _).mono ?_; rintro e w' ⟨rfl, hb⟩; replace HC := Aside0.mk (HC.out.below hb); replace HD := Aside0.mk (Kp.of_below hb _ _ _ (by decide) (by decide) HD.out); clear hb))
  refine (x_calls HC.out _ [⟨10, false, 0, 0, 0, 0, 0⟩, ⟨9, false, 0, 1, 0, 0, 0⟩] 2 (HD.out) (by simp)).mono ?_
  rintro e W8 ⟨rfl, v8, hC, hK⟩
  replace hC := Aside0.mk hC
  replace HD := Aside0.mk ((hK) _ _ _ (by decide) (by decide) HD.out)
  clear HC hK
  have HC := hC
  clear hC
  simp only [List.nil_append, List.cons_append, List.map_cons, List.map_nil, List.append_nil, is, zX] at HC
  go_wp2_with fail
  go_ret
  exact ⟨rfl, _, HC.out⟩
set_option maxHeartbeats 4000000 in
set_option maxRecDepth 100000 in
theorem signed_109_w {w W : World} {g : Nat} {v : Value} (H : Cd w W g v []) : Calls Try.prog 15 #[.pointer (some ⟨g, 0, none⟩), .int .i64 109, .bool true] W (SgnOut w W g [⟨⟨5, true, 1, 1, 0, 0, 0⟩, 0, 0⟩, ⟨⟨18, false, 0, 0, 0, 4, 0⟩, 0, 1⟩, ⟨⟨4, true, 0, 1, 0, 7, -1⟩, 0, 0⟩, ⟨⟨18, false, 0, 0, 0, 5, 0⟩, 0, 100⟩, ⟨⟨2, true, 2, 0, 0, 0, -9223372036854775808⟩, 0, 0⟩, ⟨⟨3, true, 2, 0, 0, 7, 0⟩, 0, 0⟩, ⟨⟨18, false, 0, 0, 0, 4, 0⟩, 0, 2⟩, ⟨⟨0, false, 0, 0, 0, 0, 0⟩, 100, 0⟩, ⟨⟨10, true, 0, 0, 0, 0, 0⟩, 0, 0⟩, ⟨⟨9, true, 0, 1, 0, 0, 0⟩, 0, 0⟩] 1) := by
  have HC := Aside0.mk (H.alloc (.cells ([⟨10, true, 0, 0, 0, 0, 0⟩, ⟨9, true, 0, 1, 0, 0, 0⟩].flatMap X.cells).toArray 40))
  have HD := Aside0.mk (blk_new W (.cells ([⟨10, true, 0, 0, 0, 0, 0⟩, ⟨9, true, 0, 1, 0, 0, 0⟩].flatMap X.cells).toArray 40))
  clear H
  go_enter Try.func15, Try.ntmps15
  go_wp2_with (first
      | (go_at_call 19; refine (alu_calls _ _ _ _  _).mono ?_; rintro e w' ⟨rfl, hb⟩; replace HC := Aside0.mk (HC.out.below hb); replace HD := Aside0.mk (Kp.of_below hb _ _ _ (by decide) (by decide) HD.out); clear hb)
      | (go_at_call 33; refine (alui_calls _ _ _ _  _).mono ?_; rintro e w' ⟨rfl, hb⟩; replace HC := Aside0.mk (HC.out.below hb); replace HD := Aside0.mk (Kp.of_below hb _ _ _ (by decide) (by decide) HD.out); clear hb)
      | (go_at_call 18; refine (num_calls _ _  _).mono ?_; rintro e w' ⟨rfl, hb⟩; replace HC := Aside0.mk (HC.out.below hb); replace HD := Aside0.mk (Kp.of_below hb _ _ _ (by decide) (by decide) HD.out); clear hb)
      | (go_at_call 16; refine (test_calls _ _  _).mono ?_; rintro e w' ⟨rfl, hb⟩; replace HC := Aside0.mk (HC.out.below hb); replace HD := Aside0.mk (Kp.of_below hb _ _ _ (by decide) (by decide) HD.out); clear hb))
  refine (x_calls (HC.out.alloc _) _ [⟨5, true, 1, 1, 0, 0, 0⟩] 1 (blk_new _ _) (by simp)).mono ?_
  rintro e W1 ⟨rfl, v1, hC, hK⟩
  replace hC := Aside0.mk hC
  replace HD := Aside0.mk (((Kp.of_below ((Below.refl _ _).alloc (Nat.le_refl _) _)).trans hK) _ _ _ (by decide) (by decide) HD.out)
  clear HC hK
  have HC := hC
  clear hC
  simp only [List.nil_append, List.cons_append, List.map_cons, List.map_nil, List.append_nil, is, zX] at HC
  go_wp2_with (first
      | (go_at_call 19; refine (alu_calls _ _ _ _  _).mono ?_; rintro e w' ⟨rfl, hb⟩; replace HC := Aside0.mk (HC.out.below hb); replace HD := Aside0.mk (Kp.of_below hb _ _ _ (by decide) (by decide) HD.out); clear hb)
      | (go_at_call 33; refine (alui_calls _ _ _ _  _).mono ?_; rintro e w' ⟨rfl, hb⟩; replace HC := Aside0.mk (HC.out.below hb); replace HD := Aside0.mk (Kp.of_below hb _ _ _ (by decide) (by decide) HD.out); clear hb)
      | (go_at_call 18; refine (num_calls _ _  _).mono ?_; rintro e w' ⟨rfl, hb⟩; replace HC := Aside0.mk (HC.out.below hb); replace HD := Aside0.mk (Kp.of_below hb _ _ _ (by decide) (by decide) HD.out); clear hb)
      | (go_at_call 16; refine (test_calls _ _  _).mono ?_; rintro e w' ⟨rfl, hb⟩; replace HC := Aside0.mk (HC.out.below hb); replace HD := Aside0.mk (Kp.of_below hb _ _ _ (by decide) (by decide) HD.out); clear hb))
  refine (when_calls HC.out 4 1 (by simp)).mono ?_
  rintro e W2 ⟨rfl, v2, hC, hK⟩
  replace hC := Aside0.mk hC
  replace HD := Aside0.mk ((hK) _ _ _ (by decide) (by decide) HD.out)
  clear HC hK
  have HC := hC
  clear hC
  simp only [List.nil_append, List.cons_append, List.map_cons, List.map_nil, List.append_nil, is, zX] at HC
  go_wp2_with (first
      | (go_at_call 19; refine (alu_calls _ _ _ _  _).mono ?_; rintro e w' ⟨rfl, hb⟩; replace HC := Aside0.mk (HC.out.below hb); replace HD := Aside0.mk (Kp.of_below hb _ _ _ (by decide) (by decide) HD.out); clear hb)
      | (go_at_call 33; refine (alui_calls _ _ _ _  _).mono ?_; rintro e w' ⟨rfl, hb⟩; replace HC := Aside0.mk (HC.out.below hb); replace HD := Aside0.mk (Kp.of_below hb _ _ _ (by decide) (by decide) HD.out); clear hb)
      | (go_at_call 18; refine (num_calls _ _  _).mono ?_; rintro e w' ⟨rfl, hb⟩; replace HC := Aside0.mk (HC.out.below hb); replace HD := Aside0.mk (Kp.of_below hb _ _ _ (by decide) (by decide) HD.out); clear hb)
      | (go_at_call 16; refine (test_calls _ _  _).mono ?_; rintro e w' ⟨rfl, hb⟩; replace HC := Aside0.mk (HC.out.below hb); replace HD := Aside0.mk (Kp.of_below hb _ _ _ (by decide) (by decide) HD.out); clear hb))
  refine (x_calls (HC.out.alloc _) _ [⟨4, true, 0, 1, 0, 7, -1⟩] 1 (blk_new _ _) (by simp)).mono ?_
  rintro e W3 ⟨rfl, v3, hC, hK⟩
  replace hC := Aside0.mk hC
  replace HD := Aside0.mk (((Kp.of_below ((Below.refl _ _).alloc (Nat.le_refl _) _)).trans hK) _ _ _ (by decide) (by decide) HD.out)
  clear HC hK
  have HC := hC
  clear hC
  simp only [List.nil_append, List.cons_append, List.map_cons, List.map_nil, List.append_nil, is, zX] at HC
  go_wp2_with (first
      | (go_at_call 19; refine (alu_calls _ _ _ _  _).mono ?_; rintro e w' ⟨rfl, hb⟩; replace HC := Aside0.mk (HC.out.below hb); replace HD := Aside0.mk (Kp.of_below hb _ _ _ (by decide) (by decide) HD.out); clear hb)
      | (go_at_call 33; refine (alui_calls _ _ _ _  _).mono ?_; rintro e w' ⟨rfl, hb⟩; replace HC := Aside0.mk (HC.out.below hb); replace HD := Aside0.mk (Kp.of_below hb _ _ _ (by decide) (by decide) HD.out); clear hb)
      | (go_at_call 18; refine (num_calls _ _  _).mono ?_; rintro e w' ⟨rfl, hb⟩; replace HC := Aside0.mk (HC.out.below hb); replace HD := Aside0.mk (Kp.of_below hb _ _ _ (by decide) (by decide) HD.out); clear hb)
      | (go_at_call 16; refine (test_calls _ _  _).mono ?_; rintro e w' ⟨rfl, hb⟩; replace HC := Aside0.mk (HC.out.below hb); replace HD := Aside0.mk (Kp.of_below hb _ _ _ (by decide) (by decide) HD.out); clear hb))
  refine (when_calls HC.out 5 100 (by simp)).mono ?_
  rintro e W4 ⟨rfl, v4, hC, hK⟩
  replace hC := Aside0.mk hC
  replace HD := Aside0.mk ((hK) _ _ _ (by decide) (by decide) HD.out)
  clear HC hK
  have HC := hC
  clear hC
  simp only [List.nil_append, List.cons_append, List.map_cons, List.map_nil, List.append_nil, is, zX] at HC
  go_wp2_with (first
      | (go_at_call 19; refine (alu_calls _ _ _ _  _).mono ?_; rintro e w' ⟨rfl, hb⟩; replace HC := Aside0.mk (HC.out.below hb); replace HD := Aside0.mk (Kp.of_below hb _ _ _ (by decide) (by decide) HD.out); clear hb)
      | (go_at_call 33; refine (alui_calls _ _ _ _  _).mono ?_; rintro e w' ⟨rfl, hb⟩; replace HC := Aside0.mk (HC.out.below hb); replace HD := Aside0.mk (Kp.of_below hb _ _ _ (by decide) (by decide) HD.out); clear hb)
      | (go_at_call 18; refine (num_calls _ _  _).mono ?_; rintro e w' ⟨rfl, hb⟩; replace HC := Aside0.mk (HC.out.below hb); replace HD := Aside0.mk (Kp.of_below hb _ _ _ (by decide) (by decide) HD.out); clear hb)
      | (go_at_call 16; refine (test_calls _ _  _).mono ?_; rintro e w' ⟨rfl, hb⟩; replace HC := Aside0.mk (HC.out.below hb); replace HD := Aside0.mk (Kp.of_below hb _ _ _ (by decide) (by decide) HD.out); clear hb))
  refine (x_calls (HC.out.alloc _) _ [⟨2, true, 2, 0, 0, 0, -9223372036854775808⟩, ⟨3, true, 2, 0, 0, 7, 0⟩] 2 (blk_new _ _) (by simp)).mono ?_
  rintro e W5 ⟨rfl, v5, hC, hK⟩
  replace hC := Aside0.mk hC
  replace HD := Aside0.mk (((Kp.of_below ((Below.refl _ _).alloc (Nat.le_refl _) _)).trans hK) _ _ _ (by decide) (by decide) HD.out)
  clear HC hK
  have HC := hC
  clear hC
  simp only [List.nil_append, List.cons_append, List.map_cons, List.map_nil, List.append_nil, is, zX] at HC
  go_wp2_with (first
      | (go_at_call 19; refine (alu_calls _ _ _ _  _).mono ?_; rintro e w' ⟨rfl, hb⟩; replace HC := Aside0.mk (HC.out.below hb); replace HD := Aside0.mk (Kp.of_below hb _ _ _ (by decide) (by decide) HD.out); clear hb)
      | (go_at_call 33; refine (alui_calls _ _ _ _  _).mono ?_; rintro e w' ⟨rfl, hb⟩; replace HC := Aside0.mk (HC.out.below hb); replace HD := Aside0.mk (Kp.of_below hb _ _ _ (by decide) (by decide) HD.out); clear hb)
      | (go_at_call 18; refine (num_calls _ _  _).mono ?_; rintro e w' ⟨rfl, hb⟩; replace HC := Aside0.mk (HC.out.below hb); replace HD := Aside0.mk (Kp.of_below hb _ _ _ (by decide) (by decide) HD.out); clear hb)
      | (go_at_call 16; refine (test_calls _ _  _).mono ?_; rintro e w' ⟨rfl, hb⟩; replace HC := Aside0.mk (HC.out.below hb); replace HD := Aside0.mk (Kp.of_below hb _ _ _ (by decide) (by decide) HD.out); clear hb))
  refine (when_calls HC.out 4 2 (by simp)).mono ?_
  rintro e W6 ⟨rfl, v6, hC, hK⟩
  replace hC := Aside0.mk hC
  replace HD := Aside0.mk ((hK) _ _ _ (by decide) (by decide) HD.out)
  clear HC hK
  have HC := hC
  clear hC
  simp only [List.nil_append, List.cons_append, List.map_cons, List.map_nil, List.append_nil, is, zX] at HC
  go_wp2_with (first
      | (go_at_call 19; refine (alu_calls _ _ _ _  _).mono ?_; rintro e w' ⟨rfl, hb⟩; replace HC := Aside0.mk (HC.out.below hb); replace HD := Aside0.mk (Kp.of_below hb _ _ _ (by decide) (by decide) HD.out); clear hb)
      | (go_at_call 33; refine (alui_calls _ _ _ _  _).mono ?_; rintro e w' ⟨rfl, hb⟩; replace HC := Aside0.mk (HC.out.below hb); replace HD := Aside0.mk (Kp.of_below hb _ _ _ (by decide) (by decide) HD.out); clear hb)
      | (go_at_call 18; refine (num_calls _ _  _).mono ?_; rintro e w' ⟨rfl, hb⟩; replace HC := Aside0.mk (HC.out.below hb); replace HD := Aside0.mk (Kp.of_below hb _ _ _ (by decide) (by decide) HD.out); clear hb)
      | (go_at_call 16; refine (test_calls _ _  _).mono ?_; rintro e w' ⟨rfl, hb⟩; replace HC := Aside0.mk (HC.out.below hb); replace HD := Aside0.mk (Kp.of_below hb _ _ _ (by decide) (by decide) HD.out); clear hb))
  refine (mark_calls HC.out 100 (by simp)).mono ?_
  rintro e W7 ⟨rfl, v7, hC, hK⟩
  replace hC := Aside0.mk hC
  replace HD := Aside0.mk ((hK) _ _ _ (by decide) (by decide) HD.out)
  clear HC hK
  have HC := hC
  clear hC
  simp only [List.nil_append, List.cons_append, List.map_cons, List.map_nil, List.append_nil, is, zX] at HC
  go_wp2_with (first
      | (go_at_call 19; refine (alu_calls _ _ _ _  _).mono ?_; rintro e w' ⟨rfl, hb⟩; replace HC := Aside0.mk (HC.out.below hb); replace HD := Aside0.mk (Kp.of_below hb _ _ _ (by decide) (by decide) HD.out); clear hb)
      | (go_at_call 33; refine (alui_calls _ _ _ _  _).mono ?_; rintro e w' ⟨rfl, hb⟩; replace HC := Aside0.mk (HC.out.below hb); replace HD := Aside0.mk (Kp.of_below hb _ _ _ (by decide) (by decide) HD.out); clear hb)
      | (go_at_call 18; refine (num_calls _ _  _).mono ?_; rintro e w' ⟨rfl, hb⟩; replace HC := Aside0.mk (HC.out.below hb); replace HD := Aside0.mk (Kp.of_below hb _ _ _ (by decide) (by decide) HD.out); clear hb)
      | (go_at_call 16; refine (test_calls _ _  _).mono ?_; rintro e w' ⟨rfl, hb⟩; replace HC := Aside0.mk (HC.out.below hb); replace HD := Aside0.mk (Kp.of_below hb _ _ _ (by decide) (by decide) HD.out); clear hb))
  refine (x_calls HC.out _ [⟨10, true, 0, 0, 0, 0, 0⟩, ⟨9, true, 0, 1, 0, 0, 0⟩] 2 (HD.out) (by simp)).mono ?_
  rintro e W8 ⟨rfl, v8, hC, hK⟩
  replace hC := Aside0.mk hC
  replace HD := Aside0.mk ((hK) _ _ _ (by decide) (by decide) HD.out)
  clear HC hK
  have HC := hC
  clear hC
  simp only [List.nil_append, List.cons_append, List.map_cons, List.map_nil, List.append_nil, is, zX] at HC
  go_wp2_with fail
  go_ret
  exact ⟨rfl, _, HC.out⟩
set_option maxHeartbeats 4000000 in
set_option maxRecDepth 100000 in
theorem signed_111_n {w W : World} {g : Nat} {v : Value} (H : Cd w W g v []) : Calls Try.prog 15 #[.pointer (some ⟨g, 0, none⟩), .int .i64 111, .bool false] W (SgnOut w W g [⟨⟨5, false, 1, 1, 0, 0, 0⟩, 0, 0⟩, ⟨⟨18, false, 0, 0, 0, 4, 0⟩, 0, 1⟩, ⟨⟨4, false, 0, 1, 0, 7, -1⟩, 0, 0⟩, ⟨⟨18, false, 0, 0, 0, 5, 0⟩, 0, 100⟩, ⟨⟨2, true, 2, 0, 0, 0, 0⟩, 0, 0⟩, ⟨⟨17, false, 0, 0, 0, 0, 0⟩, 0, 101⟩, ⟨⟨0, false, 0, 0, 0, 0, 0⟩, 100, 0⟩, ⟨⟨10, false, 0, 0, 0, 0, 0⟩, 0, 0⟩, ⟨⟨9, false, 0, 1, 0, 0, 0⟩, 0, 0⟩, ⟨⟨0, false, 0, 0, 0, 0, 0⟩, 101, 0⟩, ⟨⟨1, true, 2, 0, 0, 0, 0⟩, 0, 0⟩] 2) := by
  have HC := Aside0.mk (H.alloc (.cells ([⟨10, false, 0, 0, 0, 0, 0⟩, ⟨9, false, 0, 1, 0, 0, 0⟩].flatMap X.cells).toArray 40))
  have HD := Aside0.mk (blk_new W (.cells ([⟨10, false, 0, 0, 0, 0, 0⟩, ⟨9, false, 0, 1, 0, 0, 0⟩].flatMap X.cells).toArray 40))
  clear H
  go_enter Try.func15, Try.ntmps15
  go_wp2_with (first
      | (go_at_call 19; refine (alu_calls _ _ _ _  _).mono ?_; rintro e w' ⟨rfl, hb⟩; replace HC := Aside0.mk (HC.out.below hb); replace HD := Aside0.mk (Kp.of_below hb _ _ _ (by decide) (by decide) HD.out); clear hb)
      | (go_at_call 33; refine (alui_calls _ _ _ _  _).mono ?_; rintro e w' ⟨rfl, hb⟩; replace HC := Aside0.mk (HC.out.below hb); replace HD := Aside0.mk (Kp.of_below hb _ _ _ (by decide) (by decide) HD.out); clear hb)
      | (go_at_call 18; refine (num_calls _ _  _).mono ?_; rintro e w' ⟨rfl, hb⟩; replace HC := Aside0.mk (HC.out.below hb); replace HD := Aside0.mk (Kp.of_below hb _ _ _ (by decide) (by decide) HD.out); clear hb)
      | (go_at_call 16; refine (test_calls _ _  _).mono ?_; rintro e w' ⟨rfl, hb⟩; replace HC := Aside0.mk (HC.out.below hb); replace HD := Aside0.mk (Kp.of_below hb _ _ _ (by decide) (by decide) HD.out); clear hb))
  refine (x_calls (HC.out.alloc _) _ [⟨5, false, 1, 1, 0, 0, 0⟩] 1 (blk_new _ _) (by simp)).mono ?_
  rintro e W1 ⟨rfl, v1, hC, hK⟩
  replace hC := Aside0.mk hC
  replace HD := Aside0.mk (((Kp.of_below ((Below.refl _ _).alloc (Nat.le_refl _) _)).trans hK) _ _ _ (by decide) (by decide) HD.out)
  clear HC hK
  have HC := hC
  clear hC
  simp only [List.nil_append, List.cons_append, List.map_cons, List.map_nil, List.append_nil, is, zX] at HC
  go_wp2_with (first
      | (go_at_call 19; refine (alu_calls _ _ _ _  _).mono ?_; rintro e w' ⟨rfl, hb⟩; replace HC := Aside0.mk (HC.out.below hb); replace HD := Aside0.mk (Kp.of_below hb _ _ _ (by decide) (by decide) HD.out); clear hb)
      | (go_at_call 33; refine (alui_calls _ _ _ _  _).mono ?_; rintro e w' ⟨rfl, hb⟩; replace HC := Aside0.mk (HC.out.below hb); replace HD := Aside0.mk (Kp.of_below hb _ _ _ (by decide) (by decide) HD.out); clear hb)
      | (go_at_call 18; refine (num_calls _ _  _).mono ?_; rintro e w' ⟨rfl, hb⟩; replace HC := Aside0.mk (HC.out.below hb); replace HD := Aside0.mk (Kp.of_below hb _ _ _ (by decide) (by decide) HD.out); clear hb)
      | (go_at_call 16; refine (test_calls _ _  _).mono ?_; rintro e w' ⟨rfl, hb⟩; replace HC := Aside0.mk (HC.out.below hb); replace HD := Aside0.mk (Kp.of_below hb _ _ _ (by decide) (by decide) HD.out); clear hb))
  refine (when_calls HC.out 4 1 (by simp)).mono ?_
  rintro e W2 ⟨rfl, v2, hC, hK⟩
  replace hC := Aside0.mk hC
  replace HD := Aside0.mk ((hK) _ _ _ (by decide) (by decide) HD.out)
  clear HC hK
  have HC := hC
  clear hC
  simp only [List.nil_append, List.cons_append, List.map_cons, List.map_nil, List.append_nil, is, zX] at HC
  go_wp2_with (first
      | (go_at_call 19; refine (alu_calls _ _ _ _  _).mono ?_; rintro e w' ⟨rfl, hb⟩; replace HC := Aside0.mk (HC.out.below hb); replace HD := Aside0.mk (Kp.of_below hb _ _ _ (by decide) (by decide) HD.out); clear hb)
      | (go_at_call 33; refine (alui_calls _ _ _ _  _).mono ?_; rintro e w' ⟨rfl, hb⟩; replace HC := Aside0.mk (HC.out.below hb); replace HD := Aside0.mk (Kp.of_below hb _ _ _ (by decide) (by decide) HD.out); clear hb)
      | (go_at_call 18; refine (num_calls _ _  _).mono ?_; rintro e w' ⟨rfl, hb⟩; replace HC := Aside0.mk (HC.out.below hb); replace HD := Aside0.mk (Kp.of_below hb _ _ _ (by decide) (by decide) HD.out); clear hb)
      | (go_at_call 16; refine (test_calls _ _  _).mono ?_; rintro e w' ⟨rfl, hb⟩; replace HC := Aside0.mk (HC.out.below hb); replace HD := Aside0.mk (Kp.of_below hb _ _ _ (by decide) (by decide) HD.out); clear hb))
  refine (x_calls (HC.out.alloc _) _ [⟨4, false, 0, 1, 0, 7, -1⟩] 1 (blk_new _ _) (by simp)).mono ?_
  rintro e W3 ⟨rfl, v3, hC, hK⟩
  replace hC := Aside0.mk hC
  replace HD := Aside0.mk (((Kp.of_below ((Below.refl _ _).alloc (Nat.le_refl _) _)).trans hK) _ _ _ (by decide) (by decide) HD.out)
  clear HC hK
  have HC := hC
  clear hC
  simp only [List.nil_append, List.cons_append, List.map_cons, List.map_nil, List.append_nil, is, zX] at HC
  go_wp2_with (first
      | (go_at_call 19; refine (alu_calls _ _ _ _  _).mono ?_; rintro e w' ⟨rfl, hb⟩; replace HC := Aside0.mk (HC.out.below hb); replace HD := Aside0.mk (Kp.of_below hb _ _ _ (by decide) (by decide) HD.out); clear hb)
      | (go_at_call 33; refine (alui_calls _ _ _ _  _).mono ?_; rintro e w' ⟨rfl, hb⟩; replace HC := Aside0.mk (HC.out.below hb); replace HD := Aside0.mk (Kp.of_below hb _ _ _ (by decide) (by decide) HD.out); clear hb)
      | (go_at_call 18; refine (num_calls _ _  _).mono ?_; rintro e w' ⟨rfl, hb⟩; replace HC := Aside0.mk (HC.out.below hb); replace HD := Aside0.mk (Kp.of_below hb _ _ _ (by decide) (by decide) HD.out); clear hb)
      | (go_at_call 16; refine (test_calls _ _  _).mono ?_; rintro e w' ⟨rfl, hb⟩; replace HC := Aside0.mk (HC.out.below hb); replace HD := Aside0.mk (Kp.of_below hb _ _ _ (by decide) (by decide) HD.out); clear hb))
  refine (when_calls HC.out 5 100 (by simp)).mono ?_
  rintro e W4 ⟨rfl, v4, hC, hK⟩
  replace hC := Aside0.mk hC
  replace HD := Aside0.mk ((hK) _ _ _ (by decide) (by decide) HD.out)
  clear HC hK
  have HC := hC
  clear hC
  simp only [List.nil_append, List.cons_append, List.map_cons, List.map_nil, List.append_nil, is, zX] at HC
  go_wp2_with (first
      | (go_at_call 19; refine (alu_calls _ _ _ _  _).mono ?_; rintro e w' ⟨rfl, hb⟩; replace HC := Aside0.mk (HC.out.below hb); replace HD := Aside0.mk (Kp.of_below hb _ _ _ (by decide) (by decide) HD.out); clear hb)
      | (go_at_call 33; refine (alui_calls _ _ _ _  _).mono ?_; rintro e w' ⟨rfl, hb⟩; replace HC := Aside0.mk (HC.out.below hb); replace HD := Aside0.mk (Kp.of_below hb _ _ _ (by decide) (by decide) HD.out); clear hb)
      | (go_at_call 18; refine (num_calls _ _  _).mono ?_; rintro e w' ⟨rfl, hb⟩; replace HC := Aside0.mk (HC.out.below hb); replace HD := Aside0.mk (Kp.of_below hb _ _ _ (by decide) (by decide) HD.out); clear hb)
      | (go_at_call 16; refine (test_calls _ _  _).mono ?_; rintro e w' ⟨rfl, hb⟩; replace HC := Aside0.mk (HC.out.below hb); replace HD := Aside0.mk (Kp.of_below hb _ _ _ (by decide) (by decide) HD.out); clear hb))
  refine (x_calls (HC.out.alloc _) _ [⟨2, true, 2, 0, 0, 0, 0⟩] 1 (blk_new _ _) (by simp)).mono ?_
  rintro e W5 ⟨rfl, v5, hC, hK⟩
  replace hC := Aside0.mk hC
  replace HD := Aside0.mk (((Kp.of_below ((Below.refl _ _).alloc (Nat.le_refl _) _)).trans hK) _ _ _ (by decide) (by decide) HD.out)
  clear HC hK
  have HC := hC
  clear hC
  simp only [List.nil_append, List.cons_append, List.map_cons, List.map_nil, List.append_nil, is, zX] at HC
  go_wp2_with (first
      | (go_at_call 19; refine (alu_calls _ _ _ _  _).mono ?_; rintro e w' ⟨rfl, hb⟩; replace HC := Aside0.mk (HC.out.below hb); replace HD := Aside0.mk (Kp.of_below hb _ _ _ (by decide) (by decide) HD.out); clear hb)
      | (go_at_call 33; refine (alui_calls _ _ _ _  _).mono ?_; rintro e w' ⟨rfl, hb⟩; replace HC := Aside0.mk (HC.out.below hb); replace HD := Aside0.mk (Kp.of_below hb _ _ _ (by decide) (by decide) HD.out); clear hb)
      | (go_at_call 18; refine (num_calls _ _  _).mono ?_; rintro e w' ⟨rfl, hb⟩; replace HC := Aside0.mk (HC.out.below hb); replace HD := Aside0.mk (Kp.of_below hb _ _ _ (by decide) (by decide) HD.out); clear hb)
      | (go_at_call 16; refine (test_calls _ _  _).mono ?_; rintro e w' ⟨rfl, hb⟩; replace HC := Aside0.mk (HC.out.below hb); replace HD := Aside0.mk (Kp.of_below hb _ _ _ (by decide) (by decide) HD.out); clear hb))
  refine (to_calls HC.out 101 ⟨17, false, 0, 0, 0, 0, 0⟩ (by simp)).mono ?_
  rintro e W6 ⟨rfl, v6, hC, hK⟩
  replace hC := Aside0.mk hC
  replace HD := Aside0.mk ((hK) _ _ _ (by decide) (by decide) HD.out)
  clear HC hK
  have HC := hC
  clear hC
  simp only [List.nil_append, List.cons_append, List.map_cons, List.map_nil, List.append_nil, is, zX] at HC
  go_wp2_with (first
      | (go_at_call 19; refine (alu_calls _ _ _ _  _).mono ?_; rintro e w' ⟨rfl, hb⟩; replace HC := Aside0.mk (HC.out.below hb); replace HD := Aside0.mk (Kp.of_below hb _ _ _ (by decide) (by decide) HD.out); clear hb)
      | (go_at_call 33; refine (alui_calls _ _ _ _  _).mono ?_; rintro e w' ⟨rfl, hb⟩; replace HC := Aside0.mk (HC.out.below hb); replace HD := Aside0.mk (Kp.of_below hb _ _ _ (by decide) (by decide) HD.out); clear hb)
      | (go_at_call 18; refine (num_calls _ _  _).mono ?_; rintro e w' ⟨rfl, hb⟩; replace HC := Aside0.mk (HC.out.below hb); replace HD := Aside0.mk (Kp.of_below hb _ _ _ (by decide) (by decide) HD.out); clear hb)
      | (go_at_call 16; refine (test_calls _ _  _).mono ?_; rintro e w' ⟨rfl, hb⟩; replace HC := Aside0.mk (HC.out.below hb); replace HD := Aside0.mk (Kp.of_below hb _ _ _ (by decide) (by decide) HD.out); clear hb))
  refine (mark_calls HC.out 100 (by simp)).mono ?_
  rintro e W7 ⟨rfl, v7, hC, hK⟩
  replace hC := Aside0.mk hC
  replace HD := Aside0.mk ((hK) _ _ _ (by decide) (by decide) HD.out)
  clear HC hK
  have HC := hC
  clear hC
  simp only [List.nil_append, List.cons_append, List.map_cons, List.map_nil, List.append_nil, is, zX] at HC
  go_wp2_with (first
      | (go_at_call 19; refine (alu_calls _ _ _ _  _).mono ?_; rintro e w' ⟨rfl, hb⟩; replace HC := Aside0.mk (HC.out.below hb); replace HD := Aside0.mk (Kp.of_below hb _ _ _ (by decide) (by decide) HD.out); clear hb)
      | (go_at_call 33; refine (alui_calls _ _ _ _  _).mono ?_; rintro e w' ⟨rfl, hb⟩; replace HC := Aside0.mk (HC.out.below hb); replace HD := Aside0.mk (Kp.of_below hb _ _ _ (by decide) (by decide) HD.out); clear hb)
      | (go_at_call 18; refine (num_calls _ _  _).mono ?_; rintro e w' ⟨rfl, hb⟩; replace HC := Aside0.mk (HC.out.below hb); replace HD := Aside0.mk (Kp.of_below hb _ _ _ (by decide) (by decide) HD.out); clear hb)
      | (go_at_call 16; refine (test_calls _ _  _).mono ?_; rintro e w' ⟨rfl, hb⟩; replace HC := Aside0.mk (HC.out.below hb); replace HD := Aside0.mk (Kp.of_below hb _ _ _ (by decide) (by decide) HD.out); clear hb))
  refine (x_calls HC.out _ [⟨10, false, 0, 0, 0, 0, 0⟩, ⟨9, false, 0, 1, 0, 0, 0⟩] 2 (HD.out) (by simp)).mono ?_
  rintro e W8 ⟨rfl, v8, hC, hK⟩
  replace hC := Aside0.mk hC
  replace HD := Aside0.mk ((hK) _ _ _ (by decide) (by decide) HD.out)
  clear HC hK
  have HC := hC
  clear hC
  simp only [List.nil_append, List.cons_append, List.map_cons, List.map_nil, List.append_nil, is, zX] at HC
  go_wp2_with (first
      | (go_at_call 19; refine (alu_calls _ _ _ _  _).mono ?_; rintro e w' ⟨rfl, hb⟩; replace HC := Aside0.mk (HC.out.below hb); replace HD := Aside0.mk (Kp.of_below hb _ _ _ (by decide) (by decide) HD.out); clear hb)
      | (go_at_call 33; refine (alui_calls _ _ _ _  _).mono ?_; rintro e w' ⟨rfl, hb⟩; replace HC := Aside0.mk (HC.out.below hb); replace HD := Aside0.mk (Kp.of_below hb _ _ _ (by decide) (by decide) HD.out); clear hb)
      | (go_at_call 18; refine (num_calls _ _  _).mono ?_; rintro e w' ⟨rfl, hb⟩; replace HC := Aside0.mk (HC.out.below hb); replace HD := Aside0.mk (Kp.of_below hb _ _ _ (by decide) (by decide) HD.out); clear hb)
      | (go_at_call 16; refine (test_calls _ _  _).mono ?_; rintro e w' ⟨rfl, hb⟩; replace HC := Aside0.mk (HC.out.below hb); replace HD := Aside0.mk (Kp.of_below hb _ _ _ (by decide) (by decide) HD.out); clear hb))
  refine (mark_calls HC.out 101 (by simp)).mono ?_
  rintro e W9 ⟨rfl, v9, hC, hK⟩
  replace hC := Aside0.mk hC
  replace HD := Aside0.mk ((hK) _ _ _ (by decide) (by decide) HD.out)
  clear HC hK
  have HC := hC
  clear hC
  simp only [List.nil_append, List.cons_append, List.map_cons, List.map_nil, List.append_nil, is, zX] at HC
  go_wp2_with (first
      | (go_at_call 19; refine (alu_calls _ _ _ _  _).mono ?_; rintro e w' ⟨rfl, hb⟩; replace HC := Aside0.mk (HC.out.below hb); replace HD := Aside0.mk (Kp.of_below hb _ _ _ (by decide) (by decide) HD.out); clear hb)
      | (go_at_call 33; refine (alui_calls _ _ _ _  _).mono ?_; rintro e w' ⟨rfl, hb⟩; replace HC := Aside0.mk (HC.out.below hb); replace HD := Aside0.mk (Kp.of_below hb _ _ _ (by decide) (by decide) HD.out); clear hb)
      | (go_at_call 18; refine (num_calls _ _  _).mono ?_; rintro e w' ⟨rfl, hb⟩; replace HC := Aside0.mk (HC.out.below hb); replace HD := Aside0.mk (Kp.of_below hb _ _ _ (by decide) (by decide) HD.out); clear hb)
      | (go_at_call 16; refine (test_calls _ _  _).mono ?_; rintro e w' ⟨rfl, hb⟩; replace HC := Aside0.mk (HC.out.below hb); replace HD := Aside0.mk (Kp.of_below hb _ _ _ (by decide) (by decide) HD.out); clear hb))
  refine (x_calls (HC.out.alloc _) _ [⟨1, true, 2, 0, 0, 0, 0⟩] 1 (blk_new _ _) (by simp)).mono ?_
  rintro e W10 ⟨rfl, v10, hC, hK⟩
  replace hC := Aside0.mk hC
  replace HD := Aside0.mk (((Kp.of_below ((Below.refl _ _).alloc (Nat.le_refl _) _)).trans hK) _ _ _ (by decide) (by decide) HD.out)
  clear HC hK
  have HC := hC
  clear hC
  simp only [List.nil_append, List.cons_append, List.map_cons, List.map_nil, List.append_nil, is, zX] at HC
  go_wp2_with fail
  go_ret
  exact ⟨rfl, _, HC.out⟩
set_option maxHeartbeats 4000000 in
set_option maxRecDepth 100000 in
theorem signed_111_w {w W : World} {g : Nat} {v : Value} (H : Cd w W g v []) : Calls Try.prog 15 #[.pointer (some ⟨g, 0, none⟩), .int .i64 111, .bool true] W (SgnOut w W g [⟨⟨5, true, 1, 1, 0, 0, 0⟩, 0, 0⟩, ⟨⟨18, false, 0, 0, 0, 4, 0⟩, 0, 1⟩, ⟨⟨4, true, 0, 1, 0, 7, -1⟩, 0, 0⟩, ⟨⟨18, false, 0, 0, 0, 5, 0⟩, 0, 100⟩, ⟨⟨2, true, 2, 0, 0, 0, 0⟩, 0, 0⟩, ⟨⟨17, false, 0, 0, 0, 0, 0⟩, 0, 101⟩, ⟨⟨0, false, 0, 0, 0, 0, 0⟩, 100, 0⟩, ⟨⟨10, true, 0, 0, 0, 0, 0⟩, 0, 0⟩, ⟨⟨9, true, 0, 1, 0, 0, 0⟩, 0, 0⟩, ⟨⟨0, false, 0, 0, 0, 0, 0⟩, 101, 0⟩, ⟨⟨1, true, 2, 0, 0, 0, 0⟩, 0, 0⟩] 2) := by
  have HC := Aside0.mk (H.alloc (.cells ([⟨10, true, 0, 0, 0, 0, 0⟩, ⟨9, true, 0, 1, 0, 0, 0⟩].flatMap X.cells).toArray 40))
  have HD := Aside0.mk (blk_new W (.cells ([⟨10, true, 0, 0, 0, 0, 0⟩, ⟨9, true, 0, 1, 0, 0, 0⟩].flatMap X.cells).toArray 40))
  clear H
  go_enter Try.func15, Try.ntmps15
  go_wp2_with (first
      | (go_at_call 19; refine (alu_calls _ _ _ _  _).mono ?_; rintro e w' ⟨rfl, hb⟩; replace HC := Aside0.mk (HC.out.below hb); replace HD := Aside0.mk (Kp.of_below hb _ _ _ (by decide) (by decide) HD.out); clear hb)
      | (go_at_call 33; refine (alui_calls _ _ _ _  _).mono ?_; rintro e w' ⟨rfl, hb⟩; replace HC := Aside0.mk (HC.out.below hb); replace HD := Aside0.mk (Kp.of_below hb _ _ _ (by decide) (by decide) HD.out); clear hb)
      | (go_at_call 18; refine (num_calls _ _  _).mono ?_; rintro e w' ⟨rfl, hb⟩; replace HC := Aside0.mk (HC.out.below hb); replace HD := Aside0.mk (Kp.of_below hb _ _ _ (by decide) (by decide) HD.out); clear hb)
      | (go_at_call 16; refine (test_calls _ _  _).mono ?_; rintro e w' ⟨rfl, hb⟩; replace HC := Aside0.mk (HC.out.below hb); replace HD := Aside0.mk (Kp.of_below hb _ _ _ (by decide) (by decide) HD.out); clear hb))
  refine (x_calls (HC.out.alloc _) _ [⟨5, true, 1, 1, 0, 0, 0⟩] 1 (blk_new _ _) (by simp)).mono ?_
  rintro e W1 ⟨rfl, v1, hC, hK⟩
  replace hC := Aside0.mk hC
  replace HD := Aside0.mk (((Kp.of_below ((Below.refl _ _).alloc (Nat.le_refl _) _)).trans hK) _ _ _ (by decide) (by decide) HD.out)
  clear HC hK
  have HC := hC
  clear hC
  simp only [List.nil_append, List.cons_append, List.map_cons, List.map_nil, List.append_nil, is, zX] at HC
  go_wp2_with (first
      | (go_at_call 19; refine (alu_calls _ _ _ _  _).mono ?_; rintro e w' ⟨rfl, hb⟩; replace HC := Aside0.mk (HC.out.below hb); replace HD := Aside0.mk (Kp.of_below hb _ _ _ (by decide) (by decide) HD.out); clear hb)
      | (go_at_call 33; refine (alui_calls _ _ _ _  _).mono ?_; rintro e w' ⟨rfl, hb⟩; replace HC := Aside0.mk (HC.out.below hb); replace HD := Aside0.mk (Kp.of_below hb _ _ _ (by decide) (by decide) HD.out); clear hb)
      | (go_at_call 18; refine (num_calls _ _  _).mono ?_; rintro e w' ⟨rfl, hb⟩; replace HC := Aside0.mk (HC.out.below hb); replace HD := Aside0.mk (Kp.of_below hb _ _ _ (by decide) (by decide) HD.out); clear hb)
      | (go_at_call 16; refine (test_calls _ _  _).mono ?_; rintro e w' ⟨rfl, hb⟩; replace HC := Aside0.mk (HC.out.below hb); replace HD := Aside0.mk (Kp.of_below hb _ _ _ (by decide) (by decide) HD.out); clear hb))
  refine (when_calls HC.out 4 1 (by simp)).mono ?_
  rintro e W2 ⟨rfl, v2, hC, hK⟩
  replace hC := Aside0.mk hC
  replace HD := Aside0.mk ((hK) _ _ _ (by decide) (by decide) HD.out)
  clear HC hK
  have HC := hC
  clear hC
  simp only [List.nil_append, List.cons_append, List.map_cons, List.map_nil, List.append_nil, is, zX] at HC
  go_wp2_with (first
      | (go_at_call 19; refine (alu_calls _ _ _ _  _).mono ?_; rintro e w' ⟨rfl, hb⟩; replace HC := Aside0.mk (HC.out.below hb); replace HD := Aside0.mk (Kp.of_below hb _ _ _ (by decide) (by decide) HD.out); clear hb)
      | (go_at_call 33; refine (alui_calls _ _ _ _  _).mono ?_; rintro e w' ⟨rfl, hb⟩; replace HC := Aside0.mk (HC.out.below hb); replace HD := Aside0.mk (Kp.of_below hb _ _ _ (by decide) (by decide) HD.out); clear hb)
      | (go_at_call 18; refine (num_calls _ _  _).mono ?_; rintro e w' ⟨rfl, hb⟩; replace HC := Aside0.mk (HC.out.below hb); replace HD := Aside0.mk (Kp.of_below hb _ _ _ (by decide) (by decide) HD.out); clear hb)
      | (go_at_call 16; refine (test_calls _ _  _).mono ?_; rintro e w' ⟨rfl, hb⟩; replace HC := Aside0.mk (HC.out.below hb); replace HD := Aside0.mk (Kp.of_below hb _ _ _ (by decide) (by decide) HD.out); clear hb))
  refine (x_calls (HC.out.alloc _) _ [⟨4, true, 0, 1, 0, 7, -1⟩] 1 (blk_new _ _) (by simp)).mono ?_
  rintro e W3 ⟨rfl, v3, hC, hK⟩
  replace hC := Aside0.mk hC
  replace HD := Aside0.mk (((Kp.of_below ((Below.refl _ _).alloc (Nat.le_refl _) _)).trans hK) _ _ _ (by decide) (by decide) HD.out)
  clear HC hK
  have HC := hC
  clear hC
  simp only [List.nil_append, List.cons_append, List.map_cons, List.map_nil, List.append_nil, is, zX] at HC
  go_wp2_with (first
      | (go_at_call 19; refine (alu_calls _ _ _ _  _).mono ?_; rintro e w' ⟨rfl, hb⟩; replace HC := Aside0.mk (HC.out.below hb); replace HD := Aside0.mk (Kp.of_below hb _ _ _ (by decide) (by decide) HD.out); clear hb)
      | (go_at_call 33; refine (alui_calls _ _ _ _  _).mono ?_; rintro e w' ⟨rfl, hb⟩; replace HC := Aside0.mk (HC.out.below hb); replace HD := Aside0.mk (Kp.of_below hb _ _ _ (by decide) (by decide) HD.out); clear hb)
      | (go_at_call 18; refine (num_calls _ _  _).mono ?_; rintro e w' ⟨rfl, hb⟩; replace HC := Aside0.mk (HC.out.below hb); replace HD := Aside0.mk (Kp.of_below hb _ _ _ (by decide) (by decide) HD.out); clear hb)
      | (go_at_call 16; refine (test_calls _ _  _).mono ?_; rintro e w' ⟨rfl, hb⟩; replace HC := Aside0.mk (HC.out.below hb); replace HD := Aside0.mk (Kp.of_below hb _ _ _ (by decide) (by decide) HD.out); clear hb))
  refine (when_calls HC.out 5 100 (by simp)).mono ?_
  rintro e W4 ⟨rfl, v4, hC, hK⟩
  replace hC := Aside0.mk hC
  replace HD := Aside0.mk ((hK) _ _ _ (by decide) (by decide) HD.out)
  clear HC hK
  have HC := hC
  clear hC
  simp only [List.nil_append, List.cons_append, List.map_cons, List.map_nil, List.append_nil, is, zX] at HC
  go_wp2_with (first
      | (go_at_call 19; refine (alu_calls _ _ _ _  _).mono ?_; rintro e w' ⟨rfl, hb⟩; replace HC := Aside0.mk (HC.out.below hb); replace HD := Aside0.mk (Kp.of_below hb _ _ _ (by decide) (by decide) HD.out); clear hb)
      | (go_at_call 33; refine (alui_calls _ _ _ _  _).mono ?_; rintro e w' ⟨rfl, hb⟩; replace HC := Aside0.mk (HC.out.below hb); replace HD := Aside0.mk (Kp.of_below hb _ _ _ (by decide) (by decide) HD.out); clear hb)
      | (go_at_call 18; refine (num_calls _ _  _).mono ?_; rintro e w' ⟨rfl, hb⟩; replace HC := Aside0.mk (HC.out.below hb); replace HD := Aside0.mk (Kp.of_below hb _ _ _ (by decide) (by decide) HD.out); clear hb)
      | (go_at_call 16; refine (test_calls _ _  _).mono ?_; rintro e w' ⟨rfl, hb⟩; replace HC := Aside0.mk (HC.out.below hb); replace HD := Aside0.mk (Kp.of_below hb _ _ _ (by decide) (by decide) HD.out); clear hb))
  refine (x_calls (HC.out.alloc _) _ [⟨2, true, 2, 0, 0, 0, 0⟩] 1 (blk_new _ _) (by simp)).mono ?_
  rintro e W5 ⟨rfl, v5, hC, hK⟩
  replace hC := Aside0.mk hC
  replace HD := Aside0.mk (((Kp.of_below ((Below.refl _ _).alloc (Nat.le_refl _) _)).trans hK) _ _ _ (by decide) (by decide) HD.out)
  clear HC hK
  have HC := hC
  clear hC
  simp only [List.nil_append, List.cons_append, List.map_cons, List.map_nil, List.append_nil, is, zX] at HC
  go_wp2_with (first
      | (go_at_call 19; refine (alu_calls _ _ _ _  _).mono ?_; rintro e w' ⟨rfl, hb⟩; replace HC := Aside0.mk (HC.out.below hb); replace HD := Aside0.mk (Kp.of_below hb _ _ _ (by decide) (by decide) HD.out); clear hb)
      | (go_at_call 33; refine (alui_calls _ _ _ _  _).mono ?_; rintro e w' ⟨rfl, hb⟩; replace HC := Aside0.mk (HC.out.below hb); replace HD := Aside0.mk (Kp.of_below hb _ _ _ (by decide) (by decide) HD.out); clear hb)
      | (go_at_call 18; refine (num_calls _ _  _).mono ?_; rintro e w' ⟨rfl, hb⟩; replace HC := Aside0.mk (HC.out.below hb); replace HD := Aside0.mk (Kp.of_below hb _ _ _ (by decide) (by decide) HD.out); clear hb)
      | (go_at_call 16; refine (test_calls _ _  _).mono ?_; rintro e w' ⟨rfl, hb⟩; replace HC := Aside0.mk (HC.out.below hb); replace HD := Aside0.mk (Kp.of_below hb _ _ _ (by decide) (by decide) HD.out); clear hb))
  refine (to_calls HC.out 101 ⟨17, false, 0, 0, 0, 0, 0⟩ (by simp)).mono ?_
  rintro e W6 ⟨rfl, v6, hC, hK⟩
  replace hC := Aside0.mk hC
  replace HD := Aside0.mk ((hK) _ _ _ (by decide) (by decide) HD.out)
  clear HC hK
  have HC := hC
  clear hC
  simp only [List.nil_append, List.cons_append, List.map_cons, List.map_nil, List.append_nil, is, zX] at HC
  go_wp2_with (first
      | (go_at_call 19; refine (alu_calls _ _ _ _  _).mono ?_; rintro e w' ⟨rfl, hb⟩; replace HC := Aside0.mk (HC.out.below hb); replace HD := Aside0.mk (Kp.of_below hb _ _ _ (by decide) (by decide) HD.out); clear hb)
      | (go_at_call 33; refine (alui_calls _ _ _ _  _).mono ?_; rintro e w' ⟨rfl, hb⟩; replace HC := Aside0.mk (HC.out.below hb); replace HD := Aside0.mk (Kp.of_below hb _ _ _ (by decide) (by decide) HD.out); clear hb)
      | (go_at_call 18; refine (num_calls _ _  _).mono ?_; rintro e w' ⟨rfl, hb⟩; replace HC := Aside0.mk (HC.out.below hb); replace HD := Aside0.mk (Kp.of_below hb _ _ _ (by decide) (by decide) HD.out); clear hb)
      | (go_at_call 16; refine (test_calls _ _  _).mono ?_; rintro e w' ⟨rfl, hb⟩; replace HC := Aside0.mk (HC.out.below hb); replace HD := Aside0.mk (Kp.of_below hb _ _ _ (by decide) (by decide) HD.out); clear hb))
  refine (mark_calls HC.out 100 (by simp)).mono ?_
  rintro e W7 ⟨rfl, v7, hC, hK⟩
  replace hC := Aside0.mk hC
  replace HD := Aside0.mk ((hK) _ _ _ (by decide) (by decide) HD.out)
  clear HC hK
  have HC := hC
  clear hC
  simp only [List.nil_append, List.cons_append, List.map_cons, List.map_nil, List.append_nil, is, zX] at HC
  go_wp2_with (first
      | (go_at_call 19; refine (alu_calls _ _ _ _  _).mono ?_; rintro e w' ⟨rfl, hb⟩; replace HC := Aside0.mk (HC.out.below hb); replace HD := Aside0.mk (Kp.of_below hb _ _ _ (by decide) (by decide) HD.out); clear hb)
      | (go_at_call 33; refine (alui_calls _ _ _ _  _).mono ?_; rintro e w' ⟨rfl, hb⟩; replace HC := Aside0.mk (HC.out.below hb); replace HD := Aside0.mk (Kp.of_below hb _ _ _ (by decide) (by decide) HD.out); clear hb)
      | (go_at_call 18; refine (num_calls _ _  _).mono ?_; rintro e w' ⟨rfl, hb⟩; replace HC := Aside0.mk (HC.out.below hb); replace HD := Aside0.mk (Kp.of_below hb _ _ _ (by decide) (by decide) HD.out); clear hb)
      | (go_at_call 16; refine (test_calls _ _  _).mono ?_; rintro e w' ⟨rfl, hb⟩; replace HC := Aside0.mk (HC.out.below hb); replace HD := Aside0.mk (Kp.of_below hb _ _ _ (by decide) (by decide) HD.out); clear hb))
  refine (x_calls HC.out _ [⟨10, true, 0, 0, 0, 0, 0⟩, ⟨9, true, 0, 1, 0, 0, 0⟩] 2 (HD.out) (by simp)).mono ?_
  rintro e W8 ⟨rfl, v8, hC, hK⟩
  replace hC := Aside0.mk hC
  replace HD := Aside0.mk ((hK) _ _ _ (by decide) (by decide) HD.out)
  clear HC hK
  have HC := hC
  clear hC
  simp only [List.nil_append, List.cons_append, List.map_cons, List.map_nil, List.append_nil, is, zX] at HC
  go_wp2_with (first
      | (go_at_call 19; refine (alu_calls _ _ _ _  _).mono ?_; rintro e w' ⟨rfl, hb⟩; replace HC := Aside0.mk (HC.out.below hb); replace HD := Aside0.mk (Kp.of_below hb _ _ _ (by decide) (by decide) HD.out); clear hb)
      | (go_at_call 33; refine (alui_calls _ _ _ _  _).mono ?_; rintro e w' ⟨rfl, hb⟩; replace HC := Aside0.mk (HC.out.below hb); replace HD := Aside0.mk (Kp.of_below hb _ _ _ (by decide) (by decide) HD.out); clear hb)
      | (go_at_call 18; refine (num_calls _ _  _).mono ?_; rintro e w' ⟨rfl, hb⟩; replace HC := Aside0.mk (HC.out.below hb); replace HD := Aside0.mk (Kp.of_below hb _ _ _ (by decide) (by decide) HD.out); clear hb)
      | (go_at_call 16; refine (test_calls _ _  _).mono ?_; rintro e w' ⟨rfl, hb⟩; replace HC := Aside0.mk (HC.out.below hb); replace HD := Aside0.mk (Kp.of_below hb _ _ _ (by decide) (by decide) HD.out); clear hb))
  refine (mark_calls HC.out 101 (by simp)).mono ?_
  rintro e W9 ⟨rfl, v9, hC, hK⟩
  replace hC := Aside0.mk hC
  replace HD := Aside0.mk ((hK) _ _ _ (by decide) (by decide) HD.out)
  clear HC hK
  have HC := hC
  clear hC
  simp only [List.nil_append, List.cons_append, List.map_cons, List.map_nil, List.append_nil, is, zX] at HC
  go_wp2_with (first
      | (go_at_call 19; refine (alu_calls _ _ _ _  _).mono ?_; rintro e w' ⟨rfl, hb⟩; replace HC := Aside0.mk (HC.out.below hb); replace HD := Aside0.mk (Kp.of_below hb _ _ _ (by decide) (by decide) HD.out); clear hb)
      | (go_at_call 33; refine (alui_calls _ _ _ _  _).mono ?_; rintro e w' ⟨rfl, hb⟩; replace HC := Aside0.mk (HC.out.below hb); replace HD := Aside0.mk (Kp.of_below hb _ _ _ (by decide) (by decide) HD.out); clear hb)
      | (go_at_call 18; refine (num_calls _ _  _).mono ?_; rintro e w' ⟨rfl, hb⟩; replace HC := Aside0.mk (HC.out.below hb); replace HD := Aside0.mk (Kp.of_below hb _ _ _ (by decide) (by decide) HD.out); clear hb)
      | (go_at_call 16; refine (test_calls _ _  _).mono ?_; rintro e w' ⟨rfl, hb⟩; replace HC := Aside0.mk (HC.out.below hb); replace HD := Aside0.mk (Kp.of_below hb _ _ _ (by decide) (by decide) HD.out); clear hb))
  refine (x_calls (HC.out.alloc _) _ [⟨1, true, 2, 0, 0, 0, 0⟩] 1 (blk_new _ _) (by simp)).mono ?_
  rintro e W10 ⟨rfl, v10, hC, hK⟩
  replace hC := Aside0.mk hC
  replace HD := Aside0.mk (((Kp.of_below ((Below.refl _ _).alloc (Nat.le_refl _) _)).trans hK) _ _ _ (by decide) (by decide) HD.out)
  clear HC hK
  have HC := hC
  clear hC
  simp only [List.nil_append, List.cons_append, List.map_cons, List.map_nil, List.append_nil, is, zX] at HC
  go_wp2_with fail
  go_ret
  exact ⟨rfl, _, HC.out⟩
end Go.Proofs.Ytngpmijbjhpfhaa.Isel
