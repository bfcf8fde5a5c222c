/- valid.Callee: whose signature a call's number names. -/
import Derived.Test.YtjjhhmchomabeaaDoorValMod
import Derived.Test.YtjjhhmchomabeaaDoorValB
namespace Go.Proofs.YtjjhhmchomabeaaDoor.Valid
open Go.RowKit Go.Proofs.YtjjhhmchomabeaaDoorW.PrintWords Go.Proofs.YtjjhhmchomabeaaDoorW.PrintLast Go.Proofs.YtjjhhmchomabeaaDoor.Mem Go.Proofs.YtjjhhmchomabeaaDoor.Nest
set_option linter.unusedVariables false
set_option linter.unusedSimpArgs false

/-- a signature, and what stands beside it -/
def CalleeOut (w00 w : World) (r : Sg × Bool × Bool × Bool) (e : Ending) (w' : World) : Prop :=
  Below w.heap.size w w' ∧ ∃ B1 k1 B2 k2, e = .returned (.tuple #[.agg #[.slice B1 r.1.1.length k1, .slice B2 r.1.2.length k2], .bool r.2.1, .bool r.2.2.1, .bool r.2.2.2]) ∧ r.1.1.length ≤ k1 ∧ r.1.2.length ≤ k2 ∧ (Kd.int .i64).C w00 B1 r.1.1.length r.1.1 ∧ (Kd.int .i64).C w00 B2 r.1.2.length r.1.2
theorem calleeOut_no {w00 w w' : World} (hb : Below w.heap.size w w') {r : Sg × Bool × Bool × Bool} (h : r = (zS, false, false, false)) : CalleeOut w00 w r (.returned (.tuple #[.agg #[.slice none 0 0, .slice none 0 0], .bool false, .bool false, .bool false])) w' := by
  subst h
  exact ⟨hb, none, 0, none, 0, rfl, Nat.le_refl _, Nat.le_refl _, Kd.C_nil _ _, Kd.C_nil _ _⟩
theorem callee_no {M : Md} {n : Int} (h : (calleeN M n).1 < 0 ∨ (M.sigs.length : Int) ≤ (calleeN M n).1) : callee M n = (zS, false, false, false) := by unfold callee; rw [if_pos h]
theorem callee_yes {M : Md} {n : Int} (h : ¬ ((calleeN M n).1 < 0 ∨ (M.sigs.length : Int) ≤ (calleeN M n).1)) : callee M n = (M.sigs.getD (calleeN M n).1.toNat zS, (calleeN M n).2.1, (calleeN M n).2.2, true) := by unfold callee; rw [if_neg h]
abbrev mBox (M : Md) (h : Hd) : Obj := .cells (M.cells h) 29
abbrev sBox : Obj := .cells #[.slice none 0 0, .slice none 0 0] 32
theorem two_below (w : World) (o1 o2 : Obj) : Below w.heap.size w ((w.alloc o1).alloc o2) := ((Below.refl _ _).alloc (Nat.le_refl _) o1).alloc (by simp) o2
set_option maxHeartbeats 2000000 in
set_option maxRecDepth 100000 in
theorem callee_none1 (M : Md) (h : Hd) (n : Int) (w00 w : World) (H0 : ModAt w00 h M) (hb0 : Below w00.heap.size w00 w) (hn : Can n) (hc : n < 0) :
    Calls Tryd.prog 11 #[.agg (M.cells h), .int .i64 n] w (CalleeOut w00 w (callee M n)) := by
  have H := H0.below hb0
  have HM := Aside0.mk (H.below (two_below w (mBox M h) sBox))
  have HB := Aside0.mk (two_below w (mBox M h) sBox)
  have HW := Aside0.mk H0
  have HB0 := Aside0.mk (hb0.trans (HB.out.mono hb0.size))
  obtain ⟨hn1, hn2⟩ := hn
  have hi2 := H.imports.2.1
  have hf2 := H.funcs.2.1
  have hs2 := H.sigs.2.1
  clear H H0 hb0
  have HE := Aside0.mk (show callee M n = (zS, false, false, false) from callee_no (.inl (by unfold calleeN; rw [if_pos (.inl hc)]; decide)))
  have hb : decide (n < 0) = true := by simpa using hc
  go_enter Tryd.func11, Tryd.ntmps11
  go_wp2_with fail
  rw [HE.out]
  exact bodyPost_ret (by simp [results, Tryd.results11, go_sem]) rfl (calleeOut_no HB.out rfl)
set_option maxHeartbeats 2000000 in
set_option maxRecDepth 100000 in
theorem callee_none2 (M : Md) (h : Hd) (n : Int) (w00 w : World) (H0 : ModAt w00 h M) (hb0 : Below w00.heap.size w00 w) (hn : Can n) (hc : 0 ≤ n ∧ (M.imports.length : Int) + M.funcs.length ≤ n) :
    Calls Tryd.prog 11 #[.agg (M.cells h), .int .i64 n] w (CalleeOut w00 w (callee M n)) := by
  have H := H0.below hb0
  have HM := Aside0.mk (H.below (two_below w (mBox M h) sBox))
  have HB := Aside0.mk (two_below w (mBox M h) sBox)
  have HW := Aside0.mk H0
  have HB0 := Aside0.mk (hb0.trans (HB.out.mono hb0.size))
  obtain ⟨hn1, hn2⟩ := hn
  have hi2 := H.imports.2.1
  have hf2 := H.funcs.2.1
  have hs2 := H.sigs.2.1
  clear H H0 hb0
  have HE := Aside0.mk (show callee M n = (zS, false, false, false) from callee_no (.inl (by unfold calleeN; rw [if_pos (.inr hc.2)]; decide)))
  have hb : decide (n < 0) = false := by simp; omega
  have hw : wrap64 (n - (M.imports.length : Int)) = n - (M.imports.length : Int) := by unfold wrap64; omega
  have hb2 : decide (n - (M.imports.length : Int) ≥ (M.funcs.length : Int)) = true := by simp; omega
  clear hc
  go_enter Tryd.func11, Tryd.ntmps11
  go_wp2_with fail
  rw [HE.out]
  exact bodyPost_ret (by simp [results, Tryd.results11, go_sem]) rfl (calleeOut_no HB.out rfl)
set_option maxHeartbeats 2000000 in
set_option maxRecDepth 100000 in
theorem callee_host_neg (M : Md) (h : Hd) (n : Int) (w00 w : World) (H0 : ModAt w00 h M) (hb0 : Below w00.heap.size w00 w) (hn : Can n) (hc : 0 ≤ n ∧ n < M.imports.length ∧ (calleeN M n).1 < 0) :
    Calls Tryd.prog 11 #[.agg (M.cells h), .int .i64 n] w (CalleeOut w00 w (callee M n)) := by
  have H := H0.below hb0
  have HM := Aside0.mk (H.below (two_below w (mBox M h) sBox))
  have HB := Aside0.mk (two_below w (mBox M h) sBox)
  have HW := Aside0.mk H0
  have HB0 := Aside0.mk (hb0.trans (HB.out.mono hb0.size))
  obtain ⟨hn1, hn2⟩ := hn
  have hi2 := H.imports.2.1
  have hf2 := H.funcs.2.1
  have hs2 := H.sigs.2.1
  clear H H0 hb0
  have hN : calleeN M n = (rd M.imports n, true, false) := by unfold calleeN; rw [if_neg (by omega), if_pos hc.2.1]
  obtain ⟨ad, ha, hx0⟩ := Kd.at_int HM.out.imports n hc.1 hc.2.1
  have hb : decide (n < 0) = false := by simp; omega
  obtain ⟨z, hz⟩ : ∃ z, n - (M.imports.length : Int) = z := ⟨_, rfl⟩
  have hw : wrap64 (n - (M.imports.length : Int)) = z := by unfold wrap64; omega
  have hb2 : decide (z ≥ (M.funcs.length : Int)) = false := by simp; omega
  have hb3 : decide (z < 0) = true := by simp; omega
  have hlt0 : 0 ≤ n := hc.1
  have hlt : n < M.imports.length := hc.2.1
  have hl2 := HM.out.l2
  rw [hN] at hc
  dsimp only at hc
  have HE := Aside0.mk (show callee M n = (zS, false, false, false) from callee_no (by rw [hN]; dsimp only; omega))
  obtain ⟨sg, hsg⟩ : ∃ sg, rd M.imports n = sg := ⟨_, rfl⟩
  rw [hsg] at hx0 hc
  have hb4 : decide (sg < 0) = true := by simp; omega
  clear hN hc hsg hz
  go_enter Tryd.func11, Tryd.ntmps11
  go_wp2_with fail
  rw [HE.out]
  exact bodyPost_ret (by simp [results, Tryd.results11, go_sem]) rfl (calleeOut_no HB.out rfl)
set_option maxHeartbeats 2000000 in
set_option maxRecDepth 100000 in
theorem callee_host_big (M : Md) (h : Hd) (n : Int) (w00 w : World) (H0 : ModAt w00 h M) (hb0 : Below w00.heap.size w00 w) (hn : Can n) (hc : 0 ≤ n ∧ n < M.imports.length ∧ 0 ≤ (calleeN M n).1 ∧ (M.sigs.length : Int) ≤ (calleeN M n).1) :
    Calls Tryd.prog 11 #[.agg (M.cells h), .int .i64 n] w (CalleeOut w00 w (callee M n)) := by
  have H := H0.below hb0
  have HM := Aside0.mk (H.below (two_below w (mBox M h) sBox))
  have HB := Aside0.mk (two_below w (mBox M h) sBox)
  have HW := Aside0.mk H0
  have HB0 := Aside0.mk (hb0.trans (HB.out.mono hb0.size))
  obtain ⟨hn1, hn2⟩ := hn
  have hi2 := H.imports.2.1
  have hf2 := H.funcs.2.1
  have hs2 := H.sigs.2.1
  clear H H0 hb0
  have hN : calleeN M n = (rd M.imports n, true, false) := by unfold calleeN; rw [if_neg (by omega), if_pos hc.2.1]
  obtain ⟨ad, ha, hx0⟩ := Kd.at_int HM.out.imports n hc.1 hc.2.1
  have hb : decide (n < 0) = false := by simp; omega
  obtain ⟨z, hz⟩ : ∃ z, n - (M.imports.length : Int) = z := ⟨_, rfl⟩
  have hw : wrap64 (n - (M.imports.length : Int)) = z := by unfold wrap64; omega
  have hb2 : decide (z ≥ (M.funcs.length : Int)) = false := by simp; omega
  have hb3 : decide (z < 0) = true := by simp; omega
  have hlt0 : 0 ≤ n := hc.1
  have hlt : n < M.imports.length := hc.2.1
  have hl2 := HM.out.l2
  rw [hN] at hc
  dsimp only at hc
  have HE := Aside0.mk (show callee M n = (zS, false, false, false) from callee_no (by rw [hN]; dsimp only; omega))
  obtain ⟨sg, hsg⟩ : ∃ sg, rd M.imports n = sg := ⟨_, rfl⟩
  rw [hsg] at hx0 hc
  obtain ⟨sn, rfl⟩ := Int.eq_ofNat_of_zero_le (show 0 ≤ sg by omega)
  have hb5 : decide (M.sigs.length ≤ sn) = true := by simp; omega
  clear hN hc hsg hz
  go_enter Tryd.func11, Tryd.ntmps11
  go_wp2_with fail
  rw [HE.out]
  exact bodyPost_ret (by simp [results, Tryd.results11, go_sem]) rfl (calleeOut_no HB.out rfl)
set_option maxHeartbeats 2000000 in
set_option maxRecDepth 100000 in
theorem callee_host_ok (M : Md) (h : Hd) (n : Int) (w00 w : World) (H0 : ModAt w00 h M) (hb0 : Below w00.heap.size w00 w) (hn : Can n) (hc : 0 ≤ n ∧ n < M.imports.length ∧ 0 ≤ (calleeN M n).1 ∧ (calleeN M n).1 < (M.sigs.length : Int)) :
    Calls Tryd.prog 11 #[.agg (M.cells h), .int .i64 n] w (CalleeOut w00 w (callee M n)) := by
  have H := H0.below hb0
  have HM := Aside0.mk (H.below (two_below w (mBox M h) sBox))
  have HB := Aside0.mk (two_below w (mBox M h) sBox)
  have HW := Aside0.mk H0
  have HB0 := Aside0.mk (hb0.trans (HB.out.mono hb0.size))
  obtain ⟨hn1, hn2⟩ := hn
  have hi2 := H.imports.2.1
  have hf2 := H.funcs.2.1
  have hs2 := H.sigs.2.1
  clear H H0 hb0
  have hN : calleeN M n = (rd M.imports n, true, false) := by unfold calleeN; rw [if_neg (by omega), if_pos hc.2.1]
  obtain ⟨ad, ha, hx0⟩ := Kd.at_int HM.out.imports n hc.1 hc.2.1
  have hb : decide (n < 0) = false := by simp; omega
  obtain ⟨z, hz⟩ : ∃ z, n - (M.imports.length : Int) = z := ⟨_, rfl⟩
  have hw : wrap64 (n - (M.imports.length : Int)) = z := by unfold wrap64; omega
  have hb2 : decide (z ≥ (M.funcs.length : Int)) = false := by simp; omega
  have hb3 : decide (z < 0) = true := by simp; omega
  have hlt0 : 0 ≤ n := hc.1
  have hlt : n < M.imports.length := hc.2.1
  have hl2 := HM.out.l2
  rw [hN] at hc
  dsimp only at hc
  have HE := Aside0.mk (callee_yes (M := M) (n := n) (by rw [hN]; dsimp only; omega))
  rw [hN] at HE
  dsimp only at HE
  obtain ⟨sg, hsg⟩ : ∃ sg, rd M.imports n = sg := ⟨_, rfl⟩
  rw [hsg] at hx0 hc HE
  obtain ⟨sn, rfl⟩ := Int.eq_ofNat_of_zero_le (show 0 ≤ sg by omega)
  have hb5 : decide (M.sigs.length ≤ sn) = false := by simp; omega
  rw [Int.toNat_natCast] at HE
  obtain ⟨ad2, D1, q1, D2, q2, ha2, hy0, hy1, hq1, hq2, hD1, hD2⟩ := at_sig HW.out.sigs sn (by omega)
  have hy0 := (HB0.out.cell (World.block_lt_of_cell? _ _ hy0)).trans hy0
  have hy1 := (HB0.out.cell (World.block_lt_of_cell? _ _ hy1)).trans hy1
  have hlt2 : sn < M.sigs.length := by omega
  have hl1 := HM.out.l1
  have HD := Aside0.mk (And.intro hD1 hD2)
  obtain ⟨S, hS⟩ : ∃ S, M.sigs.getD sn zS = S := ⟨_, rfl⟩
  rw [hS] at hy0 hy1 hq1 hq2 HE HD
  clear hD1 hD2 hS
  clear hN hc hsg hz
  go_enter Tryd.func11, Tryd.ntmps11
  go_wp2_with fail
  rw [HE.out]
  refine bodyPost_ret (v := .tuple #[.agg #[.slice D1 S.1.length q1, .slice D2 S.2.length q2], .bool true, .bool false, .bool true]) (by simp [results, Tryd.results11, go_sem]) rfl ?_
  have HB2 := two_below w (mBox M h) (.cells #[.slice D1 S.1.length q1, .slice D2 S.2.length q2] 32)
  exact ⟨HB2, D1, q1, D2, q2, rfl, hq1, hq2, HD.out.1, HD.out.2⟩
set_option maxHeartbeats 2000000 in
set_option maxRecDepth 100000 in
theorem callee_func_neg (M : Md) (h : Hd) (n : Int) (w00 w : World) (H0 : ModAt w00 h M) (hb0 : Below w00.heap.size w00 w) (hn : Can n) (hc : (M.imports.length : Int) ≤ n ∧ n < (M.imports.length : Int) + M.funcs.length ∧ (calleeN M n).1 < 0) :
    Calls Tryd.prog 11 #[.agg (M.cells h), .int .i64 n] w (CalleeOut w00 w (callee M n)) := by
  have H := H0.below hb0
  have HM := Aside0.mk (H.below (two_below w (mBox M h) sBox))
  have HB := Aside0.mk (two_below w (mBox M h) sBox)
  have HW := Aside0.mk H0
  have HB0 := Aside0.mk (hb0.trans (HB.out.mono hb0.size))
  obtain ⟨hn1, hn2⟩ := hn
  have hi2 := H.imports.2.1
  have hf2 := H.funcs.2.1
  have hs2 := H.sigs.2.1
  clear H H0 hb0
  have hN : calleeN M n = ((M.funcs.getD (n - M.imports.length).toNat zF).1, false, (M.funcs.getD (n - M.imports.length).toNat zF).2.1) := by unfold calleeN; rw [if_neg (by omega), if_neg (by omega)]
  obtain ⟨kn, hkn⟩ : ∃ k : Nat, n - (M.imports.length : Int) = (k : Int) := ⟨(n - (M.imports.length : Int)).toNat, by omega⟩
  have hnn : n = (M.imports.length : Int) + (kn : Int) := by omega
  rw [hkn, Int.toNat_natCast] at hN
  have hlt : kn < M.funcs.length := by omega
  obtain ⟨ad, B1, j1, B2, j2, ha, hx0, hx1, hx2, hx3, _, _, _, _⟩ := at_func HM.out.funcs kn hlt
  have hb : decide (n < 0) = false := by simp; omega
  have hw : wrap64 (n - (M.imports.length : Int)) = (kn : Int) := by unfold wrap64; omega
  have hb2 : decide (M.funcs.length ≤ kn) = false := by simp; omega
  have hl2 := HM.out.l3
  rw [hN] at hc
  dsimp only at hc
  have HE := Aside0.mk (show callee M n = (zS, false, false, false) from callee_no (by rw [hN]; dsimp only; omega))
  obtain ⟨sg, hsg⟩ : ∃ sg, (M.funcs.getD kn zF).1 = sg := ⟨_, rfl⟩
  rw [hsg] at hx0 hc
  obtain ⟨tr, htr⟩ : ∃ tr, (M.funcs.getD kn zF).2.1 = tr := ⟨_, rfl⟩
  rw [htr] at hx1
  have hb4 : decide (sg < 0) = true := by simp; omega
  clear hN hc hsg htr hnn hkn
  go_enter Tryd.func11, Tryd.ntmps11
  go_wp2_with fail
  go_region
  go_wp2_with fail
  rw [HE.out]
  exact bodyPost_ret (by simp [results, Tryd.results11, go_sem]) rfl (calleeOut_no (HB.out.trans ((drew_below _).mono HB.out.size)) rfl)
set_option maxHeartbeats 2000000 in
set_option maxRecDepth 100000 in
theorem callee_func_big (M : Md) (h : Hd) (n : Int) (w00 w : World) (H0 : ModAt w00 h M) (hb0 : Below w00.heap.size w00 w) (hn : Can n) (hc : (M.imports.length : Int) ≤ n ∧ n < (M.imports.length : Int) + M.funcs.length ∧ 0 ≤ (calleeN M n).1 ∧ (M.sigs.length : Int) ≤ (calleeN M n).1) :
    Calls Tryd.prog 11 #[.agg (M.cells h), .int .i64 n] w (CalleeOut w00 w (callee M n)) := by
  have H := H0.below hb0
  have HM := Aside0.mk (H.below (two_below w (mBox M h) sBox))
  have HB := Aside0.mk (two_below w (mBox M h) sBox)
  have HW := Aside0.mk H0
  have HB0 := Aside0.mk (hb0.trans (HB.out.mono hb0.size))
  obtain ⟨hn1, hn2⟩ := hn
  have hi2 := H.imports.2.1
  have hf2 := H.funcs.2.1
  have hs2 := H.sigs.2.1
  clear H H0 hb0
  have hN : calleeN M n = ((M.funcs.getD (n - M.imports.length).toNat zF).1, false, (M.funcs.getD (n - M.imports.length).toNat zF).2.1) := by unfold calleeN; rw [if_neg (by omega), if_neg (by omega)]
  obtain ⟨kn, hkn⟩ : ∃ k : Nat, n - (M.imports.length : Int) = (k : Int) := ⟨(n - (M.imports.length : Int)).toNat, by omega⟩
  have hnn : n = (M.imports.length : Int) + (kn : Int) := by omega
  rw [hkn, Int.toNat_natCast] at hN
  have hlt : kn < M.funcs.length := by omega
  obtain ⟨ad, B1, j1, B2, j2, ha, hx0, hx1, hx2, hx3, _, _, _, _⟩ := at_func HM.out.funcs kn hlt
  have hb : decide (n < 0) = false := by simp; omega
  have hw : wrap64 (n - (M.imports.length : Int)) = (kn : Int) := by unfold wrap64; omega
  have hb2 : decide (M.funcs.length ≤ kn) = false := by simp; omega
  have hl2 := HM.out.l3
  rw [hN] at hc
  dsimp only at hc
  have HE := Aside0.mk (show callee M n = (zS, false, false, false) from callee_no (by rw [hN]; dsimp only; omega))
  obtain ⟨sg, hsg⟩ : ∃ sg, (M.funcs.getD kn zF).1 = sg := ⟨_, rfl⟩
  rw [hsg] at hx0 hc
  obtain ⟨tr, htr⟩ : ∃ tr, (M.funcs.getD kn zF).2.1 = tr := ⟨_, rfl⟩
  rw [htr] at hx1
  obtain ⟨sn, rfl⟩ := Int.eq_ofNat_of_zero_le (show 0 ≤ sg by omega)
  have hb5 : decide (M.sigs.length ≤ sn) = true := by simp; omega
  clear hN hc hsg htr hnn hkn
  go_enter Tryd.func11, Tryd.ntmps11
  go_wp2_with fail
  go_region
  go_wp2_with fail
  rw [HE.out]
  exact bodyPost_ret (by simp [results, Tryd.results11, go_sem]) rfl (calleeOut_no (HB.out.trans ((drew_below _).mono HB.out.size)) rfl)
set_option maxHeartbeats 2000000 in
set_option maxRecDepth 100000 in
theorem callee_func_ok (M : Md) (h : Hd) (n : Int) (w00 w : World) (H0 : ModAt w00 h M) (hb0 : Below w00.heap.size w00 w) (hn : Can n) (hc : (M.imports.length : Int) ≤ n ∧ n < (M.imports.length : Int) + M.funcs.length ∧ 0 ≤ (calleeN M n).1 ∧ (calleeN M n).1 < (M.sigs.length : Int)) :
    Calls Tryd.prog 11 #[.agg (M.cells h), .int .i64 n] w (CalleeOut w00 w (callee M n)) := by
  have H := H0.below hb0
  have HM := Aside0.mk (H.below (two_below w (mBox M h) sBox))
  have HB := Aside0.mk (two_below w (mBox M h) sBox)
  have HW := Aside0.mk H0
  have HB0 := Aside0.mk (hb0.trans (HB.out.mono hb0.size))
  obtain ⟨hn1, hn2⟩ := hn
  have hi2 := H.imports.2.1
  have hf2 := H.funcs.2.1
  have hs2 := H.sigs.2.1
  clear H H0 hb0
  have hN : calleeN M n = ((M.funcs.getD (n - M.imports.length).toNat zF).1, false, (M.funcs.getD (n - M.imports.length).toNat zF).2.1) := by unfold calleeN; rw [if_neg (by omega), if_neg (by omega)]
  obtain ⟨kn, hkn⟩ : ∃ k : Nat, n - (M.imports.length : Int) = (k : Int) := ⟨(n - (M.imports.length : Int)).toNat, by omega⟩
  have hnn : n = (M.imports.length : Int) + (kn : Int) := by omega
  rw [hkn, Int.toNat_natCast] at hN
  have hlt : kn < M.funcs.length := by omega
  obtain ⟨ad, B1, j1, B2, j2, ha, hx0, hx1, hx2, hx3, _, _, _, _⟩ := at_func HM.out.funcs kn hlt
  have hb : decide (n < 0) = false := by simp; omega
  have hw : wrap64 (n - (M.imports.length : Int)) = (kn : Int) := by unfold wrap64; omega
  have hb2 : decide (M.funcs.length ≤ kn) = false := by simp; omega
  have hl2 := HM.out.l3
  rw [hN] at hc
  dsimp only at hc
  have HE := Aside0.mk (callee_yes (M := M) (n := n) (by rw [hN]; dsimp only; omega))
  rw [hN] at HE
  dsimp only at HE
  obtain ⟨sg, hsg⟩ : ∃ sg, (M.funcs.getD kn zF).1 = sg := ⟨_, rfl⟩
  rw [hsg] at hx0 hc HE
  obtain ⟨tr, htr⟩ : ∃ tr, (M.funcs.getD kn zF).2.1 = tr := ⟨_, rfl⟩
  rw [htr] at hx1 HE
  obtain ⟨sn, rfl⟩ := Int.eq_ofNat_of_zero_le (show 0 ≤ sg by omega)
  have hb5 : decide (M.sigs.length ≤ sn) = false := by simp; omega
  rw [Int.toNat_natCast] at HE
  obtain ⟨ad2, D1, q1, D2, q2, ha2, hy0, hy1, hq1, hq2, hD1, hD2⟩ := at_sig HW.out.sigs sn (by omega)
  have hy0 := (HB0.out.cell (World.block_lt_of_cell? _ _ hy0)).trans hy0
  have hy1 := (HB0.out.cell (World.block_lt_of_cell? _ _ hy1)).trans hy1
  have hlt2 : sn < M.sigs.length := by omega
  have hl1 := HM.out.l1
  have HD := Aside0.mk (And.intro hD1 hD2)
  obtain ⟨S, hS⟩ : ∃ S, M.sigs.getD sn zS = S := ⟨_, rfl⟩
  rw [hS] at hy0 hy1 hq1 hq2 HE HD
  clear hD1 hD2 hS
  clear hN hc hsg htr hnn hkn
  go_enter Tryd.func11, Tryd.ntmps11
  go_wp2_with fail
  go_region
  go_wp2_with fail
  rw [HE.out]
  refine bodyPost_ret (v := .tuple #[.agg #[.slice D1 S.1.length q1, .slice D2 S.2.length q2], .bool false, .bool tr, .bool true]) (by simp [results, Tryd.results11, go_sem]) rfl ?_
  have HB2 := (two_below w (mBox M h) (.cells #[.slice D1 S.1.length q1, .slice D2 S.2.length q2] 32)).trans ((drew_below _).mono (two_below _ _ _).size)
  exact ⟨HB2, D1, q1, D2, q2, rfl, hq1, hq2, HD.out.1, HD.out.2⟩
theorem callee_calls (M : Md) (h : Hd) (n : Int) (w00 w : World) (H0 : ModAt w00 h M) (hb0 : Below w00.heap.size w00 w) (hn : Can n) :
    Calls Tryd.prog 11 #[.agg (M.cells h), .int .i64 n] w (CalleeOut w00 w (callee M n)) := by
  by_cases h1 : n < 0
  · exact callee_none1 M h n w00 w H0 hb0 hn h1
  by_cases h2 : (M.imports.length : Int) + M.funcs.length ≤ n
  · exact callee_none2 M h n w00 w H0 hb0 hn ⟨by omega, h2⟩
  by_cases h3 : n < M.imports.length
  · by_cases h4 : (calleeN M n).1 < 0
    · exact callee_host_neg M h n w00 w H0 hb0 hn ⟨by omega, h3, h4⟩
    by_cases h5 : (M.sigs.length : Int) ≤ (calleeN M n).1
    · exact callee_host_big M h n w00 w H0 hb0 hn ⟨by omega, h3, by omega, h5⟩
    exact callee_host_ok M h n w00 w H0 hb0 hn ⟨by omega, h3, by omega, by omega⟩
  · by_cases h4 : (calleeN M n).1 < 0
    · exact callee_func_neg M h n w00 w H0 hb0 hn ⟨by omega, by omega, h4⟩
    by_cases h5 : (M.sigs.length : Int) ≤ (calleeN M n).1
    · exact callee_func_big M h n w00 w H0 hb0 hn ⟨by omega, by omega, by omega, h5⟩
    exact callee_func_ok M h n w00 w H0 hb0 hn ⟨by omega, by omega, by omega, by omega⟩
end Go.Proofs.YtjjhhmchomabeaaDoor.Valid
