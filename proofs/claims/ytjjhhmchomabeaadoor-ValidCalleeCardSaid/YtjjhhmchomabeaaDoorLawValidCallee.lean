/- Of any module it is told whom a call of any number calls, as the chapter says (ValidCallee): the law returns true whatever it is handed. -/
import Derived.Test.YtjjhhmchomabeaaDoorValCallee
import Derived.Test.YtjjhhmchomabeaaDoorValL
import Derived.Test.YtjjhhmchomabeaaDoorModAt
import Derived.Test.YtjjhhmchomabeaaDoorCards
import Derived.Test.YtjjhhmchomabeaaDoorTie
import Derived.ChangeSame
import Derived.ChangeVars
import Derived.JoinedOf
import Derived.RowKit
import Derived.RowKitTokens
import Derived.LaidLaws
import Derived.LaidHandle
import Derived.Stop.Joined
import Derived.SevenTiedAt
namespace Go.Proofs.YtjjhhmchomabeaaDoor.Valid
open Go.RowKit Go.Proofs.YtjjhhmchomabeaaDoorW.PrintWords Go.Proofs.YtjjhhmchomabeaaDoorW.PrintLast Go.Proofs.YtjjhhmchomabeaaDoor.Mem Go.Proofs.YtjjhhmchomabeaaDoor.Nest
set_option linter.unusedVariables false
set_option linter.unusedSimpArgs false

set_option maxHeartbeats 2000000 in
set_option maxRecDepth 100000 in
theorem rcallee_none1 (M : Md) (h : Hd) (n : Int) (w00 w : World) (H0 : ModAt w00 h M) (hb0 : Below w00.heap.size w00 w) (hn : Can n) (hsum : (M.imports.length : Int) + M.funcs.length < 9223372036854775808) (hc : n < 0) :
    Calls Tryd.prog 12 #[.agg (M.cells h), .int .i64 n] w (CalleeOut w00 w (callee M n)) := by
  have H := H0.below hb0
  have HM := Aside0.mk (H.below (two_below w (mBox M h) sBox))
  have HB := Aside0.mk (two_below w (mBox M h) sBox)
  have HW := Aside0.mk H0
  have HB0 := Aside0.mk (hb0.trans (HB.out.mono hb0.size))
  obtain ⟨hn1, hn2⟩ := hn
  have hi2 := H.imports.2.1
  have hf2 := H.funcs.2.1
  have hs2 := H.sigs.2.1
  clear H H0 hb0
  have HE := Aside0.mk (show callee M n = (zS, false, false, false) from callee_no (.inl (by unfold calleeN; rw [if_pos (.inl hc)]; decide)))
  have hb : decide (n < 0) = true := by simpa using hc
  go_enter Tryd.func12, Tryd.ntmps12
  go_wp2_with fail
  rw [HE.out]
  exact bodyPost_ret (by simp [results, Tryd.results12, go_sem]) rfl (calleeOut_no HB.out rfl)
set_option maxHeartbeats 2000000 in
set_option maxRecDepth 100000 in
theorem rcallee_none2 (M : Md) (h : Hd) (n : Int) (w00 w : World) (H0 : ModAt w00 h M) (hb0 : Below w00.heap.size w00 w) (hn : Can n) (hsum : (M.imports.length : Int) + M.funcs.length < 9223372036854775808) (hc : 0 ≤ n ∧ (M.imports.length : Int) + M.funcs.length ≤ n) :
    Calls Tryd.prog 12 #[.agg (M.cells h), .int .i64 n] w (CalleeOut w00 w (callee M n)) := by
  have H := H0.below hb0
  have HM := Aside0.mk (H.below (two_below w (mBox M h) sBox))
  have HB := Aside0.mk (two_below w (mBox M h) sBox)
  have HW := Aside0.mk H0
  have HB0 := Aside0.mk (hb0.trans (HB.out.mono hb0.size))
  obtain ⟨hn1, hn2⟩ := hn
  have hi2 := H.imports.2.1
  have hf2 := H.funcs.2.1
  have hs2 := H.sigs.2.1
  clear H H0 hb0
  obtain ⟨sm, hsm⟩ : ∃ s, (M.imports.length : Int) + M.funcs.length = s := ⟨_, rfl⟩
  have hws : wrap64 ((M.imports.length : Int) + M.funcs.length) = sm := by unfold wrap64; omega
  have hbs : decide (sm ≤ n) = true := by simp; omega
  have HE := Aside0.mk (show callee M n = (zS, false, false, false) from callee_no (.inl (by unfold calleeN; rw [if_pos (.inr hc.2)]; decide)))
  have hb : decide (n < 0) = false := by simp; omega
  have hw : wrap64 (n - (M.imports.length : Int)) = n - (M.imports.length : Int) := by unfold wrap64; omega
  have hb2 : decide (n - (M.imports.length : Int) ≥ (M.funcs.length : Int)) = true := by simp; omega
  clear hc
  clear hsm hsum
  go_enter Tryd.func12, Tryd.ntmps12
  go_wp2_with fail
  rw [HE.out]
  exact bodyPost_ret (by simp [results, Tryd.results12, go_sem]) rfl (calleeOut_no HB.out rfl)
set_option maxHeartbeats 2000000 in
set_option maxRecDepth 100000 in
theorem rcallee_host_neg (M : Md) (h : Hd) (n : Int) (w00 w : World) (H0 : ModAt w00 h M) (hb0 : Below w00.heap.size w00 w) (hn : Can n) (hsum : (M.imports.length : Int) + M.funcs.length < 9223372036854775808) (hc : 0 ≤ n ∧ n < M.imports.length ∧ (calleeN M n).1 < 0) :
    Calls Tryd.prog 12 #[.agg (M.cells h), .int .i64 n] w (CalleeOut w00 w (callee M n)) := by
  have H := H0.below hb0
  have HM := Aside0.mk (H.below (two_below w (mBox M h) sBox))
  have HB := Aside0.mk (two_below w (mBox M h) sBox)
  have HW := Aside0.mk H0
  have HB0 := Aside0.mk (hb0.trans (HB.out.mono hb0.size))
  obtain ⟨hn1, hn2⟩ := hn
  have hi2 := H.imports.2.1
  have hf2 := H.funcs.2.1
  have hs2 := H.sigs.2.1
  clear H H0 hb0
  obtain ⟨sm, hsm⟩ : ∃ s, (M.imports.length : Int) + M.funcs.length = s := ⟨_, rfl⟩
  have hws : wrap64 ((M.imports.length : Int) + M.funcs.length) = sm := by unfold wrap64; omega
  have hbs : decide (sm ≤ n) = false := by simp; omega
  have hbh : decide (n < (M.imports.length : Int)) = true := by simp; omega
  have hN : calleeN M n = (rd M.imports n, true, false) := by unfold calleeN; rw [if_neg (by omega), if_pos hc.2.1]
  obtain ⟨ad, ha, hx0⟩ := Kd.at_int HM.out.imports n hc.1 hc.2.1
  have hb : decide (n < 0) = false := by simp; omega
  obtain ⟨z, hz⟩ : ∃ z, n - (M.imports.length : Int) = z := ⟨_, rfl⟩
  have hw : wrap64 (n - (M.imports.length : Int)) = z := by unfold wrap64; omega
  have hb2 : decide (z ≥ (M.funcs.length : Int)) = false := by simp; omega
  have hb3 : decide (z < 0) = true := by simp; omega
  have hlt0 : 0 ≤ n := hc.1
  have hlt : n < M.imports.length := hc.2.1
  have hl2 := HM.out.l2
  rw [hN] at hc
  dsimp only at hc
  have HE := Aside0.mk (show callee M n = (zS, false, false, false) from callee_no (by rw [hN]; dsimp only; omega))
  obtain ⟨sg, hsg⟩ : ∃ sg, rd M.imports n = sg := ⟨_, rfl⟩
  rw [hsg] at hx0 hc
  have hb4 : decide (sg < 0) = true := by simp; omega
  clear hN hc hsg hz
  clear hsm hsum
  go_enter Tryd.func12, Tryd.ntmps12
  go_wp2_with fail
  rw [HE.out]
  exact bodyPost_ret (by simp [results, Tryd.results12, go_sem]) rfl (calleeOut_no HB.out rfl)
set_option maxHeartbeats 2000000 in
set_option maxRecDepth 100000 in
theorem rcallee_host_big (M : Md) (h : Hd) (n : Int) (w00 w : World) (H0 : ModAt w00 h M) (hb0 : Below w00.heap.size w00 w) (hn : Can n) (hsum : (M.imports.length : Int) + M.funcs.length < 9223372036854775808) (hc : 0 ≤ n ∧ n < M.imports.length ∧ 0 ≤ (calleeN M n).1 ∧ (M.sigs.length : Int) ≤ (calleeN M n).1) :
    Calls Tryd.prog 12 #[.agg (M.cells h), .int .i64 n] w (CalleeOut w00 w (callee M n)) := by
  have H := H0.below hb0
  have HM := Aside0.mk (H.below (two_below w (mBox M h) sBox))
  have HB := Aside0.mk (two_below w (mBox M h) sBox)
  have HW := Aside0.mk H0
  have HB0 := Aside0.mk (hb0.trans (HB.out.mono hb0.size))
  obtain ⟨hn1, hn2⟩ := hn
  have hi2 := H.imports.2.1
  have hf2 := H.funcs.2.1
  have hs2 := H.sigs.2.1
  clear H H0 hb0
  obtain ⟨sm, hsm⟩ : ∃ s, (M.imports.length : Int) + M.funcs.length = s := ⟨_, rfl⟩
  have hws : wrap64 ((M.imports.length : Int) + M.funcs.length) = sm := by unfold wrap64; omega
  have hbs : decide (sm ≤ n) = false := by simp; omega
  have hbh : decide (n < (M.imports.length : Int)) = true := by simp; omega
  have hN : calleeN M n = (rd M.imports n, true, false) := by unfold calleeN; rw [if_neg (by omega), if_pos hc.2.1]
  obtain ⟨ad, ha, hx0⟩ := Kd.at_int HM.out.imports n hc.1 hc.2.1
  have hb : decide (n < 0) = false := by simp; omega
  obtain ⟨z, hz⟩ : ∃ z, n - (M.imports.length : Int) = z := ⟨_, rfl⟩
  have hw : wrap64 (n - (M.imports.length : Int)) = z := by unfold wrap64; omega
  have hb2 : decide (z ≥ (M.funcs.length : Int)) = false := by simp; omega
  have hb3 : decide (z < 0) = true := by simp; omega
  have hlt0 : 0 ≤ n := hc.1
  have hlt : n < M.imports.length := hc.2.1
  have hl2 := HM.out.l2
  rw [hN] at hc
  dsimp only at hc
  have HE := Aside0.mk (show callee M n = (zS, false, false, false) from callee_no (by rw [hN]; dsimp only; omega))
  obtain ⟨sg, hsg⟩ : ∃ sg, rd M.imports n = sg := ⟨_, rfl⟩
  rw [hsg] at hx0 hc
  obtain ⟨sn, rfl⟩ := Int.eq_ofNat_of_zero_le (show 0 ≤ sg by omega)
  have hb5 : decide (M.sigs.length ≤ sn) = true := by simp; omega
  clear hN hc hsg hz
  clear hsm hsum
  go_enter Tryd.func12, Tryd.ntmps12
  go_wp2_with fail
  rw [HE.out]
  exact bodyPost_ret (by simp [results, Tryd.results12, go_sem]) rfl (calleeOut_no HB.out rfl)
set_option maxHeartbeats 2000000 in
set_option maxRecDepth 100000 in
theorem rcallee_host_ok (M : Md) (h : Hd) (n : Int) (w00 w : World) (H0 : ModAt w00 h M) (hb0 : Below w00.heap.size w00 w) (hn : Can n) (hsum : (M.imports.length : Int) + M.funcs.length < 9223372036854775808) (hc : 0 ≤ n ∧ n < M.imports.length ∧ 0 ≤ (calleeN M n).1 ∧ (calleeN M n).1 < (M.sigs.length : Int)) :
    Calls Tryd.prog 12 #[.agg (M.cells h), .int .i64 n] w (CalleeOut w00 w (callee M n)) := by
  have H := H0.below hb0
  have HM := Aside0.mk (H.below (two_below w (mBox M h) sBox))
  have HB := Aside0.mk (two_below w (mBox M h) sBox)
  have HW := Aside0.mk H0
  have HB0 := Aside0.mk (hb0.trans (HB.out.mono hb0.size))
  obtain ⟨hn1, hn2⟩ := hn
  have hi2 := H.imports.2.1
  have hf2 := H.funcs.2.1
  have hs2 := H.sigs.2.1
  clear H H0 hb0
  obtain ⟨sm, hsm⟩ : ∃ s, (M.imports.length : Int) + M.funcs.length = s := ⟨_, rfl⟩
  have hws : wrap64 ((M.imports.length : Int) + M.funcs.length) = sm := by unfold wrap64; omega
  have hbs : decide (sm ≤ n) = false := by simp; omega
  have hbh : decide (n < (M.imports.length : Int)) = true := by simp; omega
  have hN : calleeN M n = (rd M.imports n, true, false) := by unfold calleeN; rw [if_neg (by omega), if_pos hc.2.1]
  obtain ⟨ad, ha, hx0⟩ := Kd.at_int HM.out.imports n hc.1 hc.2.1
  have hb : decide (n < 0) = false := by simp; omega
  obtain ⟨z, hz⟩ : ∃ z, n - (M.imports.length : Int) = z := ⟨_, rfl⟩
  have hw : wrap64 (n - (M.imports.length : Int)) = z := by unfold wrap64; omega
  have hb2 : decide (z ≥ (M.funcs.length : Int)) = false := by simp; omega
  have hb3 : decide (z < 0) = true := by simp; omega
  have hlt0 : 0 ≤ n := hc.1
  have hlt : n < M.imports.length := hc.2.1
  have hl2 := HM.out.l2
  rw [hN] at hc
  dsimp only at hc
  have HE := Aside0.mk (callee_yes (M := M) (n := n) (by rw [hN]; dsimp only; omega))
  rw [hN] at HE
  dsimp only at HE
  obtain ⟨sg, hsg⟩ : ∃ sg, rd M.imports n = sg := ⟨_, rfl⟩
  rw [hsg] at hx0 hc HE
  obtain ⟨sn, rfl⟩ := Int.eq_ofNat_of_zero_le (show 0 ≤ sg by omega)
  have hb5 : decide (M.sigs.length ≤ sn) = false := by simp; omega
  rw [Int.toNat_natCast] at HE
  obtain ⟨ad2, D1, q1, D2, q2, ha2, hy0, hy1, hq1, hq2, hD1, hD2⟩ := at_sig HW.out.sigs sn (by omega)
  have hy0 := (HB0.out.cell (World.block_lt_of_cell? _ _ hy0)).trans hy0
  have hy1 := (HB0.out.cell (World.block_lt_of_cell? _ _ hy1)).trans hy1
  have hlt2 : sn < M.sigs.length := by omega
  have hl1 := HM.out.l1
  have HD := Aside0.mk (And.intro hD1 hD2)
  obtain ⟨S, hS⟩ : ∃ S, M.sigs.getD sn zS = S := ⟨_, rfl⟩
  rw [hS] at hy0 hy1 hq1 hq2 HE HD
  clear hD1 hD2 hS
  clear hN hc hsg hz
  clear hsm hsum
  go_enter Tryd.func12, Tryd.ntmps12
  go_wp2_with fail
  rw [HE.out]
  refine bodyPost_ret (v := .tuple #[.agg #[.slice D1 S.1.length q1, .slice D2 S.2.length q2], .bool true, .bool false, .bool true]) (by simp [results, Tryd.results12, go_sem]) rfl ?_
  have HB2 := two_below w (mBox M h) (.cells #[.slice D1 S.1.length q1, .slice D2 S.2.length q2] 32)
  exact ⟨HB2, D1, q1, D2, q2, rfl, hq1, hq2, HD.out.1, HD.out.2⟩
set_option maxHeartbeats 2000000 in
set_option maxRecDepth 100000 in
theorem rcallee_func_neg (M : Md) (h : Hd) (n : Int) (w00 w : World) (H0 : ModAt w00 h M) (hb0 : Below w00.heap.size w00 w) (hn : Can n) (hsum : (M.imports.length : Int) + M.funcs.length < 9223372036854775808) (hc : (M.imports.length : Int) ≤ n ∧ n < (M.imports.length : Int) + M.funcs.length ∧ (calleeN M n).1 < 0) :
    Calls Tryd.prog 12 #[.agg (M.cells h), .int .i64 n] w (CalleeOut w00 w (callee M n)) := by
  have H := H0.below hb0
  have HM := Aside0.mk (H.below (two_below w (mBox M h) sBox))
  have HB := Aside0.mk (two_below w (mBox M h) sBox)
  have HW := Aside0.mk H0
  have HB0 := Aside0.mk (hb0.trans (HB.out.mono hb0.size))
  obtain ⟨hn1, hn2⟩ := hn
  have hi2 := H.imports.2.1
  have hf2 := H.funcs.2.1
  have hs2 := H.sigs.2.1
  clear H H0 hb0
  obtain ⟨sm, hsm⟩ : ∃ s, (M.imports.length : Int) + M.funcs.length = s := ⟨_, rfl⟩
  have hws : wrap64 ((M.imports.length : Int) + M.funcs.length) = sm := by unfold wrap64; omega
  have hbs : decide (sm ≤ n) = false := by simp; omega
  have hbh : decide (n < (M.imports.length : Int)) = false := by simp; omega
  have hN : calleeN M n = ((M.funcs.getD (n - M.imports.length).toNat zF).1, false, (M.funcs.getD (n - M.imports.length).toNat zF).2.1) := by unfold calleeN; rw [if_neg (by omega), if_neg (by omega)]
  obtain ⟨kn, hkn⟩ : ∃ k : Nat, n - (M.imports.length : Int) = (k : Int) := ⟨(n - (M.imports.length : Int)).toNat, by omega⟩
  have hnn : n = (M.imports.length : Int) + (kn : Int) := by omega
  rw [hkn, Int.toNat_natCast] at hN
  have hlt : kn < M.funcs.length := by omega
  obtain ⟨ad, B1, j1, B2, j2, ha, hx0, hx1, hx2, hx3, _, _, _, _⟩ := at_func HM.out.funcs kn hlt
  have hb : decide (n < 0) = false := by simp; omega
  have hw : wrap64 (n - (M.imports.length : Int)) = (kn : Int) := by unfold wrap64; omega
  have hb2 : decide (M.funcs.length ≤ kn) = false := by simp; omega
  have hl2 := HM.out.l3
  rw [hN] at hc
  dsimp only at hc
  have HE := Aside0.mk (show callee M n = (zS, false, false, false) from callee_no (by rw [hN]; dsimp only; omega))
  obtain ⟨sg, hsg⟩ : ∃ sg, (M.funcs.getD kn zF).1 = sg := ⟨_, rfl⟩
  rw [hsg] at hx0 hc
  obtain ⟨tr, htr⟩ : ∃ tr, (M.funcs.getD kn zF).2.1 = tr := ⟨_, rfl⟩
  rw [htr] at hx1
  have hb4 : decide (sg < 0) = true := by simp; omega
  clear hN hc hsg htr hnn hkn
  clear hsm hsum
  go_enter Tryd.func12, Tryd.ntmps12
  go_wp2_with fail
  rw [HE.out]
  exact bodyPost_ret (by simp [results, Tryd.results12, go_sem]) rfl (calleeOut_no HB.out rfl)
set_option maxHeartbeats 2000000 in
set_option maxRecDepth 100000 in
theorem rcallee_func_big (M : Md) (h : Hd) (n : Int) (w00 w : World) (H0 : ModAt w00 h M) (hb0 : Below w00.heap.size w00 w) (hn : Can n) (hsum : (M.imports.length : Int) + M.funcs.length < 9223372036854775808) (hc : (M.imports.length : Int) ≤ n ∧ n < (M.imports.length : Int) + M.funcs.length ∧ 0 ≤ (calleeN M n).1 ∧ (M.sigs.length : Int) ≤ (calleeN M n).1) :
    Calls Tryd.prog 12 #[.agg (M.cells h), .int .i64 n] w (CalleeOut w00 w (callee M n)) := by
  have H := H0.below hb0
  have HM := Aside0.mk (H.below (two_below w (mBox M h) sBox))
  have HB := Aside0.mk (two_below w (mBox M h) sBox)
  have HW := Aside0.mk H0
  have HB0 := Aside0.mk (hb0.trans (HB.out.mono hb0.size))
  obtain ⟨hn1, hn2⟩ := hn
  have hi2 := H.imports.2.1
  have hf2 := H.funcs.2.1
  have hs2 := H.sigs.2.1
  clear H H0 hb0
  obtain ⟨sm, hsm⟩ : ∃ s, (M.imports.length : Int) + M.funcs.length = s := ⟨_, rfl⟩
  have hws : wrap64 ((M.imports.length : Int) + M.funcs.length) = sm := by unfold wrap64; omega
  have hbs : decide (sm ≤ n) = false := by simp; omega
  have hbh : decide (n < (M.imports.length : Int)) = false := by simp; omega
  have hN : calleeN M n = ((M.funcs.getD (n - M.imports.length).toNat zF).1, false, (M.funcs.getD (n - M.imports.length).toNat zF).2.1) := by unfold calleeN; rw [if_neg (by omega), if_neg (by omega)]
  obtain ⟨kn, hkn⟩ : ∃ k : Nat, n - (M.imports.length : Int) = (k : Int) := ⟨(n - (M.imports.length : Int)).toNat, by omega⟩
  have hnn : n = (M.imports.length : Int) + (kn : Int) := by omega
  rw [hkn, Int.toNat_natCast] at hN
  have hlt : kn < M.funcs.length := by omega
  obtain ⟨ad, B1, j1, B2, j2, ha, hx0, hx1, hx2, hx3, _, _, _, _⟩ := at_func HM.out.funcs kn hlt
  have hb : decide (n < 0) = false := by simp; omega
  have hw : wrap64 (n - (M.imports.length : Int)) = (kn : Int) := by unfold wrap64; omega
  have hb2 : decide (M.funcs.length ≤ kn) = false := by simp; omega
  have hl2 := HM.out.l3
  rw [hN] at hc
  dsimp only at hc
  have HE := Aside0.mk (show callee M n = (zS, false, false, false) from callee_no (by rw [hN]; dsimp only; omega))
  obtain ⟨sg, hsg⟩ : ∃ sg, (M.funcs.getD kn zF).1 = sg := ⟨_, rfl⟩
  rw [hsg] at hx0 hc
  obtain ⟨tr, htr⟩ : ∃ tr, (M.funcs.getD kn zF).2.1 = tr := ⟨_, rfl⟩
  rw [htr] at hx1
  obtain ⟨sn, rfl⟩ := Int.eq_ofNat_of_zero_le (show 0 ≤ sg by omega)
  have hb5 : decide (M.sigs.length ≤ sn) = true := by simp; omega
  clear hN hc hsg htr hnn hkn
  clear hsm hsum
  go_enter Tryd.func12, Tryd.ntmps12
  go_wp2_with fail
  rw [HE.out]
  exact bodyPost_ret (by simp [results, Tryd.results12, go_sem]) rfl (calleeOut_no HB.out rfl)
set_option maxHeartbeats 2000000 in
set_option maxRecDepth 100000 in
theorem rcallee_func_ok (M : Md) (h : Hd) (n : Int) (w00 w : World) (H0 : ModAt w00 h M) (hb0 : Below w00.heap.size w00 w) (hn : Can n) (hsum : (M.imports.length : Int) + M.funcs.length < 9223372036854775808) (hc : (M.imports.length : Int) ≤ n ∧ n < (M.imports.length : Int) + M.funcs.length ∧ 0 ≤ (calleeN M n).1 ∧ (calleeN M n).1 < (M.sigs.length : Int)) :
    Calls Tryd.prog 12 #[.agg (M.cells h), .int .i64 n] w (CalleeOut w00 w (callee M n)) := by
  have H := H0.below hb0
  have HM := Aside0.mk (H.below (two_below w (mBox M h) sBox))
  have HB := Aside0.mk (two_below w (mBox M h) sBox)
  have HW := Aside0.mk H0
  have HB0 := Aside0.mk (hb0.trans (HB.out.mono hb0.size))
  obtain ⟨hn1, hn2⟩ := hn
  have hi2 := H.imports.2.1
  have hf2 := H.funcs.2.1
  have hs2 := H.sigs.2.1
  clear H H0 hb0
  obtain ⟨sm, hsm⟩ : ∃ s, (M.imports.length : Int) + M.funcs.length = s := ⟨_, rfl⟩
  have hws : wrap64 ((M.imports.length : Int) + M.funcs.length) = sm := by unfold wrap64; omega
  have hbs : decide (sm ≤ n) = false := by simp; omega
  have hbh : decide (n < (M.imports.length : Int)) = false := by simp; omega
  have hN : calleeN M n = ((M.funcs.getD (n - M.imports.length).toNat zF).1, false, (M.funcs.getD (n - M.imports.length).toNat zF).2.1) := by unfold calleeN; rw [if_neg (by omega), if_neg (by omega)]
  obtain ⟨kn, hkn⟩ : ∃ k : Nat, n - (M.imports.length : Int) = (k : Int) := ⟨(n - (M.imports.length : Int)).toNat, by omega⟩
  have hnn : n = (M.imports.length : Int) + (kn : Int) := by omega
  rw [hkn, Int.toNat_natCast] at hN
  have hlt : kn < M.funcs.length := by omega
  obtain ⟨ad, B1, j1, B2, j2, ha, hx0, hx1, hx2, hx3, _, _, _, _⟩ := at_func HM.out.funcs kn hlt
  have hb : decide (n < 0) = false := by simp; omega
  have hw : wrap64 (n - (M.imports.length : Int)) = (kn : Int) := by unfold wrap64; omega
  have hb2 : decide (M.funcs.length ≤ kn) = false := by simp; omega
  have hl2 := HM.out.l3
  rw [hN] at hc
  dsimp only at hc
  have HE := Aside0.mk (callee_yes (M := M) (n := n) (by rw [hN]; dsimp only; omega))
  rw [hN] at HE
  dsimp only at HE
  obtain ⟨sg, hsg⟩ : ∃ sg, (M.funcs.getD kn zF).1 = sg := ⟨_, rfl⟩
  rw [hsg] at hx0 hc HE
  obtain ⟨tr, htr⟩ : ∃ tr, (M.funcs.getD kn zF).2.1 = tr := ⟨_, rfl⟩
  rw [htr] at hx1 HE
  obtain ⟨sn, rfl⟩ := Int.eq_ofNat_of_zero_le (show 0 ≤ sg by omega)
  have hb5 : decide (M.sigs.length ≤ sn) = false := by simp; omega
  rw [Int.toNat_natCast] at HE
  obtain ⟨ad2, D1, q1, D2, q2, ha2, hy0, hy1, hq1, hq2, hD1, hD2⟩ := at_sig HW.out.sigs sn (by omega)
  have hy0 := (HB0.out.cell (World.block_lt_of_cell? _ _ hy0)).trans hy0
  have hy1 := (HB0.out.cell (World.block_lt_of_cell? _ _ hy1)).trans hy1
  have hlt2 : sn < M.sigs.length := by omega
  have hl1 := HM.out.l1
  have HD := Aside0.mk (And.intro hD1 hD2)
  obtain ⟨S, hS⟩ : ∃ S, M.sigs.getD sn zS = S := ⟨_, rfl⟩
  rw [hS] at hy0 hy1 hq1 hq2 HE HD
  clear hD1 hD2 hS
  clear hN hc hsg htr hnn hkn
  clear hsm hsum
  go_enter Tryd.func12, Tryd.ntmps12
  go_wp2_with fail
  rw [HE.out]
  refine bodyPost_ret (v := .tuple #[.agg #[.slice D1 S.1.length q1, .slice D2 S.2.length q2], .bool false, .bool tr, .bool true]) (by simp [results, Tryd.results12, go_sem]) rfl ?_
  have HB2 := two_below w (mBox M h) (.cells #[.slice D1 S.1.length q1, .slice D2 S.2.length q2] 32)
  exact ⟨HB2, D1, q1, D2, q2, rfl, hq1, hq2, HD.out.1, HD.out.2⟩
theorem rcallee_calls (M : Md) (h : Hd) (n : Int) (w00 w : World) (H0 : ModAt w00 h M) (hb0 : Below w00.heap.size w00 w) (hn : Can n) (hsum : (M.imports.length : Int) + M.funcs.length < 9223372036854775808) :
    Calls Tryd.prog 12 #[.agg (M.cells h), .int .i64 n] w (CalleeOut w00 w (callee M n)) := by
  by_cases h1 : n < 0
  · exact rcallee_none1 M h n w00 w H0 hb0 hn hsum h1
  by_cases h2 : (M.imports.length : Int) + M.funcs.length ≤ n
  · exact rcallee_none2 M h n w00 w H0 hb0 hn hsum ⟨by omega, h2⟩
  by_cases h3 : n < M.imports.length
  · by_cases h4 : (calleeN M n).1 < 0
    · exact rcallee_host_neg M h n w00 w H0 hb0 hn hsum ⟨by omega, h3, h4⟩
    by_cases h5 : (M.sigs.length : Int) ≤ (calleeN M n).1
    · exact rcallee_host_big M h n w00 w H0 hb0 hn hsum ⟨by omega, h3, by omega, h5⟩
    exact rcallee_host_ok M h n w00 w H0 hb0 hn hsum ⟨by omega, h3, by omega, by omega⟩
  · by_cases h4 : (calleeN M n).1 < 0
    · exact rcallee_func_neg M h n w00 w H0 hb0 hn hsum ⟨by omega, by omega, h4⟩
    by_cases h5 : (M.sigs.length : Int) ≤ (calleeN M n).1
    · exact rcallee_func_big M h n w00 w H0 hb0 hn hsum ⟨by omega, by omega, by omega, h5⟩
    exact rcallee_func_ok M h n w00 w H0 hb0 hn hsum ⟨by omega, by omega, by omega, by omega⟩
end Go.Proofs.YtjjhhmchomabeaaDoor.Valid
namespace Go.Proofs.YtjjhhmchomabeaaDoor.Valid
open Go.RowKit Go.Proofs.YtjjhhmchomabeaaDoorW.PrintWords Go.Proofs.YtjjhhmchomabeaaDoorW.PrintLast Go.Proofs.YtjjhhmchomabeaaDoor.Mem Go.Proofs.YtjjhhmchomabeaaDoor.Nest
set_option linter.unusedVariables false
set_option linter.unusedSimpArgs false

set_option maxHeartbeats 8000000 in
set_option maxRecDepth 100000 in
theorem callee_walk (M : Md) (h : Hd) (n : Int) (w : World) (H : ModAt w h M) (hn : Can n) (hsum : (M.imports.length : Int) + M.funcs.length < 9223372036854775808) (hl : Laid w) :
    Calls Tryd.prog 3 #[.agg (M.cells h), .int .i64 n] w fun e w' => e = .returned (.bool true) ∧ Below w.heap.size w w' := by
  have HM := Aside0.mk H
  have HN := Aside0.mk hn
  have HS := Aside0.mk hsum
  have HF0 := Aside0.mk (show FW w M h (w.alloc (.cells (M.cells h) 29)) from ⟨below_alloc (Below.refl _ _) (Nat.le_refl _) _, blk_new _ _⟩)
  have HL := Aside0.mk (hl.below HF0.out.bel)
  obtain ⟨⟨⟨sp, sr⟩, ho, tr, ok⟩, hr⟩ : ∃ r, callee M n = r := ⟨_, rfl⟩
  have HR := Aside0.mk hr
  clear H hn hsum hl hr
  go_enter Tryd.func3, Tryd.ntmps3
  go_wp2_with fail
  refine (examples_calls _ HL.out).mono ?_
  rintro e w1 ⟨rfl, hb1⟩
  have HF1 := Aside0.mk (HF0.out.below hb1)
  have hz0 := blk_cell HF1.out.box 0
  have hz1 := blk_cell HF1.out.box 1
  have hz2 := blk_cell HF1.out.box 2
  have hz3 := blk_cell HF1.out.box 3
  have hz4 := blk_cell HF1.out.box 4
  have hz5 := blk_cell HF1.out.box 5
  have hz6 := blk_cell HF1.out.box 6
  clear hb1 HF0
  go_wp2_with fail
  refine (callee_calls M h n w _ HM.out HF1.out.bel HN.out).mono ?_
  rw [HR.out]
  rintro e w2 ⟨hb2, B1, k1, B2, k2, rfl, hk1, hk2, hC1, hC2⟩
  have HC := Aside0.mk (And.intro hC1 hC2)
  have HF2 := Aside0.mk ((HF1.out.below hb2).below (below_alloc (Below.refl _ _) (Nat.le_refl _) (.cells #[.slice B1 sp.length k1, .slice B2 sr.length k2] 32)))
  have HS1 := Aside0.mk (blk_new w2 (.cells #[.slice B1 sp.length k1, .slice B2 sr.length k2] 32))
  clear hz0 hz1 hz2 hz3 hz4 hz5 hz6 hb2 hC1 hC2 HF1
  have hz0 := blk_cell HF2.out.box 0
  have hz1 := blk_cell HF2.out.box 1
  have hz2 := blk_cell HF2.out.box 2
  have hz3 := blk_cell HF2.out.box 3
  have hz4 := blk_cell HF2.out.box 4
  have hz5 := blk_cell HF2.out.box 5
  have hz6 := blk_cell HF2.out.box 6
  dsimp only
  go_wp2_with fail
  refine (rcallee_calls M h n w _ HM.out HF2.out.bel HN.out HS.out).mono ?_
  rw [HR.out]
  rintro e w3 ⟨hb3, D1, j1, D2, j2, rfl, hj1, hj2, hD1, hD2⟩
  have HD := Aside0.mk (And.intro hD1 hD2)
  have HS2 := Aside0.mk (blk_alloc (blk_below HS1.out hb3) (.cells #[.slice D1 sp.length j1, .slice D2 sr.length j2] 32))
  have HT2 := Aside0.mk (blk_new w3 (.cells #[.slice D1 sp.length j1, .slice D2 sr.length j2] 32))
  have HB3 := Aside0.mk ((HF2.out.below hb3).below (below_alloc (Below.refl _ _) (Nat.le_refl _) (.cells #[.slice D1 sp.length j1, .slice D2 sr.length j2] 32))).bel
  clear hz0 hz1 hz2 hz3 hz4 hz5 hz6 hb3 hD1 hD2 HF2 HS1
  have hs0 := blk_cell HS2.out 0
  have hs1 := blk_cell HS2.out 1
  have ht0 := blk_cell HT2.out 0
  have ht1 := blk_cell HT2.out 1
  dsimp only
  go_wp2_with fail
  refine (numbers_calls B1 k1 sp D1 j1 sp _ (Kd.C_below HC.out.1 HB3.out) hk1 (Kd.C_below HD.out.1 HB3.out) hj1).mono ?_
  rintro e w4 ⟨rfl, hd4⟩
  rw [decide_eq_true rfl]
  have hb4 := hd4.below
  have HB4 := Aside0.mk (HB3.out.trans (hb4.mono HB3.out.size))
  have hs2 := blk_cell (blk_below HS2.out hb4) 1
  have ht2 := blk_cell (blk_below HT2.out hb4) 1
  clear hs0 hs1 ht0 ht1 hd4 hb4
  go_wp2_with fail
  refine (numbers_calls B2 k2 sr D2 j2 sr _ (Kd.C_below HC.out.2 HB4.out) hk2 (Kd.C_below HD.out.2 HB4.out) hj2).mono ?_
  rintro e w5 ⟨rfl, hd5⟩
  rw [decide_eq_true rfl]
  have HB5 := Aside0.mk (HB4.out.trans (hd5.below.mono HB4.out.size))
  have e1 : (ho == ho) = true := by simp
  have e2 : (tr == tr) = true := by simp
  have e3 : (ok == ok) = true := by simp
  clear hs2 ht2 hd5
  go_wp2_with fail
  go_ret
  exact ⟨rfl, HB5.out⟩
end Go.Proofs.YtjjhhmchomabeaaDoor.Valid
namespace Go.Proofs.YtjjhhmchomabeaaDoor.ValidCallee
open Go.ChangeShapes Go.WideShapes Go.RowKit Go.Proofs.YtjjhhmchomabeaaDoorW.PrintWords Go.Proofs.YtjjhhmchomabeaaDoor.Valid
set_option linter.unusedVariables false
set_option linter.unusedSimpArgs false

/-! ### the row -/
theorem own : ownKnob Tryd.prog.godebug = none := by kernel_rfl
theorem et : Tryd.prog.globalNamed "errors.errorType" = some 0 := by kernel_rfl
theorem rt : (Tryd.prog.cutTypes.find? (·.1 == "internal/reflectlite.rtype")).map (·.2) = some 112 := by kernel_rfl
theorem oneRow : ((List.range 174).filter fun t => Tryd.prog.rowNamed t [101, 114, 114, 111, 114]) = [38] := by kernel_rfl
theorem size : Tryd.prog.types.size = 174 := by kernel_rfl
theorem handle_of_laid {W : World} (h : laidMetH Tryd.prog [("errors.errorType", Rows.laid_errors_errorType)] W) : Laid W := by
  have h' : laidMet Tryd.prog [] W ∧ handlesMet Tryd.prog [("errors.errorType", Rows.laid_errors_errorType)] W := h
  obtain ⟨name, u, ty, e1, e2, e3, e4, e5⟩ := h'.2 _ (List.mem_singleton.2 rfl)
  have en : name = [101, 114, 114, 111, 114] := (Option.some.inj e1).symm
  subst en
  obtain rfl := Option.some.inj (rt.symm.trans e2)
  have hm : ty ∈ (List.range 174).filter fun t => Tryd.prog.rowNamed t [101, 114, 114, 111, 114] := List.mem_filter.2 ⟨List.mem_range.2 (by rw [← size]; exact e3), e4⟩
  rw [oneRow] at hm
  obtain rfl := List.mem_singleton.1 hm
  have hh : typeHandle Tryd.prog 38 = .pointer (some ⟨1, 38, none⟩) := by kernel_rfl
  rw [hh] at e5
  unfold Laid
  simpa using World.var?_cell et e5 0
noncomputable def laidWorld (os : Os) : World :=
  let w0 := World.holding Tryd.prog os ⟨#[], #[], []⟩
  { w0 with heap := w0.heap.modify 0 fun
      | .cells _ t frozen => .cells #[.iface 112 (.agg #[.pointer (some ⟨1, 38, none⟩)])] t frozen
      | o => o }
theorem laidWorld_met (os : Os) (args : Array Value) : laidMetH Tryd.prog [("errors.errorType", Rows.laid_errors_errorType)] ((laidWorld os).forCall (fun _ _ => 0) ⟨#[], args, []⟩).memory :=
  laidMetH_of_parts (laidMet_nil _ _) (by kernel_rfl)
theorem can_wf {n : Int} (h : (Lit.int .i64 n).wf = true) : Valid.Can n := by
  simp [Lit.wf, IntKind.has, IntKind.min, IntKind.max, IntKind.bits, IntKind.signed] at h
  unfold Valid.Can
  omega
set_option maxRecDepth 100000 in
theorem lifted (os : Os) (started : os.Started) (H : Type) (enc : TypeId × Value → H) :
    ReturnsInHanded {} Tryd.checked os 3 .any (fun w args => (Rows.validCalleeSpec.pre enc Tryd.prog Tryd.f3 [] false w args ∧ laidMetH Tryd.prog [("errors.errorType", Rows.laid_errors_errorType)] w) ∧ sizedMet enc Tryd.prog Tryd.f3 (OpenSpec.ofChange Rows.validCalleeSpec) false w args)
      (Rows.validCalleeSpec.post enc Tryd.prog Tryd.f3 false true false false) := by
  refine returnsInHanded_of_change_and (C := Tryd.checked) (X := fun w _ => laidMetH Tryd.prog [("errors.errorType", Rows.laid_errors_errorType)] w) (fun _ _ _ hh h => h.of_heap hh) own started (by kernel_rfl) Tryd.func3
    (ChangeSpec.witness_at (enc := enc) (C := Tryd.checked) (os := os) (X := fun w _ => laidMetH Tryd.prog [("errors.errorType", Rows.laid_errors_errorType)] w) false (laidWorld os) #[.agg #[.slice none 0 0, .slice none 0 0, .slice none 0 0, .int .i64 0, .int .i64 0, .slice none 0 0, .slice none 0 0], .int .i64 0] 8 rfl (by kernel_rfl) (by kernel_rfl) (by kernel_rfl) (by kernel_rfl) (by kernel_rfl) (laidWorld_met os _)) ?_
  intro W base args ds gs before hval0 hW _ hsz0 hL _
  have hval : ∀ (j : Nat) t v, Tryd.f3.params[j]? = some t → args[j]? = some v → Value.okWide Tryd.prog W .any base t v := hval0
  have hW' := hW
  obtain ⟨p, q, hA0, hV0, rfl, hfz, hnd⟩ := hW
  have hA : DataW.TrodAll enc Tryd.prog W 0 (fun _ => true) true Tryd.f3.params.toList args.toList ds p := hA0
  have hV : DataW.TrodVars enc Tryd.prog W (fun _ => true) [] gs q := hV0
  rw [Tryd.params3] at hA hval
  obtain ⟨v0, vs0, d0, ds0, p0, q0, hargs, rfl, rfl, h0, r0⟩ := trodAll_cons hA
  obtain ⟨v1, vs1, d1, ds1, p1, q1, rfl, rfl, rfl, h1, r1⟩ := trodAll_cons r0
  obtain ⟨rfl, rfl, rfl⟩ := trodAll_nil r1
  obtain rfl : args = #[v0, v1] := by cases args; simp_all
  obtain ⟨a1, rfl, rfl, rfl, w1⟩ := open_int Tryd.underlying3 (hval 1 3 v1 rfl rfl) h1
  have hg := handle_of_laid hL
  obtain ⟨rfl, rfl⟩ : gs = [] ∧ q = [] := by
    cases gs with
    | nil => exact ⟨rfl, hV⟩
    | cons g r => exact absurd hV (by intro h; cases h)
  obtain ⟨cs1, rfl, _⟩ := okWide_struct Tryd.underlying29 (hval 0 29 v0 rfl rfl)
  obtain ⟨M, hd, rfl, hMod, _⟩ := ModRow.read_mod h0
  have hlen := ModRow.mod_lens h0 (fun n hn => by
    have h2 := List.all_eq_true.1 hsz0 n (DataW.weights_mem_each (j := 0) rfl rfl n hn)
    simpa using h2)
  have hsum : (M.imports.length : Int) + M.funcs.length < 9223372036854775808 := by
    have := reachBytes_lt
    omega
  have e1 : Rows.validCalleeSpec.fn H ([d0, .lit (.int .i64 a1)] ++ []) = { results := [.lit (.bool true)], args := [d0, .lit (.int .i64 a1)] } := by simp [Rows.validCalleeSpec]
  refine (callee_walk M hd a1 W hMod (can_wf w1) hsum hg).mono fun e W' ⟨he, hw⟩ => ?_
  subst he
  refine ⟨_, rfl, _, _, _, [], p0 ++ [], [], hW', ?_, ?_, ?_, hw.frame _, fun h => by cases h⟩
  · rw [e1]; exact trodAll_mk1 (shut_bool Tryd.underlying4 true)
  · rw [e1]; exact trodAll_mk2 (ModRow.back_mod h0 hw) (shut_int Tryd.underlying3 w1)
  · rw [e1]; rfl
theorem row_holds : Rows.ValidCalleeSaid :=
  OpenClaim.holds_of_wide 3 Tryd.f3 rfl rfl rfl rfl rfl rfl rfl ⟨rfl, rfl, rfl, rfl, rfl⟩ rfl rfl rfl rfl rfl (by kernel_rfl) Tryd.func3 (by kernel_rfl)
    (of_decide_eq_true (by kernel_rfl)) (by unfold Func.isWrapper; rw [if_neg (of_decide_eq_false (by kernel_rfl))]; exact ⟨rfl, rfl⟩)
    (fun os started H enc _ => lifted os started H enc)
/-- ValidCallee, tied to the program's text. -/
theorem validCallee_holds : Rows.ValidCalleeCardSaid :=
  Claim7.holds_tied_plain_at .later [] [.handle] true (true, "a375214d61d745cf21eebd2106e1b8edc3a89ab9356fe3b512f1620f8a12f14f") true
    row_holds (fun _ h => by cases h) (by kernel_rfl) (fun _ h => by cases h) validCallee_row_tie rfl ⟨rfl, rfl⟩ (by kernel_rfl) rfl
    (fun f fn hf hfn => by
      obtain rfl : f = 3 := Option.some.inj ((show Tryd.prog.funcNamed "oubliette/oubliettelaw07.ValidCallee" = some 3 by kernel_rfl).symm.trans hf) |>.symm
      obtain rfl : fn = Tryd.f3 := (Option.some.inj (Tryd.func3.symm.trans hfn)).symm
      exact ⟨by kernel_rfl, fun j t ht => by
        rw [Tryd.params3] at ht
        have h3 : t = 29 ∨ t = 3 := by
          rcases j with _ | _ | j
          · exact .inl (by simpa using ht.symm)
          · exact .inr (by simpa using ht.symm)
          · simp at ht
        rcases h3 with rfl | rfl
        · exact (show Tryd.prog.wantsStandIn 29 = false by kernel_rfl)
        · exact (show Tryd.prog.wantsStandIn 3 = false by kernel_rfl)⟩)
    (by kernel_rfl)
#print axioms validCallee_holds
end Go.Proofs.YtjjhhmchomabeaaDoor.ValidCallee
namespace Go.Proofs.YtjjhhmchomabeaaDoor
/-- The card, under a short name, for the claim. -/
theorem validCallee_holds : Rows.ValidCalleeCardSaid := ValidCallee.validCallee_holds
end Go.Proofs.YtjjhhmchomabeaaDoor
