/- A function's check, told as what is there behind its instructions; when a module is valid; what another body, or another module beside it, leaves as it was. -/
import Derived.Test.YtjjhhmchomabeaaDoorValCallee
import Derived.Test.YtjjhhmchomabeaaDoorValB
import Derived.Test.YtjjhhmchomabeaaDoorWNEv
import Derived.Test.YtjjhhmchomabeaaDoorValL
namespace Go.Proofs.YtjjhhmchomabeaaDoor.Valid
open Go.RowKit Go.Proofs.YtjjhhmchomabeaaDoorW.PrintWords Go.Proofs.YtjjhhmchomabeaaDoorW.PrintLast Go.Proofs.YtjjhhmchomabeaaDoor.Mem Go.Proofs.YtjjhhmchomabeaaDoor.Nest
set_option linter.unusedVariables false
set_option linter.unusedSimpArgs false

/-- a module whose function k has another body -/
def withL (M : Md) (k : Nat) (L : List T3) : Md := { M with funcs := M.funcs.set k ((M.funcs.getD k zF).1, (M.funcs.getD k zF).2.1, (M.funcs.getD k zF).2.2.1, L) }
theorem withL_len {M : Md} {k : Nat} {L : List T3} : (withL M k L).funcs.length = M.funcs.length := List.length_set
/-- how a call ends that hands a module back -/
def ModOut (w : World) (M : Md) (e : Ending) (w' : World) : Prop := Below w.heap.size w w' ∧ ∃ h, e = .returned (.agg (M.cells h)) ∧ ModAt w' h M
def pickN (c : Int) (n : Nat) : Nat := ((if c < 0 then -(c + 1) else c) % (n : Int)).toNat
theorem pick_lt {c : Int} {n : Nat} (h : 0 < n) : pickN c n < n := by
  unfold pickN
  have h1 := Int.emod_nonneg (if c < 0 then -(c + 1) else c) (show (n : Int) ≠ 0 by omega)
  have h2 := Int.emod_lt_of_pos (if c < 0 then -(c + 1) else c) (show (0 : Int) < n by omega)
  omega
theorem pick_calls (c : Int) (n : Nat) (hc : Can c) (hn : 0 < n) (hn2 : n ≤ 1000) (w : World) :
    Calls Tryd.prog 15 #[.int .i64 c, .int .i64 n] w fun e w' => e = .returned (.int .i64 (pickN c n)) ∧ w' = w := by
  obtain ⟨hc1, hc2⟩ := hc
  have hz : ((n : Int) == 0) = false := beq_eq_false_iff_ne.2 (by omega)
  by_cases h : c < 0
  · have hb : decide (c < 0) = true := by simpa using h
    have hw1 : wrap64 (c + 1) = c + 1 := by unfold wrap64; omega
    have hw2 : wrap64 (-(c + 1)) = -(c + 1) := by unfold wrap64; omega
    go_enter Tryd.func15, Tryd.ntmps15
    go_wp2_with fail
    go_ret
    refine ⟨?_, rfl⟩
    have e : -((c + 1).tmod (n : Int)) = ((pickN c n : Nat) : Int) := by
      have h1 := Int.emod_nonneg (-(c + 1)) (show (n : Int) ≠ 0 by omega)
      rw [← Int.neg_tmod, Int.tmod_eq_emod_of_nonneg (by omega)]
      unfold pickN
      rw [if_pos h]
      omega
    rw [e]
    rfl
  · have hb : decide (c < 0) = false := by simpa using h
    go_enter Tryd.func15, Tryd.ntmps15
    go_wp2_with fail
    go_ret
    refine ⟨?_, rfl⟩
    have e : c % (n : Int) = ((pickN c n : Nat) : Int) := by
      have h1 := Int.emod_nonneg c (show (n : Int) ≠ 0 by omega)
      unfold pickN
      rw [if_neg (by omega)]
      omega
    rw [e]
    rfl
def zMod : Value := .agg #[.slice none 0 0, .slice none 0 0, .slice none 0 0, .int .i64 0, .int .i64 0, .slice none 0 0, .slice none 0 0]
theorem infoFn : (Tryd.prog.info? 43).map (fun i => (i.zero, i.size, i.bytes)) = some (some (.agg #[.int .i64 0, .bool false, .slice none 0 0, .slice none 0 0]), 4, 64) := by kernel_rfl
theorem heap_func : Kd.Heap kFunc := Kd.heap_pair (Kd.heap_int _) (Kd.heap_pair Kd.heap_bool (Kd.heap_pair (Kd.heap_slice _ (Kd.heap_int _)) (Kd.heap_slice _ (Kd.heap_pair (Kd.heap_int _) (Kd.heap_pair (Kd.heap_int _) (Kd.heap_int _))))))
section
variable {w1 : World} {base g n cap c e : Nat} {ok okp : Nat → Prop} {fs : List Fn} {A : Option Addr} {L : List T3}
/-- a function's other body, in a row of one's own -/
theorem fn_body (hN : Kd.N kFunc e w1 base ok (.slice (some ⟨g, 0, none⟩) n cap) fs) (k : Nat) (hk : k < n) (FL : Kd.F kInstr w1 okp A L.length L) (ho : ∀ q, okp q → ok q ∧ q ≠ g) (hc : L.length ≤ c) :
    (∃ u, w1.cell? ⟨g, k * 4 + 3, none⟩ = some u) ∧ w1.frozen? ⟨g, k * 4 + 3, none⟩ = false ∧ Kd.N kFunc e (w1.setCell ⟨g, k * 4 + 3, none⟩ (.slice A L.length c)) base ok (.slice (some ⟨g, 0, none⟩) n cap) (fs.set k ((fs.getD k zF).1, (fs.getD k zF).2.1, (fs.getD k zF).2.2.1, L)) ∧ w1.grownBy (w1.setCell ⟨g, k * 4 + 3, none⟩ (.slice A L.length c)) (some g) := by
  obtain ⟨cs, hl, hFK, hcc, hfr⟩ := Kd.N_elem hN zF (k : Int) (by omega) (by omega)
  rw [Int.toNat_natCast] at hFK hcc hfr
  have hq := Kd.FK_now hFK
  obtain ⟨_, _, rfl, rfl, _, _, rfl, rfl, _, _, rfl, h1, h2⟩ := hq
  obtain ⟨B1, k1, rfl, hl1, hC1⟩ := slice_open h1
  obtain ⟨B2, k2, rfl, hl2, hC2⟩ := slice_open h2
  have hg := Kd.N_seg hN (k : Int) (by omega) (by omega) (seg := [.slice A L.length c]) (j := 3) (x' := ((fs.getD k zF).1, (fs.getD k zF).2.1, (fs.getD k zF).2.2.1, L)) (okp := fun q => ok q ∧ q ≠ g) hl (by rw [Int.toNat_natCast]; exact hcc) (by show 3 + 1 ≤ 4; omega) (fun W' hW => by
    obtain ⟨c1, c2, e0, e1, c3, c4, e2, e3, c5, c6, e4, h3, h4⟩ := hFK W' hW
    have h5 := FL W' (fun q hq hlt => hW q (ho q hq) hlt)
    obtain ⟨B3, k3, e5, hl3, hC3⟩ := slice_open h3
    refine ⟨[_], _, rfl, rfl, [_], _, rfl, rfl, [_], [_], rfl, ?_, ⟨A, c, rfl, hc, h5⟩⟩
    subst e1; subst e3; subst e5
    rw [e2, e4] at e0
    simp only [List.cons_append, List.nil_append, List.cons.injEq] at e0
    rw [e0.2.2.1]
    exact h3) (fun _ h => h)
  rw [Int.toNat_natCast] at hg
  exact ⟨⟨_, hcc 3 _ rfl⟩, hfr 3, hg.1, hg.2⟩
/-- a function that is trusted then -/
theorem fn_trust (hN : Kd.N kFunc e w1 base ok (.slice (some ⟨g, 0, none⟩) n cap) fs) (k : Nat) (hk : k < n) :
    (∃ u, w1.cell? ⟨g, k * 4 + 1, none⟩ = some u) ∧ w1.frozen? ⟨g, k * 4 + 1, none⟩ = false ∧ Kd.N kFunc e (w1.setCell ⟨g, k * 4 + 1, none⟩ (.bool true)) base ok (.slice (some ⟨g, 0, none⟩) n cap) (fs.set k ((fs.getD k zF).1, true, (fs.getD k zF).2.2.1, (fs.getD k zF).2.2.2)) ∧ w1.grownBy (w1.setCell ⟨g, k * 4 + 1, none⟩ (.bool true)) (some g) := by
  obtain ⟨cs, hl, hFK, hcc, hfr⟩ := Kd.N_elem hN zF (k : Int) (by omega) (by omega)
  rw [Int.toNat_natCast] at hFK hcc hfr
  have hq := Kd.FK_now hFK
  obtain ⟨_, _, rfl, rfl, _, _, rfl, rfl, _, _, rfl, h1, h2⟩ := hq
  obtain ⟨B1, k1, rfl, hl1, hC1⟩ := slice_open h1
  obtain ⟨B2, k2, rfl, hl2, hC2⟩ := slice_open h2
  have hg := Kd.N_seg hN (k : Int) (by omega) (by omega) (seg := [.bool true]) (j := 1) (x' := ((fs.getD k zF).1, true, (fs.getD k zF).2.2.1, (fs.getD k zF).2.2.2)) (okp := fun q => ok q ∧ q ≠ g) hl (by rw [Int.toNat_natCast]; exact hcc) (by show 1 + 1 ≤ 4; omega) (fun W' hW => by
    obtain ⟨c1, c2, e0, e1, c3, c4, e2, e3, c5, c6, e4, h3, h4⟩ := hFK W' hW
    obtain ⟨B3, k3, e5, hl3, hC3⟩ := slice_open h3
    obtain ⟨B4, k4, e6, hl4, hC4⟩ := slice_open h4
    refine ⟨[_], _, rfl, rfl, [_], _, rfl, rfl, [_], [_], rfl, ?_, ?_⟩
    · subst e1; subst e3; subst e5; subst e6
      rw [e2, e4] at e0
      simp only [List.cons_append, List.nil_append, List.cons.injEq] at e0
      rw [e0.2.2.1]
      exact h3
    · subst e1; subst e3; subst e5; subst e6
      rw [e2, e4] at e0
      simp only [List.cons_append, List.nil_append, List.cons.injEq] at e0
      rw [e0.2.2.2.1]
      exact h4) (fun _ h => h)
  rw [Int.toNat_natCast] at hg
  exact ⟨⟨_, hcc 1 _ rfl⟩, hfr 1, hg.1, hg.2⟩
end
/-- a row of instructions of one's own, on its way -/
structure Ui (w W : World) (v : Value) (xs : List T3) : Prop where
  bel : Below w.heap.size w W
  row : kInstr.R 45 W w.heap.size (fun _ => True) v xs
theorem Ui.init (W : World) : Ui W W (.slice none 0 0) [] := ⟨Below.refl _ _, Kd.R_nil _ _ _ _ _⟩
theorem Ui.below {w W W1 : World} {v : Value} {xs : List T3} (h : Ui w W v xs) (hb : Below W.heap.size W W1) : Ui w W1 v xs := ⟨h.bel.trans (hb.mono h.bel.size), Kd.R_below h.row hb⟩
/-- a row of whole numbers of one's own, on its way -/
structure Un (w W : World) (v : Value) (xs : List Int) : Prop where
  bel : Below w.heap.size w W
  row : (Kd.int .i64).R 3 W w.heap.size (fun _ => True) v xs
theorem Un.init (W : World) : Un W W (.slice none 0 0) [] := ⟨Below.refl _ _, Kd.R_nil _ _ _ _ _⟩
theorem kI_M {w W : World} {base : Nat} {ok : Nat → Prop} {x : T3} {cs : List Value} (h : kInstr.K w x cs) : kInstr.M W base ok x cs := by
  obtain ⟨_, _, rfl, rfl, ⟨_, _, rfl, rfl, rfl⟩⟩ := h
  exact ⟨[_], _, rfl, rfl, [_], [_], rfl, rfl, rfl⟩
theorem infoIn : (Tryd.prog.info? 45).map (fun i => (i.zero, i.size, i.bytes)) = some (some (.agg #[.int .i64 0, .int .i64 0, .int .i64 0]), 3, 24) := by kernel_rfl
section
variable {ops : Array Oper} {rest : List Oper} {o : Oper} {a : Act} {Q : Exit → Act → World → Prop}
theorem wp_rowI {w W : World} {v : Value} {xs ys : List T3} (H : Aside0 (Ui w W v xs)) (hgd : o.guard = none) (s x : Operand)
    (ho : o.op = .call { callee := .builtin .append, args := #[s, x], argTypes := #[41, 41] }) (A : Option Addr) (m c : Nat) (hs : a.eval s = v) (hx : a.eval x = .slice A m c) (HR : kInstr.C W A m ys) (hl : xs.length + m < 1000) (n : Nat) (zs : List T3) (hz : xs ++ ys = zs) (hn : zs.length = n)
    (h : ∀ A1 c1 w1, Aside0 (Ui w w1 (.slice A1 n c1) zs) → wpList Tryd.prog ops Q rest (a.put o.dst (.slice A1 n c1)) w1) :
    wpList Tryd.prog ops Q (o :: rest) a W := by
  refine Kd.R_append_rows kInstr (w0 := w) w.heap.size hgd s x 41 45 (.agg #[.int .i64 0, .int .i64 0, .int .i64 0]) 24 ho Tryd.underlying41 infoIn rfl (by decide) (by decide) v xs ys A m c (fun _ => True) (fun _ => False) hs hx H.out.row HR (fun _ _ hk => kI_M hk) (fun _ h => h.elim) (fun _ _ => trivial) H.out.bel H.out.bel.size (by omega) ?_
  intro v1 w1 hO hB hg hat
  obtain ⟨A1, c1, rfl⟩ := Kd.R_slice hO
  subst hz
  subst hn
  exact h A1 c1 w1 ⟨⟨hB, hO⟩⟩
theorem wp_rowN {w W : World} {v : Value} {xs ys : List Int} (H : Aside0 (Un w W v xs)) (hgd : o.guard = none) (s x : Operand)
    (ho : o.op = .call { callee := .builtin .append, args := #[s, x], argTypes := #[23, 23] }) (A : Option Addr) (m c : Nat) (hs : a.eval s = v) (hx : a.eval x = .slice A m c) (HR : (Kd.int .i64).C W A m ys) (hl : xs.length + m < 1000) (n : Nat) (zs : List Int) (hz : xs ++ ys = zs) (hn : zs.length = n)
    (h : ∀ A1 c1 w1, Aside0 (Un w w1 (.slice A1 n c1) zs) → wpList Tryd.prog ops Q rest (a.put o.dst (.slice A1 n c1)) w1) :
    wpList Tryd.prog ops Q (o :: rest) a W := by
  refine Kd.R_append_row (Value.int .i64) 0 (w0 := w) w.heap.size hgd s x 23 3 (.int .i64 0) 8 ho Tryd.underlying23 infoInt rfl (by decide) v xs ys A m c (fun _ => True) hs hx (fun _ _ => trivial) H.out.row HR H.out.bel H.out.bel.size (by omega) ?_
  intro v1 w1 hO hB hg hat
  obtain ⟨A1, c1, rfl⟩ := Kd.R_slice hO
  subst hz
  subst hn
  exact h A1 c1 w1 ⟨⟨hB, hO⟩⟩
end
set_option maxHeartbeats 4000000 in
set_option maxRecDepth 100000 in
theorem with_calls (M : Md) (h : Hd) (k : Nat) (A : Option Addr) (c : Nat) (L : List T3) (w : World) (H : ModAt w h M) (hk : k < M.funcs.length) (hf : M.funcs.length ≤ 8) (hA : kInstr.C w A L.length L) (hc : L.length ≤ c) :
    Calls Tryd.prog 17 #[.agg (M.cells h), .int .i64 k, .slice A L.length c] w (ModOut w (withL M k L)) := by
  have HM := Aside0.mk H
  have HA := Aside0.mk hA
  obtain ⟨W2, hW2⟩ : ∃ W, W = (w.alloc (mBox M h)).alloc (.cells #[.slice none 0 0, .slice none 0 0, .slice none 0 0, .int .i64 0, .int .i64 0, .slice none 0 0, .slice none 0 0] 29) := ⟨_, rfl⟩
  have hs2 : W2.heap.size = w.heap.size + 2 := by rw [hW2]; simp
  have hB2 : Below w.heap.size w W2 := by rw [hW2]; exact two_below w _ _
  have hb1 : W2.heap[w.heap.size]? = some (mBox M h) := by rw [hW2]; exact blk_alloc (blk_new w (mBox M h)) _
  have hr1 : W2.heap[w.heap.size + 1]? = some (.cells #[.slice none 0 0, .slice none 0 0, .slice none 0 0, .int .i64 0, .int .i64 0, .slice none 0 0, .slice none 0 0] 29 (0, 0)) := by rw [hW2]; simpa using blk_new (w.alloc (mBox M h)) (.cells #[.slice none 0 0, .slice none 0 0, .slice none 0 0, .int .i64 0, .int .i64 0, .slice none 0 0, .slice none 0 0] 29)
  have HF := Aside0.mk (Kd.F_below (Kd.C_F heap_func H.funcs) hB2)
  have HFA := Aside0.mk (Kd.F_below (Kd.C_F (Kd.heap_pair (Kd.heap_int _) (Kd.heap_pair (Kd.heap_int _) (Kd.heap_int _))) hA) hB2)
  have HB2 := Aside0.mk hB2
  have HS2 := Aside0.mk hs2
  have hz2 := blk_cell hb1 2
  rw [hW2] at hz2
  have HB1 := Aside0.mk hb1
  have HR1 := Aside0.mk hr1
  have HW2 := Aside0.mk hW2
  clear hs2 hB2 hb1 hr1 H hA
  go_enter Tryd.func17, Tryd.ntmps17
  go_wp2_with ((with_reducible refine gate_builtin (b := .append) (xs := #[.const (.slice none 0 0), .tmp 9]) rfl ?_); at_builtin; rw [← HW2.out]; refine Kd.N_append_rows kFunc (w0 := w) (W := W2) w.heap.size rfl (.const (.slice none 0 0)) (.tmp 9) 24 43 (.agg #[.int .i64 0, .bool false, .slice none 0 0, .slice none 0 0]) 64 rfl Tryd.underlying24 infoFn rfl (by decide) (by decide) (.slice none 0 0) [] M.funcs h.a3 M.funcs.length h.c3 (fun q => q < w.heap.size ∨ w.heap.size + 2 ≤ q) (fun q => q < w.heap.size) rfl rfl (Kd.N_nil _ _ _ _ _) HF.out (fun q hq => ⟨.inl hq, by simp [Value.ownBlock]⟩) (fun q hq => .inr (by have := HS2.out; omega)) HB2.out HB2.out.size (by simp; omega) ?_; intro v1 w1 hN hB hg hat; rw [List.nil_append] at hN; refine Hold.out ?_)
  refine Hold.mk ?_
  obtain ⟨g, cap, rfl, hgb, hgs, _⟩ := Kd.N_form hN (by omega)
  have hgW : W2.heap.size ≤ g := by
    rcases hat with e | ⟨b, e, hb⟩
    · simp [Value.ownBlock] at e
    · simp [Value.ownBlock] at e
      omega
  have hg2 : w.heap.size + 2 ≤ g := by have := HS2.out; omega
  have hbx1 := blk_grown HB1.out hg (by simp [Value.ownBlock])
  have hrx1 := blk_grown HR1.out hg (by simp [Value.ownBlock])
  obtain ⟨⟨u, hu⟩, hfz, hN3, hg3⟩ := fn_body hN k hk (Kd.F_grown HFA.out hg (fun q hq => by simp [Value.ownBlock])) (fun q hq => ⟨.inl hq, by omega⟩) hc
  have hbx3 := blk_grown hbx1 hg3 (by simp; omega)
  have hrx3 := blk_grown hrx1 hg3 (by simp; omega)
  have hrz := blk_frozen hrx1
  have hrc0 := blk_cell hrx1 0
  have hrc1 := blk_cell hrx1 1
  have hrc2 := blk_cell hrx1 2
  have hrc3 := blk_cell hrx1 3
  have hrc4 := blk_cell hrx1 4
  have hrc5 := blk_cell hrx1 5
  have hrc6 := blk_cell hrx1 6
  have hz := blk_cell hbx3 2
  have hzf := blk_frozen hbx3 2
  have hbx4 := blk_set hbx3 2 (.slice (some ⟨g, 0, none⟩) M.funcs.length cap)
  have hq0 := blk_cell hbx4 0
  have hq1 := blk_cell hbx4 1
  have hq2 := blk_cell hbx4 2
  have hq3 := blk_cell hbx4 3
  have hq4 := blk_cell hbx4 4
  have hq5 := blk_cell hbx4 5
  have hq6 := blk_cell hbx4 6
  have HN3 := Aside0.mk hN3
  have HX3 := Aside0.mk hbx3
  have HX4 := Aside0.mk hbx4
  have HR3 := Aside0.mk hrx3
  have HG3 := Aside0.mk hg3
  have HG := Aside0.mk hg
  have HB := Aside0.mk hB
  clear hN hN3 hg hg3 hat hbx1 hrx1 hbx3 hrx3 hbx4 hB hz2
  go_wp2_with fail
  obtain ⟨W5, hW5⟩ : ∃ W, W = (((((((((w1.setCell ⟨g, k * 4 + 3, none⟩ (.slice A L.length c)).setCell ⟨w.heap.size, 2, none⟩ (.slice (some ⟨g, 0, none⟩) M.funcs.length cap)).setCell ⟨w.heap.size + 1, 0, none⟩ (.slice h.a1 M.sigs.length h.c1)).setCell ⟨w.heap.size + 1, 1, none⟩ (.slice h.a2 M.imports.length h.c2)).setCell ⟨w.heap.size + 1, 2, none⟩ (.slice (some ⟨g, 0, none⟩) M.funcs.length cap)).setCell ⟨w.heap.size + 1, 3, none⟩ (.int .i64 M.m0)).setCell ⟨w.heap.size + 1, 4, none⟩ (.int .i64 M.m1)).setCell ⟨w.heap.size + 1, 5, none⟩ (.slice h.a4 M.globals.length h.c4)).setCell ⟨w.heap.size + 1, 6, none⟩ (.slice h.a5 M.data.length h.c5)) := ⟨_, rfl⟩
  rw [← hW5]
  have hr : W5.heap[w.heap.size + 1]? = some (.cells #[.slice h.a1 M.sigs.length h.c1, .slice h.a2 M.imports.length h.c2, .slice (some ⟨g, 0, none⟩) M.funcs.length cap, .int .i64 M.m0, .int .i64 M.m1, .slice h.a4 M.globals.length h.c4, .slice h.a5 M.data.length h.c5] 29 (0, 0)) := by
    rw [hW5]
    simpa using blk_set (blk_set (blk_set (blk_set (blk_set (blk_set (blk_set (blk_far HR3.out (p := ⟨w.heap.size, 2, none⟩) (by simp) (.slice (some ⟨g, 0, none⟩) M.funcs.length cap)) 0 (.slice h.a1 M.sigs.length h.c1)) 1 (.slice h.a2 M.imports.length h.c2)) 2 (.slice (some ⟨g, 0, none⟩) M.funcs.length cap)) 3 (.int .i64 M.m0)) 4 (.int .i64 M.m1)) 5 (.slice h.a4 M.globals.length h.c4)) 6 (.slice h.a5 M.data.length h.c5)
  have hB5 : Below w.heap.size w W5 := by
    rw [hW5]
    exact ((((((((HB.out.setCell (p := ⟨g, k * 4 + 3, none⟩) hgb _).setCell (p := ⟨w.heap.size, 2, none⟩) (Nat.le_refl _) _).setCell (p := ⟨w.heap.size + 1, 0, none⟩) (Nat.le_succ _) _).setCell (p := ⟨w.heap.size + 1, 1, none⟩) (Nat.le_succ _) _).setCell (p := ⟨w.heap.size + 1, 2, none⟩) (Nat.le_succ _) _).setCell (p := ⟨w.heap.size + 1, 3, none⟩) (Nat.le_succ _) _).setCell (p := ⟨w.heap.size + 1, 4, none⟩) (Nat.le_succ _) _).setCell (p := ⟨w.heap.size + 1, 5, none⟩) (Nat.le_succ _) _).setCell (p := ⟨w.heap.size + 1, 6, none⟩) (Nat.le_succ _) _
  have far : ∀ {W : World} {v : Value} {fs : List Fn} {e : Nat}, Kd.N kFunc e W w.heap.size (fun q => q < w.heap.size ∨ w.heap.size + 2 ≤ q) v fs → ∀ (b o : Nat) (u : Value), b = w.heap.size ∨ b = w.heap.size + 1 → Kd.N kFunc e (W.setCell ⟨b, o, none⟩ u) w.heap.size (fun q => q < w.heap.size ∨ w.heap.size + 2 ≤ q) v fs := fun hh b o u hb => Kd.N_far hh (fun q hq => by show q ≠ b; omega) u
  have hN5 := far (far (far (far (far (far (far (far HN3.out w.heap.size 2 (.slice (some ⟨g, 0, none⟩) M.funcs.length cap) (.inl rfl)) (w.heap.size + 1) 0 (.slice h.a1 M.sigs.length h.c1) (.inr rfl)) (w.heap.size + 1) 1 (.slice h.a2 M.imports.length h.c2) (.inr rfl)) (w.heap.size + 1) 2 (.slice (some ⟨g, 0, none⟩) M.funcs.length cap) (.inr rfl)) (w.heap.size + 1) 3 (.int .i64 M.m0) (.inr rfl)) (w.heap.size + 1) 4 (.int .i64 M.m1) (.inr rfl)) (w.heap.size + 1) 5 (.slice h.a4 M.globals.length h.c4) (.inr rfl)) (w.heap.size + 1) 6 (.slice h.a5 M.data.length h.c5) (.inr rfl)
  rw [← hW5] at hN5
  have HO := Aside0.mk (show ModAt W5 { h with a3 := some ⟨g, 0, none⟩, c3 := cap } (withL M k L) from
    have h5 := HM.out.below hB5
    have hr5 := Kd.N_reads' hN5
    ⟨h5.sigs, h5.imports, hr5.2.2, h5.globals, h5.data, h5.l1, h5.l2, by rw [withL_len, hr5.1] ; simpa using hr5.2.1, h5.l4, h5.l5⟩)
  have HB5 := Aside0.mk hB5
  have hc0 := blk_cell hr 0
  have hc1 := blk_cell hr 1
  have hc2 := blk_cell hr 2
  have hc3 := blk_cell hr 3
  have hc4 := blk_cell hr 4
  have hc5 := blk_cell hr 5
  have hc6 := blk_cell hr 6
  clear hW5 hN5 far hB5 hr
  refine bodyPost_ret (v := .agg #[.slice h.a1 M.sigs.length h.c1, .slice h.a2 M.imports.length h.c2, .slice (some ⟨g, 0, none⟩) M.funcs.length cap, .int .i64 M.m0, .int .i64 M.m1, .slice h.a4 M.globals.length h.c4, .slice h.a5 M.data.length h.c5]) (by simp [results, Tryd.results17, go_sem, hc0, hc1, hc2, hc3, hc4, hc5, hc6]) rfl ?_
  refine ⟨HB5.out, _, ?_, HO.out⟩
  have hl : (withL M k L).funcs.length = M.funcs.length := withL_len
  simp only [Md.cells, hl]
  rfl
end Go.Proofs.YtjjhhmchomabeaaDoor.Valid
namespace Go.Proofs.YtjjhhmchomabeaaDoor.Valid
open Go.RowKit Go.Proofs.YtjjhhmchomabeaaDoorW.PrintWords Go.Proofs.YtjjhhmchomabeaaDoorW.PrintLast Go.Proofs.YtjjhhmchomabeaaDoor.Mem Go.Proofs.YtjjhhmchomabeaaDoor.Nest
set_option linter.unusedVariables false
set_option linter.unusedSimpArgs false

/-- the heights along a row of instructions, and what is there behind it -/
def go (E : Env) : List T3 → Ck → Option (List Int × Ck)
  | [], s => some ([], s)
  | x :: l, s => match see E x s with
    | .error _ => none
    | .ok s1 => (go E l s1).map fun r => (awake s :: r.1, r.2)
theorem go_cons {E : Env} {x : T3} {l : List T3} {s : Ck} {r : List Int × Ck} : go E (x :: l) s = some r ↔ ∃ s1 o, see E x s = .ok s1 ∧ go E l s1 = some (o, r.2) ∧ r.1 = awake s :: o := by
  constructor
  · intro h
    unfold go at h
    split at h
    · cases h
    · rename_i s1 hs
      cases hg : go E l s1 with
      | none => rw [hg] at h; cases h
      | some q =>
        rw [hg] at h
        cases h
        exact ⟨s1, q.1, hs, hg, rfl⟩
  · rintro ⟨s1, o, h1, h2, h3⟩
    obtain ⟨r1, r2⟩ := r
    dsimp only at h2 h3
    subst h3
    unfold go
    rw [h1]
    dsimp only
    rw [h2]
    rfl
theorem go_run (E : Env) (l : List T3) : ∀ (a : Int) (out : List Int) (s : Ck), (∀ r, run E l a out s = .ok r → ∃ o s1, go E l s = some (o, s1) ∧ r = out ++ o) ∧ (∀ o s1, go E l s = some (o, s1) → run E l a out s = .ok (out ++ o)) := by
  induction l with
  | nil =>
    intro a out s
    refine ⟨fun r h => ⟨[], s, rfl, ?_⟩, fun o s1 h => ?_⟩
    · cases h; simp
    · cases h; simp [run]
  | cons x l ih =>
    intro a out s
    constructor
    · intro r h
      unfold run at h
      split at h
      · cases h
      · rename_i s1 hs
        obtain ⟨o, s2, h1, h2⟩ := (ih _ _ _).1 r h
        exact ⟨awake s :: o, s2, go_cons.2 ⟨s1, o, hs, h1, rfl⟩, by rw [h2]; simp⟩
    · intro o s2 h
      obtain ⟨s1, o1, h1, h2, h3⟩ := go_cons.1 h
      dsimp only at h2 h3
      subst h3
      unfold run
      rw [h1]
      dsimp only
      rw [(ih _ _ _).2 o1 s2 h2]
      simp
theorem go_append (E : Env) (a b : List T3) : ∀ (s : Ck) (r : List Int × Ck), go E (a ++ b) s = some r ↔ ∃ o1 s1 o2, go E a s = some (o1, s1) ∧ go E b s1 = some (o2, r.2) ∧ r.1 = o1 ++ o2 := by
  induction a with
  | nil =>
    intro s r
    constructor
    · intro h
      exact ⟨[], s, r.1, rfl, h, rfl⟩
    · rintro ⟨o1, s1, o2, h1, h2, h3⟩
      cases h1
      obtain ⟨r1, r2⟩ := r
      dsimp only at h2 h3
      rw [h3]
      exact h2
  | cons x a ih =>
    intro s r
    constructor
    · intro h
      obtain ⟨s1, o, h1, h2, h3⟩ := go_cons.1 (show go E (x :: (a ++ b)) s = some r from h)
      obtain ⟨o1, s2, o2, h4, h5, h6⟩ := (ih s1 (o, r.2)).1 h2
      dsimp only at h5 h6
      exact ⟨awake s :: o1, s2, o2, go_cons.2 ⟨s1, o1, h1, h4, rfl⟩, h5, by rw [h3, h6]; rfl⟩
    · rintro ⟨o1, s2, o2, h4, h5, h6⟩
      obtain ⟨s1, o, h1, h2, h3⟩ := go_cons.1 h4
      dsimp only at h2 h3
      subst h3
      refine go_cons.2 ⟨s1, o ++ o2, h1, (ih s1 (o ++ o2, r.2)).2 ⟨o, s2, o2, h2, h5, rfl⟩, h6⟩
theorem go_len (E : Env) (l : List T3) : ∀ (s : Ck) (r : List Int × Ck), go E l s = some r → r.1.length = l.length := by
  induction l with
  | nil => intro s r h; cases h; rfl
  | cons x l ih =>
    intro s r h
    obtain ⟨s1, o, h1, h2, h3⟩ := go_cons.1 h
    rw [h3, List.length_cons, List.length_cons, ih s1 _ h2]
theorem go_mem (E : Env) (l : List T3) : ∀ (s : Ck) (r : List Int × Ck), go E l s = some r → ∀ x ∈ l, ∃ s1 s2, see E x s1 = .ok s2 := by
  induction l with
  | nil => intro s r h x hx; cases hx
  | cons y l ih =>
    intro s r h x hx
    obtain ⟨s1, o, h1, h2, h3⟩ := go_cons.1 h
    rcases List.mem_cons.1 hx with rfl | hx
    · exact ⟨s, s1, h1⟩
    · exact ih s1 _ h2 x hx
/-! one, and a valid module -/
theorem oneT_iff {M : Md} {k : Nat} {out : List Int} : oneT M k = .ok out ↔ (wkAll (M.funcs.getD k zF).2.2.2).2.1 = 0 ∧ ∃ s, go (envOf M (M.funcs.getD k zF)) (M.funcs.getD k zF).2.2.2 (startOf (envOf M (M.funcs.getD k zF))) = some (out, s) := by
  unfold oneT
  dsimp only
  by_cases hw : (wkAll (M.funcs.getD k zF).2.2.2).2.1 = 0
  · rw [if_neg (by simpa using hw)]
    constructor
    · intro h
      split at h
      · cases h
      · rename_i o ho
        cases h
        obtain ⟨o1, s1, h1, h2⟩ := (go_run _ _ _ _ _).1 _ ho
        rw [List.nil_append] at h2
        exact ⟨hw, s1, by rw [h1, h2]⟩
    · rintro ⟨_, s, h⟩
      rw [(go_run _ _ _ _ _).2 _ _ h]
      rfl
  · rw [if_pos hw]
    exact ⟨fun h => (by cases h), fun h => absurd h.1 hw⟩
theorem firstBad_none {M : Md} : ∀ r k, firstBad M r k = none ↔ ∀ j, k ≤ j → j < k + r → ∃ out, oneT M j = .ok out := by
  intro r
  induction r with
  | zero => intro k; exact ⟨fun _ j h1 h2 => by omega, fun _ => rfl⟩
  | succ r ih =>
    intro k
    unfold firstBad
    constructor
    · intro h j h1 h2
      split at h
      · cases h
      · rename_i o ho
        rcases Nat.lt_or_ge k j with hj | hj
        · exact (ih (k + 1)).1 h j (by omega) (by omega)
        · obtain rfl : j = k := by omega
          exact ⟨o, ho⟩
    · intro h
      obtain ⟨o, ho⟩ := h k (Nat.le_refl _) (by omega)
      rw [ho]
      dsimp only
      exact (ih (k + 1)).2 fun j h1 h2 => h j (by omega) (by omega)
theorem firstBad_at {M : Md} {x : Int × Int} : ∀ r k n, (∀ j, k ≤ j → j < k + n → ∃ out, oneT M j = .ok out) → n < r → oneT M (k + n) = .error x → firstBad M r k = some x := by
  intro r
  induction r with
  | zero => intro k n _ h; omega
  | succ r ih =>
    intro k n h hn hx
    unfold firstBad
    cases n with
    | zero =>
      rw [Nat.add_zero] at hx
      rw [hx]
    | succ n =>
      obtain ⟨o, ho⟩ := h k (Nat.le_refl _) (by omega)
      rw [ho]
      dsimp only
      exact ih (k + 1) n (fun j h1 h2 => h j (by omega) (by omega)) (by omega) (by rw [show k + 1 + n = k + (n + 1) from by omega]; exact hx)
theorem valid_iff {M : Md} : validT M = none ↔ Fit M ∧ refsM M = true ∧ ∀ j, j < M.funcs.length → ∃ out, oneT M j = .ok out := by
  constructor
  · intro h
    obtain ⟨h1, h2⟩ := valid_none h
    refine ⟨h1, h2, fun j hj => ?_⟩
    unfold validT at h
    have h0 := fits_zero.2 h1
    rw [h0, if_neg (by decide), if_neg (by decide), if_neg (by rw [h2]; decide)] at h
    exact (firstBad_none _ _).1 h j (by omega) (by omega)
  · rintro ⟨h1, h2, h3⟩
    unfold validT
    rw [fits_zero.2 h1, if_neg (by decide), if_neg (by decide), if_neg (by rw [h2]; decide)]
    exact (firstBad_none _ _).2 fun j _ hj => h3 j (by omega)
theorem heights_ok {M : Md} {f : Int} {out : List Int} (h0 : 0 ≤ f) (h1 : f < M.funcs.length) (hv : validT M = none) (h : oneT M f.toNat = .ok out) : heightsT M f = .ok out := by
  unfold heightsT
  rw [hv]
  dsimp only
  rw [if_neg (by omega)]
  exact h
/-! what nest.Spans answers hangs on the kinds and on what is open -/
/-- the error of a body's spans: op: what is open, the last one at the head: is it an If that waits for its Else? -/
def errN : List T3 → List (Bool × Bool) → Bool → Int
  | [], _, _ => 3
  | x :: l, op, deep =>
    if opens x.1 then errN l ((x.1 == 4, false) :: op) (deep || decide (op.length + 1 > 8))
    else if x.1 = 5 then (match op with
      | [] => 3
      | q :: r => if q.1 = false ∨ q.2 = true then 3 else errN l ((q.1, true) :: r) deep)
    else if x.1 = 11 then (match op with
      | [] => if l ≠ [] then 3 else if deep then 1 else 0
      | _ :: r => errN l r deep)
    else errN l op deep
def skO (L sp : List T3) (j : Int) : Bool × Bool := ((at3 L (at3 sp j).1).1 == 4, decide ((at3 sp j).2.1 ≥ 0))
theorem at3_app {sp : List T3} {y : T3} {j : Int} (h0 : 0 ≤ j) (h1 : j < sp.length) : at3 (sp ++ [y]) j = at3 sp j := by
  unfold at3
  rw [List.getD_eq_getElem?_getD, List.getD_eq_getElem?_getD, List.getElem?_append_left (by omega)]
theorem at3_end {sp : List T3} {y : T3} : at3 (sp ++ [y]) (sp.length : Int) = y := by
  unfold at3
  rw [List.getD_eq_getElem?_getD, Int.toNat_natCast, List.getElem?_append_right (Nat.le_refl _), Nat.sub_self]
  rfl
theorem at3_set {sp : List T3} {y : T3} {i j : Int} (h0 : 0 ≤ i) (h1 : i < sp.length) (hj : 0 ≤ j) : at3 (sp.set i.toNat y) j = if j = i then y else at3 sp j := by
  unfold at3
  rw [getD_set _ _ _ _ _ (by omega)]
  by_cases h : j = i
  · rw [if_pos h, if_pos (by omega)]
  · rw [if_neg h, if_neg (by omega)]
theorem rd_last {o : List Int} {j : Int} : rd (o ++ [j]) (((o ++ [j]).length : Int) - 1) = j := by
  unfold rd
  rw [List.length_append, show (((o.length + [j].length : Nat) : Int) - 1).toNat = o.length from by simp, List.getD_eq_getElem?_getD, List.getElem?_append_right (Nat.le_refl _), Nat.sub_self]
  rfl
theorem wk_err (L : List T3) : ∀ (r i : Nat) (sp : List T3) (op : List Int) (deep : Bool), r = L.length - i → i ≤ L.length → (∀ j ∈ op, 0 ≤ j ∧ j < sp.length) → op.Nodup → (wk L r i sp op deep).2.1 = errN (L.drop i) ((op.map (skO L sp)).reverse) deep := by
  intro r
  induction r with
  | zero =>
    intro i sp op deep hr hi ho hn
    rw [List.drop_eq_nil_of_le (by omega)]
    rfl
  | succ r ih =>
    intro i sp op deep hr hi ho hn
    have hlt : i < L.length := by omega
    have hd : L.drop i = at3 L i :: L.drop (i + 1) := by
      rw [List.drop_eq_getElem_cons hlt]
      unfold at3
      rw [Int.toNat_natCast, List.getD_eq_getElem?_getD, List.getElem?_eq_getElem hlt]
      rfl
    rw [hd]
    unfold wk errN
    dsimp only
    obtain ⟨x, hx⟩ : ∃ x, at3 L i = x := ⟨_, rfl⟩
    rw [hx]
    by_cases h1 : opens x.1 = true
    · rw [if_pos h1, if_pos h1]
      dsimp only
      rw [ih (i + 1) _ _ _ (by omega) (by omega) ?_ ?_]
      · rw [List.map_append, List.reverse_append, List.length_reverse, List.length_map]
        have e1 : op.map (skO L (sp ++ [((i : Int), -1, -1)])) = op.map (skO L sp) := List.map_congr_left fun j hj => by
          unfold skO
          rw [at3_app (ho j hj).1 (ho j hj).2]
        have e2 : skO L (sp ++ [((i : Int), -1, -1)]) (sp.length : Int) = (x.1 == 4, false) := by
          unfold skO
          rw [at3_end]
          dsimp only
          rw [hx]
          rfl
        rw [e1, List.map_cons, e2]
        rfl
      · intro j hj
        rw [List.length_append]
        rcases List.mem_append.1 hj with hj | hj
        · have := ho j hj
          simp
          omega
        · rw [List.mem_singleton.1 hj]
          simp
          omega
      · refine List.nodup_append.2 ⟨hn, by simp, fun a ha b hb => ?_⟩
        rw [List.mem_singleton.1 hb]
        have := (ho a ha).2
        omega
    · rw [if_neg h1, if_neg h1]
      by_cases h5 : x.1 = 5
      · rw [if_pos h5, if_pos h5]
        rcases List.eq_nil_or_concat op with e | ⟨o, j, e⟩
        · subst e
          rfl
        · rw [List.concat_eq_append] at e
          subst e
          rw [if_neg (by simp), rd_last, List.map_append, List.reverse_append]
          have hj := ho j (by simp)
          have hno : ∀ k ∈ o, k ≠ j := fun k hk e => by
            subst e
            exact (List.nodup_append.1 hn).2.2 k hk k (by simp) rfl
          show (if _ then _ else _ : List T3 × Int × List (Int × List Int)).2.1 = if (skO L sp j).1 = false ∨ (skO L sp j).2 = true then (3 : Int) else errN _ (((skO L sp j).1, true) :: (o.map (skO L sp)).reverse) deep
          have hc : ((skO L sp j).1 = false ∨ (skO L sp j).2 = true) ↔ ((at3 L (at3 sp j).1).1 ≠ 4 ∨ (at3 sp j).2.1 ≥ 0) := by
            unfold skO
            simp
          by_cases hq : (at3 L (at3 sp j).1).1 ≠ 4 ∨ (at3 sp j).2.1 ≥ 0
          · rw [if_pos hq, if_pos (hc.2 hq)]
          · rw [if_neg hq, if_neg (fun h => hq (hc.1 h))]
            dsimp only
            rw [ih (i + 1) _ _ _ (by omega) (by omega) (fun k hk => by rw [List.length_set]; exact ho k hk) hn]
            rw [List.map_append, List.reverse_append]
            have e1 : o.map (skO L (sp.set j.toNat ((at3 sp j).1, (i : Int), (at3 sp j).2.2))) = o.map (skO L sp) := List.map_congr_left fun k hk => by
              unfold skO
              rw [at3_set hj.1 hj.2 (ho k (by simp [hk])).1, if_neg (hno k hk)]
            have e2 : skO L (sp.set j.toNat ((at3 sp j).1, (i : Int), (at3 sp j).2.2)) j = ((skO L sp j).1, true) := by
              unfold skO
              rw [at3_set hj.1 hj.2 hj.1, if_pos rfl]
              simp
            rw [e1, List.map_cons, e2]
            rfl
      · rw [if_neg h5, if_neg h5]
        by_cases h11 : x.1 = 11
        · rw [if_pos h11, if_pos h11]
          rcases List.eq_nil_or_concat op with e | ⟨o, j, e⟩
          · subst e
            rw [if_pos rfl]
            show (if _ then _ else _ : List T3 × Int × List (Int × List Int)).2.1 = if _ then (3 : Int) else if deep = true then 1 else 0
            by_cases hq : i + 1 = L.length
            · have e1 : L.drop (i + 1) = [] := by rw [hq, List.drop_length]
              rw [if_neg (show ¬ (i + 1 ≠ L.length) from fun h => h hq), if_neg (show ¬ (L.drop (i + 1) ≠ []) from fun h => h e1)]
              cases deep <;> rfl
            · rw [if_pos hq, if_pos (by intro e; have := congrArg List.length e; rw [List.length_drop] at this; simp at this; omega)]
          · rw [List.concat_eq_append] at e
            subst e
            rw [if_neg (by simp), rd_last, List.map_append, List.reverse_append]
            have hj := ho j (by simp)
            have hno : ∀ k ∈ o, k ≠ j := fun k hk e => by
              subst e
              exact (List.nodup_append.1 hn).2.2 k hk k (by simp) rfl
            dsimp only
            rw [List.dropLast_concat]
            rw [ih (i + 1) _ _ _ (by omega) (by omega) (fun k hk => by rw [List.length_set]; exact ho k (by simp [hk])) (List.nodup_append.1 hn).1]
            have e1 : o.map (skO L (sp.set j.toNat ((at3 sp j).1, (at3 sp j).2.1, (i : Int)))) = o.map (skO L sp) := List.map_congr_left fun k hk => by
              unfold skO
              rw [at3_set hj.1 hj.2 (ho k (by simp [hk])).1, if_neg (hno k hk)]
            rw [e1]
            rfl
        · rw [if_neg h11, if_neg h11]
          dsimp only
          exact ih (i + 1) _ _ _ (by omega) (by omega) ho hn
theorem wkAll_err (L : List T3) : (wkAll L).2.1 = errN L [] false := by
  unfold wkAll
  rw [wk_err L L.length 0 [] [] false (by omega) (by omega) (fun j h => by cases h) (by simp)]
  rfl
/-- neither a block's beginning, nor its Else, nor its end -/
def Plain (x : T3) : Prop := opens x.1 = false ∧ x.1 ≠ 5 ∧ x.1 ≠ 11
theorem errN_ins {x : T3} (hx : Plain x) (b : List T3) (hb : b ≠ []) (a : List T3) : ∀ op deep, errN (a ++ x :: b) op deep = errN (a ++ b) op deep := by
  induction a with
  | nil =>
    intro op deep
    show errN (x :: b) op deep = errN b op deep
    unfold errN
    rw [if_neg (by rw [hx.1]; decide), if_neg hx.2.1, if_neg hx.2.2]
    cases b with
    | nil => exact absurd rfl hb
    | cons y b => rfl
  | cons y a ih =>
    intro op deep
    rw [List.cons_append, List.cons_append]
    unfold errN
    have hn : (a ++ x :: b ≠ []) ↔ (a ++ b ≠ []) := by simp [hb]
    simp only [ih, hn]
theorem plain_not {x : T3} (hx : Plain x) : ¬ (x.1 = 2 ∨ x.1 = 3 ∨ x.1 = 4) := fun h => by
  have h1 := (opens_iff x.1).2 h
  rw [hx.1] at h1
  cases h1
theorem closedN_shift (l : List T3) : ∀ (n i : Nat) (d : Int), closedN (n + 1) l (i + 1) d = closedN n l i d := by
  induction l with
  | nil => intro n i d; rfl
  | cons y l ih =>
    intro n i d
    unfold closedN
    simp only [ih, Nat.add_right_cancel_iff]
theorem closedN_ins {x : T3} (hx : Plain x) (b : List T3) (hb : b ≠ []) (a : List T3) : ∀ (n i : Nat) (d : Int), n = i + (a ++ b).length → closedN (n + 1) (a ++ x :: b) i d = closedN n (a ++ b) i d := by
  induction a with
  | nil =>
    intro n i d hn
    show closedN (n + 1) (x :: b) i d = closedN n b i d
    rw [← closedN_shift b n i d]
    conv => lhs; unfold closedN
    rw [if_neg (plain_not hx), if_neg hx.2.2]
  | cons y a ih =>
    intro n i d hn
    have hl : 0 < b.length := List.length_pos_iff.2 hb
    have hn2 : n = i + 1 + (a ++ b).length := by rw [hn]; simp; omega
    rw [List.cons_append, List.cons_append]
    unfold closedN
    rw [ih n (i + 1) (d + 1) hn2, ih n (i + 1) (d - 1) hn2, ih n (i + 1) d hn2]
    have hl2 : (a ++ b).length = a.length + b.length := List.length_append
    have e1 : decide (i + 1 = n + 1) = false := by simp; omega
    have e2 : decide (i + 1 = n) = false := by simp; omega
    rw [e1, e2]
theorem closedB_ins {x : T3} (hx : Plain x) (b : List T3) (hb : b ≠ []) (a : List T3) : closedB (a ++ x :: b) = closedB (a ++ b) := by
  unfold closedB
  have e : (a ++ x :: b).length = (a ++ b).length + 1 := by simp; omega
  rw [e]
  exact closedN_ins hx b hb a _ 0 1 (by omega)
/-! what a check hangs on of its module and its function -/
/-- what is right in the one is right in the other -/
structure More (E E' : Env) : Prop where
  tr : E.tr = true → E'.tr = true
  locals : E'.locals = E.locals
  result : E'.result = E.result
  globals : E'.M.globals = E.M.globals
  m0 : E'.M.m0 = E.M.m0
  m1 : E'.M.m1 = E.M.m1
  call : ∀ n, ((callee E.M n).2.2.2 && (E.tr || !(callee E.M n).2.2.1)) = true → ((callee E'.M n).2.2.2 && (E'.tr || !(callee E'.M n).2.2.1)) = true ∧ (callee E'.M n).1 = (callee E.M n).1
theorem cellT_more {E E' : Env} (h : More E E') (op n : Int) : cellT E' op n = cellT E op n := by
  unfold cellT
  rw [h.globals, h.locals]
theorem memOf_more {E E' : Env} (h : More E E') (k : Int) : memOf E'.M k = memOf E.M k := by
  unfold memOf
  rw [h.m0, h.m1]
theorem see_more {E E' : Env} (h : More E E') {x : T3} {s s1 : Ck} (hs : see E x s = .ok s1) : see E' x s = .ok s1 := by
  have hc : ∀ {n}, callT E n s = .ok s1 → callT E' n s = .ok s1 := by
    intro n hq
    unfold callT at hq ⊢
    split at hq
    · rename_i hk
      obtain ⟨k1, k2⟩ := h.call n hk
      rw [if_pos k1, k2]
      exact hq
    · cases hq
  unfold see at hs ⊢
  simp only [cellT_more h, memOf_more h, h.result]
  by_cases h16 : x.1 = 16
  · simp only [h16] at hs ⊢
    exact hc hs
  · by_cases h241 : x.1 = 241
    · simp only [h241] at hs ⊢
      by_cases ht : E.tr = false
      · simp [ht] at hs
      · have ht1 : E.tr = true := by simpa using ht
        have ht2 := h.tr ht1
        simpa [ht1, ht2] using hs
    · simpa [h16, h241] using hs
theorem go_more {E E' : Env} (h : More E E') (l : List T3) : ∀ (s : Ck) (r : List Int × Ck), go E l s = some r → go E' l s = some r := by
  induction l with
  | nil => intro s r hs; exact hs
  | cons x l ih =>
    intro s r hs
    obtain ⟨s1, o, h1, h2, h3⟩ := go_cons.1 hs
    exact go_cons.2 ⟨s1, o, see_more h h1, ih _ _ h2, h3⟩
theorem start_more {E E' : Env} (h : More E E') : startOf E' = startOf E := by
  unfold startOf
  rw [h.result]
section
variable {M : Md} {k : Nat} {L : List T3}
theorem withL_get (hk : k < M.funcs.length) (j : Nat) : (withL M k L).funcs.getD j zF = if j = k then ((M.funcs.getD k zF).1, (M.funcs.getD k zF).2.1, (M.funcs.getD k zF).2.2.1, L) else M.funcs.getD j zF := getD_set _ _ _ _ _ hk
theorem withL_callee (hk : k < M.funcs.length) (n : Int) : callee (withL M k L) n = callee M n := by
  have h1 : ∀ j, ((withL M k L).funcs.getD j zF).1 = (M.funcs.getD j zF).1 ∧ ((withL M k L).funcs.getD j zF).2.1 = (M.funcs.getD j zF).2.1 := by
    intro j
    rw [withL_get hk]
    split
    · rename_i h
      subst h
      exact ⟨rfl, rfl⟩
    · exact ⟨rfl, rfl⟩
  have hi : (withL M k L).imports = M.imports := rfl
  have hs : (withL M k L).sigs = M.sigs := rfl
  have e : calleeN (withL M k L) n = calleeN M n := by
    unfold calleeN
    rw [withL_len, hi, (h1 _).1, (h1 _).2]
  unfold callee
  rw [e, hs]
theorem withL_more (hk : k < M.funcs.length) (j : Nat) (hj : j ≠ k) : More (envOf M (M.funcs.getD j zF)) (envOf (withL M k L) ((withL M k L).funcs.getD j zF)) := by
  rw [withL_get hk, if_neg hj]
  exact ⟨fun h => h, rfl, rfl, rfl, rfl, rfl, fun n h => by
    show ((callee (withL M k L) n).2.2.2 && (_ || !(callee (withL M k L) n).2.2.1)) = true ∧ (callee (withL M k L) n).1 = _
    rw [withL_callee hk]
    exact ⟨h, rfl⟩⟩
theorem withL_more_k (hk : k < M.funcs.length) : More (envOf M (M.funcs.getD k zF)) (envOf (withL M k L) ((withL M k L).funcs.getD k zF)) := by
  rw [withL_get hk, if_pos rfl]
  exact ⟨fun h => h, rfl, rfl, rfl, rfl, rfl, fun n h => by
    show ((callee (withL M k L) n).2.2.2 && (_ || !(callee (withL M k L) n).2.2.1)) = true ∧ (callee (withL M k L) n).1 = _
    rw [withL_callee hk]
    exact ⟨h, rfl⟩⟩
theorem withL_mem (hk : k < M.funcs.length) {f : Fn} (hf : f ∈ (withL M k L).funcs) : f ∈ M.funcs ∨ f = ((M.funcs.getD k zF).1, (M.funcs.getD k zF).2.1, (M.funcs.getD k zF).2.2.1, L) := by
  rcases List.mem_or_eq_of_mem_set hf with h | h
  · exact .inl h
  · exact .inr h
theorem withL_fit (hk : k < M.funcs.length) (F : Fit M) (h1 : L.length ≤ 200) (h2 : L.all rightX = true) (h3 : closedB L = true) : Fit (withL M k L) := by
  have hl := (limM_iff M).1 F.lim
  have ha := F.argAll
  have hm := getD_mem zF M.funcs k hk
  refine ⟨(limM_iff _).2 ⟨?_, hl.2.1, fun f hf => ?_, hl.2.2.2⟩, ?_⟩
  · rw [withL_len]
    exact hl.1
  · rcases withL_mem hk hf with hf | rfl
    · exact hl.2.2.1 f hf
    · exact ⟨(hl.2.2.1 _ hm).1, h1⟩
  · unfold argM
    simp only [Bool.and_eq_true, List.all_eq_true]
    refine ⟨⟨⟨⟨ha.1, ha.2.1⟩, fun f hf => ?_⟩, ha.2.2.2.1⟩, ha.2.2.2.2⟩
    rcases withL_mem hk hf with hf | rfl
    · exact ha.2.2.1 f hf
    · have h := ha.2.2.1 _ hm
      unfold funcB at h ⊢
      simp only [Bool.and_eq_true] at h ⊢
      exact ⟨⟨⟨h.1.1.1, h.1.1.2⟩, h2⟩, h3⟩
theorem withL_refs (hk : k < M.funcs.length) (h : refsM M = true) : refsM (withL M k L) = true := by
  unfold refsM at h ⊢
  simp only [Bool.and_eq_true, List.all_eq_true] at h ⊢
  refine ⟨⟨h.1.1, fun f hf => ?_⟩, h.2⟩
  rcases withL_mem hk hf with hf | rfl
  · exact h.1.2 f hf
  · exact h.1.2 (M.funcs.getD k zF) (getD_mem zF M.funcs k hk)
/-- with another body that is right a module is as valid as before -/
theorem withL_valid (hk : k < M.funcs.length) (hv : validT M = none) (h1 : L.length ≤ 200) (h2 : L.all rightX = true) (h3 : closedB L = true) (h4 : errN L [] false = 0) {g : List Int} {s : Ck}
    (h5 : go (envOf M (M.funcs.getD k zF)) L (startOf (envOf M (M.funcs.getD k zF))) = some (g, s)) : validT (withL M k L) = none ∧ oneT (withL M k L) k = .ok g := by
  obtain ⟨F, R, O⟩ := valid_iff.1 hv
  have hg : oneT (withL M k L) k = .ok g := by
    refine oneT_iff.2 ⟨?_, s, ?_⟩
    · rw [wkAll_err, withL_get hk, if_pos rfl]
      exact h4
    · rw [start_more (withL_more_k hk)]
      have e : ((withL M k L).funcs.getD k zF).2.2.2 = L := by rw [withL_get hk, if_pos rfl]
      rw [e]
      exact go_more (withL_more_k hk) _ _ _ h5
  refine ⟨valid_iff.2 ⟨withL_fit hk F h1 h2 h3, withL_refs hk R, fun j hj => ?_⟩, hg⟩
  by_cases hjk : j = k
  · subst hjk
    exact ⟨g, hg⟩
  · rw [withL_len] at hj
    obtain ⟨out, ho⟩ := O j hj
    obtain ⟨ho1, s1, ho2⟩ := oneT_iff.1 ho
    refine ⟨out, oneT_iff.2 ⟨?_, s1, ?_⟩⟩
    · rw [withL_get hk, if_neg hjk]
      exact ho1
    · rw [start_more (withL_more hk j hjk)]
      have e : ((withL M k L).funcs.getD j zF).2.2.2 = (M.funcs.getD j zF).2.2.2 := by rw [withL_get hk, if_neg hjk]
      rw [e]
      exact go_more (withL_more hk j hjk) _ _ _ ho2
end
/-- what is known of a function of a valid module -/
theorem valid_body {M : Md} (hv : validT M = none) {k : Nat} (hk : k < M.funcs.length) : (M.funcs.getD k zF).2.2.2.length ≤ 200 ∧ (M.funcs.getD k zF).2.2.2.all rightX = true ∧ closedB (M.funcs.getD k zF).2.2.2 = true ∧ errN (M.funcs.getD k zF).2.2.2 [] false = 0 ∧ (M.funcs.getD k zF).2.2.2 ≠ [] ∧ ∃ g s, oneT M k = .ok g ∧ go (envOf M (M.funcs.getD k zF)) (M.funcs.getD k zF).2.2.2 (startOf (envOf M (M.funcs.getD k zF))) = some (g, s) := by
  obtain ⟨F, R, O⟩ := valid_iff.1 hv
  have hm := getD_mem zF M.funcs k hk
  have h1 := ((limM_iff M).1 F.lim).2.2.1 _ hm
  have h2 := F.argAll.2.2.1 _ hm
  unfold funcB at h2
  simp only [Bool.and_eq_true] at h2
  obtain ⟨g, hg⟩ := O k hk
  obtain ⟨h3, s, h4⟩ := oneT_iff.1 hg
  rw [wkAll_err] at h3
  refine ⟨h1.2, h2.1.2, h2.2, h3, fun e => ?_, g, s, hg, h4⟩
  rw [e] at h3
  cases h3
/-- what the spans' walk does at an instruction that is not the last one -/
theorem errN_step {x : T3} {l : List T3} {op : List (Bool × Bool)} {deep : Bool} (he : errN (x :: l) op deep = 0) (hl : l ≠ []) : (x.1 = 11 → op ≠ []) ∧ ∃ op1 deep1, errN l op1 deep1 = 0 ∧ op1.length + 1 = depthOf x.1 (op.length + 1) := by
  unfold errN at he
  unfold depthOf
  by_cases h1 : opens x.1 = true
  · rw [if_pos h1] at he
    have h2 := (opens_iff x.1).1 h1
    rw [if_pos h2]
    exact ⟨fun e => by omega, _, _, he, by simp⟩
  · rw [if_neg h1] at he
    have h2 : ¬ (x.1 = 2 ∨ x.1 = 3 ∨ x.1 = 4) := fun e => h1 ((opens_iff x.1).2 e)
    rw [if_neg h2]
    by_cases h5 : x.1 = 5
    · rw [if_pos h5] at he
      rw [if_neg (by omega)]
      refine ⟨fun e => by omega, ?_⟩
      cases op with
      | nil => cases he
      | cons q op =>
        dsimp only at he
        split at he
        · cases he
        · exact ⟨_, _, he, by simp⟩
    · rw [if_neg h5] at he
      by_cases h11 : x.1 = 11
      · rw [if_pos h11] at he
        rw [if_pos h11]
        cases op with
        | nil =>
          dsimp only at he
          rw [if_pos hl] at he
          cases he
        | cons q op =>
          exact ⟨fun _ => by simp, _, _, he, by simp⟩
      · rw [if_neg h11] at he
        rw [if_neg h11]
        exact ⟨fun e => absurd e h11, _, _, he, rfl⟩
/-- the check of a function of a valid module has what the laws want -/
theorem fn_env {M : Md} (hv : validT M = none) (C : MCan M) {k : Nat} (hk : k < M.funcs.length) : EFine (envOf M (M.funcs.getD k zF)) ∧ ∀ x ∈ (M.funcs.getD k zF).2.2.2, XOk x := by
  obtain ⟨F, R⟩ := valid_none hv
  have O := F.fnok C (refs_sg R) k hk
  have hs := F.fine.sigs _ (getD_mem zS M.sigs (M.funcs.getD k zF).1.toNat (by have := O.sig; omega))
  refine ⟨⟨F.fine, fun t ht => ?_, firstL_ty hs.2⟩, O.body⟩
  rcases List.mem_append.1 (show t ∈ (M.sigs.getD (M.funcs.getD k zF).1.toNat zS).1 ++ (M.funcs.getD k zF).2.2.1 from ht) with ht | ht
  · exact hs.1 t ht
  · exact O.loc t ht
theorem see_at {M : Md} (hv : validT M = none) {k : Nat} (hk : k < M.funcs.length) {x : T3} (hx : x ∈ (M.funcs.getD k zF).2.2.2) : ∃ s1 s2, see (envOf M (M.funcs.getD k zF)) x s1 = .ok s2 := by
  obtain ⟨_, _, _, _, _, g, s, _, hgo⟩ := valid_body hv hk
  exact go_mem _ _ _ _ hgo x hx
theorem see_call {E : Env} {x : T3} {s1 s2 : Ck} (h : see E x s1 = .ok s2) (hx : x.1 = 16) : ((callee E.M x.2.1).2.2.2 && (E.tr || !(callee E.M x.2.1).2.2.1)) = true := by
  have h2 : callT E x.2.1 s1 = .ok s2 := by
    unfold see at h
    simpa [hx] using h
  unfold callT at h2
  split at h2
  · rename_i hc; exact hc
  · cases h2
theorem see_declass {E : Env} {x : T3} {s1 s2 : Ck} (h : see E x s1 = .ok s2) (hx : x.1 = 241) : E.tr = true := by
  cases ht : E.tr
  · unfold see at h
    simp [hx, ht] at h
  · rfl
theorem see_mem {E : Env} {x : T3} {s1 s2 : Ck} (h : see E x s1 = .ok s2) (hx : x.1 = 40 ∨ x.1 = 41 ∨ x.1 = 54 ∨ x.1 = 55) : memOf E.M x.2.2 ≠ 0 := by
  intro hm
  unfold see at h
  rcases hx with hx | hx | hx | hx
  all_goals
    simp [hx, hm] at h
theorem see_cell {E : Env} {x : T3} {s1 s2 : Ck} (h : see E x s1 = .ok s2) (hx : x.1 = 32 ∨ x.1 = 33 ∨ x.1 = 34 ∨ x.1 = 35 ∨ x.1 = 36) : ∃ t, cellT E x.1 x.2.1 = .ok t := by
  unfold see at h
  rcases hx with hx | hx | hx | hx | hx
  all_goals
    simp [hx] at h
    obtain ⟨t, ht, _⟩ := bnd_ok h
    exact ⟨t, by rw [hx]; exact ht⟩
end Go.Proofs.YtjjhhmchomabeaaDoor.Valid
