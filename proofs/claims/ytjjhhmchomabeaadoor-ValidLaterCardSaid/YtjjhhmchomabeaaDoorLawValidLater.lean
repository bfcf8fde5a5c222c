/- With one function more, that does nothing, a valid module stays valid, with the same heights; with one that brings what its signature does not, it is not (ValidLater): whatever the module and the number are, the law returns true. -/
import Derived.Test.YtjjhhmchomabeaaDoorValLaP
import Derived.Test.YtjjhhmchomabeaaDoorModAt
import Derived.Test.YtjjhhmchomabeaaDoorCards
import Derived.Test.YtjjhhmchomabeaaDoorTie
import Derived.ChangeSame
import Derived.ChangeVars
import Derived.JoinedOf
import Derived.RowKit
import Derived.RowKitTokens
import Derived.LaidLaws
import Derived.LaidHandle
import Derived.Stop.Joined
import Derived.SevenTiedAt
namespace Go.Proofs.YtjjhhmchomabeaaDoor.Valid
open Go.RowKit Go.Proofs.YtjjhhmchomabeaaDoorW.PrintWords Go.Proofs.YtjjhhmchomabeaaDoorW.PrintLast Go.Proofs.YtjjhhmchomabeaaDoor.Mem Go.Proofs.YtjjhhmchomabeaaDoor.Nest
set_option linter.unusedVariables false
set_option linter.unusedSimpArgs false

theorem box_new {w W : World} {M : Md} {h : Hd} (H : Aside0 (FW w M h W)) (cs : Array Value) (t : TypeId) : (W.alloc (.cells cs t)).heap[W.heap.size]? = some (.cells cs t (0, 0)) := blk_new W _
theorem infoSg : (Tryd.prog.info? 32).map (fun i => (i.zero, i.size, i.bytes)) = some (some (.agg #[.slice none 0 0, .slice none 0 0]), 2, 48) := by kernel_rfl
theorem heap_sig : Kd.Heap kSig := Kd.heap_pair (Kd.heap_slice _ (Kd.heap_int _)) (Kd.heap_slice _ (Kd.heap_int _))
theorem below_grown {W W1 : World} (hg : W.grownBy W1 (Value.slice none 0 0).ownBlock) : Below W.heap.size W W1 := ⟨hg.os, hg.tape, hg.output, hg.size, fun k hk => hg.block k hk (by simp [Value.ownBlock])⟩
/-- what stays while n is made: what was there, n itself, its signatures -/
structure La (w w3 : World) (n sz : Nat) (M : Md) (h : Hd) (A6 : Option Addr) (c6 : Nat) (W : World) : Prop where
  b3 : Below w3.heap.size w3 W
  bn : W.heap[n]? = some (.cells #[.slice A6 (M.sigs.length + 1) c6, .slice h.a2 M.imports.length h.c2, .slice h.a3 M.funcs.length h.c3, .int .i64 M.m0, .int .i64 M.m1, .slice h.a4 M.globals.length h.c4, .slice h.a5 M.data.length h.c5] 29 (0, 0))
  sg : Kd.N kSig 32 W w.heap.size (fun q => (q < w.heap.size ∨ n < q) ∧ q < sz) (.slice A6 (M.sigs.length + 1) c6) (M.sigs ++ [([], [])])
  le : sz ≤ W.heap.size
  n3 : w3.heap.size ≤ n
  nz : n < sz
section
variable {w w3 W W1 : World} {n sz c6 : Nat} {M : Md} {h : Hd} {A6 : Option Addr}
theorem La.below (H : La w w3 n sz M h A6 c6 W) (hb : Below W.heap.size W W1) : La w w3 n sz M h A6 c6 W1 :=
  ⟨H.b3.trans (hb.mono H.b3.size), blk_below H.bn hb, Kd.N_below H.sg hb, Nat.le_trans H.le hb.size, H.n3, H.nz⟩
theorem La.grown (H : La w w3 n sz M h A6 c6 W) {b : Nat} (hg : W.grownBy W1 (some b)) (hb : sz ≤ b) : La w w3 n sz M h A6 c6 W1 := by
  have h1 := H.n3
  have h2 := H.nz
  refine ⟨H.b3.trans ⟨hg.os, hg.tape, hg.output, hg.size, fun k hk => hg.block k (Nat.lt_of_lt_of_le hk H.b3.size) (fun e => ?_)⟩, blk_grown H.bn hg (fun e => ?_), Kd.N_grown H.sg hg (fun k hk e => ?_), Nat.le_trans H.le hg.size, H.n3, H.nz⟩
  · injection e with e; omega
  · injection e with e; omega
  · injection e with e; have := hk.2; omega
end
/-- what the region that makes the new function reads -/
abbrev SP (w : World) (M : Md) (h : Hd) : World → Prop := fun w' => w'.cell? ⟨w.heap.size, 2, none⟩ = some (.slice h.a3 M.funcs.length h.c3) ∧ w'.cell? ⟨w.heap.size, 0, none⟩ = some (.slice h.a1 M.sigs.length h.c1)
theorem La.sp {w w3 W : World} {n sz c6 : Nat} {M : Md} {h : Hd} {A6 : Option Addr} (H : La w w3 n sz M h A6 c6 W) (F : FW w M h w3) : SP w M h W :=
  have hF := F.below H.b3
  ⟨blk_cell hF.box 2, blk_cell hF.box 0⟩
theorem La.sp2 {w w3 W : World} {n sz c6 : Nat} {M : Md} {h : Hd} {A6 : Option Addr} (H : La w w3 n sz M h A6 c6 W) (F : FW w M h w3) (hn : w.heap.size < n) (u : Value) : SP w M h (W.setCell ⟨n, 2, none⟩ u) := by
  obtain ⟨h1, h2⟩ := H.sp F
  exact ⟨by rw [World.cell?_setCell_far _ _ _ _ (by show n ≠ w.heap.size; omega)]; exact h1, by rw [World.cell?_setCell_far _ _ _ _ (by show n ≠ w.heap.size; omega)]; exact h2⟩
/-- the new function's row -/
abbrev nfC (m b7 : Nat) : Array Value := #[.int .i64 m, .bool false, .slice none 0 0, .slice (some ⟨b7, 0, none⟩) 1 1]
abbrev nF (m : Nat) : Fn := ((m : Int), false, [], [(11, 0, 0)])
theorem nf_row {W : World} {m b7 b9 : Nat} (h7 : W.heap[b7]? = some (.cells #[.int .i64 11, .int .i64 0, .int .i64 0] 45 (0, 0))) (h9 : W.heap[b9]? = some (.cells (nfC m b7) 43 (0, 0))) : Kd.F kFunc W (fun q => q = b7 ∨ q = b9) (some ⟨b9, 0, none⟩) 1 [nF m] := by
  intro W' hW
  have h7' := (hW b7 (.inl rfl) (blk_lt h7)).trans h7
  have h9' := (hW b9 (.inr rfl) (blk_lt h9)).trans h9
  exact one_row (cs := [.int .i64 m, .bool false, .slice none 0 0, .slice (some ⟨b7, 0, none⟩) 1 1]) h9' rfl ⟨[_], _, rfl, rfl, [_], _, rfl, rfl, [_], [_], rfl, slice_K (xs := ([] : List Int)) (Nat.le_refl _) (nilRow _ _), slice_K (xs := [((11 : Int), (0 : Int), (0 : Int))]) (Nat.le_refl _) (k3_lit [(11, 0, 0)] (by simp) h7')⟩
theorem more_mod {w w3 W : World} {n sz c6 c10 : Nat} {M : Md} {h : Hd} {A6 A10 : Option Addr} (HL : La w w3 n sz M h A6 c6 W) (HM : ModAt w h M) (HF : FW w M h w3) (hwn : w.heap.size < n)
    (HN : Kd.N kFunc 43 W w.heap.size (fun q => q < w.heap.size ∨ n < q) (.slice A10 (M.funcs.length + 1) c10) (M.funcs ++ [nF M.sigs.length])) (u : Value) :
    ModAt (W.setCell ⟨n, 2, none⟩ u) { h with a1 := A6, c1 := c6, a3 := A10, c3 := c10 } (moreM M [(11, 0, 0)]) := by
  have hb := ((HF.below HL.b3).bel).setCell (p := ⟨n, 2, none⟩) (Nat.le_of_lt hwn) u
  have h5 := HM.below hb
  have h1 := Kd.N_reads' (Kd.N_far (p := ⟨n, 2, none⟩) HL.sg (fun q hq => by show q ≠ n; have := hq.1; omega) u)
  have h3 := Kd.N_reads' (Kd.N_far (p := ⟨n, 2, none⟩) HN (fun q hq => by show q ≠ n; omega) u)
  exact ⟨h1.2.2, h5.imports, h3.2.2, h5.globals, h5.data, by show (M.sigs ++ [([], [])]).length ≤ c6; rw [← h1.1]; exact h1.2.1, h5.l2, by show (M.funcs ++ [_]).length ≤ c10; rw [← h3.1]; exact h3.2.1, h5.l4, h5.l5⟩
theorem more_can {M : Md} (C : MCan M) {l : List T3} (hl : ∀ x ∈ l, Can x.2.1) : MCan (moreM M l) := by
  refine ⟨fun g hg => ?_, fun f hf => ?_, C.globals⟩
  · rcases List.mem_append.1 (show g ∈ M.sigs ++ [_] from hg) with hg | hg
    · exact C.sigs g hg
    · rw [List.mem_singleton.1 hg]
      exact ⟨fun t ht => (by cases ht), fun t ht => (by cases ht)⟩
  · rcases List.mem_append.1 (show f ∈ M.funcs ++ [_] from hf) with hf | hf
    · exact C.funcs f hf
    · rw [List.mem_singleton.1 hf]
      exact ⟨fun t ht => (by cases ht), hl⟩
/-- what Heights hands back: a row, and an error or none -/
def HRes (M : Md) (f : Int) (W : World) (v ev : Value) (hs : List Int) : Prop := (∃ A c, v = .slice A hs.length c ∧ hs.length ≤ c ∧ (Kd.int .i64).C W A hs.length hs) ∧ ((ev = .nilIface ∧ heightsT M f = .ok hs) ∨ (∃ b, ev = fErr b) ∧ ∃ x, heightsT M f = .error x)
theorem hres {M : Md} {f : Int} {W0 W : World} {e : Ending} (h : OneOut W0 (heightsT M f) e W) : Below W0.heap.size W0 W ∧ ∃ v ev hs, e = .returned (.tuple #[v, ev]) ∧ HRes M f W v ev hs := by
  obtain ⟨hb, hr⟩ := h
  refine ⟨hb, ?_⟩
  cases hq : heightsT M f with
  | ok l =>
    rw [hq] at hr
    obtain ⟨v, rfl, hR⟩ := hr
    obtain ⟨A, c, rfl, hc, hC⟩ := Kd.R_reads hR
    exact ⟨_, _, l, rfl, ⟨A, c, rfl, hc, hC⟩, .inl ⟨rfl, hq⟩⟩
  | error x =>
    rw [hq] at hr
    obtain ⟨b, rfl, _, _⟩ := hr
    exact ⟨_, _, [], rfl, ⟨none, 0, rfl, Nat.le_refl _, nilRow _ _⟩, .inr ⟨⟨b, rfl⟩, x, hq⟩⟩
theorem more_set {M : Md} {l l2 : List T3} : (moreM M l).funcs.set M.funcs.length (((moreM M l).funcs.getD M.funcs.length zF).1, ((moreM M l).funcs.getD M.funcs.length zF).2.1, ((moreM M l).funcs.getD M.funcs.length zF).2.2.1, l2) = (moreM M l2).funcs := by
  rw [more_end]
  show (M.funcs ++ [_]).set M.funcs.length _ = M.funcs ++ [_]
  rw [List.set_append_right _ _ (Nat.le_refl _), Nat.sub_self]
  rfl
theorem more_cells {M : Md} {l : List T3} (h : Hd) : (moreM M l).cells h = #[.slice h.a1 (M.sigs.length + 1) h.c1, .slice h.a2 M.imports.length h.c2, .slice h.a3 (M.funcs.length + 1) h.c3, .int .i64 M.m0, .int .i64 M.m1, .slice h.a4 M.globals.length h.c4, .slice h.a5 M.data.length h.c5] := by
  have hl1 : (moreM M l).sigs.length = M.sigs.length + 1 := by show (M.sigs ++ [_]).length = _; rw [List.length_append]; rfl
  have hl2 : (moreM M l).funcs.length = M.funcs.length + 1 := more_len
  have hl3 : (moreM M l).imports = M.imports := rfl
  have hl4 : (moreM M l).globals = M.globals := rfl
  have hl5 : (moreM M l).data = M.data := rfl
  have hl6 : (moreM M l).m0 = M.m0 := rfl
  have hl7 : (moreM M l).m1 = M.m1 := rfl
  show (#[.slice h.a1 (moreM M l).sigs.length h.c1, .slice h.a2 (moreM M l).imports.length h.c2, .slice h.a3 (moreM M l).funcs.length h.c3, .int .i64 (moreM M l).m0, .int .i64 (moreM M l).m1, .slice h.a4 (moreM M l).globals.length h.c4, .slice h.a5 (moreM M l).data.length h.c5] : Array Value) = _
  rw [hl1, hl2, hl3, hl4, hl5, hl6, hl7]
/-- the same signatures, other functions behind them -/
theorem more_mod2 {W : World} {M : Md} {h : Hd} {A : Option Addr} {c e b : Nat} {ok : Nat → Prop} {l l2 : List T3} (H : ModAt W h (moreM M l)) (hN : Kd.N kFunc e W b ok (.slice A (M.funcs.length + 1) c) (moreM M l2).funcs) : ModAt W { h with a3 := A, c3 := c } (moreM M l2) :=
  have hr := Kd.N_reads' hN
  ⟨H.sigs, H.imports, hr.2.2, H.globals, H.data, H.l1, H.l2, by rw [← hr.1]; exact hr.2.1, H.l4, H.l5⟩
theorem later_arith {k : Nat} (h : k < 8) : wrap64 (1000 * (k : Int)) = 1000 * (k : Int) ∧ wrap64 (1000 * (k : Int) + 1) = 1000 * (k : Int) + 1 := ⟨by unfold wrap64; omega, by unfold wrap64; omega⟩
section
variable {ops : Array Oper} {o : Oper} {a : Act} {Kc : Act → World → Prop} {Q : Exit → Act → World → Prop} {w w3 W9 : World} {n sz c6 b7 b9 : Nat} {M : Md} {h : Hd} {A6 : Option Addr} {v8 : Value}
theorem step10 (HL : Aside0 (La w w3 n sz M h A6 c6 W9)) (HF : Aside0 (FW w M h w3)) (HN : Kd.N kFunc 43 W9 w.heap.size (fun q => q < w.heap.size ∨ n < q) v8 M.funcs) (hfr : ∀ b, v8.ownBlock = some b → sz ≤ b ∧ b ≠ b7 ∧ b ≠ b9)
    (h7 : W9.heap[b7]? = some (.cells #[.int .i64 11, .int .i64 0, .int .i64 0] 45 (0, 0))) (h9 : W9.heap[b9]? = some (.cells (nfC M.sigs.length b7) 43 (0, 0))) (hb7 : n < b7) (hb9 : n < b9) (h8 : M.funcs.length < 8)
    (hw : Region.wanted o (yielded ops a.tmps) = true) (ho : o.op = .call { callee := .builtin .append, args := #[.tmp 48, .tmp 55], argTypes := #[24, 24] }) (hs : a.eval (.tmp 48) = v8) (hx : a.eval (.tmp 55) = .slice (some ⟨b9, 0, none⟩) 1 1)
    (hk : ∀ A10 c10 W10, Aside0 (La w w3 n sz M h A6 c6 W10) → Aside0 (Kd.N kFunc 43 W10 w.heap.size (fun q => q < w.heap.size ∨ n < q) (.slice A10 (M.funcs.length + 1) c10) (M.funcs ++ [nF M.sigs.length])) → Kc (a.put o.dst (.slice A10 (M.funcs.length + 1) c10)) W10) :
    if Region.wanted o (yielded ops a.tmps) = true then Oper.wp Tryd.prog o a W9 Kc Q else Kc (a.put o.dst undef) W9 := by
  have hbw := (HF.out.below HL.out.b3).bel
  refine Kd.N_append_rows_step kFunc (w0 := w) (W := W9) w.heap.size hw (.tmp 48) (.tmp 55) 24 43 (.agg #[.int .i64 0, .bool false, .slice none 0 0, .slice none 0 0]) 64 ho Tryd.underlying24 infoFn rfl (by decide) (by decide) v8 M.funcs [nF M.sigs.length] (some ⟨b9, 0, none⟩) 1 1 (fun q => q < w.heap.size ∨ n < q) (fun q => q = b7 ∨ q = b9) hs hx HN (nf_row h7 h9) (fun q hq => ?_) (fun q hq => .inr (Nat.lt_of_lt_of_le HL.out.nz (Nat.le_trans HL.out.le hq))) hbw hbw.size (by omega) ?_
  · rcases hq with rfl | rfl
    · exact ⟨.inr hb7, fun e => (hfr _ e.symm).2.1 rfl⟩
    · exact ⟨.inr hb9, fun e => (hfr _ e.symm).2.2 rfl⟩
  · intro v1 w1 hN hB hg hat
    obtain ⟨A10, c10, rfl, hc, _⟩ := Kd.N_reads hN
    have hl : (M.funcs ++ [nF M.sigs.length]).length = M.funcs.length + 1 := by simp
    rw [hl] at hN ⊢
    refine hk A10 c10 w1 ⟨?_⟩ ⟨hN⟩
    cases hv : v8.ownBlock with
    | none => exact HL.out.below ⟨hg.os, hg.tape, hg.output, hg.size, fun k hk => hg.block k hk (by rw [hv]; simp)⟩
    | some b => rw [hv] at hg; exact HL.out.grown hg (hfr b hv).1
end
section
variable (M : Md) (h : Hd) (f : Int) (w : World)
set_option maxHeartbeats 4000000 in
set_option maxRecDepth 100000 in
theorem ValidLater_bad (H : ModAt w h M) (C : MCan M) (hf : Can f) (hl : Laid w) {q at_ : Int} (hv : validT M = some (q, at_)) :
    Calls Tryd.prog 9 #[.agg (M.cells h), .int .i64 f] w fun e w' => e = .returned (.bool true) ∧ Below w.heap.size w w' := by
  have HM := Aside0.mk H
  have HMC := Aside0.mk C
  have HCF := Aside0.mk hf
  have HF0 := Aside0.mk (show FW w M h (w.alloc (.cells (M.cells h) 29)) from ⟨below_alloc (Below.refl _ _) (Nat.le_refl _) _, blk_new _ _⟩)
  have HL := Aside0.mk (hl.below HF0.out.bel)
  have HV := Aside0.mk hv
  clear H C hl hv hf
  go_enter Tryd.func9, Tryd.ntmps9
  go_wp2_with fail
  refine (examples_calls _ HL.out).mono ?_
  rintro e w1 ⟨rfl, hb1⟩
  have HF1 := Aside0.mk (HF0.out.below hb1)
  have HL1 := Aside0.mk (HL.out.below hb1)
  have hz0 := blk_cell HF1.out.box 0
  have hz1 := blk_cell HF1.out.box 1
  have hz2 := blk_cell HF1.out.box 2
  have hz3 := blk_cell HF1.out.box 3
  have hz4 := blk_cell HF1.out.box 4
  have hz5 := blk_cell HF1.out.box 5
  have hz6 := blk_cell HF1.out.box 6
  clear hb1 HF0 HL
  go_wp2_with fail
  refine (valid_calls M h _ (HM.out.below HF1.out.bel) HMC.out).mono ?_
  rw [HV.out]
  rintro e w2 ⟨hb2, v, rfl, b, rfl, _, _⟩
  have HF2 := Aside0.mk (HF1.out.below hb2)
  clear hz0 hz1 hz2 hz3 hz4 hz5 hz6 hb2
  have hz0 := blk_cell HF2.out.box 0
  have hz1 := blk_cell HF2.out.box 1
  have hz2 := blk_cell HF2.out.box 2
  have hz3 := blk_cell HF2.out.box 3
  have hz4 := blk_cell HF2.out.box 4
  have hz5 := blk_cell HF2.out.box 5
  have hz6 := blk_cell HF2.out.box 6
  go_wp2_with fail
  go_ret
  exact ⟨rfl, HF2.out.bel⟩
set_option maxHeartbeats 4000000 in
set_option maxRecDepth 100000 in
theorem ValidLater_full1 (H : ModAt w h M) (C : MCan M) (hf : Can f) (hl : Laid w) (hv : validT M = none) (h8 : 8 ≤ M.funcs.length) :
    Calls Tryd.prog 9 #[.agg (M.cells h), .int .i64 f] w fun e w' => e = .returned (.bool true) ∧ Below w.heap.size w w' := by
  have HM := Aside0.mk H
  have HMC := Aside0.mk C
  have HCF := Aside0.mk hf
  have HF0 := Aside0.mk (show FW w M h (w.alloc (.cells (M.cells h) 29)) from ⟨below_alloc (Below.refl _ _) (Nat.le_refl _) _, blk_new _ _⟩)
  have HL := Aside0.mk (hl.below HF0.out.bel)
  have HV := Aside0.mk hv
  clear H C hl hv hf
  go_enter Tryd.func9, Tryd.ntmps9
  go_wp2_with fail
  refine (examples_calls _ HL.out).mono ?_
  rintro e w1 ⟨rfl, hb1⟩
  have HF1 := Aside0.mk (HF0.out.below hb1)
  have HL1 := Aside0.mk (HL.out.below hb1)
  have hz0 := blk_cell HF1.out.box 0
  have hz1 := blk_cell HF1.out.box 1
  have hz2 := blk_cell HF1.out.box 2
  have hz3 := blk_cell HF1.out.box 3
  have hz4 := blk_cell HF1.out.box 4
  have hz5 := blk_cell HF1.out.box 5
  have hz6 := blk_cell HF1.out.box 6
  clear hb1 HF0 HL
  go_wp2_with fail
  refine (valid_calls M h _ (HM.out.below HF1.out.bel) HMC.out).mono ?_
  rw [HV.out]
  rintro e w2 ⟨hb2, v, rfl, rfl⟩
  have HF2 := Aside0.mk (HF1.out.below hb2)
  have HL2 := Aside0.mk (HL1.out.below hb2)
  clear hz0 hz1 hz2 hz3 hz4 hz5 hz6 hb2
  have hz0 := blk_cell HF2.out.box 0
  have hz1 := blk_cell HF2.out.box 1
  have hz2 := blk_cell HF2.out.box 2
  have hz3 := blk_cell HF2.out.box 3
  have hz4 := blk_cell HF2.out.box 4
  have hz5 := blk_cell HF2.out.box 5
  have hz6 := blk_cell HF2.out.box 6
  have hb8 : decide (8 ≤ M.funcs.length) = true := decide_eq_true h8
  have hb9 : decide (8 ≤ (M.funcs.length : Int)) = true := decide_eq_true (by omega)
  go_wp2_with fail
  go_ret
  exact ⟨rfl, HF2.out.bel⟩
set_option maxHeartbeats 4000000 in
set_option maxRecDepth 100000 in
theorem ValidLater_full2 (H : ModAt w h M) (C : MCan M) (hf : Can f) (hl : Laid w) (hv : validT M = none) (h8 : M.funcs.length < 8) (h16 : 16 ≤ M.sigs.length) :
    Calls Tryd.prog 9 #[.agg (M.cells h), .int .i64 f] w fun e w' => e = .returned (.bool true) ∧ Below w.heap.size w w' := by
  have HM := Aside0.mk H
  have HMC := Aside0.mk C
  have HCF := Aside0.mk hf
  have HF0 := Aside0.mk (show FW w M h (w.alloc (.cells (M.cells h) 29)) from ⟨below_alloc (Below.refl _ _) (Nat.le_refl _) _, blk_new _ _⟩)
  have HL := Aside0.mk (hl.below HF0.out.bel)
  have HV := Aside0.mk hv
  clear H C hl hv hf
  go_enter Tryd.func9, Tryd.ntmps9
  go_wp2_with fail
  refine (examples_calls _ HL.out).mono ?_
  rintro e w1 ⟨rfl, hb1⟩
  have HF1 := Aside0.mk (HF0.out.below hb1)
  have HL1 := Aside0.mk (HL.out.below hb1)
  have hz0 := blk_cell HF1.out.box 0
  have hz1 := blk_cell HF1.out.box 1
  have hz2 := blk_cell HF1.out.box 2
  have hz3 := blk_cell HF1.out.box 3
  have hz4 := blk_cell HF1.out.box 4
  have hz5 := blk_cell HF1.out.box 5
  have hz6 := blk_cell HF1.out.box 6
  clear hb1 HF0 HL
  go_wp2_with fail
  refine (valid_calls M h _ (HM.out.below HF1.out.bel) HMC.out).mono ?_
  rw [HV.out]
  rintro e w2 ⟨hb2, v, rfl, rfl⟩
  have HF2 := Aside0.mk (HF1.out.below hb2)
  have HL2 := Aside0.mk (HL1.out.below hb2)
  clear hz0 hz1 hz2 hz3 hz4 hz5 hz6 hb2
  have hz0 := blk_cell HF2.out.box 0
  have hz1 := blk_cell HF2.out.box 1
  have hz2 := blk_cell HF2.out.box 2
  have hz3 := blk_cell HF2.out.box 3
  have hz4 := blk_cell HF2.out.box 4
  have hz5 := blk_cell HF2.out.box 5
  have hz6 := blk_cell HF2.out.box 6
  have hb8 : decide (8 ≤ M.funcs.length) = false := decide_eq_false (by omega)
  have hb9 : decide (8 ≤ (M.funcs.length : Int)) = false := decide_eq_false (by omega)
  have hb6 : decide (16 ≤ M.sigs.length) = true := decide_eq_true h16
  have hb7 : decide (16 ≤ (M.sigs.length : Int)) = true := decide_eq_true (by omega)
  go_wp2_with fail
  go_ret
  exact ⟨rfl, HF2.out.bel⟩
set_option maxHeartbeats 4000000 in
set_option maxRecDepth 100000 in
theorem ValidLater_main (H : ModAt w h M) (C : MCan M) (hf : Can f) (hl : Laid w) (hv : validT M = none) (h8 : M.funcs.length < 8) (h16 : M.sigs.length < 16) :
    Calls Tryd.prog 9 #[.agg (M.cells h), .int .i64 f] w fun e w' => e = .returned (.bool true) ∧ Below w.heap.size w w' := by
  have HM := Aside0.mk H
  have HMC := Aside0.mk C
  have HCF := Aside0.mk hf
  have HF0 := Aside0.mk (show FW w M h (w.alloc (.cells (M.cells h) 29)) from ⟨below_alloc (Below.refl _ _) (Nat.le_refl _) _, blk_new _ _⟩)
  have HL := Aside0.mk (hl.below HF0.out.bel)
  have HV := Aside0.mk hv
  clear H C hl hv hf
  go_enter Tryd.func9, Tryd.ntmps9
  go_wp2_with fail
  refine (examples_calls _ HL.out).mono ?_
  rintro e w1 ⟨rfl, hb1⟩
  have HF1 := Aside0.mk (HF0.out.below hb1)
  have HL1 := Aside0.mk (HL.out.below hb1)
  have hz0 := blk_cell HF1.out.box 0
  have hz1 := blk_cell HF1.out.box 1
  have hz2 := blk_cell HF1.out.box 2
  have hz3 := blk_cell HF1.out.box 3
  have hz4 := blk_cell HF1.out.box 4
  have hz5 := blk_cell HF1.out.box 5
  have hz6 := blk_cell HF1.out.box 6
  clear hb1 HF0 HL
  go_wp2_with fail
  refine (valid_calls M h _ (HM.out.below HF1.out.bel) HMC.out).mono ?_
  rw [HV.out]
  rintro e w2 ⟨hb2, v, rfl, rfl⟩
  have HF2 := Aside0.mk (HF1.out.below hb2)
  have HL2 := Aside0.mk (HL1.out.below hb2)
  clear hz0 hz1 hz2 hz3 hz4 hz5 hz6 hb2
  have hz0 := blk_cell HF2.out.box 0
  have hz1 := blk_cell HF2.out.box 1
  have hz2 := blk_cell HF2.out.box 2
  have hz3 := blk_cell HF2.out.box 3
  have hz4 := blk_cell HF2.out.box 4
  have hz5 := blk_cell HF2.out.box 5
  have hz6 := blk_cell HF2.out.box 6
  have hb8 : decide (8 ≤ M.funcs.length) = false := decide_eq_false (by omega)
  have hb9 : decide (8 ≤ (M.funcs.length : Int)) = false := decide_eq_false (by omega)
  have hb6 : decide (16 ≤ M.sigs.length) = false := decide_eq_false (by omega)
  have hb7 : decide (16 ≤ (M.sigs.length : Int)) = false := decide_eq_false (by omega)
  have hhe := heights_calls M h f _ (HM.out.below HF2.out.bel) HMC.out HL2.out
  go_wp2_with fail
  refine hhe.mono ?_
  clear hhe
  rintro e w3 ⟨hb3, hr3⟩
  -- what Heights(m, f) hands back: a row, and an error or none
  obtain ⟨v3, ev, hs, rfl, HR3, HE3⟩ : ∃ v ev hs, e = .returned (.tuple #[v, ev]) ∧ Aside0 (∃ A c, v = .slice A hs.length c ∧ hs.length ≤ c ∧ (Kd.int .i64).C w3 A hs.length hs) ∧ Aside0 ((ev = .nilIface ∧ heightsT M f = .ok hs) ∨ (∃ b, ev = fErr b) ∧ ∃ x, heightsT M f = .error x) := by
    cases hq : heightsT M f with
    | ok l =>
      rw [hq] at hr3
      obtain ⟨v, rfl, hR⟩ := hr3
      obtain ⟨A, c, rfl, hc, hC⟩ := Kd.R_reads hR
      exact ⟨_, _, l, rfl, ⟨A, c, rfl, hc, hC⟩, ⟨.inl ⟨rfl, rfl⟩⟩⟩
    | error x =>
      rw [hq] at hr3
      obtain ⟨b, rfl, _, _⟩ := hr3
      exact ⟨_, _, [], rfl, ⟨none, 0, rfl, Nat.le_refl _, nilRow _ _⟩, ⟨.inr ⟨⟨b, rfl⟩, x, rfl⟩⟩⟩
  obtain ⟨A3, c3, rfl, hc3, hC3⟩ := HR3.out
  have HC3 := Aside0.mk hC3
  have HF3 := Aside0.mk (HF2.out.below hb3)
  have HL3 := Aside0.mk (HL2.out.below hb3)
  clear hz0 hz1 hz2 hz3 hz4 hz5 hz6 hr3 hb3 HF2 HL2 HR3 hC3 hb6 hb7 hb8 hb9
  have hz0 := blk_cell HF3.out.box 0
  have hz1 := blk_cell HF3.out.box 1
  have hz2 := blk_cell HF3.out.box 2
  have hz3 := blk_cell HF3.out.box 3
  have hz4 := blk_cell HF3.out.box 4
  have hz5 := blk_cell HF3.out.box 5
  have hz6 := blk_cell HF3.out.box 6
  obtain ⟨n, hn⟩ : ∃ n, w3.heap.size = n := ⟨_, rfl⟩
  have HNN := Aside0.mk hn
  have HNB := Aside0.mk (show (w3.alloc (.cells (M.cells h) 29)).heap[n]? = some (.cells (M.cells h) 29 (0, 0)) by rw [← hn]; exact blk_new _ _)
  have HB4 := Aside0.mk (below_alloc (Below.refl w3.heap.size w3) (Nat.le_refl _) (.cells (M.cells h) 29))
  have HSZ := Aside0.mk (show (w3.alloc (.cells (M.cells h) 29)).heap.size = n + 1 by rw [← hn]; simp)
  have HWN := Aside0.mk (show w.heap.size < n by rw [← hn]; exact blk_lt HF3.out.box)
  go_upto_region 6 with (fail)
  obtain ⟨W4, hW4⟩ : ∃ W, w3.alloc (.cells (M.cells h) 29) = W := ⟨_, rfl⟩
  first | rw [hW4] | (simp only [Md.cells] at hW4; rw [hW4])
  rw [hW4] at HNB HB4 HSZ
  clear hW4 hn hz0 hz1 hz2 hz3 hz4 hz5 hz6
  have HF4 := Aside0.mk (HF3.out.below HB4.out)
  have hz0 := blk_cell HF4.out.box 0
  have hz1 := blk_cell HF4.out.box 1
  have hz2 := blk_cell HF4.out.box 2
  have hz3 := blk_cell HF4.out.box 3
  have hz4 := blk_cell HF4.out.box 4
  have hz5 := blk_cell HF4.out.box 5
  have hz6 := blk_cell HF4.out.box 6
  have HS := Aside0.mk (Kd.F_below (Kd.C_F heap_sig HM.out.sigs) HF4.out.bel)
  go_wp2_with ((with_reducible refine gate_builtin (b := .append) (xs := #[.const (.slice none 0 0), .tmp 40]) rfl ?_); at_builtin; refine Hold.out ?_)
  refine Hold.mk ?_
  refine Kd.N_append_rows kSig (w0 := w) (W := W4) w.heap.size rfl (.const (.slice none 0 0)) (.tmp 40) 22 32 (.agg #[.slice none 0 0, .slice none 0 0]) 48 rfl Tryd.underlying22 infoSg rfl (by decide) (by decide) (.slice none 0 0) [] M.sigs h.a1 M.sigs.length h.c1 (fun q => q < w.heap.size ∨ n < q) (fun q => q < w.heap.size) rfl rfl (Kd.N_nil _ _ _ _ _) HS.out (fun q hq => ⟨.inl hq, by simp [Value.ownBlock]⟩) (fun q hq => .inr (by have := HSZ.out; omega)) HF4.out.bel HF4.out.bel.size (by simp; omega) ?_
  intro v5 w5 hN hB hg hat
  rw [List.nil_append] at hN
  have hfr5 : ∀ b, v5.ownBlock = some b → n < b := by
    intro b hb
    rcases hat with e | ⟨b2, e, hb2⟩
    · rw [e] at hb; simp [Value.ownBlock] at hb
    · rw [e] at hb; injection hb with hb; have := HSZ.out; omega
  have HFR5 := Aside0.mk hfr5
  have HN5 := Aside0.mk (blk_grown HNB.out hg (by simp [Value.ownBlock]))
  have HR5 := Aside0.mk hN
  have HB5 := Aside0.mk (HB4.out.trans ((below_grown hg).mono HB4.out.size))
  have HBW5 := Aside0.mk hB
  have HS5 := Aside0.mk (show n < w5.heap.size from blk_lt HN5.out)
  clear hN hB hg hat hfr5
  go_wp2_with ((with_reducible refine gate_builtin (b := .append) (xs := #[.tmp 41, .tmp 43]) rfl ?_); at_builtin; refine Hold.out ?_)
  refine Hold.mk ?_
  refine Kd.N_append kSig (w0 := w) (W := w5) w.heap.size rfl (.tmp 41) (.tmp 43) 22 32 (.agg #[.slice none 0 0, .slice none 0 0]) 48 rfl Tryd.underlying22 infoSg rfl (by decide) (by decide) v5 M.sigs ([], []) [.slice none 0 0, .slice none 0 0] (fun q => q < w.heap.size ∨ n < q) (fun _ => False) rfl rfl (fun W' _ => ⟨[_], [_], rfl, slice_K (xs := ([] : List Int)) (Nat.le_refl _) (nilRow _ _), slice_K (xs := ([] : List Int)) (Nat.le_refl _) (nilRow _ _)⟩) (fun _ h => h.elim) (fun q hq => .inr (by have := HS5.out; omega)) HR5.out HBW5.out HBW5.out.size (by omega) ?_
  intro v6 w6 hN6 hB6 hg6 hat6
  have HN6 := Aside0.mk (blk_grown HN5.out hg6 (fun e => by have := HFR5.out n e.symm; omega))
  have HB6 := Aside0.mk (show Below w3.heap.size w3 w6 from HB5.out.trans ⟨hg6.os, hg6.tape, hg6.output, hg6.size, fun k hk => hg6.block k (Nat.lt_of_lt_of_le hk HB5.out.size) (fun e => by have := HFR5.out k e.symm; have := HNN.out; omega)⟩)
  obtain ⟨A6, c6, rfl, hc6, _⟩ := Kd.N_reads hN6
  have hls : (M.sigs ++ [(([], []) : Sg)]).length = M.sigs.length + 1 := by simp
  rw [hls] at hc6 hN6
  rw [hls]
  have hR6 := Kd.N_far (p := ⟨n, 0, none⟩) hN6 (fun q hq => by show q ≠ n; have := HWN.out; omega) (.slice A6 (M.sigs.length + 1) c6)
  have HLA := Aside0.mk (show La w w3 n w6.heap.size M h A6 c6 (w6.setCell ⟨n, 0, none⟩ (.slice A6 (M.sigs.length + 1) c6)) from
    ⟨HB6.out.setCell (p := ⟨n, 0, none⟩) (Nat.le_of_eq HNN.out) _, by simpa using blk_set HN6.out 0 (.slice A6 (M.sigs.length + 1) c6), by have := Kd.N_bound hR6; simpa using this, by simp, Nat.le_of_eq HNN.out, blk_lt HN6.out⟩)
  have hn0 := blk_cell HN6.out 0
  have hnf := blk_frozen HN6.out 0
  clear hN6 hB6 hg6 hat6 hR6 hls hz0 hz1 hz2 hz3 hz4 hz5 hz6
  go_upto_region 7 with (fail)
  obtain ⟨W7, hW7⟩ : ∃ W, w6.setCell ⟨n, 0, none⟩ (.slice A6 (M.sigs.length + 1) c6) = W := ⟨_, rfl⟩
  rw [hW7] at HLA ⊢
  obtain ⟨sz, hsz⟩ : ∃ z, w6.heap.size = z := ⟨_, rfl⟩
  rw [hsz] at HLA
  clear hW7 hsz hn0 hnf HN6 HB6 HN5 HB5 HR5 HBW5 HS5 HFR5 HB4 HNB HSZ HS HF4
  have HU0 := Aside0.mk (HLA.out.below (drew_below W7))
  go_cut [46] from 46 to 57 (fun s46 wx => s46 = .pointer (some ⟨w.heap.size, 2, none⟩) ∧ ∃ (A10 : Option Addr) (c10 : Nat) (W10 : World), Aside0 (La w w3 n sz M h A6 c6 W10) ∧ Aside0 (Kd.N kFunc 43 W10 w.heap.size (fun q => q < w.heap.size ∨ n < q) (.slice A10 (M.funcs.length + 1) c10) (M.funcs ++ [nF M.sigs.length])) ∧ wx = W10.setCell ⟨n, 2, none⟩ (.slice A10 (M.funcs.length + 1) c10))
  case first =>
   rename_i J0 K0 hRJ hMK
   refine wp_region_held_drew (S := SP w M h) (by kernel_rfl) (HU0.out.sp HF3.out) (fun hHeld => ?_)
   refine tk 0 (.pointer (some ⟨w.heap.size, 2, none⟩)) rfl ?_
   try simp only [Act.put, List.getElem_toArray, List.getElem_cons_succ, List.getElem_cons_zero, List.setIfInBounds_toArray, List.set_cons_zero, List.set_cons_succ]
   refine tv 1 (.slice h.a3 M.funcs.length h.c3) rfl (fun w' hSw => ?_) ?_
   · obtain ⟨y0, y1⟩ := hSw
     clear hHeld
     go_simp
   try simp only [Act.put, List.getElem_toArray, List.getElem_cons_succ, List.getElem_cons_zero, List.setIfInBounds_toArray, List.set_cons_zero, List.set_cons_succ]
   refine tk 3 (.pointer (some ⟨w.heap.size, 0, none⟩)) rfl ?_
   try simp only [Act.put, List.getElem_toArray, List.getElem_cons_succ, List.getElem_cons_zero, List.setIfInBounds_toArray, List.set_cons_zero, List.set_cons_succ]
   refine tv 4 (.slice h.a1 M.sigs.length h.c1) rfl (fun w' hSw => ?_) ?_
   · obtain ⟨y0, y1⟩ := hSw
     clear hHeld
     go_simp
   try simp only [Act.put, List.getElem_toArray, List.getElem_cons_succ, List.getElem_cons_zero, List.setIfInBounds_toArray, List.set_cons_zero, List.set_cons_succ]
   refine tv 5 (.int .i64 M.sigs.length) rfl (fun w' hSw => ?_) ?_
   · clear hHeld
     go_simp
   try simp only [Act.put, List.getElem_toArray, List.getElem_cons_succ, List.getElem_cons_zero, List.setIfInBounds_toArray, List.set_cons_zero, List.set_cons_succ]
   refine tv 6 (.agg #[.int .i64 11, .int .i64 0, .int .i64 0]) rfl (fun w' hSw => ?_) ?_
   · clear hHeld
     go_simp
   try simp only [Act.put, List.getElem_toArray, List.getElem_cons_succ, List.getElem_cons_zero, List.setIfInBounds_toArray, List.set_cons_zero, List.set_cons_succ]
   refine wpAnyH_ready (rs := [2, 7]) (by kernel_rfl) (by simp) ?_
   refine AllReadyH.cons rfl (fun K2 hK2 => ?_) (AllReadyH.cons rfl (fun K7 hK7 => ?_) AllReadyH.nil)
   · skip
     refine Kd.N_append_rows_step kFunc (w0 := w) (W := W7.drew) w.heap.size rfl (.const (.slice none 0 0)) (.tmp 47) 24 43 (.agg #[.int .i64 0, .bool false, .slice none 0 0, .slice none 0 0]) 64 rfl Tryd.underlying24 infoFn rfl (by decide) (by decide) (.slice none 0 0) [] M.funcs h.a3 M.funcs.length h.c3 (fun q => q < w.heap.size ∨ n < q) (fun q => q < w.heap.size) rfl rfl (Kd.N_nil _ _ _ _ _) (Kd.F_below (Kd.C_F heap_func HM.out.funcs) (HF3.out.below HU0.out.b3).bel) (fun q hq => ⟨.inl hq, by simp [Value.ownBlock]⟩) (fun q hq => .inr (Nat.lt_of_lt_of_le HU0.out.nz (Nat.le_trans HU0.out.le hq))) (HF3.out.below HU0.out.b3).bel (HF3.out.below HU0.out.b3).bel.size (by simp; omega) ?_
     intro v8 U1 hN hB hg hat
     rw [List.nil_append] at hN
     have HLA1 := Aside0.mk (HU0.out.below (below_grown hg))
     have HNA1 := Aside0.mk hN
     have HBGA1 := Aside0.mk (below_grown hg)
     have HFRA1 := Aside0.mk (show ∀ b, v8.ownBlock = some b → (W7.drew).heap.size ≤ b from fun b hb => by
       rcases hat with e | ⟨b2, e, hb2⟩
       · rw [e] at hb; simp [Value.ownBlock] at hb
       · rw [e] at hb; injection hb with hb; omega)
     clear hN hB hg hat
     refine hK2.out _ _ (HLA1.out.sp HF3.out) (fun hHeld => ?_)
     clear hK2
     try simp only [Act.put, List.getElem_toArray, List.getElem_cons_succ, List.getElem_cons_zero, List.setIfInBounds_toArray, List.set_cons_zero, List.set_cons_succ]
     refine wpAnyH_ready (rs := [7]) (by kernel_rfl) (by simp) ?_
     refine AllReadyH.cons rfl (fun K7 hK7 => ?_) AllReadyH.nil
     clear hHeld
     go_simp
     have HLA2 := Aside0.mk (HLA1.out.below (below_alloc (Below.refl _ _) (Nat.le_refl _) (.cells #[.int .i64 11, .int .i64 0, .int .i64 0] 45)))
     refine hK7.out _ _ (HLA2.out.sp HF3.out) (fun hHeld => ?_)
     clear hK7
     try simp only [Act.put, List.getElem_toArray, List.getElem_cons_succ, List.getElem_cons_zero, List.setIfInBounds_toArray, List.set_cons_zero, List.set_cons_succ]
     refine tv 8 (.agg (nfC M.sigs.length U1.heap.size)) rfl (fun w' hSw => ?_) ?_
     · clear hHeld
       go_simp
     try simp only [Act.put, List.getElem_toArray, List.getElem_cons_succ, List.getElem_cons_zero, List.setIfInBounds_toArray, List.set_cons_zero, List.set_cons_succ]
     refine wpAnyH_ready (rs := [9]) (by kernel_rfl) (by simp) ?_
     refine AllReadyH.cons rfl (fun K9 hK9 => ?_) AllReadyH.nil
     clear hHeld
     go_simp
     have HL9 := Aside0.mk (HLA2.out.below (below_alloc (Below.refl _ _) (Nat.le_refl _) (.cells (nfC M.sigs.length U1.heap.size) 43)))
     refine hK9.out _ _ (HL9.out.sp HF3.out) (fun hHeld => ?_)
     clear hK9
     try simp only [Act.put, List.getElem_toArray, List.getElem_cons_succ, List.getElem_cons_zero, List.setIfInBounds_toArray, List.set_cons_zero, List.set_cons_succ]
     refine wpAnyH_ready (rs := [10]) (by kernel_rfl) (by simp) ?_
     refine AllReadyH.cons rfl (fun K10 hK10 => ?_) AllReadyH.nil
     have hb7 := blk_alloc (blk_new U1 (.cells #[.int .i64 11, .int .i64 0, .int .i64 0] 45)) (.cells (nfC M.sigs.length U1.heap.size) 43)
     have hb9 := blk_new (U1.alloc (.cells #[.int .i64 11, .int .i64 0, .int .i64 0] 45)) (.cells (nfC M.sigs.length U1.heap.size) 43)
     have hz1 : (U1.alloc (.cells #[.int .i64 11, .int .i64 0, .int .i64 0] 45)).heap.size = U1.heap.size + 1 := by simp
     rw [hz1] at hb9
     have hnz := HLA1.out.nz
     have hle := HLA1.out.le
     have hle0 := HU0.out.le
     refine step10 HL9 HF3 (Kd.N_below HNA1.out ((below_alloc (Below.refl _ _) (Nat.le_refl _) _).alloc (by simp) _)) (fun b hb => ⟨Nat.le_trans hle0 (HFRA1.out b hb), by have := Kd.N_lt HNA1.out b hb; omega, by have := Kd.N_lt HNA1.out b hb; omega⟩) hb7 hb9 (by omega) (by omega) h8 rfl rfl rfl (by first | rfl | (show Value.slice _ _ _ = Value.slice _ _ _; simp)) ?_
     intro A10 c10 W10 HL10 HN10
     refine hK10.out _ _ (HL10.out.sp HF3.out) (fun hHeld => ?_)
     clear hK10
     try simp only [Act.put, List.getElem_toArray, List.getElem_cons_succ, List.getElem_cons_zero, List.setIfInBounds_toArray, List.set_cons_zero, List.set_cons_succ]
     refine tk 11 (.pointer (some ⟨n, 2, none⟩)) rfl ?_
     try simp only [Act.put, List.getElem_toArray, List.getElem_cons_succ, List.getElem_cons_zero, List.setIfInBounds_toArray, List.set_cons_zero, List.set_cons_succ]
     refine wpAnyH_ready (rs := [12]) (by kernel_rfl) (by simp) ?_
     refine AllReadyH.cons rfl (fun K12 hK12 => ?_) AllReadyH.nil
     have hcn := blk_cell HL10.out.bn 2
     have hzn := blk_frozen HL10.out.bn 2
     clear hHeld
     go_simp
     refine hK12.out _ _ (HL10.out.sp2 HF3.out HWN.out _) (fun hHeld4 => ?_)
     refine wpAnyH_done (by kernel_rfl) ?_ _
     first | go_meet | (refine hMK _ _ (Met.intro (hRJ _ _ ?_)); (repeat apply Exists.intro); refine ⟨?_, rfl⟩)
     exact ⟨rfl, A10, c10, W10, HL10, HN10, rfl⟩
   · skip
     clear hHeld
     go_simp
     have HLB := Aside0.mk (HU0.out.below (below_alloc (Below.refl _ _) (Nat.le_refl _) (.cells #[.int .i64 11, .int .i64 0, .int .i64 0] 45)))
     refine hK7.out _ _ (HLB.out.sp HF3.out) (fun hHeld => ?_)
     clear hK7
     try simp only [Act.put, List.getElem_toArray, List.getElem_cons_succ, List.getElem_cons_zero, List.setIfInBounds_toArray, List.set_cons_zero, List.set_cons_succ]
     refine tv 8 (.agg (nfC M.sigs.length W7.heap.size)) rfl (fun w' hSw => ?_) ?_
     · clear hHeld
       go_simp
     try simp only [Act.put, List.getElem_toArray, List.getElem_cons_succ, List.getElem_cons_zero, List.setIfInBounds_toArray, List.set_cons_zero, List.set_cons_succ]
     refine wpAnyH_ready (rs := [2, 9]) (by kernel_rfl) (by simp) ?_
     have hdz : W7.drew.heap.size = W7.heap.size := rfl
     have hb7 := blk_new W7.drew (.cells #[.int .i64 11, .int .i64 0, .int .i64 0] 45)
     rw [hdz] at hb7
     have hle0 := HU0.out.le
     have hnz := HU0.out.nz
     refine AllReadyH.cons rfl (fun K2 hK2 => ?_) (AllReadyH.cons rfl (fun K9 hK9 => ?_) AllReadyH.nil)
     · skip
       refine Kd.N_append_rows_step kFunc (w0 := w) (W := (W7.drew.alloc (.cells #[.int .i64 11, .int .i64 0, .int .i64 0] 45))) w.heap.size rfl (.const (.slice none 0 0)) (.tmp 47) 24 43 (.agg #[.int .i64 0, .bool false, .slice none 0 0, .slice none 0 0]) 64 rfl Tryd.underlying24 infoFn rfl (by decide) (by decide) (.slice none 0 0) [] M.funcs h.a3 M.funcs.length h.c3 (fun q => q < w.heap.size ∨ n < q) (fun q => q < w.heap.size) rfl rfl (Kd.N_nil _ _ _ _ _) (Kd.F_below (Kd.C_F heap_func HM.out.funcs) (HF3.out.below HLB.out.b3).bel) (fun q hq => ⟨.inl hq, by simp [Value.ownBlock]⟩) (fun q hq => .inr (Nat.lt_of_lt_of_le HLB.out.nz (Nat.le_trans HLB.out.le hq))) (HF3.out.below HLB.out.b3).bel (HF3.out.below HLB.out.b3).bel.size (by simp; omega) ?_
       intro v8 U1 hN hB hg hat
       rw [List.nil_append] at hN
       have HLB1 := Aside0.mk (HLB.out.below (below_grown hg))
       have HNB1 := Aside0.mk hN
       have HBGB1 := Aside0.mk (below_grown hg)
       have HFRB1 := Aside0.mk (show ∀ b, v8.ownBlock = some b → ((W7.drew.alloc (.cells #[.int .i64 11, .int .i64 0, .int .i64 0] 45))).heap.size ≤ b from fun b hb => by
         rcases hat with e | ⟨b2, e, hb2⟩
         · rw [e] at hb; simp [Value.ownBlock] at hb
         · rw [e] at hb; injection hb with hb; omega)
       clear hN hB hg hat
       refine hK2.out _ _ (HLB1.out.sp HF3.out) (fun hHeld => ?_)
       clear hK2
       try simp only [Act.put, List.getElem_toArray, List.getElem_cons_succ, List.getElem_cons_zero, List.setIfInBounds_toArray, List.set_cons_zero, List.set_cons_succ]
       refine wpAnyH_ready (rs := [9]) (by kernel_rfl) (by simp) ?_
       refine AllReadyH.cons rfl (fun K9 hK9 => ?_) AllReadyH.nil
       clear hHeld
       go_simp
       have HL9 := Aside0.mk (HLB1.out.below (below_alloc (Below.refl _ _) (Nat.le_refl _) (.cells (nfC M.sigs.length W7.heap.size) 43)))
       refine hK9.out _ _ (HL9.out.sp HF3.out) (fun hHeld => ?_)
       clear hK9
       try simp only [Act.put, List.getElem_toArray, List.getElem_cons_succ, List.getElem_cons_zero, List.setIfInBounds_toArray, List.set_cons_zero, List.set_cons_succ]
       refine wpAnyH_ready (rs := [10]) (by kernel_rfl) (by simp) ?_
       refine AllReadyH.cons rfl (fun K10 hK10 => ?_) AllReadyH.nil
       have hb7b := blk_alloc (blk_below hb7 HBGB1.out) (.cells (nfC M.sigs.length W7.heap.size) 43)
       have hb9 := blk_new U1 (.cells (nfC M.sigs.length W7.heap.size) 43)
       have hle1 := HLB1.out.le
       have hs7 : W7.heap.size < U1.heap.size := Nat.lt_of_lt_of_le (by simp) HBGB1.out.size
       have hs8 : (W7.drew.alloc (.cells #[.int .i64 11, .int .i64 0, .int .i64 0] 45)).heap.size = W7.heap.size + 1 := by simp
       refine step10 HL9 HF3 (Kd.N_below HNB1.out (below_alloc (Below.refl _ _) (Nat.le_refl _) _)) (fun b hb => ⟨by have := HFRB1.out b hb; have e : sz ≤ W7.heap.size := hle0; omega, by have := HFRB1.out b hb; omega, by have := Kd.N_lt HNB1.out b hb; omega⟩) hb7b hb9 (by have e : sz ≤ W7.heap.size := hle0; omega) (by omega) h8 rfl rfl rfl (by first | rfl | (show Value.slice _ _ _ = Value.slice _ _ _; simp)) ?_
       intro A10 c10 W10 HL10 HN10
       refine hK10.out _ _ (HL10.out.sp HF3.out) (fun hHeld => ?_)
       clear hK10
       try simp only [Act.put, List.getElem_toArray, List.getElem_cons_succ, List.getElem_cons_zero, List.setIfInBounds_toArray, List.set_cons_zero, List.set_cons_succ]
       refine tk 11 (.pointer (some ⟨n, 2, none⟩)) rfl ?_
       try simp only [Act.put, List.getElem_toArray, List.getElem_cons_succ, List.getElem_cons_zero, List.setIfInBounds_toArray, List.set_cons_zero, List.set_cons_succ]
       refine wpAnyH_ready (rs := [12]) (by kernel_rfl) (by simp) ?_
       refine AllReadyH.cons rfl (fun K12 hK12 => ?_) AllReadyH.nil
       have hcn := blk_cell HL10.out.bn 2
       have hzn := blk_frozen HL10.out.bn 2
       clear hHeld
       go_simp
       refine hK12.out _ _ (HL10.out.sp2 HF3.out HWN.out _) (fun hHeld4 => ?_)
       refine wpAnyH_done (by kernel_rfl) ?_ _
       first | go_meet | (refine hMK _ _ (Met.intro (hRJ _ _ ?_)); (repeat apply Exists.intro); refine ⟨?_, rfl⟩)
       exact ⟨rfl, A10, c10, W10, HL10, HN10, rfl⟩
     · clear hHeld
       go_simp
       have HL9 := Aside0.mk (HLB.out.below (below_alloc (Below.refl _ _) (Nat.le_refl _) (.cells (nfC M.sigs.length W7.heap.size) 43)))
       refine hK9.out _ _ (HL9.out.sp HF3.out) (fun hHeld => ?_)
       clear hK9
       try simp only [Act.put, List.getElem_toArray, List.getElem_cons_succ, List.getElem_cons_zero, List.setIfInBounds_toArray, List.set_cons_zero, List.set_cons_succ]
       refine wpAnyH_ready (rs := [2]) (by kernel_rfl) (by simp) ?_
       refine AllReadyH.cons rfl (fun K2 hK2 => ?_) AllReadyH.nil
       refine Kd.N_append_rows_step kFunc (w0 := w) (W := ((W7.drew.alloc (.cells #[.int .i64 11, .int .i64 0, .int .i64 0] 45)).alloc (.cells (nfC M.sigs.length W7.heap.size) 43))) w.heap.size rfl (.const (.slice none 0 0)) (.tmp 47) 24 43 (.agg #[.int .i64 0, .bool false, .slice none 0 0, .slice none 0 0]) 64 rfl Tryd.underlying24 infoFn rfl (by decide) (by decide) (.slice none 0 0) [] M.funcs h.a3 M.funcs.length h.c3 (fun q => q < w.heap.size ∨ n < q) (fun q => q < w.heap.size) rfl rfl (Kd.N_nil _ _ _ _ _) (Kd.F_below (Kd.C_F heap_func HM.out.funcs) (HF3.out.below HL9.out.b3).bel) (fun q hq => ⟨.inl hq, by simp [Value.ownBlock]⟩) (fun q hq => .inr (Nat.lt_of_lt_of_le HL9.out.nz (Nat.le_trans HL9.out.le hq))) (HF3.out.below HL9.out.b3).bel (HF3.out.below HL9.out.b3).bel.size (by simp; omega) ?_
       intro v8 U1 hN hB hg hat
       rw [List.nil_append] at hN
       have HLB2 := Aside0.mk (HL9.out.below (below_grown hg))
       have HNB2 := Aside0.mk hN
       have HBGB2 := Aside0.mk (below_grown hg)
       have HFRB2 := Aside0.mk (show ∀ b, v8.ownBlock = some b → (((W7.drew.alloc (.cells #[.int .i64 11, .int .i64 0, .int .i64 0] 45)).alloc (.cells (nfC M.sigs.length W7.heap.size) 43))).heap.size ≤ b from fun b hb => by
         rcases hat with e | ⟨b2, e, hb2⟩
         · rw [e] at hb; simp [Value.ownBlock] at hb
         · rw [e] at hb; injection hb with hb; omega)
       clear hN hB hg hat
       refine hK2.out _ _ (HLB2.out.sp HF3.out) (fun hHeld => ?_)
       clear hK2
       try simp only [Act.put, List.getElem_toArray, List.getElem_cons_succ, List.getElem_cons_zero, List.setIfInBounds_toArray, List.set_cons_zero, List.set_cons_succ]
       refine wpAnyH_ready (rs := [10]) (by kernel_rfl) (by simp) ?_
       refine AllReadyH.cons rfl (fun K10 hK10 => ?_) AllReadyH.nil
       have hb7b := blk_below (blk_alloc hb7 (.cells (nfC M.sigs.length W7.heap.size) 43)) HBGB2.out
       have hs8 : (W7.drew.alloc (.cells #[.int .i64 11, .int .i64 0, .int .i64 0] 45)).heap.size = W7.heap.size + 1 := by simp
       have hb9 := blk_new (W7.drew.alloc (.cells #[.int .i64 11, .int .i64 0, .int .i64 0] 45)) (.cells (nfC M.sigs.length W7.heap.size) 43)
       rw [hs8] at hb9
       have hb9b := blk_below hb9 HBGB2.out
       have hs9 : ((W7.drew.alloc (.cells #[.int .i64 11, .int .i64 0, .int .i64 0] 45)).alloc (.cells (nfC M.sigs.length W7.heap.size) 43)).heap.size = W7.heap.size + 2 := by simp
       refine step10 HLB2 HF3 HNB2.out (fun b hb => ⟨by have := HFRB2.out b hb; have e : sz ≤ W7.heap.size := hle0; omega, by have := HFRB2.out b hb; omega, by have := HFRB2.out b hb; omega⟩) hb7b hb9b (by have e : sz ≤ W7.heap.size := hle0; omega) (by have e : sz ≤ W7.heap.size := hle0; omega) h8 rfl rfl rfl (by first | rfl | (show Value.slice _ _ _ = Value.slice _ _ _; simp)) ?_
       intro A10 c10 W10 HL10 HN10
       refine hK10.out _ _ (HL10.out.sp HF3.out) (fun hHeld => ?_)
       clear hK10
       try simp only [Act.put, List.getElem_toArray, List.getElem_cons_succ, List.getElem_cons_zero, List.setIfInBounds_toArray, List.set_cons_zero, List.set_cons_succ]
       refine tk 11 (.pointer (some ⟨n, 2, none⟩)) rfl ?_
       try simp only [Act.put, List.getElem_toArray, List.getElem_cons_succ, List.getElem_cons_zero, List.setIfInBounds_toArray, List.set_cons_zero, List.set_cons_succ]
       refine wpAnyH_ready (rs := [12]) (by kernel_rfl) (by simp) ?_
       refine AllReadyH.cons rfl (fun K12 hK12 => ?_) AllReadyH.nil
       have hcn := blk_cell HL10.out.bn 2
       have hzn := blk_frozen HL10.out.bn 2
       clear hHeld
       go_simp
       refine hK12.out _ _ (HL10.out.sp2 HF3.out HWN.out _) (fun hHeld4 => ?_)
       refine wpAnyH_done (by kernel_rfl) ?_ _
       first | go_meet | (refine hMK _ _ (Met.intro (hRJ _ _ ?_)); (repeat apply Exists.intro); refine ⟨?_, rfl⟩)
       exact ⟨rfl, A10, c10, W10, HL10, HN10, rfl⟩
  case rest =>
    obtain ⟨_, A10, c10, W10, HL10, HN10, rfl⟩ := hcut
    have HM11 := Aside0.mk (more_mod HL10.out HM.out HF3.out HWN.out HN10.out (.slice A10 (M.funcs.length + 1) c10))
    have HB11 := Aside0.mk (HL10.out.b3.setCell (p := ⟨n, 2, none⟩) HL10.out.n3 (.slice A10 (M.funcs.length + 1) c10))
    have HBN := Aside0.mk (show (W10.setCell ⟨n, 2, none⟩ (.slice A10 (M.funcs.length + 1) c10)).heap[n]? = some (.cells #[.slice A6 (M.sigs.length + 1) c6, .slice h.a2 M.imports.length h.c2, .slice A10 (M.funcs.length + 1) c10, .int .i64 M.m0, .int .i64 M.m1, .slice h.a4 M.globals.length h.c4, .slice h.a5 M.data.length h.c5] 29 (0, 0)) by simpa using blk_set HL10.out.bn 2 (.slice A10 (M.funcs.length + 1) c10))
    obtain ⟨W11, hW11⟩ : ∃ W, W10.setCell ⟨n, 2, none⟩ (.slice A10 (M.funcs.length + 1) c10) = W := ⟨_, rfl⟩
    rw [hW11] at HM11 HB11 HBN ⊢
    clear hW11 HL10 HN10 HLA HU0
    have HF11 := Aside0.mk (HF3.out.below HB11.out)
    have HL11 := Aside0.mk (HL3.out.below HB11.out)
    have HC11 := Aside0.mk (Kd.C_below HC3.out HB11.out)
    have hhn := heights_calls (moreM M [(11, 0, 0)]) _ f W11 HM11.out (more_can HMC.out (by intro x hx; rw [List.mem_singleton.1 hx]; exact ⟨by decide, by decide⟩)) HL11.out
    have hl1 : (moreM M [(11, 0, 0)]).sigs.length = M.sigs.length + 1 := by show (M.sigs ++ [_]).length = _; rw [List.length_append]; rfl
    have hl2 : (moreM M [(11, 0, 0)]).funcs.length = M.funcs.length + 1 := more_len
    have hl3 : (moreM M [(11, 0, 0)]).imports = M.imports := rfl
    have hl4 : (moreM M [(11, 0, 0)]).globals = M.globals := rfl
    have hl5 : (moreM M [(11, 0, 0)]).data = M.data := rfl
    have hl6 : (moreM M [(11, 0, 0)]).m0 = M.m0 := rfl
    have hl7 : (moreM M [(11, 0, 0)]).m1 = M.m1 := rfl
    dsimp only [Md.cells] at hhn
    rw [hl1, hl2, hl3, hl4, hl5, hl6, hl7] at hhn
    clear hl1 hl2 hl3 hl4 hl5 hl6 hl7
    have hy0 := blk_cell HBN.out 0
    have hy1 := blk_cell HBN.out 1
    have hy2 := blk_cell HBN.out 2
    have hy3 := blk_cell HBN.out 3
    have hy4 := blk_cell HBN.out 4
    have hy5 := blk_cell HBN.out 5
    have hy6 := blk_cell HBN.out 6
    go_wp2_with fail
    refine hhn.mono ?_
    clear hhn hy0 hy1 hy2 hy3 hy4 hy5 hy6
    intro e w12 hr12
    obtain ⟨hb12, v12, ev2, gs, rfl, ⟨A12, c12, rfl, hc12, hC12⟩, hE12⟩ := hres hr12
    have HE12 := Aside0.mk hE12
    have HC12 := Aside0.mk hC12
    have HF12 := Aside0.mk (HF11.out.below hb12)
    have HL12 := Aside0.mk (HL11.out.below hb12)
    have HH12 := Aside0.mk (Kd.C_below HC11.out hb12)
    have HBN12 := Aside0.mk (blk_below HBN.out hb12)
    have HM12 := Aside0.mk (HM11.out.below hb12)
    clear hr12 hb12 hC12 hE12 HF11 HL11 HC11 HBN HM11 HB11
    obtain ⟨m, hm⟩ : ∃ m, w12.heap.size = m := ⟨_, rfl⟩
    have HB13 := Aside0.mk (below_alloc (Below.refl w12.heap.size w12) (Nat.le_refl _) (.cells #[.slice A6 (M.sigs.length + 1) c6, .slice h.a2 M.imports.length h.c2, .slice A10 (M.funcs.length + 1) c10, .int .i64 M.m0, .int .i64 M.m1, .slice h.a4 M.globals.length h.c4, .slice h.a5 M.data.length h.c5] 29))
    have HBM := Aside0.mk (show (w12.alloc (.cells #[.slice A6 (M.sigs.length + 1) c6, .slice h.a2 M.imports.length h.c2, .slice A10 (M.funcs.length + 1) c10, .int .i64 M.m0, .int .i64 M.m1, .slice h.a4 M.globals.length h.c4, .slice h.a5 M.data.length h.c5] 29)).heap[m]? = some (.cells #[.slice A6 (M.sigs.length + 1) c6, .slice h.a2 M.imports.length h.c2, .slice A10 (M.funcs.length + 1) c10, .int .i64 M.m0, .int .i64 M.m1, .slice h.a4 M.globals.length h.c4, .slice h.a5 M.data.length h.c5] 29 (0, 0)) by rw [← hm]; exact blk_new _ _)
    have HSM := Aside0.mk (show (w12.alloc (.cells #[.slice A6 (M.sigs.length + 1) c6, .slice h.a2 M.imports.length h.c2, .slice A10 (M.funcs.length + 1) c10, .int .i64 M.m0, .int .i64 M.m1, .slice h.a4 M.globals.length h.c4, .slice h.a5 M.data.length h.c5] 29)).heap.size = m + 1 by rw [← hm]; simp)
    have HNM := Aside0.mk (show n < m by rw [← hm]; exact blk_lt HBN12.out)
    have hy0 := blk_cell HBN12.out 0
    have hy1 := blk_cell HBN12.out 1
    have hy2 := blk_cell HBN12.out 2
    have hy3 := blk_cell HBN12.out 3
    have hy4 := blk_cell HBN12.out 4
    have hy5 := blk_cell HBN12.out 5
    have hy6 := blk_cell HBN12.out 6
    go_upto_region 10 with (fail)
    obtain ⟨W13, hW13⟩ : ∃ W, w12.alloc (.cells #[.slice A6 (M.sigs.length + 1) c6, .slice h.a2 M.imports.length h.c2, .slice A10 (M.funcs.length + 1) c10, .int .i64 M.m0, .int .i64 M.m1, .slice h.a4 M.globals.length h.c4, .slice h.a5 M.data.length h.c5] 29) = W := ⟨_, rfl⟩
    rw [hW13] at HB13 HBM HSM ⊢
    have HMM := Aside0.mk hm
    clear hW13 hm hy0 hy1 hy2 hy3 hy4 hy5 hy6
    have hy2 := blk_cell (blk_below HBN12.out HB13.out) 2
    have HFF := Aside0.mk (Kd.F_below (Kd.C_F heap_func HM12.out.funcs) HB13.out)
    have hlf : (moreM M [(11, 0, 0)]).funcs.length = M.funcs.length + 1 := more_len
    dsimp only at HFF
    rw [hlf] at HFF
    have hbw13 := (HF12.out.below HB13.out).bel
    have HBW13 := Aside0.mk hbw13
    clear hlf hbw13
    go_wp2_with ((with_reducible refine gate_builtin (b := .append) (xs := #[.const (.slice none 0 0), .tmp 66]) rfl ?_); at_builtin; refine Hold.out ?_)
    refine Hold.mk ?_
    refine Kd.N_append_rows kFunc (w0 := w) (W := W13) w.heap.size rfl (.const (.slice none 0 0)) (.tmp 66) 24 43 (.agg #[.int .i64 0, .bool false, .slice none 0 0, .slice none 0 0]) 64 rfl Tryd.underlying24 infoFn rfl (by decide) (by decide) (.slice none 0 0) [] (moreM M [(11, 0, 0)]).funcs A10 (M.funcs.length + 1) c10 (fun q => q < m ∨ m < q) (fun q => q < w12.heap.size) rfl rfl (Kd.N_nil _ _ _ _ _) HFF.out (fun q hq => ⟨.inl (by have := HMM.out; omega), by simp [Value.ownBlock]⟩) (fun q hq => .inr (by have := HSM.out; omega)) HBW13.out HBW13.out.size (by simp; omega) ?_
    intro v14 w14 hN hB hg hat
    rw [List.nil_append] at hN
    have hlf : (moreM M [(11, 0, 0)]).funcs.length = M.funcs.length + 1 := more_len
    obtain ⟨g, cap, rfl, hgb, hgs, _⟩ := Kd.N_form hN (by rw [hlf]; omega)
    rw [hlf] at hN
    rw [hlf]
    have hgm : m < g := by
      rcases hat with e | ⟨b2, e, hb2⟩
      · simp [Value.ownBlock] at e
      · simp [Value.ownBlock] at e; have := HSM.out; omega
    have HGM := Aside0.mk hgm
    have HB14 := Aside0.mk (HB13.out.trans ((below_grown hg).mono HB13.out.size))
    have HBM14 := Aside0.mk (blk_grown HBM.out hg (by simp [Value.ownBlock]))
    have HN14 := Aside0.mk hN
    have HGS := Aside0.mk hgs
    clear hN hB hg hat hlf hgm hgs hgb hy2 HB13 HBM HSM HFF HBW13
    have hd := blk_cell HBM14.out 2
    have hdf := blk_frozen HBM14.out 2
    go_upto_region 11 with (fail)
    have HB15 := Aside0.mk (HB14.out.setCell (p := ⟨m, 2, none⟩) (Nat.le_of_eq HMM.out) (.slice (some ⟨g, 0, none⟩) (M.funcs.length + 1) cap))
    have HBM15 := Aside0.mk (show (w14.setCell ⟨m, 2, none⟩ (.slice (some ⟨g, 0, none⟩) (M.funcs.length + 1) cap)).heap[m]? = some (.cells #[.slice A6 (M.sigs.length + 1) c6, .slice h.a2 M.imports.length h.c2, .slice (some ⟨g, 0, none⟩) (M.funcs.length + 1) cap, .int .i64 M.m0, .int .i64 M.m1, .slice h.a4 M.globals.length h.c4, .slice h.a5 M.data.length h.c5] 29 (0, 0)) by simpa using blk_set HBM14.out 2 (.slice (some ⟨g, 0, none⟩) (M.funcs.length + 1) cap))
    have HN15 := Aside0.mk (Kd.N_far (p := ⟨m, 2, none⟩) HN14.out (fun q hq => by show q ≠ m; omega) (.slice (some ⟨g, 0, none⟩) (M.funcs.length + 1) cap))
    have HGS15 := Aside0.mk (show g < (w14.setCell ⟨m, 2, none⟩ (.slice (some ⟨g, 0, none⟩) (M.funcs.length + 1) cap)).heap.size by simpa using HGS.out)
    obtain ⟨W15, hW15⟩ : ∃ W, w14.setCell ⟨m, 2, none⟩ (.slice (some ⟨g, 0, none⟩) (M.funcs.length + 1) cap) = W := ⟨_, rfl⟩
    rw [hW15] at HB15 HBM15 HN15 HGS15 ⊢
    clear hW15 hd hdf HB14 HBM14 HN14 HGS
    have hlit := blk_new W15 (.cells #[.int .i64 66, .int .i64 0, .int .i64 0, .int .i64 11, .int .i64 0, .int .i64 0] 45)
    have hFL : Kd.F kInstr (W15.alloc (.cells #[.int .i64 66, .int .i64 0, .int .i64 0, .int .i64 11, .int .i64 0, .int .i64 0] 45)) (fun q => q = W15.heap.size) (some ⟨W15.heap.size, 0, none⟩) ([(66, 0, 0), (11, 0, 0)] : List T3).length [(66, 0, 0), (11, 0, 0)] := fun W' hW => k3_lit [(66, 0, 0), (11, 0, 0)] (by simp) ((hW W15.heap.size rfl (by simp)).trans hlit)
    obtain ⟨⟨u, hu⟩, hfz, hN16, hg16⟩ := fn_body (Kd.N_alloc HN15.out (.cells #[.int .i64 66, .int .i64 0, .int .i64 0, .int .i64 11, .int .i64 0, .int .i64 0] 45)) M.funcs.length (Nat.lt_succ_self _) hFL (fun q hq => by have h1 := HGS15.out; have h2 := HGM.out; subst hq; exact ⟨.inr (by omega), by omega⟩) (Nat.le_refl _)
    rw [more_set] at hN16
    have hlt := Nat.lt_succ_self M.funcs.length
    have hb2 := blk_cell HBM15.out 2
    have hbw := blk_cell (HF12.out.below HB15.out).box 2
    have hbw2 := blk_cell ((HF12.out.below HB15.out).below (below_alloc (Below.refl _ _) (Nat.le_refl _) (.cells #[.int .i64 66, .int .i64 0, .int .i64 0, .int .i64 11, .int .i64 0, .int .i64 0] 45))).box 2
    have HB16 := Aside0.mk (show Below w12.heap.size w12 ((W15.alloc (.cells #[.int .i64 66, .int .i64 0, .int .i64 0, .int .i64 11, .int .i64 0, .int .i64 0] 45)).setCell ⟨g, M.funcs.length * 4 + 3, none⟩ (.slice (some ⟨W15.heap.size, 0, none⟩) 2 2)) from (HB15.out.alloc HB15.out.size (.cells #[.int .i64 66, .int .i64 0, .int .i64 0, .int .i64 11, .int .i64 0, .int .i64 0] 45)).setCell (p := ⟨g, M.funcs.length * 4 + 3, none⟩) (by have := HGM.out; have := HMM.out; show w12.heap.size ≤ g; omega) _)
    have HN16 := Aside0.mk hN16
    have HBM16 := Aside0.mk (blk_far (p := ⟨g, M.funcs.length * 4 + 3, none⟩) (blk_alloc HBM15.out (.cells #[.int .i64 66, .int .i64 0, .int .i64 0, .int .i64 11, .int .i64 0, .int .i64 0] 45)) (by have := HGM.out; show m ≠ g; omega) (.slice (some ⟨W15.heap.size, 0, none⟩) 2 2))
    clear hN16 hg16 hlit hFL
    go_upto_region 12 with (fail)
    obtain ⟨W16, hW16⟩ : ∃ W, (W15.alloc (.cells #[.int .i64 66, .int .i64 0, .int .i64 0, .int .i64 11, .int .i64 0, .int .i64 0] 45)).setCell ⟨g, M.funcs.length * 4 + 3, none⟩ (.slice (some ⟨W15.heap.size, 0, none⟩) 2 2) = W := ⟨_, rfl⟩
    have HN16' := HN16.out
    rw [show (([(66, 0, 0), (11, 0, 0)] : List T3).length) = 2 from rfl] at HN16'
    rw [hW16] at HB16 HN16' HBM16 ⊢
    have HN17 := Aside0.mk HN16'
    clear hW16 HN16' HN16 hu hfz hlt hb2 hbw hbw2 HB15 HBM15 HN15
    have HM16 := Aside0.mk (more_mod2 (l2 := [(66, 0, 0), (11, 0, 0)]) (HM12.out.below HB16.out) HN17.out)
    have hvc := valid_calls (moreM M [(66, 0, 0), (11, 0, 0)]) _ W16 HM16.out (more_can HMC.out (by intro x hx; rcases List.mem_cons.1 hx with rfl | hx; exact ⟨by decide, by decide⟩; rw [List.mem_singleton.1 hx]; exact ⟨by decide, by decide⟩))
    rw [more_cells, later_bad HMC.out HV.out h8 h16] at hvc
    dsimp only at hvc
    have hy0 := blk_cell HBM16.out 0
    have hy1 := blk_cell HBM16.out 1
    have hy2 := blk_cell HBM16.out 2
    have hy3 := blk_cell HBM16.out 3
    have hy4 := blk_cell HBM16.out 4
    have hy5 := blk_cell HBM16.out 5
    have hy6 := blk_cell HBM16.out 6
    go_wp2_with fail
    refine hvc.mono ?_
    rintro e w17 ⟨hb17, v17, rfl, b17, rfl, _, hf17⟩
    clear hvc hy0 hy1 hy2 hy3 hy4 hy5 hy6
    have HB17 := Aside0.mk (HB16.out.trans (hb17.mono HB16.out.size))
    go_wp2_with fail
    refine (told_fault b17 3 (1000 * (M.funcs.length : Int) + 1) w17 (by decide) hf17 (HL12.out.below HB17.out)).mono ?_
    rintro e w18 ⟨rfl, hb18⟩
    have HB18 := Aside0.mk (HB17.out.trans (hb18.mono HB17.out.size))
    clear hb17 hb18 hf17 HB16 HN17 HBM16 HM16
    have hnum := numbers_calls A3 c3 hs A12 c12 gs w18 (Kd.C_below HH12.out HB18.out) hc3 (Kd.C_below HC12.out HB18.out) hc12
    go_wp2_with fail
    refine hnum.mono ?_
    rintro e w19 ⟨rfl, hd19⟩
    have HB19 := Aside0.mk (HB18.out.trans (hd19.below.mono HB18.out.size))
    clear hnum hd19
    have hy := blk_below HBN12.out HB19.out
    have hy0 := blk_cell hy 0
    have hy1 := blk_cell hy 1
    have hy2 := blk_cell hy 2
    have hy3 := blk_cell hy 3
    have hy4 := blk_cell hy 4
    have hy5 := blk_cell hy 5
    have hy6 := blk_cell hy 6
    have hbw := blk_cell (HF12.out.below HB19.out).box 2
    have hvn := valid_calls (moreM M [(11, 0, 0)]) _ w19 (HM12.out.below HB19.out) (more_can HMC.out (by intro x hx; rw [List.mem_singleton.1 hx]; exact ⟨by decide, by decide⟩))
    rw [more_cells, later_valid HMC.out HV.out h8 h16] at hvn
    dsimp only at hvn
    clear hy
    obtain ⟨ha1, ha2⟩ := later_arith h8
    rcases HE3.out with ⟨rfl, q1⟩ | ⟨⟨b3, rfl⟩, x3, q1⟩
    · have q2 := later_heights HMC.out HV.out h8 h16 f q1
      rcases HE12.out with ⟨rfl, q3⟩ | ⟨_, x, q3⟩
      · rw [q2] at q3
        injection q3 with q3
        subst q3
        have hdd : decide (hs = hs) = true := decide_eq_true rfl
        clear q1 q2
        go_wp2_with fail
        refine hvn.mono ?_
        rintro e w20 ⟨hb20, v20, rfl, rfl⟩
        have HF20 := Aside0.mk ((HF12.out.below HB19.out).below hb20)
        have hbw := blk_cell HF20.out.box 2
        clear hvn hb20
        go_wp2_with fail
        go_ret
        exact ⟨rfl, HF20.out.bel⟩
      · rw [q2] at q3
        cases q3
    · clear q1
      go_wp2_with fail
      refine hvn.mono ?_
      rintro e w20 ⟨hb20, v20, rfl, rfl⟩
      have HF20 := Aside0.mk ((HF12.out.below HB19.out).below hb20)
      have hbw := blk_cell HF20.out.box 2
      clear hvn hb20
      go_wp2_with fail
      go_ret
      exact ⟨rfl, HF20.out.bel⟩
theorem ValidLater_walk (H : ModAt w h M) (C : MCan M) (hf : Can f) (hl : Laid w) :
    Calls Tryd.prog 9 #[.agg (M.cells h), .int .i64 f] w fun e w' => e = .returned (.bool true) ∧ Below w.heap.size w w' := by
  cases hv : validT M with
  | some x => exact ValidLater_bad M h f w H C hf hl (q := x.1) (at_ := x.2) hv
  | none =>
    by_cases h8 : 8 ≤ M.funcs.length
    · exact ValidLater_full1 M h f w H C hf hl hv h8
    · by_cases h16 : 16 ≤ M.sigs.length
      · exact ValidLater_full2 M h f w H C hf hl hv (by omega) h16
      · exact ValidLater_main M h f w H C hf hl hv (by omega) (by omega)
end
end Go.Proofs.YtjjhhmchomabeaaDoor.Valid
namespace Go.Proofs.YtjjhhmchomabeaaDoor.ValidLater
open Go.ChangeShapes Go.WideShapes Go.RowKit Go.Proofs.YtjjhhmchomabeaaDoorW.PrintWords Go.Proofs.YtjjhhmchomabeaaDoor.Valid
set_option linter.unusedVariables false
set_option linter.unusedSimpArgs false

/-! ### the row -/
theorem own : ownKnob Tryd.prog.godebug = none := by kernel_rfl
theorem et : Tryd.prog.globalNamed "errors.errorType" = some 0 := by kernel_rfl
theorem rt : (Tryd.prog.cutTypes.find? (·.1 == "internal/reflectlite.rtype")).map (·.2) = some 112 := by kernel_rfl
theorem oneRow : ((List.range 174).filter fun t => Tryd.prog.rowNamed t [101, 114, 114, 111, 114]) = [38] := by kernel_rfl
theorem size : Tryd.prog.types.size = 174 := by kernel_rfl
theorem handle_of_laid {W : World} (h : laidMetH Tryd.prog [("errors.errorType", Rows.laid_errors_errorType)] W) : Laid W := by
  have h' : laidMet Tryd.prog [] W ∧ handlesMet Tryd.prog [("errors.errorType", Rows.laid_errors_errorType)] W := h
  obtain ⟨name, u, ty, e1, e2, e3, e4, e5⟩ := h'.2 _ (List.mem_singleton.2 rfl)
  have en : name = [101, 114, 114, 111, 114] := (Option.some.inj e1).symm
  subst en
  obtain rfl := Option.some.inj (rt.symm.trans e2)
  have hm : ty ∈ (List.range 174).filter fun t => Tryd.prog.rowNamed t [101, 114, 114, 111, 114] := List.mem_filter.2 ⟨List.mem_range.2 (by rw [← size]; exact e3), e4⟩
  rw [oneRow] at hm
  obtain rfl := List.mem_singleton.1 hm
  have hh : typeHandle Tryd.prog 38 = .pointer (some ⟨1, 38, none⟩) := by kernel_rfl
  rw [hh] at e5
  unfold Laid
  simpa using World.var?_cell et e5 0
noncomputable def laidWorld (os : Os) : World :=
  let w0 := World.holding Tryd.prog os ⟨#[], #[], []⟩
  { w0 with heap := w0.heap.modify 0 fun
      | .cells _ t frozen => .cells #[.iface 112 (.agg #[.pointer (some ⟨1, 38, none⟩)])] t frozen
      | o => o }
theorem laidWorld_met (os : Os) (args : Array Value) : laidMetH Tryd.prog [("errors.errorType", Rows.laid_errors_errorType)] ((laidWorld os).forCall (fun _ _ => 0) ⟨#[], args, []⟩).memory :=
  laidMetH_of_parts (laidMet_nil _ _) (by kernel_rfl)
theorem can_wf {n : Int} (h : (Lit.int .i64 n).wf = true) : Valid.Can n := by
  simp [Lit.wf, IntKind.has, IntKind.min, IntKind.max, IntKind.bits, IntKind.signed] at h
  unfold Valid.Can
  omega
set_option maxRecDepth 100000 in
theorem lifted (os : Os) (started : os.Started) (H : Type) (enc : TypeId × Value → H) :
    ReturnsInHanded {} Tryd.checked os 9 .any (fun w args => (Rows.validLaterSpec.pre enc Tryd.prog Tryd.f9 [] false w args ∧ laidMetH Tryd.prog [("errors.errorType", Rows.laid_errors_errorType)] w) ∧ sizedMet enc Tryd.prog Tryd.f9 (OpenSpec.ofChange Rows.validLaterSpec) false w args)
      (Rows.validLaterSpec.post enc Tryd.prog Tryd.f9 false true false false) := by
  refine returnsInHanded_of_change_and (C := Tryd.checked) (X := fun w _ => laidMetH Tryd.prog [("errors.errorType", Rows.laid_errors_errorType)] w) (fun _ _ _ hh h => h.of_heap hh) own started (by kernel_rfl) Tryd.func9
    (ChangeSpec.witness_at (enc := enc) (C := Tryd.checked) (os := os) (X := fun w _ => laidMetH Tryd.prog [("errors.errorType", Rows.laid_errors_errorType)] w) false (laidWorld os) #[.agg #[.slice none 0 0, .slice none 0 0, .slice none 0 0, .int .i64 0, .int .i64 0, .slice none 0 0, .slice none 0 0], .int .i64 0] 8 rfl (by kernel_rfl) (by kernel_rfl) (by kernel_rfl) (by kernel_rfl) (by kernel_rfl) (laidWorld_met os _)) ?_
  intro W base args ds gs before hval0 hW _ hsz0 hL _
  have hval : ∀ (j : Nat) t v, Tryd.f9.params[j]? = some t → args[j]? = some v → Value.okWide Tryd.prog W .any base t v := hval0
  have hW' := hW
  obtain ⟨p, q, hA0, hV0, rfl, hfz, hnd⟩ := hW
  have hA : DataW.TrodAll enc Tryd.prog W 0 (fun _ => true) true Tryd.f9.params.toList args.toList ds p := hA0
  have hV : DataW.TrodVars enc Tryd.prog W (fun _ => true) [] gs q := hV0
  rw [Tryd.params9] at hA hval
  obtain ⟨v0, vs0, d0, ds0, p0, q0, hargs, rfl, rfl, h0, r0⟩ := trodAll_cons hA
  obtain ⟨v1, vs1, d1, ds1, p1, q1, rfl, rfl, rfl, h1, r1⟩ := trodAll_cons r0
  obtain ⟨rfl, rfl, rfl⟩ := trodAll_nil r1
  obtain rfl : args = #[v0, v1] := by cases args; simp_all
  obtain ⟨a1, rfl, rfl, rfl, w1⟩ := open_int Tryd.underlying3 (hval 1 3 v1 rfl rfl) h1
  have hg := handle_of_laid hL
  obtain ⟨rfl, rfl⟩ : gs = [] ∧ q = [] := by
    cases gs with
    | nil => exact ⟨rfl, hV⟩
    | cons g r => exact absurd hV (by intro h; cases h)
  obtain ⟨cs1, rfl, _⟩ := okWide_struct Tryd.underlying29 (hval 0 29 v0 rfl rfl)
  obtain ⟨M, hd, rfl, hMod, k1, k2, k3⟩ := ModRow.read_mod h0
  have hC : Valid.MCan M := ⟨fun g hg => ⟨fun t ht => can_wf ((k1 g hg).1 t ht), fun t ht => can_wf ((k1 g hg).2 t ht)⟩, fun f hf => ⟨fun t ht => can_wf ((k2 f hf).1 t ht), fun x hx => can_wf ((k2 f hf).2 x hx)⟩, fun g hg => can_wf (k3 g hg)⟩
  have e1 : Rows.validLaterSpec.fn H ([d0, .lit (.int .i64 a1)] ++ []) = { results := [.lit (.bool true)], args := [d0, .lit (.int .i64 a1)] } := by simp [Rows.validLaterSpec]
  refine (ValidLater_walk M hd a1 W hMod hC (can_wf w1) hg).mono fun e W' ⟨he, hw⟩ => ?_
  subst he
  refine ⟨_, rfl, _, _, _, [], p0 ++ [], [], hW', ?_, ?_, ?_, hw.frame _, fun h => by cases h⟩
  · rw [e1]; exact trodAll_mk1 (shut_bool Tryd.underlying4 true)
  · rw [e1]; exact trodAll_mk2 (ModRow.back_mod h0 hw) (shut_int Tryd.underlying3 w1)
  · rw [e1]; rfl
theorem row_holds : Rows.ValidLaterSaid :=
  OpenClaim.holds_of_wide 9 Tryd.f9 rfl rfl rfl rfl rfl rfl rfl ⟨rfl, rfl, rfl, rfl, rfl⟩ rfl rfl rfl rfl rfl (by kernel_rfl) Tryd.func9 (by kernel_rfl)
    (of_decide_eq_true (by kernel_rfl)) (by unfold Func.isWrapper; rw [if_neg (of_decide_eq_false (by kernel_rfl))]; exact ⟨rfl, rfl⟩)
    (fun os started H enc _ => lifted os started H enc)
/-- ValidLater, tied to the program's text. -/
theorem validLater_holds : Rows.ValidLaterCardSaid :=
  Claim7.holds_tied_plain_at .later [] [.handle] true (true, "a375214d61d745cf21eebd2106e1b8edc3a89ab9356fe3b512f1620f8a12f14f") true
    row_holds (fun _ h => by cases h) (by kernel_rfl) (fun _ h => by cases h) validLater_row_tie rfl ⟨rfl, rfl⟩ (by kernel_rfl) rfl
    (fun f fn hf hfn => by
      obtain rfl : f = 9 := Option.some.inj ((show Tryd.prog.funcNamed "oubliette/oubliettelaw07.ValidLater" = some 9 by kernel_rfl).symm.trans hf) |>.symm
      obtain rfl : fn = Tryd.f9 := (Option.some.inj (Tryd.func9.symm.trans hfn)).symm
      exact ⟨by kernel_rfl, fun j t ht => by
        rw [Tryd.params9] at ht
        have h3 : t = 29 ∨ t = 3 := by
          rcases j with _ | _ | j
          · exact .inl (by simpa using ht.symm)
          · exact .inr (by simpa using ht.symm)
          · simp at ht
        rcases h3 with rfl | rfl
        · exact (show Tryd.prog.wantsStandIn 29 = false by kernel_rfl)
        · exact (show Tryd.prog.wantsStandIn 3 = false by kernel_rfl)⟩)
    (by kernel_rfl)
end Go.Proofs.YtjjhhmchomabeaaDoor.ValidLater
namespace Go.Proofs.YtjjhhmchomabeaaDoor
/-- The card, under a short name, for the claim. -/
theorem validLater_holds : Rows.ValidLaterCardSaid := ValidLater.validLater_holds
end Go.Proofs.YtjjhhmchomabeaaDoor
#print axioms Go.Proofs.YtjjhhmchomabeaaDoor.validLater_holds
