/- The examples of chapter 16's statements. -/
import Derived.Test.YtdcmeefeinppnaaL16a
import Derived.Test.YtdcmeefeinppnaaTab
namespace Go.Proofs.Ytdcmeefeinppnaa.Live
open Go.RowKit Go.Proofs.YtdcmeefeinppnaaW.PrintWords Go.Proofs.YtdcmeefeinppnaaW.PrintLast Go.Proofs.YtdcmeefeinppnaaW.PrintMore Go.Proofs.Ytdcmeefeinppnaa.Mem Go.Proofs.Ytdcmeefeinppnaa.Ir
set_option linter.unusedVariables false
set_option linter.unusedSimpArgs false

/-- a block that holds instructions, written out -/
theorem C_block {W : World} {g : Nat} {t : TypeId} (l : List Ir) (hn : l.length ≤ 90000) (cells : Array Value) (hc : cells.toList = l.flatMap (fun x => x.vals.toList)) (h : W.heap[g]? = some (.cells cells t (0, 0))) : kIr.C W (some ⟨g, 0, none⟩) l.length l := by
  refine ⟨rfl, by omega, fun _ => ⟨_, rfl, fun j p hj => ⟨p.vals.toList, rfl, ?_, fun i u hu => ?_⟩⟩⟩
  · exact ⟨[.int .i64 p.op], _, rfl, rfl, [.int .i64 p.dst], _, rfl, rfl, [.int .i64 p.a], _, rfl, rfl, [.int .i64 p.b], _, rfl, rfl, [.int .i64 p.c], _, rfl, rfl, [.int .i64 p.n], _, rfl, rfl, rfl⟩
  · have e : (⟨g, 0, none⟩ : Addr).add (j * 7 + i) = ⟨g, j * 7 + i, none⟩ := by
      unfold Addr.add
      split
      · rename_i h0; rw [h0]
      · simp
    show W.cell? ((⟨g, 0, none⟩ : Addr).add (j * 7 + i)) = some u
    rw [e, blk_cell h]
    have hil : i < 7 := by
      by_cases hh : i < 7
      · exact hh
      · rw [List.getElem?_eq_none (by show 7 ≤ i; omega)] at hu; cases hu
    have key : ∀ (l : List Ir) (j : Nat), l[j]? = some p → (l.flatMap (fun x => x.vals.toList))[j * 7 + i]? = some u := by
      intro l
      induction l with
      | nil => intro j hj; simp at hj
      | cons x l ih =>
        intro j hj
        rw [List.flatMap_cons]
        cases j with
        | zero =>
          simp at hj
          subst hj
          rw [Nat.zero_mul, Nat.zero_add, List.getElem?_append_left (by show i < 7; exact hil)]
          exact hu
        | succ j =>
          have hlen : x.vals.toList.length = 7 := rfl
          rw [List.getElem?_append_right (by rw [hlen]; omega), hlen, show (j + 1) * 7 + i - 7 = j * 7 + i by omega]
          exact ih j (by simpa using hj)
    rw [← Array.getElem?_toList, hc]
    exact key l j hj
/-- .. and whole numbers -/
theorem C_ints {W : World} {g : Nat} {t : TypeId} (l : List Int) (hn : l.length ≤ 90000) (h : W.heap[g]? = some (.cells (l.map (Value.int .i64)).toArray t (0, 0))) : (Kd.int .i64).C W (some ⟨g, 0, none⟩) l.length l := by
  refine ⟨rfl, by omega, fun _ => ⟨_, rfl, fun j p hj => ⟨[.int .i64 p], rfl, rfl, fun i u hu => ?_⟩⟩⟩
  have hi : i = 0 := by
    by_cases hh : i = 0
    · exact hh
    · rw [List.getElem?_eq_none (by simp; omega)] at hu; cases hu
  subst hi
  have e : (⟨g, 0, none⟩ : Addr).add (j * 1 + 0) = ⟨g, j, none⟩ := by
    unfold Addr.add
    split
    · rename_i h0; have : j = 0 := by omega
      rw [this]
    · simp
  show W.cell? ((⟨g, 0, none⟩ : Addr).add (j * 1 + 0)) = some u
  rw [e, blk_cell h]
  simp at hu ⊢
  rw [hj]; simpa using hu

def c0 : Cod := ⟨2, 0, [⟨1, 0, 0, 0, 0, 0, 0⟩, ⟨1, 1, 0, 0, 0, 0, 0⟩, ⟨3, 0, 0, 1, 0, 0, 0⟩, ⟨15, 0, 0, 0, 0, 0, 0⟩], 0⟩
theorem us0 : usesTab c0 = [[], [], [0, 1], [0]] := by
  show [Uses.uses 1 0 0 0, Uses.uses 1 0 0 0, Uses.uses 3 0 1 0, Uses.uses 15 0 0 0] = _
  rw [uses_none 1 0 0 0 (by omega), uses_two 3 0 1 (by omega) (by omega), uses_one 15 0 0 0 (by omega)]
theorem ws0 : waysOf c0 = [[1], [2], [3], []] := by kernel_rfl
theorem fits0 : fits c0 = true := (fits_tab us0).trans (by kernel_rfl)
theorem sets0 : SetsIs c0 [0, 1, 3, 1] [1, 3, 1, 0] 0 :=
  ⟨fun _ => ⟨rfl, 3, by rw [ws0, iter_tab us0]; kernel_rfl⟩, fun h => by rw [fits0] at h; cases h⟩
theorem clash0 : clashR c0 [0, 1, 3, 1] [1, 3, 1, 0] 0 0 1 = (true, 0) := by kernel_rfl
theorem next0 : nextTop c0 2 = [3] := by kernel_rfl

structure E0 (w W : World) (A : Option Addr) : Prop where
  bel : Below w.heap.size w W
  code : CodeAt W c0 A 4
  box : W.heap[w.heap.size + 1]? = some (.cells (c0.vals A 4) 24 (0, 0))
theorem E0.below {w W W1 : World} {A : Option Addr} (h : E0 w W A) (hb : Below W.heap.size W W1) : E0 w W1 A := ⟨h.bel.trans (hb.mono h.bel.size), h.code.below hb, blk_below h.box hb⟩
theorem E0.alloc {w W : World} {A : Option Addr} (h : E0 w W A) (o : Obj) : E0 w (W.alloc o) A := h.below ((Below.refl _ _).alloc (Nat.le_refl _) o)

theorem e0_init (w : World) : E0 w ((w.alloc (.cells #[.int .i64 1, .int .i64 0, .int .i64 0, .int .i64 0, .int .i64 0, .int .i64 0, .int .i64 0, .int .i64 1, .int .i64 1, .int .i64 0, .int .i64 0, .int .i64 0, .int .i64 0, .int .i64 0, .int .i64 3, .int .i64 0, .int .i64 0, .int .i64 1, .int .i64 0, .int .i64 0, .int .i64 0, .int .i64 15, .int .i64 0, .int .i64 0, .int .i64 0, .int .i64 0, .int .i64 0, .int .i64 0] 38)).alloc (.cells (c0.vals (some ⟨w.heap.size, 0, none⟩) 4) 24)) (some ⟨w.heap.size, 0, none⟩) := by
  have h1 := blk_alloc (blk_new w (.cells #[.int .i64 1, .int .i64 0, .int .i64 0, .int .i64 0, .int .i64 0, .int .i64 0, .int .i64 0, .int .i64 1, .int .i64 1, .int .i64 0, .int .i64 0, .int .i64 0, .int .i64 0, .int .i64 0, .int .i64 3, .int .i64 0, .int .i64 0, .int .i64 1, .int .i64 0, .int .i64 0, .int .i64 0, .int .i64 15, .int .i64 0, .int .i64 0, .int .i64 0, .int .i64 0, .int .i64 0, .int .i64 0] 38)) (.cells (c0.vals (some ⟨w.heap.size, 0, none⟩) 4) 24)
  have h2 := blk_new (w.alloc (.cells #[.int .i64 1, .int .i64 0, .int .i64 0, .int .i64 0, .int .i64 0, .int .i64 0, .int .i64 0, .int .i64 1, .int .i64 1, .int .i64 0, .int .i64 0, .int .i64 0, .int .i64 0, .int .i64 0, .int .i64 3, .int .i64 0, .int .i64 0, .int .i64 1, .int .i64 0, .int .i64 0, .int .i64 0, .int .i64 15, .int .i64 0, .int .i64 0, .int .i64 0, .int .i64 0, .int .i64 0, .int .i64 0] 38)) (.cells (c0.vals (some ⟨w.heap.size, 0, none⟩) 4) 24)
  rw [World.size_alloc] at h2
  exact ⟨((Below.refl _ _).alloc (Nat.le_refl _) _).alloc (by simp) _, ⟨C_block c0.body (by decide) _ rfl h1, by decide, by decide⟩, h2⟩
structure R0 (w W : World) (A1 A2 : Option Addr) : Prop where
  e : E0 w W (some ⟨w.heap.size, 0, none⟩)
  r1 : (Kd.int .i64).C W A1 ([1, 3, 1, 0] : List Int).length [1, 3, 1, 0]
  r2 : (Kd.int .i64).C W A2 ([0, 1, 3, 1] : List Int).length [0, 1, 3, 1]
theorem R0.below {w W W1 : World} {A1 A2 : Option Addr} (h : R0 w W A1 A2) (hb : Below W.heap.size W W1) : R0 w W1 A1 A2 := ⟨h.e.below hb, Kd.C_below h.r1 hb, Kd.C_below h.r2 hb⟩
theorem R0.alloc {w W : World} {A1 A2 : Option Addr} (h : R0 w W A1 A2) (o : Obj) : R0 w (W.alloc o) A1 A2 := h.below ((Below.refl _ _).alloc (Nat.le_refl _) o)
theorem R0.drewN {w W : World} {A1 A2 : Option Addr} (h : R0 w W A1 A2) (n : Nat) : R0 w (W.drewN n) A1 A2 := h.below (pw_below_drewN (Below.refl _ _) n)
theorem numbers_same (A B : Option Addr) (ca cb : Nat) (xs : List Int) (w : World) (hx : (Kd.int .i64).C w A xs.length xs) (hy : (Kd.int .i64).C w B xs.length xs) (hn : xs.length ≤ 100000) :
    Calls Try.prog 17 #[.slice A xs.length ca, .slice B xs.length cb] w fun e w' => e = .returned (.bool true) ∧ Drawn0 w w' := by
  have h := numbers_calls A B ca cb xs xs w hx hy hn hn
  rw [decide_eq_true rfl] at h
  exact h
theorem drawn_below {w w' : World} (h : Drawn0 w w') : Below w.heap.size w w' := by
  obtain ⟨n, rfl⟩ := h.out
  exact pw_below_drewN (Below.refl _ _) n
theorem clash_c0 (A : Option Addr) (w : World) (hC : CodeAt w c0 A 4) : Calls Try.prog 24 #[.agg (c0.vals A 4), .int .i64 0, .int .i64 1] w fun e w' => e = .returned (.tuple #[.bool true, .int .i64 0]) ∧ Below w.heap.size w w' := by
  have h := clash_calls sets0 (fun _ => rfl) (fun _ => by decide) A 4 0 1 w hC
  rw [clash0] at h
  exact h
theorem next_c0 (A : Option Addr) (w : World) (hC : CodeAt w c0 A 4) : Calls Try.prog 18 #[.agg (c0.vals A 4), .int .i64 2] w (NextOut w [3]) := by
  have h := nextTop_calls c0 A 4 2 w hC
  rw [next0] at h
  exact h
theorem fits_c0 (A : Option Addr) (w : World) (hC : CodeAt w c0 A 4) : Calls Try.prog 20 #[.agg (c0.vals A 4)] w (FitsOut w true) := by
  have h := fits_calls c0 A 4 w hC
  rw [fits0] at h
  exact h
abbrev x0 (w : World) : Option Addr := some ⟨w.heap.size, 0, none⟩
set_option maxHeartbeats 1000000 in
theorem examples_calls (w : World) : Calls Try.prog 13 #[] w fun e w' => e = .returned (.bool true) ∧ Below w.heap.size w w' := by
  have HE := Aside0.mk (e0_init w)
  go_enter Try.func13, Try.ntmps13
  go_wp2_with fail
  refine (after_calls sets0 (x0 w) 4 _ HE.out.code).mono ?_
  rintro e w1 ⟨v1, rfl, hR1, hb1⟩
  obtain ⟨A1, c1, rfl, _, hC1⟩ := Kd.R_reads hR1
  have HE1 := Aside0.mk (HE.out.below hb1)
  have HC1 := Aside0.mk hC1
  have hbx0 := blk_cell HE1.out.box 0
  have hbx1 := blk_cell HE1.out.box 1
  have hbx2 := blk_cell HE1.out.box 2
  have hbx3 := blk_cell HE1.out.box 3
  clear hR1 hb1 hC1 HE
  go_wp2_with fail
  refine (ahead_calls sets0 (x0 w) 4 _ HE1.out.code).mono ?_
  rintro e w2 ⟨v2, rfl, hR2, hb2⟩
  obtain ⟨A2, c2, rfl, _, hC2⟩ := Kd.R_reads hR2
  have HR2 := Aside0.mk (show R0 w w2 A1 A2 from ⟨HE1.out.below hb2, Kd.C_below HC1.out hb2, hC2⟩)
  clear hR2 hb2 hC2 HE1 HC1 hbx0 hbx1 hbx2 hbx3
  go_wp2_with fail
  refine (numbers_same A1 (x0 w2) c1 4 [1, 3, 1, 0] _ (HR2.out.alloc _).r1 (C_ints [1, 3, 1, 0] (by decide) (blk_new _ _)) (by decide)).mono ?_
  rintro e w3 ⟨rfl, hd3⟩
  have HR3 := Aside0.mk ((HR2.out.alloc (.cells #[.int .i64 1, .int .i64 3, .int .i64 1, .int .i64 0] 3)).below (drawn_below hd3))
  clear HR2 hd3
  go_wp2_with fail
  refine (numbers_same A2 (x0 w3) c2 4 [0, 1, 3, 1] _ (HR3.out.alloc _).r2 (C_ints [0, 1, 3, 1] (by decide) (blk_new _ _)) (by decide)).mono ?_
  rintro e w4 ⟨rfl, hd4⟩
  have HR4 := Aside0.mk ((HR3.out.alloc (.cells #[.int .i64 0, .int .i64 1, .int .i64 3, .int .i64 1] 3)).below (drawn_below hd4))
  clear HR3 hd4
  have hbx0 := blk_cell HR4.out.e.box 0
  have hbx1 := blk_cell HR4.out.e.box 1
  have hbx2 := blk_cell HR4.out.e.box 2
  have hbx3 := blk_cell HR4.out.e.box 3
  go_wp2_with fail
  refine (clash_c0 (x0 w) _ HR4.out.e.code).mono ?_
  rintro e w5 ⟨rfl, hb5⟩
  have HR5 := Aside0.mk (HR4.out.below hb5)
  clear HR4 hb5 hbx0 hbx1 hbx2 hbx3
  have hbx0 := blk_cell HR5.out.e.box 0
  have hbx1 := blk_cell HR5.out.e.box 1
  have hbx2 := blk_cell HR5.out.e.box 2
  have hbx3 := blk_cell HR5.out.e.box 3
  go_wp2_with fail
  refine (next_c0 (x0 w) _ HR5.out.e.code).mono ?_
  rintro e w6 ⟨v6, rfl, hR6, hb6⟩
  obtain ⟨A6, c6, rfl, _, hC6⟩ := Kd.R_reads hR6
  have HR6 := Aside0.mk (HR5.out.below hb6)
  have HC6 := Aside0.mk hC6
  clear HR5 hb6 hbx0 hbx1 hbx2 hbx3 hR6 hC6
  go_wp2_with fail
  refine (numbers_same A6 (x0 w6) c6 1 [3] _ (Kd.C_below HC6.out (below_alloc (Below.refl _ _) _)) (C_ints [3] (by decide) (blk_new _ _)) (by decide)).mono ?_
  rintro e w7 ⟨rfl, hd7⟩
  have HR7 := Aside0.mk ((HR6.out.alloc (.cells #[.int .i64 3] 3)).below (drawn_below hd7))
  clear HR6 hd7 HC6
  have hbx0 := blk_cell HR7.out.e.box 0
  have hbx1 := blk_cell HR7.out.e.box 1
  have hbx2 := blk_cell HR7.out.e.box 2
  have hbx3 := blk_cell HR7.out.e.box 3
  go_wp2_with ((go_at_call 20; refine (fits_c0 (x0 w) _ HR7.out.e.code).mono ?_; rintro e w8 ⟨rfl, hb8⟩; have HD := Aside0.mk (HR7.out.below hb8).e.bel; clear hb8))
  go_ret
  exact ⟨rfl, HD.out⟩
end Go.Proofs.Ytdcmeefeinppnaa.Live
