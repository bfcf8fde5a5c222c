/- AllocFew: the walk of the statement. -/
import Derived.Test.YtdcmeefeinppnaaFewPure
namespace Go.Proofs.Ytdcmeefeinppnaa.Live
open Go.RowKit Go.Proofs.YtdcmeefeinppnaaW.PrintWords Go.Proofs.YtdcmeefeinppnaaW.PrintLast Go.Proofs.YtdcmeefeinppnaaW.PrintMore Go.Proofs.Ytdcmeefeinppnaa.Mem Go.Proofs.Ytdcmeefeinppnaa.Ir
open Uses (uses)
set_option linter.unusedVariables false
set_option linter.unusedSimpArgs false

structure Pw (w W : World) (c : Cod) (A : Option Addr) (cap : Nat) (Ap : Option Addr) (P : List Int) : Prop where
  b : Bx w W c A cap
  r : (Kd.int .i64).C W Ap P.length P
theorem Pw.below {w W W1 : World} {c : Cod} {A : Option Addr} {cap : Nat} {Ap : Option Addr} {P : List Int} (h : Pw w W c A cap Ap P) (hb : Below W.heap.size W W1) : Pw w W1 c A cap Ap P := ⟨h.b.below hb, Kd.C_below h.r hb⟩
theorem infoIr : (Try.prog.info? 38).map (fun i => (i.zero, i.size, i.bytes)) = some (some (.agg zIr.vals), 7, 56) := by kernel_rfl
theorem ir_M {W W' : World} {base : Nat} {ok : Nat → Prop} {x : Ir} {cs : List Value} (h : kIr.K W x cs) : kIr.M W' base ok x cs := h
theorem ir_M0 {W' : World} {base : Nat} {ok : Nat → Prop} : kIr.M W' base ok xCall xCall.vals.toList :=
  ir_M (W := W') ⟨[.int .i64 14], _, rfl, rfl, [.int .i64 (-1)], _, rfl, rfl, [.int .i64 0], _, rfl, rfl, [.int .i64 0], _, rfl, rfl, [.int .i64 0], _, rfl, rfl, [.int .i64 0], _, rfl, rfl, rfl⟩
theorem blk_under {W W1 : World} {b n : Nat} {o : Obj} (h : W.heap[b]? = some o) (hb : Below n W W1) (hn : b < n) : W1.heap[b]? = some o := by rw [hb.block b hn]; exact h
def callsB (c : Cod) (k : Nat) : Bool := (List.range k).any fun i => (atIr c.body i).op == 14
theorem callsB_snoc (c : Cod) (k : Nat) : callsB c (k + 1) = (callsB c k || (atIr c.body k).op == 14) := by
  unfold callsB
  rw [List.range_succ, List.any_append]; simp
theorem callsB_none {c : Cod} {k : Nat} (h : callsB c k = false) : ∀ i : Nat, i < k → (atIr c.body i).op ≠ 14 := fun i hi => by
  have := List.any_eq_false.1 h i (List.mem_range.2 hi)
  simpa using this
attribute [local go_sem] max2_int min2_int max_two min_two undef

set_option maxHeartbeats 4000000 in
set_option maxRecDepth 100000 in
theorem few_walk (cells params labels : Int) (L : List Ir) (A : Option Addr) (cap : Nat) (w : World) (hC : kIr.C w A L.length L) (hcap : L.length ≤ cap) :
    Calls Try.prog 6 #[.agg #[.int .i64 cells, .int .i64 params, .slice A L.length cap, .int .i64 labels]] w fun e w' => e = .returned (.bool true) ∧ Below w.heap.size w w' := by
  obtain ⟨L', hL⟩ : ∃ L', L' = L.take 80 := ⟨_, rfl⟩
  have hmin : (if (80 : Int) < (L.length : Int) then 80 else (L.length : Int)) = (L'.length : Int) := min_cut L L' 80 hL
  have hm0 : (0 : Int) ≤ (L'.length : Int) := by omega
  have hmc : (L'.length : Int) ≤ (cap : Int) := by rw [hL, List.length_take]; omega
  have hsm : L'.length ≤ 80 := by rw [hL, List.length_take]; omega
  have HC := Aside0.mk hC
  have HL := Aside0.mk hL
  have hbx0 := blk_new w (.cells #[.int .i64 cells, .int .i64 params, .slice A L.length cap, .int .i64 labels] 24)
  have HB := Aside0.mk ((Below.refl w.heap.size w).alloc (Nat.le_refl _) (.cells #[.int .i64 cells, .int .i64 params, .slice A L.length cap, .int .i64 labels] 24))
  have HX := Aside0.mk hbx0
  clear hC hL hbx0
  go_enter Try.func6, Try.ntmps6
  go_wp2_with fail
  refine (examples17_calls _).mono ?_
  rintro e w1 ⟨rfl, hb1⟩
  have hbx := blk_below HX.out hb1
  have hc0 := blk_cell hbx 0
  have hc1 := blk_cell hbx 1
  have hc2 := blk_cell hbx 2
  have hc3 := blk_cell hbx 3
  have hf2 := blk_frozen hbx 2
  have HCUT := Aside0.mk (Bx.cut (HB.out.trans (hb1.mono HB.out.size)) (by have := hb1.size; simpa using this) hbx HC.out hcap 80 HL.out (by omega))
  obtain ⟨ah, af, er, HS, hE⟩ := sets_ends ⟨cells, params, L', labels⟩
  have HS := Aside0.mk HS
  have HE := Aside0.mk hE
  clear hbx hb1 HB HX HL hE
  go_wp2_with fail
  refine (alloc_calls _ A cap _ HCUT.out.code HS.out HE.out).mono ?_
  rintro e w2 ⟨v1, rfl, hR1, hb2⟩
  obtain ⟨Ap, cp, rfl, hcp, hCp⟩ := Kd.R_reads hR1
  have HP2 := Aside0.mk (show Pw w w2 _ A cap Ap _ from ⟨HCUT.out.below hb2, hCp⟩)
  clear hc0 hc1 hc2 hc3 hf2 hR1 hb2 hCp HCUT hmin hm0 hmc HC hcap
  obtain ⟨c, hcd⟩ : ∃ c, Cod.mk cells params L' labels = c := ⟨_, rfl⟩
  rw [hcd] at HS HE HP2 ⊢
  replace hsm : c.body.length ≤ 80 := by rw [← hcd]; exact hsm
  clear hcd
  have HPL := Aside0.mk (places_le (c := c) (ah := ah) (af := af))
  rcases HE.out with ⟨rfl, hfit, hl⟩ | ⟨rfl, hfit, rfl, rfl⟩
  · have hh := fits_head hfit
    have HSM := Aside0.mk (more_sets HS.out hfit (by omega))
    have HPM := Aside0.mk (more_places (ah := ah) hfit (by omega) hl.lf)
    have HFM := Aside0.mk (more_fits hfit (by omega))
    have HAM := Aside0.mk (fun (W : World) (A' : Option Addr) (cap' : Nat) (h : CodeAt W (more c) A' cap') => by
      have h1 := alloc_calls (more c) A' cap' W h HSM.out (.inl ⟨rfl, HFM.out, live_of HSM.out HFM.out⟩)
      rw [HPM.out] at h1
      exact h1)
    have HFEW := Aside0.mk (fun (h6 : c.cells ≤ 6) (hn : callsB c c.body.length = false) => few (ah := ah) (af := af) hfit h6 (callsB_none hn))
    clear HSM HPM HFM
    obtain ⟨P, hP⟩ : ∃ P, placesOf c ah af = P := ⟨_, rfl⟩
    rw [hP] at HP2 HPL HAM HFEW ⊢
    clear hP HE hfit hl HS
    have hpl : P.length ≤ 60 := HPL.out.1
    have HPW := Aside0.mk (show ∀ k ∈ P, -1099511627776 ≤ k ∧ k ≤ 9223372036854775807 from fun k hk => by have := HPL.out.2 k hk; omega)
    clear HPL
    obtain ⟨hc0, hc60, _, _, _⟩ := hh
    have hbx0 := blk_cell HP2.out.b.box 0
    have hbx1 := blk_cell HP2.out.b.box 1
    have hbx2 := blk_cell HP2.out.b.box 2
    have hbx3 := blk_cell HP2.out.b.box 3
    go_wp2_with fail
    go_loop [6, 7] (fun cv iv => ∃ k : Nat, k ≤ c.body.length ∧ iv = .int .i64 k ∧ cv = .bool (callsB c k)) (fun _ iv => c.body.length - (intOf iv).toNat)
    case atStart => exact ⟨0, Nat.zero_le _, rfl, rfl⟩
    case round =>
      obtain ⟨k, hk, rfl, rfl⟩ := hrel
      by_cases hlt : k < c.body.length
      · obtain ⟨ad, e, hx0, hx1, hx2, hx3, hx4, hx5, hx6⟩ := at_ir HP2.out.b.code.row k hlt
        subst e
        have HN := Aside0.mk (callsB_snoc c k)
        cases hcb : callsB c k with
        | true =>
          rw [hcb, Bool.true_or] at HN
          go_wp2_with fail
          go_round
          case rel => exact ⟨k + 1, by omega, by go_num, by rw [HN.out]⟩
          case measure => simp [intOf]; omega
        | false =>
          rw [hcb, Bool.false_or] at HN
          go_wp2_with fail
          go_round
          case rel => exact ⟨k + 1, by omega, by go_num, by rw [HN.out]⟩
          case measure => simp [intOf]; omega
      · have HK := Aside0.mk (show k = c.body.length by omega)
        rw [show callsB c k = callsB c c.body.length by rw [HK.out]]
        have HP3 := Aside0.mk (HP2.out.below (below_alloc (Below.refl _ _) (.cells (c.vals A cap) 24)))
        have HD3 := Aside0.mk (blk_new w2 (.cells (c.vals A cap) 24))
        have h3 := blk_cell HP3.out.b.box 2
        have HAM2 : Aside0 (∀ (W : World) (A' : Option Addr) (cap' : Nat), CodeAt W ⟨c.cells, c.params, c.body ++ [xCall], c.labels⟩ A' cap' → Calls Try.prog 26 #[.agg #[.int .i64 c.cells, .int .i64 c.params, .slice A' (c.body ++ [xCall]).length cap', .int .i64 c.labels]] W (AllocOut W P 0)) := ⟨HAM.out⟩
        obtain ⟨L2, hL2⟩ : ∃ L2, c.body ++ [xCall] = L2 := ⟨_, rfl⟩
        have hL2l : L2.length ≤ 90000 := by rw [← hL2]; simp; omega
        rw [hL2] at HAM2
        have HL2 := Aside0.mk hL2
        clear hL2 HAM
        have hs3 := below_alloc (Below.refl w2.heap.size w2) (.cells (c.vals A cap) 24)
        have hsz3 : (w2.alloc (.cells (c.vals A cap) 24)).heap.size = w2.heap.size + 1 := by simp
        have HSZ3 := Aside0.mk hsz3
        clear hsz3 hs3
        go_wp2_with (first
          | ((with_reducible refine gate_builtin (b := .append) (xs := #[.const (.slice none 0 0), .tmp 48]) rfl ?_); at_builtin; refine Kd.R_append_rows kIr (Rr := kIr.K (w2.alloc (.cells (c.vals A cap) 24))) (okp := fun _ => False) (w0 := w2.alloc (.cells (c.vals A cap) 24)) (w2.heap.size + 1) rfl (.const (.slice none 0 0)) (.tmp 48) 22 38 (.agg (zIr.vals)) 56 rfl Try.underlying22 infoIr rfl (by decide) (by omega) (.slice none 0 0) [] c.body A c.body.length cap (fun _ => True) rfl rfl (Kd.R_nil _ _ _ _ _) HP3.out.b.code.row (fun _ _ h => ir_M h) (fun _ h => h.elim) (fun _ _ => trivial) (Below.refl _ _) (by rw [HSZ3.out]; exact Nat.le_refl _) (by simp; omega) ?_; intro v4 w4 hO hB hg hat; rw [List.nil_append] at hO; have HO4 := Aside0.mk hO; have HB4 := Aside0.mk hB; obtain ⟨A4, c4, e4⟩ := Kd.R_slice hO; subst e4; clear hO hB hg hat h3)
          | ((with_reducible refine gate_builtin (b := .append) (xs := #[.tmp 49, .tmp 51]) rfl ?_); at_builtin; refine Kd.R_append kIr (w0 := w2.alloc (.cells (c.vals A cap) 24)) (w2.heap.size + 1) rfl (.tmp 49) (.tmp 51) 22 38 (.agg (zIr.vals)) 56 rfl Try.underlying22 infoIr rfl (by decide) (by omega) (.slice A4 c.body.length c4) c.body xCall xCall.vals.toList (fun _ => True) (fun _ => False) rfl rfl ir_M0 (fun _ h => h.elim) (fun _ _ => trivial) HO4.out HB4.out (by have := HB4.out.size; rw [HSZ3.out] at this; exact this) (by omega) ?_; intro v5 w5 hO hB hg hat; rw [HL2.out] at hO; have HO5 := Aside0.mk hO; have HB5 := Aside0.mk hB; have hD5 := blk_under HD3.out hB (by omega); have hd0 := blk_cell hD5 0; have hd1 := blk_cell hD5 1; have hd2 := blk_cell hD5 2; have hd3 := blk_cell hD5 3; have hdf := blk_frozen hD5 2; have HD5 := Aside0.mk hD5; obtain ⟨A5, c5, e5⟩ := Kd.R_slice hO; subst e5; clear hO hB hg hat hD5))
        have HC6 := Aside0.mk (show CodeAt (w5.setCell ⟨w2.heap.size, 2, none⟩ (.slice A5 L2.length c5)) ⟨c.cells, c.params, L2, c.labels⟩ A5 c5 from
          have h := Kd.R_reads' (Kd.R_far (Kd.R_bound HO5.out) (p := ⟨w2.heap.size, 2, none⟩) (fun k hk => by have := hk.2.1; show k ≠ w2.heap.size; omega) (.slice A5 L2.length c5))
          ⟨h.2.2, h.2.1, hL2l⟩)
        have HP6 := Aside0.mk (HP2.out.below (show Below w2.heap.size w2 (w5.setCell ⟨w2.heap.size, 2, none⟩ (.slice A5 L2.length c5)) from ((below_alloc (Below.refl _ _) _).trans (HB5.out.mono (by omega))).setCell (Nat.le_refl _) _))
        clear HO4 HB4 HO5 HB5 HD5 HD3 HP3 HP2 hd0 hd1 hd2 hd3 hdf hbx0 hbx1 hbx2 hbx3
        refine (HAM2.out _ A5 c5 HC6.out).mono ?_
        rintro e w7 ⟨v7, rfl, hR7, hb7⟩
        obtain ⟨A7, c7, rfl, _, hC7⟩ := Kd.R_reads hR7
        have HP7 := Aside0.mk (HP6.out.below hb7)
        have HC7 := Aside0.mk hC7
        clear HC6 HP6 hR7 hb7 hC7 HAM2
        go_wp2_with fail
        refine (numbers17_same Ap A7 cp c7 P _ HP7.out.r HC7.out (by omega)).mono ?_
        rintro e w8 ⟨rfl, hd8⟩
        have HP8 := Aside0.mk (HP7.out.below (drawn_below hd8))
        clear HP7 HC7 hd8
        have hbx0 := blk_cell HP8.out.b.box 0
        have HSL := Aside0.mk (slots_calls Ap cp P w8 HP8.out.r (by omega) HPW.out)
        cases hcb : callsB c c.body.length with
        | true =>
          clear HFEW hcb
          go_wp2_with fail
          go_ret
          exact ⟨rfl, HP8.out.b.bel⟩
        | false =>
          by_cases h6 : c.cells ≤ 6
          · have h6b : decide (6 < c.cells) = false := decide_eq_false (by omega)
            have hz := HFEW.out h6 hcb
            rw [hz] at HSL
            clear HFEW hcb h6 hz
            go_wp2_with fail
            refine HSL.out.mono ?_
            rintro e w9 ⟨rfl, rfl⟩
            go_wp2_with fail
            go_ret
            exact ⟨rfl, HP8.out.b.bel⟩
          · have h6b : decide (6 < c.cells) = true := decide_eq_true (by omega)
            clear HFEW hcb h6
            go_wp2_with fail
            go_ret
            exact ⟨rfl, HP8.out.b.bel⟩
  · have hbx0 := blk_cell HP2.out.b.box 0
    go_wp2_with fail
    go_ret
    exact ⟨rfl, HP2.out.b.bel⟩
end Go.Proofs.Ytdcmeefeinppnaa.Live
