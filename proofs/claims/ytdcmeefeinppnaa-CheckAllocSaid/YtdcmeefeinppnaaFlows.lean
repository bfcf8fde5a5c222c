/- LiveFlows: the walk of the statement. -/
import Derived.Test.YtdcmeefeinppnaaLiveEnd
import Derived.Test.YtdcmeefeinppnaaEx16
namespace Go.Proofs.Ytdcmeefeinppnaa.Live
open Go.RowKit Go.Proofs.YtdcmeefeinppnaaW.PrintWords Go.Proofs.YtdcmeefeinppnaaW.PrintLast Go.Proofs.YtdcmeefeinppnaaW.PrintMore Go.Proofs.Ytdcmeefeinppnaa.Mem Go.Proofs.Ytdcmeefeinppnaa.Ir
open Uses (uses uses_calls)
set_option linter.unusedVariables false
set_option linter.unusedSimpArgs false

theorem clash_turn (c : Cod) (ah af : List Int) (er a b : Int) : clashR c ah af er a b = clashR c ah af er b a := by
  unfold clashR
  have hbad : clashBad c er a b = clashBad c er b a := by
    unfold clashBad
    rw [Bool.eq_iff_iff]; simp; omega
  rw [hbad]
  split
  · rfl
  · by_cases hab : a = b
    · rw [if_pos hab, if_pos hab.symm]
    · rw [if_neg hab, if_neg (fun e => hab e.symm)]
      have h1 : cl c af a b = cl c af b a := by
        funext i
        unfold cl
        by_cases h : defs (atIr c.body i) = a
        · rw [if_pos h, if_neg (fun e => hab (h.symm.trans e)), if_pos h]
        · rw [if_neg h]
          by_cases h2 : defs (atIr c.body i) = b
          · rw [if_pos h2, if_pos h2]
          · rw [if_neg h2, if_neg h2, if_neg h]
      have h2 : (if a < b then b else a) = (if b < a then a else b) := by
        by_cases h : a < b
        · rw [if_pos h, if_neg (by omega)]
        · rw [if_neg h, if_pos (by omega)]
      have h3 : (inB (rd ah 0) a || inB (rd ah 0) b) = (inB (rd ah 0) b || inB (rd ah 0) a) := Bool.or_comm _ _
      unfold clashB
      rw [h1, h2, h3]

structure Fw (w W : World) (c : Cod) (A : Option Addr) (cap : Nat) (Aa Af : Option Addr) (ah af : List Int) : Prop where
  bel : Below w.heap.size w W
  sz : w.heap.size + 1 ≤ W.heap.size
  box : W.heap[w.heap.size]? = some (.cells (c.vals A cap) 24 (0, 0))
  code : CodeAt W c A cap
  ra : (Kd.int .i64).C W Aa ah.length ah
  rf : (Kd.int .i64).C W Af af.length af
theorem Fw.below {w W W1 : World} {c : Cod} {A : Option Addr} {cap : Nat} {Aa Af : Option Addr} {ah af : List Int} (h : Fw w W c A cap Aa Af ah af) (hb : Below W.heap.size W W1) : Fw w W1 c A cap Aa Af ah af :=
  ⟨h.bel.trans (hb.mono (by have := h.sz; omega)), Nat.le_trans h.sz hb.size, blk_below h.box hb, h.code.below hb, Kd.C_below h.ra hb, Kd.C_below h.rf hb⟩
/-- the code's box, its body cut off -/
structure Bx (w W : World) (c : Cod) (A : Option Addr) (cap : Nat) : Prop where
  bel : Below w.heap.size w W
  sz : w.heap.size + 1 ≤ W.heap.size
  box : W.heap[w.heap.size]? = some (.cells (c.vals A cap) 24 (0, 0))
  code : CodeAt W c A cap
theorem Bx.below {w W W1 : World} {c : Cod} {A : Option Addr} {cap : Nat} (h : Bx w W c A cap) (hb : Below W.heap.size W W1) : Bx w W1 c A cap :=
  ⟨h.bel.trans (hb.mono (by have := h.sz; omega)), Nat.le_trans h.sz hb.size, blk_below h.box hb, h.code.below hb⟩
theorem Bx.cut {w W : World} {cells params labels : Int} {L L' : List Ir} {A : Option Addr} {cap : Nat} (hbel : Below w.heap.size w W) (hsz : w.heap.size + 1 ≤ W.heap.size) (hbox : W.heap[w.heap.size]? = some (.cells #[.int .i64 cells, .int .i64 params, .slice A L.length cap, .int .i64 labels] 24 (0, 0)))
    (hC : kIr.C w A L.length L) (hcap : L.length ≤ cap) (m : Nat) (hL : L' = L.take m) (hm : m ≤ 90000) :
    Bx w (W.setCell ⟨w.heap.size, 2, none⟩ (.slice A L'.length cap)) ⟨cells, params, L', labels⟩ A cap := by
  have h1 := blk_set hbox 2 (.slice A L'.length cap)
  have hl : L'.length ≤ L.length := by rw [hL, List.length_take]; omega
  refine ⟨hbel.setCell (Nat.le_refl _) _, by simpa using hsz, h1, ⟨?_, Nat.le_trans hl hcap, by show L'.length ≤ 90000; rw [hL, List.length_take]; omega⟩⟩
  show kIr.C _ A L'.length L'
  have h2 : kIr.C w A L'.length L' := by
    by_cases h : m ≤ L.length
    · rw [hL]
      exact Kd.C_take hC h
    · have : L' = L := by rw [hL, List.take_of_length_le (by omega)]
      rw [this]; exact hC
  exact Kd.C_below h2 (hbel.setCell (Nat.le_refl _) _)
attribute [local go_sem] max2_int min2_int max_two min_two

theorem min_cut (L L' : List Ir) (m : Nat) (hL : L' = L.take m) : (if (m : Int) < (L.length : Int) then (m : Int) else (L.length : Int)) = (L'.length : Int) := by
  rw [hL, List.length_take]
  split <;> omega

set_option maxHeartbeats 4000000 in
set_option maxRecDepth 100000 in
theorem flows_walk (cells params labels : Int) (L : List Ir) (A : Option Addr) (cap : Nat) (a b : Int) (w : World) (hC : kIr.C w A L.length L) (hcap : L.length ≤ cap) :
    Calls Try.prog 4 #[.agg #[.int .i64 cells, .int .i64 params, .slice A L.length cap, .int .i64 labels], .int .i64 a, .int .i64 b] w fun e w' => e = .returned (.bool true) ∧ Below w.heap.size w w' := by
  obtain ⟨L', hL⟩ : ∃ L', L' = L.take 100 := ⟨_, rfl⟩
  have hmin : (if (100 : Int) < (L.length : Int) then 100 else (L.length : Int)) = (L'.length : Int) := min_cut L L' 100 hL
  have hm0 : (0 : Int) ≤ (L'.length : Int) := by omega
  have hmc : (L'.length : Int) ≤ (cap : Int) := by rw [hL, List.length_take]; omega
  have hsm : L'.length ≤ 100 := by rw [hL, List.length_take]; omega
  have HC := Aside0.mk hC
  have HL := Aside0.mk hL
  have hbx0 := blk_new w (.cells #[.int .i64 cells, .int .i64 params, .slice A L.length cap, .int .i64 labels] 24)
  have HB := Aside0.mk ((Below.refl w.heap.size w).alloc (Nat.le_refl _) (.cells #[.int .i64 cells, .int .i64 params, .slice A L.length cap, .int .i64 labels] 24))
  have HX := Aside0.mk hbx0
  clear hC hL hbx0
  go_enter Try.func4, Try.ntmps4
  go_wp2_with fail
  refine (examples_calls _).mono ?_
  rintro e w1 ⟨rfl, hb1⟩
  have hbx := blk_below HX.out hb1
  have hc0 := blk_cell hbx 0
  have hc1 := blk_cell hbx 1
  have hc2 := blk_cell hbx 2
  have hc3 := blk_cell hbx 3
  have hf2 := blk_frozen hbx 2
  have HCUT := Aside0.mk (Bx.cut (HB.out.trans (hb1.mono HB.out.size)) (by have := hb1.size; simpa using this) hbx HC.out hcap 100 HL.out (by omega))
  obtain ⟨ah, af, er, HS, hE⟩ := sets_ends ⟨cells, params, L', labels⟩
  have HS := Aside0.mk HS
  have HE := Aside0.mk hE
  clear hbx hb1 HB HX HL hE
  go_wp2_with fail
  refine (after_calls HS.out A cap _ HCUT.out.code).mono ?_
  rintro e w2 ⟨v1, rfl, hR1, hb2⟩
  obtain ⟨Af, cf, rfl, hcf, hCf⟩ := Kd.R_reads hR1
  have HB2 := Aside0.mk (HCUT.out.below hb2)
  have HCf := Aside0.mk hCf
  clear hc0 hc1 hc2 hc3 hf2 hR1 hb2 hCf HCUT hmin hm0 hmc HC hcap
  obtain ⟨c, hcd⟩ : ∃ c, Cod.mk cells params L' labels = c := ⟨_, rfl⟩
  rw [hcd] at HS HE HB2
  replace hsm : c.body.length ≤ 100 := by rw [← hcd]; exact hsm
  clear hcd
  have hbx0 := blk_cell HB2.out.box 0
  have hbx1 := blk_cell HB2.out.box 1
  have hbx2 := blk_cell HB2.out.box 2
  have hbx3 := blk_cell HB2.out.box 3
  go_wp2_with fail
  refine (ahead_calls HS.out A cap _ HB2.out.code).mono ?_
  rintro e w3 ⟨v2, rfl, hR2, hb3⟩
  obtain ⟨Aa, ca, rfl, hca, hCa⟩ := Kd.R_reads hR2
  have HP := Aside0.mk (show Fw w w3 c A cap Aa Af ah af from ⟨(HB2.out.below hb3).bel, (HB2.out.below hb3).sz, (HB2.out.below hb3).box, (HB2.out.below hb3).code, hCa, Kd.C_below HCf.out hb3⟩)
  clear hbx0 hbx1 hbx2 hbx3 hR2 hb3 hCa HB2 HCf
  rcases HE.out with ⟨rfl, hfit, hl⟩ | ⟨rfl, hfit, rfl, rfl⟩
  · have HFI := Aside0.mk hfit
    have HF := Aside0.mk (fine_of_fits hfit)
    have HL := Aside0.mk hl
    have hc60 := (fits_head hfit).2.1
    rw [hl.la, hl.lf]
    clear hfit hl HE
    have hbx2 := blk_cell HP.out.box 2
    go_wp2_with fail
    clear hbx2
    go_loopw [12] (fun iv wr => ∃ k : Nat, k ≤ c.body.length ∧ iv = .int .i64 k ∧ Aside0 (Fw w wr c A cap Aa Af ah af)) (fun iv _ => c.body.length - (intOf iv).toNat)
    case atStart => exact ⟨0, Nat.zero_le _, rfl, HP⟩
    case round =>
      obtain ⟨k, hk, rfl, HP1⟩ := hrel
      clear HP
      have hbx0 := blk_cell HP1.out.box 0
      have hbx1 := blk_cell HP1.out.box 1
      have hbx2 := blk_cell HP1.out.box 2
      have hbx3 := blk_cell HP1.out.box 3
      by_cases hlt : k < c.body.length
      · have hway := HF.out.way k hlt
        have hlen := HF.out.len k hlt
        have huse := HF.out.use k hlt
        have hdfs := HF.out.dfs k hlt
        have HT : Aside0 (stepT c (waysOf c) ah k = bitL (uses (atIr c.body k).op (atIr c.body k).a (atIr c.body k).b (atIr c.body k).c) (clr (stepS (waysOf c) ah k) (defs (atIr c.body k)))) := ⟨rfl⟩
        have HSS : Aside0 (stepS (waysOf c) ah k = orL ah ((waysOf c).getD k []) 0) := ⟨rfl⟩
        have hra := HL.out.fa k hlt
        have hrf := HL.out.ff k hlt
        obtain ⟨T, hT⟩ : ∃ T, stepT c (waysOf c) ah k = T := ⟨_, rfl⟩
        obtain ⟨S, hS⟩ : ∃ S, stepS (waysOf c) ah k = S := ⟨_, rfl⟩
        rw [hT] at hra
        rw [hS] at hrf
        rw [hT, hS] at HT
        rw [hS] at HSS
        have HRA := Aside0.mk hra
        have HRF := Aside0.mk hrf
        clear hT hS hra hrf
        have hnt : nextTop c (k : Int) = (waysOf c).getD k [] := by
          unfold nextTop
          rw [if_neg (by omega), ways_at hlt, Int.toNat_natCast]
        obtain ⟨wj, hwjl⟩ : ∃ wj, (waysOf c).getD k [] = wj := ⟨_, rfl⟩
        rw [hwjl] at hway hlen HSS hnt
        have HNT := Aside0.mk hnt
        have HWAY := Aside0.mk hway
        clear hwjl hnt hway
        obtain ⟨x, hx⟩ : ∃ x, atIr c.body k = x := ⟨_, rfl⟩
        rw [hx] at HT huse hdfs
        have HUSE := Aside0.mk huse
        have HX := Aside0.mk hx
        obtain ⟨d, hd⟩ : ∃ d, defs x = d := ⟨_, rfl⟩
        rw [hd] at HT hdfs
        have HD := Aside0.mk hd
        clear huse hd hx
        go_wp2_with (go_at_call 18; refine (nextTop_calls c A cap (k : Int) _ HP1.out.code).mono ?_; rintro e w4 ⟨v4, rfl, hR, hb⟩; have HP2 := Aside0.mk (HP1.out.below hb); rw [HNT.out] at hR; obtain ⟨An, cn, rfl, hcn, hCn⟩ := Kd.R_reads hR; have HWC := Aside0.mk hCn; clear hb hR hCn hbx0 hbx1 hbx2 hbx3)
        go_loop [13, 15] (fun sv iv => ∃ q : Nat, q ≤ wj.length ∧ iv = .int .i64 q ∧ sv = .int .i64 (orL ah (wj.take q) 0)) (fun _ iv => wj.length - (intOf iv).toNat)
        case atStart => exact ⟨0, Nat.zero_le _, rfl, rfl⟩
        case round =>
          obtain ⟨q, hq, rfl, rfl⟩ := hrel
          by_cases hql : q < wj.length
          · obtain ⟨adw, e, hqc⟩ := Kd.at_int HWC.out (q : Int) (by omega) (by omega)
            subst e
            rw [Int.toNat_natCast] at hqc
            obtain ⟨h0, h1⟩ := HWAY.out _ (rd_mem hql)
            obtain ⟨kn, hkn⟩ := Int.eq_ofNat_of_zero_le h0
            have HSN := Aside0.mk (show orL ah (wj.take (q + 1)) 0 = Go.bits .or .i64 (orL ah (wj.take q) 0) (rd ah (kn : Int)) by rw [take_snoc hql, orL_snoc, hkn])
            rw [hkn] at hqc h1
            obtain ⟨ada, ea, hak⟩ := Kd.at_int HP2.out.ra (kn : Int) (by omega) (by have := HL.out.la; omega)
            subst ea
            rw [Int.toNat_natCast] at hak
            clear h0 hkn
            go_wp2_with fail
            go_round
            case rel => exact ⟨q + 1, by omega, by go_num, by rw [HSN.out]⟩
            case measure => simp [intOf]; omega
          · have hse : orL ah (wj.take q) 0 = S := by rw [show q = wj.length by omega, List.take_length]; exact HSS.out.symm
            rw [hse]
            clear hse
            have hb2 := blk_cell HP2.out.box 2
            obtain ⟨ad, e, hx0, hx1, hx2, hx3, hx4, hx5, hx6⟩ := at_ir HP2.out.code.row k hlt
            subst e
            rw [HX.out] at hx0 hx1 hx2 hx3 hx4 hx5 hx6
            obtain ⟨op, dst, a1, b1, cc, n1, m1⟩ := x
            go_wp2_with fail
            refine (defs_calls' HD.out _).mono ?_
            rintro e w5 ⟨rfl, hb⟩
            have HP3 := Aside0.mk (HP2.out.below hb)
            clear hb hb2 hx0 hx1 hx2 hx3 hx4 hx5 hx6 HP2 HWC
            have hb2 := blk_cell HP3.out.box 2
            obtain ⟨ad2, e, hx0, hx1, hx2, hx3, hx4, hx5, hx6⟩ := at_ir HP3.out.code.row k hlt
            cases e
            rw [HX.out] at hx0 hx1 hx2 hx3 hx4 hx5 hx6
            have hul := uses_len op a1 b1 cc
            obtain ⟨s0, hs0⟩ : ∃ s0, s0 = clr S d := ⟨_, rfl⟩
            have HS0 := Aside0.mk hs0.symm
            by_cases hd : 0 ≤ d
            · have hdb : decide (0 ≤ d) = true := decide_eq_true hd
              have hsd : Go.bits .andNot .i64 S (wrap64 (2 ^ d.toNat)) = s0 := by rw [hs0]; unfold clr; rw [if_pos hd, shl_bit (by omega)]
              have HSD := Aside0.mk hsd
              clear hs0 hsd
              go_wp2_with (go_at_call 23; refine (uses_calls _ _ _ _ _ _ _ _).mono ?_; rintro e w6 ⟨v6, rfl, hR, hb⟩; have HP4 := Aside0.mk (HP3.out.below hb); obtain ⟨A3, c3, rfl, hc3, hC3⟩ := Kd.R_reads hR; have HC3 := Aside0.mk hC3; clear hb hR hC3 hx0 hx1 hx2 hx3 hx4 hx5 hx6 hb2)
              rw [HSD.out]
              go_loop [16, 19] (fun sv iv => ∃ q : Nat, q ≤ (uses op a1 b1 cc).length ∧ iv = .int .i64 q ∧ sv = .int .i64 (bitL ((uses op a1 b1 cc).take q) s0)) (fun _ iv => (uses op a1 b1 cc).length - (intOf iv).toNat)
              case atStart => exact ⟨0, Nat.zero_le _, rfl, rfl⟩
              case round =>
                obtain ⟨q3, hq3, rfl, rfl⟩ := hrel
                by_cases hql3 : q3 < (uses op a1 b1 cc).length
                · obtain ⟨adw, e, hqc⟩ := Kd.at_int HC3.out (q3 : Int) (by omega) (by omega)
                  subst e
                  rw [Int.toNat_natCast] at hqc
                  obtain ⟨h0, h1⟩ := HUSE.out _ (rd_mem hql3)
                  have HSN := Aside0.mk (show bitL ((uses op a1 b1 cc).take (q3 + 1)) s0 = Go.bits .or .i64 (bitL ((uses op a1 b1 cc).take q3) s0) (wrap64 (2 ^ (rd (uses op a1 b1 cc) (q3 : Int)).toNat)) by rw [take_snoc hql3, bitL_snoc, shl_bit (by omega)])
                  go_wp2_with fail
                  go_round
                  case rel => exact ⟨q3 + 1, by omega, by go_num, by rw [HSN.out]⟩
                  case measure => first | (simp [intOf]; done) | (simp [intOf]; omega)
                · have hse : bitL ((uses op a1 b1 cc).take q3) s0 = T := by rw [show q3 = (uses op a1 b1 cc).length by omega, List.take_length, HT.out, HS0.out]
                  rw [hse]
                  clear hse
                  obtain ⟨ada, ea, haa⟩ := Kd.at_int HP4.out.ra (k : Int) (by omega) (by have := HL.out.la; omega)
                  obtain ⟨adf, ef, haf⟩ := Kd.at_int HP4.out.rf (k : Int) (by omega) (by have := HL.out.lf; omega)
                  subst ea
                  subst ef
                  rw [Int.toNat_natCast] at haa haf
                  rw [HRA.out] at haa
                  rw [HRF.out] at haf
                  go_wp2_with fail
                  go_roundw
                  case rel => exact ⟨k + 1, by omega, by go_num, HP4⟩
                  case measure => simp [intOf]; omega
            · have hdb : decide (0 ≤ d) = false := decide_eq_false hd
              have hsd : S = s0 := by rw [hs0]; unfold clr; rw [if_neg hd]
              clear hs0
              have HSD := Aside0.mk hsd
              clear hsd
              go_wp2_with (go_at_call 23; refine (uses_calls _ _ _ _ _ _ _ _).mono ?_; rintro e w6 ⟨v6, rfl, hR, hb⟩; have HP4 := Aside0.mk (HP3.out.below hb); obtain ⟨A3, c3, rfl, hc3, hC3⟩ := Kd.R_reads hR; have HC3 := Aside0.mk hC3; clear hb hR hC3 hx0 hx1 hx2 hx3 hx4 hx5 hx6 hb2)
              go_loop [16, 19] (fun sv iv => ∃ q : Nat, q ≤ (uses op a1 b1 cc).length ∧ iv = .int .i64 q ∧ sv = .int .i64 (bitL ((uses op a1 b1 cc).take q) S)) (fun _ iv => (uses op a1 b1 cc).length - (intOf iv).toNat)
              case atStart => exact ⟨0, Nat.zero_le _, rfl, rfl⟩
              case round =>
                obtain ⟨q3, hq3, rfl, rfl⟩ := hrel
                by_cases hql3 : q3 < (uses op a1 b1 cc).length
                · obtain ⟨adw, e, hqc⟩ := Kd.at_int HC3.out (q3 : Int) (by omega) (by omega)
                  subst e
                  rw [Int.toNat_natCast] at hqc
                  obtain ⟨h0, h1⟩ := HUSE.out _ (rd_mem hql3)
                  have HSN := Aside0.mk (show bitL ((uses op a1 b1 cc).take (q3 + 1)) S = Go.bits .or .i64 (bitL ((uses op a1 b1 cc).take q3) S) (wrap64 (2 ^ (rd (uses op a1 b1 cc) (q3 : Int)).toNat)) by rw [take_snoc hql3, bitL_snoc, shl_bit (by omega)])
                  go_wp2_with fail
                  go_round
                  case rel => exact ⟨q3 + 1, by omega, by go_num, by rw [HSN.out]⟩
                  case measure => first | (simp [intOf]; done) | (simp [intOf]; omega)
                · have hse : bitL ((uses op a1 b1 cc).take q3) S = T := by rw [show q3 = (uses op a1 b1 cc).length by omega, List.take_length, HT.out, HS0.out, HSD.out]
                  rw [hse]
                  clear hse
                  obtain ⟨ada, ea, haa⟩ := Kd.at_int HP4.out.ra (k : Int) (by omega) (by have := HL.out.la; omega)
                  obtain ⟨adf, ef, haf⟩ := Kd.at_int HP4.out.rf (k : Int) (by omega) (by have := HL.out.lf; omega)
                  subst ea
                  subst ef
                  rw [Int.toNat_natCast] at haa haf
                  rw [HRA.out] at haa
                  rw [HRF.out] at haf
                  go_wp2_with fail
                  go_roundw
                  case rel => exact ⟨k + 1, by omega, by go_num, HP4⟩
                  case measure => simp [intOf]; omega
      · go_wp2_with fail
        refine (clash_calls HS.out (fun _ => HL.out.lf) (fun _ => hc60) A cap a b _ HP1.out.code).mono ?_
        rintro e w5 ⟨rfl, hb⟩
        have HP2 := Aside0.mk (HP1.out.below hb)
        clear hb hbx0 hbx1 hbx2 hbx3 HP1
        have hbx0 := blk_cell HP2.out.box 0
        have hbx1 := blk_cell HP2.out.box 1
        have hbx2 := blk_cell HP2.out.box 2
        have hbx3 := blk_cell HP2.out.box 3
        go_wp2_with fail
        refine (clash_calls HS.out (fun _ => HL.out.lf) (fun _ => hc60) A cap b a _ HP2.out.code).mono ?_
        rw [← clash_turn]
        rintro e w6 ⟨rfl, hb⟩
        have HD := Aside0.mk (HP2.out.below hb).bel
        clear hb hbx0 hbx1 hbx2 hbx3 HP2
        go_wp2_with fail
        go_ret
        exact ⟨rfl, HD.out⟩
  · have hbx0 := blk_cell HP.out.box 0
    have hbx1 := blk_cell HP.out.box 1
    have hbx2 := blk_cell HP.out.box 2
    have hbx3 := blk_cell HP.out.box 3
    go_wp2_with (go_at_call 20; refine (fits_calls c A cap _ HP.out.code).mono ?_; rw [hfit]; rintro e w4 ⟨rfl, hb⟩; have HD := Aside0.mk (HP.out.below hb).bel; clear hb)
    go_ret
    exact ⟨rfl, HD.out⟩
end Go.Proofs.Ytdcmeefeinppnaa.Live
