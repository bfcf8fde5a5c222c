/- The reference's Both, walked. -/
import Derived.Test.YtdcmeefeinppnaaRBoth
namespace Go.Proofs.Ytdcmeefeinppnaa.Live
open Go.RowKit Go.Proofs.YtdcmeefeinppnaaW.PrintWords Go.Proofs.YtdcmeefeinppnaaW.PrintLast Go.Proofs.YtdcmeefeinppnaaW.PrintMore Go.Proofs.Ytdcmeefeinppnaa.Mem Go.Proofs.Ytdcmeefeinppnaa.Ir
open Uses (uses)
set_option linter.unusedVariables false
set_option linter.unusedSimpArgs false

def BothOut (w : World) (ah af : List Int) (ok : Bool) (e : Ending) (w' : World) : Prop :=
  ∃ A1 c1 A2 c2, e = .returned (.tuple #[.slice A1 af.length c1, .slice A2 ah.length c2, .bool ok]) ∧ (Kd.int .i64).C w' A1 af.length af ∧ (Kd.int .i64).C w' A2 ah.length ah ∧ Below w.heap.size w w'

set_option maxHeartbeats 4000000 in
set_option maxRecDepth 100000 in
theorem both_no (c : Cod) (A : Option Addr) (cap : Nat) (w : World) (hC : CodeAt w c A cap) (hf : fits c = false) : Calls Try.prog 16 #[.agg (c.vals A cap)] w (BothOut w [] [] false) := by
  have HP := Aside0.mk (Rf.init hC)
  clear hC
  go_enter Try.func16, Try.ntmps16
  go_wp2_with (go_at_call 21; refine (rfits_calls c A cap _ HP.out.code).mono ?_; rw [hf]; rintro e w1 ⟨rfl, hb⟩; have HP1 := Aside0.mk (HP.out.below hb); clear hb)
  exact bodyPost_ret (v := .tuple #[.slice none 0 0, .slice none 0 0, .bool false]) (by simp [results, Try.results16, go_sem]) rfl ⟨_, _, _, _, rfl, Kd.C_nil _ _, Kd.C_nil _ _, HP1.out.bel⟩

set_option maxHeartbeats 4000000 in
set_option maxRecDepth 100000 in
theorem both_yes (c : Cod) (A : Option Addr) (cap : Nat) (w : World) (hC : CodeAt w c A cap) (hf : fits c = true) (rh rf : List Int) (hl : LiveIs c rh rf) (k : Nat) (hk : iterS c (waysOf c) k (List.replicate c.body.length 0) (List.replicate c.body.length 0) = some (rh, rf)) :
    Calls Try.prog 16 #[.agg (c.vals A cap)] w (BothOut w rh rf true) := by
  have hn1 : c.body.length ≤ 1000 := (fits_head hf).2.2.2.2
  have HC := Aside0.mk hC
  have HF := Aside0.mk (fine_of_fits hf)
  have HL := Aside0.mk hl
  have HK := Aside0.mk hk
  have HP := Aside0.mk (Rf.init hC)
  have hmk := make_ints c.body.length (by omega)
  have hmr := make_rows c.body.length (by omega)
  clear hC hl hk
  go_enter Try.func16, Try.ntmps16
  go_wp2_with (go_at_call 21; refine (rfits_calls c A cap _ HP.out.code).mono ?_; rw [hf]; rintro e w1 ⟨rfl, hb⟩; have HP1 := Aside0.mk (HP.out.below hb); have hb2 := blk_cell HP1.out.box 2; have hlt1 : w.heap.size < w1.heap.size := Nat.lt_of_lt_of_le (by omega) HP1.out.sz; have hlt2 : w.heap.size < w1.heap.size + 1 := Nat.lt_succ_of_lt hlt1; clear hb)
  have HB0 := Aside0.mk (bo_make HP1.out (.cells (Array.replicate c.body.length (.slice none 0 0)) 26))
  have HZ0 := Aside0.mk (wz_make ((w1.alloc (.cells (Array.replicate c.body.length (.int .i64 0)) 3)).alloc (.cells (Array.replicate c.body.length (.int .i64 0)) 3)) c.body.length (by omega))
  obtain ⟨W0, hW⟩ : ∃ W0, W0 = ((w1.alloc (.cells (Array.replicate c.body.length (.int .i64 0)) 3)).alloc (.cells (Array.replicate c.body.length (.int .i64 0)) 3)).alloc (.cells (Array.replicate c.body.length (.slice none 0 0)) 26) := ⟨_, rfl⟩
  rw [← hW] at HB0 HZ0 ⊢
  simp only [World.size_alloc] at HZ0
  clear hW hmk hmr hb2 hlt1 hlt2 HP
  obtain ⟨gw, egw⟩ : ∃ gw, gw = w1.heap.size + 1 + 1 := ⟨_, rfl⟩
  rw [← egw] at HB0 HZ0 ⊢
  obtain ⟨gh, egh⟩ : ∃ gh, gh = w1.heap.size + 1 := ⟨_, rfl⟩
  rw [← egh] at HB0 ⊢
  obtain ⟨ga, ega⟩ : ∃ ga, ga = w1.heap.size := ⟨_, rfl⟩
  rw [← ega] at HB0 ⊢
  clear egw egh ega HP1
  go_loopw [9] (fun iv wr => ∃ q : Nat, q ≤ c.body.length ∧ iv = .int .i64 q ∧ Aside0 (Bo w wr c A cap ga gh gw (List.replicate c.body.length 0) (List.replicate c.body.length 0)) ∧ Aside0 (Wz wr c.body.length gw gw (fillW c (labs c.body c.body.length).1 q))) (fun iv _ => c.body.length - (intOf iv).toNat)
  case atStart => exact ⟨0, Nat.zero_le _, rfl, HB0, ⟨by rw [fillW_zero]; exact HZ0.out⟩⟩
  case round =>
    obtain ⟨q, hq, rfl, HB, HZ⟩ := hrel
    clear HB0 HZ0
    have hb0 := blk_cell HB.out.box 0
    have hb1 := blk_cell HB.out.box 1
    have hb2 := blk_cell HB.out.box 2
    have hb3 := blk_cell HB.out.box 3
    by_cases hlt : q < c.body.length
    · have HNT := Aside0.mk (show nextTop c (q : Int) = nextOf c (labs c.body c.body.length).1 q by unfold nextTop; rw [if_neg (by omega)]; rfl)
      go_wp2_with (go_at_call 19; refine (rnext_calls c A cap (q : Int) _ (HC.out.below HB.out.bel)).mono ?_; rw [HNT.out]; rintro e w4 ⟨v4, rfl, hR, hb⟩; obtain ⟨A5, c5, e5⟩ := Kd.R_slice hR; subst e5; have HB4 := Aside0.mk (HB.out.below hb); have HZ4 := Aside0.mk (HZ.out.below hb); have hgf := HZ4.out.free hlt; obtain ⟨A4, c4, hgq, _⟩ := HZ4.out.at_ q hlt; have HR4 := Aside0.mk (Kd.R_lower hR HB.out.sz); clear hb hR)
      go_roundw
      case rel => exact ⟨q + 1, by omega, by go_num, ⟨HB4.out.up (Nat.le_refl _) _⟩, ⟨by rw [← fillW_succ]; exact HZ4.out.set hlt HR4.out⟩⟩
      case measure => simp [intOf]; omega
    · have hqq : q = c.body.length := by omega
      have HZ1 := Aside0.mk (show Wz wr c.body.length gw gw (waysOf c) by have h := HZ.out; rw [hqq, fillW_all] at h; exact h)
      clear HZ hqq
      go_wp2_with fail
      go_loopg [10] (k + 2) (fun kq cv wl => ∃ (X Y : List Int) (ch : Bool), cv = .bool ch ∧ Aside0 (St c rh rf kq X Y ch) ∧ Aside0 (Bo w wl c A cap ga gh gw X Y) ∧ Aside0 (Wz wl c.body.length gw gw (waysOf c)))
      case atStart => exact ⟨_, _, true, rfl, ⟨rfl, HK.out⟩, HB, HZ1⟩
      case round =>
        obtain ⟨X, Y, ch, rfl, HS, HB2, HZ2⟩ := hrel
        clear HB HZ1 hb0 hb1 hb2 hb3
        cases gk with
        | zero =>
          obtain ⟨rfl, rfl, rfl⟩ := HS.out
          go_wp2_with fail
          exact bodyPost_ret (v := .tuple #[.slice (some ⟨ga, 0, none⟩) c.body.length c.body.length, .slice (some ⟨gh, 0, none⟩) c.body.length c.body.length, .bool true]) (by simp [results, Try.results16, go_sem]) rfl ⟨some ⟨ga, 0, none⟩, c.body.length, some ⟨gh, 0, none⟩, c.body.length, by rw [HB2.out.nf, HB2.out.nh], C_ints _ (by rw [HB2.out.nf]; omega) HB2.out.rf, C_ints _ (by rw [HB2.out.nh]; omega) HB2.out.rh, HB2.out.bel⟩
        | succ g =>
          obtain ⟨rfl, X', Y', fl, hr, g', hg', hst⟩ := HS.out.pass HL.out
          have HR := Aside0.mk hr
          have HST := Aside0.mk hst
          clear HS hr hst
          have hb2 := blk_cell HB2.out.box 2
          go_wp2_with fail
          clear hb2
          go_loopw [10, 11] (fun cv iv wr => ∃ (z : Int) (X1 Y1 : List Int) (ch : Bool), cv = .bool ch ∧ iv = .int .i64 z ∧ -1 ≤ z ∧ z < c.body.length ∧ Aside0 (rpassN c (waysOf c) (z + 1).toNat X1 Y1 ch = (X', Y', fl)) ∧ Aside0 (Bo w wr c A cap ga gh gw X1 Y1) ∧ Aside0 (Wz wr c.body.length gw gw (waysOf c))) (fun _ iv _ => (intOf iv + 1).toNat)
          case atStart => exact ⟨(c.body.length : Int) - 1, X, Y, false, rfl, rfl, by omega, by omega, ⟨by rw [show ((c.body.length : Int) - 1 + 1).toNat = c.body.length by omega]; exact HR.out⟩, HB2, HZ2⟩
          case round =>
            obtain ⟨z, X1, Y1, ch, rfl, rfl, hz0, hz1, HR1, HB3, HZ3⟩ := hrel
            clear HB2 HZ2 HR
            by_cases hz : 0 ≤ z
            · obtain ⟨j, rfl⟩ := Int.eq_ofNat_of_zero_le hz
              have hj : j < c.body.length := by omega
              obtain ⟨ad, e, hx0, hx1, hx2, hx3, hx4, hx5, hx6⟩ := at_ir (Kd.C_below HC.out.row HB3.out.bel) j hj
              subst e
              have hb2 := blk_cell HB3.out.box 2
              have hway := HF.out.way j hj
              have hlen := HF.out.len j hj
              have huse := HF.out.use j hj
              have hdfs := HF.out.dfs j hj
              have hrr : rpassN c (waysOf c) j (X1.set j (stepT c (waysOf c) X1 j)) (Y1.set j (stepS (waysOf c) X1 j)) (ch || (stepS (waysOf c) X1 j != rd Y1 j || stepT c (waysOf c) X1 j != rd X1 j)) = (X', Y', fl) := by
                have h := HR1.out
                rw [show ((j : Int) + 1).toNat = j + 1 by omega] at h
                exact h
              have hcs := can_stepS (waysOf c) X1 j
              have HT : Aside0 (stepT c (waysOf c) X1 j = bitL (uses (atIr c.body j).op (atIr c.body j).a (atIr c.body j).b (atIr c.body j).c) (clr (stepS (waysOf c) X1 j) (defs (atIr c.body j)))) := ⟨rfl⟩
              have HSS : Aside0 (stepS (waysOf c) X1 j = orL X1 ((waysOf c).getD j []) 0) := ⟨rfl⟩
              obtain ⟨T, hT⟩ : ∃ T, stepT c (waysOf c) X1 j = T := ⟨_, rfl⟩
              obtain ⟨S, hS⟩ : ∃ S, stepS (waysOf c) X1 j = S := ⟨_, rfl⟩
              rw [hT, hS] at hrr HT
              rw [hS] at HSS hcs
              have HRR := Aside0.mk hrr
              have HCS := Aside0.mk hcs
              clear hrr hT hS HR1 hcs
              obtain ⟨x, hx⟩ : ∃ x, atIr c.body j = x := ⟨_, rfl⟩
              rw [hx] at hx0 hx1 hx2 hx3 hx4 hx5 hx6 HT huse hdfs
              clear hx
              obtain ⟨op, dst, a, b, cc, n, m⟩ := x
              obtain ⟨wj, hwjl⟩ : ∃ wj, (waysOf c).getD j [] = wj := ⟨_, rfl⟩
              rw [hwjl] at hway hlen HSS
              have HWJ := Aside0.mk hwjl
              have HWAY := Aside0.mk hway
              have hul := uses_len op a b cc
              obtain ⟨us, hus⟩ : ∃ us, uses op a b cc = us := ⟨_, rfl⟩
              simp only [] at HT huse
              rw [hus] at hul HT huse
              have HUS := Aside0.mk hus
              have HUSE := Aside0.mk huse
              obtain ⟨d, hd⟩ : ∃ d, defs ⟨op, dst, a, b, cc, n, m⟩ = d := ⟨_, rfl⟩
              rw [hd] at HT hdfs
              have HD := Aside0.mk hd
              clear hway huse hd hwjl hus
              go_wp2_with fail
              have HB4 := Aside0.mk (HB3.out.below ((Below.refl _ _).alloc (Nat.le_refl _) (.cells #[.int .i64 op, .int .i64 dst, .int .i64 a, .int .i64 b, .int .i64 cc, .int .i64 n, .int .i64 m] 38)))
              have HZ4 := Aside0.mk (HZ3.out.below ((Below.refl _ _).alloc (Nat.le_refl _) (.cells #[.int .i64 op, .int .i64 dst, .int .i64 a, .int .i64 b, .int .i64 cc, .int .i64 n, .int .i64 m] 38)))
              have HXB := Aside0.mk (blk_new wr (.cells #[.int .i64 op, .int .i64 dst, .int .i64 a, .int .i64 b, .int .i64 cc, .int .i64 n, .int .i64 m] 38))
              obtain ⟨W5, hW5⟩ : ∃ W5, W5 = wr.alloc (.cells #[.int .i64 op, .int .i64 dst, .int .i64 a, .int .i64 b, .int .i64 cc, .int .i64 n, .int .i64 m] 38) := ⟨_, rfl⟩
              rw [← hW5] at HB4 HZ4 HXB ⊢
              obtain ⟨bx, hbx⟩ : ∃ bx, wr.heap.size = bx := ⟨_, rfl⟩
              rw [hbx] at HXB ⊢
              clear hW5 hbx HB3 HZ3 hx0 hx1 hx2 hx3 hx4 hx5 hx6 hb2
              obtain ⟨Aw, cw, hwj, hCi⟩ := HZ4.out.at_ j hj
              rw [HWJ.out] at hwj hCi
              have HWC := Aside0.mk hCi
              clear hCi
              go_loop [13, 14] (fun sv iv => ∃ q : Nat, q ≤ wj.length ∧ iv = .int .i64 q ∧ sv = .int .i64 (orL X1 (wj.take q) 0)) (fun _ iv => wj.length - (intOf iv).toNat)
              case atStart => exact ⟨0, Nat.zero_le _, rfl, rfl⟩
              case round =>
                obtain ⟨q, hq, rfl, rfl⟩ := hrel
                by_cases hql : q < wj.length
                · obtain ⟨adw, e, hqc⟩ := Kd.at_int HWC.out (q : Int) (by omega) (by omega)
                  subst e
                  rw [Int.toNat_natCast] at hqc
                  obtain ⟨h0, h1⟩ := HWAY.out _ (rd_mem hql)
                  obtain ⟨kn, hkn⟩ := Int.eq_ofNat_of_zero_le h0
                  have HSN := Aside0.mk (show orL X1 (wj.take (q + 1)) 0 = Go.bits .or .i64 (orL X1 (wj.take q) 0) (rd X1 (kn : Int)) by rw [take_snoc hql, orL_snoc, hkn])
                  rw [hkn] at hqc h1
                  have hak := cell_row HB4.out.rh kn (by rw [HB4.out.nh]; omega)
                  clear h0 hkn
                  go_wp2_with fail
                  go_round
                  case rel => exact ⟨q + 1, by omega, by go_num, by rw [HSN.out]⟩
                  case measure => simp [intOf]; omega
                · have hse : orL X1 (wj.take q) 0 = S := by rw [show q = wj.length by omega, List.take_length]; exact HSS.out.symm
                  rw [hse]
                  clear hse
                  have hx0 := blk_cell HXB.out 0
                  have hx1 := blk_cell HXB.out 1
                  have hx2 := blk_cell HXB.out 2
                  have hx3 := blk_cell HXB.out 3
                  have hx4 := blk_cell HXB.out 4
                  have hx5 := blk_cell HXB.out 5
                  have hx6 := blk_cell HXB.out 6
                  go_wp2_with fail
                  refine (rdefs_calls' HD.out _).mono ?_
                  rintro e w6 ⟨rfl, hb⟩
                  have HB5 := Aside0.mk (HB4.out.below hb)
                  have HZ5 := Aside0.mk (HZ4.out.below hb)
                  have hxb := blk_below HXB.out hb
                  clear hb hx0 hx1 hx2 hx3 hx4 hx5 hx6 HB4 HZ4 hwj HWC HXB
                  have hx0 := blk_cell hxb 0
                  have hx1 := blk_cell hxb 1
                  have hx2 := blk_cell hxb 2
                  have hx3 := blk_cell hxb 3
                  have hx4 := blk_cell hxb 4
                  have hx5 := blk_cell hxb 5
                  have hx6 := blk_cell hxb 6
                  have hne1 := HB5.out.ne
                  have hne2 := hne1.symm
                  have hlga := HB5.out.la
                  have hlgh := HB5.out.lh
                  by_cases hd : 0 ≤ d
                  · have hdb : decide (0 ≤ d) = true := decide_eq_true hd
                    have HE := Aside0.mk (show Go.bits .or .i64 (Go.bits .andNot .i64 S (wrap64 (2 ^ d.toNat))) (bitL us 0) = T by
                      have h1 : clr S d = Go.bits .andNot .i64 S (wrap64 (2 ^ d.toNat)) := by unfold clr; rw [if_pos hd, shl_bit (by omega)]
                      rw [← h1, or_set (can_clr HCS.out d), HT.out])
                    by_cases hs : S = rd Y1 (j : Int)
                    · have hsb : (S != rd Y1 (j : Int)) = false := by simpa using hs
                      by_cases ht : T = rd X1 (j : Int)
                      · have htb : (Go.bits .or .i64 (Go.bits .andNot .i64 S (wrap64 (2 ^ d.toNat))) (bitL us 0) != rd X1 (j : Int)) = false := by rw [HE.out]; simpa using ht
                        have HFL := Aside0.mk (show (ch || (S != rd Y1 (j : Int) || T != rd X1 (j : Int))) = ch by rw [hsb, show (T != rd X1 (j : Int)) = false by simpa using ht]; simp)
                        clear hs ht
                        go_wp2_with (first | (go_at_call 44; refine (ruses_calls _ _ _ _ _ _ _ _).mono ?_; rw [HUS.out]; rintro e w7 ⟨v7, rfl, hR, hb⟩; have HB6 := Aside0.mk (HB5.out.below hb); have HZ6 := Aside0.mk (HZ5.out.below hb); obtain ⟨A3, c3, rfl, hc3, hC3⟩ := Kd.R_reads hR; have HC3 := Aside0.mk hC3; have hka := cell_row HB6.out.rf j (by rw [HB6.out.nf]; exact hj); have hkh := cell_row HB6.out.rh j (by rw [HB6.out.nh]; exact hj); have hfa := blk_frozen HB6.out.rf j; have hfh := blk_frozen HB6.out.rh j; clear hb hR hC3 hx0 hx1 hx2 hx3 hx4 hx5 hx6 hxb) | (go_at_call 43; refine (set_calls A3 c3 us _ HC3.out (by omega) HUSE.out).mono ?_; rintro e w8 ⟨rfl, rfl⟩))
                        go_roundw
                        case rel => exact ⟨(j : Int) - 1, X1.set j T, Y1.set j S, ch, rfl, rfl, by omega, by omega, ⟨by rw [show ((j : Int) - 1 + 1).toNat = j by omega]; have h := HRR.out; rw [HFL.out] at h; exact h⟩, ⟨by rw [← HE.out]; exact (HB6.out.setA j S).setH j _⟩, ⟨(HZ6.out.far (p := ⟨ga, j, none⟩) hlga _).far (p := ⟨gh, j, none⟩) hlgh _⟩⟩
                        case measure => first | (simp [intOf]; done) | (simp [intOf]; omega)
                      · have htb : (Go.bits .or .i64 (Go.bits .andNot .i64 S (wrap64 (2 ^ d.toNat))) (bitL us 0) != rd X1 (j : Int)) = true := by rw [HE.out]; simpa using ht
                        have HFL := Aside0.mk (show (ch || (S != rd Y1 (j : Int) || T != rd X1 (j : Int))) = true by rw [show (T != rd X1 (j : Int)) = true by simpa using ht]; simp)
                        clear hs ht
                        go_wp2_with (first | (go_at_call 44; refine (ruses_calls _ _ _ _ _ _ _ _).mono ?_; rw [HUS.out]; rintro e w7 ⟨v7, rfl, hR, hb⟩; have HB6 := Aside0.mk (HB5.out.below hb); have HZ6 := Aside0.mk (HZ5.out.below hb); obtain ⟨A3, c3, rfl, hc3, hC3⟩ := Kd.R_reads hR; have HC3 := Aside0.mk hC3; have hka := cell_row HB6.out.rf j (by rw [HB6.out.nf]; exact hj); have hkh := cell_row HB6.out.rh j (by rw [HB6.out.nh]; exact hj); have hfa := blk_frozen HB6.out.rf j; have hfh := blk_frozen HB6.out.rh j; clear hb hR hC3 hx0 hx1 hx2 hx3 hx4 hx5 hx6 hxb) | (go_at_call 43; refine (set_calls A3 c3 us _ HC3.out (by omega) HUSE.out).mono ?_; rintro e w8 ⟨rfl, rfl⟩))
                        go_roundw
                        case rel => exact ⟨(j : Int) - 1, X1.set j T, Y1.set j S, true, rfl, rfl, by omega, by omega, ⟨by rw [show ((j : Int) - 1 + 1).toNat = j by omega]; have h := HRR.out; rw [HFL.out] at h; exact h⟩, ⟨by rw [← HE.out]; exact (HB6.out.setA j S).setH j _⟩, ⟨(HZ6.out.far (p := ⟨ga, j, none⟩) hlga _).far (p := ⟨gh, j, none⟩) hlgh _⟩⟩
                        case measure => first | (simp [intOf]; done) | (simp [intOf]; omega)
                    · have hsb : (S != rd Y1 (j : Int)) = true := by simpa using hs
                      have HFL := Aside0.mk (show (ch || (S != rd Y1 (j : Int) || T != rd X1 (j : Int))) = true by rw [hsb]; simp)
                      clear hs
                      go_wp2_with (first | (go_at_call 44; refine (ruses_calls _ _ _ _ _ _ _ _).mono ?_; rw [HUS.out]; rintro e w7 ⟨v7, rfl, hR, hb⟩; have HB6 := Aside0.mk (HB5.out.below hb); have HZ6 := Aside0.mk (HZ5.out.below hb); obtain ⟨A3, c3, rfl, hc3, hC3⟩ := Kd.R_reads hR; have HC3 := Aside0.mk hC3; have hka := cell_row HB6.out.rf j (by rw [HB6.out.nf]; exact hj); have hkh := cell_row HB6.out.rh j (by rw [HB6.out.nh]; exact hj); have hfa := blk_frozen HB6.out.rf j; have hfh := blk_frozen HB6.out.rh j; clear hb hR hC3 hx0 hx1 hx2 hx3 hx4 hx5 hx6 hxb) | (go_at_call 43; refine (set_calls A3 c3 us _ HC3.out (by omega) HUSE.out).mono ?_; rintro e w8 ⟨rfl, rfl⟩))
                      go_roundw
                      case rel => exact ⟨(j : Int) - 1, X1.set j T, Y1.set j S, true, rfl, rfl, by omega, by omega, ⟨by rw [show ((j : Int) - 1 + 1).toNat = j by omega]; have h := HRR.out; rw [HFL.out] at h; exact h⟩, ⟨by rw [← HE.out]; exact (HB6.out.setA j S).setH j _⟩, ⟨(HZ6.out.far (p := ⟨ga, j, none⟩) hlga _).far (p := ⟨gh, j, none⟩) hlgh _⟩⟩
                      case measure => first | (simp [intOf]; done) | (simp [intOf]; omega)
                  · have hdb : decide (0 ≤ d) = false := decide_eq_false hd
                    have HE := Aside0.mk (show Go.bits .or .i64 S (bitL us 0) = T by
                      have h1 : clr S d = S := by unfold clr; rw [if_neg hd]
                      rw [or_set HCS.out, HT.out, h1])
                    by_cases hs : S = rd Y1 (j : Int)
                    · have hsb : (S != rd Y1 (j : Int)) = false := by simpa using hs
                      by_cases ht : T = rd X1 (j : Int)
                      · have htb : (Go.bits .or .i64 S (bitL us 0) != rd X1 (j : Int)) = false := by rw [HE.out]; simpa using ht
                        have HFL := Aside0.mk (show (ch || (S != rd Y1 (j : Int) || T != rd X1 (j : Int))) = ch by rw [hsb, show (T != rd X1 (j : Int)) = false by simpa using ht]; simp)
                        clear hs ht
                        go_wp2_with (first | (go_at_call 44; refine (ruses_calls _ _ _ _ _ _ _ _).mono ?_; rw [HUS.out]; rintro e w7 ⟨v7, rfl, hR, hb⟩; have HB6 := Aside0.mk (HB5.out.below hb); have HZ6 := Aside0.mk (HZ5.out.below hb); obtain ⟨A3, c3, rfl, hc3, hC3⟩ := Kd.R_reads hR; have HC3 := Aside0.mk hC3; have hka := cell_row HB6.out.rf j (by rw [HB6.out.nf]; exact hj); have hkh := cell_row HB6.out.rh j (by rw [HB6.out.nh]; exact hj); have hfa := blk_frozen HB6.out.rf j; have hfh := blk_frozen HB6.out.rh j; clear hb hR hC3 hx0 hx1 hx2 hx3 hx4 hx5 hx6 hxb) | (go_at_call 43; refine (set_calls A3 c3 us _ HC3.out (by omega) HUSE.out).mono ?_; rintro e w8 ⟨rfl, rfl⟩))
                        go_roundw
                        case rel => exact ⟨(j : Int) - 1, X1.set j T, Y1.set j S, ch, rfl, rfl, by omega, by omega, ⟨by rw [show ((j : Int) - 1 + 1).toNat = j by omega]; have h := HRR.out; rw [HFL.out] at h; exact h⟩, ⟨by rw [← HE.out]; exact (HB6.out.setA j S).setH j _⟩, ⟨(HZ6.out.far (p := ⟨ga, j, none⟩) hlga _).far (p := ⟨gh, j, none⟩) hlgh _⟩⟩
                        case measure => first | (simp [intOf]; done) | (simp [intOf]; omega)
                      · have htb : (Go.bits .or .i64 S (bitL us 0) != rd X1 (j : Int)) = true := by rw [HE.out]; simpa using ht
                        have HFL := Aside0.mk (show (ch || (S != rd Y1 (j : Int) || T != rd X1 (j : Int))) = true by rw [show (T != rd X1 (j : Int)) = true by simpa using ht]; simp)
                        clear hs ht
                        go_wp2_with (first | (go_at_call 44; refine (ruses_calls _ _ _ _ _ _ _ _).mono ?_; rw [HUS.out]; rintro e w7 ⟨v7, rfl, hR, hb⟩; have HB6 := Aside0.mk (HB5.out.below hb); have HZ6 := Aside0.mk (HZ5.out.below hb); obtain ⟨A3, c3, rfl, hc3, hC3⟩ := Kd.R_reads hR; have HC3 := Aside0.mk hC3; have hka := cell_row HB6.out.rf j (by rw [HB6.out.nf]; exact hj); have hkh := cell_row HB6.out.rh j (by rw [HB6.out.nh]; exact hj); have hfa := blk_frozen HB6.out.rf j; have hfh := blk_frozen HB6.out.rh j; clear hb hR hC3 hx0 hx1 hx2 hx3 hx4 hx5 hx6 hxb) | (go_at_call 43; refine (set_calls A3 c3 us _ HC3.out (by omega) HUSE.out).mono ?_; rintro e w8 ⟨rfl, rfl⟩))
                        go_roundw
                        case rel => exact ⟨(j : Int) - 1, X1.set j T, Y1.set j S, true, rfl, rfl, by omega, by omega, ⟨by rw [show ((j : Int) - 1 + 1).toNat = j by omega]; have h := HRR.out; rw [HFL.out] at h; exact h⟩, ⟨by rw [← HE.out]; exact (HB6.out.setA j S).setH j _⟩, ⟨(HZ6.out.far (p := ⟨ga, j, none⟩) hlga _).far (p := ⟨gh, j, none⟩) hlgh _⟩⟩
                        case measure => first | (simp [intOf]; done) | (simp [intOf]; omega)
                    · have hsb : (S != rd Y1 (j : Int)) = true := by simpa using hs
                      have HFL := Aside0.mk (show (ch || (S != rd Y1 (j : Int) || T != rd X1 (j : Int))) = true by rw [hsb]; simp)
                      clear hs
                      go_wp2_with (first | (go_at_call 44; refine (ruses_calls _ _ _ _ _ _ _ _).mono ?_; rw [HUS.out]; rintro e w7 ⟨v7, rfl, hR, hb⟩; have HB6 := Aside0.mk (HB5.out.below hb); have HZ6 := Aside0.mk (HZ5.out.below hb); obtain ⟨A3, c3, rfl, hc3, hC3⟩ := Kd.R_reads hR; have HC3 := Aside0.mk hC3; have hka := cell_row HB6.out.rf j (by rw [HB6.out.nf]; exact hj); have hkh := cell_row HB6.out.rh j (by rw [HB6.out.nh]; exact hj); have hfa := blk_frozen HB6.out.rf j; have hfh := blk_frozen HB6.out.rh j; clear hb hR hC3 hx0 hx1 hx2 hx3 hx4 hx5 hx6 hxb) | (go_at_call 43; refine (set_calls A3 c3 us _ HC3.out (by omega) HUSE.out).mono ?_; rintro e w8 ⟨rfl, rfl⟩))
                      go_roundw
                      case rel => exact ⟨(j : Int) - 1, X1.set j T, Y1.set j S, true, rfl, rfl, by omega, by omega, ⟨by rw [show ((j : Int) - 1 + 1).toNat = j by omega]; have h := HRR.out; rw [HFL.out] at h; exact h⟩, ⟨by rw [← HE.out]; exact (HB6.out.setA j S).setH j _⟩, ⟨(HZ6.out.far (p := ⟨ga, j, none⟩) hlga _).far (p := ⟨gh, j, none⟩) hlgh _⟩⟩
                      case measure => first | (simp [intOf]; done) | (simp [intOf]; omega)
            · have hzz : z = -1 := by omega
              subst hzz
              have h2 : (X1, Y1, ch) = (X', Y', fl) := HR1.out
              injection h2 with h2 h3
              injection h3 with h3 h4
              subst h2
              subst h3
              subst h4
              go_wp2_with fail
              go_roundg g'
              case measure => omega
              case rel => exact ⟨_, _, _, rfl, HST, HB3, HZ3⟩
end Go.Proofs.Ytdcmeefeinppnaa.Live
