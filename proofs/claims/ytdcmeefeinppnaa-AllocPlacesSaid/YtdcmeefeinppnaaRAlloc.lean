/- The reference's Alloc: the same places. -/
import Derived.Test.YtdcmeefeinppnaaRMeets
import Derived.Test.YtdcmeefeinppnaaEx17
namespace Go.Proofs.Ytdcmeefeinppnaa.Live
open Go.RowKit Go.Proofs.YtdcmeefeinppnaaW.PrintWords Go.Proofs.YtdcmeefeinppnaaW.PrintLast Go.Proofs.YtdcmeefeinppnaaW.PrintMore Go.Proofs.Ytdcmeefeinppnaa.Mem Go.Proofs.Ytdcmeefeinppnaa.Ir
open Uses (uses UsesOut infoInt)
open MapOf (get put)
set_option linter.unusedVariables false
set_option linter.unusedSimpArgs false

theorem takenR_iff {c : Cod} {ah af l : List Int} {k : Nat} {p : Int} : ∀ n, takenR c ah af l k p n = true ↔ ∃ i : Nat, i < n ∧ rd l (i : Int) = p ∧ meetsR c ah af i k = true := by
  intro n
  induction n with
  | zero => simp [takenR]
  | succ n ih =>
    unfold takenR
    simp only [Bool.or_eq_true, Bool.and_eq_true, decide_eq_true_eq, ih]
    constructor
    · rintro (⟨i, h1, h2⟩ | ⟨h1, h2⟩)
      · exact ⟨i, by omega, h2⟩
      · exact ⟨n, by omega, h1, h2⟩
    · rintro ⟨i, h1, h2⟩
      rcases Nat.lt_or_ge i n with h | h
      · exact .inl ⟨i, h, h2⟩
      · obtain rfl : i = n := by omega
        exact .inr h2
theorem taken_get {c : Cod} {ah af P : List Int} {nn k : Nat} {p : Int} (hf : fits c = true) (hcn : c.cells = (nn : Int)) (hP : P.length = nn) (hk : k < nn) : takenR c ah af (P.take k) k p k = (get (tkM (meetM c ah af nn) P (k : Int) k) p).getD false := by
  rw [Bool.eq_iff_iff, takenR_iff, tkM_get]
  constructor
  · rintro ⟨i, h1, h2, h3⟩
    refine ⟨i, h1, ?_, by rw [← rd_take h1]; exact h2⟩
    rw [clM_clash hf hcn (by omega) hk (by omega)]
    unfold meetsR at h3
    simp only [Bool.and_eq_true] at h3
    exact h3.2
  · rintro ⟨i, h1, h2, h3⟩
    refine ⟨i, h1, by rw [rd_take h1]; exact h3, ?_⟩
    rw [clM_clash hf hcn (by omega) hk (by omega)] at h2
    unfold meetsR
    rw [h2]
    simp; omega
theorem inB_nought (s : Int) (k : Nat) : (Go.bits .and .i64 (s / 2 ^ k) 1 == 0) = !inB s (k : Int) := by
  unfold inB
  rw [Int.toNat_natCast]
  cases h : (Go.bits .and .i64 (s / 2 ^ k) 1 == 0) <;> simp [bne, h]
structure Ra (w V W : World) (c : Cod) (A : Option Addr) (cap : Nat) (Aa Af : Option Addr) (ah af : List Int) (v : Value) (xs : List Int) : Prop where
  m : Me w V c A cap Aa Af ah af
  b : Below V.heap.size V W
  row : (Kd.int .i64).R 3 W V.heap.size (fun _ => True) v xs
theorem Ra.below {w V W W1 : World} {c : Cod} {A : Option Addr} {cap : Nat} {Aa Af : Option Addr} {ah af : List Int} {v : Value} {xs : List Int} (h : Ra w V W c A cap Aa Af ah af v xs) (hb : Below W.heap.size W W1) : Ra w V W1 c A cap Aa Af ah af v xs := ⟨h.m, h.b.trans (hb.mono h.b.size), Kd.R_below h.row hb⟩
def RAllocOut (w : World) (l : List Int) (ok : Bool) (e : Ending) (w' : World) : Prop := ∃ v, e = .returned (.tuple #[v, .bool ok]) ∧ (Kd.int .i64).R 3 w' w.heap.size (fun _ => True) v l ∧ Below w.heap.size w w'
set_option maxHeartbeats 8000000 in
set_option maxRecDepth 100000 in
theorem ralloc_yes (c : Cod) (A : Option Addr) (cap : Nat) (w : World) (hC : CodeAt w c A cap) {ah af : List Int} (hS : SetsIs c ah af 0) (hf : fits c = true) (hl : LiveIs c ah af) (nn : Nat) (hcn : c.cells = (nn : Int)) :
    Calls Try.prog 27 #[.agg (c.vals A cap)] w (RAllocOut w (allocL c ah af nn) true) := by
  have HP := Aside0.mk (Rf.init hC)
  have hs := hC.small
  have hh := fits_head hf
  have HF := Aside0.mk hf
  have HL := Aside0.mk hl
  have HCN := Aside0.mk hcn
  have hnn : nn ≤ 60 := by omega
  have HCR := Aside0.mk (fun w (hC : CodeAt w c A cap) => rcross_calls c A cap w hC hS (.inl ⟨rfl, hf, hl⟩))
  have HNM := Aside0.mk (fun w (hC : CodeAt w c A cap) => rnamed_calls c A cap w hC)
  have HBO := Aside0.mk (fun w (hC : CodeAt w c A cap) => both_calls c A cap w hC hS (.inl ⟨rfl, hf, hl⟩))
  unfold CrossOut at HCR
  unfold NamedOut at HNM
  rw [hf] at HCR HNM HBO
  simp only [if_true] at HCR HNM
  clear hC hf hl hcn hh hS
  obtain ⟨cr, hcr⟩ : ∃ cr, crossS c af c.body.length = cr := ⟨_, rfl⟩
  obtain ⟨nm, hnm⟩ : ∃ nm, namedN c c.body.length = nm := ⟨_, rfl⟩
  obtain ⟨P, hP⟩ : ∃ P, allocL c ah af nn = P := ⟨_, rfl⟩
  have hPl : P.length = nn := by rw [← hP]; exact allocL_len c ah af nn
  have HAT := Aside0.mk (fun (k : Nat) (hk : k < nn) => allocL_at (c := c) (ah := ah) (af := af) (nn := nn) hk)
  have HBD := Aside0.mk (show Bd P by rw [← hP]; exact alL_bd _ _ _)
  rw [hcr] at HCR
  rw [hnm] at HNM
  rw [hP, hcr, hnm] at HAT
  rw [hP]
  have HPL := Aside0.mk hPl
  clear hcr hnm hP hPl
  go_enter Try.func27, Try.ntmps27
  go_wp2_with fail
  refine (HCR.out _ HP.out.code).mono ?_
  rintro e w1 ⟨rfl, hb⟩
  have HQ := Aside0.mk (HP.out.below hb)
  have hq0 := blk_cell HQ.out.box 0
  have hq1 := blk_cell HQ.out.box 1
  have hq2 := blk_cell HQ.out.box 2
  have hq3 := blk_cell HQ.out.box 3
  clear hb HP HCR
  go_wp2_with fail
  refine (HNM.out _ HQ.out.code).mono ?_
  rintro e w2 ⟨rfl, hb⟩
  have HQ2 := Aside0.mk (HQ.out.below hb)
  clear hb HQ HNM hq0 hq1 hq2 hq3
  have hq0 := blk_cell HQ2.out.box 0
  have hq1 := blk_cell HQ2.out.box 1
  have hq2 := blk_cell HQ2.out.box 2
  have hq3 := blk_cell HQ2.out.box 3
  go_wp2_with fail
  refine (HBO.out _ HQ2.out.code).mono ?_
  rintro e V ⟨Af, cf, Aa, ca, rfl, hCf, hCa, hb⟩
  have HA := Aside0.mk (show Ra w V V c A cap Aa Af ah af (.slice none 0 0) (P.take 0) from ⟨⟨HQ2.out.below hb, hCa, hCf⟩, Below.refl _ _, Kd.R_nil _ _ _ _ _⟩)
  clear hb HQ2 HBO hq0 hq1 hq2 hq3 hCf hCa
  go_wp2_with fail
  go_loopw [11, 12] (fun ov iv wr => ∃ k : Nat, k ≤ nn ∧ iv = .int .i64 k ∧ Aside0 (Ra w V wr c A cap Aa Af ah af ov (P.take k))) (fun _ iv _ => nn - (intOf iv).toNat)
  case atStart => exact ⟨0, Nat.zero_le _, rfl, HA⟩
  case round =>
    obtain ⟨k, hk, rfl, HA1⟩ := hrel
    clear HA
    have HM1 := Aside0.mk (HA1.out.m.below HA1.out.b)
    have hc0 : wr.cell? ⟨w.heap.size, 0, none⟩ = some (.int .i64 (nn : Int)) := by rw [blk_cell HM1.out.f.box 0, ← HCN.out]; rfl
    obtain ⟨Ao, co, rfl⟩ := Kd.R_slice HA1.out.row
    have htk : (P.take k).length = k := by rw [List.length_take, HPL.out]; omega
    rw [htk]
    rw [htk] at HA1
    by_cases hlt : k < nn
    · have HN := Aside0.mk (show P.take (k + 1) = P.take k ++ [rd P (k : Int)] from take_snoc (by rw [HPL.out]; exact hlt))
      have HATK := Aside0.mk (HAT.out k hlt)
      have hno := inB_nought nm k
      cases hnb : inB nm (k : Int) with
      | false =>
        rw [hnb] at hno HATK
        rw [if_neg (by simp)] at HATK
        simp only [Bool.not_false] at hno
        go_wp2_with ((with_reducible refine gate_builtin (b := .append) (xs := #[.tmp 47, .tmp 48]) rfl ?_); at_builtin; refine Kd.R_append (Kd.int .i64) (w0 := wr) V.heap.size rfl (.tmp 47) (.tmp 48) 26 3 (.int .i64 0) 8 rfl Try.underlying26 infoInt rfl (by decide) (by omega) (.slice Ao k co) (P.take k) (-1) [.int .i64 (-1)] (fun _ => True) (fun _ => False) rfl rfl rfl (fun _ hk => hk.elim) (fun _ _ => trivial) HA1.out.row (Below.refl _ _) HA1.out.b.size (by omega) ?_; intro v1 w3 hO hB hg hat; have HA3 := Aside0.mk (Ra.mk HA1.out.m (HA1.out.b.trans hB) hO); obtain ⟨A1, c1, e1⟩ := Kd.R_slice hO; subst e1; clear hO hB hg hat)
        clear hc0
        simp only [List.length_append, List.length_cons, List.length_nil, Nat.zero_add, htk] at HA3 ⊢
        go_roundw
        case rel => exact ⟨k + 1, by omega, by go_num, by rw [HN.out, HATK.out]; exact HA3⟩
        case measure => simp [intOf]; omega
      | true =>
        rw [hnb] at hno HATK
        rw [if_pos rfl] at HATK
        simp only [Bool.not_true] at hno
        have hcb := inB_one cr k
        obtain ⟨R, hR⟩ : ∃ R, placeOf (meetM c ah af nn) P cr k = R := ⟨_, rfl⟩
        have HR := Aside0.mk hR
        rw [hR] at HATK
        clear hR
        have HTC := Aside0.mk (show ∀ (W : World) (hm : Me w W c A cap Aa Af ah af) (hr : (Kd.int .i64).R 3 W V.heap.size (fun _ => True) (.slice Ao k co) (P.take k)) (p : Int), Calls Try.prog 57 #[.agg (c.vals A cap), .slice Af af.length cf, .slice Aa ah.length ca, .slice Ao k co, .int .i64 k, .int .i64 p] W fun e w' => e = .returned (.bool ((get (tkM (meetM c ah af nn) P (k : Int) k) p).getD false)) ∧ Below W.heap.size W w' from fun W hm hr p => by
          have h := taken_calls c A Aa Af Ao cap ca cf co ah af (P.take k) k p W hm.f.code hm.ra hm.rf (Kd.R_reads' hr).2.2 HL.out.lf (by omega) (by rw [htk]; omega)
          rw [htk, taken_get HF.out HCN.out HPL.out hlt] at h
          exact h)
        have HTB := Aside0.mk (show ∀ p : Int, (get (tkM (meetM c ah af nn) P (k : Int) k) p).getD false = true → p ≤ 5 + (k : Int) from fun p h => by
          obtain ⟨i, h1, _, h3⟩ := (tkM_get k).1 h
          have h4 := (HBD.out i (by rw [HPL.out]; omega)).2
          omega)
        have HRP := Aside0.mk (show freeF (tkM (meetM c ah af nn) P (k : Int) k) 100 (if inB cr (k : Int) = true then 6 else 0) = R from HR.out)
        obtain ⟨M, hM⟩ : ∃ M, tkM (meetM c ah af nn) P (k : Int) k = M := ⟨_, rfl⟩
        rw [hM] at HTC HTB HRP
        clear hM HR
        obtain ⟨p0, hp0, hp0b, HP0⟩ : ∃ p0 : Int, p0 = (if inB cr (k : Int) = true then 6 else 0) ∧ 0 ≤ p0 ∧ p0 ≤ 6 := ⟨_, rfl, by split <;> omega, by split <;> omega⟩
        rw [← hp0] at HRP
        cases hci : inB cr (k : Int) with
        | true =>
          rw [hci] at hcb hp0
          rw [if_pos rfl] at hp0
          subst hp0
          go_wp2_with fail
          go_loopw [13] (fun pv w4 => ∃ (p : Int) (f : Nat), pv = .int .i64 p ∧ 0 ≤ p ∧ p ≤ 6 + (k : Int) ∧ 100 ≤ (f : Int) + p ∧ freeF M f p = R ∧ Aside0 (Ra w V w4 c A cap Aa Af ah af (.slice Ao k co) (P.take k))) (fun pv _ => 70 - (intOf pv).toNat)
          case atStart => exact ⟨6, 100, rfl, by omega, by omega, by omega, HRP.out, HA1⟩
          case round =>
            obtain ⟨p, f, rfl, hpn, hp6, hfp, hfr, HA4⟩ := hrel
            have HFR := Aside0.mk hfr
            clear hfr
            have HM4 := Aside0.mk (HA4.out.m.below HA4.out.b)
            have hd0 := blk_cell HM4.out.f.box 0
            have hd1 := blk_cell HM4.out.f.box 1
            have hd2 := blk_cell HM4.out.f.box 2
            have hd3 := blk_cell HM4.out.f.box 3
            obtain ⟨f, rfl⟩ : ∃ g, f = g + 1 := ⟨f - 1, by omega⟩
            cases hgp : (get M p).getD false with
            | true =>
              have HT := Aside0.mk (HTC.out _ HM4.out HA4.out.row p)
              rw [hgp] at HT
              have hp5 := HTB.out p hgp
              have HFN := Aside0.mk (show freeF M f (p + 1) = R from by have h := HFR.out; unfold freeF at h; rw [if_pos hgp] at h; exact h)
              clear hgp
              go_wp2_with fail
              refine HT.out.mono ?_
              rintro e w5 ⟨rfl, hb⟩
              have HA5 := Aside0.mk (HA4.out.below hb)
              clear hb hd0 hd1 hd2 hd3
              go_wp2_with fail
              go_roundw
              case rel => exact ⟨p + 1, f, by go_num, by omega, by omega, by omega, HFN.out, HA5⟩
              case measure => simp [intOf]; omega
            | false =>
              have HT := Aside0.mk (HTC.out _ HM4.out HA4.out.row p)
              rw [hgp] at HT
              have HPR := Aside0.mk (show p = R from by have h := HFR.out; unfold freeF at h; rw [if_neg (by rw [hgp]; simp)] at h; exact h)
              clear hgp
              go_wp2_with fail
              refine HT.out.mono ?_
              rintro e w5 ⟨rfl, hb⟩
              have HA5 := Aside0.mk (HA4.out.below hb)
              clear hb hd0 hd1 hd2 hd3
              go_wp2_with ((with_reducible refine gate_builtin (b := .append) (xs := #[.tmp 64, .tmp 66]) rfl ?_); at_builtin; refine Kd.R_append (Kd.int .i64) (w0 := w5) V.heap.size rfl (.tmp 64) (.tmp 66) 26 3 (.int .i64 0) 8 rfl Try.underlying26 infoInt rfl (by decide) (by omega) (.slice Ao k co) (P.take k) p [.int .i64 p] (fun _ => True) (fun _ => False) rfl rfl rfl (fun _ hk => hk.elim) (fun _ _ => trivial) HA5.out.row (Below.refl _ _) HA5.out.b.size (by omega) ?_; intro v1 w3 hO hB hg hat; have HA3 := Aside0.mk (Ra.mk HA5.out.m (HA5.out.b.trans hB) hO); obtain ⟨A1, c1, e1⟩ := Kd.R_slice hO; subst e1; clear hO hB hg hat)
              clear hc0
              simp only [List.length_append, List.length_cons, List.length_nil, Nat.zero_add, htk] at HA3 ⊢
              go_roundw
              case rel => exact ⟨k + 1, by omega, by go_num, by rw [HN.out, HATK.out, ← HPR.out]; exact HA3⟩
              case measure => simp [intOf]; omega
        | false =>
          rw [hci] at hcb hp0
          rw [if_neg (by simp)] at hp0
          subst hp0
          go_wp2_with fail
          go_loopw [13] (fun pv w4 => ∃ (p : Int) (f : Nat), pv = .int .i64 p ∧ 0 ≤ p ∧ p ≤ 6 + (k : Int) ∧ 100 ≤ (f : Int) + p ∧ freeF M f p = R ∧ Aside0 (Ra w V w4 c A cap Aa Af ah af (.slice Ao k co) (P.take k))) (fun pv _ => 70 - (intOf pv).toNat)
          case atStart => exact ⟨0, 100, rfl, by omega, by omega, by omega, HRP.out, HA1⟩
          case round =>
            obtain ⟨p, f, rfl, hpn, hp6, hfp, hfr, HA4⟩ := hrel
            have HFR := Aside0.mk hfr
            clear hfr
            have HM4 := Aside0.mk (HA4.out.m.below HA4.out.b)
            have hd0 := blk_cell HM4.out.f.box 0
            have hd1 := blk_cell HM4.out.f.box 1
            have hd2 := blk_cell HM4.out.f.box 2
            have hd3 := blk_cell HM4.out.f.box 3
            obtain ⟨f, rfl⟩ : ∃ g, f = g + 1 := ⟨f - 1, by omega⟩
            cases hgp : (get M p).getD false with
            | true =>
              have HT := Aside0.mk (HTC.out _ HM4.out HA4.out.row p)
              rw [hgp] at HT
              have hp5 := HTB.out p hgp
              have HFN := Aside0.mk (show freeF M f (p + 1) = R from by have h := HFR.out; unfold freeF at h; rw [if_pos hgp] at h; exact h)
              clear hgp
              go_wp2_with fail
              refine HT.out.mono ?_
              rintro e w5 ⟨rfl, hb⟩
              have HA5 := Aside0.mk (HA4.out.below hb)
              clear hb hd0 hd1 hd2 hd3
              go_wp2_with fail
              go_roundw
              case rel => exact ⟨p + 1, f, by go_num, by omega, by omega, by omega, HFN.out, HA5⟩
              case measure => simp [intOf]; omega
            | false =>
              have HT := Aside0.mk (HTC.out _ HM4.out HA4.out.row p)
              rw [hgp] at HT
              have HPR := Aside0.mk (show p = R from by have h := HFR.out; unfold freeF at h; rw [if_neg (by rw [hgp]; simp)] at h; exact h)
              clear hgp
              go_wp2_with fail
              refine HT.out.mono ?_
              rintro e w5 ⟨rfl, hb⟩
              have HA5 := Aside0.mk (HA4.out.below hb)
              clear hb hd0 hd1 hd2 hd3
              go_wp2_with ((with_reducible refine gate_builtin (b := .append) (xs := #[.tmp 64, .tmp 66]) rfl ?_); at_builtin; refine Kd.R_append (Kd.int .i64) (w0 := w5) V.heap.size rfl (.tmp 64) (.tmp 66) 26 3 (.int .i64 0) 8 rfl Try.underlying26 infoInt rfl (by decide) (by omega) (.slice Ao k co) (P.take k) p [.int .i64 p] (fun _ => True) (fun _ => False) rfl rfl rfl (fun _ hk => hk.elim) (fun _ _ => trivial) HA5.out.row (Below.refl _ _) HA5.out.b.size (by omega) ?_; intro v1 w3 hO hB hg hat; have HA3 := Aside0.mk (Ra.mk HA5.out.m (HA5.out.b.trans hB) hO); obtain ⟨A1, c1, e1⟩ := Kd.R_slice hO; subst e1; clear hO hB hg hat)
              clear hc0
              simp only [List.length_append, List.length_cons, List.length_nil, Nat.zero_add, htk] at HA3 ⊢
              go_roundw
              case rel => exact ⟨k + 1, by omega, by go_num, by rw [HN.out, HATK.out, ← HPR.out]; exact HA3⟩
              case measure => simp [intOf]; omega
    · have HK := Aside0.mk (show P.take k = P by rw [show k = P.length by rw [HPL.out]; omega, List.take_length])
      go_wp2_with fail
      go_ret2
      exact ⟨_, rfl, by rw [← HK.out]; exact Kd.R_lower HA1.out.row (by have := HA1.out.b.size; have := HA1.out.m.f.bel.size; omega), HA1.out.m.f.bel.trans (HA1.out.b.mono HA1.out.m.f.bel.size)⟩
set_option maxHeartbeats 2000000 in
theorem ralloc_calls (c : Cod) (A : Option Addr) (cap : Nat) (w : World) (hC : CodeAt w c A cap) {ah af : List Int} {er : Int} (hS : SetsIs c ah af er) (hE : er = 0 ∧ fits c = true ∧ LiveIs c ah af ∨ er = 4 ∧ fits c = false ∧ ah = [] ∧ af = []) :
    Calls Try.prog 27 #[.agg (c.vals A cap)] w (RAllocOut w (placesOf c ah af) (fits c)) := by
  rcases hE with ⟨rfl, hf, hl⟩ | ⟨rfl, hf, rfl, rfl⟩
  · have hh := fits_head hf
    have h := ralloc_yes c A cap w hC hS hf hl c.cells.toNat (by omega)
    unfold placesOf
    rw [if_pos hf, hf]
    exact h
  · have he : placesOf c [] [] = [] := by unfold placesOf; rw [if_neg (by rw [hf]; simp)]
    rw [he]
    have HP := Aside0.mk (Rf.init hC)
    have HX := Aside0.mk (rcross_calls c A cap _ HP.out.code hS (.inr ⟨rfl, hf, rfl, rfl⟩))
    have HY := Aside0.mk (fun (W : World) (h : CodeAt W c A cap) => rnamed_calls c A cap W h)
    unfold CrossOut at HX
    unfold NamedOut at HY
    rw [hf] at HX HY
    simp only [if_neg (show ¬(false = true) by simp)] at HX HY
    rw [hf]
    clear hC hf he
    go_enter Try.func27, Try.ntmps27
    go_wp2_with fail
    refine HX.out.mono ?_
    rintro e w1 ⟨rfl, hb⟩
    have HQ := Aside0.mk (HP.out.below hb)
    have hq0 := blk_cell HQ.out.box 0
    have hq1 := blk_cell HQ.out.box 1
    have hq2 := blk_cell HQ.out.box 2
    have hq3 := blk_cell HQ.out.box 3
    clear hb HX HP
    go_wp2_with fail
    refine (HY.out _ HQ.out.code).mono ?_
    rintro e w2 ⟨rfl, hb⟩
    have HQ2 := Aside0.mk (HQ.out.below hb)
    clear hb HQ HY hq0 hq1 hq2 hq3
    go_wp2_with fail
    go_ret2
    exact ⟨_, rfl, Kd.R_nil _ _ _ _ _, HQ2.out.bel⟩
end Go.Proofs.Ytdcmeefeinppnaa.Live
