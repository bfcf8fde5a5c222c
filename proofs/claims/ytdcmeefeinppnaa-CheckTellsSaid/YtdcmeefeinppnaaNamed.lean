/- alloc.Named: which cells are named. -/
import Derived.Test.YtdcmeefeinppnaaCut
import Derived.Test.YtdcmeefeinppnaaLiveEnd
namespace Go.Proofs.Ytdcmeefeinppnaa.Live
open Go.RowKit Go.Proofs.YtdcmeefeinppnaaW.PrintWords Go.Proofs.YtdcmeefeinppnaaW.PrintLast Go.Proofs.YtdcmeefeinppnaaW.PrintMore Go.Proofs.Ytdcmeefeinppnaa.Mem Go.Proofs.Ytdcmeefeinppnaa.Ir
open Uses (uses)
set_option linter.unusedVariables false
set_option linter.unusedSimpArgs false
attribute [local go_sem] max2_int min2_int max_two min_two

def crossS (c : Cod) (af : List Int) : Nat → Int
  | 0 => 0
  | k + 1 => if (atIr c.body k).op = 14 then Go.bits .or .i64 (crossS c af k) (clr (rd af (k : Int)) (atIr c.body k).dst) else crossS c af k
def CrossOut (w : World) (c : Cod) (af : List Int) (v : Value) (e : Ending) (w' : World) : Prop :=
  e = .returned (.tuple #[.int .i64 (if fits c = true then crossS c af c.body.length else 0), v]) ∧ Below w.heap.size w w'
theorem dst_lt {c : Cod} {k : Nat} (hf : fits c = true) (hk : k < c.body.length) (h : (atIr c.body k).op = 14) : (atIr c.body k).dst < 60 := by
  have h1 := okIr_def (fits_ir hf k hk)
  have h2 := fits_head hf
  have h3 : defs (atIr c.body k) = (atIr c.body k).dst := by unfold defs; rw [if_pos (by omega)]
  omega

set_option maxHeartbeats 4000000 in
theorem cross_calls (c : Cod) (A : Option Addr) (cap : Nat) (w : World) (hC : CodeAt w c A cap) {ah af : List Int} {er : Int} (hS : SetsIs c ah af er) (hE : er = 0 ∧ fits c = true ∧ LiveIs c ah af ∨ er = 4 ∧ fits c = false ∧ ah = [] ∧ af = []) :
    Calls Try.prog 29 #[.agg (c.vals A cap)] w (CrossOut w c af (.int .i64 er)) := by
  have HP := Aside0.mk (Rf.init hC)
  have hs := hC.small
  clear hC
  unfold CrossOut
  rcases hE with ⟨rfl, hf, hl⟩ | ⟨rfl, hf, rfl, rfl⟩
  · rw [if_pos hf]
    have HF := Aside0.mk hf
    have HL := Aside0.mk hl
    clear hf hl
    go_enter Try.func29, Try.ntmps29
    go_wp2_with (go_at_call 14; refine (after_calls hS A cap _ HP.out.code).mono ?_; rintro e w1 ⟨v1, rfl, hR, hb⟩; obtain ⟨Af, cf, rfl, hcf, hCf⟩ := Kd.R_reads hR; have HQ := Aside0.mk (And.intro (HP.out.below hb) hCf); have hb2 := blk_cell HQ.out.1.box 2; clear hR hb hCf)
    clear hb2 HP
    go_loopw [6, 21] (fun sv iv wr => ∃ k : Nat, k ≤ c.body.length ∧ iv = .int .i64 k ∧ sv = .int .i64 (crossS c af k) ∧ Aside0 (Rf w wr c A cap ∧ (Kd.int .i64).C wr Af af.length af)) (fun _ iv _ => c.body.length - (intOf iv).toNat)
    case atStart => exact ⟨0, Nat.zero_le _, rfl, rfl, HQ⟩
    case round =>
      obtain ⟨k, hk, rfl, rfl, HQ1⟩ := hrel
      clear HQ
      by_cases hlt : k < c.body.length
      · obtain ⟨ad, e, hx0, hx1, hx2, hx3, hx4, hx5, hx6⟩ := at_ir HQ1.out.1.code.row k hlt
        subst e
        have hkl : (k : Int) < af.length := by rw [HL.out.lf]; omega
        obtain ⟨adf, ef, hq⟩ := Kd.at_int HQ1.out.2 (k : Int) (by omega) hkl
        subst ef
        rw [Int.toNat_natCast] at hq
        have hq2 := fun o => cell_al hq o
        have HN := fun o => Aside0.mk (And.intro (HQ1.out.1.alloc o) (Kd.C_below HQ1.out.2 ((Below.refl _ _).alloc (Nat.le_refl _) o)))
        by_cases h14 : (atIr c.body k).op = 14
        · have hd60 := dst_lt HF.out hlt h14
          have HCR := Aside0.mk (show crossS c af (k + 1) = Go.bits .or .i64 (crossS c af k) (clr (rd af (k : Int)) (atIr c.body k).dst) from if_pos h14)
          rw [h14] at hx0
          by_cases hd : 0 ≤ (atIr c.body k).dst
          · have hdb := decide_eq_true hd
            have HCL := Aside0.mk (show clr (rd af (k : Int)) (atIr c.body k).dst = Go.bits .andNot .i64 (rd af (k : Int)) (wrap64 (2 ^ (atIr c.body k).dst.toNat)) by unfold clr; rw [if_pos hd, shl_bit (by omega)])
            clear h14
            go_wp2_with fail
            go_roundw
            case rel => exact ⟨k + 1, by omega, by go_num, by rw [HCR.out, HCL.out], HN _⟩
            case measure => simp [intOf]; omega
          · have hdb := decide_eq_false hd
            have HCL := Aside0.mk (show clr (rd af (k : Int)) (atIr c.body k).dst = rd af (k : Int) by unfold clr; rw [if_neg hd])
            clear h14
            go_wp2_with fail
            go_roundw
            case rel => exact ⟨k + 1, by omega, by go_num, by rw [HCR.out, HCL.out], HN _⟩
            case measure => simp [intOf]; omega
        · have h14b : ((atIr c.body k).op != 14) = true := by simpa using h14
          have HCR := Aside0.mk (show crossS c af (k + 1) = crossS c af k from if_neg h14)
          clear h14
          go_wp2_with fail
          go_roundw
          case rel => exact ⟨k + 1, by omega, by go_num, by rw [HCR.out], HN _⟩
          case measure => simp [intOf]; omega
      · have HK := Aside0.mk (show k = c.body.length by omega)
        go_wp2_with fail
        go_ret2
        exact ⟨by rw [HK.out]; rfl, HQ1.out.1.bel⟩
  · rw [if_neg (by rw [hf]; simp)]
    go_enter Try.func29, Try.ntmps29
    go_wp2_with (go_at_call 14; refine (after_calls hS A cap _ HP.out.code).mono ?_; rintro e w1 ⟨v1, rfl, hR, hb⟩; have HD := Aside0.mk (HP.out.below hb).bel; clear hR hb)
    go_ret2
    exact ⟨rfl, HD.out⟩

/-! ### how many slots -/
def slotsF (l : List Int) : Nat → Int
  | 0 => 0
  | k + 1 => if slotsF l k < rd l (k : Int) - 5 then rd l (k : Int) - 5 else slotsF l k
theorem slots_calls (A : Option Addr) (cap : Nat) (l : List Int) (w : World) (hC : (Kd.int .i64).C w A l.length l) (hl : l.length ≤ 1000) (h : ∀ k ∈ l, -1099511627776 ≤ k ∧ k ≤ 9223372036854775807) :
    Calls Try.prog 33 #[.slice A l.length cap] w fun e w' => e = .returned (.int .i64 (slotsF l l.length)) ∧ w = w' := by
  have HC := Aside0.mk hC
  have HU := Aside0.mk h
  clear hC h
  go_enter Try.func33, Try.ntmps33
  go_wp2_with fail
  go_loop [3, 8] (fun sv iv => ∃ q : Nat, q ≤ l.length ∧ iv = .int .i64 q ∧ sv = .int .i64 (slotsF l q)) (fun _ iv => l.length - (intOf iv).toNat)
  case atStart => exact ⟨0, Nat.zero_le _, rfl, rfl⟩
  case round =>
    obtain ⟨q, hq, rfl, rfl⟩ := hrel
    by_cases hql : q < l.length
    · obtain ⟨adw, e, hqc⟩ := Kd.at_int HC.out (q : Int) (by omega) (by omega)
      subst e
      rw [Int.toNat_natCast] at hqc
      obtain ⟨h0, h1⟩ := HU.out _ (rd_mem hql)
      have HSN := Aside0.mk (show slotsF l (q + 1) = if slotsF l q < rd l (q : Int) - 6 + 1 then rd l (q : Int) - 6 + 1 else slotsF l q by rw [show rd l (q : Int) - 6 + 1 = rd l (q : Int) - 5 by omega]; rfl)
      go_wp2_with fail
      go_round
      case rel => exact ⟨q + 1, by omega, by go_num, by rw [HSN.out]⟩
      case measure => simp [intOf]; omega
    · have hse : slotsF l q = slotsF l l.length := by rw [show q = l.length by omega]
      rw [hse]
      clear hse
      go_wp2_with fail
      go_ret
      exact ⟨rfl, rfl⟩
end Go.Proofs.Ytdcmeefeinppnaa.Live
namespace Go.Proofs.Ytdcmeefeinppnaa.Live
open Go.RowKit Go.Proofs.YtdcmeefeinppnaaW.PrintWords Go.Proofs.YtdcmeefeinppnaaW.PrintLast Go.Proofs.YtdcmeefeinppnaaW.PrintMore Go.Proofs.Ytdcmeefeinppnaa.Mem Go.Proofs.Ytdcmeefeinppnaa.Ir
open Uses (uses uses_calls infoInt)
set_option linter.unusedVariables false
set_option linter.unusedSimpArgs false

def orD (s d : Int) : Int := if 0 ≤ d then Go.bits .or .i64 s (shl .i64 1 d) else s
def orG : List Int → Int → Int
  | [], s => s
  | k :: l, s => orG l (orD s k)
theorem orG_snoc (l : List Int) (k : Int) : ∀ s, orG (l ++ [k]) s = orD (orG l s) k := by
  induction l with
  | nil => intro s; rfl
  | cons x l ih => intro s; exact ih _
theorem orG_bitL (l : List Int) : ∀ s, (∀ k ∈ l, 0 ≤ k) → orG l s = bitL l s := by
  induction l with
  | nil => intro s _; rfl
  | cons x l ih =>
    intro s h
    show orG l (orD s x) = bitL l _
    have h0 : 0 ≤ x := h x (by simp)
    rw [ih _ (fun k hk => h k (by simp [hk]))]
    unfold orD
    rw [if_pos h0]
def namedN (c : Cod) : Nat → Int
  | 0 => wrap64 (wrap64 (2 ^ c.params.toNat) - 1)
  | k + 1 => orD (bitL (uses (atIr c.body k).op (atIr c.body k).a (atIr c.body k).b (atIr c.body k).c) (namedN c k)) (defs (atIr c.body k))
def NamedOut (w : World) (c : Cod) (v : Value) (e : Ending) (w' : World) : Prop :=
  e = .returned (.tuple #[.int .i64 (if fits c = true then namedN c c.body.length else 0), v]) ∧ Below w.heap.size w w'
theorem uses_in {c : Cod} {k : Nat} (hf : fits c = true) (hk : k < c.body.length) : ∀ j ∈ uses (atIr c.body k).op (atIr c.body k).a (atIr c.body k).b (atIr c.body k).c, 0 ≤ j ∧ j < c.cells := by
  have h := fits_ir hf k hk
  unfold okIr at h
  simp only [Bool.and_eq_true] at h
  have h2 := h.2
  intro j hj
  simp only [Bool.not_eq_true'] at h2
  have h3 := List.any_eq_false.1 h2 j hj
  unfold oddB at h3
  simp at h3
  omega

structure Nm (w Wx W : World) (c : Cod) (A : Option Addr) (cap bx : Nat) (x : Ir) : Prop where
  f : Rf w Wx c A cap
  xb : Wx.heap[bx]? = some (.cells x.vals 38 (0, 0))
  b : Below Wx.heap.size Wx W
theorem Nm.below {w Wx W W1 : World} {c : Cod} {A : Option Addr} {cap bx : Nat} {x : Ir} (h : Nm w Wx W c A cap bx x) (hb : Below W.heap.size W W1) : Nm w Wx W1 c A cap bx x := ⟨h.f, h.xb, h.b.trans (hb.mono h.b.size)⟩
theorem Nm.box {w Wx W : World} {c : Cod} {A : Option Addr} {cap bx : Nat} {x : Ir} (h : Nm w Wx W c A cap bx x) : W.heap[bx]? = some (.cells x.vals 38 (0, 0)) := blk_below h.xb h.b

set_option maxHeartbeats 8000000 in
set_option maxRecDepth 100000 in
theorem named_calls (c : Cod) (A : Option Addr) (cap : Nat) (w : World) (hC : CodeAt w c A cap) :
    Calls Try.prog 31 #[.agg (c.vals A cap)] w (NamedOut w c (.int .i64 (if fits c = true then 0 else 4))) := by
  have HP := Aside0.mk (Rf.init hC)
  have hs := hC.small
  clear hC
  unfold NamedOut
  cases hf : fits c with
  | false =>
    rw [if_neg (by simp), if_neg (by simp)]
    go_enter Try.func31, Try.ntmps31
    go_wp2_with (go_at_call 20; refine (fits_calls c A cap _ HP.out.code).mono ?_; rw [hf]; rintro e w1 ⟨rfl, hb⟩; have HD := Aside0.mk (HP.out.below hb).bel; clear hb)
    go_ret2
    exact ⟨rfl, HD.out⟩
  | true =>
    rw [if_pos rfl, if_pos rfl]
    have HF := Aside0.mk hf
    have hh := fits_head hf
    have hp0 : 0 ≤ c.params := hh.2.2.1
    have hp60 : c.params < 64 := by omega
    go_enter Try.func31, Try.ntmps31
    go_wp2_with (go_at_call 20; refine (fits_calls c A cap _ HP.out.code).mono ?_; rw [hf]; rintro e w1 ⟨rfl, hb⟩; have HQ := Aside0.mk (HP.out.below hb); have hb1 := blk_cell HQ.out.box 1; have hb2 := blk_cell HQ.out.box 2; clear hb)
    clear hb1 hb2 HP hf
    go_loopw [4, 19] (fun sv iv wr => ∃ k : Nat, k ≤ c.body.length ∧ iv = .int .i64 k ∧ sv = .int .i64 (namedN c k) ∧ Aside0 (Rf w wr c A cap)) (fun _ iv _ => c.body.length - (intOf iv).toNat)
    case atStart => exact ⟨0, Nat.zero_le _, rfl, rfl, HQ⟩
    case round =>
      obtain ⟨k, hk, rfl, rfl, HQ1⟩ := hrel
      clear HQ
      by_cases hlt : k < c.body.length
      · obtain ⟨ad, e, hx0, hx1, hx2, hx3, hx4, hx5, hx6⟩ := at_ir HQ1.out.code.row k hlt
        subst e
        have HU := Aside0.mk (uses_in HF.out hlt)
        have HDF := Aside0.mk (okIr_def (fits_ir HF.out k hlt))
        have HNX := Aside0.mk (show namedN c (k + 1) = orD (bitL (uses (atIr c.body k).op (atIr c.body k).a (atIr c.body k).b (atIr c.body k).c) (namedN c k)) (defs (atIr c.body k)) from rfl)
        obtain ⟨x, hx⟩ : ∃ x, atIr c.body k = x := ⟨_, rfl⟩
        rw [hx] at hx0 hx1 hx2 hx3 hx4 hx5 hx6 HU HDF HNX
        clear hx
        obtain ⟨op, dst, a, b, cc, n, m⟩ := x
        dsimp only at hx0 hx1 hx2 hx3 hx4 hx5 hx6 HU HNX
        obtain ⟨d, hd⟩ : ∃ d, defs ⟨op, dst, a, b, cc, n, m⟩ = d := ⟨_, rfl⟩
        rw [hd] at HDF HNX
        have HD := Aside0.mk hd
        have hul := uses_len op a b cc
        obtain ⟨l, hl⟩ : ∃ l, uses op a b cc = l := ⟨_, rfl⟩
        rw [hl] at HU HNX hul
        have HL := Aside0.mk hl
        clear hd hl
        have HM := Aside0.mk (show Nm w (wr.alloc (.cells #[.int .i64 op, .int .i64 dst, .int .i64 a, .int .i64 b, .int .i64 cc, .int .i64 n, .int .i64 m] 38)).drew (wr.alloc (.cells #[.int .i64 op, .int .i64 dst, .int .i64 a, .int .i64 b, .int .i64 cc, .int .i64 n, .int .i64 m] 38)).drew c _ cap wr.heap.size ⟨op, dst, a, b, cc, n, m⟩ from ⟨(HQ1.out.alloc _).below (drew_below _), blk_new _ _, Below.refl _ _⟩)
        have hwx : (wr.alloc (.cells #[.int .i64 op, .int .i64 dst, .int .i64 a, .int .i64 b, .int .i64 cc, .int .i64 n, .int .i64 m] 38)).drew.heap.size = wr.heap.size + 1 := by simp [World.drew]
        go_wp2_with fail
        go_region_held3 (fun w' => w'.cell? ⟨wr.heap.size, 0, none⟩ = some (.int .i64 op) ∧ w'.cell? ⟨wr.heap.size, 1, none⟩ = some (.int .i64 dst) ∧ w'.cell? ⟨wr.heap.size, 2, none⟩ = some (.int .i64 a) ∧ w'.cell? ⟨wr.heap.size, 3, none⟩ = some (.int .i64 b) ∧ w'.cell? ⟨wr.heap.size, 4, none⟩ = some (.int .i64 cc) ∧ w'.cell? ⟨wr.heap.size, 5, none⟩ = some (.int .i64 n) ∧ w'.cell? ⟨wr.heap.size, 6, none⟩ = some (.int .i64 m)) (go_keep)
          (first
            | (go_at_call 23; refine (uses_calls op dst a b cc n m _).mono ?_; rw [HL.out]; rintro e w2 ⟨v2, rfl, hR, hb⟩; obtain ⟨A2, c2, rfl⟩ := Kd.R_slice hR; have HR2 := Aside0.mk hR; have HM2 := Aside0.mk (HM.out.below hb); have hy0 := blk_cell HM2.out.box 0; have hy1 := blk_cell HM2.out.box 1; have hy2 := blk_cell HM2.out.box 2; have hy3 := blk_cell HM2.out.box 3; have hy4 := blk_cell HM2.out.box 4; have hy5 := blk_cell HM2.out.box 5; have hy6 := blk_cell HM2.out.box 6; clear hR hb)
            | (go_at_call 22; refine (defs_calls' HD.out _).mono ?_; rintro e w3 ⟨rfl, hb⟩; have HR3 := Aside0.mk (Kd.R_below HR2.out hb); have HM3 := Aside0.mk (HM2.out.below hb); have hz0 := blk_cell HM3.out.box 0; have hz1 := blk_cell HM3.out.box 1; have hz2 := blk_cell HM3.out.box 2; have hz3 := blk_cell HM3.out.box 3; have hz4 := blk_cell HM3.out.box 4; have hz5 := blk_cell HM3.out.box 5; have hz6 := blk_cell HM3.out.box 6; clear hb)
            | (refine Kd.R_append_step (Kd.int .i64) (w0 := w3) (W := w3) _ rfl (.tmp 24) (.tmp 27) 26 3 (.int .i64 0) 8 rfl Try.underlying26 infoInt rfl (by decide) (by omega) _ l d [.int .i64 d] (fun _ => True) (fun _ => False) rfl rfl rfl (fun _ hk => hk.elim) (fun _ _ => trivial) HR3.out (Below.refl _ _) HM3.out.b.size (by omega) ?_; intro v4 w4 hO hB hg hat; have HM4 := Aside0.mk (Nm.mk HM3.out.f HM3.out.xb (HM3.out.b.trans hB)); obtain ⟨A4, c4, e4⟩ := Kd.R_slice hO; subst e4; have HO := Aside0.mk hO; have hq0 := blk_cell HM4.out.box 0; have hq1 := blk_cell HM4.out.box 1; have hq2 := blk_cell HM4.out.box 2; have hq3 := blk_cell HM4.out.box 3; have hq4 := blk_cell HM4.out.box 4; have hq5 := blk_cell HM4.out.box 5; have hq6 := blk_cell HM4.out.box 6; clear hO hB hg hat))
        clear hy0 hy1 hy2 hy3 hy4 hy5 hy6 hz0 hz1 hz2 hz3 hz4 hz5 hz6 hq0 hq1 hq2 hq3 hq4 hq5 hq6 hx0 hx1 hx2 hx3 hx4 hx5 hx6 hwx
        have HC4 := Aside0.mk (Kd.R_reads' HO.out).2.2
        have HF4 := Aside0.mk (HM4.out.f.below HM4.out.b)
        clear HM HM2 HM3 HM4 HR2 HR3 HO
        have hrow : ∀ e ∈ l ++ [d], -1 ≤ e ∧ e < 60 := by
          intro e he
          rcases List.mem_append.1 he with h1 | h1
          · have := HU.out e h1; omega
          · have h2 : e = d := by simpa using h1
            have := HDF.out; omega
        have hol : orG (l ++ [d]) (namedN c k) = namedN c (k + 1) := by
          rw [orG_snoc, orG_bitL l _ (fun e he => (HU.out e he).1), HNX.out]
        have HROW := Aside0.mk hrow
        have HOL := Aside0.mk hol
        obtain ⟨ls, hls⟩ : ∃ ls, l ++ [d] = ls := ⟨_, rfl⟩
        rw [hls] at HC4 HROW HOL
        have hlen : l.length + 1 = ls.length := by rw [← hls]; simp
        have hlen4 : ls.length ≤ 4 := by omega
        simp only [List.length_append, List.length_cons, List.length_nil, Nat.zero_add, hls, hlen]
        clear hls hrow hol HU HDF HNX HD HL
        go_wp2_with fail
        go_loop [4, 8, 30] (fun sv _ jv => ∃ q : Nat, q ≤ ls.length ∧ jv = .int .i64 q ∧ sv = .int .i64 (orG (ls.take q) (namedN c k))) (fun _ _ jv => ls.length - (intOf jv).toNat)
        case atStart => exact ⟨0, Nat.zero_le _, rfl, rfl⟩
        case round =>
          obtain ⟨q, hq, rfl, rfl⟩ := hrel
          by_cases hql : q < ls.length
          · obtain ⟨adw, e, hqc⟩ := Kd.at_int HC4.out (q : Int) (by omega) (by omega)
            subst e
            rw [Int.toNat_natCast] at hqc
            obtain ⟨h0, h1⟩ := HROW.out _ (rd_mem hql)
            by_cases hge : 0 ≤ rd ls (q : Int)
            · have hgb : decide (0 ≤ rd ls (q : Int)) = true := decide_eq_true hge
              have HSN := Aside0.mk (show orG (ls.take (q + 1)) (namedN c k) = Go.bits .or .i64 (orG (ls.take q) (namedN c k)) (wrap64 (2 ^ (rd ls (q : Int)).toNat)) by rw [take_snoc hql, orG_snoc]; unfold orD; rw [if_pos hge, shl_bit (by omega)])
              go_wp2_with fail
              go_round
              case rel => exact ⟨q + 1, by omega, by go_num, by rw [HSN.out]⟩
              case measure => simp [intOf]; omega
            · have hgb : decide (0 ≤ rd ls (q : Int)) = false := decide_eq_false hge
              have HSN := Aside0.mk (show orG (ls.take (q + 1)) (namedN c k) = orG (ls.take q) (namedN c k) by rw [take_snoc hql, orG_snoc]; unfold orD; rw [if_neg hge])
              clear hge
              go_wp2_with fail
              go_round
              case rel => exact ⟨q + 1, by omega, by go_num, by rw [HSN.out]⟩
              case measure => simp [intOf]; omega
          · have HQE := Aside0.mk (show orG (ls.take q) (namedN c k) = namedN c (k + 1) by rw [show q = ls.length by omega, List.take_length]; exact HOL.out)
            go_wp2_with fail
            go_roundw
            case rel => exact ⟨k + 1, by omega, by go_num, by rw [HQE.out], HF4⟩
            case measure => simp [intOf]; omega
      · have HK := Aside0.mk (show k = c.body.length by omega)
        go_wp2_with fail
        go_ret2
        exact ⟨by rw [HK.out]; rfl, HQ1.out.bel⟩
end Go.Proofs.Ytdcmeefeinppnaa.Live
