/- live.After, live.Ahead, live.Clash; the law's numbers. -/
import Derived.Test.YtdcmeefeinppnaaLiveFine
import Derived.Deep.QuietTactic
import Derived.BigQuiet
namespace Go.Proofs.Ytdcmeefeinppnaa.Live
open Go.RowKit Go.Proofs.YtdcmeefeinppnaaW.PrintWords Go.Proofs.YtdcmeefeinppnaaW.PrintLast Go.Proofs.YtdcmeefeinppnaaW.PrintMore Go.Proofs.Ytdcmeefeinppnaa.Mem Go.Proofs.Ytdcmeefeinppnaa.Ir
open Uses (uses)
set_option linter.unusedVariables false
set_option linter.unusedSimpArgs false

theorem take_eq {xs ys : List Int} {k : Nat} (h : xs.take k = ys.take k) (hx : k < xs.length) (hy : k < ys.length) (he : rd xs k = rd ys k) : xs.take (k + 1) = ys.take (k + 1) := by rw [take_snoc hx, take_snoc hy, h, he]
theorem numbers_calls (A B : Option Addr) (ca cb : Nat) (xs ys : List Int) (w : World) (hx : (Kd.int .i64).C w A xs.length xs) (hy : (Kd.int .i64).C w B ys.length ys) (hn : xs.length ≤ 100000) (hm : ys.length ≤ 100000) :
    Calls Try.prog 17 #[.slice A xs.length ca, .slice B ys.length cb] w fun e w' => e = .returned (.bool (decide (xs = ys))) ∧ Drawn0 w w' := by
  by_cases hl : xs.length = ys.length
  · have HX := Aside0.mk hx
    have HY := Aside0.mk hy
    have HL := Aside0.mk hl
    have hlb : ((xs.length : Int) != (ys.length : Int)) = false := by simp [hl]
    clear hx hy hl
    go_enter Try.func17, Try.ntmps17
    go_wp2_with fail
    go_loopw [5] (fun iv wr => ∃ k : Nat, k ≤ xs.length ∧ iv = .int .i64 k ∧ Aside0 (xs.take k = ys.take k) ∧ Drawn0 w wr) (fun iv _ => xs.length - (intOf iv).toNat)
    case atStart => exact ⟨0, Nat.zero_le _, rfl, ⟨rfl⟩, Drawn0.refl _⟩
    case round =>
      obtain ⟨k, hk, rfl, HT, HD⟩ := hrel
      obtain ⟨nd, rfl⟩ := HD.out
      by_cases hlt : k < xs.length
      · have hlt2 : k < ys.length := by rw [← HL.out]; exact hlt
        obtain ⟨ax, e, hcx⟩ := Kd.at_int HX.out (k : Int) (by omega) (by omega)
        subst e
        obtain ⟨ay, e, hcy⟩ := Kd.at_int HY.out (k : Int) (by omega) (by omega)
        subst e
        rw [Int.toNat_natCast] at hcx hcy
        have hcx' : (w.drewN nd).cell? (ax.add k) = some (.int .i64 (rd xs k)) := hcx
        have hcy' : (w.drewN nd).cell? (ay.add k) = some (.int .i64 (rd ys k)) := hcy
        have h0 : (0 : Int) ≤ k := by omega
        have h1 : (k : Int) < xs.length := by omega
        have h2 : (k : Int) < ys.length := by omega
        clear hcx' hcy'
        by_cases he : rd xs k = rd ys k
        · have heb : (rd xs (k : Int) != rd ys (k : Int)) = false := by simp [he]
          have HTN := Aside0.mk (take_eq HT.out hlt hlt2 he)
          clear he
          go_wp2_with fail
          go_quiet (fail)
          go_wp2_with fail
          go_roundw
          case rel => exact ⟨k + 1, by omega, by go_num, HTN, by first | exact ⟨⟨_, rfl⟩⟩ | exact ⟨⟨_, by rw [World.drewN_drewN]⟩⟩⟩
          case measure => simp [intOf]; omega
        · have heb : (rd xs (k : Int) != rd ys (k : Int)) = true := by simp [he]
          have HN : Aside0 (decide (xs = ys) = false) := ⟨decide_eq_false (fun h => he (by rw [h]))⟩
          clear he
          go_wp2_with fail
          go_quiet (fail)
          go_wp2_with fail
          go_ret
          exact ⟨by rw [HN.out]; rfl, by first | exact ⟨⟨_, rfl⟩⟩ | exact ⟨⟨_, by rw [World.drewN_drewN]⟩⟩⟩
      · have hkk : k = xs.length := by omega
        have HN : Aside0 (decide (xs = ys) = true) := ⟨decide_eq_true (by have h := HT.out; rw [hkk, List.take_length, HL.out, List.take_length] at h; exact h)⟩
        clear hkk
        go_wp2_with fail
        go_ret
        exact ⟨by rw [HN.out]; rfl, ⟨⟨_, rfl⟩⟩⟩
  · have hlb : ((xs.length : Int) != (ys.length : Int)) = true := by simp; omega
    have hd : decide (xs = ys) = false := decide_eq_false (fun h => hl (by rw [h]))
    rw [hd]
    clear hl hd
    go_enter Try.func17, Try.ntmps17
    go_wp2_with fail
    go_ret
    exact ⟨rfl, Drawn0.refl _⟩

/-- what live.sets comes to: the rows, the error -/
structure SetsIs (c : Cod) (ah af : List Int) (er : Int) : Prop where
  yes : fits c = true → er = 0 ∧ ∃ k, iterS c (waysOf c) k (List.replicate c.body.length 0) (List.replicate c.body.length 0) = some (ah, af)
  no : fits c = false → ah = [] ∧ af = [] ∧ er = 4
theorem sets_is {c : Cod} {ah af : List Int} {er : Int} (h : SetsIs c ah af er) (A : Option Addr) (cap : Nat) (w : World) (hC : CodeAt w c A cap) : Calls Try.prog 41 #[.agg (c.vals A cap)] w (SetsOut w ah af er) := by
  by_cases hf : fits c = true
  · obtain ⟨rfl, k, hk⟩ := h.yes hf
    exact sets_calls c A cap w hC hf k ah af hk
  · replace hf : fits c = false := by simpa using hf
    obtain ⟨rfl, rfl, rfl⟩ := h.no hf
    exact sets_no c A cap w hC hf
def RowOut (w : World) (l : List Int) (er : Int) (e : Ending) (w' : World) : Prop := ∃ v, e = .returned (.tuple #[v, .int .i64 er]) ∧ (Kd.int .i64).R 3 w' w.heap.size (fun _ => True) v l ∧ Below w.heap.size w w'
theorem after_calls {c : Cod} {ah af : List Int} {er : Int} (h : SetsIs c ah af er) (A : Option Addr) (cap : Nat) (w : World) (hC : CodeAt w c A cap) : Calls Try.prog 14 #[.agg (c.vals A cap)] w (RowOut w af er) := by
  have HC := Aside0.mk hC
  have HB := Aside0.mk ((Below.refl w.heap.size w).alloc (Nat.le_refl _) (.cells (c.vals A cap) 24))
  clear hC
  go_enter Try.func14, Try.ntmps14
  go_wp2_with (go_at_call 41; refine (sets_is h A cap _ (HC.out.below HB.out)).mono ?_; rintro e w1 ⟨va, vf, rfl, hR1, hR2, hb⟩; have HD := Aside0.mk (And.intro (Kd.R_lower (Kd.R_mono hR2 (fun _ _ => trivial)) HB.out.size) (HB.out.trans (hb.mono HB.out.size))); clear hR1 hR2 hb)
  go_ret2
  exact ⟨_, rfl, HD.out.1, HD.out.2⟩
theorem ahead_calls {c : Cod} {ah af : List Int} {er : Int} (h : SetsIs c ah af er) (A : Option Addr) (cap : Nat) (w : World) (hC : CodeAt w c A cap) : Calls Try.prog 15 #[.agg (c.vals A cap)] w (RowOut w ah er) := by
  have HC := Aside0.mk hC
  have HB := Aside0.mk ((Below.refl w.heap.size w).alloc (Nat.le_refl _) (.cells (c.vals A cap) 24))
  clear hC
  go_enter Try.func15, Try.ntmps15
  go_wp2_with (go_at_call 41; refine (sets_is h A cap _ (HC.out.below HB.out)).mono ?_; rintro e w1 ⟨va, vf, rfl, hR1, hR2, hb⟩; have HD := Aside0.mk (And.intro (Kd.R_lower (Kd.R_mono hR1 (fun _ _ => trivial)) HB.out.size) (HB.out.trans (hb.mono HB.out.size))); clear hR1 hR2 hb)
  go_ret2
  exact ⟨_, rfl, HD.out.1, HD.out.2⟩

/-- is a cell in a set? -/
def inB (s k : Int) : Bool := Go.bits .and .i64 (s / 2 ^ k.toNat) 1 != 0
theorem in_calls (s k : Int) (w : World) (h0 : 0 ≤ k) (h1 : k ≤ 60) : Calls Try.prog 54 #[.int .i64 s, .int .i64 k] w fun e w' => e = .returned (.bool (inB s k)) ∧ w = w' := by
  go_enter Try.func54, Try.ntmps54
  go_wp2_with fail
  go_ret
  exact ⟨rfl, rfl⟩
def cl (c : Cod) (af : List Int) (a b : Int) (i : Nat) : Bool := if defs (atIr c.body i) = a then inB (rd af i) b else if defs (atIr c.body i) = b then inB (rd af i) a else false
def clashB (c : Cod) (ah af : List Int) (a b : Int) : Bool := (List.range c.body.length).any (cl c af a b) || (decide (0 < ah.length) && decide ((if a < b then b else a) < c.params) && (inB (rd ah 0) a || inB (rd ah 0) b))
def clashBad (c : Cod) (er a b : Int) : Bool := decide (er ≠ 0) || decide (a < 0) || decide (b < 0) || decide (a ≥ c.cells) || decide (b ≥ c.cells)
def clashR (c : Cod) (ah af : List Int) (er a b : Int) : Bool × Int := if clashBad c er a b then (false, 4) else if a = b then (false, 0) else (clashB c ah af a b, 0)
def ClashOut (w : World) (r : Bool × Int) (e : Ending) (w' : World) : Prop := e = .returned (.tuple #[.bool r.1, .int .i64 r.2]) ∧ Below w.heap.size w w'

structure Cl (w W : World) (c : Cod) (A : Option Addr) (cap : Nat) (Aa Af : Option Addr) (ah af : List Int) : Prop where
  bel : Below w.heap.size w W
  sz : w.heap.size + 1 ≤ W.heap.size
  box : W.heap[w.heap.size]? = some (.cells (c.vals A cap) 24 (0, 0))
  ra : (Kd.int .i64).C W Aa ah.length ah
  rf : (Kd.int .i64).C W Af af.length af
theorem Cl.below {w W W1 : World} {c : Cod} {A : Option Addr} {cap : Nat} {Aa Af : Option Addr} {ah af : List Int} (h : Cl w W c A cap Aa Af ah af) (hb : Below W.heap.size W W1) : Cl w W1 c A cap Aa Af ah af :=
  ⟨h.bel.trans (hb.mono (by have := h.sz; omega)), Nat.le_trans h.sz hb.size, blk_below h.box hb, Kd.C_below h.ra hb, Kd.C_below h.rf hb⟩
theorem Cl.alloc {w W : World} {c : Cod} {A : Option Addr} {cap : Nat} {Aa Af : Option Addr} {ah af : List Int} (h : Cl w W c A cap Aa Af ah af) (o : Obj) : Cl w (W.alloc o) c A cap Aa Af ah af := h.below ((Below.refl _ _).alloc (Nat.le_refl _) o)
attribute [local go_sem] max2_int min2_int max_two min_two

theorem any_false {n : Nat} {f : Nat → Bool} (h : ∀ j, j < n → f j = false) : (List.range n).any f = false := by
  rw [List.any_eq_false]
  intro x hx
  rw [h x (List.mem_range.1 hx)]; simp
theorem any_true {n : Nat} {f : Nat → Bool} {j : Nat} (hj : j < n) (h : f j = true) : (List.range n).any f = true := List.any_eq_true.2 ⟨j, List.mem_range.2 hj, h⟩

set_option maxHeartbeats 4000000 in
set_option maxRecDepth 100000 in
theorem clash_calls {c : Cod} {ah af : List Int} {er : Int} (h : SetsIs c ah af er) (hlen : er = 0 → af.length = c.body.length) (hcl : er = 0 → c.cells ≤ 60) (A : Option Addr) (cap : Nat) (a b : Int) (w : World) (hC : CodeAt w c A cap) :
    Calls Try.prog 24 #[.agg (c.vals A cap), .int .i64 a, .int .i64 b] w (ClashOut w (clashR c ah af er a b)) := by
  have HC := Aside0.mk hC
  have hn := hC.small
  have HB := Aside0.mk ((Below.refl w.heap.size w).alloc (Nat.le_refl _) (.cells (c.vals A cap) 24))
  have HLE := Aside0.mk hlen
  have HCL := Aside0.mk hcl
  clear hC hlen hcl
  by_cases hbad : clashBad c er a b = true
  · have hr : clashR c ah af er a b = (false, 4) := by unfold clashR; rw [if_pos hbad]
    rw [hr]
    have HH : (er != 0) = true ∨ ((er != 0) = false ∧ decide (a < 0) = true) ∨ ((er != 0) = false ∧ decide (a < 0) = false ∧ decide (b < 0) = true) ∨ ((er != 0) = false ∧ decide (a < 0) = false ∧ decide (b < 0) = false ∧ decide (c.cells ≤ a) = true) ∨ ((er != 0) = false ∧ decide (a < 0) = false ∧ decide (b < 0) = false ∧ decide (c.cells ≤ a) = false ∧ decide (c.cells ≤ b) = true) := by
      simp [clashBad] at hbad; simp; omega
    clear hr hbad
    rcases HH with g1 | ⟨g1, g2⟩ | ⟨g1, g2, g3⟩ | ⟨g1, g2, g3, g4⟩ | ⟨g1, g2, g3, g4, g5⟩
    all_goals
      go_enter Try.func24, Try.ntmps24
      go_wp2_with (go_at_call 41; refine (sets_is h A cap _ (HC.out.below HB.out)).mono ?_; rintro e w1 ⟨va, vf, rfl, hR1, hR2, hb⟩; have hbx := blk_cell (blk_below (blk_new w (.cells (c.vals A cap) 24)) hb) 0; have HD := Aside0.mk (HB.out.trans (hb.mono HB.out.size)); clear hR1 hR2 hb)
      go_ret2
      exact ⟨rfl, HD.out⟩
  · have hgood : er = 0 ∧ 0 ≤ a ∧ 0 ≤ b ∧ a < c.cells ∧ b < c.cells := by simp [clashBad] at hbad; omega
    obtain ⟨rfl, ha, hb0, ha2, hb2⟩ := hgood
    have hl := HLE.out rfl
    have hc60 := HCL.out rfl
    have HL := Aside0.mk hl
    have g2 : decide (a < 0) = false := decide_eq_false (by omega)
    have g3 : decide (b < 0) = false := decide_eq_false (by omega)
    have g4 : decide (c.cells ≤ a) = false := decide_eq_false (by omega)
    have g5 : decide (c.cells ≤ b) = false := decide_eq_false (by omega)
    clear HLE HCL hl
    by_cases hab : a = b
    · have hr : clashR c ah af 0 a b = (false, 0) := by unfold clashR; rw [if_neg hbad, if_pos hab]
      rw [hr]
      clear hr hbad
      subst hab
      go_enter Try.func24, Try.ntmps24
      go_wp2_with (go_at_call 41; refine (sets_is h A cap _ (HC.out.below HB.out)).mono ?_; rintro e w1 ⟨va, vf, rfl, hR1, hR2, hb⟩; have hbx := blk_cell (blk_below (blk_new w (.cells (c.vals A cap) 24)) hb) 0; have HD := Aside0.mk (HB.out.trans (hb.mono HB.out.size)); clear hR1 hR2 hb)
      go_ret2
      exact ⟨rfl, HD.out⟩
    · have hr : clashR c ah af 0 a b = (clashB c ah af a b, 0) := by unfold clashR; rw [if_neg hbad, if_neg hab]
      rw [hr]
      have habb : (a == b) = false := by simpa using hab
      have HAB := Aside0.mk hab
      clear hr hbad hab
      go_enter Try.func24, Try.ntmps24
      go_wp2_with (go_at_call 41; refine (sets_is h A cap _ (HC.out.below HB.out)).mono ?_; rintro e w1 ⟨va, vf, rfl, hR1, hR2, hb⟩; obtain ⟨Aa, ca, rfl, hca, hCa⟩ := Kd.R_reads hR1; obtain ⟨Af, cf, rfl, hcf, hCf⟩ := Kd.R_reads hR2; have hbk := blk_below (blk_new w (.cells (c.vals A cap) 24)) hb; have hbx := blk_cell hbk 0; have hby := blk_cell hbk 2; have HP := Aside0.mk (show Cl w w1 c A cap Aa Af ah af from ⟨HB.out.trans (hb.mono HB.out.size), by have := hb.size; simpa using this, hbk, hCa, hCf⟩); clear hR1 hR2 hb hCa hCf hbk)
      go_loopw [48] (fun iv wr => ∃ k : Nat, k ≤ c.body.length ∧ iv = .int .i64 k ∧ Aside0 (∀ j, j < k → cl c af a b j = false) ∧ Aside0 (Cl w wr c A cap Aa Af ah af)) (fun iv _ => c.body.length - (intOf iv).toNat)
      case atStart => exact ⟨0, Nat.zero_le _, rfl, ⟨fun j hj => by omega⟩, HP⟩
      case round =>
        obtain ⟨k, hk, rfl, HR, HP1⟩ := hrel
        clear HP
        by_cases hlt : k < c.body.length
        · obtain ⟨ad, e, hx0, hx1, hx2, hx3, hx4, hx5, hx6⟩ := at_ir (Kd.C_below HC.out.row HP1.out.bel) k hlt
          subst e
          obtain ⟨d, hd⟩ : ∃ d, defs (atIr c.body k) = d := ⟨_, rfl⟩
          have HD := Aside0.mk hd
          have hlf : (k : Int) < af.length := by have := HL.out; omega
          by_cases hda : d = a
          · have hdab : (d == a) = true := by simpa using hda
            have HCk := Aside0.mk (show cl c af a b k = inB (rd af k) b from if_pos (hd.trans hda))
            clear hd hda
            by_cases hin : inB (rd af k) b = true
            · have HE : Aside0 (clashB c ah af a b = true) := ⟨by unfold clashB; rw [any_true hlt (HCk.out.trans hin)]; rfl⟩
              go_wp2_with (first | (go_at_call 22; refine (defs_calls' HD.out _).mono ?_; rintro e w2 ⟨rfl, hb⟩; have HP2 := Aside0.mk ((HP1.out.alloc _).below hb); obtain ⟨af1, ef, hcf1⟩ := Kd.at_int HP2.out.rf (k : Int) (by omega) (by have := HL.out; omega); subst ef; rw [Int.toNat_natCast] at hcf1; clear hb) | (go_at_call 54; refine (in_calls _ _ _ (by omega) (by omega)).mono ?_; rintro e w3 ⟨rfl, rfl⟩))
              go_ret2
              exact ⟨by rw [HE.out]; rfl, HP2.out.bel⟩
            · replace hin : inB (rd af k) b = false := by simpa using hin
              have HN := Aside0.mk (HCk.out.trans hin)
              go_wp2_with (first | (go_at_call 22; refine (defs_calls' HD.out _).mono ?_; rintro e w2 ⟨rfl, hb⟩; have HP2 := Aside0.mk ((HP1.out.alloc _).below hb); obtain ⟨af1, ef, hcf1⟩ := Kd.at_int HP2.out.rf (k : Int) (by omega) (by have := HL.out; omega); subst ef; rw [Int.toNat_natCast] at hcf1; clear hb) | (go_at_call 54; refine (in_calls _ _ _ (by omega) (by omega)).mono ?_; rintro e w3 ⟨rfl, rfl⟩))
              go_roundw
              case rel => exact ⟨k + 1, by omega, by go_num, ⟨fun j hj => by rcases Nat.lt_succ_iff_lt_or_eq.1 hj with h | rfl; exact HR.out j h; exact HN.out⟩, HP2⟩
              case measure => simp [intOf]; omega
          · have hdab : (d == a) = false := by simpa using hda
            by_cases hdb : d = b
            · have hdbb : (d == b) = true := by simpa using hdb
              have HCk := Aside0.mk (show cl c af a b k = inB (rd af k) a by unfold cl; rw [hd, if_neg hda, if_pos hdb])
              clear hd hda hdb
              by_cases hin : inB (rd af k) a = true
              · have HE : Aside0 (clashB c ah af a b = true) := ⟨by unfold clashB; rw [any_true hlt (HCk.out.trans hin)]; rfl⟩
                go_wp2_with (first | (go_at_call 22; refine (defs_calls' HD.out _).mono ?_; rintro e w2 ⟨rfl, hb⟩; have HP2 := Aside0.mk ((HP1.out.alloc _).below hb); obtain ⟨af1, ef, hcf1⟩ := Kd.at_int HP2.out.rf (k : Int) (by omega) (by have := HL.out; omega); subst ef; rw [Int.toNat_natCast] at hcf1; clear hb) | (go_at_call 54; refine (in_calls _ _ _ (by omega) (by omega)).mono ?_; rintro e w3 ⟨rfl, rfl⟩))
                go_ret2
                exact ⟨by rw [HE.out]; rfl, HP2.out.bel⟩
              · replace hin : inB (rd af k) a = false := by simpa using hin
                have HN := Aside0.mk (HCk.out.trans hin)
                go_wp2_with (first | (go_at_call 22; refine (defs_calls' HD.out _).mono ?_; rintro e w2 ⟨rfl, hb⟩; have HP2 := Aside0.mk ((HP1.out.alloc _).below hb); obtain ⟨af1, ef, hcf1⟩ := Kd.at_int HP2.out.rf (k : Int) (by omega) (by have := HL.out; omega); subst ef; rw [Int.toNat_natCast] at hcf1; clear hb) | (go_at_call 54; refine (in_calls _ _ _ (by omega) (by omega)).mono ?_; rintro e w3 ⟨rfl, rfl⟩))
                go_roundw
                case rel => exact ⟨k + 1, by omega, by go_num, ⟨fun j hj => by rcases Nat.lt_succ_iff_lt_or_eq.1 hj with h | rfl; exact HR.out j h; exact HN.out⟩, HP2⟩
                case measure => simp [intOf]; omega
            · have hdbb : (d == b) = false := by simpa using hdb
              have HN := Aside0.mk (show cl c af a b k = false by unfold cl; rw [hd, if_neg hda, if_neg hdb])
              clear hd hda hdb
              go_wp2_with (first | (go_at_call 22; refine (defs_calls' HD.out _).mono ?_; rintro e w2 ⟨rfl, hb⟩; have HP2 := Aside0.mk ((HP1.out.alloc _).below hb); obtain ⟨af1, ef, hcf1⟩ := Kd.at_int HP2.out.rf (k : Int) (by omega) (by have := HL.out; omega); subst ef; rw [Int.toNat_natCast] at hcf1; clear hb) | (go_at_call 54; refine (in_calls _ _ _ (by omega) (by omega)).mono ?_; rintro e w3 ⟨rfl, rfl⟩))
              go_roundw
              case rel => exact ⟨k + 1, by omega, by go_num, ⟨fun j hj => by rcases Nat.lt_succ_iff_lt_or_eq.1 hj with h | rfl; exact HR.out j h; exact HN.out⟩, HP2⟩
              case measure => simp [intOf]; omega
        · have hkk : k = c.body.length := by omega
          have HE : Aside0 (clashB c ah af a b = (decide (0 < ah.length) && decide ((if a < b then b else a) < c.params) && (inB (rd ah 0) a || inB (rd ah 0) b))) := ⟨by unfold clashB; rw [any_false (fun j hj => HR.out j (by omega)), Bool.false_or]⟩
          have hbp := blk_cell HP1.out.box 1
          clear hkk
          by_cases hl0 : 0 < ah.length
          · have hl0b : decide (0 < ah.length) = true := decide_eq_true hl0
            obtain ⟨aa, ea, hca0⟩ := Kd.at_int HP1.out.ra (0 : Int) (by omega) (by omega)
            subst ea
            have hca0' : wr.cell? aa = some (.int .i64 (rd ah 0)) := hca0
            by_cases hmx : (if a < b then b else a) < c.params
            · have hmxb : decide ((if a < b then b else a) < c.params) = true := decide_eq_true hmx
              have HMX := Aside0.mk hmxb
              have hmab : (a < b ∧ decide (b < c.params) = true) ∨ (b ≤ a ∧ decide (a < c.params) = true) := by
                by_cases h : a < b
                · rw [if_pos h] at hmxb; exact .inl ⟨h, hmxb⟩
                · rw [if_neg h] at hmxb; exact .inr ⟨by omega, hmxb⟩
              clear hmx hmxb
              by_cases hia : inB (rd ah 0) a = true
              · have HZ := Aside0.mk (show clashB c ah af a b = true by rw [HE.out, HMX.out, hl0b, hia]; rfl)
                rcases hmab with ⟨hm1, hm2⟩ | ⟨hm1, hm2⟩
                all_goals
                  go_wp2_with (first | (go_at_call 54; refine (in_calls _ _ _ (by omega) (by omega)).mono ?_; rintro e w3 ⟨rfl, rfl⟩))
                  go_ret2
                  exact ⟨by rw [HZ.out]; rfl, HP1.out.bel⟩
              · replace hia : inB (rd ah 0) a = false := by simpa using hia
                have HZ := Aside0.mk (show clashB c ah af a b = inB (rd ah 0) b by rw [HE.out, HMX.out, hl0b, hia]; rfl)
                rcases hmab with ⟨hm1, hm2⟩ | ⟨hm1, hm2⟩
                all_goals
                  go_wp2_with (first | (go_at_call 54; refine (in_calls _ _ _ (by omega) (by omega)).mono ?_; rintro e w3 ⟨rfl, rfl⟩))
                  go_ret2
                  exact ⟨by rw [HZ.out]; rfl, HP1.out.bel⟩
            · have hmxb : decide ((if a < b then b else a) < c.params) = false := decide_eq_false hmx
              have HZ := Aside0.mk (show clashB c ah af a b = false by rw [HE.out, hmxb]; simp)
              have hmab : (a < b ∧ decide (b < c.params) = false) ∨ (b ≤ a ∧ decide (a < c.params) = false) := by
                by_cases h : a < b
                · rw [if_pos h] at hmxb; exact .inl ⟨h, hmxb⟩
                · rw [if_neg h] at hmxb; exact .inr ⟨by omega, hmxb⟩
              clear hmx hmxb
              rcases hmab with ⟨hm1, hm2⟩ | ⟨hm1, hm2⟩
              all_goals
                go_wp2_with fail
                go_ret2
                exact ⟨by rw [HZ.out]; rfl, HP1.out.bel⟩
          · have hl0b : decide (0 < ah.length) = false := decide_eq_false hl0
            have HZ := Aside0.mk (show clashB c ah af a b = false by rw [HE.out, hl0b]; simp)
            go_wp2_with fail
            go_ret2
            exact ⟨by rw [HZ.out]; rfl, HP1.out.bel⟩
end Go.Proofs.Ytdcmeefeinppnaa.Live
