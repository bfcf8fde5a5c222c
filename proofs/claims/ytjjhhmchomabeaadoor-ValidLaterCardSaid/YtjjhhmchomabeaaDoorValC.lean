/- The rules that ask the module: a cell's type, a call. -/
import Derived.Test.YtjjhhmchomabeaaDoorValCallee
import Derived.Deep.CutBlock
namespace Go.Proofs.YtjjhhmchomabeaaDoor.Valid
open Go.RowKit Go.Proofs.YtjjhhmchomabeaaDoorW.PrintWords Go.Proofs.YtjjhhmchomabeaaDoorW.PrintLast Go.Proofs.YtjjhhmchomabeaaDoor.Mem Go.Proofs.YtjjhhmchomabeaaDoor.Nest
set_option linter.unusedVariables false
set_option linter.unusedSimpArgs false

/-- what the check bears that does not turn: w00: how the world was before the check was made -/
structure Stat (w00 w0 : World) (Z : Nat → Prop) (kb : Nat) (p : P13) (E : Env) (h : Hd) : Prop where
  le : w00.heap.size ≤ kb
  bel : Below w00.heap.size w00 w0
  mod : ModAt w00 h E.M
  lr : (Kd.int .i64).R 3 w0 w00.heap.size (fun k => k ≠ kb ∧ ¬ Z k) p.a11 E.locals
  zle : ∀ k, Z k → w00.heap.size ≤ k
  e0 : p.a0 = .slice h.a1 E.M.sigs.length h.c1
  e1 : p.a1 = .slice h.a2 E.M.imports.length h.c2
  e2 : p.a2 = .slice h.a3 E.M.funcs.length h.c3
  e3 : p.a3 = .int .i64 E.M.m0
  e4 : p.a4 = .int .i64 E.M.m1
  e5 : p.a5 = .slice h.a4 E.M.globals.length h.c4
  e6 : p.a6 = .slice h.a5 E.M.data.length h.c5
  e8 : p.a8 = .bool E.tr
  e12 : p.a12 = .int .i64 E.result
section
variable {w00 w0 W : World} {wr : Rf} {Z : Nat → Prop} {kb : Nat} {p : P13} {E : Env} {h : Hd} {vs vf : Value} {s : Ck}
theorem Stat.below (S : Stat w00 w0 Z kb p E h) (H : Cs w0 wr W kb p vs vf s) (hz : wr.Z = Z := by rfl) : Below w00.heap.size w00 W :=
  by
  subst hz
  exact S.bel.trans ⟨H.ch.os, H.ch.tape, H.ch.output, H.ch.size, fun i hi => H.ch.block i (Nat.lt_of_lt_of_le hi S.bel.size) (fun e => by rcases e with e | e; (have := S.le; omega); (have := S.zle i e; omega))⟩
theorem Stat.modAt (S : Stat w00 w0 Z kb p E h) (H : Cs w0 wr W kb p vs vf s) (hz : wr.Z = Z := by rfl) : ModAt W h E.M := S.mod.below (S.below H hz)
theorem Stat.locals (S : Stat w00 w0 Z kb p E h) (H : Cs w0 wr W kb p vs vf s) (hz : wr.Z = Z := by rfl) : ∃ A c, p.a11 = .slice A E.locals.length c ∧ E.locals.length ≤ c ∧ (Kd.int .i64).C W A E.locals.length E.locals :=
  by
  subst hz
  exact Kd.R_reads (Kd.R_step S.lr (fun k hk hlt => H.ch.block k hlt (fun e => e.elim hk.1 hk.2)))
theorem addr_add0 (a : Addr) : a.add 0 = a := by cases a; simp [Addr.add]
theorem first_calls (A : Option Addr) (c : Nat) (l : List Int) (W : World) (hC : (Kd.int .i64).C W A l.length l) :
    Calls Tryd.prog 38 #[.slice A l.length c] W fun e W' => e = .returned (.int .i64 (firstL l)) ∧ W' = W := by
  cases l with
  | nil =>
    clear hC
    show Calls _ _ #[.slice A 0 c] W fun e W' => e = .returned (.int .i64 (-1)) ∧ W' = W
    go_enter Tryd.func38, Tryd.ntmps38
    go_wp2_with fail
    go_ret
    exact ⟨rfl, rfl⟩
  | cons t r =>
    obtain ⟨ad, rfl, hx⟩ := Kd.at_int hC 0 (by omega) (by simp)
    have hx : W.cell? (ad.add 0) = some (.int .i64 t) := hx
    rw [addr_add0] at hx
    obtain ⟨n, hn⟩ : ∃ n, (t :: r).length = n + 1 := ⟨r.length, rfl⟩
    have hF := Aside0.mk (show firstL (t :: r) = t from rfl)
    rw [hF.out]
    rw [hn]
    clear hn hC hF
    have hl : ((n : Int) + 1 == 0) = false := by simp; omega
    go_enter Tryd.func38, Tryd.ntmps38
    go_wp2_with fail
    go_ret
    exact ⟨rfl, rfl⟩
set_option maxHeartbeats 2000000 in
set_option maxRecDepth 100000 in
theorem cell_calls (S : Stat w00 w0 Z kb p E h) (H : Cs w0 wr W kb p vs vf s) (x : T3) (hn : 0 ≤ x.2.1) (hc : Can x.2.1) (hz : wr.Z = Z := by rfl) :
    Calls Tryd.prog 62 #[.pointer (some ⟨kb, 0, none⟩), .agg #[.int .i64 x.1, .int .i64 x.2.1, .int .i64 x.2.2]] W fun e W' =>
      match cellT E x.1 x.2.1 with
      | .error q => e = .panicked (brk q) ∧ Bad w0 wr kb W'
      | .ok t => e = .returned (.int .i64 t) ∧ Cs w0 wr W' kb p vs vf s := by
  subst hz
  obtain ⟨op, n, m⟩ := x
  obtain ⟨nn, rfl⟩ := Int.eq_ofNat_of_zero_le (show 0 ≤ n from hn)
  have hc2 : (nn : Int) < 9223372036854775808 := hc.2
  dsimp only
  clear hc hn
  have H1 := H.alloc (.cells #[.int .i64 op, .int .i64 nn, .int .i64 m] 45)
  have HQ := Aside0.mk H1
  have hq1 : (W.alloc (.cells #[.int .i64 op, .int .i64 nn, .int .i64 m] 45)).cell? ⟨W.heap.size, 1, none⟩ = some (.int .i64 nn) := by simp
  by_cases hop : op = 35 ∨ op = 36
  · have hb : (op == 35 || op == 36) = true := by rcases hop with h | h <;> simp [h]
    have hE : cellT E op nn = if (nn : Int) < E.M.globals.length then .ok (E.M.globals.getD nn (0, 0)).1 else .error 3 := by unfold cellT; rw [if_pos hop]; rfl
    have h5 : _ = some p.a5 := blk_cell H1.box 5
    rw [S.e5] at h5
    have hl5 := S.mod.l4
    have hlen := S.mod.globals.2.1
    by_cases hlt : nn < E.M.globals.length
    · rw [if_pos (by omega)] at hE
      rw [hE]
      obtain ⟨ad, ha, hx0, hx1⟩ := at_global (S.modAt H1).globals nn hlt
      obtain ⟨G, hG⟩ : ∃ G, E.M.globals.getD nn (0, 0) = G := ⟨_, rfl⟩
      rw [hG] at hx0 hx1 ⊢
      clear hG
      have hltb : decide (nn < E.M.globals.length) = true := by simpa using hlt
      clear hE S H H1
      rcases hop with rfl | rfl
      all_goals
        clear hb
        go_enter Tryd.func62, Tryd.ntmps62
        go_wp2_with fail
        generalize W.alloc _ = W1 at *
        go_still_tail 9, (by kernel_rfl)
        go_wp2_with fail
        refine (must_yes _).mono ?_
        rintro e w2 ⟨rfl, rfl⟩
        go_wp2_with fail
        go_region
        go_wp2_with fail
        go_ret
        exact ⟨rfl, HQ.out.drew.drew⟩
    · rw [if_neg (by omega)] at hE
      rw [hE]
      have hltb : decide (nn < E.M.globals.length) = false := by simpa using hlt
      clear hE S H H1
      rcases hop with rfl | rfl
      all_goals
        clear hb
        go_enter Tryd.func62, Tryd.ntmps62
        go_wp2_with fail
        generalize W.alloc _ = W1 at *
        go_still_tail 9, (by kernel_rfl)
        go_wp2_with fail
        refine (must_no _).mono ?_
        rintro e w2 ⟨rfl, rfl⟩
        exact ⟨rfl, rfl, HQ.out.drew.bad⟩
  · have hE : cellT E op nn = if (nn : Int) < E.locals.length then .ok (rd E.locals nn) else .error 3 := by unfold cellT; rw [if_neg hop]
    have hb1 : (op == 35) = false := by simp; exact fun h => hop (.inl h)
    have hb2 : (op == 36) = false := by simp; exact fun h => hop (.inr h)
    clear hop
    obtain ⟨A, c, ea, hlc, hC⟩ := S.locals H1
    have h11 : _ = some p.a11 := blk_cell H1.box 11
    rw [ea] at h11
    have hlen := hC.2.1
    by_cases hlt : nn < E.locals.length
    · rw [if_pos (by omega)] at hE
      rw [hE]
      obtain ⟨ad, rfl, hx0⟩ := Kd.at_int hC (nn : Int) (by omega) (by omega)
      rw [Int.toNat_natCast] at hx0
      have hltb : decide (nn < E.locals.length) = true := by simpa using hlt
      clear hE S H H1 ea hC
      go_enter Tryd.func62, Tryd.ntmps62
      go_wp2_with fail
      generalize W.alloc _ = W1 at *
      go_still_tail 8, (by kernel_rfl)
      go_wp2_with fail
      refine (must_yes _).mono ?_
      rintro e w2 ⟨rfl, rfl⟩
      go_wp2_with fail
      go_region
      go_wp2_with fail
      go_ret
      exact ⟨rfl, HQ.out.drew.drew⟩
    · rw [if_neg (by omega)] at hE
      rw [hE]
      have hltb : decide (nn < E.locals.length) = false := by simpa using hlt
      clear hE S H H1 ea hC
      go_enter Tryd.func62, Tryd.ntmps62
      go_wp2_with fail
      generalize W.alloc _ = W1 at *
      go_still_tail 8, (by kernel_rfl)
      go_wp2_with fail
      refine (must_no _).mono ?_
      rintro e w2 ⟨rfl, rfl⟩
      exact ⟨rfl, rfl, HQ.out.drew.bad⟩
theorem mix_can {a b t : Int} (ha : Ty a) (hb : Ty b) (h : mixT a b = .ok t) : Ty t := by
  unfold mixT at h
  split at h
  · cases h; exact hb
  · split at h
    · split at h
      · rename_i hj
        cases h
        unfold joinL at hj ⊢
        split at hj
        · rename_i hh
          rw [if_pos hh]
          show Ty (ofL _ _)
          unfold ofL
          constructor <;> split <;> split <;> decide
        · cases hj
      · cases h
    · cases h; exact ha
theorem tint_ty {how t : Int} (h : Ty t) : Ty (tintT how t) := by
  unfold tintT
  split
  · unfold ofL
    constructor <;> split <;> split <;> decide
  · exact h
set_option maxHeartbeats 16000000 in
set_option maxRecDepth 100000 in
/-- Select -/
theorem choose_calls (H : Cs w0 wr W kb p vs vf s) (wf : Wf s) :
    Calls Tryd.prog 60 #[.pointer (some ⟨kb, 0, none⟩)] W (Out w0 wr kb p vf unit (choose s)) := by
  have HP1 := Aside0.mk (pop_calls H wf)
  have HWF := Aside0.mk wf
  clear H wf
  go_enter Tryd.func60, Tryd.ntmps60
  go_wp2_with fail
  refine HP1.out.mono ?_
  intro e w1 hh
  cases h1 : pop s with
  | error q =>
    rw [h1] at hh
    obtain ⟨rfl, h⟩ := hh
    exact ⟨rfl, out_no (by unfold choose; rw [h1]) h⟩
  | ok r =>
    obtain ⟨how, s1⟩ := r
    rw [h1] at hh
    obtain ⟨rfl, v1, H1⟩ := hh
    have HW1 := Aside0.mk (pop_wf HWF.out h1)
    have hcan := ty_can HW1.out.2.2
    have HP2 := Aside0.mk (pop_calls H1 HW1.out.1)
    have HC1 := Aside0.mk H1.bad
    have HE1 := Aside0.mk h1
    clear HP1 H1 h1
    go_upto_region 1 with (fail)
    go_cut [16] (fun s16 wx => s16 = unit ∧ (how = -1 ∨ wide how = false) ∧ wx = w1)
    case first =>
      by_cases hx : how = -1
      · have HHW := Aside0.mk (show how = -1 ∨ wide how = false from .inl hx)
        have hb1 : (how == -1) = true := by simpa using hx
        clear hx
        go_wp2_with fail
        refine (must_yes _).mono ?_
        rintro e w2 ⟨rfl, rfl⟩
        go_wp2_with fail
        go_meet
        exact ⟨rfl, HHW.out, rfl⟩
      · have hb1 : (how == -1) = false := by simpa using hx
        cases hwd : wide how
        · have HHW := Aside0.mk (show how = -1 ∨ wide how = false from .inr hwd)
          clear hx
          go_wp2_with (go_at_call 21; refine (wide_calls _ _ (by assumption)).mono ?_; rintro e w' ⟨rfl, rfl⟩)
          refine (must_yes _).mono ?_
          rintro e w2 ⟨rfl, rfl⟩
          go_wp2_with fail
          go_meet
          exact ⟨rfl, HHW.out, rfl⟩
        · have HE := Aside0.mk (show choose s = .error 3 by unfold choose; rw [HE1.out]; dsimp only; rw [if_neg (by rintro (h | h); exact hx h; rw [hwd] at h; cases h)])
          clear hx
          go_wp2_with (go_at_call 21; refine (wide_calls _ _ (by assumption)).mono ?_; rintro e w' ⟨rfl, rfl⟩)
          refine (must_no _).mono ?_
          rintro e w5 ⟨rfl, rfl⟩
          exact ⟨rfl, out_no HE.out HC1.out⟩
    case rest =>
    obtain ⟨rfl, hw, rfl⟩ := hcut
    have HHW := Aside0.mk hw
    clear hw
    go_wp2_with fail
    refine HP2.out.mono ?_
    intro e w3 hh
    cases h2 : pop s1 with
    | error q =>
      rw [h2] at hh
      obtain ⟨rfl, h⟩ := hh
      exact ⟨rfl, out_no (by unfold choose; rw [HE1.out]; dsimp only; rw [if_pos HHW.out, h2]) h⟩
    | ok r =>
      obtain ⟨b, s2⟩ := r
      rw [h2] at hh
      obtain ⟨rfl, v2, H2⟩ := hh
      have HW2 := Aside0.mk (pop_wf HW1.out.1 h2)
      have hcanb := ty_can HW2.out.2.2
      have HP3 := Aside0.mk (pop_calls H2 HW2.out.1)
      have HE2 := Aside0.mk h2
      clear HP2 H2 h2
      go_wp2_with fail
      refine HP3.out.mono ?_
      intro e w4 hh
      cases h3 : pop s2 with
      | error q =>
        rw [h3] at hh
        obtain ⟨rfl, h⟩ := hh
        exact ⟨rfl, out_no (by unfold choose; rw [HE1.out]; dsimp only; rw [if_pos HHW.out, HE2.out]; dsimp only; rw [h3]) h⟩
      | ok r =>
        obtain ⟨a, s3⟩ := r
        rw [h3] at hh
        obtain ⟨rfl, v3, H3⟩ := hh
        have HW3 := Aside0.mk (pop_wf HW2.out.1 h3)
        have hcana := ty_can HW3.out.2.2
        have HE3 := Aside0.mk (show choose s = match mixT a b with | .error e => .error e | .ok t => push (tintT how t) s3 by unfold choose; rw [HE1.out]; dsimp only; rw [if_pos HHW.out, HE2.out]; dsimp only; rw [h3]; rfl)
        have HP := Aside0.mk H3
        clear HP3 H3 h3 HE1 HE2
        go_upto_block 0 with (fail)
        go_cut [4] (fun s4 wx => (∃ t, s4 = .int .i64 t ∧ mixT a b = .ok t) ∧ wx = w4)
        case first =>
          have hways : (∃ t, mixT a b = .ok t ∧ (((a == -1) = true ∧ t = b) ∨ ((a == -1) = false ∧ (b != -1) = true ∧ (joinL a b).2 = true ∧ (joinL a b).1 = t) ∨ ((a == -1) = false ∧ (b != -1) = false ∧ t = a))) ∨ (mixT a b = .error 3 ∧ (a == -1) = false ∧ (b != -1) = true ∧ (joinL a b).2 = false) := by
            unfold mixT
            by_cases ha : a = -1
            · left; subst ha; exact ⟨b, rfl, .inl ⟨rfl, rfl⟩⟩
            · have ha' : (a == -1) = false := by simpa using ha
              rw [if_neg ha]
              by_cases hb : b = -1
              · left; subst hb; exact ⟨a, rfl, .inr (.inr ⟨ha', rfl, rfl⟩)⟩
              · have hb' : (b != -1) = true := by simpa using hb
                rw [if_pos hb]
                cases hj : (joinL a b).2
                · right; exact ⟨rfl, ha', hb', rfl⟩
                · left; exact ⟨_, rfl, .inr (.inl ⟨ha', hb', rfl, rfl⟩)⟩
          rcases hways with ⟨t, HMX, hw⟩ | ⟨HMX, hwa, hwb, hwj⟩
          · have HM := Aside0.mk HMX
            clear HMX HE3 HHW HP
            rcases hw with ⟨hwa, rfl⟩ | ⟨hwa, hwb, hwj, hwt⟩ | ⟨hwa, hwb, rfl⟩
            all_goals
              go_wp2_with (first | (go_at_call 72; refine (join_calls _ _ _ (by assumption) (by assumption)).mono ?_; rintro e w' ⟨rfl, rfl⟩) | (go_at_call 54; refine (must_yes _).mono ?_; rintro e w' ⟨rfl, rfl⟩))
              go_meet
              exact ⟨⟨_, rfl, HM.out⟩, rfl⟩
          · rw [HMX] at HE3
            have HFIN := Aside0.mk (show choose s = .error 3 from HE3.out)
            clear HE3 HMX HHW
            go_wp2_with (go_at_call 72; refine (join_calls _ _ _ (by assumption) (by assumption)).mono ?_; rintro e w' ⟨rfl, rfl⟩)
            refine (must_no _).mono ?_
            rintro e w5 ⟨rfl, rfl⟩
            exact ⟨rfl, out_no HFIN.out HP.out.bad⟩
        case rest =>
          obtain ⟨⟨t, rfl, HMX⟩, rfl⟩ := hcut
          rw [HMX] at HE3
          have hty := mix_can HW3.out.2.2 HW2.out.2.2 HMX
          have hcant := ty_can hty
          have htints : ∃ u, tintT how t = u ∧ (((t != -1) = false ∧ u = t) ∨ ((t != -1) = true ∧ (how != -1) = false ∧ u = t) ∨ ((t != -1) = true ∧ (how != -1) = true ∧ ((secret t = true ∧ u = ofL (wide t) true) ∨ (secret t = false ∧ u = ofL (wide t) (secret how))))) := by
            unfold tintT
            refine ⟨_, rfl, ?_⟩
            by_cases ht : t = -1
            · left; subst ht; exact ⟨rfl, by rw [if_neg (by simp)]⟩
            · right
              have ht' : (t != -1) = true := by simpa using ht
              by_cases hh : how = -1
              · left; subst hh; exact ⟨ht', rfl, by rw [if_neg (by simp)]⟩
              · right
                refine ⟨ht', by simpa using hh, ?_⟩
                rw [if_pos ⟨ht, hh⟩]
                cases hs : secret t
                · right; exact ⟨rfl, by simp⟩
                · left; exact ⟨rfl, by simp⟩
          obtain ⟨u, hu, htt⟩ := htints
          have HFIN := Aside0.mk (show choose s = push u s3 by rw [HE3.out]; dsimp only; rw [hu])
          have HPU := Aside0.mk (push_calls u HP.out HW3.out.1)
          clear hu HE3 HMX hty HP HHW HW1 HW2 HW3 HC1
          rcases htt with ⟨htb, rfl⟩ | ⟨htb, htb2, rfl⟩ | ⟨htb, htb2, ⟨hsb, hub⟩ | ⟨hsb, hub⟩⟩
          all_goals
            first | (rw [hub] at HPU) | skip
            go_wp2_with (first | (go_at_call 21; refine (wide_calls _ _ (by assumption)).mono ?_; rintro e w' ⟨rfl, rfl⟩) | (go_at_call 73; refine (secret_calls _ _ (by assumption)).mono ?_; rintro e w' ⟨rfl, rfl⟩) | (go_at_call 63; refine (of_calls _ _ _).mono ?_; rintro e w' ⟨rfl, rfl⟩))
            refine HPU.out.mono ?_
            intro e w5 hh
            cases hpu : push u s3 with
            | error q =>
              first | (rw [← hub, hpu] at hh) | (rw [hpu] at hh)
              obtain ⟨rfl, h⟩ := hh
              exact ⟨rfl, out_no (by rw [HFIN.out, hpu]) h⟩
            | ok s4 =>
              first | (rw [← hub, hpu] at hh) | (rw [hpu] at hh)
              obtain ⟨rfl, v5, H5⟩ := hh
              have HO := Aside0.mk (show Out w0 wr kb p vf unit (choose s) (.returned unit) w5 from out_ok (by rw [HFIN.out, hpu]) H5)
              clear H5 hpu HPU HFIN
              go_wp2_with fail
              go_end0
              exact HO.out
end
end Go.Proofs.YtjjhhmchomabeaaDoor.Valid
