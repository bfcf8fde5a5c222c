/- What a rule wants of the stack; what a branch takes; how a block ends. -/
import Derived.Test.YtjjhhmchomabeaaDoorValMod
import Derived.Test.YtjjhhmchomabeaaDoorLabel
import Derived.StillTailTactics
namespace Go.Proofs.YtjjhhmchomabeaaDoor.Valid
open Go.RowKit Go.Proofs.YtjjhhmchomabeaaDoorW.PrintWords Go.Proofs.YtjjhhmchomabeaaDoorW.PrintLast Go.Proofs.YtjjhhmchomabeaaDoor.Mem Go.Proofs.YtjjhhmchomabeaaDoor.Nest
set_option linter.unusedVariables false
set_option linter.unusedSimpArgs false

/-- how a step ends: the rule that is broken, or what lies there now -/
def Out (w0 : World) (wr : Rf) (kb : Nat) (p : P13) (vf : Value) (v : Value) (r : Except Int Ck) (e : Ending) (W' : World) : Prop :=
  match r with
  | .error q => e = .panicked (brk q) ∧ Bad w0 wr kb W'
  | .ok s => e = .returned v ∧ ∃ vs', Cs w0 wr W' kb p vs' vf s
abbrev unit : Value := .tuple #[]
section
variable {w0 W : World} {wr : Rf} {kb : Nat} {p : P13} {vs vf : Value} {s : Ck}
theorem top_calls {g cap n q : Nat} (H : Cs w0 wr W kb p vs (.slice (some ⟨g, 0, none⟩) n cap) s) (hn : s.fr.length = q + 1) :
    Calls Tryd.prog 39 #[.pointer (some ⟨kb, 0, none⟩)] W fun e W' => e = .returned (.pointer (some ⟨g, q * 6, none⟩)) ∧ Below W.heap.size W W' := by
  have h14 := blk_cell H.box 14
  have hle := H.flen
  obtain ⟨rfl, _, _⟩ := Kd.R_reads' H.fr
  rw [hn] at hle h14
  clear H hn
  go_enter Tryd.func39, Tryd.ntmps39
  go_wp2_with fail
  go_region
  go_wp2_with fail
  go_ret
  exact ⟨rfl, drew_below _⟩
theorem top_q {q : Nat} (hn : s.fr.length = q + 1) : s.top = s.fr.getD q zFr := by unfold Ck.top; rw [hn]; rfl
/-- the block that is open last -/
theorem Cs.last {g cap n q : Nat} (H : Cs w0 wr W kb p vs (.slice (some ⟨g, 0, none⟩) n cap) s) (hn : s.fr.length = q + 1) : FrAt W g (q * 6) s.top := by
  rw [top_q hn]
  exact H.frAt q (by omega)
set_option maxHeartbeats 1000000 in
theorem pop_calls (H : Cs w0 wr W kb p vs vf s) (wf : Wf s) :
    Calls Tryd.prog 59 #[.pointer (some ⟨kb, 0, none⟩)] W fun e W' =>
      match pop s with
      | .error q => e = .panicked (brk q) ∧ Bad w0 wr kb W'
      | .ok (t, s1) => e = .returned (.int .i64 t) ∧ ∃ vs', Cs w0 wr W' kb p vs' vf s1 := by
  obtain ⟨q, hn⟩ : ∃ q, s.fr.length = q + 1 := ⟨s.fr.length - 1, by have := wf.pos; omega⟩
  obtain ⟨g, cap, rfl, hg1, hg2⟩ := H.form wf.pos
  obtain ⟨Av, cv, rfl⟩ := Kd.R_slice H.st
  have HT := Aside0.mk (top_calls H hn)
  have HA := Aside0.mk (fun (w1 : World) (hb : Below W.heap.size W w1) => H.below hb)
  have hlow := wf.low
  have hnn := wf.nn
  have hsl := H.slen
  obtain ⟨f, hf⟩ : ∃ f, s.top = f := ⟨_, rfl⟩
  have HF := Aside0.mk (fun (w1 : World) (hb : Below W.heap.size W w1) => (H.below hb).last hn)
  rw [hf] at hlow hnn HF
  clear hn hg1 hg2 H
  by_cases h1 : (s.st.length : Int) = f.high
  · have hh : f.high = (s.st.length : Int) := h1.symm
    cases hb0 : f.dead
    all_goals
      have hpop : pop s = if f.dead then .ok (-1, s) else .error 3 := by unfold pop; rw [hf, if_pos h1]
      rw [hb0] at hpop
      simp only [if_true, if_false, Bool.false_eq_true] at hpop
      rw [hpop]
      clear hpop h1 hlow hnn
      go_enter Tryd.func59, Tryd.ntmps59
      go_wp2_with fail
      refine HT.out.mono ?_
      rintro e w1 ⟨rfl, hb⟩
      have H1 := Aside0.mk (HA.out w1 hb)
      obtain ⟨_, _, f2, f3, _, _, _⟩ := HF.out w1 hb
      rw [hh] at f2
      rw [hb0] at f3
      have h13 := blk_cell H1.out.box 13
      clear hb HT HA HF hb0 hf
      go_wp2_with fail
      go_region
      go_wp2_with fail
    · refine (must_no _).mono ?_
      rintro e w2 ⟨rfl, rfl⟩
      exact ⟨rfl, rfl, H1.out.drew.bad⟩
    · refine (must_yes _).mono ?_
      rintro e w2 ⟨rfl, rfl⟩
      go_wp2_with fail
      go_ret
      exact ⟨rfl, _, H1.out.drew⟩
  · have hpop : pop s = .ok (s.st.getD (s.st.length - 1) 0, ⟨s.st.take (s.st.length - 1), s.fr⟩) := by unfold pop; rw [hf, if_neg h1]
    rw [hpop]
    clear hpop
    obtain ⟨m, hm⟩ : ∃ m, s.st.length = m + 1 := ⟨s.st.length - 1, by omega⟩
    have HM := Aside0.mk hm
    rw [hm] at HA h1 hlow hsl ⊢
    have hhb : ((m : Int) + 1 == f.high) = false := by simp; omega
    clear hlow h1 hm
    go_enter Tryd.func59, Tryd.ntmps59
    go_wp2_with fail
    refine HT.out.mono ?_
    rintro e w1 ⟨rfl, hb⟩
    have H1 := HA.out w1 hb
    obtain ⟨_, _, f2, f3, _, _, _⟩ := HF.out w1 hb
    have h13 := blk_cell H1.box 13
    have z13 := blk_frozen H1.box 13
    obtain ⟨g2, cap2, e2, _, _⟩ := Kd.R_form H1.st (by rw [HM.out]; omega)
    injection e2 with e2 e3 e4
    subst e2
    obtain ⟨hc, hcv⟩ := H1.stAt m (by rw [HM.out]; omega)
    have H2 := Aside0.mk (H1.drew.drew.drew.cutSt (Kd.R_take H1.drew.drew.drew.st (m := m) (by rw [HM.out]; omega)) rfl)
    clear hb HT HA HF hf H1 e3 e4
    go_wp2_with fail
    go_region
    go_wp2_with fail
    go_region
    go_wp2_with fail
    go_region
    go_wp2_with fail
    go_ret
    exact ⟨rfl, _, H2.out⟩
theorem pop_ok {t : Int} {s1 : Ck} (h : pop s = .ok (t, s1)) (H : Cs w0 wr W kb p vs vf s) (wf : Wf s) : Calls Tryd.prog 59 #[.pointer (some ⟨kb, 0, none⟩)] W fun e W' => e = .returned (.int .i64 t) ∧ ∃ vs', Cs w0 wr W' kb p vs' vf s1 := by
  have h1 := pop_calls H wf
  rw [h] at h1
  exact h1
theorem pop_no {q : Int} (h : pop s = .error q) (H : Cs w0 wr W kb p vs vf s) (wf : Wf s) : Calls Tryd.prog 59 #[.pointer (some ⟨kb, 0, none⟩)] W fun e W' => e = .panicked (brk q) ∧ Bad w0 wr kb W' := by
  have h1 := pop_calls H wf
  rw [h] at h1
  exact h1
set_option maxHeartbeats 1000000 in
theorem push_calls (t : Int) (H : Cs w0 wr W kb p vs vf s) (wf : Wf s) :
    Calls Tryd.prog 61 #[.pointer (some ⟨kb, 0, none⟩), .int .i64 t] W (Out w0 wr kb p vf unit (push t s)) := by
  obtain ⟨Av, cv, rfl⟩ := Kd.R_slice H.st
  have h13 := blk_cell H.box 13
  have HQ := Aside0.mk H
  have HNB := Aside0.mk (show some kb ≠ (Value.slice Av s.st.length cv).ownBlock from fun e => by have := Kd.R_base H.st kb e.symm; have := H.klt; omega)
  have hsz := H.size
  have hfew := wf.few
  obtain ⟨st, fr⟩ := s
  dsimp only at hfew h13 HNB
  clear H wf
  by_cases h1 : st.length + 1 > 16
  all_goals
    have hr : push t ⟨st, fr⟩ = if st.length + 1 > 16 then .error 1 else .ok ⟨st ++ [t], fr⟩ := rfl
    first | rw [if_pos h1] at hr | rw [if_neg h1] at hr
    rw [hr]
    have h2 : (decide ((st.length : Int) + 1 > 16)) = decide (st.length + 1 > 16) := by
      by_cases h : st.length + 1 > 16
      · rw [decide_eq_true h]; simp; omega
      · rw [decide_eq_false h]; simp; omega
    first | rw [decide_eq_true h1] at h2 | rw [decide_eq_false h1] at h2
    clear hr h1
    go_enter Tryd.func61, Tryd.ntmps61
    go_wp2_with ((with_reducible refine gate_builtin (b := .append) (xs := #[.tmp 8, .tmp 10]) rfl ?_); at_builtin; refine Kd.R_append (Kd.int .i64) (w0 := W) w0.heap.size rfl (.tmp 8) (.tmp 10) 23 3 (.int .i64 0) 8 rfl Tryd.underlying23 infoInt rfl (by decide) (by omega) (.slice Av st.length cv) st t [.int .i64 t] (fun _ => True) (fun _ => False) rfl rfl rfl (fun _ hk => hk.elim) (fun _ _ => trivial) HQ.out.st (Below.refl _ _ |>.mono hsz) hsz (by omega) ?_; intro v1 w3 hO hB hg hat; have hb1 := blk_grown HQ.out.box hg HNB.out; have hc3 := blk_cell hb1 13; have hf3 := blk_frozen hb1 13; have HN := Aside0.mk (HQ.out.putSt hg hat hO); obtain ⟨A1, c1, e1⟩ := Kd.R_slice hO; subst e1; clear hO hB hg hat hb1)
    rw [List.length_append, List.length_cons, List.length_nil, Nat.zero_add] at HN
  · exact ⟨rfl, rfl, HN.out.bad⟩
  · go_end0
    exact ⟨rfl, _, HN.out⟩
end
end Go.Proofs.YtjjhhmchomabeaaDoor.Valid
namespace Go.Proofs.YtjjhhmchomabeaaDoor.Valid
open Go.RowKit Go.Proofs.YtjjhhmchomabeaaDoorW.PrintWords Go.Proofs.YtjjhhmchomabeaaDoorW.PrintLast Go.Proofs.YtjjhhmchomabeaaDoor.Mem Go.Proofs.YtjjhhmchomabeaaDoor.Nest
set_option linter.unusedVariables false
set_option linter.unusedSimpArgs false

theorem ty_can {t : Int} (h : Ty t) : Can t := ⟨by have := h.1; omega, by have := h.2; omega⟩
structure Hold (P : Prop) : Prop where
  out : P
section
variable {w0 W : World} {wr : Rf} {kb : Nat} {p : P13} {vs vf : Value} {s : Ck}
theorem out_no {v : Value} {q : Int} {r : Except Int Ck} (h : r = .error q) {W' : World} (hc : Bad w0 wr kb W') : Out w0 wr kb p vf v r (.panicked (brk q)) W' := by subst h; exact ⟨rfl, hc⟩
theorem out_ok {v : Value} {s1 : Ck} {r : Except Int Ck} (h : r = .ok s1) {W' : World} {vs' : Value} (hc : Cs w0 wr W' kb p vs' vf s1) : Out w0 wr kb p vf v r (.returned v) W' := by subst h; exact ⟨rfl, _, hc⟩
theorem want_calls (u : Int) (hu : Can u) (H : Cs w0 wr W kb p vs vf s) (wf : Wf s) :
    Calls Tryd.prog 52 #[.pointer (some ⟨kb, 0, none⟩), .int .i64 u] W (Out w0 wr kb p vf unit (want u s)) := by
  cases hp : pop s with
  | error q =>
    have HE := Aside0.mk (show want u s = .error q by unfold want; rw [hp])
    have HP := Aside0.mk (pop_no hp H wf)
    clear H wf hp
    go_enter Tryd.func52, Tryd.ntmps52
    go_wp2_with fail
    refine HP.out.mono ?_
    rintro e w1 ⟨rfl, h⟩
    exact ⟨rfl, out_no HE.out h⟩
  | ok r =>
    obtain ⟨t, s1⟩ := r
    have HE := Aside0.mk (show want u s = if t = -1 ∨ flows t u = true then .ok s1 else .error 3 by unfold want; rw [hp])
    have HP := Aside0.mk (pop_ok hp H wf)
    have ht := ty_can (pop_wf wf hp).2.2
    clear H wf hp
    by_cases h1 : t = -1
    · subst h1
      rw [if_pos (.inl rfl)] at HE
      go_enter Tryd.func52, Tryd.ntmps52
      go_wp2_with fail
      refine HP.out.mono ?_
      rintro e w1 ⟨rfl, v1, H1⟩
      have H2 := Aside0.mk H1
      clear HP H1
      go_wp2_with fail
      refine (must_yes _).mono ?_
      rintro e w2 ⟨rfl, rfl⟩
      go_wp2_with fail
      go_end0
      exact out_ok HE.out H2.out
    · have hb : (t == -1) = false := by simpa using h1
      cases hfl : flows t u
      · rw [hfl, if_neg (by rintro (h | h); exact h1 h; cases h)] at HE
        clear h1
        go_enter Tryd.func52, Tryd.ntmps52
        go_wp2_with fail
        refine HP.out.mono ?_
        rintro e w1 ⟨rfl, v1, H1⟩
        have H2 := Aside0.mk H1
        clear HP H1
        go_wp2_with (go_at_call 20; refine (flows_calls _ _ _ (by assumption) (by assumption)).mono ?_; rintro e w' ⟨rfl, rfl⟩)
        refine (must_no _).mono ?_
        rintro e w2 ⟨rfl, rfl⟩
        exact ⟨rfl, out_no HE.out H2.out.bad⟩
      · rw [hfl, if_pos (.inr rfl)] at HE
        clear h1
        go_enter Tryd.func52, Tryd.ntmps52
        go_wp2_with fail
        refine HP.out.mono ?_
        rintro e w1 ⟨rfl, v1, H1⟩
        have H2 := Aside0.mk H1
        clear HP H1
        go_wp2_with (go_at_call 20; refine (flows_calls _ _ _ (by assumption) (by assumption)).mono ?_; rintro e w' ⟨rfl, rfl⟩)
        refine (must_yes _).mono ?_
        rintro e w2 ⟨rfl, rfl⟩
        go_wp2_with fail
        go_end0
        exact out_ok HE.out H2.out
theorem take_calls (u : Int) (hu : Can u) (H : Cs w0 wr W kb p vs vf s) (wf : Wf s) :
    Calls Tryd.prog 56 #[.pointer (some ⟨kb, 0, none⟩), .int .i64 u] W (Out w0 wr kb p vf unit (take u s)) := by
  have HP := Aside0.mk (want_calls u hu H wf)
  have H2 := Aside0.mk H
  clear H wf hu
  by_cases h1 : u = -1
  · have HE := Aside0.mk (show take u s = .ok s by unfold take; rw [if_pos h1])
    subst h1
    go_enter Tryd.func56, Tryd.ntmps56
    go_wp2_with fail
    go_end0
    exact out_ok HE.out H2.out
  · have HE := Aside0.mk (show take u s = want u s by unfold take; rw [if_neg h1])
    have hb : (u != -1) = true := by simpa using h1
    rw [HE.out]
    clear h1
    go_enter Tryd.func56, Tryd.ntmps56
    go_wp2_with fail
    refine HP.out.mono ?_
    intro e w1 h
    cases hr : want u s with
    | error q =>
      rw [hr] at h
      obtain ⟨rfl, h⟩ := h
      exact ⟨rfl, rfl, h⟩
    | ok s1 =>
      rw [hr] at h
      obtain ⟨rfl, v1, h⟩ := h
      have H3 := Aside0.mk h
      have HR := Aside0.mk hr
      clear h hr HE HP
      go_wp2_with fail
      go_end0
      exact out_ok HR.out H3.out
theorem give_calls (u : Int) (H : Cs w0 wr W kb p vs vf s) (wf : Wf s) :
    Calls Tryd.prog 55 #[.pointer (some ⟨kb, 0, none⟩), .int .i64 u] W (Out w0 wr kb p vf unit (give u s)) := by
  have HP := Aside0.mk (push_calls u H wf)
  have H2 := Aside0.mk H
  clear H wf
  by_cases h1 : u = -1
  · have HE := Aside0.mk (show give u s = .ok s by unfold give; rw [if_pos h1])
    subst h1
    go_enter Tryd.func55, Tryd.ntmps55
    go_wp2_with fail
    go_end0
    exact out_ok HE.out H2.out
  · have HE := Aside0.mk (show give u s = push u s by unfold give; rw [if_neg h1])
    have hb : (u != -1) = true := by simpa using h1
    rw [HE.out]
    clear h1
    go_enter Tryd.func55, Tryd.ntmps55
    go_wp2_with fail
    refine HP.out.mono ?_
    intro e w1 h
    cases hr : push u s with
    | error q =>
      rw [hr] at h
      obtain ⟨rfl, h⟩ := h
      exact ⟨rfl, rfl, h⟩
    | ok s1 =>
      rw [hr] at h
      obtain ⟨rfl, v1, h⟩ := h
      have H3 := Aside0.mk h
      have HR := Aside0.mk hr
      clear h hr HE HP
      go_wp2_with fail
      go_end0
      exact out_ok HR.out H3.out
/-- the mark 'dead' of the last block -/
theorem Cs.setDead {g cap q : Nat} (h : Cs w0 wr W kb p vs (.slice (some ⟨g, 0, none⟩) s.fr.length cap) s) (hn : s.fr.length = q + 1) (b : Bool) :
    Cs w0 wr (W.setCell ⟨g, q * 6 + 3, none⟩ (.bool b)) kb p vs (.slice (some ⟨g, 0, none⟩) s.fr.length cap) (s.setTop { s.top with dead := b }) := by
  obtain ⟨ce, hcl, hM, hcc, hfr⟩ := Kd.R_elem h.fr zFr (q : Int) (by omega) (by omega)
  obtain rfl := kFr_open hM
  have he : s.fr.getD ((q : Int)).toNat zFr = s.top := by rw [top_q hn]; rfl
  have hR := Kd.R_seg h.fr (q : Int) (by omega) (by omega) (seg := [.bool b]) (j := 3) hcl hcc (show 4 ≤ 6 from by decide) (x' := { s.top with dead := b }) (okp := fun k => True ∧ k ≠ g) (by rw [he]; exact kFr_M _ _ _ _) (fun _ hk => hk)
  have hb := Kd.R_base h.fr g rfl
  have hnb : some kb ≠ some g := fun e => by injection e with e; have := h.klt; omega
  have hg : W.grownBy (W.setCell ⟨g, q * 6 + 3, none⟩ (.bool b)) (some g) := hR.2
  refine ⟨h.ch.grown hg (fun k hk => .inr (by injection hk with hk; omega)), h.klt, blk_grown h.box hg hnb, Kd.R_over' h.st (Kd.R_typed h.fr) (by decide) hg, ?_, h.kp.growF hg (Kd.R_typed h.fr) (.inl rfl)⟩
  have hr := hR.1
  unfold Ck.setTop
  rw [hn, Nat.add_sub_cancel]
  rw [hn] at hr
  exact hr
theorem Cs.setOther {g cap q : Nat} (h : Cs w0 wr W kb p vs (.slice (some ⟨g, 0, none⟩) s.fr.length cap) s) (hn : s.fr.length = q + 1) (b : Bool) :
    Cs w0 wr (W.setCell ⟨g, q * 6 + 5, none⟩ (.bool b)) kb p vs (.slice (some ⟨g, 0, none⟩) s.fr.length cap) (s.setTop { s.top with other := b }) := by
  obtain ⟨ce, hcl, hM, hcc, hfr⟩ := Kd.R_elem h.fr zFr (q : Int) (by omega) (by omega)
  obtain rfl := kFr_open hM
  have he : s.fr.getD ((q : Int)).toNat zFr = s.top := by rw [top_q hn]; rfl
  have hR := Kd.R_seg h.fr (q : Int) (by omega) (by omega) (seg := [.bool b]) (j := 5) hcl hcc (show 6 ≤ 6 from by decide) (x' := { s.top with other := b }) (okp := fun k => True ∧ k ≠ g) (by rw [he]; exact kFr_M _ _ _ _) (fun _ hk => hk)
  have hb := Kd.R_base h.fr g rfl
  have hnb : some kb ≠ some g := fun e => by injection e with e; have := h.klt; omega
  have hg : W.grownBy (W.setCell ⟨g, q * 6 + 5, none⟩ (.bool b)) (some g) := hR.2
  refine ⟨h.ch.grown hg (fun k hk => .inr (by injection hk with hk; omega)), h.klt, blk_grown h.box hg hnb, Kd.R_over' h.st (Kd.R_typed h.fr) (by decide) hg, ?_, h.kp.growF hg (Kd.R_typed h.fr) (.inl rfl)⟩
  have hr := hR.1
  unfold Ck.setTop
  rw [hn, Nat.add_sub_cancel]
  rw [hn] at hr
  exact hr
theorem die_calls (H : Cs w0 wr W kb p vs vf s) (wf : Wf s) :
    Calls Tryd.prog 51 #[.pointer (some ⟨kb, 0, none⟩)] W fun e W' => e = .returned unit ∧ ∃ vs', Cs w0 wr W' kb p vs' vf (die s) := by
  obtain ⟨q, hn⟩ : ∃ q, s.fr.length = q + 1 := ⟨s.fr.length - 1, by have := wf.pos; omega⟩
  obtain ⟨g, cap, rfl, hg1, hg2⟩ := H.form wf.pos
  obtain ⟨Av, cv, rfl⟩ := Kd.R_slice H.st
  have HT := Aside0.mk (top_calls H hn)
  have HA := Aside0.mk (fun (w1 : World) (hb : Below W.heap.size W w1) => H.below hb)
  have HS := Aside0.mk (fun {w1 : World} (h : Cs w0 wr w1 kb p (.slice Av s.st.length cv) (.slice (some ⟨g, 0, none⟩) s.fr.length cap) s) => h.setDead hn true)
  obtain ⟨hgh, hhg⟩ : ∃ h : Nat, s.top.high = (h : Int) := ⟨s.top.high.toNat, by have := wf.nn; omega⟩
  have hlow := wf.low
  rw [hhg] at hlow
  have hcap := (Kd.R_reads' H.st).2.1
  have hsl := H.slen
  have HF := Aside0.mk (fun (w1 : World) (hb : Below W.heap.size W w1) => (H.below hb).last hn)
  have HD := Aside0.mk (show die s = ⟨s.st.take hgh, (s.setTop { s.top with dead := true }).fr⟩ by unfold die Ck.setTop; rw [hhg]; rfl)
  have HK := Aside0.mk H.klt
  rw [HD.out]
  clear hn H wf
  go_enter Tryd.func51, Tryd.ntmps51
  go_wp2_with fail
  refine HT.out.mono ?_
  rintro e w1 ⟨rfl, hb⟩
  have H1 := HA.out w1 hb
  obtain ⟨_, _, f2, f3, _, _, fz⟩ := HF.out w1 hb
  rw [hhg] at f2
  have fz3 := fz 3
  have H2 := HS.out H1
  have h13 := blk_cell H1.box 13
  have h13b := blk_cell H2.box 13
  have z13b := blk_frozen H2.box 13
  have f2b := H2.drew
  have H3 := Aside0.mk (H2.drew.cutSt (Kd.R_take H2.drew.st (m := hgh) (by show hgh ≤ s.st.length; omega)) (by cases Av <;> rfl))
  clear hb HT HA HF HS H1 H2 fz HD hhg f2b
  go_wp2_with fail
  go_region
  go_wp2_with fail
  go_end0
  exact ⟨rfl, _, H3.out⟩
/-- what a branch takes -/
theorem taken_calls (d : Int) (hd : 0 ≤ d) (hdc : Can d) (H : Cs w0 wr W kb p vs vf s) (wf : Wf s) :
    Calls Tryd.prog 57 #[.pointer (some ⟨kb, 0, none⟩), .int .i64 d] W fun e W' =>
      match taken d s with
      | .error q => e = .panicked (brk q) ∧ Bad w0 wr kb W'
      | .ok t => e = .returned (.int .i64 t) ∧ ∃ vs', Cs w0 wr W' kb p vs' vf s := by
  obtain ⟨q, hn⟩ : ∃ q, s.fr.length = q + 1 := ⟨s.fr.length - 1, by have := wf.pos; omega⟩
  obtain ⟨g, cap, rfl, hg1, hg2⟩ := H.form wf.pos
  have hfl := H.flen
  have h14 := blk_cell H.box 14
  have HQ := Aside0.mk H
  clear wf
  obtain ⟨dn, rfl⟩ := Int.eq_ofNat_of_zero_le hd
  clear hd hdc
  by_cases h1 : dn < s.fr.length
  · obtain ⟨i, hi⟩ : ∃ i, q = dn + i := ⟨q - dn, by omega⟩
    have hw : taken (dn : Int) s = if (s.fr.getD i zFr).op = 3 then .ok (-1) else .ok (s.fr.getD i zFr).brings := by
      unfold taken
      rw [if_pos (by omega)]
      have : ((s.fr.length : Int) - 1 - dn).toNat = i := by omega
      rw [this]
    rw [hw]
    have h14b := blk_cell (H.alloc (.cells #[.int .i64 0, .int .i64 0, .int .i64 0, .bool false, .bool false, .bool false] 88)).box 14
    obtain ⟨f0, f1, f2, f3, f4, f5, _⟩ := (H.alloc (.cells #[.int .i64 0, .int .i64 0, .int .i64 0, .bool false, .bool false, .bool false] 88)).frAt i (by omega)
    obtain ⟨k0, k1, k2, k3, k4, k5, _⟩ := H.frAt i (by omega)
    obtain ⟨f, hf⟩ : ∃ f, s.fr.getD i zFr = f := ⟨_, rfl⟩
    rw [hf] at f0 f1 f2 f3 f4 f5 k0 k1 k2 k3 k4 k5 ⊢
    obtain ⟨op, br, hi2, de, asl, ot⟩ := f
    dsimp only at f0 f1 f2 f3 f4 f5 k0 k1 k2 k3 k4 k5
    have hlt : decide ((dn : Int) < (q : Int) + 1) = true := by simp; omega
    have hix : (q : Int) - dn = (i : Int) := by omega
    rw [hn] at h14 h14b hfl
    clear hw hf H hn h1 hg1 hg2 hi
    by_cases h3 : op = 3
    all_goals
      first | rw [if_pos h3] | rw [if_neg h3]
      have hb3 : (op == 3) = decide (op = 3) := by by_cases h : op = 3 <;> simp [h]
      first | rw [decide_eq_true h3] at hb3 | rw [decide_eq_false h3] at hb3
      clear h3
      go_enter Tryd.func57, Tryd.ntmps57
      go_wp2_with fail
      refine (must_yes _).mono ?_
      rintro e w2 ⟨rfl, rfl⟩
      go_wp2_with fail
      go_region
      go_wp2_with fail
      go_ret
      first | exact ⟨rfl, _, HQ.out.drew.alloc _⟩ | exact ⟨rfl, _, (HQ.out.alloc _).drew⟩
  · have hw : taken (dn : Int) s = .error 3 := by
      unfold taken
      rw [if_neg (by omega)]
    rw [hw]
    have hlt : decide ((dn : Int) < (q : Int) + 1) = false := by simp; omega
    rw [hn] at h14 hfl HQ
    clear hw H hn h1 hg1 hg2
    go_enter Tryd.func57, Tryd.ntmps57
    go_wp2_with fail
    refine (must_no _).mono ?_
    rintro e w2 ⟨rfl, rfl⟩
    exact ⟨rfl, rfl, HQ.out.bad⟩
set_option maxHeartbeats 2000000 in
set_option maxRecDepth 100000 in
/-- a block's end -/
theorem close_calls {g cap q : Nat} (H : Cs w0 wr W kb p vs (.slice (some ⟨g, 0, none⟩) (q + 1) cap) s) (wf : Wf s) (hn : s.fr.length = q + 1) :
    Calls Tryd.prog 53 #[.pointer (some ⟨kb, 0, none⟩)] W (Out w0 wr kb p (.slice (some ⟨g, 0, none⟩) (q + 1) cap) (.pointer (some ⟨g, q * 6, none⟩)) (close s)) := by
  have HT := Aside0.mk (top_calls H hn)
  have HA := Aside0.mk (fun (w1 : World) (hb : Below W.heap.size W w1) => H.below hb)
  have HF := Aside0.mk (fun (w1 : World) (hb : Below W.heap.size W w1) => (H.below hb).last hn)
  have hty := ty_can (wf.br _ wf.top_mem)
  have HTK := Aside0.mk (fun (w1 : World) (hb : Below W.heap.size W w1) => take_calls s.top.brings hty (H.below hb) wf)
  have HWF := Aside0.mk wf
  have HN := Aside0.mk hn
  clear hty H hn wf
  have HE : close s = match take s.top.brings s with | .error e => .error e | .ok s' => if (s'.st.length : Int) = s'.top.high then .ok s' else .error 3 := rfl
  cases hr : take s.top.brings s with
  | error e =>
    rw [hr] at HE HTK
    have HE1 := Aside0.mk HE
    clear hr HE
    go_enter Tryd.func53, Tryd.ntmps53
    go_wp2_with fail
    refine HT.out.mono ?_
    rintro e w1 ⟨rfl, hb⟩
    obtain ⟨_, f1, _, _, _, _, _⟩ := HF.out w1 hb
    have HTK1 := Aside0.mk (HTK.out w1 hb)
    clear HF HTK HT
    go_wp2_with fail
    refine HTK1.out.mono ?_
    rintro e w2 ⟨rfl, h⟩
    exact ⟨rfl, out_no HE1.out h⟩
  | ok s1 =>
    have HTW := Aside0.mk (take_wf HWF.out hr)
    rw [hr] at HE HTK
    have hn1 : s1.fr.length = q + 1 := by rw [HTW.out.2]; exact HN.out
    obtain ⟨hgh, hhg⟩ : ∃ h : Nat, s1.top.high = (h : Int) := ⟨s1.top.high.toNat, by have := HTW.out.1.nn; omega⟩
    have HTQ := Aside0.mk (fun {w2 : World} {vs2 : Value} (h : Cs w0 wr w2 kb p vs2 (.slice (some ⟨g, 0, none⟩) (q + 1) cap) s1) => h.last hn1)
    have hE : close s = if (s1.st.length : Int) = s1.top.high then .ok s1 else .error 3 := HE
    rw [hhg] at hE
    have HH := Aside0.mk hhg
    by_cases h1 : s1.st.length = hgh
    all_goals
      have hb2 : ((s1.st.length : Int) == (hgh : Int)) = decide (s1.st.length = hgh) := by
        by_cases h : s1.st.length = hgh
        · rw [decide_eq_true h]; simp; omega
        · rw [decide_eq_false h]; simp; omega
      first | rw [if_pos (by omega)] at hE | rw [if_neg (by omega)] at hE
      first | rw [decide_eq_true h1] at hb2 | rw [decide_eq_false h1] at hb2
      have HE2 := Aside0.mk hE
      clear h1 HE hE hr hn1 hhg
      go_enter Tryd.func53, Tryd.ntmps53
      go_wp2_with fail
      refine HT.out.mono ?_
      rintro e w1 ⟨rfl, hb⟩
      obtain ⟨_, f1, _, _, _, _, _⟩ := HF.out w1 hb
      have HTK1 := Aside0.mk (HTK.out w1 hb)
      clear HF HTK HT hb
      go_wp2_with fail
      refine HTK1.out.mono ?_
      rintro e w2 ⟨rfl, vs2, h⟩
      obtain ⟨Av, cv, rfl⟩ := Kd.R_slice h.st
      obtain ⟨_, _, f2, _, _, _, _⟩ := HTQ.out h
      rw [HH.out] at f2
      have h13 := blk_cell h.box 13
      have H3 := Aside0.mk h.drew
      clear h HTQ HTK1 f1
      go_wp2_with fail
    · go_still_tail 10, (by kernel_rfl)
      go_wp2_with fail
      refine (must_yes _).mono ?_
      rintro e w' ⟨rfl, rfl⟩
      go_wp2_with fail
      go_ret
      exact out_ok HE2.out H3.out
    · go_still_tail 10, (by kernel_rfl)
      go_wp2_with fail
      refine (must_no _).mono ?_
      rintro e w' ⟨rfl, rfl⟩
      exact ⟨rfl, out_no HE2.out H3.out.bad⟩
end
end Go.Proofs.YtjjhhmchomabeaaDoor.Valid
