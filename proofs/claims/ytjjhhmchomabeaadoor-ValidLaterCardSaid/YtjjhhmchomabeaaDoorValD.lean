/- What chapter 2 has: reckon. -/
import Derived.Test.YtjjhhmchomabeaaDoorValB
import Derived.Test.YtjjhhmchomabeaaDoorArity
namespace Go.Proofs.YtjjhhmchomabeaaDoor.Valid
open Go.RowKit Go.Proofs.YtjjhhmchomabeaaDoorW.PrintWords Go.Proofs.YtjjhhmchomabeaaDoorW.PrintLast Go.Proofs.YtjjhhmchomabeaaDoor.Mem Go.Proofs.YtjjhhmchomabeaaDoor.Nest
set_option linter.unusedVariables false
set_option linter.unusedSimpArgs false

theorem arity_like (op o fr tt : Int) (h : Word.arity op = (o, fr, tt, true)) : (o = 1 ∨ o = 2) ∧ (124 ≤ op → op ≤ 138 → fr = 1) ∧ -1000 < op ∧ op < 1000 := by
  unfold Word.arity at h
  repeat' split at h
  all_goals
    simp only [Prod.mk.injEq] at h
    first
    | (obtain ⟨rfl, rfl, rfl, _⟩ := h; omega)
    | (obtain ⟨_, _, _, h⟩ := h; cases h)
theorem reckonN_wf {w pb : Bool} : ∀ (n : Nat) (sec : Bool) (s : Ck) (r : Bool × Ck), Wf s → reckonN w pb n sec s = .ok r → Wf r.2 ∧ r.2.fr = s.fr := by
  intro n
  induction n with
  | zero => intro sec s r h hr; cases hr; exact ⟨h, rfl⟩
  | succ n ih =>
    intro sec s r h hr
    unfold reckonN at hr
    split at hr
    · cases hr
    · rename_i t s1 hp
      have h1 := pop_wf h hp
      split at hr
      · have h2 := ih _ _ _ h1.1 hr
        exact ⟨h2.1, h2.2.trans h1.2.1⟩
      · split at hr
        · have h2 := ih _ _ _ h1.1 hr
          exact ⟨h2.1, h2.2.trans h1.2.1⟩
        · cases hr
theorem reckonN_succ (w pb : Bool) (k : Nat) (sec : Bool) (s : Ck) : reckonN w pb (k + 1) sec s = match pop s with
    | .error e => .error e
    | .ok (t, s1) => if t = -1 then reckonN w pb k sec s1 else if (wide t == w) && !(pb && secret t) then reckonN w pb k (sec || secret t) s1 else .error 3 := rfl
section
variable {w0 W : World} {wr : Rf} {kb : Nat} {p : P13} {vs vf : Value} {s : Ck}
set_option maxHeartbeats 16000000 in
set_option maxRecDepth 100000 in
theorem reckon_calls (op : Int) (H : Cs w0 wr W kb p vs vf s) (wf : Wf s) :
    Calls Tryd.prog 64 #[.pointer (some ⟨kb, 0, none⟩), .int .i64 op] W (Out w0 wr kb p vf unit (reckon op s)) := by
  have HAR := Aside0.mk (Word.arity_calls op W)
  have HB := Aside0.mk (fun (w1 : World) (hb : Below W.heap.size W w1) => H.below hb)
  have HWF := Aside0.mk wf
  obtain ⟨⟨o, fr, tt, ok⟩, har⟩ : ∃ x, Word.arity op = x := ⟨_, rfl⟩
  have HRK := Aside0.mk (show reckon op s = if (o, fr, tt, ok).2.2.2 then (match reckonN ((o, fr, tt, ok).2.1 == 1) (pubOp op) (o, fr, tt, ok).1.toNat false s with | .error e => .error e | .ok (sec, s1) => push (ofL ((o, fr, tt, ok).2.2.1 == 1) sec) s1) else .error 3 by rw [← har]; rfl)
  rw [har] at HAR
  clear H wf
  cases ok with
  | false =>
    have HE := Aside0.mk (show reckon op s = .error 3 from HRK.out)
    clear HRK har
    go_enter Tryd.func64, Tryd.ntmps64
    go_wp2_with fail
    refine HAR.out.mono ?_
    rintro e w1 ⟨rfl, hb⟩
    have H1 := Aside0.mk (HB.out w1 hb)
    clear HAR HB hb
    go_wp2_with fail
    refine (must_no _).mono ?_
    rintro e w2 ⟨rfl, rfl⟩
    exact ⟨rfl, out_no HE.out H1.out.bad⟩
  | true =>
    obtain ⟨ho, hfrop, hop1, hop2⟩ := arity_like op o fr tt har
    have HRJ := Aside0.mk (show reckon op s = match reckonN (fr == 1) (pubOp op) o.toNat false s with | .error e => .error e | .ok (sec, s1) => push (ofL (tt == 1) sec) s1 from HRK.out)
    clear har HRK
    go_enter Tryd.func64, Tryd.ntmps64
    go_wp2_with fail
    refine HAR.out.mono ?_
    rintro e w1 ⟨rfl, hb⟩
    have H1 := Aside0.mk (HB.out w1 hb)
    clear HAR HB hb
    go_wp2_with fail
    refine (must_yes _).mono ?_
    rintro e w2 ⟨rfl, rfl⟩
    go_upto_region 3 with (fail)
    go_cut [31] (fun s31 wx => s31 = .bool (fr == 1 && (decide (op ≥ 124) && decide (op ≤ 138))) ∧ wx = w1)
    case first =>
      cases hb1 : (fr == 1)
      · go_wp2_with fail
        go_meet
        exact ⟨by rw [hb1]; rfl, rfl⟩
      · cases hb2 : decide (op ≥ 124)
        · go_wp2_with fail
          go_meet
          exact ⟨by rw [hb1, hb2]; rfl, rfl⟩
        · cases hb3 : decide (op ≤ 138)
          all_goals
            go_wp2_with fail
            go_meet
            exact ⟨by rw [hb1, hb2, hb3]; rfl, rfl⟩
    case rest =>
    obtain ⟨rfl, rfl⟩ := hcut
    obtain ⟨xb, hxb⟩ : ∃ xb, (fr == 1 && (decide (op ≥ 124) && decide (op ≤ 138))) = xb := ⟨_, rfl⟩
    rw [hxb]
    go_upto_if 31 with (fail)
    go_cut [8] (fun s8 wx => (∃ kk : Int, s8 = .int .i64 kk ∧ (decide (109 ≤ kk) && decide (kk ≤ 112)) = pubOp op) ∧ wx = wc)
    case first =>
      have hpub : pubOp op = ((decide (109 ≤ op) && decide (op ≤ 112)) || (decide (127 ≤ op) && decide (op ≤ 130))) := rfl
      cases xb
      · have HK := Aside0.mk (show (decide (109 ≤ op) && decide (op ≤ 112)) = pubOp op by
          have h2 : ¬ (127 ≤ op ∧ op ≤ 130) := fun h3 => by
            have h5 := hfrop (by omega) (by omega)
            subst h5
            have h6 : decide (op ≥ 124) = true := by simp; omega
            have h7 : decide (op ≤ 138) = true := by simp; omega
            rw [h6, h7] at hxb
            cases hxb
          rw [hpub]
          have h4 : (decide (127 ≤ op) && decide (op ≤ 130)) = false := by
            rw [← Bool.decide_and]
            exact decide_eq_false h2
          rw [h4, Bool.or_false])
        clear hpub hxb hfrop
        go_wp2_with fail
        go_meet
        exact ⟨⟨op, rfl, HK.out⟩, rfl⟩
      · have HK := Aside0.mk (show (decide (109 ≤ op - 124 + 106) && decide (op - 124 + 106 ≤ 112)) = pubOp op by
          simp only [Bool.and_eq_true, decide_eq_true_eq] at hxb
          rw [hpub, ← Bool.decide_and, ← Bool.decide_and, ← Bool.decide_and, ← Bool.decide_or]
          apply decide_eq_decide.2
          omega)
        clear hpub hxb hfrop
        go_wp2_with fail
        go_meet
        exact ⟨⟨op - 124 + 106, rfl, HK.out⟩, rfl⟩
    case rest =>
      obtain ⟨⟨kk, rfl, hkk⟩, rfl⟩ := hcut
      clear hxb hfrop
      go_upto_region 5 with (fail)
      go_cut [9] (fun s9 wx => s9 = .bool (pubOp op) ∧ wx = wc)
      case first =>
        by_cases g1 : 109 ≤ kk
        · by_cases g2 : kk ≤ 112
          · have HK := Aside0.mk (show pubOp op = true by rw [← hkk, decide_eq_true g1, decide_eq_true g2]; rfl)
            have hb1 : decide (kk ≥ 109) = true := by simpa using g1
            have hb2 : decide (kk ≤ 112) = true := by simpa using g2
            clear g1 g2 hkk
            go_wp2_with fail
            go_meet
            exact ⟨by rw [HK.out], rfl⟩
          · have HK := Aside0.mk (show pubOp op = false by rw [← hkk, decide_eq_true g1, decide_eq_false g2]; rfl)
            have hb1 : decide (kk ≥ 109) = true := by simpa using g1
            have hb2 : decide (kk ≤ 112) = false := by simpa using g2
            clear g1 g2 hkk
            go_wp2_with fail
            go_meet
            exact ⟨by rw [HK.out], rfl⟩
        · have HK := Aside0.mk (show pubOp op = false by rw [← hkk, decide_eq_false g1]; rfl)
          have hb1 : decide (kk ≥ 109) = false := by simpa using g1
          clear g1 hkk
          go_wp2_with fail
          go_meet
          exact ⟨by rw [HK.out], rfl⟩
      case rest =>
      obtain ⟨rfl, rfl⟩ := hcut
      clear hkk
      obtain ⟨pb, hpb⟩ : ∃ pb, pubOp op = pb := ⟨_, rfl⟩
      rw [hpb] at HRJ ⊢
      obtain ⟨R, hR⟩ : ∃ R, reckonN (fr == 1) pb o.toNat false s = R := ⟨_, rfl⟩
      rw [hR] at HRJ
      obtain ⟨fb, hfb⟩ : ∃ fb, (fr == 1) = fb := ⟨_, rfl⟩
      rw [hfb] at hR
      have HR0 := Aside0.mk hR
      clear hR hpb
      obtain ⟨on, rfl⟩ : ∃ on : Nat, o = (on : Int) := ⟨o.toNat, by omega⟩
      have hon : on ≤ 2 := by omega
      clear ho
      go_wp2_with fail
      go_loopw [10, 42] (fun s10 s42 wr1 => ∃ (k : Nat) (sec : Bool) (s1 : Ck) (v1 : Value), k ≤ on ∧ s42 = .int .i64 k ∧ s10 = .bool sec ∧ Aside0 (Cs w0 wr wr1 kb p v1 vf s1) ∧ Aside0 (Wf s1 ∧ reckonN fb pb (on - k) sec s1 = R)) (fun _ s42 _ => on - (intOf s42).toNat)
      case atStart => exact ⟨0, false, s, vs, Nat.zero_le _, rfl, rfl, H1, ⟨HWF.out, by have := HR0.out; simpa using this⟩⟩
      case round =>
        obtain ⟨k, sec, s1, v1, hk, rfl, rfl, HP, HR⟩ := hrel
        clear H1 HR0 HWF
        by_cases hlt : k < on
        · obtain ⟨n, hn⟩ : ∃ n, on - k = n + 1 := ⟨on - k - 1, by omega⟩
          have HRN := Aside0.mk (show reckonN fb pb (n + 1) sec s1 = R by rw [← hn]; exact HR.out.2)
          have HN := Aside0.mk (show on - (k + 1) = n by omega)
          have HPP := Aside0.mk (pop_calls HP.out HR.out.1)
          clear hn
          go_wp2_with fail
          refine HPP.out.mono ?_
          intro e w3 hh
          cases hp : pop s1 with
          | error q =>
            rw [hp] at hh
            obtain ⟨rfl, h⟩ := hh
            have hq : R = .error q := by rw [← HRN.out]; unfold reckonN; rw [hp]
            exact ⟨rfl, out_no (by rw [HRJ.out, hq]) h⟩
          | ok r =>
            obtain ⟨t, s2⟩ := r
            rw [hp] at hh
            obtain ⟨rfl, v2, H2⟩ := hh
            have HW2 := Aside0.mk (pop_wf HR.out.1 hp)
            have hcan := ty_can HW2.out.2.2
            have HP2 := Aside0.mk H2
            have HRT := Aside0.mk (show R = if t = -1 then reckonN fb pb n sec s2 else if (wide t == fb) && !(pb && secret t) then reckonN fb pb n (sec || secret t) s2 else .error 3 by rw [← HRN.out, reckonN_succ, hp])
            clear HPP H2 HP HRN HR hp
            by_cases ht : t = -1
            · have htb : (t != -1) = false := by subst ht; rfl
              have hq := HRT.out
              rw [if_pos ht] at hq
              have HQ := Aside0.mk hq
              clear ht hq
              go_wp2_with fail
              go_roundw
              case rel => exact ⟨k + 1, sec, s2, v2, by omega, by go_num, rfl, HP2, ⟨HW2.out.1, by rw [HN.out]; exact HQ.out.symm⟩⟩
              case measure => simp [intOf]; omega
            · have htb : (t != -1) = true := by simpa using ht
              have hq := HRT.out
              rw [if_neg ht] at hq
              have hcs : (wide t == fb) = false ∨ ((wide t == fb) = true ∧ pb = true ∧ secret t = true) ∨ ((wide t == fb) = true ∧ pb = false) ∨ ((wide t == fb) = true ∧ pb = true ∧ secret t = false) := by
                cases (wide t == fb) <;> cases pb <;> cases secret t <;> simp
              rcases hcs with hm | ⟨hm, hpb, hst⟩ | ⟨hm, hpb⟩ | ⟨hm, hpb, hst⟩
              · have HE := Aside0.mk (show R = .error 3 by rw [hq, hm]; rfl)
                clear hq HRT ht
                go_wp2_with (first | (go_at_call 21; refine (wide_calls _ _ (by assumption)).mono ?_; rintro e w' ⟨rfl, rfl⟩) | (go_at_call 73; refine (secret_calls _ _ (by assumption)).mono ?_; rintro e w' ⟨rfl, rfl⟩))
                refine (must_no _).mono ?_
                rintro e w4 ⟨rfl, rfl⟩
                exact ⟨rfl, out_no (by rw [HRJ.out, HE.out]) HP2.out.bad⟩
              · have HE := Aside0.mk (show R = .error 3 by rw [hq, hm, hpb, hst]; rfl)
                clear hq HRT ht
                subst hpb
                go_wp2_with (first | (go_at_call 21; refine (wide_calls _ _ (by assumption)).mono ?_; rintro e w' ⟨rfl, rfl⟩) | (go_at_call 73; refine (secret_calls _ _ (by assumption)).mono ?_; rintro e w' ⟨rfl, rfl⟩))
                refine (must_no _).mono ?_
                rintro e w4 ⟨rfl, rfl⟩
                exact ⟨rfl, out_no (by rw [HRJ.out, HE.out]) HP2.out.bad⟩
              all_goals
                have HE := Aside0.mk (show R = reckonN fb pb n (sec || secret t) s2 by rw [hq, hm, hpb]; first | (rw [hst]; rfl) | rfl)
                first | rw [hst] at HE | skip
                clear hq HRT ht
                subst hpb
                cases sec
                all_goals
                  go_wp2_with (first | (go_at_call 21; refine (wide_calls _ _ (by assumption)).mono ?_; rintro e w' ⟨rfl, rfl⟩) | (go_at_call 73; refine (secret_calls _ _ (by assumption)).mono ?_; rintro e w' ⟨rfl, rfl⟩) | (go_at_call 54; refine (must_yes _).mono ?_; rintro e w' ⟨rfl, rfl⟩))
                  go_roundw
                  case rel => exact ⟨k + 1, _, s2, v2, by omega, by go_num, rfl, HP2, ⟨HW2.out.1, by rw [HN.out]; exact HE.out.symm⟩⟩
                  case measure => simp [intOf]; omega
        · have hke : k = on := by omega
          subst hke
          have hR := HR.out.2
          rw [Nat.sub_self] at hR
          have HFIN := Aside0.mk (show reckon op s = push (ofL (tt == 1) sec) s1 by rw [HRJ.out, ← hR]; rfl)
          have HPU := Aside0.mk (push_calls (ofL (tt == 1) sec) HP.out HR.out.1)
          clear hR HR HP
          go_wp2_with ((go_at_call 63; refine (of_calls _ _ _).mono ?_; rintro e w' ⟨rfl, rfl⟩))
          refine HPU.out.mono ?_
          intro e w5 hh
          cases hpu : push (ofL (tt == 1) sec) s1 with
          | error q =>
            rw [hpu] at hh
            obtain ⟨rfl, h⟩ := hh
            exact ⟨rfl, out_no (by rw [HFIN.out, hpu]) h⟩
          | ok s4 =>
            rw [hpu] at hh
            obtain ⟨rfl, v5, H5⟩ := hh
            have HO := Aside0.mk (show Out w0 _ kb p vf unit (reckon op s) (.returned unit) w5 from out_ok (by rw [HFIN.out, hpu]) H5)
            clear H5 hpu HPU HFIN
            go_wp2_with fail
            go_end0
            exact HO.out
end
end Go.Proofs.YtjjhhmchomabeaaDoor.Valid
