/- Call. -/
import Derived.Test.YtjjhhmchomabeaaDoorValC
namespace Go.Proofs.YtjjhhmchomabeaaDoor.Valid
open Go.RowKit Go.Proofs.YtjjhhmchomabeaaDoorW.PrintWords Go.Proofs.YtjjhhmchomabeaaDoorW.PrintLast Go.Proofs.YtjjhhmchomabeaaDoor.Mem Go.Proofs.YtjjhhmchomabeaaDoor.Nest
set_option linter.unusedVariables false
set_option linter.unusedSimpArgs false

/-- a module whose types are types -/
structure MFine (M : Md) : Prop where
  sigs : ∀ g ∈ M.sigs, (∀ t ∈ g.1, right t = true) ∧ (∀ t ∈ g.2, right t = true)
  globals : ∀ g ∈ M.globals, right g.1 = true
theorem right_ty {t : Int} (h : right t = true) : Ty t := by rcases right_four h with rfl | rfl | rfl | rfl <;> exact ⟨by decide, by decide⟩
theorem getD_mem {α : Type} (z : α) (l : List α) (i : Nat) (h : i < l.length) : l.getD i z ∈ l := by
  rw [List.getD_eq_getElem?_getD, List.getElem?_eq_getElem h]
  exact List.getElem_mem _
theorem callee_right {M : Md} (F : MFine M) (n : Int) : (∀ t ∈ (callee M n).1.1, right t = true) ∧ (∀ t ∈ (callee M n).1.2, right t = true) := by
  unfold callee
  split
  · constructor <;> (intro t h; cases h)
  · exact F.sigs _ (getD_mem _ _ _ (by omega))
theorem firstL_ty {l : List Int} (h : ∀ t ∈ l, right t = true) : Ty (firstL l) := by
  unfold firstL
  split
  · exact ⟨by decide, by decide⟩
  · cases l with
    | nil => contradiction
    | cons t r => exact right_ty (h t (List.mem_cons_self ..))
theorem wants_wf : ∀ (l : List Int) (s s1 : Ck), Wf s → wants l s = .ok s1 → Wf s1 ∧ s1.fr = s.fr := by
  intro l
  induction l with
  | nil => intro s s1 h hr; cases hr; exact ⟨h, rfl⟩
  | cons t l ih =>
    intro s s1 h hr
    unfold wants at hr
    split at hr
    · cases hr
    · rename_i s' hp
      have h1 := want_wf h hp
      have h2 := ih _ _ h1.1 hr
      exact ⟨h2.1, h2.2.trans h1.2⟩
theorem take_rev {l : List Int} {m : Nat} (h : m < l.length) : (l.take (m + 1)).reverse = rd l (m : Int) :: (l.take m).reverse := by
  have : l.take (m + 1) = l.take m ++ [rd l (m : Int)] := by
    rw [List.take_add_one]
    unfold rd
    simp [h]
  rw [this, List.reverse_append]
  rfl
def giveThen (t : Int) : Except Int Ck → Except Int Ck
  | .error e => .error e
  | .ok s1 => give t s1
section
variable {w00 w0 W : World} {wr : Rf} {Z : Nat → Prop} {kb : Nat} {p : P13} {E : Env} {h : Hd} {vs vf : Value} {s : Ck}
set_option maxHeartbeats 4000000 in
set_option maxRecDepth 100000 in
theorem call_calls (S : Stat w00 w0 Z kb p E h) (F : MFine E.M) (n : Int) (hn : Can n) (H : Cs w0 wr W kb p vs vf s) (wf : Wf s) (hz : wr.Z = Z := by rfl) :
    Calls Tryd.prog 58 #[.pointer (some ⟨kb, 0, none⟩), .int .i64 n] W (Out w0 wr kb p vf unit (callT E n s)) := by
  subst hz
  have HCE := Aside0.mk (callee_calls E.M h n w00 W S.mod (S.below H) hn)
  have HB := Aside0.mk (fun (w1 : World) (hb : Below W.heap.size W w1) => H.below hb)
  have HWF := Aside0.mk wf
  have HS := Aside0.mk S
  have HRT := Aside0.mk (callee_right F n)
  have HCT := Aside0.mk (show callT E n s = if (callee E.M n).2.2.2 && (E.tr || !(callee E.M n).2.2.1) then (match wants (callee E.M n).1.1.reverse s with | .error e => .error e | .ok s1 => give (firstL (callee E.M n).1.2) s1) else .error 3 from rfl)
  obtain ⟨⟨⟨l1, l2⟩, hst, trs, okk⟩, hce⟩ : ∃ x, callee E.M n = x := ⟨_, rfl⟩
  rw [hce] at HCE HRT HCT
  have e0 : _ = some p.a0 := blk_cell H.box 0
  have e1 : _ = some p.a1 := blk_cell H.box 1
  have e2 : _ = some p.a2 := blk_cell H.box 2
  have e3 : _ = some p.a3 := blk_cell H.box 3
  have e4 : _ = some p.a4 := blk_cell H.box 4
  have e5 : _ = some p.a5 := blk_cell H.box 5
  have e6 : _ = some p.a6 := blk_cell H.box 6
  rw [S.e0] at e0
  rw [S.e1] at e1
  rw [S.e2] at e2
  rw [S.e3] at e3
  rw [S.e4] at e4
  rw [S.e5] at e5
  rw [S.e6] at e6
  have hklt := H.klt
  have hsz := H.size
  clear H wf S F hce hn
  go_enter Tryd.func58, Tryd.ntmps58
  go_wp2_with fail
  refine HCE.out.mono ?_
  rintro e w1 ⟨hb, B1, k1, B2, k2, rfl, hk1, hk2, hC1, hC2⟩
  dsimp only at hk1 hk2 hC1 hC2
  have HC := Aside0.mk (And.intro hC1 hC2)
  have HK := Aside0.mk (And.intro hk1 hk2)
  have H1 := HB.out w1 hb
  have H2 := H1.alloc (.cells #[.slice B1 l1.length k1, .slice B2 l2.length k2] 32)
  have hbx := Aside0.mk (blk_new w1 (.cells #[.slice B1 l1.length k1, .slice B2 l2.length k2] 32))
  have h8 : _ = some p.a8 := blk_cell H2.box 8
  rw [HS.out.e8] at h8
  have HH := Aside0.mk H2
  clear HCE HB e0 e1 e2 e3 e4 e5 e6 hb H1 H2 hC1 hC2
  go_upto_region 1 with (fail)
  generalize w1.alloc _ = w2 at *
  go_cut [32] (fun s32 wx => s32 = unit ∧ (okk && (E.tr || !trs)) = true ∧ wx = w2)
  case first =>
    have hcs : okk = false ∨ (okk = true ∧ E.tr = false ∧ trs = true) ∨ (okk = true ∧ E.tr = true) ∨ (okk = true ∧ E.tr = false ∧ trs = false) := by
      cases okk <;> cases E.tr <;> cases trs <;> simp
    rcases hcs with ho | ⟨ho, ht, hs⟩ | ⟨ho, ht⟩ | ⟨ho, ht, hs⟩
    · have HE := Aside0.mk (show callT E n s = .error 3 by rw [HCT.out, ho]; rfl)
      subst ho
      go_wp2_with fail
      refine (must_no _).mono ?_
      rintro e w5 ⟨rfl, rfl⟩
      exact ⟨rfl, out_no HE.out HH.out.bad⟩
    · have HE := Aside0.mk (show callT E n s = .error 3 by rw [HCT.out, ho, ht, hs]; rfl)
      rw [ht] at h8
      subst ho hs
      clear ht
      go_wp2_with fail
      refine (must_no _).mono ?_
      rintro e w5 ⟨rfl, rfl⟩
      exact ⟨rfl, out_no HE.out HH.out.bad⟩
    · have HG := Aside0.mk (show (okk && (E.tr || !trs)) = true by rw [ho, ht]; rfl)
      rw [ht] at h8
      subst ho
      clear ht
      go_wp2_with fail
      refine (must_yes _).mono ?_
      rintro e w5 ⟨rfl, rfl⟩
      go_wp2_with fail
      go_meet
      exact ⟨rfl, HG.out, rfl⟩
    · have HG := Aside0.mk (show (okk && (E.tr || !trs)) = true by rw [ho, ht, hs]; rfl)
      rw [ht] at h8
      subst ho hs
      clear ht
      go_wp2_with fail
      refine (must_yes _).mono ?_
      rintro e w5 ⟨rfl, rfl⟩
      go_wp2_with fail
      go_meet
      exact ⟨rfl, HG.out, rfl⟩
  case rest =>
    obtain ⟨rfl, hgood, rfl⟩ := hcut
    obtain ⟨R, hR⟩ : ∃ R, wants l1.reverse s = R := ⟨_, rfl⟩
    have HCT2 := Aside0.mk (show callT E n s = giveThen (firstL l2) R by rw [HCT.out, if_pos hgood, ← hR]; rfl)
    have HKP := Aside0.mk HH.out.kp
    have HS0 := Aside0.mk (And.intro HH.out.rebase (And.intro HWF.out (show wants (l1.take l1.length).reverse s = R by rw [List.take_length]; exact hR)))
    have hb0 := blk_cell hbx.out 0
    have hln := HC.out.1.2.1
    clear hR HCT HWF hgood HH h8 hk1 hk2
    go_wp2_with fail
    clear hb0
    go_loopw [8] (fun s8 wr1 => ∃ (k : Nat) (i : Int) (s1 : Ck) (v1 : Value), k ≤ l1.length ∧ s8 = .int .i64 i ∧ i = (k : Int) - 1 ∧ Aside0 (Cs w0 (wr.at wc vs vf) wr1 kb p v1 vf s1 ∧ Wf s1 ∧ wants (l1.take k).reverse s1 = R)) (fun s8 _ => (intOf s8 + 1).toNat)
    case atStart => exact ⟨l1.length, _, s, vs, Nat.le_refl _, rfl, by omega, HS0⟩
    case round =>
      obtain ⟨k, i, s1, v1, hk, rfl, hi, HP⟩ := hrel
      clear HS0
      have hbw := HP.out.1.kp.kp _ _ _ (by decide) (by decide) (by decide) hbx.out
      have hb0 := blk_cell hbw 0
      have hb1 := blk_cell hbw 1
      cases k with
      | zero =>
        have hi0 : i = -1 := by omega
        subst hi0
        have hR : R = .ok s1 := HP.out.2.2.symm
        have HFIN := Aside0.mk (show callT E n s = give (firstL l2) s1 by rw [HCT2.out, hR]; rfl)
        have HCF := Aside0.mk (Kd.C_below HC.out.2 (HS.out.below HP.out.1))
        have HPU := Aside0.mk (give_calls (firstL l2) (HP.out.1.back HKP.out) HP.out.2.1)
        clear hR HP hbw hi hk
        go_wp2_with (go_at_call 38; refine (first_calls _ _ _ _ HCF.out).mono ?_; rintro e w' ⟨rfl, rfl⟩)
        refine HPU.out.mono ?_
        intro e w5 hh
        cases hpu : give (firstL l2) s1 with
        | error q =>
          rw [hpu] at hh
          obtain ⟨rfl, h⟩ := hh
          exact ⟨rfl, out_no (by rw [HFIN.out, hpu]) h⟩
        | ok s4 =>
          rw [hpu] at hh
          obtain ⟨rfl, v5, H5⟩ := hh
          have HO := Aside0.mk (show Out w0 _ kb p vf unit (callT E n s) (.returned unit) w5 from out_ok (by rw [HFIN.out, hpu]) H5)
          clear H5 hpu HPU HFIN
          go_wp2_with fail
          go_end0
          exact HO.out
      | succ m =>
        have him : i = (m : Int) := by omega
        subst him
        obtain ⟨ad, ha, hx0⟩ := Kd.at_int (Kd.C_below HC.out.1 (HS.out.below HP.out.1)) (m : Int) (by omega) (by omega)
        rw [Int.toNat_natCast] at hx0
        have hml : m < l1.length := by omega
        have HRW := Aside0.mk (show (match want (rd l1 (m : Int)) s1 with | .error e => .error e | .ok s2 => wants (l1.take m).reverse s2) = R by have h0 := HP.out.2.2; rw [take_rev hml] at h0; exact h0)
        have HWN := Aside0.mk (want_calls (rd l1 (m : Int)) (right_can (HRT.out.1 _ (getD_mem _ _ _ hml))) HP.out.1 HP.out.2.1)
        have HWF1 := Aside0.mk HP.out.2.1
        obtain ⟨u, hu⟩ : ∃ u, rd l1 (m : Int) = u := ⟨_, rfl⟩
        rw [hu] at hx0 HRW HWN
        subst ha
        clear hi HP hbw hu
        go_wp2_with fail
        refine HWN.out.mono ?_
        intro e w5 hh
        cases hpu : want u s1 with
        | error q =>
          rw [hpu] at hh
          obtain ⟨rfl, h⟩ := hh
          have hR : R = .error q := by rw [← HRW.out, hpu]
          exact ⟨rfl, out_no (by rw [HCT2.out, hR]; rfl) (h.back HKP.out)⟩
        | ok s2 =>
          rw [hpu] at hh
          obtain ⟨rfl, v5, H5⟩ := hh
          have HR5 := Aside0.mk (show Cs w0 _ w5 kb p v5 vf s2 ∧ Wf s2 ∧ wants (l1.take m).reverse s2 = R from ⟨H5, (want_wf HWF1.out hpu).1, by rw [← HRW.out, hpu]⟩)
          clear H5 hpu HWN HRW hx0 hb0 hb1
          go_wp2_with fail
          go_roundw
          case rel => exact ⟨m, _, s2, v5, by omega, rfl, by go_num, HR5⟩
          case measure => simp [intOf]
end
end Go.Proofs.YtjjhhmchomabeaaDoor.Valid
