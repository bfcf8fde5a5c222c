/- One instruction: what it does to the stack and to the blocks that are open (part A). -/
import Derived.Test.YtjjhhmchomabeaaDoorValE
import Derived.Test.YtjjhhmchomabeaaDoorValD
namespace Go.Proofs.YtjjhhmchomabeaaDoor.Valid
open Go.RowKit Go.Proofs.YtjjhhmchomabeaaDoorW.PrintWords Go.Proofs.YtjjhhmchomabeaaDoorW.PrintLast Go.Proofs.YtjjhhmchomabeaaDoor.Mem Go.Proofs.YtjjhhmchomabeaaDoor.Nest
set_option linter.unusedVariables false
set_option linter.unusedSimpArgs false

/-- how an instruction ends -/
def OutS (w0 : World) (wr : Rf) (kb : Nat) (p : P13) (r : Except Int Ck) (e : Ending) (W' : World) : Prop :=
  match r with
  | .error q => e = .panicked (brk q) ∧ Bad w0 wr kb W'
  | .ok s => e = .returned unit ∧ ∃ vs' vf', Cs w0 wr W' kb p vs' vf' s
structure EFine (E : Env) : Prop where
  mod : MFine E.M
  loc : ∀ t ∈ E.locals, right t = true
  res : Ty E.result
theorem cellT_right {E : Env} (F : EFine E) {op n t : Int} (h0 : 0 ≤ n) (h : cellT E op n = .ok t) : right t = true := by
  unfold cellT at h
  split at h
  · split at h
    · cases h; exact F.mod.globals _ (getD_mem _ _ _ (by omega))
    · cases h
  · split at h
    · cases h; exact F.loc _ (getD_mem _ _ _ (by omega))
    · cases h
theorem ofL_ty (a b : Bool) : Ty (ofL a b) := by cases a <;> cases b <;> exact ⟨by decide, by decide⟩
theorem setTop_setTop (s : Ck) (f g : Fr) : (s.setTop f).setTop g = s.setTop g := by
  unfold Ck.setTop
  simp
section
variable {w00 w0 W : World} {wr : Rf} {Z : Nat → Prop} {kb : Nat} {p : P13} {E : Env} {h : Hd} {vs vf : Value} {s : Ck}
theorem outS_no {q : Int} {r : Except Int Ck} (h : r = .error q) {W' : World} (hc : Bad w0 wr kb W') : OutS w0 wr kb p r (.panicked (brk q)) W' := by subst h; exact ⟨rfl, hc⟩
theorem outS_ok {s1 : Ck} {r : Except Int Ck} (h : r = .ok s1) {W' : World} {vs' vf' : Value} (hc : Cs w0 wr W' kb p vs' vf' s1) : OutS w0 wr kb p r (.returned unit) W' := by subst h; exact ⟨rfl, _, _, hc⟩
theorem Cs.drewN (h : Cs w0 wr W kb p vs vf s) (n : Nat) : Cs w0 wr (W.drewN n) kb p vs vf s := h.below ⟨rfl, rfl, rfl, Nat.le_refl _, fun _ _ => rfl⟩
end
theorem endT_wf {s : Ck} {q : Nat} (h : Wf s) (he : (s.st.length : Int) = s.top.high) (hn : s.fr.length = q + 1) (hq : 0 < q) : Wf ⟨s.st, s.fr.take q⟩ := by
  have hl : (s.fr.take q).length = q := by rw [List.length_take]; omega
  have hg : ∀ i, i < q → (s.fr.take q).getD i zFr = s.fr.getD i zFr := fun i hi => by
    rw [List.getD_eq_getElem?_getD, List.getD_eq_getElem?_getD, List.getElem?_take, if_pos hi]
  refine ⟨by show 0 < (s.fr.take q).length; omega, fun i j hij hj => ?_, ?_, h.few, h.ty, fun f hf => h.br f (List.mem_of_mem_take hf)⟩
  · have hj : j < q := by have : j < (s.fr.take q).length := hj; omega
    show 0 ≤ ((s.fr.take q).getD i zFr).high ∧ ((s.fr.take q).getD i zFr).high ≤ ((s.fr.take q).getD j zFr).high
    rw [hg i (by omega), hg j hj]
    exact h.up i j hij (by omega)
  · show ((s.fr.take q).getD ((s.fr.take q).length - 1) zFr).high ≤ (s.st.length : Int)
    rw [hl, hg _ (by omega), he]
    have h1 := (h.up (q - 1) q (by omega) (by omega)).2
    have h2 : s.top = s.fr.getD q zFr := top_q hn
    rw [h2]
    exact h1
section
variable {Q : Exit → Act → World → Prop} {K : Act → World → Prop} {a : Act} {w : World} {k j : Nat}
theorem inBlock_eq (h : Q .normal a w) : Exit.inBlock k Q (.exit k) a w := by show (if k = k then _ else _); rw [if_pos rfl]; exact h
theorem inBlock_ne (hne : (j == k) = false) (h : Q (.exit j) a w) : Exit.inBlock k Q (.exit j) a w := by show (if j = k then _ else _); rw [if_neg (by simpa using hne)]; exact h
theorem inBlock_normal (h : Q .normal a w) : Exit.inBlock k Q .normal a w := h
theorem inBlock_ret (h : Q .ret a w) : Exit.inBlock k Q .ret a w := h
theorem then_exit (h : Q (.exit j) a w) : Exit.then K Q (.exit j) a w := h
theorem then_normal (h : K a w) : Exit.then K Q .normal a w := h
theorem then_ret (h : Q .ret a w) : Exit.then K Q .ret a w := h
end
section
variable {w00 w0 W : World} {wr : Rf} {Z : Nat → Prop} {kb : Nat} {p : P13} {E : Env} {h : Hd} {vs vf : Value} {s : Ck}
set_option maxHeartbeats 4000000 in
set_option maxRecDepth 100000 in
theorem see_1 (S : Stat w00 w0 Z kb p E h) (F : EFine E) (n m : Int) (hcn : Can n) (H : Cs w0 wr W kb p vs vf s) (wf : Wf s) (hz : wr.Z = Z := by rfl) :
    Calls Tryd.prog 40 #[.pointer (some ⟨kb, 0, none⟩), .agg #[.int .i64 1, .int .i64 n, .int .i64 m]] W (OutS w0 wr kb p (see E (1, n, m) s)) := by
  subst hz
  have HB := Aside0.mk (blk_new W (.cells #[.int .i64 1, .int .i64 n, .int .i64 m] 45))
  have HS := Aside0.mk S
  have HF := Aside0.mk F
  have HW0 := Aside0.mk wf
  have HC0 := Aside0.mk (H.alloc (.cells #[.int .i64 1, .int .i64 n, .int .i64 m] 45)).rebase
  have HK := Aside0.mk (H.alloc (.cells #[.int .i64 1, .int .i64 n, .int .i64 m] 45)).kp
  have HE0 := Aside0.mk (show see E (1, n, m) s = .ok s from rfl)
  clear H wf S F
  go_enter Tryd.func40, Tryd.ntmps40
  try dsimp only
  repeat (first | ((with_reducible refine inBlock_ne ?hne ?_); (case hne => rfl)) | (with_reducible refine inBlock_eq ?_) | (with_reducible refine then_exit ?_) | (with_reducible refine then_normal ?_) | (with_reducible refine inBlock_normal ?_) | (with_reducible refine then_ret ?_) | (with_reducible refine inBlock_ret ?_) | go_skip | go_guarded | go_step | go_upon)
  go_end0
  exact outS_ok HE0.out (HC0.out.back HK.out)
set_option maxHeartbeats 4000000 in
set_option maxRecDepth 100000 in
theorem see_0 (S : Stat w00 w0 Z kb p E h) (F : EFine E) (n m : Int) (hcn : Can n) (H : Cs w0 wr W kb p vs vf s) (wf : Wf s) (hz : wr.Z = Z := by rfl) :
    Calls Tryd.prog 40 #[.pointer (some ⟨kb, 0, none⟩), .agg #[.int .i64 0, .int .i64 n, .int .i64 m]] W (OutS w0 wr kb p (see E (0, n, m) s)) := by
  subst hz
  have HB := Aside0.mk (blk_new W (.cells #[.int .i64 0, .int .i64 n, .int .i64 m] 45))
  have HS := Aside0.mk S
  have HF := Aside0.mk F
  have HW0 := Aside0.mk wf
  have HC0 := Aside0.mk (H.alloc (.cells #[.int .i64 0, .int .i64 n, .int .i64 m] 45)).rebase
  have HK := Aside0.mk (H.alloc (.cells #[.int .i64 0, .int .i64 n, .int .i64 m] 45)).kp
  have HE0 := Aside0.mk (show see E (0, n, m) s = .ok (die s) from rfl)
  clear H wf S F
  go_enter Tryd.func40, Tryd.ntmps40
  try dsimp only
  repeat (first | ((with_reducible refine inBlock_ne ?hne ?_); (case hne => rfl)) | (with_reducible refine inBlock_eq ?_) | (with_reducible refine then_exit ?_) | (with_reducible refine then_normal ?_) | (with_reducible refine inBlock_normal ?_) | (with_reducible refine then_ret ?_) | (with_reducible refine inBlock_ret ?_) | go_skip | go_guarded | go_step | go_upon)
  generalize W.alloc _ = W1 at *
  refine (die_calls HC0.out HW0.out).mono ?_
  rintro e wz ⟨rfl, vz, hC⟩
  have HO := Aside0.mk (show OutS w0 _ kb p _ (.returned unit) wz from outS_ok HE0.out (hC.back HK.out))
  clear hC
  try dsimp only
  repeat (first | ((with_reducible refine inBlock_ne ?hne ?_); (case hne => rfl)) | (with_reducible refine inBlock_eq ?_) | (with_reducible refine then_exit ?_) | (with_reducible refine then_normal ?_) | (with_reducible refine inBlock_normal ?_) | (with_reducible refine then_ret ?_) | (with_reducible refine inBlock_ret ?_) | go_skip | go_guarded | go_step | go_upon)
  go_end0
  exact HO.out
set_option maxHeartbeats 4000000 in
set_option maxRecDepth 100000 in
theorem see_12 (S : Stat w00 w0 Z kb p E h) (F : EFine E) (n m : Int) (hcn : Can n) (hn0 : 0 ≤ n) (H : Cs w0 wr W kb p vs vf s) (wf : Wf s) (hz : wr.Z = Z := by rfl) :
    Calls Tryd.prog 40 #[.pointer (some ⟨kb, 0, none⟩), .agg #[.int .i64 12, .int .i64 n, .int .i64 m]] W (OutS w0 wr kb p (see E (12, n, m) s)) := by
  subst hz
  have HB := Aside0.mk (blk_new W (.cells #[.int .i64 12, .int .i64 n, .int .i64 m] 45))
  have HS := Aside0.mk S
  have HF := Aside0.mk F
  have HW0 := Aside0.mk wf
  have HC0 := Aside0.mk (H.alloc (.cells #[.int .i64 12, .int .i64 n, .int .i64 m] 45)).rebase
  have HK := Aside0.mk (H.alloc (.cells #[.int .i64 12, .int .i64 n, .int .i64 m] 45)).kp
  have HE0 := Aside0.mk (show see E (12, n, m) s = bnd (taken n s) fun t => bnd (take t s) fun s1 => .ok (die s1) from rfl)
  have hq1 := blk_cell HB.out 1
  clear H wf S F
  go_enter Tryd.func40, Tryd.ntmps40
  try dsimp only
  repeat (first | ((with_reducible refine inBlock_ne ?hne ?_); (case hne => rfl)) | (with_reducible refine inBlock_eq ?_) | (with_reducible refine then_exit ?_) | (with_reducible refine then_normal ?_) | (with_reducible refine inBlock_normal ?_) | (with_reducible refine then_ret ?_) | (with_reducible refine inBlock_ret ?_) | go_skip | go_guarded | go_step | go_upon)
  generalize W.alloc _ = W1 at *
  clear hq1
  have HP1 := Aside0.mk (taken_calls n hn0 hcn HC0.out HW0.out)
  refine HP1.out.mono ?_
  intro e w2 hh
  cases hr : taken n s with
  | error q =>
    rw [hr] at hh
    obtain ⟨rfl, h⟩ := hh
    exact ⟨rfl, outS_no (HE0.out.trans (by first | (rw [hr]; done) | (rw [hr]; rfl))) (h.back HK.out)⟩
  | ok r1 =>
    rw [hr] at hh
    obtain ⟨t1, ht1⟩ : ∃ t, r1 = t := ⟨_, rfl⟩
    rw [ht1] at hr hh
    obtain ⟨rfl, v1, hC⟩ := hh
    have HWW1 := Aside0.mk (taken_ty HW0.out hn0 hr)
    have HW1 := HW0
    have HC1 := Aside0.mk hC
    have HE1 := Aside0.mk (HE0.out.trans (show _ = bnd (take t1 s) fun s1 => .ok (die s1) from by rw [hr]; rfl))
    have hbK := hC.kp.kp _ _ _ (by decide) (by decide) (by decide) HB.out
    have hq0 := blk_cell hbK 0
    have hq1 := blk_cell hbK 1
    have hq2 := blk_cell hbK 2
    clear hbK
    clear hC hr HP1
    try dsimp only
    repeat (first | ((with_reducible refine inBlock_ne ?hne ?_); (case hne => rfl)) | (with_reducible refine inBlock_eq ?_) | (with_reducible refine then_exit ?_) | (with_reducible refine then_normal ?_) | (with_reducible refine inBlock_normal ?_) | (with_reducible refine then_ret ?_) | (with_reducible refine inBlock_ret ?_) | go_skip | go_guarded | go_step | go_upon)
    clear hq0 hq1 hq2
    have HP2 := Aside0.mk (take_calls t1 (ty_can HWW1.out) HC1.out HW1.out)
    refine HP2.out.mono ?_
    intro e w3 hh
    cases hr : take t1 s with
    | error q =>
      rw [hr] at hh
      obtain ⟨rfl, h⟩ := hh
      exact ⟨rfl, outS_no (HE1.out.trans (by first | (rw [hr]; done) | (rw [hr]; rfl))) (h.back HK.out)⟩
    | ok r2 =>
      rw [hr] at hh
      obtain ⟨rfl, v2, hC⟩ := hh
      have HWW2 := Aside0.mk (take_wf HW1.out hr)
      have HW2 := Aside0.mk HWW2.out.1
      have HC2 := Aside0.mk hC
      have HE2 := Aside0.mk (HE1.out.trans (show _ = .ok (die r2) from by rw [hr]; rfl))
      have hbK := hC.kp.kp _ _ _ (by decide) (by decide) (by decide) HB.out
      have hq0 := blk_cell hbK 0
      have hq1 := blk_cell hbK 1
      have hq2 := blk_cell hbK 2
      clear hbK
      clear hC hr HP2
      try dsimp only
      repeat (first | ((with_reducible refine inBlock_ne ?hne ?_); (case hne => rfl)) | (with_reducible refine inBlock_eq ?_) | (with_reducible refine then_exit ?_) | (with_reducible refine then_normal ?_) | (with_reducible refine inBlock_normal ?_) | (with_reducible refine then_ret ?_) | (with_reducible refine inBlock_ret ?_) | go_skip | go_guarded | go_step | go_upon)
      clear hq0 hq1 hq2
      refine (die_calls HC2.out HW2.out).mono ?_
      rintro e wz ⟨rfl, vz, hC⟩
      have HO := Aside0.mk (show OutS w0 _ kb p _ (.returned unit) wz from outS_ok HE2.out (hC.back HK.out))
      clear hC
      try dsimp only
      repeat (first | ((with_reducible refine inBlock_ne ?hne ?_); (case hne => rfl)) | (with_reducible refine inBlock_eq ?_) | (with_reducible refine then_exit ?_) | (with_reducible refine then_normal ?_) | (with_reducible refine inBlock_normal ?_) | (with_reducible refine then_ret ?_) | (with_reducible refine inBlock_ret ?_) | go_skip | go_guarded | go_step | go_upon)
      go_end0
      exact HO.out
set_option maxHeartbeats 4000000 in
set_option maxRecDepth 100000 in
theorem see_13 (S : Stat w00 w0 Z kb p E h) (F : EFine E) (n m : Int) (hcn : Can n) (hn0 : 0 ≤ n) (H : Cs w0 wr W kb p vs vf s) (wf : Wf s) (hz : wr.Z = Z := by rfl) :
    Calls Tryd.prog 40 #[.pointer (some ⟨kb, 0, none⟩), .agg #[.int .i64 13, .int .i64 n, .int .i64 m]] W (OutS w0 wr kb p (see E (13, n, m) s)) := by
  subst hz
  have HB := Aside0.mk (blk_new W (.cells #[.int .i64 13, .int .i64 n, .int .i64 m] 45))
  have HS := Aside0.mk S
  have HF := Aside0.mk F
  have HW0 := Aside0.mk wf
  have HC0 := Aside0.mk (H.alloc (.cells #[.int .i64 13, .int .i64 n, .int .i64 m] 45)).rebase
  have HK := Aside0.mk (H.alloc (.cells #[.int .i64 13, .int .i64 n, .int .i64 m] 45)).kp
  have HE0 := Aside0.mk (show see E (13, n, m) s = bnd (want 0 s) fun s1 => bnd (taken n s1) fun t => bnd (take t s1) fun s2 => give t s2 from rfl)
  clear H wf S F
  go_enter Tryd.func40, Tryd.ntmps40
  try dsimp only
  repeat (first | ((with_reducible refine inBlock_ne ?hne ?_); (case hne => rfl)) | (with_reducible refine inBlock_eq ?_) | (with_reducible refine then_exit ?_) | (with_reducible refine then_normal ?_) | (with_reducible refine inBlock_normal ?_) | (with_reducible refine then_ret ?_) | (with_reducible refine inBlock_ret ?_) | go_skip | go_guarded | go_step | go_upon)
  generalize W.alloc _ = W1 at *
  have HP1 := Aside0.mk (want_calls 0 ⟨by decide, by decide⟩ HC0.out HW0.out)
  refine HP1.out.mono ?_
  intro e w2 hh
  cases hr : want 0 s with
  | error q =>
    rw [hr] at hh
    obtain ⟨rfl, h⟩ := hh
    exact ⟨rfl, outS_no (HE0.out.trans (by first | (rw [hr]; done) | (rw [hr]; rfl))) (h.back HK.out)⟩
  | ok r1 =>
    rw [hr] at hh
    obtain ⟨rfl, v1, hC⟩ := hh
    have HWW1 := Aside0.mk (want_wf HW0.out hr)
    have HW1 := Aside0.mk HWW1.out.1
    have HC1 := Aside0.mk hC
    have HE1 := Aside0.mk (HE0.out.trans (show _ = bnd (taken n r1) fun t => bnd (take t r1) fun s2 => give t s2 from by rw [hr]; rfl))
    have hbK := hC.kp.kp _ _ _ (by decide) (by decide) (by decide) HB.out
    have hq0 := blk_cell hbK 0
    have hq1 := blk_cell hbK 1
    have hq2 := blk_cell hbK 2
    clear hbK
    clear hC hr HP1
    try dsimp only
    repeat (first | ((with_reducible refine inBlock_ne ?hne ?_); (case hne => rfl)) | (with_reducible refine inBlock_eq ?_) | (with_reducible refine then_exit ?_) | (with_reducible refine then_normal ?_) | (with_reducible refine inBlock_normal ?_) | (with_reducible refine then_ret ?_) | (with_reducible refine inBlock_ret ?_) | go_skip | go_guarded | go_step | go_upon)
    clear hq0 hq1 hq2
    have HP2 := Aside0.mk (taken_calls n hn0 hcn HC1.out HW1.out)
    refine HP2.out.mono ?_
    intro e w3 hh
    cases hr : taken n r1 with
    | error q =>
      rw [hr] at hh
      obtain ⟨rfl, h⟩ := hh
      exact ⟨rfl, outS_no (HE1.out.trans (by first | (rw [hr]; done) | (rw [hr]; rfl))) (h.back HK.out)⟩
    | ok r2 =>
      rw [hr] at hh
      obtain ⟨t2, ht2⟩ : ∃ t, r2 = t := ⟨_, rfl⟩
      rw [ht2] at hr hh
      obtain ⟨rfl, v2, hC⟩ := hh
      have HWW2 := Aside0.mk (taken_ty HW1.out hn0 hr)
      have HW2 := HW1
      have HC2 := Aside0.mk hC
      have HE2 := Aside0.mk (HE1.out.trans (show _ = bnd (take t2 r1) fun s2 => give t2 s2 from by rw [hr]; rfl))
      have hbK := hC.kp.kp _ _ _ (by decide) (by decide) (by decide) HB.out
      have hq0 := blk_cell hbK 0
      have hq1 := blk_cell hbK 1
      have hq2 := blk_cell hbK 2
      clear hbK
      clear hC hr HP2
      try dsimp only
      repeat (first | ((with_reducible refine inBlock_ne ?hne ?_); (case hne => rfl)) | (with_reducible refine inBlock_eq ?_) | (with_reducible refine then_exit ?_) | (with_reducible refine then_normal ?_) | (with_reducible refine inBlock_normal ?_) | (with_reducible refine then_ret ?_) | (with_reducible refine inBlock_ret ?_) | go_skip | go_guarded | go_step | go_upon)
      clear hq0 hq1 hq2
      have HP3 := Aside0.mk (take_calls t2 (ty_can HWW2.out) HC2.out HW2.out)
      refine HP3.out.mono ?_
      intro e w4 hh
      cases hr : take t2 r1 with
      | error q =>
        rw [hr] at hh
        obtain ⟨rfl, h⟩ := hh
        exact ⟨rfl, outS_no (HE2.out.trans (by first | (rw [hr]; done) | (rw [hr]; rfl))) (h.back HK.out)⟩
      | ok r3 =>
        rw [hr] at hh
        obtain ⟨rfl, v3, hC⟩ := hh
        have HWW3 := Aside0.mk (take_wf HW2.out hr)
        have HW3 := Aside0.mk HWW3.out.1
        have HC3 := Aside0.mk hC
        have HE3 := Aside0.mk (HE2.out.trans (show _ = give t2 r3 from by rw [hr]; rfl))
        have hbK := hC.kp.kp _ _ _ (by decide) (by decide) (by decide) HB.out
        have hq0 := blk_cell hbK 0
        have hq1 := blk_cell hbK 1
        have hq2 := blk_cell hbK 2
        clear hbK
        clear hC hr HP3
        try dsimp only
        repeat (first | ((with_reducible refine inBlock_ne ?hne ?_); (case hne => rfl)) | (with_reducible refine inBlock_eq ?_) | (with_reducible refine then_exit ?_) | (with_reducible refine then_normal ?_) | (with_reducible refine inBlock_normal ?_) | (with_reducible refine then_ret ?_) | (with_reducible refine inBlock_ret ?_) | go_skip | go_guarded | go_step | go_upon)
        clear hq0 hq1 hq2
        have HP4 := Aside0.mk (give_calls t2 HC3.out HW3.out)
        refine HP4.out.mono ?_
        intro e w5 hh
        cases hr : give t2 r3 with
        | error q =>
          rw [hr] at hh
          obtain ⟨rfl, h⟩ := hh
          exact ⟨rfl, outS_no (HE3.out.trans (by first | (rw [hr]; done) | (rw [hr]; rfl))) (h.back HK.out)⟩
        | ok r4 =>
          rw [hr] at hh
          obtain ⟨rfl, v4, hC⟩ := hh
          have HW4 := HW3
          have HO := Aside0.mk (show OutS w0 _ kb p _ (.returned unit) w5 from outS_ok (HE3.out.trans hr) (hC.back HK.out))
          clear hC hr HP4
          try dsimp only
          repeat (first | ((with_reducible refine inBlock_ne ?hne ?_); (case hne => rfl)) | (with_reducible refine inBlock_eq ?_) | (with_reducible refine then_exit ?_) | (with_reducible refine then_normal ?_) | (with_reducible refine inBlock_normal ?_) | (with_reducible refine then_ret ?_) | (with_reducible refine inBlock_ret ?_) | go_skip | go_guarded | go_step | go_upon)
          go_end0
          exact HO.out
set_option maxHeartbeats 4000000 in
set_option maxRecDepth 100000 in
theorem see_15 (S : Stat w00 w0 Z kb p E h) (F : EFine E) (n m : Int) (hcn : Can n) (H : Cs w0 wr W kb p vs vf s) (wf : Wf s) (hz : wr.Z = Z := by rfl) :
    Calls Tryd.prog 40 #[.pointer (some ⟨kb, 0, none⟩), .agg #[.int .i64 15, .int .i64 n, .int .i64 m]] W (OutS w0 wr kb p (see E (15, n, m) s)) := by
  subst hz
  have HB := Aside0.mk (blk_new W (.cells #[.int .i64 15, .int .i64 n, .int .i64 m] 45))
  have HS := Aside0.mk S
  have HF := Aside0.mk F
  have HW0 := Aside0.mk wf
  have HC0 := Aside0.mk (H.alloc (.cells #[.int .i64 15, .int .i64 n, .int .i64 m] 45)).rebase
  have HK := Aside0.mk (H.alloc (.cells #[.int .i64 15, .int .i64 n, .int .i64 m] 45)).kp
  have HE0 := Aside0.mk (show see E (15, n, m) s = bnd (take E.result s) fun s1 => .ok (die s1) from rfl)
  have hq12 : _ = some p.a12 := blk_cell HC0.out.box 12
  rw [HS.out.e12] at hq12
  clear H wf S F
  go_enter Tryd.func40, Tryd.ntmps40
  try dsimp only
  repeat (first | ((with_reducible refine inBlock_ne ?hne ?_); (case hne => rfl)) | (with_reducible refine inBlock_eq ?_) | (with_reducible refine then_exit ?_) | (with_reducible refine then_normal ?_) | (with_reducible refine inBlock_normal ?_) | (with_reducible refine then_ret ?_) | (with_reducible refine inBlock_ret ?_) | go_skip | go_guarded | go_step | go_upon)
  generalize W.alloc _ = W1 at *
  clear hq12
  have HP1 := Aside0.mk (take_calls E.result (ty_can HF.out.res) HC0.out HW0.out)
  refine HP1.out.mono ?_
  intro e w2 hh
  cases hr : take E.result s with
  | error q =>
    rw [hr] at hh
    obtain ⟨rfl, h⟩ := hh
    exact ⟨rfl, outS_no (HE0.out.trans (by first | (rw [hr]; done) | (rw [hr]; rfl))) (h.back HK.out)⟩
  | ok r1 =>
    rw [hr] at hh
    obtain ⟨rfl, v1, hC⟩ := hh
    have HWW1 := Aside0.mk (take_wf HW0.out hr)
    have HW1 := Aside0.mk HWW1.out.1
    have HC1 := Aside0.mk hC
    have HE1 := Aside0.mk (HE0.out.trans (show _ = .ok (die r1) from by rw [hr]; rfl))
    have hbK := hC.kp.kp _ _ _ (by decide) (by decide) (by decide) HB.out
    have hq0 := blk_cell hbK 0
    have hq1 := blk_cell hbK 1
    have hq2 := blk_cell hbK 2
    clear hbK
    clear hC hr HP1
    try dsimp only
    repeat (first | ((with_reducible refine inBlock_ne ?hne ?_); (case hne => rfl)) | (with_reducible refine inBlock_eq ?_) | (with_reducible refine then_exit ?_) | (with_reducible refine then_normal ?_) | (with_reducible refine inBlock_normal ?_) | (with_reducible refine then_ret ?_) | (with_reducible refine inBlock_ret ?_) | go_skip | go_guarded | go_step | go_upon)
    clear hq0 hq1 hq2
    refine (die_calls HC1.out HW1.out).mono ?_
    rintro e wz ⟨rfl, vz, hC⟩
    have HO := Aside0.mk (show OutS w0 _ kb p _ (.returned unit) wz from outS_ok HE1.out (hC.back HK.out))
    clear hC
    try dsimp only
    repeat (first | ((with_reducible refine inBlock_ne ?hne ?_); (case hne => rfl)) | (with_reducible refine inBlock_eq ?_) | (with_reducible refine then_exit ?_) | (with_reducible refine then_normal ?_) | (with_reducible refine inBlock_normal ?_) | (with_reducible refine then_ret ?_) | (with_reducible refine inBlock_ret ?_) | go_skip | go_guarded | go_step | go_upon)
    go_end0
    exact HO.out
set_option maxHeartbeats 4000000 in
set_option maxRecDepth 100000 in
theorem see_16 (S : Stat w00 w0 Z kb p E h) (F : EFine E) (n m : Int) (hcn : Can n) (H : Cs w0 wr W kb p vs vf s) (wf : Wf s) (hz : wr.Z = Z := by rfl) :
    Calls Tryd.prog 40 #[.pointer (some ⟨kb, 0, none⟩), .agg #[.int .i64 16, .int .i64 n, .int .i64 m]] W (OutS w0 wr kb p (see E (16, n, m) s)) := by
  subst hz
  have HB := Aside0.mk (blk_new W (.cells #[.int .i64 16, .int .i64 n, .int .i64 m] 45))
  have HS := Aside0.mk S
  have HF := Aside0.mk F
  have HW0 := Aside0.mk wf
  have HC0 := Aside0.mk (H.alloc (.cells #[.int .i64 16, .int .i64 n, .int .i64 m] 45)).rebase
  have HK := Aside0.mk (H.alloc (.cells #[.int .i64 16, .int .i64 n, .int .i64 m] 45)).kp
  have HE0 := Aside0.mk (show see E (16, n, m) s = callT E n s from rfl)
  clear H wf S F
  go_enter Tryd.func40, Tryd.ntmps40
  try dsimp only
  repeat (first | ((with_reducible refine inBlock_ne ?hne ?_); (case hne => rfl)) | (with_reducible refine inBlock_eq ?_) | (with_reducible refine then_exit ?_) | (with_reducible refine then_normal ?_) | (with_reducible refine inBlock_normal ?_) | (with_reducible refine then_ret ?_) | (with_reducible refine inBlock_ret ?_) | go_skip | go_guarded | go_step | go_upon)
  generalize W.alloc _ = W1 at *
  have HP1 := Aside0.mk (call_calls HS.out HF.out.mod n hcn HC0.out HW0.out)
  refine HP1.out.mono ?_
  intro e w2 hh
  cases hr : callT E n s with
  | error q =>
    rw [hr] at hh
    obtain ⟨rfl, h⟩ := hh
    exact ⟨rfl, outS_no (HE0.out.trans (by first | (rw [hr]; done) | (rw [hr]; rfl))) (h.back HK.out)⟩
  | ok r1 =>
    rw [hr] at hh
    obtain ⟨rfl, v1, hC⟩ := hh
    have HW1 := HW0
    have HO := Aside0.mk (show OutS w0 _ kb p _ (.returned unit) w2 from outS_ok (HE0.out.trans hr) (hC.back HK.out))
    clear hC hr HP1
    try dsimp only
    repeat (first | ((with_reducible refine inBlock_ne ?hne ?_); (case hne => rfl)) | (with_reducible refine inBlock_eq ?_) | (with_reducible refine then_exit ?_) | (with_reducible refine then_normal ?_) | (with_reducible refine inBlock_normal ?_) | (with_reducible refine then_ret ?_) | (with_reducible refine inBlock_ret ?_) | go_skip | go_guarded | go_step | go_upon)
    go_end0
    exact HO.out
set_option maxHeartbeats 4000000 in
set_option maxRecDepth 100000 in
theorem see_26 (S : Stat w00 w0 Z kb p E h) (F : EFine E) (n m : Int) (hcn : Can n) (H : Cs w0 wr W kb p vs vf s) (wf : Wf s) (hz : wr.Z = Z := by rfl) :
    Calls Tryd.prog 40 #[.pointer (some ⟨kb, 0, none⟩), .agg #[.int .i64 26, .int .i64 n, .int .i64 m]] W (OutS w0 wr kb p (see E (26, n, m) s)) := by
  subst hz
  have HB := Aside0.mk (blk_new W (.cells #[.int .i64 26, .int .i64 n, .int .i64 m] 45))
  have HS := Aside0.mk S
  have HF := Aside0.mk F
  have HW0 := Aside0.mk wf
  have HC0 := Aside0.mk (H.alloc (.cells #[.int .i64 26, .int .i64 n, .int .i64 m] 45)).rebase
  have HK := Aside0.mk (H.alloc (.cells #[.int .i64 26, .int .i64 n, .int .i64 m] 45)).kp
  have HE0 := Aside0.mk (show see E (26, n, m) s = bnd (pop s) fun r => .ok r.2 from rfl)
  clear H wf S F
  go_enter Tryd.func40, Tryd.ntmps40
  try dsimp only
  repeat (first | ((with_reducible refine inBlock_ne ?hne ?_); (case hne => rfl)) | (with_reducible refine inBlock_eq ?_) | (with_reducible refine then_exit ?_) | (with_reducible refine then_normal ?_) | (with_reducible refine inBlock_normal ?_) | (with_reducible refine then_ret ?_) | (with_reducible refine inBlock_ret ?_) | go_skip | go_guarded | go_step | go_upon)
  generalize W.alloc _ = W1 at *
  have HP1 := Aside0.mk (pop_calls HC0.out HW0.out)
  refine HP1.out.mono ?_
  intro e w2 hh
  cases hr : pop s with
  | error q =>
    rw [hr] at hh
    obtain ⟨rfl, h⟩ := hh
    exact ⟨rfl, outS_no (HE0.out.trans (by first | (rw [hr]; done) | (rw [hr]; rfl))) (h.back HK.out)⟩
  | ok r1 =>
    rw [hr] at hh
    obtain ⟨t1, s1⟩ := r1
    obtain ⟨rfl, v1, hC⟩ := hh
    have HWW1 := Aside0.mk (pop_wf HW0.out hr)
    have HW1 := Aside0.mk HWW1.out.1
    have HC1 := Aside0.mk hC
    have HE1 := Aside0.mk (HE0.out.trans (show _ = .ok s1 from by rw [hr]; rfl))
    clear hC hr HP1
    have HO := Aside0.mk (show OutS w0 _ kb p _ (.returned unit) w2 from outS_ok HE1.out (HC1.out.back HK.out))
    try dsimp only
    repeat (first | ((with_reducible refine inBlock_ne ?hne ?_); (case hne => rfl)) | (with_reducible refine inBlock_eq ?_) | (with_reducible refine then_exit ?_) | (with_reducible refine then_normal ?_) | (with_reducible refine inBlock_normal ?_) | (with_reducible refine then_ret ?_) | (with_reducible refine inBlock_ret ?_) | go_skip | go_guarded | go_step | go_upon)
    go_end0
    exact HO.out
set_option maxHeartbeats 4000000 in
set_option maxRecDepth 100000 in
theorem see_27 (S : Stat w00 w0 Z kb p E h) (F : EFine E) (n m : Int) (hcn : Can n) (H : Cs w0 wr W kb p vs vf s) (wf : Wf s) (hz : wr.Z = Z := by rfl) :
    Calls Tryd.prog 40 #[.pointer (some ⟨kb, 0, none⟩), .agg #[.int .i64 27, .int .i64 n, .int .i64 m]] W (OutS w0 wr kb p (see E (27, n, m) s)) := by
  subst hz
  have HB := Aside0.mk (blk_new W (.cells #[.int .i64 27, .int .i64 n, .int .i64 m] 45))
  have HS := Aside0.mk S
  have HF := Aside0.mk F
  have HW0 := Aside0.mk wf
  have HC0 := Aside0.mk (H.alloc (.cells #[.int .i64 27, .int .i64 n, .int .i64 m] 45)).rebase
  have HK := Aside0.mk (H.alloc (.cells #[.int .i64 27, .int .i64 n, .int .i64 m] 45)).kp
  have HE0 := Aside0.mk (show see E (27, n, m) s = choose s from rfl)
  clear H wf S F
  go_enter Tryd.func40, Tryd.ntmps40
  try dsimp only
  repeat (first | ((with_reducible refine inBlock_ne ?hne ?_); (case hne => rfl)) | (with_reducible refine inBlock_eq ?_) | (with_reducible refine then_exit ?_) | (with_reducible refine then_normal ?_) | (with_reducible refine inBlock_normal ?_) | (with_reducible refine then_ret ?_) | (with_reducible refine inBlock_ret ?_) | go_skip | go_guarded | go_step | go_upon)
  generalize W.alloc _ = W1 at *
  have HP1 := Aside0.mk (choose_calls HC0.out HW0.out)
  refine HP1.out.mono ?_
  intro e w2 hh
  cases hr : choose s with
  | error q =>
    rw [hr] at hh
    obtain ⟨rfl, h⟩ := hh
    exact ⟨rfl, outS_no (HE0.out.trans (by first | (rw [hr]; done) | (rw [hr]; rfl))) (h.back HK.out)⟩
  | ok r1 =>
    rw [hr] at hh
    obtain ⟨rfl, v1, hC⟩ := hh
    have HW1 := HW0
    have HO := Aside0.mk (show OutS w0 _ kb p _ (.returned unit) w2 from outS_ok (HE0.out.trans hr) (hC.back HK.out))
    clear hC hr HP1
    try dsimp only
    repeat (first | ((with_reducible refine inBlock_ne ?hne ?_); (case hne => rfl)) | (with_reducible refine inBlock_eq ?_) | (with_reducible refine then_exit ?_) | (with_reducible refine then_normal ?_) | (with_reducible refine inBlock_normal ?_) | (with_reducible refine then_ret ?_) | (with_reducible refine inBlock_ret ?_) | go_skip | go_guarded | go_step | go_upon)
    go_end0
    exact HO.out
end
end Go.Proofs.YtjjhhmchomabeaaDoor.Valid
