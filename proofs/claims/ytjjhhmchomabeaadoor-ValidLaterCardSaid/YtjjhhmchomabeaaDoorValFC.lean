/- One instruction: what it does to the stack and to the blocks that are open (part C). -/
import Derived.Test.YtjjhhmchomabeaaDoorValFA
namespace Go.Proofs.YtjjhhmchomabeaaDoor.Valid
open Go.RowKit Go.Proofs.YtjjhhmchomabeaaDoorW.PrintWords Go.Proofs.YtjjhhmchomabeaaDoorW.PrintLast Go.Proofs.YtjjhhmchomabeaaDoor.Mem Go.Proofs.YtjjhhmchomabeaaDoor.Nest
set_option linter.unusedVariables false
set_option linter.unusedSimpArgs false

section
variable {w00 w0 W : World} {wr : Rf} {Z : Nat → Prop} {kb : Nat} {p : P13} {E : Env} {h : Hd} {vs vf : Value} {s : Ck}
set_option maxHeartbeats 4000000 in
set_option maxRecDepth 100000 in
theorem see_40_0_no (S : Stat w00 w0 Z kb p E h) (F : EFine E) (n : Int) (hcn : Can n) (hz : E.M.m0 = 0) (H : Cs w0 wr W kb p vs vf s) (wf : Wf s) (hz : wr.Z = Z := by rfl) :
    Calls Tryd.prog 40 #[.pointer (some ⟨kb, 0, none⟩), .agg #[.int .i64 40, .int .i64 n, .int .i64 0]] W (OutS w0 wr kb p (see E (40, n, 0) s)) := by
  subst hz
  have HB := Aside0.mk (blk_new W (.cells #[.int .i64 40, .int .i64 n, .int .i64 0] 45))
  have HS := Aside0.mk S
  have HF := Aside0.mk F
  have HW0 := Aside0.mk wf
  have HC0 := Aside0.mk (H.alloc (.cells #[.int .i64 40, .int .i64 n, .int .i64 0] 45)).rebase
  have HK := Aside0.mk (H.alloc (.cells #[.int .i64 40, .int .i64 n, .int .i64 0] 45)).kp
  have hqm : _ = some p.a3 := blk_cell HC0.out.box 3
  rw [HS.out.e3] at hqm
  have hq2 := blk_cell HB.out 2
  have HE0 := Aside0.mk (show see E (40, n, 0) s = .error 3 from by
    show (if E.M.m0 ≠ 0 then _ else Except.error 3) = _
    rw [if_neg (by simpa using hz)])
  have hzb : (E.M.m0 != 0) = false := by simpa using hz
  clear H wf S F hz
  go_enter Tryd.func40, Tryd.ntmps40
  try dsimp only
  repeat (first | ((with_reducible refine inBlock_ne ?hne ?_); (case hne => rfl)) | (with_reducible refine inBlock_eq ?_) | (with_reducible refine then_exit ?_) | (with_reducible refine then_normal ?_) | (with_reducible refine inBlock_normal ?_) | (with_reducible refine then_ret ?_) | (with_reducible refine inBlock_ret ?_) | go_skip | go_guarded | go_step | go_upon)
  generalize W.alloc _ = W1 at *
  go_still_tail 9, (by kernel_rfl)
  try dsimp only
  repeat (first | ((with_reducible refine inBlock_ne ?hne ?_); (case hne => rfl)) | (with_reducible refine inBlock_eq ?_) | (with_reducible refine then_exit ?_) | (with_reducible refine then_normal ?_) | (with_reducible refine inBlock_normal ?_) | (with_reducible refine then_ret ?_) | (with_reducible refine inBlock_ret ?_) | go_skip | go_guarded | go_step | go_upon)
  refine (must_no _).mono ?_
  rintro e w2 ⟨rfl, rfl⟩
  exact ⟨rfl, outS_no HE0.out (HC0.out.drew.bad.back HK.out)⟩
set_option maxHeartbeats 4000000 in
set_option maxRecDepth 100000 in
theorem see_40_0_yes (S : Stat w00 w0 Z kb p E h) (F : EFine E) (n : Int) (hcn : Can n) (hz : E.M.m0 ≠ 0) (H : Cs w0 wr W kb p vs vf s) (wf : Wf s) (hz : wr.Z = Z := by rfl) :
    Calls Tryd.prog 40 #[.pointer (some ⟨kb, 0, none⟩), .agg #[.int .i64 40, .int .i64 n, .int .i64 0]] W (OutS w0 wr kb p (see E (40, n, 0) s)) := by
  subst hz
  have HB := Aside0.mk (blk_new W (.cells #[.int .i64 40, .int .i64 n, .int .i64 0] 45))
  have HS := Aside0.mk S
  have HF := Aside0.mk F
  have HW0 := Aside0.mk wf
  have HC0 := Aside0.mk (H.alloc (.cells #[.int .i64 40, .int .i64 n, .int .i64 0] 45)).rebase
  have HK := Aside0.mk (H.alloc (.cells #[.int .i64 40, .int .i64 n, .int .i64 0] 45)).kp
  have hqm : _ = some p.a3 := blk_cell HC0.out.box 3
  rw [HS.out.e3] at hqm
  have hq2 := blk_cell HB.out 2
  have HE0 := Aside0.mk (show see E (40, n, 0) s = bnd (want 0 s) fun s1 => push (ofL false false) s1 from by
    show (if E.M.m0 ≠ 0 then _ else Except.error 3) = _
    rw [if_pos hz]
    rfl)
  have hzb : (E.M.m0 != 0) = true := by simpa using hz
  clear H wf S F hz
  go_enter Tryd.func40, Tryd.ntmps40
  try dsimp only
  repeat (first | ((with_reducible refine inBlock_ne ?hne ?_); (case hne => rfl)) | (with_reducible refine inBlock_eq ?_) | (with_reducible refine then_exit ?_) | (with_reducible refine then_normal ?_) | (with_reducible refine inBlock_normal ?_) | (with_reducible refine then_ret ?_) | (with_reducible refine inBlock_ret ?_) | go_skip | go_guarded | go_step | go_upon)
  generalize W.alloc _ = W1 at *
  go_still_tail 9, (by kernel_rfl)
  try dsimp only
  repeat (first | ((with_reducible refine inBlock_ne ?hne ?_); (case hne => rfl)) | (with_reducible refine inBlock_eq ?_) | (with_reducible refine then_exit ?_) | (with_reducible refine then_normal ?_) | (with_reducible refine inBlock_normal ?_) | (with_reducible refine then_ret ?_) | (with_reducible refine inBlock_ret ?_) | go_skip | go_guarded | go_step | go_upon)
  refine (must_yes _).mono ?_
  rintro e w2 ⟨rfl, rfl⟩
  replace HC0 := Aside0.mk HC0.out.drew
  clear hqm hq2
  try dsimp only
  repeat (first | ((with_reducible refine inBlock_ne ?hne ?_); (case hne => rfl)) | (with_reducible refine inBlock_eq ?_) | (with_reducible refine then_exit ?_) | (with_reducible refine then_normal ?_) | (with_reducible refine inBlock_normal ?_) | (with_reducible refine then_ret ?_) | (with_reducible refine inBlock_ret ?_) | go_skip | go_guarded | go_step | go_upon)
  have HP1 := Aside0.mk (want_calls 0 ⟨by decide, by decide⟩ HC0.out HW0.out)
  refine HP1.out.mono ?_
  intro e w2 hh
  cases hr : want 0 s with
  | error q =>
    rw [hr] at hh
    obtain ⟨rfl, h⟩ := hh
    exact ⟨rfl, outS_no (HE0.out.trans (by first | (rw [hr]; done) | (rw [hr]; rfl))) (h.back HK.out)⟩
  | ok r1 =>
    rw [hr] at hh
    obtain ⟨rfl, v1, hC⟩ := hh
    have HWW1 := Aside0.mk (want_wf HW0.out hr)
    have HW1 := Aside0.mk HWW1.out.1
    have HC1 := Aside0.mk hC
    have HE1 := Aside0.mk (HE0.out.trans (show _ = push (ofL false false) r1 from by rw [hr]; rfl))
    have hbK := hC.kp.kp _ _ _ (by decide) (by decide) (by decide) HB.out
    have hq0 := blk_cell hbK 0
    have hq1 := blk_cell hbK 1
    have hq2 := blk_cell hbK 2
    clear hbK
    clear hC hr HP1
    try dsimp only
    repeat (first | ((with_reducible refine inBlock_ne ?hne ?_); (case hne => rfl)) | (with_reducible refine inBlock_eq ?_) | (with_reducible refine then_exit ?_) | (with_reducible refine then_normal ?_) | (with_reducible refine inBlock_normal ?_) | (with_reducible refine then_ret ?_) | (with_reducible refine inBlock_ret ?_) | (go_at_call 63; refine (of_calls _ _ _).mono ?_; rintro e w' ⟨rfl, rfl⟩; dsimp only) | go_skip | go_guarded | go_step | go_upon)
    clear hq0 hq1 hq2
    have HP2 := Aside0.mk (push_calls (ofL false false) HC1.out HW1.out)
    refine HP2.out.mono ?_
    intro e w3 hh
    cases hr : push (ofL false false) r1 with
    | error q =>
      rw [hr] at hh
      obtain ⟨rfl, h⟩ := hh
      exact ⟨rfl, outS_no (HE1.out.trans (by first | (rw [hr]; done) | (rw [hr]; rfl))) (h.back HK.out)⟩
    | ok r2 =>
      rw [hr] at hh
      obtain ⟨rfl, v2, hC⟩ := hh
      have HW2 := HW1
      have HO := Aside0.mk (show OutS w0 _ kb p _ (.returned unit) w3 from outS_ok (HE1.out.trans hr) (hC.back HK.out))
      clear hC hr HP2
      try dsimp only
      repeat (first | ((with_reducible refine inBlock_ne ?hne ?_); (case hne => rfl)) | (with_reducible refine inBlock_eq ?_) | (with_reducible refine then_exit ?_) | (with_reducible refine then_normal ?_) | (with_reducible refine inBlock_normal ?_) | (with_reducible refine then_ret ?_) | (with_reducible refine inBlock_ret ?_) | go_skip | go_guarded | go_step | go_upon)
      go_end0
      exact HO.out
set_option maxHeartbeats 4000000 in
set_option maxRecDepth 100000 in
theorem see_40_1_no (S : Stat w00 w0 Z kb p E h) (F : EFine E) (n : Int) (hcn : Can n) (hz : E.M.m1 = 0) (H : Cs w0 wr W kb p vs vf s) (wf : Wf s) (hz : wr.Z = Z := by rfl) :
    Calls Tryd.prog 40 #[.pointer (some ⟨kb, 0, none⟩), .agg #[.int .i64 40, .int .i64 n, .int .i64 1]] W (OutS w0 wr kb p (see E (40, n, 1) s)) := by
  subst hz
  have HB := Aside0.mk (blk_new W (.cells #[.int .i64 40, .int .i64 n, .int .i64 1] 45))
  have HS := Aside0.mk S
  have HF := Aside0.mk F
  have HW0 := Aside0.mk wf
  have HC0 := Aside0.mk (H.alloc (.cells #[.int .i64 40, .int .i64 n, .int .i64 1] 45)).rebase
  have HK := Aside0.mk (H.alloc (.cells #[.int .i64 40, .int .i64 n, .int .i64 1] 45)).kp
  have hqm : _ = some p.a4 := blk_cell HC0.out.box 4
  rw [HS.out.e4] at hqm
  have hq2 := blk_cell HB.out 2
  have HE0 := Aside0.mk (show see E (40, n, 1) s = .error 3 from by
    show (if E.M.m1 ≠ 0 then _ else Except.error 3) = _
    rw [if_neg (by simpa using hz)])
  have hzb : (E.M.m1 != 0) = false := by simpa using hz
  clear H wf S F hz
  go_enter Tryd.func40, Tryd.ntmps40
  try dsimp only
  repeat (first | ((with_reducible refine inBlock_ne ?hne ?_); (case hne => rfl)) | (with_reducible refine inBlock_eq ?_) | (with_reducible refine then_exit ?_) | (with_reducible refine then_normal ?_) | (with_reducible refine inBlock_normal ?_) | (with_reducible refine then_ret ?_) | (with_reducible refine inBlock_ret ?_) | go_skip | go_guarded | go_step | go_upon)
  generalize W.alloc _ = W1 at *
  go_still_tail 9, (by kernel_rfl)
  try dsimp only
  repeat (first | ((with_reducible refine inBlock_ne ?hne ?_); (case hne => rfl)) | (with_reducible refine inBlock_eq ?_) | (with_reducible refine then_exit ?_) | (with_reducible refine then_normal ?_) | (with_reducible refine inBlock_normal ?_) | (with_reducible refine then_ret ?_) | (with_reducible refine inBlock_ret ?_) | go_skip | go_guarded | go_step | go_upon)
  refine (must_no _).mono ?_
  rintro e w2 ⟨rfl, rfl⟩
  exact ⟨rfl, outS_no HE0.out (HC0.out.drew.bad.back HK.out)⟩
set_option maxHeartbeats 4000000 in
set_option maxRecDepth 100000 in
theorem see_40_1_yes (S : Stat w00 w0 Z kb p E h) (F : EFine E) (n : Int) (hcn : Can n) (hz : E.M.m1 ≠ 0) (H : Cs w0 wr W kb p vs vf s) (wf : Wf s) (hz : wr.Z = Z := by rfl) :
    Calls Tryd.prog 40 #[.pointer (some ⟨kb, 0, none⟩), .agg #[.int .i64 40, .int .i64 n, .int .i64 1]] W (OutS w0 wr kb p (see E (40, n, 1) s)) := by
  subst hz
  have HB := Aside0.mk (blk_new W (.cells #[.int .i64 40, .int .i64 n, .int .i64 1] 45))
  have HS := Aside0.mk S
  have HF := Aside0.mk F
  have HW0 := Aside0.mk wf
  have HC0 := Aside0.mk (H.alloc (.cells #[.int .i64 40, .int .i64 n, .int .i64 1] 45)).rebase
  have HK := Aside0.mk (H.alloc (.cells #[.int .i64 40, .int .i64 n, .int .i64 1] 45)).kp
  have hqm : _ = some p.a4 := blk_cell HC0.out.box 4
  rw [HS.out.e4] at hqm
  have hq2 := blk_cell HB.out 2
  have HE0 := Aside0.mk (show see E (40, n, 1) s = bnd (want 0 s) fun s1 => push (ofL false true) s1 from by
    show (if E.M.m1 ≠ 0 then _ else Except.error 3) = _
    rw [if_pos hz]
    rfl)
  have hzb : (E.M.m1 != 0) = true := by simpa using hz
  clear H wf S F hz
  go_enter Tryd.func40, Tryd.ntmps40
  try dsimp only
  repeat (first | ((with_reducible refine inBlock_ne ?hne ?_); (case hne => rfl)) | (with_reducible refine inBlock_eq ?_) | (with_reducible refine then_exit ?_) | (with_reducible refine then_normal ?_) | (with_reducible refine inBlock_normal ?_) | (with_reducible refine then_ret ?_) | (with_reducible refine inBlock_ret ?_) | go_skip | go_guarded | go_step | go_upon)
  generalize W.alloc _ = W1 at *
  go_still_tail 9, (by kernel_rfl)
  try dsimp only
  repeat (first | ((with_reducible refine inBlock_ne ?hne ?_); (case hne => rfl)) | (with_reducible refine inBlock_eq ?_) | (with_reducible refine then_exit ?_) | (with_reducible refine then_normal ?_) | (with_reducible refine inBlock_normal ?_) | (with_reducible refine then_ret ?_) | (with_reducible refine inBlock_ret ?_) | go_skip | go_guarded | go_step | go_upon)
  refine (must_yes _).mono ?_
  rintro e w2 ⟨rfl, rfl⟩
  replace HC0 := Aside0.mk HC0.out.drew
  clear hqm hq2
  try dsimp only
  repeat (first | ((with_reducible refine inBlock_ne ?hne ?_); (case hne => rfl)) | (with_reducible refine inBlock_eq ?_) | (with_reducible refine then_exit ?_) | (with_reducible refine then_normal ?_) | (with_reducible refine inBlock_normal ?_) | (with_reducible refine then_ret ?_) | (with_reducible refine inBlock_ret ?_) | go_skip | go_guarded | go_step | go_upon)
  have HP1 := Aside0.mk (want_calls 0 ⟨by decide, by decide⟩ HC0.out HW0.out)
  refine HP1.out.mono ?_
  intro e w2 hh
  cases hr : want 0 s with
  | error q =>
    rw [hr] at hh
    obtain ⟨rfl, h⟩ := hh
    exact ⟨rfl, outS_no (HE0.out.trans (by first | (rw [hr]; done) | (rw [hr]; rfl))) (h.back HK.out)⟩
  | ok r1 =>
    rw [hr] at hh
    obtain ⟨rfl, v1, hC⟩ := hh
    have HWW1 := Aside0.mk (want_wf HW0.out hr)
    have HW1 := Aside0.mk HWW1.out.1
    have HC1 := Aside0.mk hC
    have HE1 := Aside0.mk (HE0.out.trans (show _ = push (ofL false true) r1 from by rw [hr]; rfl))
    have hbK := hC.kp.kp _ _ _ (by decide) (by decide) (by decide) HB.out
    have hq0 := blk_cell hbK 0
    have hq1 := blk_cell hbK 1
    have hq2 := blk_cell hbK 2
    clear hbK
    clear hC hr HP1
    try dsimp only
    repeat (first | ((with_reducible refine inBlock_ne ?hne ?_); (case hne => rfl)) | (with_reducible refine inBlock_eq ?_) | (with_reducible refine then_exit ?_) | (with_reducible refine then_normal ?_) | (with_reducible refine inBlock_normal ?_) | (with_reducible refine then_ret ?_) | (with_reducible refine inBlock_ret ?_) | (go_at_call 63; refine (of_calls _ _ _).mono ?_; rintro e w' ⟨rfl, rfl⟩; dsimp only) | go_skip | go_guarded | go_step | go_upon)
    clear hq0 hq1 hq2
    have HP2 := Aside0.mk (push_calls (ofL false true) HC1.out HW1.out)
    refine HP2.out.mono ?_
    intro e w3 hh
    cases hr : push (ofL false true) r1 with
    | error q =>
      rw [hr] at hh
      obtain ⟨rfl, h⟩ := hh
      exact ⟨rfl, outS_no (HE1.out.trans (by first | (rw [hr]; done) | (rw [hr]; rfl))) (h.back HK.out)⟩
    | ok r2 =>
      rw [hr] at hh
      obtain ⟨rfl, v2, hC⟩ := hh
      have HW2 := HW1
      have HO := Aside0.mk (show OutS w0 _ kb p _ (.returned unit) w3 from outS_ok (HE1.out.trans hr) (hC.back HK.out))
      clear hC hr HP2
      try dsimp only
      repeat (first | ((with_reducible refine inBlock_ne ?hne ?_); (case hne => rfl)) | (with_reducible refine inBlock_eq ?_) | (with_reducible refine then_exit ?_) | (with_reducible refine then_normal ?_) | (with_reducible refine inBlock_normal ?_) | (with_reducible refine then_ret ?_) | (with_reducible refine inBlock_ret ?_) | go_skip | go_guarded | go_step | go_upon)
      go_end0
      exact HO.out
set_option maxHeartbeats 4000000 in
set_option maxRecDepth 100000 in
theorem see_41_0_no (S : Stat w00 w0 Z kb p E h) (F : EFine E) (n : Int) (hcn : Can n) (hz : E.M.m0 = 0) (H : Cs w0 wr W kb p vs vf s) (wf : Wf s) (hz : wr.Z = Z := by rfl) :
    Calls Tryd.prog 40 #[.pointer (some ⟨kb, 0, none⟩), .agg #[.int .i64 41, .int .i64 n, .int .i64 0]] W (OutS w0 wr kb p (see E (41, n, 0) s)) := by
  subst hz
  have HB := Aside0.mk (blk_new W (.cells #[.int .i64 41, .int .i64 n, .int .i64 0] 45))
  have HS := Aside0.mk S
  have HF := Aside0.mk F
  have HW0 := Aside0.mk wf
  have HC0 := Aside0.mk (H.alloc (.cells #[.int .i64 41, .int .i64 n, .int .i64 0] 45)).rebase
  have HK := Aside0.mk (H.alloc (.cells #[.int .i64 41, .int .i64 n, .int .i64 0] 45)).kp
  have hqm : _ = some p.a3 := blk_cell HC0.out.box 3
  rw [HS.out.e3] at hqm
  have hq2 := blk_cell HB.out 2
  have HE0 := Aside0.mk (show see E (41, n, 0) s = .error 3 from by
    show (if E.M.m0 ≠ 0 then _ else Except.error 3) = _
    rw [if_neg (by simpa using hz)])
  have hzb : (E.M.m0 != 0) = false := by simpa using hz
  clear H wf S F hz
  go_enter Tryd.func40, Tryd.ntmps40
  try dsimp only
  repeat (first | ((with_reducible refine inBlock_ne ?hne ?_); (case hne => rfl)) | (with_reducible refine inBlock_eq ?_) | (with_reducible refine then_exit ?_) | (with_reducible refine then_normal ?_) | (with_reducible refine inBlock_normal ?_) | (with_reducible refine then_ret ?_) | (with_reducible refine inBlock_ret ?_) | go_skip | go_guarded | go_step | go_upon)
  generalize W.alloc _ = W1 at *
  go_still_tail 9, (by kernel_rfl)
  try dsimp only
  repeat (first | ((with_reducible refine inBlock_ne ?hne ?_); (case hne => rfl)) | (with_reducible refine inBlock_eq ?_) | (with_reducible refine then_exit ?_) | (with_reducible refine then_normal ?_) | (with_reducible refine inBlock_normal ?_) | (with_reducible refine then_ret ?_) | (with_reducible refine inBlock_ret ?_) | go_skip | go_guarded | go_step | go_upon)
  refine (must_no _).mono ?_
  rintro e w2 ⟨rfl, rfl⟩
  exact ⟨rfl, outS_no HE0.out (HC0.out.drew.bad.back HK.out)⟩
set_option maxHeartbeats 4000000 in
set_option maxRecDepth 100000 in
theorem see_41_0_yes (S : Stat w00 w0 Z kb p E h) (F : EFine E) (n : Int) (hcn : Can n) (hz : E.M.m0 ≠ 0) (H : Cs w0 wr W kb p vs vf s) (wf : Wf s) (hz : wr.Z = Z := by rfl) :
    Calls Tryd.prog 40 #[.pointer (some ⟨kb, 0, none⟩), .agg #[.int .i64 41, .int .i64 n, .int .i64 0]] W (OutS w0 wr kb p (see E (41, n, 0) s)) := by
  subst hz
  have HB := Aside0.mk (blk_new W (.cells #[.int .i64 41, .int .i64 n, .int .i64 0] 45))
  have HS := Aside0.mk S
  have HF := Aside0.mk F
  have HW0 := Aside0.mk wf
  have HC0 := Aside0.mk (H.alloc (.cells #[.int .i64 41, .int .i64 n, .int .i64 0] 45)).rebase
  have HK := Aside0.mk (H.alloc (.cells #[.int .i64 41, .int .i64 n, .int .i64 0] 45)).kp
  have hqm : _ = some p.a3 := blk_cell HC0.out.box 3
  rw [HS.out.e3] at hqm
  have hq2 := blk_cell HB.out 2
  have HE0 := Aside0.mk (show see E (41, n, 0) s = bnd (want 0 s) fun s1 => push (ofL true false) s1 from by
    show (if E.M.m0 ≠ 0 then _ else Except.error 3) = _
    rw [if_pos hz]
    rfl)
  have hzb : (E.M.m0 != 0) = true := by simpa using hz
  clear H wf S F hz
  go_enter Tryd.func40, Tryd.ntmps40
  try dsimp only
  repeat (first | ((with_reducible refine inBlock_ne ?hne ?_); (case hne => rfl)) | (with_reducible refine inBlock_eq ?_) | (with_reducible refine then_exit ?_) | (with_reducible refine then_normal ?_) | (with_reducible refine inBlock_normal ?_) | (with_reducible refine then_ret ?_) | (with_reducible refine inBlock_ret ?_) | go_skip | go_guarded | go_step | go_upon)
  generalize W.alloc _ = W1 at *
  go_still_tail 9, (by kernel_rfl)
  try dsimp only
  repeat (first | ((with_reducible refine inBlock_ne ?hne ?_); (case hne => rfl)) | (with_reducible refine inBlock_eq ?_) | (with_reducible refine then_exit ?_) | (with_reducible refine then_normal ?_) | (with_reducible refine inBlock_normal ?_) | (with_reducible refine then_ret ?_) | (with_reducible refine inBlock_ret ?_) | go_skip | go_guarded | go_step | go_upon)
  refine (must_yes _).mono ?_
  rintro e w2 ⟨rfl, rfl⟩
  replace HC0 := Aside0.mk HC0.out.drew
  clear hqm hq2
  try dsimp only
  repeat (first | ((with_reducible refine inBlock_ne ?hne ?_); (case hne => rfl)) | (with_reducible refine inBlock_eq ?_) | (with_reducible refine then_exit ?_) | (with_reducible refine then_normal ?_) | (with_reducible refine inBlock_normal ?_) | (with_reducible refine then_ret ?_) | (with_reducible refine inBlock_ret ?_) | go_skip | go_guarded | go_step | go_upon)
  have HP1 := Aside0.mk (want_calls 0 ⟨by decide, by decide⟩ HC0.out HW0.out)
  refine HP1.out.mono ?_
  intro e w2 hh
  cases hr : want 0 s with
  | error q =>
    rw [hr] at hh
    obtain ⟨rfl, h⟩ := hh
    exact ⟨rfl, outS_no (HE0.out.trans (by first | (rw [hr]; done) | (rw [hr]; rfl))) (h.back HK.out)⟩
  | ok r1 =>
    rw [hr] at hh
    obtain ⟨rfl, v1, hC⟩ := hh
    have HWW1 := Aside0.mk (want_wf HW0.out hr)
    have HW1 := Aside0.mk HWW1.out.1
    have HC1 := Aside0.mk hC
    have HE1 := Aside0.mk (HE0.out.trans (show _ = push (ofL true false) r1 from by rw [hr]; rfl))
    have hbK := hC.kp.kp _ _ _ (by decide) (by decide) (by decide) HB.out
    have hq0 := blk_cell hbK 0
    have hq1 := blk_cell hbK 1
    have hq2 := blk_cell hbK 2
    clear hbK
    clear hC hr HP1
    try dsimp only
    repeat (first | ((with_reducible refine inBlock_ne ?hne ?_); (case hne => rfl)) | (with_reducible refine inBlock_eq ?_) | (with_reducible refine then_exit ?_) | (with_reducible refine then_normal ?_) | (with_reducible refine inBlock_normal ?_) | (with_reducible refine then_ret ?_) | (with_reducible refine inBlock_ret ?_) | (go_at_call 63; refine (of_calls _ _ _).mono ?_; rintro e w' ⟨rfl, rfl⟩; dsimp only) | go_skip | go_guarded | go_step | go_upon)
    clear hq0 hq1 hq2
    have HP2 := Aside0.mk (push_calls (ofL true false) HC1.out HW1.out)
    refine HP2.out.mono ?_
    intro e w3 hh
    cases hr : push (ofL true false) r1 with
    | error q =>
      rw [hr] at hh
      obtain ⟨rfl, h⟩ := hh
      exact ⟨rfl, outS_no (HE1.out.trans (by first | (rw [hr]; done) | (rw [hr]; rfl))) (h.back HK.out)⟩
    | ok r2 =>
      rw [hr] at hh
      obtain ⟨rfl, v2, hC⟩ := hh
      have HW2 := HW1
      have HO := Aside0.mk (show OutS w0 _ kb p _ (.returned unit) w3 from outS_ok (HE1.out.trans hr) (hC.back HK.out))
      clear hC hr HP2
      try dsimp only
      repeat (first | ((with_reducible refine inBlock_ne ?hne ?_); (case hne => rfl)) | (with_reducible refine inBlock_eq ?_) | (with_reducible refine then_exit ?_) | (with_reducible refine then_normal ?_) | (with_reducible refine inBlock_normal ?_) | (with_reducible refine then_ret ?_) | (with_reducible refine inBlock_ret ?_) | go_skip | go_guarded | go_step | go_upon)
      go_end0
      exact HO.out
set_option maxHeartbeats 4000000 in
set_option maxRecDepth 100000 in
theorem see_41_1_no (S : Stat w00 w0 Z kb p E h) (F : EFine E) (n : Int) (hcn : Can n) (hz : E.M.m1 = 0) (H : Cs w0 wr W kb p vs vf s) (wf : Wf s) (hz : wr.Z = Z := by rfl) :
    Calls Tryd.prog 40 #[.pointer (some ⟨kb, 0, none⟩), .agg #[.int .i64 41, .int .i64 n, .int .i64 1]] W (OutS w0 wr kb p (see E (41, n, 1) s)) := by
  subst hz
  have HB := Aside0.mk (blk_new W (.cells #[.int .i64 41, .int .i64 n, .int .i64 1] 45))
  have HS := Aside0.mk S
  have HF := Aside0.mk F
  have HW0 := Aside0.mk wf
  have HC0 := Aside0.mk (H.alloc (.cells #[.int .i64 41, .int .i64 n, .int .i64 1] 45)).rebase
  have HK := Aside0.mk (H.alloc (.cells #[.int .i64 41, .int .i64 n, .int .i64 1] 45)).kp
  have hqm : _ = some p.a4 := blk_cell HC0.out.box 4
  rw [HS.out.e4] at hqm
  have hq2 := blk_cell HB.out 2
  have HE0 := Aside0.mk (show see E (41, n, 1) s = .error 3 from by
    show (if E.M.m1 ≠ 0 then _ else Except.error 3) = _
    rw [if_neg (by simpa using hz)])
  have hzb : (E.M.m1 != 0) = false := by simpa using hz
  clear H wf S F hz
  go_enter Tryd.func40, Tryd.ntmps40
  try dsimp only
  repeat (first | ((with_reducible refine inBlock_ne ?hne ?_); (case hne => rfl)) | (with_reducible refine inBlock_eq ?_) | (with_reducible refine then_exit ?_) | (with_reducible refine then_normal ?_) | (with_reducible refine inBlock_normal ?_) | (with_reducible refine then_ret ?_) | (with_reducible refine inBlock_ret ?_) | go_skip | go_guarded | go_step | go_upon)
  generalize W.alloc _ = W1 at *
  go_still_tail 9, (by kernel_rfl)
  try dsimp only
  repeat (first | ((with_reducible refine inBlock_ne ?hne ?_); (case hne => rfl)) | (with_reducible refine inBlock_eq ?_) | (with_reducible refine then_exit ?_) | (with_reducible refine then_normal ?_) | (with_reducible refine inBlock_normal ?_) | (with_reducible refine then_ret ?_) | (with_reducible refine inBlock_ret ?_) | go_skip | go_guarded | go_step | go_upon)
  refine (must_no _).mono ?_
  rintro e w2 ⟨rfl, rfl⟩
  exact ⟨rfl, outS_no HE0.out (HC0.out.drew.bad.back HK.out)⟩
set_option maxHeartbeats 4000000 in
set_option maxRecDepth 100000 in
theorem see_41_1_yes (S : Stat w00 w0 Z kb p E h) (F : EFine E) (n : Int) (hcn : Can n) (hz : E.M.m1 ≠ 0) (H : Cs w0 wr W kb p vs vf s) (wf : Wf s) (hz : wr.Z = Z := by rfl) :
    Calls Tryd.prog 40 #[.pointer (some ⟨kb, 0, none⟩), .agg #[.int .i64 41, .int .i64 n, .int .i64 1]] W (OutS w0 wr kb p (see E (41, n, 1) s)) := by
  subst hz
  have HB := Aside0.mk (blk_new W (.cells #[.int .i64 41, .int .i64 n, .int .i64 1] 45))
  have HS := Aside0.mk S
  have HF := Aside0.mk F
  have HW0 := Aside0.mk wf
  have HC0 := Aside0.mk (H.alloc (.cells #[.int .i64 41, .int .i64 n, .int .i64 1] 45)).rebase
  have HK := Aside0.mk (H.alloc (.cells #[.int .i64 41, .int .i64 n, .int .i64 1] 45)).kp
  have hqm : _ = some p.a4 := blk_cell HC0.out.box 4
  rw [HS.out.e4] at hqm
  have hq2 := blk_cell HB.out 2
  have HE0 := Aside0.mk (show see E (41, n, 1) s = bnd (want 0 s) fun s1 => push (ofL true true) s1 from by
    show (if E.M.m1 ≠ 0 then _ else Except.error 3) = _
    rw [if_pos hz]
    rfl)
  have hzb : (E.M.m1 != 0) = true := by simpa using hz
  clear H wf S F hz
  go_enter Tryd.func40, Tryd.ntmps40
  try dsimp only
  repeat (first | ((with_reducible refine inBlock_ne ?hne ?_); (case hne => rfl)) | (with_reducible refine inBlock_eq ?_) | (with_reducible refine then_exit ?_) | (with_reducible refine then_normal ?_) | (with_reducible refine inBlock_normal ?_) | (with_reducible refine then_ret ?_) | (with_reducible refine inBlock_ret ?_) | go_skip | go_guarded | go_step | go_upon)
  generalize W.alloc _ = W1 at *
  go_still_tail 9, (by kernel_rfl)
  try dsimp only
  repeat (first | ((with_reducible refine inBlock_ne ?hne ?_); (case hne => rfl)) | (with_reducible refine inBlock_eq ?_) | (with_reducible refine then_exit ?_) | (with_reducible refine then_normal ?_) | (with_reducible refine inBlock_normal ?_) | (with_reducible refine then_ret ?_) | (with_reducible refine inBlock_ret ?_) | go_skip | go_guarded | go_step | go_upon)
  refine (must_yes _).mono ?_
  rintro e w2 ⟨rfl, rfl⟩
  replace HC0 := Aside0.mk HC0.out.drew
  clear hqm hq2
  try dsimp only
  repeat (first | ((with_reducible refine inBlock_ne ?hne ?_); (case hne => rfl)) | (with_reducible refine inBlock_eq ?_) | (with_reducible refine then_exit ?_) | (with_reducible refine then_normal ?_) | (with_reducible refine inBlock_normal ?_) | (with_reducible refine then_ret ?_) | (with_reducible refine inBlock_ret ?_) | go_skip | go_guarded | go_step | go_upon)
  have HP1 := Aside0.mk (want_calls 0 ⟨by decide, by decide⟩ HC0.out HW0.out)
  refine HP1.out.mono ?_
  intro e w2 hh
  cases hr : want 0 s with
  | error q =>
    rw [hr] at hh
    obtain ⟨rfl, h⟩ := hh
    exact ⟨rfl, outS_no (HE0.out.trans (by first | (rw [hr]; done) | (rw [hr]; rfl))) (h.back HK.out)⟩
  | ok r1 =>
    rw [hr] at hh
    obtain ⟨rfl, v1, hC⟩ := hh
    have HWW1 := Aside0.mk (want_wf HW0.out hr)
    have HW1 := Aside0.mk HWW1.out.1
    have HC1 := Aside0.mk hC
    have HE1 := Aside0.mk (HE0.out.trans (show _ = push (ofL true true) r1 from by rw [hr]; rfl))
    have hbK := hC.kp.kp _ _ _ (by decide) (by decide) (by decide) HB.out
    have hq0 := blk_cell hbK 0
    have hq1 := blk_cell hbK 1
    have hq2 := blk_cell hbK 2
    clear hbK
    clear hC hr HP1
    try dsimp only
    repeat (first | ((with_reducible refine inBlock_ne ?hne ?_); (case hne => rfl)) | (with_reducible refine inBlock_eq ?_) | (with_reducible refine then_exit ?_) | (with_reducible refine then_normal ?_) | (with_reducible refine inBlock_normal ?_) | (with_reducible refine then_ret ?_) | (with_reducible refine inBlock_ret ?_) | (go_at_call 63; refine (of_calls _ _ _).mono ?_; rintro e w' ⟨rfl, rfl⟩; dsimp only) | go_skip | go_guarded | go_step | go_upon)
    clear hq0 hq1 hq2
    have HP2 := Aside0.mk (push_calls (ofL true true) HC1.out HW1.out)
    refine HP2.out.mono ?_
    intro e w3 hh
    cases hr : push (ofL true true) r1 with
    | error q =>
      rw [hr] at hh
      obtain ⟨rfl, h⟩ := hh
      exact ⟨rfl, outS_no (HE1.out.trans (by first | (rw [hr]; done) | (rw [hr]; rfl))) (h.back HK.out)⟩
    | ok r2 =>
      rw [hr] at hh
      obtain ⟨rfl, v2, hC⟩ := hh
      have HW2 := HW1
      have HO := Aside0.mk (show OutS w0 _ kb p _ (.returned unit) w3 from outS_ok (HE1.out.trans hr) (hC.back HK.out))
      clear hC hr HP2
      try dsimp only
      repeat (first | ((with_reducible refine inBlock_ne ?hne ?_); (case hne => rfl)) | (with_reducible refine inBlock_eq ?_) | (with_reducible refine then_exit ?_) | (with_reducible refine then_normal ?_) | (with_reducible refine inBlock_normal ?_) | (with_reducible refine then_ret ?_) | (with_reducible refine inBlock_ret ?_) | go_skip | go_guarded | go_step | go_upon)
      go_end0
      exact HO.out
set_option maxHeartbeats 4000000 in
set_option maxRecDepth 100000 in
theorem see_54_0_no (S : Stat w00 w0 Z kb p E h) (F : EFine E) (n : Int) (hcn : Can n) (hz : E.M.m0 = 0) (H : Cs w0 wr W kb p vs vf s) (wf : Wf s) (hz : wr.Z = Z := by rfl) :
    Calls Tryd.prog 40 #[.pointer (some ⟨kb, 0, none⟩), .agg #[.int .i64 54, .int .i64 n, .int .i64 0]] W (OutS w0 wr kb p (see E (54, n, 0) s)) := by
  subst hz
  have HB := Aside0.mk (blk_new W (.cells #[.int .i64 54, .int .i64 n, .int .i64 0] 45))
  have HS := Aside0.mk S
  have HF := Aside0.mk F
  have HW0 := Aside0.mk wf
  have HC0 := Aside0.mk (H.alloc (.cells #[.int .i64 54, .int .i64 n, .int .i64 0] 45)).rebase
  have HK := Aside0.mk (H.alloc (.cells #[.int .i64 54, .int .i64 n, .int .i64 0] 45)).kp
  have hqm : _ = some p.a3 := blk_cell HC0.out.box 3
  rw [HS.out.e3] at hqm
  have hq2 := blk_cell HB.out 2
  have HE0 := Aside0.mk (show see E (54, n, 0) s = .error 3 from by
    show (if E.M.m0 ≠ 0 then _ else Except.error 3) = _
    rw [if_neg (by simpa using hz)])
  have hzb : (E.M.m0 != 0) = false := by simpa using hz
  clear H wf S F hz
  go_enter Tryd.func40, Tryd.ntmps40
  try dsimp only
  repeat (first | ((with_reducible refine inBlock_ne ?hne ?_); (case hne => rfl)) | (with_reducible refine inBlock_eq ?_) | (with_reducible refine then_exit ?_) | (with_reducible refine then_normal ?_) | (with_reducible refine inBlock_normal ?_) | (with_reducible refine then_ret ?_) | (with_reducible refine inBlock_ret ?_) | go_skip | go_guarded | go_step | go_upon)
  generalize W.alloc _ = W1 at *
  go_still_tail 9, (by kernel_rfl)
  try dsimp only
  repeat (first | ((with_reducible refine inBlock_ne ?hne ?_); (case hne => rfl)) | (with_reducible refine inBlock_eq ?_) | (with_reducible refine then_exit ?_) | (with_reducible refine then_normal ?_) | (with_reducible refine inBlock_normal ?_) | (with_reducible refine then_ret ?_) | (with_reducible refine inBlock_ret ?_) | go_skip | go_guarded | go_step | go_upon)
  refine (must_no _).mono ?_
  rintro e w2 ⟨rfl, rfl⟩
  exact ⟨rfl, outS_no HE0.out (HC0.out.drew.bad.back HK.out)⟩
set_option maxHeartbeats 4000000 in
set_option maxRecDepth 100000 in
theorem see_54_0_yes (S : Stat w00 w0 Z kb p E h) (F : EFine E) (n : Int) (hcn : Can n) (hz : E.M.m0 ≠ 0) (H : Cs w0 wr W kb p vs vf s) (wf : Wf s) (hz : wr.Z = Z := by rfl) :
    Calls Tryd.prog 40 #[.pointer (some ⟨kb, 0, none⟩), .agg #[.int .i64 54, .int .i64 n, .int .i64 0]] W (OutS w0 wr kb p (see E (54, n, 0) s)) := by
  subst hz
  have HB := Aside0.mk (blk_new W (.cells #[.int .i64 54, .int .i64 n, .int .i64 0] 45))
  have HS := Aside0.mk S
  have HF := Aside0.mk F
  have HW0 := Aside0.mk wf
  have HC0 := Aside0.mk (H.alloc (.cells #[.int .i64 54, .int .i64 n, .int .i64 0] 45)).rebase
  have HK := Aside0.mk (H.alloc (.cells #[.int .i64 54, .int .i64 n, .int .i64 0] 45)).kp
  have hqm : _ = some p.a3 := blk_cell HC0.out.box 3
  rw [HS.out.e3] at hqm
  have hq2 := blk_cell HB.out 2
  have HE0 := Aside0.mk (show see E (54, n, 0) s = bnd (want (ofL false false) s) fun s1 => want 0 s1 from by
    show (if E.M.m0 ≠ 0 then _ else Except.error 3) = _
    rw [if_pos hz]
    rfl)
  have hzb : (E.M.m0 != 0) = true := by simpa using hz
  clear H wf S F hz
  go_enter Tryd.func40, Tryd.ntmps40
  try dsimp only
  repeat (first | ((with_reducible refine inBlock_ne ?hne ?_); (case hne => rfl)) | (with_reducible refine inBlock_eq ?_) | (with_reducible refine then_exit ?_) | (with_reducible refine then_normal ?_) | (with_reducible refine inBlock_normal ?_) | (with_reducible refine then_ret ?_) | (with_reducible refine inBlock_ret ?_) | go_skip | go_guarded | go_step | go_upon)
  generalize W.alloc _ = W1 at *
  go_still_tail 9, (by kernel_rfl)
  try dsimp only
  repeat (first | ((with_reducible refine inBlock_ne ?hne ?_); (case hne => rfl)) | (with_reducible refine inBlock_eq ?_) | (with_reducible refine then_exit ?_) | (with_reducible refine then_normal ?_) | (with_reducible refine inBlock_normal ?_) | (with_reducible refine then_ret ?_) | (with_reducible refine inBlock_ret ?_) | go_skip | go_guarded | go_step | go_upon)
  refine (must_yes _).mono ?_
  rintro e w2 ⟨rfl, rfl⟩
  replace HC0 := Aside0.mk HC0.out.drew
  clear hqm hq2
  have hq0 := blk_cell (HC0.out.kp.kp _ _ _ (by decide) (by decide) (by decide) HB.out) 0
  have hq2 := blk_cell (HC0.out.kp.kp _ _ _ (by decide) (by decide) (by decide) HB.out) 2
  try dsimp only
  repeat (first | ((with_reducible refine inBlock_ne ?hne ?_); (case hne => rfl)) | (with_reducible refine inBlock_eq ?_) | (with_reducible refine then_exit ?_) | (with_reducible refine then_normal ?_) | (with_reducible refine inBlock_normal ?_) | (with_reducible refine then_ret ?_) | (with_reducible refine inBlock_ret ?_) | (go_at_call 63; refine (of_calls _ _ _).mono ?_; rintro e w' ⟨rfl, rfl⟩; dsimp only) | go_skip | go_guarded | go_step | go_upon)
  clear hq0 hq2
  have HP1 := Aside0.mk (want_calls (ofL false false) (ty_can (ofL_ty _ _)) HC0.out HW0.out)
  refine HP1.out.mono ?_
  intro e w2 hh
  cases hr : want (ofL false false) s with
  | error q =>
    rw [hr] at hh
    obtain ⟨rfl, h⟩ := hh
    exact ⟨rfl, outS_no (HE0.out.trans (by first | (rw [hr]; done) | (rw [hr]; rfl))) (h.back HK.out)⟩
  | ok r1 =>
    rw [hr] at hh
    obtain ⟨rfl, v1, hC⟩ := hh
    have HWW1 := Aside0.mk (want_wf HW0.out hr)
    have HW1 := Aside0.mk HWW1.out.1
    have HC1 := Aside0.mk hC
    have HE1 := Aside0.mk (HE0.out.trans (show _ = want 0 r1 from by rw [hr]; rfl))
    have hbK := hC.kp.kp _ _ _ (by decide) (by decide) (by decide) HB.out
    have hq0 := blk_cell hbK 0
    have hq1 := blk_cell hbK 1
    have hq2 := blk_cell hbK 2
    clear hbK
    clear hC hr HP1
    try dsimp only
    repeat (first | ((with_reducible refine inBlock_ne ?hne ?_); (case hne => rfl)) | (with_reducible refine inBlock_eq ?_) | (with_reducible refine then_exit ?_) | (with_reducible refine then_normal ?_) | (with_reducible refine inBlock_normal ?_) | (with_reducible refine then_ret ?_) | (with_reducible refine inBlock_ret ?_) | go_skip | go_guarded | go_step | go_upon)
    clear hq0 hq1 hq2
    have HP2 := Aside0.mk (want_calls 0 ⟨by decide, by decide⟩ HC1.out HW1.out)
    refine HP2.out.mono ?_
    intro e w3 hh
    cases hr : want 0 r1 with
    | error q =>
      rw [hr] at hh
      obtain ⟨rfl, h⟩ := hh
      exact ⟨rfl, outS_no (HE1.out.trans (by first | (rw [hr]; done) | (rw [hr]; rfl))) (h.back HK.out)⟩
    | ok r2 =>
      rw [hr] at hh
      obtain ⟨rfl, v2, hC⟩ := hh
      have HW2 := HW1
      have HO := Aside0.mk (show OutS w0 _ kb p _ (.returned unit) w3 from outS_ok (HE1.out.trans hr) (hC.back HK.out))
      clear hC hr HP2
      try dsimp only
      repeat (first | ((with_reducible refine inBlock_ne ?hne ?_); (case hne => rfl)) | (with_reducible refine inBlock_eq ?_) | (with_reducible refine then_exit ?_) | (with_reducible refine then_normal ?_) | (with_reducible refine inBlock_normal ?_) | (with_reducible refine then_ret ?_) | (with_reducible refine inBlock_ret ?_) | go_skip | go_guarded | go_step | go_upon)
      go_end0
      exact HO.out
set_option maxHeartbeats 4000000 in
set_option maxRecDepth 100000 in
theorem see_54_1_no (S : Stat w00 w0 Z kb p E h) (F : EFine E) (n : Int) (hcn : Can n) (hz : E.M.m1 = 0) (H : Cs w0 wr W kb p vs vf s) (wf : Wf s) (hz : wr.Z = Z := by rfl) :
    Calls Tryd.prog 40 #[.pointer (some ⟨kb, 0, none⟩), .agg #[.int .i64 54, .int .i64 n, .int .i64 1]] W (OutS w0 wr kb p (see E (54, n, 1) s)) := by
  subst hz
  have HB := Aside0.mk (blk_new W (.cells #[.int .i64 54, .int .i64 n, .int .i64 1] 45))
  have HS := Aside0.mk S
  have HF := Aside0.mk F
  have HW0 := Aside0.mk wf
  have HC0 := Aside0.mk (H.alloc (.cells #[.int .i64 54, .int .i64 n, .int .i64 1] 45)).rebase
  have HK := Aside0.mk (H.alloc (.cells #[.int .i64 54, .int .i64 n, .int .i64 1] 45)).kp
  have hqm : _ = some p.a4 := blk_cell HC0.out.box 4
  rw [HS.out.e4] at hqm
  have hq2 := blk_cell HB.out 2
  have HE0 := Aside0.mk (show see E (54, n, 1) s = .error 3 from by
    show (if E.M.m1 ≠ 0 then _ else Except.error 3) = _
    rw [if_neg (by simpa using hz)])
  have hzb : (E.M.m1 != 0) = false := by simpa using hz
  clear H wf S F hz
  go_enter Tryd.func40, Tryd.ntmps40
  try dsimp only
  repeat (first | ((with_reducible refine inBlock_ne ?hne ?_); (case hne => rfl)) | (with_reducible refine inBlock_eq ?_) | (with_reducible refine then_exit ?_) | (with_reducible refine then_normal ?_) | (with_reducible refine inBlock_normal ?_) | (with_reducible refine then_ret ?_) | (with_reducible refine inBlock_ret ?_) | go_skip | go_guarded | go_step | go_upon)
  generalize W.alloc _ = W1 at *
  go_still_tail 9, (by kernel_rfl)
  try dsimp only
  repeat (first | ((with_reducible refine inBlock_ne ?hne ?_); (case hne => rfl)) | (with_reducible refine inBlock_eq ?_) | (with_reducible refine then_exit ?_) | (with_reducible refine then_normal ?_) | (with_reducible refine inBlock_normal ?_) | (with_reducible refine then_ret ?_) | (with_reducible refine inBlock_ret ?_) | go_skip | go_guarded | go_step | go_upon)
  refine (must_no _).mono ?_
  rintro e w2 ⟨rfl, rfl⟩
  exact ⟨rfl, outS_no HE0.out (HC0.out.drew.bad.back HK.out)⟩
set_option maxHeartbeats 4000000 in
set_option maxRecDepth 100000 in
theorem see_54_1_yes (S : Stat w00 w0 Z kb p E h) (F : EFine E) (n : Int) (hcn : Can n) (hz : E.M.m1 ≠ 0) (H : Cs w0 wr W kb p vs vf s) (wf : Wf s) (hz : wr.Z = Z := by rfl) :
    Calls Tryd.prog 40 #[.pointer (some ⟨kb, 0, none⟩), .agg #[.int .i64 54, .int .i64 n, .int .i64 1]] W (OutS w0 wr kb p (see E (54, n, 1) s)) := by
  subst hz
  have HB := Aside0.mk (blk_new W (.cells #[.int .i64 54, .int .i64 n, .int .i64 1] 45))
  have HS := Aside0.mk S
  have HF := Aside0.mk F
  have HW0 := Aside0.mk wf
  have HC0 := Aside0.mk (H.alloc (.cells #[.int .i64 54, .int .i64 n, .int .i64 1] 45)).rebase
  have HK := Aside0.mk (H.alloc (.cells #[.int .i64 54, .int .i64 n, .int .i64 1] 45)).kp
  have hqm : _ = some p.a4 := blk_cell HC0.out.box 4
  rw [HS.out.e4] at hqm
  have hq2 := blk_cell HB.out 2
  have HE0 := Aside0.mk (show see E (54, n, 1) s = bnd (want (ofL false true) s) fun s1 => want 0 s1 from by
    show (if E.M.m1 ≠ 0 then _ else Except.error 3) = _
    rw [if_pos hz]
    rfl)
  have hzb : (E.M.m1 != 0) = true := by simpa using hz
  clear H wf S F hz
  go_enter Tryd.func40, Tryd.ntmps40
  try dsimp only
  repeat (first | ((with_reducible refine inBlock_ne ?hne ?_); (case hne => rfl)) | (with_reducible refine inBlock_eq ?_) | (with_reducible refine then_exit ?_) | (with_reducible refine then_normal ?_) | (with_reducible refine inBlock_normal ?_) | (with_reducible refine then_ret ?_) | (with_reducible refine inBlock_ret ?_) | go_skip | go_guarded | go_step | go_upon)
  generalize W.alloc _ = W1 at *
  go_still_tail 9, (by kernel_rfl)
  try dsimp only
  repeat (first | ((with_reducible refine inBlock_ne ?hne ?_); (case hne => rfl)) | (with_reducible refine inBlock_eq ?_) | (with_reducible refine then_exit ?_) | (with_reducible refine then_normal ?_) | (with_reducible refine inBlock_normal ?_) | (with_reducible refine then_ret ?_) | (with_reducible refine inBlock_ret ?_) | go_skip | go_guarded | go_step | go_upon)
  refine (must_yes _).mono ?_
  rintro e w2 ⟨rfl, rfl⟩
  replace HC0 := Aside0.mk HC0.out.drew
  clear hqm hq2
  have hq0 := blk_cell (HC0.out.kp.kp _ _ _ (by decide) (by decide) (by decide) HB.out) 0
  have hq2 := blk_cell (HC0.out.kp.kp _ _ _ (by decide) (by decide) (by decide) HB.out) 2
  try dsimp only
  repeat (first | ((with_reducible refine inBlock_ne ?hne ?_); (case hne => rfl)) | (with_reducible refine inBlock_eq ?_) | (with_reducible refine then_exit ?_) | (with_reducible refine then_normal ?_) | (with_reducible refine inBlock_normal ?_) | (with_reducible refine then_ret ?_) | (with_reducible refine inBlock_ret ?_) | (go_at_call 63; refine (of_calls _ _ _).mono ?_; rintro e w' ⟨rfl, rfl⟩; dsimp only) | go_skip | go_guarded | go_step | go_upon)
  clear hq0 hq2
  have HP1 := Aside0.mk (want_calls (ofL false true) (ty_can (ofL_ty _ _)) HC0.out HW0.out)
  refine HP1.out.mono ?_
  intro e w2 hh
  cases hr : want (ofL false true) s with
  | error q =>
    rw [hr] at hh
    obtain ⟨rfl, h⟩ := hh
    exact ⟨rfl, outS_no (HE0.out.trans (by first | (rw [hr]; done) | (rw [hr]; rfl))) (h.back HK.out)⟩
  | ok r1 =>
    rw [hr] at hh
    obtain ⟨rfl, v1, hC⟩ := hh
    have HWW1 := Aside0.mk (want_wf HW0.out hr)
    have HW1 := Aside0.mk HWW1.out.1
    have HC1 := Aside0.mk hC
    have HE1 := Aside0.mk (HE0.out.trans (show _ = want 0 r1 from by rw [hr]; rfl))
    have hbK := hC.kp.kp _ _ _ (by decide) (by decide) (by decide) HB.out
    have hq0 := blk_cell hbK 0
    have hq1 := blk_cell hbK 1
    have hq2 := blk_cell hbK 2
    clear hbK
    clear hC hr HP1
    try dsimp only
    repeat (first | ((with_reducible refine inBlock_ne ?hne ?_); (case hne => rfl)) | (with_reducible refine inBlock_eq ?_) | (with_reducible refine then_exit ?_) | (with_reducible refine then_normal ?_) | (with_reducible refine inBlock_normal ?_) | (with_reducible refine then_ret ?_) | (with_reducible refine inBlock_ret ?_) | go_skip | go_guarded | go_step | go_upon)
    clear hq0 hq1 hq2
    have HP2 := Aside0.mk (want_calls 0 ⟨by decide, by decide⟩ HC1.out HW1.out)
    refine HP2.out.mono ?_
    intro e w3 hh
    cases hr : want 0 r1 with
    | error q =>
      rw [hr] at hh
      obtain ⟨rfl, h⟩ := hh
      exact ⟨rfl, outS_no (HE1.out.trans (by first | (rw [hr]; done) | (rw [hr]; rfl))) (h.back HK.out)⟩
    | ok r2 =>
      rw [hr] at hh
      obtain ⟨rfl, v2, hC⟩ := hh
      have HW2 := HW1
      have HO := Aside0.mk (show OutS w0 _ kb p _ (.returned unit) w3 from outS_ok (HE1.out.trans hr) (hC.back HK.out))
      clear hC hr HP2
      try dsimp only
      repeat (first | ((with_reducible refine inBlock_ne ?hne ?_); (case hne => rfl)) | (with_reducible refine inBlock_eq ?_) | (with_reducible refine then_exit ?_) | (with_reducible refine then_normal ?_) | (with_reducible refine inBlock_normal ?_) | (with_reducible refine then_ret ?_) | (with_reducible refine inBlock_ret ?_) | go_skip | go_guarded | go_step | go_upon)
      go_end0
      exact HO.out
set_option maxHeartbeats 4000000 in
set_option maxRecDepth 100000 in
theorem see_55_0_no (S : Stat w00 w0 Z kb p E h) (F : EFine E) (n : Int) (hcn : Can n) (hz : E.M.m0 = 0) (H : Cs w0 wr W kb p vs vf s) (wf : Wf s) (hz : wr.Z = Z := by rfl) :
    Calls Tryd.prog 40 #[.pointer (some ⟨kb, 0, none⟩), .agg #[.int .i64 55, .int .i64 n, .int .i64 0]] W (OutS w0 wr kb p (see E (55, n, 0) s)) := by
  subst hz
  have HB := Aside0.mk (blk_new W (.cells #[.int .i64 55, .int .i64 n, .int .i64 0] 45))
  have HS := Aside0.mk S
  have HF := Aside0.mk F
  have HW0 := Aside0.mk wf
  have HC0 := Aside0.mk (H.alloc (.cells #[.int .i64 55, .int .i64 n, .int .i64 0] 45)).rebase
  have HK := Aside0.mk (H.alloc (.cells #[.int .i64 55, .int .i64 n, .int .i64 0] 45)).kp
  have hqm : _ = some p.a3 := blk_cell HC0.out.box 3
  rw [HS.out.e3] at hqm
  have hq2 := blk_cell HB.out 2
  have HE0 := Aside0.mk (show see E (55, n, 0) s = .error 3 from by
    show (if E.M.m0 ≠ 0 then _ else Except.error 3) = _
    rw [if_neg (by simpa using hz)])
  have hzb : (E.M.m0 != 0) = false := by simpa using hz
  clear H wf S F hz
  go_enter Tryd.func40, Tryd.ntmps40
  try dsimp only
  repeat (first | ((with_reducible refine inBlock_ne ?hne ?_); (case hne => rfl)) | (with_reducible refine inBlock_eq ?_) | (with_reducible refine then_exit ?_) | (with_reducible refine then_normal ?_) | (with_reducible refine inBlock_normal ?_) | (with_reducible refine then_ret ?_) | (with_reducible refine inBlock_ret ?_) | go_skip | go_guarded | go_step | go_upon)
  generalize W.alloc _ = W1 at *
  go_still_tail 9, (by kernel_rfl)
  try dsimp only
  repeat (first | ((with_reducible refine inBlock_ne ?hne ?_); (case hne => rfl)) | (with_reducible refine inBlock_eq ?_) | (with_reducible refine then_exit ?_) | (with_reducible refine then_normal ?_) | (with_reducible refine inBlock_normal ?_) | (with_reducible refine then_ret ?_) | (with_reducible refine inBlock_ret ?_) | go_skip | go_guarded | go_step | go_upon)
  refine (must_no _).mono ?_
  rintro e w2 ⟨rfl, rfl⟩
  exact ⟨rfl, outS_no HE0.out (HC0.out.drew.bad.back HK.out)⟩
set_option maxHeartbeats 4000000 in
set_option maxRecDepth 100000 in
theorem see_55_0_yes (S : Stat w00 w0 Z kb p E h) (F : EFine E) (n : Int) (hcn : Can n) (hz : E.M.m0 ≠ 0) (H : Cs w0 wr W kb p vs vf s) (wf : Wf s) (hz : wr.Z = Z := by rfl) :
    Calls Tryd.prog 40 #[.pointer (some ⟨kb, 0, none⟩), .agg #[.int .i64 55, .int .i64 n, .int .i64 0]] W (OutS w0 wr kb p (see E (55, n, 0) s)) := by
  subst hz
  have HB := Aside0.mk (blk_new W (.cells #[.int .i64 55, .int .i64 n, .int .i64 0] 45))
  have HS := Aside0.mk S
  have HF := Aside0.mk F
  have HW0 := Aside0.mk wf
  have HC0 := Aside0.mk (H.alloc (.cells #[.int .i64 55, .int .i64 n, .int .i64 0] 45)).rebase
  have HK := Aside0.mk (H.alloc (.cells #[.int .i64 55, .int .i64 n, .int .i64 0] 45)).kp
  have hqm : _ = some p.a3 := blk_cell HC0.out.box 3
  rw [HS.out.e3] at hqm
  have hq2 := blk_cell HB.out 2
  have HE0 := Aside0.mk (show see E (55, n, 0) s = bnd (want (ofL true false) s) fun s1 => want 0 s1 from by
    show (if E.M.m0 ≠ 0 then _ else Except.error 3) = _
    rw [if_pos hz]
    rfl)
  have hzb : (E.M.m0 != 0) = true := by simpa using hz
  clear H wf S F hz
  go_enter Tryd.func40, Tryd.ntmps40
  try dsimp only
  repeat (first | ((with_reducible refine inBlock_ne ?hne ?_); (case hne => rfl)) | (with_reducible refine inBlock_eq ?_) | (with_reducible refine then_exit ?_) | (with_reducible refine then_normal ?_) | (with_reducible refine inBlock_normal ?_) | (with_reducible refine then_ret ?_) | (with_reducible refine inBlock_ret ?_) | go_skip | go_guarded | go_step | go_upon)
  generalize W.alloc _ = W1 at *
  go_still_tail 9, (by kernel_rfl)
  try dsimp only
  repeat (first | ((with_reducible refine inBlock_ne ?hne ?_); (case hne => rfl)) | (with_reducible refine inBlock_eq ?_) | (with_reducible refine then_exit ?_) | (with_reducible refine then_normal ?_) | (with_reducible refine inBlock_normal ?_) | (with_reducible refine then_ret ?_) | (with_reducible refine inBlock_ret ?_) | go_skip | go_guarded | go_step | go_upon)
  refine (must_yes _).mono ?_
  rintro e w2 ⟨rfl, rfl⟩
  replace HC0 := Aside0.mk HC0.out.drew
  clear hqm hq2
  have hq0 := blk_cell (HC0.out.kp.kp _ _ _ (by decide) (by decide) (by decide) HB.out) 0
  have hq2 := blk_cell (HC0.out.kp.kp _ _ _ (by decide) (by decide) (by decide) HB.out) 2
  try dsimp only
  repeat (first | ((with_reducible refine inBlock_ne ?hne ?_); (case hne => rfl)) | (with_reducible refine inBlock_eq ?_) | (with_reducible refine then_exit ?_) | (with_reducible refine then_normal ?_) | (with_reducible refine inBlock_normal ?_) | (with_reducible refine then_ret ?_) | (with_reducible refine inBlock_ret ?_) | (go_at_call 63; refine (of_calls _ _ _).mono ?_; rintro e w' ⟨rfl, rfl⟩; dsimp only) | go_skip | go_guarded | go_step | go_upon)
  clear hq0 hq2
  have HP1 := Aside0.mk (want_calls (ofL true false) (ty_can (ofL_ty _ _)) HC0.out HW0.out)
  refine HP1.out.mono ?_
  intro e w2 hh
  cases hr : want (ofL true false) s with
  | error q =>
    rw [hr] at hh
    obtain ⟨rfl, h⟩ := hh
    exact ⟨rfl, outS_no (HE0.out.trans (by first | (rw [hr]; done) | (rw [hr]; rfl))) (h.back HK.out)⟩
  | ok r1 =>
    rw [hr] at hh
    obtain ⟨rfl, v1, hC⟩ := hh
    have HWW1 := Aside0.mk (want_wf HW0.out hr)
    have HW1 := Aside0.mk HWW1.out.1
    have HC1 := Aside0.mk hC
    have HE1 := Aside0.mk (HE0.out.trans (show _ = want 0 r1 from by rw [hr]; rfl))
    have hbK := hC.kp.kp _ _ _ (by decide) (by decide) (by decide) HB.out
    have hq0 := blk_cell hbK 0
    have hq1 := blk_cell hbK 1
    have hq2 := blk_cell hbK 2
    clear hbK
    clear hC hr HP1
    try dsimp only
    repeat (first | ((with_reducible refine inBlock_ne ?hne ?_); (case hne => rfl)) | (with_reducible refine inBlock_eq ?_) | (with_reducible refine then_exit ?_) | (with_reducible refine then_normal ?_) | (with_reducible refine inBlock_normal ?_) | (with_reducible refine then_ret ?_) | (with_reducible refine inBlock_ret ?_) | go_skip | go_guarded | go_step | go_upon)
    clear hq0 hq1 hq2
    have HP2 := Aside0.mk (want_calls 0 ⟨by decide, by decide⟩ HC1.out HW1.out)
    refine HP2.out.mono ?_
    intro e w3 hh
    cases hr : want 0 r1 with
    | error q =>
      rw [hr] at hh
      obtain ⟨rfl, h⟩ := hh
      exact ⟨rfl, outS_no (HE1.out.trans (by first | (rw [hr]; done) | (rw [hr]; rfl))) (h.back HK.out)⟩
    | ok r2 =>
      rw [hr] at hh
      obtain ⟨rfl, v2, hC⟩ := hh
      have HW2 := HW1
      have HO := Aside0.mk (show OutS w0 _ kb p _ (.returned unit) w3 from outS_ok (HE1.out.trans hr) (hC.back HK.out))
      clear hC hr HP2
      try dsimp only
      repeat (first | ((with_reducible refine inBlock_ne ?hne ?_); (case hne => rfl)) | (with_reducible refine inBlock_eq ?_) | (with_reducible refine then_exit ?_) | (with_reducible refine then_normal ?_) | (with_reducible refine inBlock_normal ?_) | (with_reducible refine then_ret ?_) | (with_reducible refine inBlock_ret ?_) | go_skip | go_guarded | go_step | go_upon)
      go_end0
      exact HO.out
set_option maxHeartbeats 4000000 in
set_option maxRecDepth 100000 in
theorem see_55_1_no (S : Stat w00 w0 Z kb p E h) (F : EFine E) (n : Int) (hcn : Can n) (hz : E.M.m1 = 0) (H : Cs w0 wr W kb p vs vf s) (wf : Wf s) (hz : wr.Z = Z := by rfl) :
    Calls Tryd.prog 40 #[.pointer (some ⟨kb, 0, none⟩), .agg #[.int .i64 55, .int .i64 n, .int .i64 1]] W (OutS w0 wr kb p (see E (55, n, 1) s)) := by
  subst hz
  have HB := Aside0.mk (blk_new W (.cells #[.int .i64 55, .int .i64 n, .int .i64 1] 45))
  have HS := Aside0.mk S
  have HF := Aside0.mk F
  have HW0 := Aside0.mk wf
  have HC0 := Aside0.mk (H.alloc (.cells #[.int .i64 55, .int .i64 n, .int .i64 1] 45)).rebase
  have HK := Aside0.mk (H.alloc (.cells #[.int .i64 55, .int .i64 n, .int .i64 1] 45)).kp
  have hqm : _ = some p.a4 := blk_cell HC0.out.box 4
  rw [HS.out.e4] at hqm
  have hq2 := blk_cell HB.out 2
  have HE0 := Aside0.mk (show see E (55, n, 1) s = .error 3 from by
    show (if E.M.m1 ≠ 0 then _ else Except.error 3) = _
    rw [if_neg (by simpa using hz)])
  have hzb : (E.M.m1 != 0) = false := by simpa using hz
  clear H wf S F hz
  go_enter Tryd.func40, Tryd.ntmps40
  try dsimp only
  repeat (first | ((with_reducible refine inBlock_ne ?hne ?_); (case hne => rfl)) | (with_reducible refine inBlock_eq ?_) | (with_reducible refine then_exit ?_) | (with_reducible refine then_normal ?_) | (with_reducible refine inBlock_normal ?_) | (with_reducible refine then_ret ?_) | (with_reducible refine inBlock_ret ?_) | go_skip | go_guarded | go_step | go_upon)
  generalize W.alloc _ = W1 at *
  go_still_tail 9, (by kernel_rfl)
  try dsimp only
  repeat (first | ((with_reducible refine inBlock_ne ?hne ?_); (case hne => rfl)) | (with_reducible refine inBlock_eq ?_) | (with_reducible refine then_exit ?_) | (with_reducible refine then_normal ?_) | (with_reducible refine inBlock_normal ?_) | (with_reducible refine then_ret ?_) | (with_reducible refine inBlock_ret ?_) | go_skip | go_guarded | go_step | go_upon)
  refine (must_no _).mono ?_
  rintro e w2 ⟨rfl, rfl⟩
  exact ⟨rfl, outS_no HE0.out (HC0.out.drew.bad.back HK.out)⟩
set_option maxHeartbeats 4000000 in
set_option maxRecDepth 100000 in
theorem see_55_1_yes (S : Stat w00 w0 Z kb p E h) (F : EFine E) (n : Int) (hcn : Can n) (hz : E.M.m1 ≠ 0) (H : Cs w0 wr W kb p vs vf s) (wf : Wf s) (hz : wr.Z = Z := by rfl) :
    Calls Tryd.prog 40 #[.pointer (some ⟨kb, 0, none⟩), .agg #[.int .i64 55, .int .i64 n, .int .i64 1]] W (OutS w0 wr kb p (see E (55, n, 1) s)) := by
  subst hz
  have HB := Aside0.mk (blk_new W (.cells #[.int .i64 55, .int .i64 n, .int .i64 1] 45))
  have HS := Aside0.mk S
  have HF := Aside0.mk F
  have HW0 := Aside0.mk wf
  have HC0 := Aside0.mk (H.alloc (.cells #[.int .i64 55, .int .i64 n, .int .i64 1] 45)).rebase
  have HK := Aside0.mk (H.alloc (.cells #[.int .i64 55, .int .i64 n, .int .i64 1] 45)).kp
  have hqm : _ = some p.a4 := blk_cell HC0.out.box 4
  rw [HS.out.e4] at hqm
  have hq2 := blk_cell HB.out 2
  have HE0 := Aside0.mk (show see E (55, n, 1) s = bnd (want (ofL true true) s) fun s1 => want 0 s1 from by
    show (if E.M.m1 ≠ 0 then _ else Except.error 3) = _
    rw [if_pos hz]
    rfl)
  have hzb : (E.M.m1 != 0) = true := by simpa using hz
  clear H wf S F hz
  go_enter Tryd.func40, Tryd.ntmps40
  try dsimp only
  repeat (first | ((with_reducible refine inBlock_ne ?hne ?_); (case hne => rfl)) | (with_reducible refine inBlock_eq ?_) | (with_reducible refine then_exit ?_) | (with_reducible refine then_normal ?_) | (with_reducible refine inBlock_normal ?_) | (with_reducible refine then_ret ?_) | (with_reducible refine inBlock_ret ?_) | go_skip | go_guarded | go_step | go_upon)
  generalize W.alloc _ = W1 at *
  go_still_tail 9, (by kernel_rfl)
  try dsimp only
  repeat (first | ((with_reducible refine inBlock_ne ?hne ?_); (case hne => rfl)) | (with_reducible refine inBlock_eq ?_) | (with_reducible refine then_exit ?_) | (with_reducible refine then_normal ?_) | (with_reducible refine inBlock_normal ?_) | (with_reducible refine then_ret ?_) | (with_reducible refine inBlock_ret ?_) | go_skip | go_guarded | go_step | go_upon)
  refine (must_yes _).mono ?_
  rintro e w2 ⟨rfl, rfl⟩
  replace HC0 := Aside0.mk HC0.out.drew
  clear hqm hq2
  have hq0 := blk_cell (HC0.out.kp.kp _ _ _ (by decide) (by decide) (by decide) HB.out) 0
  have hq2 := blk_cell (HC0.out.kp.kp _ _ _ (by decide) (by decide) (by decide) HB.out) 2
  try dsimp only
  repeat (first | ((with_reducible refine inBlock_ne ?hne ?_); (case hne => rfl)) | (with_reducible refine inBlock_eq ?_) | (with_reducible refine then_exit ?_) | (with_reducible refine then_normal ?_) | (with_reducible refine inBlock_normal ?_) | (with_reducible refine then_ret ?_) | (with_reducible refine inBlock_ret ?_) | (go_at_call 63; refine (of_calls _ _ _).mono ?_; rintro e w' ⟨rfl, rfl⟩; dsimp only) | go_skip | go_guarded | go_step | go_upon)
  clear hq0 hq2
  have HP1 := Aside0.mk (want_calls (ofL true true) (ty_can (ofL_ty _ _)) HC0.out HW0.out)
  refine HP1.out.mono ?_
  intro e w2 hh
  cases hr : want (ofL true true) s with
  | error q =>
    rw [hr] at hh
    obtain ⟨rfl, h⟩ := hh
    exact ⟨rfl, outS_no (HE0.out.trans (by first | (rw [hr]; done) | (rw [hr]; rfl))) (h.back HK.out)⟩
  | ok r1 =>
    rw [hr] at hh
    obtain ⟨rfl, v1, hC⟩ := hh
    have HWW1 := Aside0.mk (want_wf HW0.out hr)
    have HW1 := Aside0.mk HWW1.out.1
    have HC1 := Aside0.mk hC
    have HE1 := Aside0.mk (HE0.out.trans (show _ = want 0 r1 from by rw [hr]; rfl))
    have hbK := hC.kp.kp _ _ _ (by decide) (by decide) (by decide) HB.out
    have hq0 := blk_cell hbK 0
    have hq1 := blk_cell hbK 1
    have hq2 := blk_cell hbK 2
    clear hbK
    clear hC hr HP1
    try dsimp only
    repeat (first | ((with_reducible refine inBlock_ne ?hne ?_); (case hne => rfl)) | (with_reducible refine inBlock_eq ?_) | (with_reducible refine then_exit ?_) | (with_reducible refine then_normal ?_) | (with_reducible refine inBlock_normal ?_) | (with_reducible refine then_ret ?_) | (with_reducible refine inBlock_ret ?_) | go_skip | go_guarded | go_step | go_upon)
    clear hq0 hq1 hq2
    have HP2 := Aside0.mk (want_calls 0 ⟨by decide, by decide⟩ HC1.out HW1.out)
    refine HP2.out.mono ?_
    intro e w3 hh
    cases hr : want 0 r1 with
    | error q =>
      rw [hr] at hh
      obtain ⟨rfl, h⟩ := hh
      exact ⟨rfl, outS_no (HE1.out.trans (by first | (rw [hr]; done) | (rw [hr]; rfl))) (h.back HK.out)⟩
    | ok r2 =>
      rw [hr] at hh
      obtain ⟨rfl, v2, hC⟩ := hh
      have HW2 := HW1
      have HO := Aside0.mk (show OutS w0 _ kb p _ (.returned unit) w3 from outS_ok (HE1.out.trans hr) (hC.back HK.out))
      clear hC hr HP2
      try dsimp only
      repeat (first | ((with_reducible refine inBlock_ne ?hne ?_); (case hne => rfl)) | (with_reducible refine inBlock_eq ?_) | (with_reducible refine then_exit ?_) | (with_reducible refine then_normal ?_) | (with_reducible refine inBlock_normal ?_) | (with_reducible refine then_ret ?_) | (with_reducible refine inBlock_ret ?_) | go_skip | go_guarded | go_step | go_upon)
      go_end0
      exact HO.out
end
end Go.Proofs.YtjjhhmchomabeaaDoor.Valid
