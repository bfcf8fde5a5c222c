/- One instruction: what it does to the stack and to the blocks that are open (part B). -/
import Derived.Test.YtjjhhmchomabeaaDoorValFA
namespace Go.Proofs.YtjjhhmchomabeaaDoor.Valid
open Go.RowKit Go.Proofs.YtjjhhmchomabeaaDoorW.PrintWords Go.Proofs.YtjjhhmchomabeaaDoorW.PrintLast Go.Proofs.YtjjhhmchomabeaaDoor.Mem Go.Proofs.YtjjhhmchomabeaaDoor.Nest
set_option linter.unusedVariables false
set_option linter.unusedSimpArgs false

section
variable {w00 w0 W : World} {wr : Rf} {Z : Nat → Prop} {kb : Nat} {p : P13} {E : Env} {h : Hd} {vs vf : Value} {s : Ck}
set_option maxHeartbeats 4000000 in
set_option maxRecDepth 100000 in
theorem see_32 (S : Stat w00 w0 Z kb p E h) (F : EFine E) (n m : Int) (hcn : Can n) (hn0 : 0 ≤ n) (H : Cs w0 wr W kb p vs vf s) (wf : Wf s) (hz : wr.Z = Z := by rfl) :
    Calls Tryd.prog 40 #[.pointer (some ⟨kb, 0, none⟩), .agg #[.int .i64 32, .int .i64 n, .int .i64 m]] W (OutS w0 wr kb p (see E (32, n, m) s)) := by
  subst hz
  have HB := Aside0.mk (blk_new W (.cells #[.int .i64 32, .int .i64 n, .int .i64 m] 45))
  have HS := Aside0.mk S
  have HF := Aside0.mk F
  have HW0 := Aside0.mk wf
  have HC0 := Aside0.mk (H.alloc (.cells #[.int .i64 32, .int .i64 n, .int .i64 m] 45)).rebase
  have HK := Aside0.mk (H.alloc (.cells #[.int .i64 32, .int .i64 n, .int .i64 m] 45)).kp
  have HE0 := Aside0.mk (show see E (32, n, m) s = bnd (cellT E 32 n) fun t => push t s from rfl)
  clear H wf S F
  go_enter Tryd.func40, Tryd.ntmps40
  try dsimp only
  repeat (first | ((with_reducible refine inBlock_ne ?hne ?_); (case hne => rfl)) | (with_reducible refine inBlock_eq ?_) | (with_reducible refine then_exit ?_) | (with_reducible refine then_normal ?_) | (with_reducible refine inBlock_normal ?_) | (with_reducible refine then_ret ?_) | (with_reducible refine inBlock_ret ?_) | go_skip | go_guarded | go_step | go_upon)
  generalize W.alloc _ = W1 at *
  have HP1 := Aside0.mk (cell_calls HS.out HC0.out (32, n, m) hn0 hcn)
  refine HP1.out.mono ?_
  intro e w2 hh
  cases hr : cellT E 32 n with
  | error q =>
    rw [hr] at hh
    obtain ⟨rfl, h⟩ := hh
    exact ⟨rfl, outS_no (HE0.out.trans (by first | (rw [hr]; done) | (rw [hr]; rfl))) (h.back HK.out)⟩
  | ok r1 =>
    rw [hr] at hh
    obtain ⟨t1, ht1⟩ : ∃ t, r1 = t := ⟨_, rfl⟩
    rw [ht1] at hr hh
    obtain ⟨rfl, hC⟩ := hh
    have HWW1 := Aside0.mk (cellT_right HF.out hn0 hr)
    have HW1 := HW0
    have HC1 := Aside0.mk hC
    have HE1 := Aside0.mk (HE0.out.trans (show _ = push t1 s from by rw [hr]; rfl))
    have hbK := hC.kp.kp _ _ _ (by decide) (by decide) (by decide) HB.out
    have hq0 := blk_cell hbK 0
    have hq1 := blk_cell hbK 1
    have hq2 := blk_cell hbK 2
    clear hbK
    clear hC hr HP1
    try dsimp only
    repeat (first | ((with_reducible refine inBlock_ne ?hne ?_); (case hne => rfl)) | (with_reducible refine inBlock_eq ?_) | (with_reducible refine then_exit ?_) | (with_reducible refine then_normal ?_) | (with_reducible refine inBlock_normal ?_) | (with_reducible refine then_ret ?_) | (with_reducible refine inBlock_ret ?_) | go_skip | go_guarded | go_step | go_upon)
    clear hq0 hq1 hq2
    have HP2 := Aside0.mk (push_calls t1 HC1.out HW1.out)
    refine HP2.out.mono ?_
    intro e w3 hh
    cases hr : push t1 s with
    | error q =>
      rw [hr] at hh
      obtain ⟨rfl, h⟩ := hh
      exact ⟨rfl, outS_no (HE1.out.trans (by first | (rw [hr]; done) | (rw [hr]; rfl))) (h.back HK.out)⟩
    | ok r2 =>
      rw [hr] at hh
      obtain ⟨rfl, v2, hC⟩ := hh
      have HW2 := HW1
      have HO := Aside0.mk (show OutS w0 _ kb p _ (.returned unit) w3 from outS_ok (HE1.out.trans hr) (hC.back HK.out))
      clear hC hr HP2
      try dsimp only
      repeat (first | ((with_reducible refine inBlock_ne ?hne ?_); (case hne => rfl)) | (with_reducible refine inBlock_eq ?_) | (with_reducible refine then_exit ?_) | (with_reducible refine then_normal ?_) | (with_reducible refine inBlock_normal ?_) | (with_reducible refine then_ret ?_) | (with_reducible refine inBlock_ret ?_) | go_skip | go_guarded | go_step | go_upon)
      go_end0
      exact HO.out
set_option maxHeartbeats 4000000 in
set_option maxRecDepth 100000 in
theorem see_35 (S : Stat w00 w0 Z kb p E h) (F : EFine E) (n m : Int) (hcn : Can n) (hn0 : 0 ≤ n) (H : Cs w0 wr W kb p vs vf s) (wf : Wf s) (hz : wr.Z = Z := by rfl) :
    Calls Tryd.prog 40 #[.pointer (some ⟨kb, 0, none⟩), .agg #[.int .i64 35, .int .i64 n, .int .i64 m]] W (OutS w0 wr kb p (see E (35, n, m) s)) := by
  subst hz
  have HB := Aside0.mk (blk_new W (.cells #[.int .i64 35, .int .i64 n, .int .i64 m] 45))
  have HS := Aside0.mk S
  have HF := Aside0.mk F
  have HW0 := Aside0.mk wf
  have HC0 := Aside0.mk (H.alloc (.cells #[.int .i64 35, .int .i64 n, .int .i64 m] 45)).rebase
  have HK := Aside0.mk (H.alloc (.cells #[.int .i64 35, .int .i64 n, .int .i64 m] 45)).kp
  have HE0 := Aside0.mk (show see E (35, n, m) s = bnd (cellT E 35 n) fun t => push t s from rfl)
  clear H wf S F
  go_enter Tryd.func40, Tryd.ntmps40
  try dsimp only
  repeat (first | ((with_reducible refine inBlock_ne ?hne ?_); (case hne => rfl)) | (with_reducible refine inBlock_eq ?_) | (with_reducible refine then_exit ?_) | (with_reducible refine then_normal ?_) | (with_reducible refine inBlock_normal ?_) | (with_reducible refine then_ret ?_) | (with_reducible refine inBlock_ret ?_) | go_skip | go_guarded | go_step | go_upon)
  generalize W.alloc _ = W1 at *
  have HP1 := Aside0.mk (cell_calls HS.out HC0.out (35, n, m) hn0 hcn)
  refine HP1.out.mono ?_
  intro e w2 hh
  cases hr : cellT E 35 n with
  | error q =>
    rw [hr] at hh
    obtain ⟨rfl, h⟩ := hh
    exact ⟨rfl, outS_no (HE0.out.trans (by first | (rw [hr]; done) | (rw [hr]; rfl))) (h.back HK.out)⟩
  | ok r1 =>
    rw [hr] at hh
    obtain ⟨t1, ht1⟩ : ∃ t, r1 = t := ⟨_, rfl⟩
    rw [ht1] at hr hh
    obtain ⟨rfl, hC⟩ := hh
    have HWW1 := Aside0.mk (cellT_right HF.out hn0 hr)
    have HW1 := HW0
    have HC1 := Aside0.mk hC
    have HE1 := Aside0.mk (HE0.out.trans (show _ = push t1 s from by rw [hr]; rfl))
    have hbK := hC.kp.kp _ _ _ (by decide) (by decide) (by decide) HB.out
    have hq0 := blk_cell hbK 0
    have hq1 := blk_cell hbK 1
    have hq2 := blk_cell hbK 2
    clear hbK
    clear hC hr HP1
    try dsimp only
    repeat (first | ((with_reducible refine inBlock_ne ?hne ?_); (case hne => rfl)) | (with_reducible refine inBlock_eq ?_) | (with_reducible refine then_exit ?_) | (with_reducible refine then_normal ?_) | (with_reducible refine inBlock_normal ?_) | (with_reducible refine then_ret ?_) | (with_reducible refine inBlock_ret ?_) | go_skip | go_guarded | go_step | go_upon)
    clear hq0 hq1 hq2
    have HP2 := Aside0.mk (push_calls t1 HC1.out HW1.out)
    refine HP2.out.mono ?_
    intro e w3 hh
    cases hr : push t1 s with
    | error q =>
      rw [hr] at hh
      obtain ⟨rfl, h⟩ := hh
      exact ⟨rfl, outS_no (HE1.out.trans (by first | (rw [hr]; done) | (rw [hr]; rfl))) (h.back HK.out)⟩
    | ok r2 =>
      rw [hr] at hh
      obtain ⟨rfl, v2, hC⟩ := hh
      have HW2 := HW1
      have HO := Aside0.mk (show OutS w0 _ kb p _ (.returned unit) w3 from outS_ok (HE1.out.trans hr) (hC.back HK.out))
      clear hC hr HP2
      try dsimp only
      repeat (first | ((with_reducible refine inBlock_ne ?hne ?_); (case hne => rfl)) | (with_reducible refine inBlock_eq ?_) | (with_reducible refine then_exit ?_) | (with_reducible refine then_normal ?_) | (with_reducible refine inBlock_normal ?_) | (with_reducible refine then_ret ?_) | (with_reducible refine inBlock_ret ?_) | go_skip | go_guarded | go_step | go_upon)
      go_end0
      exact HO.out
set_option maxHeartbeats 4000000 in
set_option maxRecDepth 100000 in
theorem see_33 (S : Stat w00 w0 Z kb p E h) (F : EFine E) (n m : Int) (hcn : Can n) (hn0 : 0 ≤ n) (H : Cs w0 wr W kb p vs vf s) (wf : Wf s) (hz : wr.Z = Z := by rfl) :
    Calls Tryd.prog 40 #[.pointer (some ⟨kb, 0, none⟩), .agg #[.int .i64 33, .int .i64 n, .int .i64 m]] W (OutS w0 wr kb p (see E (33, n, m) s)) := by
  subst hz
  have HB := Aside0.mk (blk_new W (.cells #[.int .i64 33, .int .i64 n, .int .i64 m] 45))
  have HS := Aside0.mk S
  have HF := Aside0.mk F
  have HW0 := Aside0.mk wf
  have HC0 := Aside0.mk (H.alloc (.cells #[.int .i64 33, .int .i64 n, .int .i64 m] 45)).rebase
  have HK := Aside0.mk (H.alloc (.cells #[.int .i64 33, .int .i64 n, .int .i64 m] 45)).kp
  have HE0 := Aside0.mk (show see E (33, n, m) s = bnd (cellT E 33 n) fun t => want t s from rfl)
  clear H wf S F
  go_enter Tryd.func40, Tryd.ntmps40
  try dsimp only
  repeat (first | ((with_reducible refine inBlock_ne ?hne ?_); (case hne => rfl)) | (with_reducible refine inBlock_eq ?_) | (with_reducible refine then_exit ?_) | (with_reducible refine then_normal ?_) | (with_reducible refine inBlock_normal ?_) | (with_reducible refine then_ret ?_) | (with_reducible refine inBlock_ret ?_) | go_skip | go_guarded | go_step | go_upon)
  generalize W.alloc _ = W1 at *
  have HP1 := Aside0.mk (cell_calls HS.out HC0.out (33, n, m) hn0 hcn)
  refine HP1.out.mono ?_
  intro e w2 hh
  cases hr : cellT E 33 n with
  | error q =>
    rw [hr] at hh
    obtain ⟨rfl, h⟩ := hh
    exact ⟨rfl, outS_no (HE0.out.trans (by first | (rw [hr]; done) | (rw [hr]; rfl))) (h.back HK.out)⟩
  | ok r1 =>
    rw [hr] at hh
    obtain ⟨t1, ht1⟩ : ∃ t, r1 = t := ⟨_, rfl⟩
    rw [ht1] at hr hh
    obtain ⟨rfl, hC⟩ := hh
    have HWW1 := Aside0.mk (cellT_right HF.out hn0 hr)
    have HW1 := HW0
    have HC1 := Aside0.mk hC
    have HE1 := Aside0.mk (HE0.out.trans (show _ = want t1 s from by rw [hr]; rfl))
    have hbK := hC.kp.kp _ _ _ (by decide) (by decide) (by decide) HB.out
    have hq0 := blk_cell hbK 0
    have hq1 := blk_cell hbK 1
    have hq2 := blk_cell hbK 2
    clear hbK
    clear hC hr HP1
    try dsimp only
    repeat (first | ((with_reducible refine inBlock_ne ?hne ?_); (case hne => rfl)) | (with_reducible refine inBlock_eq ?_) | (with_reducible refine then_exit ?_) | (with_reducible refine then_normal ?_) | (with_reducible refine inBlock_normal ?_) | (with_reducible refine then_ret ?_) | (with_reducible refine inBlock_ret ?_) | go_skip | go_guarded | go_step | go_upon)
    clear hq0 hq1 hq2
    have HP2 := Aside0.mk (want_calls t1 (right_can HWW1.out) HC1.out HW1.out)
    refine HP2.out.mono ?_
    intro e w3 hh
    cases hr : want t1 s with
    | error q =>
      rw [hr] at hh
      obtain ⟨rfl, h⟩ := hh
      exact ⟨rfl, outS_no (HE1.out.trans (by first | (rw [hr]; done) | (rw [hr]; rfl))) (h.back HK.out)⟩
    | ok r2 =>
      rw [hr] at hh
      obtain ⟨rfl, v2, hC⟩ := hh
      have HW2 := HW1
      have HO := Aside0.mk (show OutS w0 _ kb p _ (.returned unit) w3 from outS_ok (HE1.out.trans hr) (hC.back HK.out))
      clear hC hr HP2
      try dsimp only
      repeat (first | ((with_reducible refine inBlock_ne ?hne ?_); (case hne => rfl)) | (with_reducible refine inBlock_eq ?_) | (with_reducible refine then_exit ?_) | (with_reducible refine then_normal ?_) | (with_reducible refine inBlock_normal ?_) | (with_reducible refine then_ret ?_) | (with_reducible refine inBlock_ret ?_) | go_skip | go_guarded | go_step | go_upon)
      go_end0
      exact HO.out
set_option maxHeartbeats 4000000 in
set_option maxRecDepth 100000 in
theorem see_36 (S : Stat w00 w0 Z kb p E h) (F : EFine E) (n m : Int) (hcn : Can n) (hn0 : 0 ≤ n) (H : Cs w0 wr W kb p vs vf s) (wf : Wf s) (hz : wr.Z = Z := by rfl) :
    Calls Tryd.prog 40 #[.pointer (some ⟨kb, 0, none⟩), .agg #[.int .i64 36, .int .i64 n, .int .i64 m]] W (OutS w0 wr kb p (see E (36, n, m) s)) := by
  subst hz
  have HB := Aside0.mk (blk_new W (.cells #[.int .i64 36, .int .i64 n, .int .i64 m] 45))
  have HS := Aside0.mk S
  have HF := Aside0.mk F
  have HW0 := Aside0.mk wf
  have HC0 := Aside0.mk (H.alloc (.cells #[.int .i64 36, .int .i64 n, .int .i64 m] 45)).rebase
  have HK := Aside0.mk (H.alloc (.cells #[.int .i64 36, .int .i64 n, .int .i64 m] 45)).kp
  have HE0 := Aside0.mk (show see E (36, n, m) s = bnd (cellT E 36 n) fun t => want t s from rfl)
  clear H wf S F
  go_enter Tryd.func40, Tryd.ntmps40
  try dsimp only
  repeat (first | ((with_reducible refine inBlock_ne ?hne ?_); (case hne => rfl)) | (with_reducible refine inBlock_eq ?_) | (with_reducible refine then_exit ?_) | (with_reducible refine then_normal ?_) | (with_reducible refine inBlock_normal ?_) | (with_reducible refine then_ret ?_) | (with_reducible refine inBlock_ret ?_) | go_skip | go_guarded | go_step | go_upon)
  generalize W.alloc _ = W1 at *
  have HP1 := Aside0.mk (cell_calls HS.out HC0.out (36, n, m) hn0 hcn)
  refine HP1.out.mono ?_
  intro e w2 hh
  cases hr : cellT E 36 n with
  | error q =>
    rw [hr] at hh
    obtain ⟨rfl, h⟩ := hh
    exact ⟨rfl, outS_no (HE0.out.trans (by first | (rw [hr]; done) | (rw [hr]; rfl))) (h.back HK.out)⟩
  | ok r1 =>
    rw [hr] at hh
    obtain ⟨t1, ht1⟩ : ∃ t, r1 = t := ⟨_, rfl⟩
    rw [ht1] at hr hh
    obtain ⟨rfl, hC⟩ := hh
    have HWW1 := Aside0.mk (cellT_right HF.out hn0 hr)
    have HW1 := HW0
    have HC1 := Aside0.mk hC
    have HE1 := Aside0.mk (HE0.out.trans (show _ = want t1 s from by rw [hr]; rfl))
    have hbK := hC.kp.kp _ _ _ (by decide) (by decide) (by decide) HB.out
    have hq0 := blk_cell hbK 0
    have hq1 := blk_cell hbK 1
    have hq2 := blk_cell hbK 2
    clear hbK
    clear hC hr HP1
    try dsimp only
    repeat (first | ((with_reducible refine inBlock_ne ?hne ?_); (case hne => rfl)) | (with_reducible refine inBlock_eq ?_) | (with_reducible refine then_exit ?_) | (with_reducible refine then_normal ?_) | (with_reducible refine inBlock_normal ?_) | (with_reducible refine then_ret ?_) | (with_reducible refine inBlock_ret ?_) | go_skip | go_guarded | go_step | go_upon)
    clear hq0 hq1 hq2
    have HP2 := Aside0.mk (want_calls t1 (right_can HWW1.out) HC1.out HW1.out)
    refine HP2.out.mono ?_
    intro e w3 hh
    cases hr : want t1 s with
    | error q =>
      rw [hr] at hh
      obtain ⟨rfl, h⟩ := hh
      exact ⟨rfl, outS_no (HE1.out.trans (by first | (rw [hr]; done) | (rw [hr]; rfl))) (h.back HK.out)⟩
    | ok r2 =>
      rw [hr] at hh
      obtain ⟨rfl, v2, hC⟩ := hh
      have HW2 := HW1
      have HO := Aside0.mk (show OutS w0 _ kb p _ (.returned unit) w3 from outS_ok (HE1.out.trans hr) (hC.back HK.out))
      clear hC hr HP2
      try dsimp only
      repeat (first | ((with_reducible refine inBlock_ne ?hne ?_); (case hne => rfl)) | (with_reducible refine inBlock_eq ?_) | (with_reducible refine then_exit ?_) | (with_reducible refine then_normal ?_) | (with_reducible refine inBlock_normal ?_) | (with_reducible refine then_ret ?_) | (with_reducible refine inBlock_ret ?_) | go_skip | go_guarded | go_step | go_upon)
      go_end0
      exact HO.out
set_option maxHeartbeats 4000000 in
set_option maxRecDepth 100000 in
theorem see_34 (S : Stat w00 w0 Z kb p E h) (F : EFine E) (n m : Int) (hcn : Can n) (hn0 : 0 ≤ n) (H : Cs w0 wr W kb p vs vf s) (wf : Wf s) (hz : wr.Z = Z := by rfl) :
    Calls Tryd.prog 40 #[.pointer (some ⟨kb, 0, none⟩), .agg #[.int .i64 34, .int .i64 n, .int .i64 m]] W (OutS w0 wr kb p (see E (34, n, m) s)) := by
  subst hz
  have HB := Aside0.mk (blk_new W (.cells #[.int .i64 34, .int .i64 n, .int .i64 m] 45))
  have HS := Aside0.mk S
  have HF := Aside0.mk F
  have HW0 := Aside0.mk wf
  have HC0 := Aside0.mk (H.alloc (.cells #[.int .i64 34, .int .i64 n, .int .i64 m] 45)).rebase
  have HK := Aside0.mk (H.alloc (.cells #[.int .i64 34, .int .i64 n, .int .i64 m] 45)).kp
  have HE0 := Aside0.mk (show see E (34, n, m) s = bnd (cellT E 34 n) fun t => bnd (want t s) fun s1 => push t s1 from rfl)
  clear H wf S F
  go_enter Tryd.func40, Tryd.ntmps40
  try dsimp only
  repeat (first | ((with_reducible refine inBlock_ne ?hne ?_); (case hne => rfl)) | (with_reducible refine inBlock_eq ?_) | (with_reducible refine then_exit ?_) | (with_reducible refine then_normal ?_) | (with_reducible refine inBlock_normal ?_) | (with_reducible refine then_ret ?_) | (with_reducible refine inBlock_ret ?_) | go_skip | go_guarded | go_step | go_upon)
  generalize W.alloc _ = W1 at *
  have HP1 := Aside0.mk (cell_calls HS.out HC0.out (34, n, m) hn0 hcn)
  refine HP1.out.mono ?_
  intro e w2 hh
  cases hr : cellT E 34 n with
  | error q =>
    rw [hr] at hh
    obtain ⟨rfl, h⟩ := hh
    exact ⟨rfl, outS_no (HE0.out.trans (by first | (rw [hr]; done) | (rw [hr]; rfl))) (h.back HK.out)⟩
  | ok r1 =>
    rw [hr] at hh
    obtain ⟨t1, ht1⟩ : ∃ t, r1 = t := ⟨_, rfl⟩
    rw [ht1] at hr hh
    obtain ⟨rfl, hC⟩ := hh
    have HWW1 := Aside0.mk (cellT_right HF.out hn0 hr)
    have HW1 := HW0
    have HC1 := Aside0.mk hC
    have HE1 := Aside0.mk (HE0.out.trans (show _ = bnd (want t1 s) fun s1 => push t1 s1 from by rw [hr]; rfl))
    have hbK := hC.kp.kp _ _ _ (by decide) (by decide) (by decide) HB.out
    have hq0 := blk_cell hbK 0
    have hq1 := blk_cell hbK 1
    have hq2 := blk_cell hbK 2
    clear hbK
    clear hC hr HP1
    try dsimp only
    repeat (first | ((with_reducible refine inBlock_ne ?hne ?_); (case hne => rfl)) | (with_reducible refine inBlock_eq ?_) | (with_reducible refine then_exit ?_) | (with_reducible refine then_normal ?_) | (with_reducible refine inBlock_normal ?_) | (with_reducible refine then_ret ?_) | (with_reducible refine inBlock_ret ?_) | go_skip | go_guarded | go_step | go_upon)
    clear hq0 hq1 hq2
    have HP2 := Aside0.mk (want_calls t1 (right_can HWW1.out) HC1.out HW1.out)
    refine HP2.out.mono ?_
    intro e w3 hh
    cases hr : want t1 s with
    | error q =>
      rw [hr] at hh
      obtain ⟨rfl, h⟩ := hh
      exact ⟨rfl, outS_no (HE1.out.trans (by first | (rw [hr]; done) | (rw [hr]; rfl))) (h.back HK.out)⟩
    | ok r2 =>
      rw [hr] at hh
      obtain ⟨rfl, v2, hC⟩ := hh
      have HWW2 := Aside0.mk (want_wf HW1.out hr)
      have HW2 := Aside0.mk HWW2.out.1
      have HC2 := Aside0.mk hC
      have HE2 := Aside0.mk (HE1.out.trans (show _ = push t1 r2 from by rw [hr]; rfl))
      have hbK := hC.kp.kp _ _ _ (by decide) (by decide) (by decide) HB.out
      have hq0 := blk_cell hbK 0
      have hq1 := blk_cell hbK 1
      have hq2 := blk_cell hbK 2
      clear hbK
      clear hC hr HP2
      try dsimp only
      repeat (first | ((with_reducible refine inBlock_ne ?hne ?_); (case hne => rfl)) | (with_reducible refine inBlock_eq ?_) | (with_reducible refine then_exit ?_) | (with_reducible refine then_normal ?_) | (with_reducible refine inBlock_normal ?_) | (with_reducible refine then_ret ?_) | (with_reducible refine inBlock_ret ?_) | go_skip | go_guarded | go_step | go_upon)
      clear hq0 hq1 hq2
      have HP3 := Aside0.mk (push_calls t1 HC2.out HW2.out)
      refine HP3.out.mono ?_
      intro e w4 hh
      cases hr : push t1 r2 with
      | error q =>
        rw [hr] at hh
        obtain ⟨rfl, h⟩ := hh
        exact ⟨rfl, outS_no (HE2.out.trans (by first | (rw [hr]; done) | (rw [hr]; rfl))) (h.back HK.out)⟩
      | ok r3 =>
        rw [hr] at hh
        obtain ⟨rfl, v3, hC⟩ := hh
        have HW3 := HW2
        have HO := Aside0.mk (show OutS w0 _ kb p _ (.returned unit) w4 from outS_ok (HE2.out.trans hr) (hC.back HK.out))
        clear hC hr HP3
        try dsimp only
        repeat (first | ((with_reducible refine inBlock_ne ?hne ?_); (case hne => rfl)) | (with_reducible refine inBlock_eq ?_) | (with_reducible refine then_exit ?_) | (with_reducible refine then_normal ?_) | (with_reducible refine inBlock_normal ?_) | (with_reducible refine then_ret ?_) | (with_reducible refine inBlock_ret ?_) | go_skip | go_guarded | go_step | go_upon)
        go_end0
        exact HO.out
set_option maxHeartbeats 4000000 in
set_option maxRecDepth 100000 in
theorem see_65 (S : Stat w00 w0 Z kb p E h) (F : EFine E) (n m : Int) (hcn : Can n) (H : Cs w0 wr W kb p vs vf s) (wf : Wf s) (hz : wr.Z = Z := by rfl) :
    Calls Tryd.prog 40 #[.pointer (some ⟨kb, 0, none⟩), .agg #[.int .i64 65, .int .i64 n, .int .i64 m]] W (OutS w0 wr kb p (see E (65, n, m) s)) := by
  subst hz
  have HB := Aside0.mk (blk_new W (.cells #[.int .i64 65, .int .i64 n, .int .i64 m] 45))
  have HS := Aside0.mk S
  have HF := Aside0.mk F
  have HW0 := Aside0.mk wf
  have HC0 := Aside0.mk (H.alloc (.cells #[.int .i64 65, .int .i64 n, .int .i64 m] 45)).rebase
  have HK := Aside0.mk (H.alloc (.cells #[.int .i64 65, .int .i64 n, .int .i64 m] 45)).kp
  have HE0 := Aside0.mk (show see E (65, n, m) s = push (ofL false false) s from rfl)
  clear H wf S F
  go_enter Tryd.func40, Tryd.ntmps40
  try dsimp only
  repeat (first | ((with_reducible refine inBlock_ne ?hne ?_); (case hne => rfl)) | (with_reducible refine inBlock_eq ?_) | (with_reducible refine then_exit ?_) | (with_reducible refine then_normal ?_) | (with_reducible refine inBlock_normal ?_) | (with_reducible refine then_ret ?_) | (with_reducible refine inBlock_ret ?_) | (go_at_call 63; refine (of_calls _ _ _).mono ?_; rintro e w' ⟨rfl, rfl⟩; dsimp only) | go_skip | go_guarded | go_step | go_upon)
  generalize W.alloc _ = W1 at *
  have HP1 := Aside0.mk (push_calls (ofL false false) HC0.out HW0.out)
  refine HP1.out.mono ?_
  intro e w2 hh
  cases hr : push (ofL false false) s with
  | error q =>
    rw [hr] at hh
    obtain ⟨rfl, h⟩ := hh
    exact ⟨rfl, outS_no (HE0.out.trans (by first | (rw [hr]; done) | (rw [hr]; rfl))) (h.back HK.out)⟩
  | ok r1 =>
    rw [hr] at hh
    obtain ⟨rfl, v1, hC⟩ := hh
    have HW1 := HW0
    have HO := Aside0.mk (show OutS w0 _ kb p _ (.returned unit) w2 from outS_ok (HE0.out.trans hr) (hC.back HK.out))
    clear hC hr HP1
    try dsimp only
    repeat (first | ((with_reducible refine inBlock_ne ?hne ?_); (case hne => rfl)) | (with_reducible refine inBlock_eq ?_) | (with_reducible refine then_exit ?_) | (with_reducible refine then_normal ?_) | (with_reducible refine inBlock_normal ?_) | (with_reducible refine then_ret ?_) | (with_reducible refine inBlock_ret ?_) | go_skip | go_guarded | go_step | go_upon)
    go_end0
    exact HO.out
set_option maxHeartbeats 4000000 in
set_option maxRecDepth 100000 in
theorem see_66 (S : Stat w00 w0 Z kb p E h) (F : EFine E) (n m : Int) (hcn : Can n) (H : Cs w0 wr W kb p vs vf s) (wf : Wf s) (hz : wr.Z = Z := by rfl) :
    Calls Tryd.prog 40 #[.pointer (some ⟨kb, 0, none⟩), .agg #[.int .i64 66, .int .i64 n, .int .i64 m]] W (OutS w0 wr kb p (see E (66, n, m) s)) := by
  subst hz
  have HB := Aside0.mk (blk_new W (.cells #[.int .i64 66, .int .i64 n, .int .i64 m] 45))
  have HS := Aside0.mk S
  have HF := Aside0.mk F
  have HW0 := Aside0.mk wf
  have HC0 := Aside0.mk (H.alloc (.cells #[.int .i64 66, .int .i64 n, .int .i64 m] 45)).rebase
  have HK := Aside0.mk (H.alloc (.cells #[.int .i64 66, .int .i64 n, .int .i64 m] 45)).kp
  have HE0 := Aside0.mk (show see E (66, n, m) s = push (ofL true false) s from rfl)
  clear H wf S F
  go_enter Tryd.func40, Tryd.ntmps40
  try dsimp only
  repeat (first | ((with_reducible refine inBlock_ne ?hne ?_); (case hne => rfl)) | (with_reducible refine inBlock_eq ?_) | (with_reducible refine then_exit ?_) | (with_reducible refine then_normal ?_) | (with_reducible refine inBlock_normal ?_) | (with_reducible refine then_ret ?_) | (with_reducible refine inBlock_ret ?_) | (go_at_call 63; refine (of_calls _ _ _).mono ?_; rintro e w' ⟨rfl, rfl⟩; dsimp only) | go_skip | go_guarded | go_step | go_upon)
  generalize W.alloc _ = W1 at *
  have HP1 := Aside0.mk (push_calls (ofL true false) HC0.out HW0.out)
  refine HP1.out.mono ?_
  intro e w2 hh
  cases hr : push (ofL true false) s with
  | error q =>
    rw [hr] at hh
    obtain ⟨rfl, h⟩ := hh
    exact ⟨rfl, outS_no (HE0.out.trans (by first | (rw [hr]; done) | (rw [hr]; rfl))) (h.back HK.out)⟩
  | ok r1 =>
    rw [hr] at hh
    obtain ⟨rfl, v1, hC⟩ := hh
    have HW1 := HW0
    have HO := Aside0.mk (show OutS w0 _ kb p _ (.returned unit) w2 from outS_ok (HE0.out.trans hr) (hC.back HK.out))
    clear hC hr HP1
    try dsimp only
    repeat (first | ((with_reducible refine inBlock_ne ?hne ?_); (case hne => rfl)) | (with_reducible refine inBlock_eq ?_) | (with_reducible refine then_exit ?_) | (with_reducible refine then_normal ?_) | (with_reducible refine inBlock_normal ?_) | (with_reducible refine then_ret ?_) | (with_reducible refine inBlock_ret ?_) | go_skip | go_guarded | go_step | go_upon)
    go_end0
    exact HO.out
end
end Go.Proofs.YtjjhhmchomabeaaDoor.Valid
