/- One instruction: what it does to the stack and to the blocks that are open (part E). -/
import Derived.Test.YtjjhhmchomabeaaDoorValFA
namespace Go.Proofs.YtjjhhmchomabeaaDoor.Valid
open Go.RowKit Go.Proofs.YtjjhhmchomabeaaDoorW.PrintWords Go.Proofs.YtjjhhmchomabeaaDoorW.PrintLast Go.Proofs.YtjjhhmchomabeaaDoor.Mem Go.Proofs.YtjjhhmchomabeaaDoor.Nest
set_option linter.unusedVariables false
set_option linter.unusedSimpArgs false

section
variable {w00 w0 W : World} {wr : Rf} {Z : Nat → Prop} {kb : Nat} {p : P13} {E : Env} {h : Hd} {vs vf : Value} {s : Ck}
set_option maxHeartbeats 4000000 in
set_option maxRecDepth 100000 in
theorem see_5 (S : Stat w00 w0 Z kb p E h) (F : EFine E) (n m : Int) (hcn : Can n) (H : Cs w0 wr W kb p vs vf s) (wf : Wf s) (hz : wr.Z = Z := by rfl) :
    Calls Tryd.prog 40 #[.pointer (some ⟨kb, 0, none⟩), .agg #[.int .i64 5, .int .i64 n, .int .i64 m]] W (OutS w0 wr kb p (see E (5, n, m) s)) := by
  subst hz
  have HB := Aside0.mk (blk_new W (.cells #[.int .i64 5, .int .i64 n, .int .i64 m] 45))
  have HS := Aside0.mk S
  have HF := Aside0.mk F
  have HW0 := Aside0.mk wf
  have HC0 := Aside0.mk (H.alloc (.cells #[.int .i64 5, .int .i64 n, .int .i64 m] 45)).rebase
  have HK := Aside0.mk (H.alloc (.cells #[.int .i64 5, .int .i64 n, .int .i64 m] 45)).kp
  have HE0 := Aside0.mk (show see E (5, n, m) s = bnd (close s) fun s1 => .ok (elseT s1) from rfl)
  clear H wf S F
  go_enter Tryd.func40, Tryd.ntmps40
  try dsimp only
  repeat (first | ((with_reducible refine inBlock_ne ?hne ?_); (case hne => rfl)) | (with_reducible refine inBlock_eq ?_) | (with_reducible refine then_exit ?_) | (with_reducible refine then_normal ?_) | (with_reducible refine inBlock_normal ?_) | (with_reducible refine then_ret ?_) | (with_reducible refine inBlock_ret ?_) | go_skip | go_guarded | go_step | go_upon)
  generalize W.alloc _ = W1 at *
  obtain ⟨q, hn1⟩ : ∃ q, s.fr.length = q + 1 := ⟨s.fr.length - 1, by have := HW0.out.pos; omega⟩
  obtain ⟨g, cap, hvf, hg1, hg2⟩ := HC0.out.form HW0.out.pos
  rw [hn1] at hvf
  rw [hvf] at HC0 HK
  have HN1 := Aside0.mk hn1
  clear hvf hn1 hg1 hg2
  have HP1 := Aside0.mk (close_calls HC0.out HW0.out HN1.out)
  refine HP1.out.mono ?_
  intro e w2 hh
  cases hr : close s with
  | error q =>
    rw [hr] at hh
    obtain ⟨rfl, h⟩ := hh
    exact ⟨rfl, outS_no (HE0.out.trans (by first | (rw [hr]; done) | (rw [hr]; rfl))) (h.back HK.out)⟩
  | ok r1 =>
    rw [hr] at hh
    obtain ⟨rfl, v1, hC⟩ := hh
    have HWW1 := Aside0.mk (close_wf HW0.out hr)
    have hn2 : r1.fr.length = q + 1 := by rw [HWW1.out.2.1]; exact HN1.out
    have HE1 := Aside0.mk (HE0.out.trans (show _ = .ok (elseT r1) from by rw [hr]; rfl))
    have hfz := (hC.last hn2).z
    clear hr HP1 HC0 HE0
    have hC1 : Cs w0 (wr.at W1 vs (.slice (some ⟨g, 0, none⟩) (q + 1) cap)) w2 kb p v1 (.slice (some ⟨g, 0, none⟩) r1.fr.length cap) r1 := by rw [hn2]; exact hC
    have hD := hC1.setDead hn2 false
    have hl2 : (r1.setTop { r1.top with dead := false }).fr.length = r1.fr.length := List.length_set
    rw [← hl2] at hD
    have hO := hD.setOther (by rw [hl2]; exact hn2) true
    have HEL := Aside0.mk (show (r1.setTop { r1.top with dead := false }).setTop { (r1.setTop { r1.top with dead := false }).top with other := true } = elseT r1 by
      rw [setTop_top (by omega), setTop_setTop]; rfl)
    have f3 := (hC.last hn2).c3
    have f5 := (hC.last hn2).c5
    have z3 := hfz 3
    have z5 := hfz 5
    have HO := Aside0.mk (show OutS w0 wr kb p (see E (5, n, m) s) (.returned unit) ((w2.setCell ⟨g, q * 6 + 3, none⟩ (.bool false)).setCell ⟨g, q * 6 + 5, none⟩ (.bool true)) from outS_ok (HE1.out.trans (by rw [← HEL.out])) (hO.back HK.out))
    clear hC hC1 hD hO hl2 hfz hn2 HEL HE1
    try dsimp only
    repeat (first | ((with_reducible refine inBlock_ne ?hne ?_); (case hne => rfl)) | (with_reducible refine inBlock_eq ?_) | (with_reducible refine then_exit ?_) | (with_reducible refine then_normal ?_) | (with_reducible refine inBlock_normal ?_) | (with_reducible refine then_ret ?_) | (with_reducible refine inBlock_ret ?_) | go_skip | go_guarded | go_step | go_upon)
    go_end0
    exact HO.out
set_option maxHeartbeats 4000000 in
set_option maxRecDepth 100000 in
theorem see_11 (S : Stat w00 w0 Z kb p E h) (F : EFine E) (n m : Int) (hcn : Can n) (H : Cs w0 wr W kb p vs vf s) (wf : Wf s) (hz : wr.Z = Z := by rfl) :
    Calls Tryd.prog 40 #[.pointer (some ⟨kb, 0, none⟩), .agg #[.int .i64 11, .int .i64 n, .int .i64 m]] W (OutS w0 wr kb p (see E (11, n, m) s)) := by
  subst hz
  have HB := Aside0.mk (blk_new W (.cells #[.int .i64 11, .int .i64 n, .int .i64 m] 45))
  have HS := Aside0.mk S
  have HF := Aside0.mk F
  have HW0 := Aside0.mk wf
  have HC0 := Aside0.mk (H.alloc (.cells #[.int .i64 11, .int .i64 n, .int .i64 m] 45)).rebase
  have HK := Aside0.mk (H.alloc (.cells #[.int .i64 11, .int .i64 n, .int .i64 m] 45)).kp
  have HE0 := Aside0.mk (show see E (11, n, m) s = bnd (close s) endT from rfl)
  clear H wf S F
  go_enter Tryd.func40, Tryd.ntmps40
  try dsimp only
  repeat (first | ((with_reducible refine inBlock_ne ?hne ?_); (case hne => rfl)) | (with_reducible refine inBlock_eq ?_) | (with_reducible refine then_exit ?_) | (with_reducible refine then_normal ?_) | (with_reducible refine inBlock_normal ?_) | (with_reducible refine then_ret ?_) | (with_reducible refine inBlock_ret ?_) | go_skip | go_guarded | go_step | go_upon)
  generalize W.alloc _ = W1 at *
  obtain ⟨q, hn1⟩ : ∃ q, s.fr.length = q + 1 := ⟨s.fr.length - 1, by have := HW0.out.pos; omega⟩
  obtain ⟨g, cap, hvf, hg1, hg2⟩ := HC0.out.form HW0.out.pos
  rw [hn1] at hvf
  rw [hvf] at HC0 HK
  have HN1 := Aside0.mk hn1
  clear hvf hn1 hg1 hg2
  have HP1 := Aside0.mk (close_calls HC0.out HW0.out HN1.out)
  refine HP1.out.mono ?_
  intro e w2 hh
  cases hr : close s with
  | error q =>
    rw [hr] at hh
    obtain ⟨rfl, h⟩ := hh
    exact ⟨rfl, outS_no (HE0.out.trans (by first | (rw [hr]; done) | (rw [hr]; rfl))) (h.back HK.out)⟩
  | ok r1 =>
    rw [hr] at hh
    obtain ⟨rfl, v1, hC⟩ := hh
    have HWW1 := Aside0.mk (close_wf HW0.out hr)
    have hn2 : r1.fr.length = q + 1 := by rw [HWW1.out.2.1]; exact HN1.out
    have HE1 := Aside0.mk (HE0.out.trans (show _ = endT r1 from by rw [hr]; rfl))
    have hfz := (hC.last hn2).z
    clear hr HP1 HC0 HE0
    obtain ⟨f0, f1, f2, f3, f4, f5, _⟩ := hC.last hn2
    have HX := Aside0.mk (hC.alloc (.cells r1.top.cells.toArray 88))
    obtain ⟨⟨fop, fbr, fhi, fde, fas, fot⟩, hf⟩ : ∃ f, r1.top = f := ⟨_, rfl⟩
    rw [hf] at f0 f1 f2 f3 f4 f5 HX
    dsimp only at f0 f1 f2 f3 f4 f5
    have HET := Aside0.mk (show endT r1 = if fop ≠ 4 ∨ fot = true ∨ fbr = -1 then (if r1.fr.length - 1 > 0 then give fbr ⟨r1.st, r1.fr.take (r1.fr.length - 1)⟩ else .ok ⟨r1.st, r1.fr.take (r1.fr.length - 1)⟩) else .error 3 by unfold endT; rw [hf])
    have HN2 := Aside0.mk hn2
    have HFB := Aside0.mk (show Ty fbr by have h := HWW1.out.1.br _ HWW1.out.1.top_mem; rw [hf] at h; exact h)
    have hfl := HX.out.flen
    rw [hn2] at hfl
    have hfb := blk_new w2 (.cells #[.int .i64 fop, .int .i64 fbr, .int .i64 fhi, .bool fde, .bool fas, .bool fot] 88)
    have hz0 := blk_cell hfb 0
    have hz1 := blk_cell hfb 1
    have hz5 := blk_cell hfb 5
    have HHI := Aside0.mk (show fhi = (r1.st.length : Int) by have h := HWW1.out.2.2; rw [hf] at h; exact h.symm)
    have hbk : kb ≠ w2.heap.size := fun e => by have := hC.klt; have := hC.size; omega
    clear hC hf hfz hn2 hfb
    go_upto_region 35 with (fail)
    generalize w2.alloc _ = w3 at *
    go_cut [118] (fun s118 wx => s118 = unit ∧ (fop ≠ 4 ∨ fot = true ∨ fbr = -1) ∧ wx = w3)
    case first =>
      have hcs : (fop != 4) = true ∨ ((fop != 4) = false ∧ fot = true) ∨ ((fop != 4) = false ∧ fot = false ∧ (fbr == -1) = true) ∨ ((fop != 4) = false ∧ fot = false ∧ (fbr == -1) = false) := by
        cases (fop != 4) <;> cases fot <;> cases (fbr == -1) <;> simp
      rcases hcs with h1 | ⟨h1, h2⟩ | ⟨h1, h2, h3⟩ | ⟨h1, h2, h3⟩
      · have HG := Aside0.mk (show fop ≠ 4 ∨ fot = true ∨ fbr = -1 from .inl (by simpa using h1))
        try dsimp only
        repeat (first | ((with_reducible refine inBlock_ne ?hne ?_); (case hne => rfl)) | (with_reducible refine inBlock_eq ?_) | (with_reducible refine then_exit ?_) | (with_reducible refine then_normal ?_) | (with_reducible refine inBlock_normal ?_) | (with_reducible refine then_ret ?_) | (with_reducible refine inBlock_ret ?_) | go_skip | go_guarded | go_step | go_upon)
        refine (must_yes _).mono ?_
        rintro e w5 ⟨rfl, rfl⟩
        try dsimp only
        repeat (first | ((with_reducible refine inBlock_ne ?hne ?_); (case hne => rfl)) | (with_reducible refine inBlock_eq ?_) | (with_reducible refine then_exit ?_) | (with_reducible refine then_normal ?_) | (with_reducible refine inBlock_normal ?_) | (with_reducible refine then_ret ?_) | (with_reducible refine inBlock_ret ?_) | go_skip | go_guarded | go_step | go_upon)
        go_meet
        exact ⟨rfl, HG.out, rfl⟩
      · have HG := Aside0.mk (show fop ≠ 4 ∨ fot = true ∨ fbr = -1 from .inr (.inl h2))
        subst h2
        try dsimp only
        repeat (first | ((with_reducible refine inBlock_ne ?hne ?_); (case hne => rfl)) | (with_reducible refine inBlock_eq ?_) | (with_reducible refine then_exit ?_) | (with_reducible refine then_normal ?_) | (with_reducible refine inBlock_normal ?_) | (with_reducible refine then_ret ?_) | (with_reducible refine inBlock_ret ?_) | go_skip | go_guarded | go_step | go_upon)
        refine (must_yes _).mono ?_
        rintro e w5 ⟨rfl, rfl⟩
        try dsimp only
        repeat (first | ((with_reducible refine inBlock_ne ?hne ?_); (case hne => rfl)) | (with_reducible refine inBlock_eq ?_) | (with_reducible refine then_exit ?_) | (with_reducible refine then_normal ?_) | (with_reducible refine inBlock_normal ?_) | (with_reducible refine then_ret ?_) | (with_reducible refine inBlock_ret ?_) | go_skip | go_guarded | go_step | go_upon)
        go_meet
        exact ⟨rfl, HG.out, rfl⟩
      · have HG := Aside0.mk (show fop ≠ 4 ∨ fot = true ∨ fbr = -1 from .inr (.inr (by simpa using h3)))
        subst h2
        try dsimp only
        repeat (first | ((with_reducible refine inBlock_ne ?hne ?_); (case hne => rfl)) | (with_reducible refine inBlock_eq ?_) | (with_reducible refine then_exit ?_) | (with_reducible refine then_normal ?_) | (with_reducible refine inBlock_normal ?_) | (with_reducible refine then_ret ?_) | (with_reducible refine inBlock_ret ?_) | go_skip | go_guarded | go_step | go_upon)
        refine (must_yes _).mono ?_
        rintro e w5 ⟨rfl, rfl⟩
        try dsimp only
        repeat (first | ((with_reducible refine inBlock_ne ?hne ?_); (case hne => rfl)) | (with_reducible refine inBlock_eq ?_) | (with_reducible refine then_exit ?_) | (with_reducible refine then_normal ?_) | (with_reducible refine inBlock_normal ?_) | (with_reducible refine then_ret ?_) | (with_reducible refine inBlock_ret ?_) | go_skip | go_guarded | go_step | go_upon)
        go_meet
        exact ⟨rfl, HG.out, rfl⟩
      · have hno : ¬ (fop ≠ 4 ∨ fot = true ∨ fbr = -1) := by
          have h4 : fop = 4 := by simpa using h1
          have h5 : fbr ≠ -1 := by simpa using h3
          rintro (h | h | h)
          · exact h h4
          · rw [h2] at h; cases h
          · exact h5 h
        have HE := Aside0.mk (HE1.out.trans (show endT r1 = .error 3 by rw [HET.out, if_neg hno]))
        clear hno
        subst h2
        try dsimp only
        repeat (first | ((with_reducible refine inBlock_ne ?hne ?_); (case hne => rfl)) | (with_reducible refine inBlock_eq ?_) | (with_reducible refine then_exit ?_) | (with_reducible refine then_normal ?_) | (with_reducible refine inBlock_normal ?_) | (with_reducible refine then_ret ?_) | (with_reducible refine inBlock_ret ?_) | go_skip | go_guarded | go_step | go_upon)
        refine (must_no _).mono ?_
        rintro e w5 ⟨rfl, rfl⟩
        exact ⟨rfl, outS_no HE.out (HX.out.bad.back HK.out)⟩
    case rest =>
    obtain ⟨rfl, hgood, rfl⟩ := hcut
    have h14 := blk_cell HX.out.box 14
    have z14 := blk_frozen HX.out.box 14
    have hcapq := (Kd.R_reads' HX.out.fr).2.1
    have HY := Aside0.mk (HX.out.drew.cutFr (Kd.R_take HX.out.drew.fr (m := q) (by rw [HN2.out]; omega)) rfl)
    have HET2 := Aside0.mk (show endT r1 = if q > 0 then give fbr ⟨r1.st, r1.fr.take q⟩ else .ok ⟨r1.st, r1.fr.take q⟩ by rw [HET.out, if_pos hgood, HN2.out, Nat.add_sub_cancel])
    have hy14 := blk_cell HY.out.box 14
    clear hgood HET
    by_cases hq : 0 < q
    · have hqb : decide ((q : Int) > 0) = true := by simpa using hq
      have hqb2 : decide (0 < q) = true := by simpa using hq
      rw [if_pos hq] at HET2
      have HWT := Aside0.mk (endT_wf HWW1.out.1 HWW1.out.2.2 HN2.out hq)
      have HPU := Aside0.mk (give_calls fbr HY.out HWT.out)
      clear hq
      try dsimp only
      repeat (first | ((with_reducible refine inBlock_ne ?hne ?_); (case hne => rfl)) | (with_reducible refine inBlock_eq ?_) | (with_reducible refine then_exit ?_) | (with_reducible refine then_normal ?_) | (with_reducible refine inBlock_normal ?_) | (with_reducible refine then_ret ?_) | (with_reducible refine inBlock_ret ?_) | go_skip | go_guarded | go_step | go_upon)
      go_region
      try dsimp only
      repeat (first | ((with_reducible refine inBlock_ne ?hne ?_); (case hne => rfl)) | (with_reducible refine inBlock_eq ?_) | (with_reducible refine then_exit ?_) | (with_reducible refine then_normal ?_) | (with_reducible refine inBlock_normal ?_) | (with_reducible refine then_ret ?_) | (with_reducible refine inBlock_ret ?_) | go_skip | go_guarded | go_step | go_upon)
      refine HPU.out.mono ?_
      intro e w5 hh
      cases hpu : give fbr ⟨r1.st, r1.fr.take q⟩ with
      | error q2 =>
        rw [hpu] at hh
        obtain ⟨rfl, h⟩ := hh
        exact ⟨rfl, outS_no (HE1.out.trans (HET2.out.trans hpu)) (h.back HK.out)⟩
      | ok s4 =>
        rw [hpu] at hh
        obtain ⟨rfl, v5, H5⟩ := hh
        have HO := Aside0.mk (show OutS w0 wr kb p (see E (11, n, m) s) (.returned unit) w5 from outS_ok (HE1.out.trans (HET2.out.trans hpu)) (H5.back HK.out))
        clear H5 hpu HPU
        try dsimp only
        repeat (first | ((with_reducible refine inBlock_ne ?hne ?_); (case hne => rfl)) | (with_reducible refine inBlock_eq ?_) | (with_reducible refine then_exit ?_) | (with_reducible refine then_normal ?_) | (with_reducible refine inBlock_normal ?_) | (with_reducible refine then_ret ?_) | (with_reducible refine inBlock_ret ?_) | go_skip | go_guarded | go_step | go_upon)
        go_end0
        exact HO.out
    · have hq0 : q = 0 := by omega
      subst hq0
      rw [if_neg (by omega)] at HET2
      have HO := Aside0.mk (show OutS w0 wr kb p (see E (11, n, m) s) (.returned unit) _ from outS_ok (HE1.out.trans HET2.out) (HY.out.back HK.out))
      clear hq
      try dsimp only
      repeat (first | ((with_reducible refine inBlock_ne ?hne ?_); (case hne => rfl)) | (with_reducible refine inBlock_eq ?_) | (with_reducible refine then_exit ?_) | (with_reducible refine then_normal ?_) | (with_reducible refine inBlock_normal ?_) | (with_reducible refine then_ret ?_) | (with_reducible refine inBlock_ret ?_) | go_skip | go_guarded | go_step | go_upon)
      go_region
      try dsimp only
      repeat (first | ((with_reducible refine inBlock_ne ?hne ?_); (case hne => rfl)) | (with_reducible refine inBlock_eq ?_) | (with_reducible refine then_exit ?_) | (with_reducible refine then_normal ?_) | (with_reducible refine inBlock_normal ?_) | (with_reducible refine then_ret ?_) | (with_reducible refine inBlock_ret ?_) | go_skip | go_guarded | go_step | go_upon)
      go_end0
      exact HO.out
set_option maxHeartbeats 4000000 in
set_option maxRecDepth 100000 in
theorem see_240 (S : Stat w00 w0 Z kb p E h) (F : EFine E) (n m : Int) (hcn : Can n) (H : Cs w0 wr W kb p vs vf s) (wf : Wf s) (hz : wr.Z = Z := by rfl) :
    Calls Tryd.prog 40 #[.pointer (some ⟨kb, 0, none⟩), .agg #[.int .i64 240, .int .i64 n, .int .i64 m]] W (OutS w0 wr kb p (see E (240, n, m) s)) := by
  subst hz
  have HB := Aside0.mk (blk_new W (.cells #[.int .i64 240, .int .i64 n, .int .i64 m] 45))
  have HS := Aside0.mk S
  have HF := Aside0.mk F
  have HW0 := Aside0.mk wf
  have HC0 := Aside0.mk (H.alloc (.cells #[.int .i64 240, .int .i64 n, .int .i64 m] 45)).rebase
  have HK := Aside0.mk (H.alloc (.cells #[.int .i64 240, .int .i64 n, .int .i64 m] 45)).kp
  have HE0 := Aside0.mk (show see E (240, n, m) s = bnd (pop s) fun r => push (if r.1 ≠ -1 then ofL (wide r.1) true else r.1) r.2 from rfl)
  clear H wf S F
  go_enter Tryd.func40, Tryd.ntmps40
  try dsimp only
  repeat (first | ((with_reducible refine inBlock_ne ?hne ?_); (case hne => rfl)) | (with_reducible refine inBlock_eq ?_) | (with_reducible refine then_exit ?_) | (with_reducible refine then_normal ?_) | (with_reducible refine inBlock_normal ?_) | (with_reducible refine then_ret ?_) | (with_reducible refine inBlock_ret ?_) | go_skip | go_guarded | go_step | go_upon)
  generalize W.alloc _ = W1 at *
  have HP1 := Aside0.mk (pop_calls HC0.out HW0.out)
  refine HP1.out.mono ?_
  intro e w2 hh
  cases hr : pop s with
  | error q =>
    rw [hr] at hh
    obtain ⟨rfl, h⟩ := hh
    exact ⟨rfl, outS_no (HE0.out.trans (by first | (rw [hr]; done) | (rw [hr]; rfl))) (h.back HK.out)⟩
  | ok r1 =>
    rw [hr] at hh
    obtain ⟨t1, s1⟩ := r1
    obtain ⟨rfl, v1, hC⟩ := hh
    have HWW1 := Aside0.mk (pop_wf HW0.out hr)
    have HW1 := Aside0.mk HWW1.out.1
    have HC1 := Aside0.mk hC
    have HE1 := Aside0.mk (HE0.out.trans (show _ = push (if t1 ≠ -1 then ofL (wide t1) true else t1) s1 from by rw [hr]; rfl))
    clear hC hr HP1
    have hcan := ty_can HWW1.out.2.2
    have hbK := HC1.out.kp.kp _ _ _ (by decide) (by decide) (by decide) HB.out
    have hq0 := blk_cell hbK 0
    clear hbK
    by_cases ht : t1 = -1
    · have htb : (t1 != -1) = false := by simpa using ht
      have HEP := Aside0.mk (HE1.out.trans (show _ = push t1 s1 from by rw [if_neg (by simpa using ht)]))
      have HPU := Aside0.mk (push_calls t1 HC1.out HW1.out)
      clear ht
      try dsimp only
      repeat (first | ((with_reducible refine inBlock_ne ?hne ?_); (case hne => rfl)) | (with_reducible refine inBlock_eq ?_) | (with_reducible refine then_exit ?_) | (with_reducible refine then_normal ?_) | (with_reducible refine inBlock_normal ?_) | (with_reducible refine then_ret ?_) | (with_reducible refine inBlock_ret ?_) | go_skip | go_guarded | go_step | go_upon)
      refine HPU.out.mono ?_
      intro e w5 hh
      cases hpu : push t1 s1 with
      | error q2 =>
        rw [hpu] at hh
        obtain ⟨rfl, h⟩ := hh
        exact ⟨rfl, outS_no (HEP.out.trans hpu) (h.back HK.out)⟩
      | ok s4 =>
        rw [hpu] at hh
        obtain ⟨rfl, v5, H5⟩ := hh
        have HO := Aside0.mk (show OutS w0 _ kb p _ (.returned unit) w5 from outS_ok (HEP.out.trans hpu) (H5.back HK.out))
        clear H5 hpu HPU
        try dsimp only
        repeat (first | ((with_reducible refine inBlock_ne ?hne ?_); (case hne => rfl)) | (with_reducible refine inBlock_eq ?_) | (with_reducible refine then_exit ?_) | (with_reducible refine then_normal ?_) | (with_reducible refine inBlock_normal ?_) | (with_reducible refine then_ret ?_) | (with_reducible refine inBlock_ret ?_) | go_skip | go_guarded | go_step | go_upon)
        go_end0
        exact HO.out
    · have htb : (t1 != -1) = true := by simpa using ht
      have HEP := Aside0.mk (HE1.out.trans (show _ = push (ofL (wide t1) true) s1 from by rw [if_pos ht]))
      clear ht
      try dsimp only
      repeat (first | ((with_reducible refine inBlock_ne ?hne ?_); (case hne => rfl)) | (with_reducible refine inBlock_eq ?_) | (with_reducible refine then_exit ?_) | (with_reducible refine then_normal ?_) | (with_reducible refine inBlock_normal ?_) | (with_reducible refine then_ret ?_) | (with_reducible refine inBlock_ret ?_) | go_skip | go_guarded | go_step | go_upon)
      go_quiet (first | (go_at_call 21; exact Calls.quiet_of_same (wide_calls _ _ (by assumption))) | (go_at_call 63; exact Calls.quiet_of_same (of_calls _ _ _)))
      have HPU := Aside0.mk (push_calls (ofL (wide t1) true) (HC1.out.drewN nq) HW1.out)
      try dsimp only
      repeat (first | ((with_reducible refine inBlock_ne ?hne ?_); (case hne => rfl)) | (with_reducible refine inBlock_eq ?_) | (with_reducible refine then_exit ?_) | (with_reducible refine then_normal ?_) | (with_reducible refine inBlock_normal ?_) | (with_reducible refine then_ret ?_) | (with_reducible refine inBlock_ret ?_) | go_skip | go_guarded | go_step | go_upon)
      refine HPU.out.mono ?_
      intro e w5 hh
      cases hpu : push (ofL (wide t1) true) s1 with
      | error q2 =>
        rw [hpu] at hh
        obtain ⟨rfl, h⟩ := hh
        exact ⟨rfl, outS_no (HEP.out.trans hpu) (h.back HK.out)⟩
      | ok s4 =>
        rw [hpu] at hh
        obtain ⟨rfl, v5, H5⟩ := hh
        have HO := Aside0.mk (show OutS w0 _ kb p _ (.returned unit) w5 from outS_ok (HEP.out.trans hpu) (H5.back HK.out))
        clear H5 hpu HPU
        try dsimp only
        repeat (first | ((with_reducible refine inBlock_ne ?hne ?_); (case hne => rfl)) | (with_reducible refine inBlock_eq ?_) | (with_reducible refine then_exit ?_) | (with_reducible refine then_normal ?_) | (with_reducible refine inBlock_normal ?_) | (with_reducible refine then_ret ?_) | (with_reducible refine inBlock_ret ?_) | go_skip | go_guarded | go_step | go_upon)
        go_end0
        exact HO.out
set_option maxHeartbeats 4000000 in
set_option maxRecDepth 100000 in
theorem see_241_no (S : Stat w00 w0 Z kb p E h) (F : EFine E) (n m : Int) (hcn : Can n) (htr : E.tr = false) (H : Cs w0 wr W kb p vs vf s) (wf : Wf s) (hz : wr.Z = Z := by rfl) :
    Calls Tryd.prog 40 #[.pointer (some ⟨kb, 0, none⟩), .agg #[.int .i64 241, .int .i64 n, .int .i64 m]] W (OutS w0 wr kb p (see E (241, n, m) s)) := by
  subst hz
  have HB := Aside0.mk (blk_new W (.cells #[.int .i64 241, .int .i64 n, .int .i64 m] 45))
  have HS := Aside0.mk S
  have HF := Aside0.mk F
  have HW0 := Aside0.mk wf
  have HC0 := Aside0.mk (H.alloc (.cells #[.int .i64 241, .int .i64 n, .int .i64 m] 45)).rebase
  have HK := Aside0.mk (H.alloc (.cells #[.int .i64 241, .int .i64 n, .int .i64 m] 45)).kp
  have hq8 : _ = some p.a8 := blk_cell HC0.out.box 8
  rw [HS.out.e8, htr] at hq8
  have HE0 := Aside0.mk (show see E (241, n, m) s = .error 3 from by
    show (if (241 : Int) = 241 ∧ E.tr = false then Except.error 3 else _) = _
    rw [if_pos ⟨rfl, htr⟩])
  clear H wf S F htr
  go_enter Tryd.func40, Tryd.ntmps40
  try dsimp only
  repeat (first | ((with_reducible refine inBlock_ne ?hne ?_); (case hne => rfl)) | (with_reducible refine inBlock_eq ?_) | (with_reducible refine then_exit ?_) | (with_reducible refine then_normal ?_) | (with_reducible refine inBlock_normal ?_) | (with_reducible refine then_ret ?_) | (with_reducible refine inBlock_ret ?_) | go_skip | go_guarded | go_step | go_upon)
  generalize W.alloc _ = W1 at *
  refine (must_no _).mono ?_
  rintro e w2 ⟨rfl, rfl⟩
  exact ⟨rfl, outS_no HE0.out (HC0.out.bad.back HK.out)⟩
set_option maxHeartbeats 4000000 in
set_option maxRecDepth 100000 in
theorem see_241_yes (S : Stat w00 w0 Z kb p E h) (F : EFine E) (n m : Int) (hcn : Can n) (htr : E.tr = true) (H : Cs w0 wr W kb p vs vf s) (wf : Wf s) (hz : wr.Z = Z := by rfl) :
    Calls Tryd.prog 40 #[.pointer (some ⟨kb, 0, none⟩), .agg #[.int .i64 241, .int .i64 n, .int .i64 m]] W (OutS w0 wr kb p (see E (241, n, m) s)) := by
  subst hz
  have HB := Aside0.mk (blk_new W (.cells #[.int .i64 241, .int .i64 n, .int .i64 m] 45))
  have HS := Aside0.mk S
  have HF := Aside0.mk F
  have HW0 := Aside0.mk wf
  have HC0 := Aside0.mk (H.alloc (.cells #[.int .i64 241, .int .i64 n, .int .i64 m] 45)).rebase
  have HK := Aside0.mk (H.alloc (.cells #[.int .i64 241, .int .i64 n, .int .i64 m] 45)).kp
  have hq8 : _ = some p.a8 := blk_cell HC0.out.box 8
  rw [HS.out.e8, htr] at hq8
  have HE0 := Aside0.mk (show see E (241, n, m) s = bnd (pop s) fun r => push (if r.1 ≠ -1 then ofL (wide r.1) false else r.1) r.2 from by
    show (if (241 : Int) = 241 ∧ E.tr = false then Except.error 3 else _) = _
    rw [if_neg (by rw [htr]; rintro ⟨_, h⟩; cases h)]
    rfl)
  clear H wf S F htr
  go_enter Tryd.func40, Tryd.ntmps40
  try dsimp only
  repeat (first | ((with_reducible refine inBlock_ne ?hne ?_); (case hne => rfl)) | (with_reducible refine inBlock_eq ?_) | (with_reducible refine then_exit ?_) | (with_reducible refine then_normal ?_) | (with_reducible refine inBlock_normal ?_) | (with_reducible refine then_ret ?_) | (with_reducible refine inBlock_ret ?_) | go_skip | go_guarded | go_step | go_upon)
  generalize W.alloc _ = W1 at *
  refine (must_yes _).mono ?_
  rintro e w2 ⟨rfl, rfl⟩
  clear hq8
  try dsimp only
  repeat (first | ((with_reducible refine inBlock_ne ?hne ?_); (case hne => rfl)) | (with_reducible refine inBlock_eq ?_) | (with_reducible refine then_exit ?_) | (with_reducible refine then_normal ?_) | (with_reducible refine inBlock_normal ?_) | (with_reducible refine then_ret ?_) | (with_reducible refine inBlock_ret ?_) | go_skip | go_guarded | go_step | go_upon)
  have HP1 := Aside0.mk (pop_calls HC0.out HW0.out)
  refine HP1.out.mono ?_
  intro e w2 hh
  cases hr : pop s with
  | error q =>
    rw [hr] at hh
    obtain ⟨rfl, h⟩ := hh
    exact ⟨rfl, outS_no (HE0.out.trans (by first | (rw [hr]; done) | (rw [hr]; rfl))) (h.back HK.out)⟩
  | ok r1 =>
    rw [hr] at hh
    obtain ⟨t1, s1⟩ := r1
    obtain ⟨rfl, v1, hC⟩ := hh
    have HWW1 := Aside0.mk (pop_wf HW0.out hr)
    have HW1 := Aside0.mk HWW1.out.1
    have HC1 := Aside0.mk hC
    have HE1 := Aside0.mk (HE0.out.trans (show _ = push (if t1 ≠ -1 then ofL (wide t1) false else t1) s1 from by rw [hr]; rfl))
    clear hC hr HP1
    have hcan := ty_can HWW1.out.2.2
    have hbK := HC1.out.kp.kp _ _ _ (by decide) (by decide) (by decide) HB.out
    have hq0 := blk_cell hbK 0
    clear hbK
    by_cases ht : t1 = -1
    · have htb : (t1 != -1) = false := by simpa using ht
      have HEP := Aside0.mk (HE1.out.trans (show _ = push t1 s1 from by rw [if_neg (by simpa using ht)]))
      have HPU := Aside0.mk (push_calls t1 HC1.out HW1.out)
      clear ht
      try dsimp only
      repeat (first | ((with_reducible refine inBlock_ne ?hne ?_); (case hne => rfl)) | (with_reducible refine inBlock_eq ?_) | (with_reducible refine then_exit ?_) | (with_reducible refine then_normal ?_) | (with_reducible refine inBlock_normal ?_) | (with_reducible refine then_ret ?_) | (with_reducible refine inBlock_ret ?_) | go_skip | go_guarded | go_step | go_upon)
      refine HPU.out.mono ?_
      intro e w5 hh
      cases hpu : push t1 s1 with
      | error q2 =>
        rw [hpu] at hh
        obtain ⟨rfl, h⟩ := hh
        exact ⟨rfl, outS_no (HEP.out.trans hpu) (h.back HK.out)⟩
      | ok s4 =>
        rw [hpu] at hh
        obtain ⟨rfl, v5, H5⟩ := hh
        have HO := Aside0.mk (show OutS w0 _ kb p _ (.returned unit) w5 from outS_ok (HEP.out.trans hpu) (H5.back HK.out))
        clear H5 hpu HPU
        try dsimp only
        repeat (first | ((with_reducible refine inBlock_ne ?hne ?_); (case hne => rfl)) | (with_reducible refine inBlock_eq ?_) | (with_reducible refine then_exit ?_) | (with_reducible refine then_normal ?_) | (with_reducible refine inBlock_normal ?_) | (with_reducible refine then_ret ?_) | (with_reducible refine inBlock_ret ?_) | go_skip | go_guarded | go_step | go_upon)
        go_end0
        exact HO.out
    · have htb : (t1 != -1) = true := by simpa using ht
      have HEP := Aside0.mk (HE1.out.trans (show _ = push (ofL (wide t1) false) s1 from by rw [if_pos ht]))
      clear ht
      try dsimp only
      repeat (first | ((with_reducible refine inBlock_ne ?hne ?_); (case hne => rfl)) | (with_reducible refine inBlock_eq ?_) | (with_reducible refine then_exit ?_) | (with_reducible refine then_normal ?_) | (with_reducible refine inBlock_normal ?_) | (with_reducible refine then_ret ?_) | (with_reducible refine inBlock_ret ?_) | go_skip | go_guarded | go_step | go_upon)
      go_quiet (first | (go_at_call 21; exact Calls.quiet_of_same (wide_calls _ _ (by assumption))) | (go_at_call 63; exact Calls.quiet_of_same (of_calls _ _ _)))
      have HPU := Aside0.mk (push_calls (ofL (wide t1) false) (HC1.out.drewN nq) HW1.out)
      try dsimp only
      repeat (first | ((with_reducible refine inBlock_ne ?hne ?_); (case hne => rfl)) | (with_reducible refine inBlock_eq ?_) | (with_reducible refine then_exit ?_) | (with_reducible refine then_normal ?_) | (with_reducible refine inBlock_normal ?_) | (with_reducible refine then_ret ?_) | (with_reducible refine inBlock_ret ?_) | go_skip | go_guarded | go_step | go_upon)
      refine HPU.out.mono ?_
      intro e w5 hh
      cases hpu : push (ofL (wide t1) false) s1 with
      | error q2 =>
        rw [hpu] at hh
        obtain ⟨rfl, h⟩ := hh
        exact ⟨rfl, outS_no (HEP.out.trans hpu) (h.back HK.out)⟩
      | ok s4 =>
        rw [hpu] at hh
        obtain ⟨rfl, v5, H5⟩ := hh
        have HO := Aside0.mk (show OutS w0 _ kb p _ (.returned unit) w5 from outS_ok (HEP.out.trans hpu) (H5.back HK.out))
        clear H5 hpu HPU
        try dsimp only
        repeat (first | ((with_reducible refine inBlock_ne ?hne ?_); (case hne => rfl)) | (with_reducible refine inBlock_eq ?_) | (with_reducible refine then_exit ?_) | (with_reducible refine then_normal ?_) | (with_reducible refine inBlock_normal ?_) | (with_reducible refine then_ret ?_) | (with_reducible refine inBlock_ret ?_) | go_skip | go_guarded | go_step | go_upon)
        go_end0
        exact HO.out
set_option maxHeartbeats 4000000 in
set_option maxRecDepth 100000 in
theorem see_rest (S : Stat w00 w0 Z kb p E h) (F : EFine E) (n m : Int) (hcn : Can n) (op : Int) (hop : op ≠ 1 ∧ op ≠ 0 ∧ op ≠ 4 ∧ op ≠ 2 ∧ op ≠ 3 ∧ op ≠ 5 ∧ op ≠ 11 ∧ op ≠ 12 ∧ op ≠ 13 ∧ op ≠ 15 ∧ op ≠ 16 ∧ op ≠ 26 ∧ op ≠ 27 ∧ op ≠ 32 ∧ op ≠ 35 ∧ op ≠ 33 ∧ op ≠ 36 ∧ op ≠ 34 ∧ op ≠ 40 ∧ op ≠ 41 ∧ op ≠ 54 ∧ op ≠ 55 ∧ op ≠ 65 ∧ op ≠ 66 ∧ op ≠ 240 ∧ op ≠ 241) (H : Cs w0 wr W kb p vs vf s) (wf : Wf s) (hz : wr.Z = Z := by rfl) :
    Calls Tryd.prog 40 #[.pointer (some ⟨kb, 0, none⟩), .agg #[.int .i64 op, .int .i64 n, .int .i64 m]] W (OutS w0 wr kb p (see E (op, n, m) s)) := by
  subst hz
  have HB := Aside0.mk (blk_new W (.cells #[.int .i64 op, .int .i64 n, .int .i64 m] 45))
  have HS := Aside0.mk S
  have HF := Aside0.mk F
  have HW0 := Aside0.mk wf
  have HC0 := Aside0.mk (H.alloc (.cells #[.int .i64 op, .int .i64 n, .int .i64 m] 45)).rebase
  have HK := Aside0.mk (H.alloc (.cells #[.int .i64 op, .int .i64 n, .int .i64 m] 45)).kp
  have HE0 := Aside0.mk (show see E (op, n, m) s = reckon op s from by
    obtain ⟨h1, h0, h4, h2, h3, h5, h11, h12, h13, h15, h16, h26, h27, h32, h35, h33, h36, h34, h40, h41, h54, h55, h65, h66, h240, h241⟩ := hop
    unfold see
    simp only [h1, h0, h4, h2, h3, h5, h11, h12, h13, h15, h16, h26, h27, h32, h35, h33, h36, h34, h40, h41, h54, h55, h65, h66, h240, h241, if_false, or_self, ite_self])
  obtain ⟨h1, h0, h4, h2, h3, h5, h11, h12, h13, h15, h16, h26, h27, h32, h35, h33, h36, h34, h40, h41, h54, h55, h65, h66, h240, h241⟩ := hop
  have b1 : (op == 1) = false := by simpa using h1
  have b0 : (op == 0) = false := by simpa using h0
  have b4 : (op == 4) = false := by simpa using h4
  have b2 : (op == 2) = false := by simpa using h2
  have b3 : (op == 3) = false := by simpa using h3
  have b5 : (op == 5) = false := by simpa using h5
  have b11 : (op == 11) = false := by simpa using h11
  have b12 : (op == 12) = false := by simpa using h12
  have b13 : (op == 13) = false := by simpa using h13
  have b15 : (op == 15) = false := by simpa using h15
  have b16 : (op == 16) = false := by simpa using h16
  have b26 : (op == 26) = false := by simpa using h26
  have b27 : (op == 27) = false := by simpa using h27
  have b32 : (op == 32) = false := by simpa using h32
  have b35 : (op == 35) = false := by simpa using h35
  have b33 : (op == 33) = false := by simpa using h33
  have b36 : (op == 36) = false := by simpa using h36
  have b34 : (op == 34) = false := by simpa using h34
  have b40 : (op == 40) = false := by simpa using h40
  have b41 : (op == 41) = false := by simpa using h41
  have b54 : (op == 54) = false := by simpa using h54
  have b55 : (op == 55) = false := by simpa using h55
  have b65 : (op == 65) = false := by simpa using h65
  have b66 : (op == 66) = false := by simpa using h66
  have b240 : (op == 240) = false := by simpa using h240
  have b241 : (op == 241) = false := by simpa using h241
  clear H wf S F h1 h0 h4 h2 h3 h5 h11 h12 h13 h15 h16 h26 h27 h32 h35 h33 h36 h34 h40 h41 h54 h55 h65 h66 h240 h241
  go_enter Tryd.func40, Tryd.ntmps40
  have hq0 := blk_cell HB.out 0
  try dsimp only
  repeat (first | ((with_reducible refine inBlock_ne ?hne ?_); (case hne => rfl)) | (with_reducible refine inBlock_eq ?_) | (with_reducible refine then_exit ?_) | (with_reducible refine then_normal ?_) | (with_reducible refine inBlock_normal ?_) | (with_reducible refine then_ret ?_) | (with_reducible refine inBlock_ret ?_) | go_skip | go_guarded | go_step | go_upon)
  generalize W.alloc _ = W1 at *
  have HP1 := Aside0.mk (reckon_calls op HC0.out HW0.out)
  refine HP1.out.mono ?_
  intro e w2 hh
  cases hr : reckon op s with
  | error q =>
    rw [hr] at hh
    obtain ⟨rfl, h⟩ := hh
    exact ⟨rfl, outS_no (HE0.out.trans (by first | (rw [hr]; done) | (rw [hr]; rfl))) (h.back HK.out)⟩
  | ok r1 =>
    rw [hr] at hh
    obtain ⟨rfl, v1, hC⟩ := hh
    have HW1 := HW0
    have HO := Aside0.mk (show OutS w0 _ kb p _ (.returned unit) w2 from outS_ok (HE0.out.trans hr) (hC.back HK.out))
    clear hC hr HP1
    try dsimp only
    repeat (first | ((with_reducible refine inBlock_ne ?hne ?_); (case hne => rfl)) | (with_reducible refine inBlock_eq ?_) | (with_reducible refine then_exit ?_) | (with_reducible refine then_normal ?_) | (with_reducible refine inBlock_normal ?_) | (with_reducible refine then_ret ?_) | (with_reducible refine inBlock_ret ?_) | go_skip | go_guarded | go_step | go_upon)
    go_end0
    exact HO.out
end
end Go.Proofs.YtjjhhmchomabeaaDoor.Valid
