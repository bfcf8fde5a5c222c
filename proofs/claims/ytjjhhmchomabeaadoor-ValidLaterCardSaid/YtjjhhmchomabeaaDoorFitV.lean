/- What wbin.Fits answers, told plainly, and what a module that fits has. -/
import Derived.Test.YtjjhhmchomabeaaDoorValFB
import Derived.Test.YtjjhhmchomabeaaDoorValFC
import Derived.Test.YtjjhhmchomabeaaDoorValFD
import Derived.Test.YtjjhhmchomabeaaDoorValFE
import Derived.Recover
import Derived.Defers
import Derived.Laws.Pointers
import Derived.Laws.OwnMore
import Derived.Test.YtjjhhmchomabeaaDoorInstV
namespace Go.Proofs.YtjjhhmchomabeaaDoor.Valid
open Go.RowKit Go.Proofs.YtjjhhmchomabeaaDoorW.PrintWords Go.Proofs.YtjjhhmchomabeaaDoorW.PrintLast Go.Proofs.YtjjhhmchomabeaaDoor.Mem Go.Proofs.YtjjhhmchomabeaaDoor.Nest
set_option linter.unusedVariables false
set_option linter.unusedSimpArgs false

/-- what an instruction of a body that fits has -/
structure XOk (x : T3) : Prop where
  can : Can x.2.1
  idx : x.1 = 12 ∨ x.1 = 13 ∨ x.1 = 32 ∨ x.1 = 33 ∨ x.1 = 34 ∨ x.1 = 35 ∨ x.1 = 36 → 0 ≤ x.2.1
  mem : x.1 = 40 ∨ x.1 = 41 ∨ x.1 = 54 ∨ x.1 = 55 → x.2.2 = 0 ∨ x.2.2 = 1
  blk : x.1 = 2 ∨ x.1 = 3 ∨ x.1 = 4 → 0 ≤ x.2.2 ∧ x.2.2 ≤ 4
section
variable {w00 w0 W : World} {wr : Rf} {Z : Nat → Prop} {kb : Nat} {p : P13} {E : Env} {h : Hd} {vs vf : Value} {s : Ck}
set_option maxHeartbeats 1000000 in
theorem see_calls (S : Stat w00 w0 Z kb p E h) (F : EFine E) (x : T3) (hx : XOk x) (hfl : s.fr.length ≤ 1000) (H : Cs w0 wr W kb p vs vf s) (wf : Wf s) (hz : wr.Z = Z) :
    Calls Tryd.prog 40 #[.pointer (some ⟨kb, 0, none⟩), .agg #[.int .i64 x.1, .int .i64 x.2.1, .int .i64 x.2.2]] W (OutS w0 wr kb p (see E x s)) := by
  obtain ⟨op, n, m⟩ := x
  have hc := hx.can
  have hi := hx.idx
  have hm := hx.mem
  have hb := hx.blk
  dsimp only at hc hi hm hb ⊢
  by_cases h1 : op = 1
  · subst h1; exact see_1 S F n m hc H wf hz
  by_cases h0 : op = 0
  · subst h0; exact see_0 S F n m hc H wf hz
  by_cases h4 : op = 4
  · subst h4; exact see_open_4 S F n m hc (hb (by simp)).1 (hb (by simp)).2 hfl H wf hz
  by_cases h2 : op = 2
  · subst h2; exact see_open_23 (.inl rfl) S F n m hc (hb (by simp)).1 (hb (by simp)).2 hfl H wf hz
  by_cases h3 : op = 3
  · subst h3; exact see_open_23 (.inr rfl) S F n m hc (hb (by simp)).1 (hb (by simp)).2 hfl H wf hz
  by_cases h5 : op = 5
  · subst h5; exact see_5 S F n m hc H wf hz
  by_cases h11 : op = 11
  · subst h11; exact see_11 S F n m hc H wf hz
  by_cases h12 : op = 12
  · subst h12; exact see_12 S F n m hc (hi (by simp)) H wf hz
  by_cases h13 : op = 13
  · subst h13; exact see_13 S F n m hc (hi (by simp)) H wf hz
  by_cases h15 : op = 15
  · subst h15; exact see_15 S F n m hc H wf hz
  by_cases h16 : op = 16
  · subst h16; exact see_16 S F n m hc H wf hz
  by_cases h26 : op = 26
  · subst h26; exact see_26 S F n m hc H wf hz
  by_cases h27 : op = 27
  · subst h27; exact see_27 S F n m hc H wf hz
  by_cases h32 : op = 32
  · subst h32; exact see_32 S F n m hc (hi (by simp)) H wf hz
  by_cases h35 : op = 35
  · subst h35; exact see_35 S F n m hc (hi (by simp)) H wf hz
  by_cases h33 : op = 33
  · subst h33; exact see_33 S F n m hc (hi (by simp)) H wf hz
  by_cases h36 : op = 36
  · subst h36; exact see_36 S F n m hc (hi (by simp)) H wf hz
  by_cases h34 : op = 34
  · subst h34; exact see_34 S F n m hc (hi (by simp)) H wf hz
  by_cases h40 : op = 40
  · subst h40
    rcases hm (by simp) with rfl | rfl
    · by_cases hq : E.M.m0 = 0
      · exact see_40_0_no S F n hc hq H wf hz
      · exact see_40_0_yes S F n hc hq H wf hz
    · by_cases hq : E.M.m1 = 0
      · exact see_40_1_no S F n hc hq H wf hz
      · exact see_40_1_yes S F n hc hq H wf hz
  by_cases h41 : op = 41
  · subst h41
    rcases hm (by simp) with rfl | rfl
    · by_cases hq : E.M.m0 = 0
      · exact see_41_0_no S F n hc hq H wf hz
      · exact see_41_0_yes S F n hc hq H wf hz
    · by_cases hq : E.M.m1 = 0
      · exact see_41_1_no S F n hc hq H wf hz
      · exact see_41_1_yes S F n hc hq H wf hz
  by_cases h54 : op = 54
  · subst h54
    rcases hm (by simp) with rfl | rfl
    · by_cases hq : E.M.m0 = 0
      · exact see_54_0_no S F n hc hq H wf hz
      · exact see_54_0_yes S F n hc hq H wf hz
    · by_cases hq : E.M.m1 = 0
      · exact see_54_1_no S F n hc hq H wf hz
      · exact see_54_1_yes S F n hc hq H wf hz
  by_cases h55 : op = 55
  · subst h55
    rcases hm (by simp) with rfl | rfl
    · by_cases hq : E.M.m0 = 0
      · exact see_55_0_no S F n hc hq H wf hz
      · exact see_55_0_yes S F n hc hq H wf hz
    · by_cases hq : E.M.m1 = 0
      · exact see_55_1_no S F n hc hq H wf hz
      · exact see_55_1_yes S F n hc hq H wf hz
  by_cases h65 : op = 65
  · subst h65; exact see_65 S F n m hc H wf hz
  by_cases h66 : op = 66
  · subst h66; exact see_66 S F n m hc H wf hz
  by_cases h240 : op = 240
  · subst h240; exact see_240 S F n m hc H wf hz
  by_cases h241 : op = 241
  · subst h241
    cases ht : E.tr
    · exact see_241_no S F n m hc ht H wf hz
    · exact see_241_yes S F n m hc ht H wf hz
  exact see_rest S F n m hc op ⟨h1, h0, h4, h2, h3, h5, h11, h12, h13, h15, h16, h26, h27, h32, h35, h33, h36, h34, h40, h41, h54, h55, h65, h66, h240, h241⟩ H wf hz
end
/-! what holds behind an instruction -/
theorem bnd_ok {α β : Type} {r : Except Int α} {f : α → Except Int β} {b : β} (h : bnd r f = .ok b) : ∃ a, r = .ok a ∧ f a = .ok b := by
  cases r with
  | error e => cases h
  | ok a => exact ⟨a, rfl, h⟩
theorem choose_wf {s s1 : Ck} (h : Wf s) (hp : choose s = .ok s1) : Wf s1 ∧ s1.fr = s.fr := by
  unfold choose at hp
  split at hp
  · cases hp
  · rename_i how s2 h2
    have w2 := pop_wf h h2
    split at hp
    · split at hp
      · cases hp
      · rename_i b s3 h3
        have w3 := pop_wf w2.1 h3
        split at hp
        · cases hp
        · rename_i a s4 h4
          have w4 := pop_wf w3.1 h4
          split at hp
          · cases hp
          · rename_i t ht
            have w5 := push_wf w4.1 (tint_ty (mix_can w4.2.2 w3.2.2 ht)) hp
            exact ⟨w5.1, w5.2.trans (w4.2.1.trans (w3.2.1.trans w2.2.1))⟩
    · cases hp
theorem reckon_wf {s s1 : Ck} {op : Int} (h : Wf s) (hp : reckon op s = .ok s1) : Wf s1 ∧ s1.fr = s.fr := by
  unfold reckon at hp
  split at hp
  · split at hp
    · cases hp
    · rename_i sec s2 h2
      have w2 := reckonN_wf _ _ _ _ h h2
      have w3 := push_wf w2.1 (ofL_ty _ _) hp
      exact ⟨w3.1, w3.2.trans w2.2⟩
  · cases hp
theorem callT_wf {E : Env} (F : EFine E) {s s1 : Ck} {n : Int} (h : Wf s) (hp : callT E n s = .ok s1) : Wf s1 ∧ s1.fr = s.fr := by
  unfold callT at hp
  split at hp
  · split at hp
    · cases hp
    · rename_i s2 h2
      have w2 := wants_wf _ _ _ h h2
      have w3 := give_wf w2.1 (firstL_ty (callee_right F.mod n).2) hp
      exact ⟨w3.1, w3.2.trans w2.2⟩
  · cases hp
/-- the blocks that are open behind an instruction -/
def depthOf (op : Int) (d : Nat) : Nat := if op = 2 ∨ op = 3 ∨ op = 4 then d + 1 else if op = 11 then d - 1 else d
theorem depth_same {op : Int} {d : Nat} (h : ¬ (op = 2 ∨ op = 3 ∨ op = 4)) (h2 : op ≠ 11) : depthOf op d = d := by unfold depthOf; rw [if_neg h, if_neg h2]
theorem see_wf {E : Env} (F : EFine E) {x : T3} (hx : XOk x) {s s1 : Ck} (h : Wf s) (hp : see E x s = .ok s1) (hd : x.1 = 11 → 1 < s.fr.length) : Wf s1 ∧ s1.fr.length = depthOf x.1 s.fr.length := by
  have keep : ∀ {t : Ck}, Wf t ∧ t.fr = s.fr → ¬ (x.1 = 2 ∨ x.1 = 3 ∨ x.1 = 4) → x.1 ≠ 11 → Wf t ∧ t.fr.length = depthOf x.1 s.fr.length := fun w k1 k2 => ⟨w.1, by rw [depth_same k1 k2, w.2]⟩
  have dies : ∀ {t : Ck}, Wf t ∧ t.fr = s.fr → ¬ (x.1 = 2 ∨ x.1 = 3 ∨ x.1 = 4) → x.1 ≠ 11 → Wf (die t) ∧ (die t).fr.length = depthOf x.1 s.fr.length := fun {t} w k1 k2 => ⟨die_wf w.1, by
    rw [depth_same k1 k2]
    show (t.fr.set (t.fr.length - 1) _).length = _
    rw [List.length_set, w.2]⟩
  have opn : ∀ {t : Ck}, Wf t ∧ t.fr = s.fr → (x.1 = 2 ∨ x.1 = 3 ∨ x.1 = 4) → Wf (openT x t) ∧ (openT x t).fr.length = depthOf x.1 s.fr.length := fun {t} w k => ⟨open_wf w.1 x (hx.blk k), by
    unfold depthOf
    rw [if_pos k]
    show (t.fr ++ [_]).length = _
    rw [List.length_append, w.2]; rfl⟩
  unfold see at hp
  by_cases h1 : x.1 = 1
  · rw [if_pos h1] at hp; cases hp; exact keep ⟨h, rfl⟩ (by omega) (by omega)
  rw [if_neg h1] at hp
  by_cases h0 : x.1 = 0
  · rw [if_pos h0] at hp; cases hp; exact dies ⟨h, rfl⟩ (by omega) (by omega)
  rw [if_neg h0] at hp
  by_cases h4 : x.1 = 4
  · rw [if_pos h4] at hp
    obtain ⟨s2, h2, h3⟩ := bnd_ok hp
    cases h3
    exact opn (want_wf h h2) (by omega)
  rw [if_neg h4] at hp
  by_cases h23 : x.1 = 2 ∨ x.1 = 3
  · rw [if_pos h23] at hp; cases hp; exact opn ⟨h, rfl⟩ (by omega)
  rw [if_neg h23] at hp
  by_cases h5 : x.1 = 5
  · rw [if_pos h5] at hp
    obtain ⟨s2, h2, h3⟩ := bnd_ok hp
    cases h3
    have w := close_wf h h2
    refine ⟨w.1.setTop _ rfl rfl, ?_⟩
    rw [depth_same (by omega) (by omega)]
    show (s2.fr.set (s2.fr.length - 1) _).length = _
    rw [List.length_set, w.2.1]
  rw [if_neg h5] at hp
  by_cases h11 : x.1 = 11
  · rw [if_pos h11] at hp
    obtain ⟨s2, h2, h3⟩ := bnd_ok hp
    have w := close_wf h h2
    have hl := hd h11
    obtain ⟨q, hq⟩ : ∃ q, s2.fr.length = q + 1 := ⟨s2.fr.length - 1, by have := w.1.pos; omega⟩
    have hq0 : 0 < q := by rw [← w.2.1] at hl; omega
    unfold endT at h3
    rw [hq, Nat.add_sub_cancel] at h3
    split at h3
    · skip
      have w3 := give_wf (endT_wf w.1 w.2.2 hq hq0) (w.1.br _ w.1.top_mem) h3
      refine ⟨w3.1, ?_⟩
      rw [w3.2]
      show (s2.fr.take q).length = _
      unfold depthOf
      rw [if_neg (by omega), if_pos h11, List.length_take, ← w.2.1]
      omega
    · cases h3
  rw [if_neg h11] at hp
  have k1 : ∀ {t : Ck}, Wf t ∧ t.fr = s.fr → Wf t ∧ t.fr.length = depthOf x.1 s.fr.length := fun w => keep w (by omega) h11
  have k2 : ∀ {t : Ck}, Wf t ∧ t.fr = s.fr → Wf (die t) ∧ (die t).fr.length = depthOf x.1 s.fr.length := fun w => dies w (by omega) h11
  by_cases h12 : x.1 = 12
  · rw [if_pos h12] at hp
    obtain ⟨t, h2, h3⟩ := bnd_ok hp
    obtain ⟨s2, h4, h5⟩ := bnd_ok h3
    cases h5
    exact k2 (take_wf h h4)
  rw [if_neg h12] at hp
  by_cases h13 : x.1 = 13
  · rw [if_pos h13] at hp
    obtain ⟨s2, h2, h3⟩ := bnd_ok hp
    obtain ⟨t, h4, h5⟩ := bnd_ok h3
    obtain ⟨s3, h6, h7⟩ := bnd_ok h5
    have w2 := want_wf h h2
    have w3 := take_wf w2.1 h6
    have w4 := give_wf w3.1 (taken_ty w2.1 (hx.idx (by omega)) h4) h7
    exact k1 ⟨w4.1, w4.2.trans (w3.2.trans w2.2)⟩
  rw [if_neg h13] at hp
  by_cases h15 : x.1 = 15
  · rw [if_pos h15] at hp
    obtain ⟨s2, h2, h3⟩ := bnd_ok hp
    cases h3
    exact k2 (take_wf h h2)
  rw [if_neg h15] at hp
  by_cases h16 : x.1 = 16
  · rw [if_pos h16] at hp
    exact k1 (callT_wf F h hp)
  rw [if_neg h16] at hp
  by_cases h26 : x.1 = 26
  · rw [if_pos h26] at hp
    obtain ⟨r, h2, h3⟩ := bnd_ok hp
    cases h3
    exact k1 ⟨(pop_wf h h2).1, (pop_wf h h2).2.1⟩
  rw [if_neg h26] at hp
  by_cases h27 : x.1 = 27
  · rw [if_pos h27] at hp
    exact k1 (choose_wf h hp)
  rw [if_neg h27] at hp
  by_cases h32 : x.1 = 32 ∨ x.1 = 35
  · rw [if_pos h32] at hp
    obtain ⟨t, h2, h3⟩ := bnd_ok hp
    exact k1 (push_wf h (right_ty (cellT_right F (hx.idx (by omega)) h2)) h3)
  rw [if_neg h32] at hp
  by_cases h33 : x.1 = 33 ∨ x.1 = 36
  · rw [if_pos h33] at hp
    obtain ⟨t, h2, h3⟩ := bnd_ok hp
    exact k1 (want_wf h h3)
  rw [if_neg h33] at hp
  by_cases h34 : x.1 = 34
  · rw [if_pos h34] at hp
    obtain ⟨t, h2, h3⟩ := bnd_ok hp
    obtain ⟨s2, h4, h5⟩ := bnd_ok h3
    have w2 := want_wf h h4
    have w3 := push_wf w2.1 (right_ty (cellT_right F (hx.idx (by omega)) h2)) h5
    exact k1 ⟨w3.1, w3.2.trans w2.2⟩
  rw [if_neg h34] at hp
  by_cases h40 : x.1 = 40 ∨ x.1 = 41
  · rw [if_pos h40] at hp
    split at hp
    · obtain ⟨s2, h2, h3⟩ := bnd_ok hp
      have w2 := want_wf h h2
      have w3 := push_wf w2.1 (ofL_ty _ _) h3
      exact k1 ⟨w3.1, w3.2.trans w2.2⟩
    · cases hp
  rw [if_neg h40] at hp
  by_cases h54 : x.1 = 54 ∨ x.1 = 55
  · rw [if_pos h54] at hp
    split at hp
    · obtain ⟨s2, h2, h3⟩ := bnd_ok hp
      have w2 := want_wf h h2
      have w3 := want_wf w2.1 h3
      exact k1 ⟨w3.1, w3.2.trans w2.2⟩
    · cases hp
  rw [if_neg h54] at hp
  by_cases h65 : x.1 = 65 ∨ x.1 = 66
  · rw [if_pos h65] at hp
    exact k1 (push_wf h (ofL_ty _ _) hp)
  rw [if_neg h65] at hp
  by_cases h240 : x.1 = 240 ∨ x.1 = 241
  · rw [if_pos h240] at hp
    split at hp
    · cases hp
    · obtain ⟨r, h2, h3⟩ := bnd_ok hp
      have w2 := pop_wf h h2
      have w3 := push_wf w2.1 (show Ty (if r.1 ≠ -1 then ofL (wide r.1) (x.1 == 240) else r.1) by split; exact ofL_ty _ _; exact w2.2.2) h3
      exact k1 ⟨w3.1, w3.2.trans w2.2.1⟩
  rw [if_neg h240] at hp
  exact k1 (reckon_wf h hp)
end Go.Proofs.YtjjhhmchomabeaaDoor.Valid
namespace Go.Proofs.YtjjhhmchomabeaaDoor.Valid
open Go.RowKit Go.Proofs.YtjjhhmchomabeaaDoorW.PrintWords Go.Proofs.YtjjhhmchomabeaaDoorW.PrintLast Go.Proofs.YtjjhhmchomabeaaDoor.Mem Go.Proofs.YtjjhhmchomabeaaDoor.Nest
set_option linter.unusedVariables false
set_option linter.unusedSimpArgs false

/-- a fault's cells -/
abbrev fCells (e at_ : Int) : Array Value := #[.int .i64 e, .int .i64 at_, .iface 61 (.int .i64 e)]
abbrev fBox (e at_ : Int) : Obj := .cells (fCells e at_) 69
/-- an error that points at a fault -/
abbrev fErr (b : Nat) : Value := .iface 65 (.pointer (some ⟨b, 0, none⟩))
theorem fault_calls (e at_ : Int) (w : World) :
    Calls Tryd.prog 25 #[.int .i64 e, .int .i64 at_] w fun ev w' => ev = .returned (fErr w.heap.size) ∧ w' = w.alloc (fBox e at_) := by
  go_enter Tryd.func25, Tryd.ntmps25
  go_wp2_with fail
  go_ret
  exact ⟨rfl, rfl⟩
set_option maxRecDepth 100000 in
theorem one_catch_idle (a b c d : Addr) (w : World) :
    CallsD Tryd.prog 36 #[.pointer (some a), .pointer (some b), .pointer (some c), .pointer (some d)] .returning w fun e u' w' => e = .returned (.tuple #[]) ∧ u' = .returning ∧ w' = w := by
  refine callsD_of_wpS Tryd.func36 rfl fun c₀ cs hu => ?_
  apply wpS_seq
  apply wpS_region
  simp [wpOpsS, go_sem, recoverD, hu, Tryd.ntmps36, Exit.thenS]
  refine wpS_of_wp ?_
  simp only [List.size_toArray, List.length_cons, List.length_nil, Nat.reduceAdd, Nat.reduceSub, Array.replicate_succ, Array.replicate_zero, List.push_toArray, List.append_toArray, List.nil_append, List.cons_append, List.setIfInBounds_toArray, List.set_cons_zero, List.set_cons_succ]
  go_wp2_with fail
  cases c₀
  simp_all [bodyPostS, results, Tryd.results36]
set_option maxRecDepth 100000 in
theorem one_catch (a b c d : Addr) (k at_ q : Int) (u0 u1 : Value) (older : List PanicEntry) (w : World) (ha : w.cell? a = some (.int .i64 k)) (hb : w.cell? b = some (.int .i64 at_)) (hc : w.cell? c = some u0) (hd : w.cell? d = some u1) (zc : w.frozen? c = false) (zd : w.frozen? d = false)
    (hk : 0 ≤ k ∧ k ≤ 1000) (hat : 0 ≤ at_ ∧ at_ ≤ 1000) (hcd : c.block ≠ d.block) :
    CallsD Tryd.prog 36 #[.pointer (some a), .pointer (some b), .pointer (some c), .pointer (some d)] (.panicking ({ v := .iface 78 (.int .i64 q), recovered := false } :: older)) w fun e u' w' =>
      e = .returned (.tuple #[]) ∧ u' = .panicking ({ v := .iface 78 (.int .i64 q), recovered := true } :: older) ∧ w' = ((w.alloc (fBox q (1000 * k + at_))).setCell c (.slice none 0 0)).setCell d (fErr w.heap.size) := by
  have hta : (Instr.typeAssert (.iface 78 (.int .i64 q)) 20 78 true).run Tryd.prog w = .ok (.tuple #[.int .i64 q, .bool true]) w := by kernel_rfl
  refine callsD_of_wpS Tryd.func36 rfl fun c₀ cs hu => ?_
  apply wpS_seq
  apply wpS_region
  simp [wpOpsS, go_sem, recoverD, hu, Tryd.ntmps36, Exit.thenS]
  refine wpS_of_wp ?_
  simp only [List.size_toArray, List.length_cons, List.length_nil, Nat.reduceAdd, Nat.reduceSub, Array.replicate_succ, Array.replicate_zero, List.push_toArray, List.append_toArray, List.nil_append, List.cons_append, List.setIfInBounds_toArray, List.set_cons_zero, List.set_cons_succ]
  go_wp2_with fail
  refine (fault_calls _ _ _).mono ?_
  rintro e w' ⟨rfl, rfl⟩
  have hca := cell_al hc (fBox q (1000 * k + at_))
  have hda := cell_al hd (fBox q (1000 * k + at_))
  have zca : (w.alloc (fBox q (1000 * k + at_))).frozen? c = false := by rw [World.frozen?_alloc_old _ _ c (Nat.ne_of_lt (World.block_lt_of_cell? _ _ hc))]; exact zc
  have zda : (w.alloc (fBox q (1000 * k + at_))).frozen? d = false := by rw [World.frozen?_alloc_old _ _ d (Nat.ne_of_lt (World.block_lt_of_cell? _ _ hd))]; exact zd
  have hdb : ((w.alloc (fBox q (1000 * k + at_))).setCell c (.slice none 0 0)).cell? d = some u1 := by rw [World.cell?_setCell_far _ _ _ _ hcd]; exact hda
  have zdb : ((w.alloc (fBox q (1000 * k + at_))).setCell c (.slice none 0 0)).frozen? d = false := by simpa using zda
  go_wp2_with fail
  cases c₀
  simp_all [bodyPostS, results, Tryd.results36]
end Go.Proofs.YtjjhhmchomabeaaDoor.Valid
namespace Go.Proofs.YtjjhhmchomabeaaDoor.Valid
open Go.RowKit Go.Proofs.YtjjhhmchomabeaaDoorW.PrintWords Go.Proofs.YtjjhhmchomabeaaDoorW.PrintLast Go.Proofs.YtjjhhmchomabeaaDoor.Mem Go.Proofs.YtjjhhmchomabeaaDoor.Nest
set_option linter.unusedVariables false
set_option linter.unusedSimpArgs false

/-- n blocks are open (the body's own too) ahead of the instruction i, and the rest closes them in order -/
def Nst (L : List T3) (i n : Nat) : Prop := ∃ sp op deep, (wk L (L.length - i) i sp op deep).2.1 = 0 ∧ n = op.length + 1
theorem nst_start {L : List T3} (h : (wkAll L).2.1 = 0) : Nst L 0 1 := ⟨[], [], false, h, rfl⟩
theorem nst_lt {L : List T3} {i n : Nat} (h : Nst L i n) : i < L.length ∧ 0 < n := by
  obtain ⟨sp, op, deep, h1, h2⟩ := h
  refine ⟨?_, by omega⟩
  by_cases hi : i < L.length
  · exact hi
  · rw [show L.length - i = 0 from by omega] at h1
    exact absurd (show (3 : Int) = 0 from h1) (by decide)
theorem opens_iff (x : Int) : opens x = true ↔ (x = 2 ∨ x = 3 ∨ x = 4) := by
  unfold opens
  simp only [Bool.or_eq_true, beq_iff_eq]
  omega
theorem nst_step {L : List T3} {i n : Nat} (h : Nst L i n) : ((at3 L i).1 = 11 ∧ n = 1 ∧ i + 1 = L.length) ∨ (((at3 L i).1 = 11 → 1 < n) ∧ Nst L (i + 1) (depthOf (at3 L i).1 n)) := by
  have hlt := (nst_lt h).1
  obtain ⟨sp, op, deep, h1, h2⟩ := h
  obtain ⟨r, hr⟩ : ∃ r, L.length - i = r + 1 := ⟨L.length - i - 1, by omega⟩
  have hr2 : L.length - (i + 1) = r := by omega
  rw [hr] at h1
  unfold wk at h1
  dsimp only at h1
  unfold Nst depthOf
  rw [hr2]
  obtain ⟨x, hx⟩ : ∃ x, (at3 L i).1 = x := ⟨_, rfl⟩
  rw [hx] at h1 ⊢
  by_cases ho : opens x = true
  · rw [if_pos ho] at h1
    have ho2 := (opens_iff x).1 ho
    rw [if_pos ho2]
    exact .inr ⟨fun e => by omega, _, _, _, h1, by simp; omega⟩
  · rw [if_neg ho] at h1
    have ho2 : ¬ (x = 2 ∨ x = 3 ∨ x = 4) := fun e => ho ((opens_iff x).2 e)
    rw [if_neg ho2]
    by_cases h5 : x = 5
    · rw [if_pos h5] at h1
      split at h1
      · exact absurd (show (3 : Int) = 0 from h1) (by decide)
      · split at h1
        · exact absurd (show (3 : Int) = 0 from h1) (by decide)
        · rw [if_neg (by omega)]
          exact .inr ⟨fun e => by omega, _, _, _, h1, h2⟩
    · rw [if_neg h5] at h1
      by_cases h11 : x = 11
      · rw [if_pos h11] at h1
        rw [if_pos h11]
        by_cases hop : op = []
        · rw [if_pos hop] at h1
          split at h1
          · exact absurd (show (3 : Int) = 0 from h1) (by decide)
          · rename_i hn
            refine .inl ⟨h11, by rw [h2, hop]; rfl, by omega⟩
        · rw [if_neg hop] at h1
          have hpos : 0 < op.length := List.length_pos_iff.2 hop
          exact .inr ⟨fun _ => by omega, _, _, _, h1, by rw [List.length_dropLast]; omega⟩
      · rw [if_neg h11] at h1
        rw [if_neg h11]
        exact .inr ⟨fun e => absurd e h11, _, _, _, h1, h2⟩
/-- a row of a kind that has no blocks of its own: its own block alone is looked at -/
theorem R_only {α : Type} {d : Kd α} {e : Nat} {w : World} {b : Nat} {ok : Nat → Prop} {v : Value} {xs : List α} (hd : ∀ {w : World} {b b2 : Nat} {o o2 : Nat → Prop} {x : α} {cs : List Value}, d.M w b o x cs → d.M w b2 o2 x cs) (h : d.R e w b ok v xs) : d.R e w b (fun k => v.ownBlock = some k) v xs := by
  obtain ⟨h0, inner, ho, hr⟩ := h
  exact ⟨fun k hk => hk, inner, ho, hr.imp_ (fun _ _ hp => hd hp)⟩
theorem fr_lit (w : World) (f : Fr) (n : Nat) (hn : n ≤ w.heap.size) : kFr.R 88 (w.alloc (.cells f.cells.toArray 88)) n (fun _ => True) (.slice (some ⟨w.heap.size, 0, none⟩) 1 1) [f] := by
  have h2 := World.ownsRow_lit (base := n) (e := 88) (size := 6) w f.cells.toArray 1 hn (by decide) rfl
  refine ⟨fun _ _ => trivial, f.cells, h2, rfl, fun j p hp => ?_⟩
  cases j with
  | zero =>
    cases hp
    exact kFr_M _ _ _ _
  | succ j => simp at hp
section
variable {w0 W W1 : World} {wr : Rf} {kb : Nat} {p : P13} {vs vf : Value} {s : Ck}
/-- what the caller stores in its own variables leaves the check standing -/
theorem Cs.mine (h : Cs w0 wr W kb p vs vf s) {S : Nat → Prop} (hc : Ch W W1 S) (hS : ∀ k, S k → (wr.Z k ∨ w0.heap.size ≤ k) ∧ k ≠ kb ∧ some k ≠ vs.ownBlock ∧ some k ≠ vf.ownBlock) : Cs w0 (wr.at W1 vs vf) W1 kb p vs vf s := by
  have hR : ∀ {α : Type} {d : Kd α} {e : Nat} {v : Value} {xs : List α}, (∀ {w : World} {b b2 : Nat} {o o2 : Nat → Prop} {x : α} {cs : List Value}, d.M w b o x cs → d.M w b2 o2 x cs) → (∀ k, S k → some k ≠ v.ownBlock) → d.R e W w0.heap.size (fun _ => True) v xs → d.R e W1 w0.heap.size (fun _ => True) v xs := by
    intro α d e v xs hd hv hh
    exact Kd.R_mono (Kd.R_step (R_only hd hh) (fun k hk hlt => hc.block k hlt (fun hk2 => hv k hk2 hk.symm))) (fun _ _ => trivial)
  refine ⟨h.ch.trans hc (fun j hj => ?_), h.klt, ?_, hR (fun h => h) (fun k hk => (hS k hk).2.2.1) h.st, hR (fun hh => by rw [kFr_open hh]; exact kFr_M _ _ _ _) (fun k hk => (hS k hk).2.2.2) h.fr, Rl.self _ _ _ _ _⟩
  · rcases (hS j hj).1 with h1 | h1
    · exact .inl (.inr h1)
    · exact .inr h1
  · have hb := h.box
    rw [← hb]
    exact hc.block kb (Nat.lt_of_lt_of_le h.klt h.size) (fun e => (hS kb e).2.1 rfl)
end
end Go.Proofs.YtjjhhmchomabeaaDoor.Valid
namespace Go.Proofs.YtjjhhmchomabeaaDoor.Valid
open Go.RowKit Go.Proofs.YtjjhhmchomabeaaDoorW.PrintWords Go.Proofs.YtjjhhmchomabeaaDoorW.PrintLast Go.Proofs.YtjjhhmchomabeaaDoor.Mem Go.Proofs.YtjjhhmchomabeaaDoor.Nest
set_option linter.unusedVariables false
set_option linter.unusedSimpArgs false

def oddT (t : Int) : Bool := !right t
def limM (M : Md) : Bool :=
  decide (M.sigs.length ≤ 16) && decide (M.imports.length ≤ 8) && decide (M.funcs.length ≤ 8) && decide (M.globals.length ≤ 8) && decide (M.data.length ≤ 8)
  && M.sigs.all (fun s => decide (s.1.length ≤ 4)) && M.funcs.all (fun f => decide (f.2.2.1.length ≤ 8) && decide (f.2.2.2.length ≤ 200))
  && (decide (M.m0 = 0) || decide (3 ≤ M.m0) && decide (M.m0 ≤ 12)) && (decide (M.m1 = 0) || decide (3 ≤ M.m1) && decide (M.m1 ≤ 12))
def sigB (s : Sg) : Bool := decide (s.2.length ≤ 1) && !s.1.any oddT && !s.2.any oddT
def funcB (f : Fn) : Bool := wordB f.1 && !f.2.2.1.any oddT && f.2.2.2.all rightX && closedB f.2.2.2
def globB (g : Int × Int) : Bool := !oddT g.1 && (wide g.1 || wordB g.2)
def dataB (d : Int × Int × ByteArray) : Bool := (decide (d.1 = 0) || decide (d.1 = 1)) && wordB d.2.1
def argM (M : Md) : Bool := M.sigs.all sigB && M.imports.all wordB && M.funcs.all funcB && M.globals.all globB && M.data.all dataB
def fitsM (M : Md) : Int := if limM M = true then (if argM M = true then 0 else 4) else 1
theorem any_odd {l : List Int} (h : l.any oddT = false) : ∀ t ∈ l, right t = true := by
  intro t ht
  have := List.any_eq_false.1 h t ht
  simpa [oddT] using this
theorem right_xok {x : T3} (hc : Can x.2.1) (h : rightX x = true) : XOk x := by
  unfold rightX at h
  split at h
  · cases h
  rename_i hk0
  simp only [Bool.and_eq_true, decide_eq_true_eq] at h
  obtain ⟨⟨⟨h1, h2⟩, h3⟩, h4⟩ := h
  refine ⟨hc, fun hx => ?_, fun hx => ?_, fun hx => ?_⟩
  · have hk : kindI x.1 = 3 := by rcases hx with e | e | e | e | e | e | e <;> (rw [e]; decide)
    rw [hk] at h1
    simpa [leastI] using h1
  · have hk : kindI x.1 = 4 := by rcases hx with e | e | e | e <;> (rw [e]; decide)
    rw [hk] at h4
    have : x.2.2 ≤ 1 := by simpa [mostM] using h4
    omega
  · have hk : kindI x.1 = 2 := by rcases hx with e | e | e <;> (rw [e]; decide)
    rw [hk] at h4
    exact ⟨h3, by simpa [mostM] using h4⟩
theorem limM_iff (M : Md) : limM M = true ↔ (M.sigs.length ≤ 16 ∧ M.imports.length ≤ 8 ∧ M.funcs.length ≤ 8 ∧ M.globals.length ≤ 8 ∧ M.data.length ≤ 8) ∧ (∀ s ∈ M.sigs, s.1.length ≤ 4) ∧ (∀ f ∈ M.funcs, f.2.2.1.length ≤ 8 ∧ f.2.2.2.length ≤ 200) ∧ (M.m0 = 0 ∨ 3 ≤ M.m0 ∧ M.m0 ≤ 12) ∧ (M.m1 = 0 ∨ 3 ≤ M.m1 ∧ M.m1 ≤ 12) := by
  unfold limM
  simp only [Bool.and_eq_true, Bool.or_eq_true, decide_eq_true_eq, List.all_eq_true]
  constructor
  · rintro ⟨⟨⟨⟨⟨⟨⟨⟨a, b⟩, c⟩, d⟩, e⟩, f⟩, g⟩, h⟩, i⟩
    exact ⟨⟨a, b, c, d, e⟩, f, g, h, i⟩
  · rintro ⟨⟨a, b, c, d, e⟩, f, g, h, i⟩
    exact ⟨⟨⟨⟨⟨⟨⟨⟨a, b⟩, c⟩, d⟩, e⟩, f⟩, g⟩, h⟩, i⟩
/-- what a module that fits has -/
structure Fit (M : Md) : Prop where
  lim : limM M = true
  arg : argM M = true
theorem fits_zero {M : Md} : fitsM M = 0 ↔ Fit M := by
  unfold fitsM
  constructor
  · intro h
    split at h
    · rename_i h1
      split at h
      · rename_i h2
        exact ⟨h1, h2⟩
      · cases h
    · cases h
  · intro h
    rw [if_pos h.lim, if_pos h.arg]
theorem Fit.argAll {M : Md} (F : Fit M) : (∀ s ∈ M.sigs, sigB s = true) ∧ (∀ k ∈ M.imports, wordB k = true) ∧ (∀ f ∈ M.funcs, funcB f = true) ∧ (∀ g ∈ M.globals, globB g = true) ∧ (∀ d ∈ M.data, dataB d = true) := by
  have h := F.arg
  unfold argM at h
  simp only [Bool.and_eq_true, List.all_eq_true] at h
  exact ⟨h.1.1.1.1, h.1.1.1.2, h.1.1.2, h.1.2, h.2⟩
theorem Fit.fine {M : Md} (F : Fit M) : MFine M := ⟨fun g hg => by
    have h := F.argAll.1 g hg
    unfold sigB at h
    simp only [Bool.and_eq_true, Bool.not_eq_true'] at h
    exact ⟨any_odd h.1.2, any_odd h.2⟩, fun g hg => by
    have h := F.argAll.2.2.2.1 g hg
    unfold globB at h
    simp only [Bool.and_eq_true] at h
    simpa [oddT] using h.1⟩
end Go.Proofs.YtjjhhmchomabeaaDoor.Valid
