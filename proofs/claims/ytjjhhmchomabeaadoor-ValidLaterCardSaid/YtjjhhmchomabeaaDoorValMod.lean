/- A module that is handed over: where its rows lie, and what is read there. -/
import Derived.Test.YtjjhhmchomabeaaDoorValSpec
import Derived.Deep.RegionLaw
namespace Go.Proofs.YtjjhhmchomabeaaDoor.Valid
open Go.RowKit Go.Proofs.YtjjhhmchomabeaaDoorW.PrintWords Go.Proofs.YtjjhhmchomabeaaDoorW.PrintLast Go.Proofs.YtjjhhmchomabeaaDoor.Mem Go.Proofs.YtjjhhmchomabeaaDoor.Nest
set_option linter.unusedVariables false
set_option linter.unusedSimpArgs false

theorem drew_below (w : World) : Below w.heap.size w w.drew := below_drew (Below.refl _ _)
theorem below_alloc {n : Nat} {w W : World} (h : Below n w W) (hn : n ≤ W.heap.size) (o : Obj) : Below n w (W.alloc o) := h.alloc hn o
abbrev Fr.cells (f : Fr) : List Value := [.int .i64 f.op, .int .i64 f.brings, .int .i64 f.high, .bool f.dead, .bool f.asleep, .bool f.other]
abbrev Fr.val (f : Fr) : Value := .agg #[.int .i64 f.op, .int .i64 f.brings, .int .i64 f.high, .bool f.dead, .bool f.asleep, .bool f.other]
def kFr : Kd Fr := Kd.iso (Kd.pair (Kd.int .i64) (Kd.pair (Kd.int .i64) (Kd.pair (Kd.int .i64) (Kd.pair Kd.bool (Kd.pair Kd.bool Kd.bool)))))
  (fun f : Fr => (f.op, f.brings, f.high, f.dead, f.asleep, f.other))
theorem kFr_open {w : World} {base : Nat} {ok : Nat → Prop} {f : Fr} {cs : List Value} (h : kFr.M w base ok f cs) : cs = f.cells := by
  obtain ⟨_, _, rfl, rfl, _, _, rfl, rfl, _, _, rfl, rfl, _, _, rfl, rfl, _, _, rfl, rfl, rfl⟩ := h
  rfl
theorem kFr_M (w : World) (base : Nat) (ok : Nat → Prop) (f : Fr) : kFr.M w base ok f f.cells :=
  ⟨[_], _, rfl, rfl, [_], _, rfl, rfl, [_], _, rfl, rfl, [_], _, rfl, rfl, [_], [_], rfl, rfl, rfl⟩
theorem infoInt : (Tryd.prog.info? 3).map (fun i => (i.zero, i.size, i.bytes)) = some (some (.int .i64 0), 1, 8) := by kernel_rfl
theorem infoFr : (Tryd.prog.info? 88).map (fun i => (i.zero, i.size, i.bytes)) = some (some zFr.val, 6, 32) := by kernel_rfl

/-- the first thirteen cells of a check: the module's, the function's, the locals, the result -/
structure P13 where
  a0 : Value
  a1 : Value
  a2 : Value
  a3 : Value
  a4 : Value
  a5 : Value
  a6 : Value
  a7 : Value
  a8 : Value
  a9 : Value
  a10 : Value
  a11 : Value
  a12 : Value
abbrev P13.arr (p : P13) (vs vf : Value) : Array Value := #[p.a0, p.a1, p.a2, p.a3, p.a4, p.a5, p.a6, p.a7, p.a8, p.a9, p.a10, p.a11, p.a12, vs, vf]
/-- all stays but rows of types, of blocks that are open, and the check -/
def Kp (W W1 : World) : Prop := ∀ (k : Nat) (cells : Array Value) (t : Nat), t ≠ 3 → t ≠ 88 → t ≠ 86 → W.heap[k]? = some (Obj.cells cells t (0, 0)) → W1.heap[k]? = some (Obj.cells cells t (0, 0))
theorem Kp.refl (W : World) : Kp W W := fun _ _ _ _ _ _ h => h
theorem Kp.trans {a b c : World} (h : Kp a b) (k : Kp b c) : Kp a c := fun _ _ _ h1 h2 h3 x => k _ _ _ h1 h2 h3 (h _ _ _ h1 h2 h3 x)
theorem Kp.of_below {a b : World} (h : Below a.heap.size a b) : Kp a b := fun _ _ _ _ _ _ x => blk_below x h
theorem Kp.grown {W W1 : World} {v : Value} {e : Nat} (hg : W.grownBy W1 v.ownBlock) (hty : ∀ k, v.ownBlock = some k → ∃ cells, W.heap[k]? = some (.cells cells e (0, 0))) (he : e = 3 ∨ e = 88) : Kp W W1 := by
  intro k cells t h1 h2 h3 hk
  refine blk_grown hk hg (fun e2 => ?_)
  obtain ⟨c2, hc⟩ := hty k e2.symm
  rw [hk] at hc
  injection hc with hc
  injection hc with _ hc
  subst hc
  rcases he with he | he
  · exact h1 he
  · exact h2 he
/-- what is asked to stay from a world on: which rows lay on the stack and in the blocks then; Z: the caller's own variables -/
structure Rf where
  w : World
  us : Option Nat
  uf : Option Nat
  Z : Nat → Prop
abbrev Rf.at (r : Rf) (W : World) (vs vf : Value) : Rf := ⟨W, vs.ownBlock, vf.ownBlock, r.Z⟩
structure Rl (r : Rf) (W : World) (kb : Nat) (vs vf : Value) : Prop where
  kp : Kp r.w W
  ch : Ch r.w W (fun k => k = kb ∨ some k = r.us ∨ some k = r.uf)
  os : vs.ownBlock = r.us ∨ ∀ k, vs.ownBlock = some k → r.w.heap.size ≤ k
  of : vf.ownBlock = r.uf ∨ ∀ k, vf.ownBlock = some k → r.w.heap.size ≤ k
/-- what holds where a rule was broken -/
def Bad (w0 : World) (wr : Rf) (kb : Nat) (W : World) : Prop := Ch w0 W (fun k => k = kb ∨ wr.Z k) ∧ Ch wr.w W (fun k => k = kb ∨ some k = wr.us ∨ some k = wr.uf)
section
variable {r : Rf} {W W1 : World} {kb : Nat} {vs vf : Value}
theorem Rl.below (h : Rl r W kb vs vf) (hb : Below W.heap.size W W1) : Rl r W1 kb vs vf := ⟨h.kp.trans (Kp.of_below hb), h.ch.then_below hb, h.os, h.of⟩
theorem Rl.self (r : Rf) (W : World) (kb : Nat) (vs vf : Value) : Rl (r.at W vs vf) W kb vs vf := ⟨Kp.refl _, Ch.refl _ _, .inl rfl, .inl rfl⟩
theorem Rl.ownS (h : Rl r W kb vs vf) : ∀ k, vs.ownBlock = some k → (k = kb ∨ some k = r.us ∨ some k = r.uf) ∨ r.w.heap.size ≤ k := fun k hk => by
  rcases h.os with h1 | h1
  · exact .inl (.inr (.inl (by rw [← h1, hk])))
  · exact .inr (h1 k hk)
theorem Rl.ownF (h : Rl r W kb vs vf) : ∀ k, vf.ownBlock = some k → (k = kb ∨ some k = r.us ∨ some k = r.uf) ∨ r.w.heap.size ≤ k := fun k hk => by
  rcases h.of with h1 | h1
  · exact .inl (.inr (.inr (by rw [← h1, hk])))
  · exact .inr (h1 k hk)
theorem Rl.trans {W0 : World} {vs0 vf0 : Value} (h : Rl r W0 kb vs0 vf0) (k : Rl (r.at W0 vs0 vf0) W kb vs vf) : Rl r W kb vs vf := by
  have hsz : r.w.heap.size ≤ W0.heap.size := h.ch.size
  refine ⟨h.kp.trans k.kp, h.ch.trans k.ch (fun j hj => ?_), ?_, ?_⟩
  · rcases hj with hj | hj | hj
    · exact .inl (.inl hj)
    · exact h.ownS j hj.symm
    · exact h.ownF j hj.symm
  · rcases k.os with h1 | h1
    · rcases h.os with h2 | h2
      · exact .inl (h1.trans h2)
      · exact .inr (fun j hj => h2 j (h1.symm.trans hj))
    · exact .inr (fun j hj => Nat.le_trans hsz (h1 j hj))
  · rcases k.of with h1 | h1
    · rcases h.of with h2 | h2
      · exact .inl (h1.trans h2)
      · exact .inr (fun j hj => h2 j (h1.symm.trans hj))
    · exact .inr (fun j hj => Nat.le_trans hsz (h1 j hj))
theorem Rl.set (h : Rl r W kb vs vf) {j : Nat} {u : Value} (hbox : ∀ (k : Nat) (cells : Array Value) (t : Nat), t ≠ 86 → W.heap[k]? = some (Obj.cells cells t (0, 0)) → (W.setCell ⟨kb, j, none⟩ u).heap[k]? = some (Obj.cells cells t (0, 0))) : Rl r (W.setCell ⟨kb, j, none⟩ u) kb vs vf :=
  ⟨h.kp.trans (fun k cells t _ _ h3 hk => hbox k cells t h3 hk), h.ch.trans (S2 := fun k => k = kb) ⟨rfl, rfl, rfl, by simp, fun i hi hn => Below.heap_setCell W ⟨kb, j, none⟩ u i hn⟩ (fun i hi => .inl (.inl hi)), h.os, h.of⟩
theorem Rl.growS (h : Rl r W kb vs vf) {v1 : Value} (hg : W.grownBy W1 vs.ownBlock) (hty : ∀ k, vs.ownBlock = some k → ∃ cells, W.heap[k]? = some (.cells cells 3 (0, 0))) (hat : v1.ownBlock = vs.ownBlock ∨ ∃ b, v1.ownBlock = some b ∧ W.heap.size ≤ b) : Rl r W1 kb v1 vf := by
  refine ⟨h.kp.trans (Kp.grown hg hty (.inl rfl)), h.ch.grown hg h.ownS, ?_, h.of⟩
  rcases hat with h1 | ⟨b, h1, h2⟩
  · rcases h.os with h3 | h3
    · exact .inl (h1.trans h3)
    · exact .inr (fun k hk => h3 k (h1.symm.trans hk))
  · refine .inr (fun k hk => ?_)
    rw [h1] at hk
    injection hk with hk
    have := h.ch.size
    omega
theorem Rl.growF (h : Rl r W kb vs vf) {v1 : Value} (hg : W.grownBy W1 vf.ownBlock) (hty : ∀ k, vf.ownBlock = some k → ∃ cells, W.heap[k]? = some (.cells cells 88 (0, 0))) (hat : v1.ownBlock = vf.ownBlock ∨ ∃ b, v1.ownBlock = some b ∧ W.heap.size ≤ b) : Rl r W1 kb vs v1 := by
  refine ⟨h.kp.trans (Kp.grown hg hty (.inr rfl)), h.ch.grown hg h.ownF, h.os, ?_⟩
  rcases hat with h1 | ⟨b, h1, h2⟩
  · rcases h.of with h3 | h3
    · exact .inl (h1.trans h3)
    · exact .inr (fun k hk => h3 k (h1.symm.trans hk))
  · refine .inr (fun k hk => ?_)
    rw [h1] at hk
    injection hk with hk
    have := h.ch.size
    omega
end
/-- a function on its way: the check lies in block kb; w0: how the world was when the way began -/
structure Cs (w0 : World) (wr : Rf) (W : World) (kb : Nat) (p : P13) (vs vf : Value) (s : Ck) : Prop where
  ch : Ch w0 W (fun k => k = kb ∨ wr.Z k)
  klt : kb < w0.heap.size
  box : W.heap[kb]? = some (.cells (p.arr vs vf) 86 (0, 0))
  st : (Kd.int .i64).R 3 W w0.heap.size (fun _ => True) vs s.st
  fr : kFr.R 88 W w0.heap.size (fun _ => True) vf s.fr
  kp : Rl wr W kb vs vf
/-- how high the blocks stand -/
structure Wf (s : Ck) : Prop where
  pos : 0 < s.fr.length
  up : ∀ i j, i ≤ j → j < s.fr.length → 0 ≤ (s.fr.getD i zFr).high ∧ (s.fr.getD i zFr).high ≤ (s.fr.getD j zFr).high
  low : s.top.high ≤ s.st.length
  few : s.st.length ≤ 16
  ty : ∀ t ∈ s.st, -1 ≤ t ∧ t ≤ 3
  br : ∀ f ∈ s.fr, -1 ≤ f.brings ∧ f.brings ≤ 3
theorem Wf.nn {s : Ck} (h : Wf s) : 0 ≤ s.top.high := (h.up (s.fr.length - 1) (s.fr.length - 1) (Nat.le_refl _) (by have := h.pos; omega)).1
section
variable {w0 W W1 : World} {wr : Rf} {kb : Nat} {p : P13} {vs vf : Value} {s : Ck}
theorem Cs.below (h : Cs w0 wr W kb p vs vf s) (hb : Below W.heap.size W W1) : Cs w0 wr W1 kb p vs vf s :=
  ⟨h.ch.then_below hb, h.klt, blk_below h.box hb, Kd.R_below h.st hb, Kd.R_below h.fr hb, h.kp.below hb⟩
theorem Cs.drew (h : Cs w0 wr W kb p vs vf s) : Cs w0 wr W.drew kb p vs vf s := h.below (drew_below _)
theorem Cs.alloc (h : Cs w0 wr W kb p vs vf s) (o : Obj) : Cs w0 wr (W.alloc o) kb p vs vf s := h.below (below_alloc (Below.refl _ _) (Nat.le_refl _) o)
/-- from here on it is asked what stays -/
theorem Cs.rebase (h : Cs w0 wr W kb p vs vf s) : Cs w0 (wr.at W vs vf) W kb p vs vf s := ⟨h.ch, h.klt, h.box, h.st, h.fr, Rl.self _ _ _ _ _⟩
theorem Cs.back {W0 : World} {vs0 vf0 : Value} (h : Cs w0 (wr.at W0 vs0 vf0) W kb p vs vf s) (k : Rl wr W0 kb vs0 vf0) : Cs w0 wr W kb p vs vf s := ⟨h.ch, h.klt, h.box, h.st, h.fr, k.trans h.kp⟩
theorem Bad.back {W0 : World} {vs0 vf0 : Value} (h : Bad w0 (wr.at W0 vs0 vf0) kb W) (k : Rl wr W0 kb vs0 vf0) : Bad w0 wr kb W := ⟨h.1, k.ch.trans h.2 (fun j hj => by
  rcases hj with hj | hj | hj
  · exact .inl (.inl hj)
  · exact k.ownS j hj.symm
  · exact k.ownF j hj.symm)⟩
theorem Cs.bad (h : Cs w0 wr W kb p vs vf s) : Bad w0 wr kb W := ⟨h.ch, h.kp.ch⟩
theorem Cs.size (h : Cs w0 wr W kb p vs vf s) : w0.heap.size ≤ W.heap.size := h.ch.size
/-- another row on the stack, in the variable -/
theorem Cs.putSt (h : Cs w0 wr W kb p vs vf s) {v1 : Value} {st1 : List Int} (hg : W.grownBy W1 vs.ownBlock) (hat : v1.ownBlock = vs.ownBlock ∨ ∃ b, v1.ownBlock = some b ∧ W.heap.size ≤ b) (hr : (Kd.int .i64).R 3 W1 w0.heap.size (fun _ => True) v1 st1) : Cs w0 wr (W1.setCell ⟨kb, 13, none⟩ v1) kb p v1 vf ⟨st1, s.fr⟩ := by
  have hb : ∀ k, vs.ownBlock = some k → w0.heap.size ≤ k := fun k hk => Kd.R_base h.st k hk
  have hnb : some kb ≠ vs.ownBlock := fun e => by have := hb kb e.symm; have := h.klt; omega
  have ho := blk_grown h.box hg hnb
  have hR : ∀ {α : Type} {d : Kd α} {e : Nat} {v : Value} {xs : List α}, d.R e W1 w0.heap.size (fun _ => True) v xs → d.R e (W1.setCell ⟨kb, 13, none⟩ v1) w0.heap.size (fun _ => True) v xs := by
    intro α d e v xs hh
    refine Kd.R_mono (Kd.R_far (Kd.R_bound hh) (fun k hk => ?_) v1) (fun _ _ => trivial)
    have := hk.2.1
    have := h.klt
    show k ≠ kb
    omega
  have hbox : ∀ (k : Nat) (cells : Array Value) (t : Nat), t ≠ 86 → W1.heap[k]? = some (Obj.cells cells t (0, 0)) → (W1.setCell ⟨kb, 13, none⟩ v1).heap[k]? = some (Obj.cells cells t (0, 0)) := by
    intro k cells t ht hk
    refine blk_far hk (fun e => ?_) _
    have e : k = kb := e
    subst e
    rw [ho] at hk
    injection hk with hk
    injection hk with _ hk
    exact ht hk.symm
  refine ⟨?_, h.klt, by simpa using blk_set ho 13 v1, hR hr, hR (Kd.R_over' h.fr (Kd.R_typed h.st) (by decide) hg), (h.kp.growS hg (Kd.R_typed h.st) hat).set hbox⟩
  exact (h.ch.grown hg (fun k hk => .inr (hb k hk))).trans (S2 := fun k => k = kb) (by
    refine ⟨rfl, rfl, rfl, ?_, ?_⟩
    · simp
    · intro i hi hn
      exact Below.heap_setCell W1 ⟨kb, 13, none⟩ v1 i hn) (fun j hj => .inl (.inl hj))
/-- other blocks open, in the variable -/
theorem Cs.putFr (h : Cs w0 wr W kb p vs vf s) {v1 : Value} {fr1 : List Fr} (hg : W.grownBy W1 vf.ownBlock) (hat : v1.ownBlock = vf.ownBlock ∨ ∃ b, v1.ownBlock = some b ∧ W.heap.size ≤ b) (hr : kFr.R 88 W1 w0.heap.size (fun _ => True) v1 fr1) : Cs w0 wr (W1.setCell ⟨kb, 14, none⟩ v1) kb p vs v1 ⟨s.st, fr1⟩ := by
  have hb : ∀ k, vf.ownBlock = some k → w0.heap.size ≤ k := fun k hk => Kd.R_base h.fr k hk
  have hnb : some kb ≠ vf.ownBlock := fun e => by have := hb kb e.symm; have := h.klt; omega
  have ho := blk_grown h.box hg hnb
  have hR : ∀ {α : Type} {d : Kd α} {e : Nat} {v : Value} {xs : List α}, d.R e W1 w0.heap.size (fun _ => True) v xs → d.R e (W1.setCell ⟨kb, 14, none⟩ v1) w0.heap.size (fun _ => True) v xs := by
    intro α d e v xs hh
    refine Kd.R_mono (Kd.R_far (Kd.R_bound hh) (fun k hk => ?_) v1) (fun _ _ => trivial)
    have := hk.2.1
    have := h.klt
    show k ≠ kb
    omega
  have hbox : ∀ (k : Nat) (cells : Array Value) (t : Nat), t ≠ 86 → W1.heap[k]? = some (Obj.cells cells t (0, 0)) → (W1.setCell ⟨kb, 14, none⟩ v1).heap[k]? = some (Obj.cells cells t (0, 0)) := by
    intro k cells t ht hk
    refine blk_far hk (fun e => ?_) _
    have e : k = kb := e
    subst e
    rw [ho] at hk
    injection hk with hk
    injection hk with _ hk
    exact ht hk.symm
  refine ⟨?_, h.klt, by simpa using blk_set ho 14 v1, hR (Kd.R_over' h.st (Kd.R_typed h.fr) (by decide) hg), hR hr, (h.kp.growF hg (Kd.R_typed h.fr) hat).set hbox⟩
  exact (h.ch.grown hg (fun k hk => .inr (hb k hk))).trans (S2 := fun k => k = kb) (by
    refine ⟨rfl, rfl, rfl, ?_, ?_⟩
    · simp
    · intro i hi hn
      exact Below.heap_setCell W1 ⟨kb, 14, none⟩ v1 i hn) (fun j hj => .inl (.inl hj))
/-- a row in the variable alone is another one: what it shows of the same block -/
theorem Cs.cutSt (h : Cs w0 wr W kb p vs vf s) {v1 : Value} {st1 : List Int} (hr : (Kd.int .i64).R 3 W w0.heap.size (fun _ => True) v1 st1) (he : v1.ownBlock = vs.ownBlock) : Cs w0 wr (W.setCell ⟨kb, 13, none⟩ v1) kb p v1 vf ⟨st1, s.fr⟩ :=
  h.putSt (World.grownBy.refl _ _) (.inl he) hr
theorem Cs.cutFr (h : Cs w0 wr W kb p vs vf s) {v1 : Value} {fr1 : List Fr} (hr : kFr.R 88 W w0.heap.size (fun _ => True) v1 fr1) (he : v1.ownBlock = vf.ownBlock) : Cs w0 wr (W.setCell ⟨kb, 14, none⟩ v1) kb p vs v1 ⟨s.st, fr1⟩ :=
  h.putFr (World.grownBy.refl _ _) (.inl he) hr
/-- the cells of the block number i that is open -/
structure FrAt (W : World) (g q : Nat) (f : Fr) : Prop where
  c0 : W.cell? ⟨g, q, none⟩ = some (.int .i64 f.op)
  c1 : W.cell? ⟨g, q + 1, none⟩ = some (.int .i64 f.brings)
  c2 : W.cell? ⟨g, q + 2, none⟩ = some (.int .i64 f.high)
  c3 : W.cell? ⟨g, q + 3, none⟩ = some (.bool f.dead)
  c4 : W.cell? ⟨g, q + 4, none⟩ = some (.bool f.asleep)
  c5 : W.cell? ⟨g, q + 5, none⟩ = some (.bool f.other)
  z : ∀ j, W.frozen? ⟨g, q + j, none⟩ = false
theorem Cs.frAt {g cap n : Nat} (h : Cs w0 wr W kb p vs (.slice (some ⟨g, 0, none⟩) n cap) s) (i : Nat) (hi : i < s.fr.length) : FrAt W g (i * 6) (s.fr.getD i zFr) := by
  obtain ⟨rfl, _, _⟩ := Kd.R_reads' h.fr
  obtain ⟨ce, hcl, hM, hcc, hfr⟩ := Kd.R_elem h.fr zFr (i : Int) (by omega) (by omega)
  obtain rfl := kFr_open hM
  exact ⟨hcc 0 _ rfl, hcc 1 _ rfl, hcc 2 _ rfl, hcc 3 _ rfl, hcc 4 _ rfl, hcc 5 _ rfl, fun j => hfr j⟩
theorem Cs.stAt {g cap n : Nat} (h : Cs w0 wr W kb p (.slice (some ⟨g, 0, none⟩) n cap) vf s) (i : Nat) (hi : i < s.st.length) : W.cell? ⟨g, i, none⟩ = some (.int .i64 (s.st.getD i 0)) ∧ n ≤ cap := by
  obtain ⟨rfl, hc, _⟩ := Kd.R_reads' h.st
  exact ⟨(Kd.R_cell (0 : Int) h.st (i : Int) (by omega) (by omega)).1, hc⟩
theorem Cs.form (h : Cs w0 wr W kb p vs vf s) (hp : 0 < s.fr.length) : ∃ g cap, vf = .slice (some ⟨g, 0, none⟩) s.fr.length cap ∧ w0.heap.size ≤ g ∧ g < W.heap.size := by
  obtain ⟨g, cap, e, hgb, hgs, _⟩ := Kd.R_form h.fr hp
  exact ⟨g, cap, e, hgb, hgs⟩
theorem Cs.flen (h : Cs w0 wr W kb p vs vf s) : s.fr.length ≤ 9223372036854775807 := by
  obtain ⟨A, c, _, _, hC⟩ := Kd.R_reads h.fr
  exact hC.2.1
theorem Cs.slen (h : Cs w0 wr W kb p vs vf s) : s.st.length ≤ 9223372036854775807 := by
  obtain ⟨A, c, _, _, hC⟩ := Kd.R_reads h.st
  exact hC.2.1
end
def brk (q : Int) : List PanicEntry := [{ v := .iface 78 (.int .i64 q), recovered := false }]
theorem must_yes (w : World) : Calls Tryd.prog 54 #[.bool true] w fun e w' => e = .returned (.tuple #[]) ∧ w = w' := by
  go_enter Tryd.func54, Tryd.ntmps54
  go_wp2_with fail
  go_end0
  exact ⟨rfl, rfl⟩
theorem must_no (w : World) : Calls Tryd.prog 54 #[.bool false] w fun e w' => e = .panicked (brk 3) ∧ w = w' := by
  go_enter Tryd.func54, Tryd.ntmps54
  go_wp2_with fail
  exact ⟨rfl, rfl, rfl⟩
end Go.Proofs.YtjjhhmchomabeaaDoor.Valid
namespace Go.Proofs.YtjjhhmchomabeaaDoor.Valid
open Go.RowKit Go.Proofs.YtjjhhmchomabeaaDoorW.PrintWords Go.Proofs.YtjjhhmchomabeaaDoorW.PrintLast Go.Proofs.YtjjhhmchomabeaaDoor.Mem Go.Proofs.YtjjhhmchomabeaaDoor.Nest
set_option linter.unusedVariables false
set_option linter.unusedSimpArgs false

abbrev Ty (t : Int) : Prop := -1 ≤ t ∧ t ≤ 3
theorem Wf.of_st {s : Ck} (h : Wf s) (st : List Int) (hl : s.top.high ≤ st.length) (hf : st.length ≤ 16) (ht : ∀ t ∈ st, Ty t) : Wf ⟨st, s.fr⟩ :=
  ⟨h.pos, h.up, hl, hf, ht, h.br⟩
theorem Wf.top_mem {s : Ck} (h : Wf s) : s.top ∈ s.fr := by
  have := h.pos
  unfold Ck.top
  rw [List.getD_eq_getElem?_getD, List.getElem?_eq_getElem (by omega)]
  exact List.getElem_mem _
theorem push_wf {s s1 : Ck} {t : Int} (h : Wf s) (ht : Ty t) (hp : push t s = .ok s1) : Wf s1 ∧ s1.fr = s.fr := by
  unfold push at hp
  split at hp
  · cases hp
  · cases hp
    have := h.low
    refine ⟨h.of_st _ (by simp; omega) (by simp; omega) (fun u hu => ?_), rfl⟩
    rcases List.mem_append.1 hu with hu | hu
    · exact h.ty u hu
    · rw [List.mem_singleton.1 hu]; exact ht
theorem pop_wf {s s1 : Ck} {t : Int} (h : Wf s) (hp : pop s = .ok (t, s1)) : Wf s1 ∧ s1.fr = s.fr ∧ Ty t := by
  unfold pop at hp
  split at hp
  · split at hp
    · cases hp
      exact ⟨h, rfl, by decide, by decide⟩
    · cases hp
  · rename_i hne
    cases hp
    have hl := h.low
    have hn := h.nn
    have hf := h.few
    refine ⟨h.of_st _ (by rw [List.length_take]; omega) (by rw [List.length_take]; omega) (fun u hu => h.ty u (List.mem_of_mem_take hu)), rfl, ?_⟩
    refine h.ty _ ?_
    rw [List.getD_eq_getElem?_getD, List.getElem?_eq_getElem (by omega)]
    exact List.getElem_mem _
theorem want_wf {s s1 : Ck} {u : Int} (h : Wf s) (hp : want u s = .ok s1) : Wf s1 ∧ s1.fr = s.fr := by
  unfold want at hp
  split at hp
  · cases hp
  · rename_i t s' hq
    split at hp
    · cases hp
      exact ⟨(pop_wf h hq).1, (pop_wf h hq).2.1⟩
    · cases hp
theorem take_wf {s s1 : Ck} {u : Int} (h : Wf s) (hp : take u s = .ok s1) : Wf s1 ∧ s1.fr = s.fr := by
  unfold take at hp
  split at hp
  · cases hp; exact ⟨h, rfl⟩
  · exact want_wf h hp
theorem give_wf {s s1 : Ck} {u : Int} (h : Wf s) (hu : Ty u) (hp : give u s = .ok s1) : Wf s1 ∧ s1.fr = s.fr := by
  unfold give at hp
  split at hp
  · cases hp; exact ⟨h, rfl⟩
  · exact push_wf h hu hp
theorem getD_set {α : Type} (z x : α) (l : List α) (i j : Nat) (hi : i < l.length) : (l.set i x).getD j z = if j = i then x else l.getD j z := by
  rw [List.getD_eq_getElem?_getD, List.getD_eq_getElem?_getD, List.getElem?_set]
  by_cases h : i = j
  · subst h
    rw [if_pos rfl, if_pos hi, if_pos rfl]
    rfl
  · rw [if_neg h, if_neg (fun k => h k.symm)]
/-- the last block's marks turn -/
theorem Wf.setTop {s : Ck} (h : Wf s) (f : Fr) (hh : f.high = s.top.high) (hb : f.brings = s.top.brings) : Wf (s.setTop f) := by
  have hp := h.pos
  have hg : ∀ i, ((s.fr.set (s.fr.length - 1) f).getD i zFr).high = (s.fr.getD i zFr).high := by
    intro i
    rw [getD_set _ _ _ _ _ (by omega)]
    split
    · rename_i e; subst e; exact hh
    · rfl
  have hl : (s.setTop f).fr.length = s.fr.length := List.length_set
  refine ⟨by rw [hl]; exact hp, fun i j hij hj => ?_, ?_, h.few, h.ty, fun g hg2 => ?_⟩
  · rw [hl] at hj
    have := h.up i j hij hj
    show 0 ≤ ((s.fr.set (s.fr.length - 1) f).getD i zFr).high ∧ ((s.fr.set (s.fr.length - 1) f).getD i zFr).high ≤ ((s.fr.set (s.fr.length - 1) f).getD j zFr).high
    rw [hg, hg]
    exact this
  · show ((s.setTop f).fr.getD ((s.setTop f).fr.length - 1) zFr).high ≤ _
    rw [hl]
    show ((s.fr.set (s.fr.length - 1) f).getD (s.fr.length - 1) zFr).high ≤ _
    rw [hg]
    exact h.low
  · rcases List.mem_or_eq_of_mem_set hg2 with h1 | h1
    · exact h.br g h1
    · rw [h1, hb]; exact h.br _ h.top_mem
theorem setTop_top {s : Ck} (h : 0 < s.fr.length) (f : Fr) : (s.setTop f).top = f := by
  show ((s.fr.set (s.fr.length - 1) f).getD ((s.fr.set (s.fr.length - 1) f).length - 1) zFr) = f
  rw [List.length_set, getD_set _ _ _ _ _ (by omega), if_pos rfl]
theorem die_wf {s : Ck} (h : Wf s) : Wf (die s) := by
  have h1 := h.setTop { s.top with dead := true } rfl rfl
  have hl := h.low
  have hn := h.nn
  have hf := h.few
  refine h1.of_st (s.st.take s.top.high.toNat) ?_ (by rw [List.length_take]; omega) (fun u hu => h.ty u (List.mem_of_mem_take hu))
  rw [setTop_top h.pos, List.length_take]
  show s.top.high ≤ _
  omega
theorem close_wf {s s1 : Ck} (h : Wf s) (hp : close s = .ok s1) : Wf s1 ∧ s1.fr = s.fr ∧ (s1.st.length : Int) = s1.top.high := by
  unfold close at hp
  split at hp
  · cases hp
  · rename_i s' hq
    split at hp
    · rename_i he
      cases hp
      exact ⟨(take_wf h hq).1, (take_wf h hq).2, he⟩
    · cases hp
theorem taken_ty {s : Ck} {d t : Int} (h : Wf s) (hd : 0 ≤ d) (hp : taken d s = .ok t) : Ty t := by
  unfold taken at hp
  split at hp
  · rename_i hl
    split at hp
    · cases hp; exact ⟨by decide, by decide⟩
    · cases hp
      refine h.br _ ?_
      rw [List.getD_eq_getElem?_getD, List.getElem?_eq_getElem (by omega)]
      exact List.getElem_mem _
  · cases hp
theorem open_wf {s : Ck} (h : Wf s) (x : T3) (hm : 0 ≤ x.2.2 ∧ x.2.2 ≤ 4) : Wf (openT x s) := by
  have hp := h.pos
  have hlast : ∀ f : Fr, (s.fr ++ [f]).getD s.fr.length zFr = f := fun f => by simp [List.getD_eq_getElem?_getD]
  have hold : ∀ (f : Fr) (i : Nat), i < s.fr.length → (s.fr ++ [f]).getD i zFr = s.fr.getD i zFr := fun f i hi => by
    rw [List.getD_eq_getElem?_getD, List.getD_eq_getElem?_getD, List.getElem?_append_left hi]
  have hup : ∀ i, i < s.fr.length → 0 ≤ (s.fr.getD i zFr).high ∧ (s.fr.getD i zFr).high ≤ s.st.length := fun i hi => by
    have h1 := h.up i (s.fr.length - 1) (by omega) (by omega)
    have h2 := h.low
    have h3 : s.top = s.fr.getD (s.fr.length - 1) zFr := rfl
    rw [h3] at h2
    omega
  unfold openT
  refine ⟨by simp, fun i j hij hj => ?_, ?_, h.few, h.ty, fun g hg => ?_⟩
  · simp only [List.length_append, List.length_cons, List.length_nil, Nat.zero_add] at hj
    by_cases hj2 : j < s.fr.length
    · rw [hold _ _ hj2, hold _ _ (by omega)]
      exact h.up i j hij hj2
    · have : j = s.fr.length := by omega
      subst this
      rw [hlast]
      by_cases hi2 : i < s.fr.length
      · rw [hold _ _ hi2]
        exact hup i hi2
      · have : i = s.fr.length := by omega
        subst this
        rw [hlast]
        exact ⟨by show 0 ≤ (s.st.length : Int); omega, Int.le_refl _⟩
  · show ((s.fr ++ [_]).getD ((s.fr ++ [_]).length - 1) zFr).high ≤ _
    rw [List.length_append, List.length_cons, List.length_nil, Nat.zero_add, Nat.add_sub_cancel, hlast]
    exact Int.le_refl _
  · rcases List.mem_append.1 hg with hg | hg
    · exact h.br g hg
    · rw [List.mem_singleton.1 hg]
      exact ⟨by show -1 ≤ x.2.2 - 1; omega, by show x.2.2 - 1 ≤ 3; omega⟩
end Go.Proofs.YtjjhhmchomabeaaDoor.Valid
namespace Go.Proofs.YtjjhhmchomabeaaDoor.Valid
open Go.RowKit Go.Proofs.YtjjhhmchomabeaaDoorW.PrintWords Go.Proofs.YtjjhhmchomabeaaDoorW.PrintLast Go.Proofs.YtjjhhmchomabeaaDoor.Mem Go.Proofs.YtjjhhmchomabeaaDoor.Nest
set_option linter.unusedVariables false
set_option linter.unusedSimpArgs false

abbrev kSig : Kd Sg := Kd.pair (Kd.slice 3 (Kd.int .i64)) (Kd.slice 3 (Kd.int .i64))
abbrev kInstr : Kd T3 := Kd.pair (Kd.int .i64) (Kd.pair (Kd.int .i64) (Kd.int .i64))
abbrev kFunc : Kd Fn := Kd.pair (Kd.int .i64) (Kd.pair Kd.bool (Kd.pair (Kd.slice 3 (Kd.int .i64)) (Kd.slice 45 kInstr)))
abbrev kGlobal : Kd (Int × Int) := Kd.pair (Kd.int .i64) (Kd.int .i64)
abbrev kData : Kd (Int × Int × ByteArray) := Kd.pair (Kd.int .i64) (Kd.pair (Kd.int .i64) Kd.string)
/-- where a module's rows lie -/
structure Hd where
  a1 : Option Addr
  a2 : Option Addr
  a3 : Option Addr
  a4 : Option Addr
  a5 : Option Addr
  c1 : Nat
  c2 : Nat
  c3 : Nat
  c4 : Nat
  c5 : Nat
abbrev Md.cells (M : Md) (h : Hd) : Array Value := #[.slice h.a1 M.sigs.length h.c1, .slice h.a2 M.imports.length h.c2, .slice h.a3 M.funcs.length h.c3, .int .i64 M.m0, .int .i64 M.m1, .slice h.a4 M.globals.length h.c4, .slice h.a5 M.data.length h.c5]
structure ModAt (w : World) (h : Hd) (M : Md) : Prop where
  sigs : kSig.C w h.a1 M.sigs.length M.sigs
  imports : (Kd.int .i64).C w h.a2 M.imports.length M.imports
  funcs : kFunc.C w h.a3 M.funcs.length M.funcs
  globals : kGlobal.C w h.a4 M.globals.length M.globals
  data : kData.C w h.a5 M.data.length M.data
  l1 : M.sigs.length ≤ h.c1
  l2 : M.imports.length ≤ h.c2
  l3 : M.funcs.length ≤ h.c3
  l4 : M.globals.length ≤ h.c4
  l5 : M.data.length ≤ h.c5
theorem ModAt.below {w W : World} {h : Hd} {M : Md} (H : ModAt w h M) (hb : Below w.heap.size w W) : ModAt W h M :=
  ⟨Kd.C_below H.sigs hb, Kd.C_below H.imports hb, Kd.C_below H.funcs hb, Kd.C_below H.globals hb, Kd.C_below H.data hb, H.l1, H.l2, H.l3, H.l4, H.l5⟩
section
variable {w : World} {A : Option Addr}
/-- a row within a row's cell -/
theorem slice_open {α : Type} {e : Nat} {d : Kd α} {xs : List α} {cs : List Value} (h : (Kd.slice e d).K w xs cs) : ∃ B c, cs = [.slice B xs.length c] ∧ xs.length ≤ c ∧ d.C w B xs.length xs := by
  obtain ⟨B, c, e1, h1, h2⟩ := h
  exact ⟨B, c, e1, h1, h2⟩
theorem at_sig {n : Nat} {xs : List Sg} (h : kSig.C w A n xs) (i : Nat) (hi : i < n) :
    ∃ ad B1 k1 B2 k2, A = some ad ∧ w.cell? (ad.add (i * 2)) = some (.slice B1 (xs.getD i zS).1.length k1) ∧ w.cell? ⟨(ad.add (i * 2)).block, (ad.add (i * 2)).off + 1, none⟩ = some (.slice B2 (xs.getD i zS).2.length k2)
      ∧ (xs.getD i zS).1.length ≤ k1 ∧ (xs.getD i zS).2.length ≤ k2 ∧ (Kd.int .i64).C w B1 (xs.getD i zS).1.length (xs.getD i zS).1 ∧ (Kd.int .i64).C w B2 (xs.getD i zS).2.length (xs.getD i zS).2 := by
  obtain ⟨ad, c, e, _, hK, hc0⟩ := Kd.C_get h zS (i : Int) (by omega) (by omega)
  rw [Int.toNat_natCast] at hK hc0
  have hc : ∀ j u, c[j]? = some u → w.cell? (ad.add (i * 2 + j)) = some u := hc0
  obtain ⟨_, _, rfl, h1, h2⟩ := hK
  obtain ⟨B1, k1, rfl, hl1, hC1⟩ := slice_open h1
  obtain ⟨B2, k2, rfl, hl2, hC2⟩ := slice_open h2
  exact ⟨ad, B1, k1, B2, k2, e, hc 0 _ rfl, by rw [← add_field _ _ 1 (by omega)]; exact hc 1 _ rfl, hl1, hl2, hC1, hC2⟩
theorem at_func {n : Nat} {xs : List Fn} (h : kFunc.C w A n xs) (i : Nat) (hi : i < n) :
    ∃ ad B1 k1 B2 k2, A = some ad ∧ w.cell? (ad.add (i * 4)) = some (.int .i64 (xs.getD i zF).1) ∧ w.cell? ⟨(ad.add (i * 4)).block, (ad.add (i * 4)).off + 1, none⟩ = some (.bool (xs.getD i zF).2.1)
      ∧ w.cell? ⟨(ad.add (i * 4)).block, (ad.add (i * 4)).off + 2, none⟩ = some (.slice B1 (xs.getD i zF).2.2.1.length k1) ∧ w.cell? ⟨(ad.add (i * 4)).block, (ad.add (i * 4)).off + 3, none⟩ = some (.slice B2 (xs.getD i zF).2.2.2.length k2)
      ∧ (xs.getD i zF).2.2.1.length ≤ k1 ∧ (xs.getD i zF).2.2.2.length ≤ k2 ∧ (Kd.int .i64).C w B1 (xs.getD i zF).2.2.1.length (xs.getD i zF).2.2.1 ∧ kInstr.C w B2 (xs.getD i zF).2.2.2.length (xs.getD i zF).2.2.2 := by
  obtain ⟨ad, c, e, _, hK, hc0⟩ := Kd.C_get h zF (i : Int) (by omega) (by omega)
  rw [Int.toNat_natCast] at hK hc0
  have hc : ∀ j u, c[j]? = some u → w.cell? (ad.add (i * 4 + j)) = some u := hc0
  obtain ⟨_, _, rfl, rfl, _, _, rfl, rfl, _, _, rfl, h1, h2⟩ := hK
  obtain ⟨B1, k1, rfl, hl1, hC1⟩ := slice_open h1
  obtain ⟨B2, k2, rfl, hl2, hC2⟩ := slice_open h2
  exact ⟨ad, B1, k1, B2, k2, e, hc 0 _ rfl, by rw [← add_field _ _ 1 (by omega)]; exact hc 1 _ rfl, by rw [← add_field _ _ 2 (by omega)]; exact hc 2 _ rfl, by rw [← add_field _ _ 3 (by omega)]; exact hc 3 _ rfl, hl1, hl2, hC1, hC2⟩
theorem at_global {n : Nat} {xs : List (Int × Int)} (h : kGlobal.C w A n xs) (i : Nat) (hi : i < n) :
    ∃ ad, A = some ad ∧ w.cell? (ad.add (i * 2)) = some (.int .i64 (xs.getD i (0, 0)).1) ∧ w.cell? ⟨(ad.add (i * 2)).block, (ad.add (i * 2)).off + 1, none⟩ = some (.int .i64 (xs.getD i (0, 0)).2) := by
  obtain ⟨ad, c, e, _, hK, hc0⟩ := Kd.C_get h (0, 0) (i : Int) (by omega) (by omega)
  rw [Int.toNat_natCast] at hK hc0
  have hc : ∀ j u, c[j]? = some u → w.cell? (ad.add (i * 2 + j)) = some u := hc0
  obtain ⟨_, _, rfl, rfl, rfl⟩ := hK
  exact ⟨ad, e, hc 0 _ rfl, by rw [← add_field _ _ 1 (by omega)]; exact hc 1 _ rfl⟩
def zD : Int × Int × ByteArray := (0, 0, ByteArray.empty)
theorem at_data {n : Nat} {xs : List (Int × Int × ByteArray)} (h : kData.C w A n xs) (i : Nat) (hi : i < n) :
    ∃ ad, A = some ad ∧ w.cell? (ad.add (i * 3)) = some (.int .i64 (xs.getD i zD).1) ∧ w.cell? ⟨(ad.add (i * 3)).block, (ad.add (i * 3)).off + 1, none⟩ = some (.int .i64 (xs.getD i zD).2.1) ∧ w.cell? ⟨(ad.add (i * 3)).block, (ad.add (i * 3)).off + 2, none⟩ = some (.string (xs.getD i zD).2.2) := by
  obtain ⟨ad, c, e, _, hK, hc0⟩ := Kd.C_get h zD (i : Int) (by omega) (by omega)
  rw [Int.toNat_natCast] at hK hc0
  have hc : ∀ j u, c[j]? = some u → w.cell? (ad.add (i * 3 + j)) = some u := hc0
  obtain ⟨_, _, rfl, rfl, _, _, rfl, rfl, rfl⟩ := hK
  exact ⟨ad, e, hc 0 _ rfl, by rw [← add_field _ _ 1 (by omega)]; exact hc 1 _ rfl, by rw [← add_field _ _ 2 (by omega)]; exact hc 2 _ rfl⟩
end
end Go.Proofs.YtjjhhmchomabeaaDoor.Valid
