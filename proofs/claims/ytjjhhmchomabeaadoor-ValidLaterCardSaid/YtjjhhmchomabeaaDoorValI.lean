/- one: a function's check, from its first instruction to its last. -/
import Derived.Test.YtjjhhmchomabeaaDoorFitV
import Derived.Test.YtjjhhmchomabeaaDoorInstV
namespace Go.Proofs.YtjjhhmchomabeaaDoor.Valid
open Go.RowKit Go.Proofs.YtjjhhmchomabeaaDoorW.PrintWords Go.Proofs.YtjjhhmchomabeaaDoorW.PrintLast Go.Proofs.YtjjhhmchomabeaaDoor.Mem Go.Proofs.YtjjhhmchomabeaaDoor.Nest
set_option linter.unusedVariables false
set_option linter.unusedSimpArgs false

/-- what a function of a module that fits has -/
structure FnOk (M : Md) (f : Fn) : Prop where
  sig : 0 ≤ f.1 ∧ f.1 < M.sigs.length
  loc : ∀ t ∈ f.2.2.1, right t = true
  locs : f.2.2.1.length ≤ 8
  pars : (M.sigs.getD f.1.toNat zS).1.length ≤ 4
  body : ∀ x ∈ f.2.2.2, XOk x
  len : f.2.2.2.length ≤ 200
/-- how one ends -/
def OneOut (w : World) (r : Except (Int × Int) (List Int)) (e : Ending) (w' : World) : Prop :=
  Below w.heap.size w w' ∧ match r with
  | .error (q, a) => ∃ b, e = .returned (.tuple #[.slice none 0 0, fErr b]) ∧ w.heap.size ≤ b ∧ w'.heap[b]? = some (.cells (fCells q a) 69 (0, 0))
  | .ok l => ∃ v, e = .returned (.tuple #[v, .nilIface]) ∧ (Kd.int .i64).R 3 w' w.heap.size (fun _ => True) v l
abbrev o1 (M : Md) (h : Hd) : Obj := .cells (M.cells h) 29
abbrev o2 (k : Int) : Obj := .cells #[.int .i64 k] 3
abbrev o3 : Obj := .cells #[.slice none 0 0] 23
abbrev o4 : Obj := .cells #[.nilIface] 38
abbrev o5 : Obj := .cells #[.int .i64 0] 3
/-- one's own variables: the module, k, out, err, at -/
abbrev x5 (w : World) (M : Md) (h : Hd) (k : Int) : World := ((((w.alloc (o1 M h)).alloc (o2 k)).alloc o3).alloc o4).alloc o5
theorem x5_below (w : World) (M : Md) (h : Hd) (k : Int) : Below w.heap.size w (x5 w M h k) :=
  (((((Below.refl _ _).alloc (Nat.le_refl _) (o1 M h)).alloc (by simp) (o2 k)).alloc (by simp; omega) o3).alloc (by simp; omega) o4).alloc (by simp; omega) o5
abbrev fObj (f : Fn) (B1 B2 : Option Addr) (k1 k2 : Nat) : Obj := .cells #[.int .i64 f.1, .bool f.2.1, .slice B1 f.2.2.1.length k1, .slice B2 f.2.2.2.length k2] 43
abbrev sObj (D1 D2 : Option Addr) (n1 n2 j1 j2 : Nat) : Obj := .cells #[.slice D1 n1 j1, .slice D2 n2 j2] 32
abbrev pOf (M : Md) (h : Hd) (a1 a3 : Addr) (sg : Int) (tr : Bool) (B1 : Option Addr) (l1 k1 : Nat) (B2 : Option Addr) (l2 k2 : Nat) (loc : Value) (res : Int) : P13 := ⟨.slice (some a1) M.sigs.length h.c1, .slice h.a2 M.imports.length h.c2, .slice (some a3) M.funcs.length h.c3, .int .i64 M.m0, .int .i64 M.m1, .slice h.a4 M.globals.length h.c4, .slice h.a5 M.data.length h.c5, .int .i64 sg, .bool tr, .slice B1 l1 k1, .slice B2 l2 k2, loc, .int .i64 res⟩
abbrev pObj (M : Md) (h : Hd) (a1 a3 : Addr) (sg : Int) (tr : Bool) (B1 : Option Addr) (l1 k1 : Nat) (B2 : Option Addr) (l2 k2 : Nat) (res : Int) : Obj := .cells ((pOf M h a1 a3 sg tr B1 l1 k1 B2 l2 k2 (.slice none 0 0) res).arr (.slice none 0 0) (.slice none 0 0)) 86
/-- one's own variables as they lie ahead of the first instruction, and the function's copy -/
structure Bx (W : World) (n : Nat) (M : Md) (h : Hd) (k : Int) (f : Fn) (B1 B2 : Option Addr) (k1 k2 : Nat) : Prop where
  k : W.heap[n + 1]? = some (o2 k)
  o : W.heap[n + 1 + 1]? = some o3
  e : W.heap[n + 1 + 1 + 1]? = some o4
  a : W.heap[n + 1 + 1 + 1 + 1]? = some o5
  m : W.heap[n]? = some (o1 M h)
  f : W.heap[n + 5]? = some (fObj f B1 B2 k1 k2)
theorem Bx.below {W W1 : World} {n : Nat} {M : Md} {h : Hd} {k : Int} {f : Fn} {B1 B2 : Option Addr} {k1 k2 : Nat} (b : Bx W n M h k f B1 B2 k1 k2) (hb : Below W.heap.size W W1) : Bx W1 n M h k f B1 B2 k1 k2 :=
  ⟨blk_below b.k hb, blk_below b.o hb, blk_below b.e hb, blk_below b.a hb, blk_below b.m hb, blk_below b.f hb⟩
theorem Bx.far {W : World} {n : Nat} {M : Md} {h : Hd} {k : Int} {f : Fn} {B1 B2 : Option Addr} {k1 k2 : Nat} (b : Bx W n M h k f B1 B2 k1 k2) {p : Addr} (hp : n + 5 < p.block) (u : Value) : Bx (W.setCell p u) n M h k f B1 B2 k1 k2 :=
  ⟨blk_far b.k (by omega) u, blk_far b.o (by omega) u, blk_far b.e (by omega) u, blk_far b.a (by omega) u, blk_far b.m (by omega) u, blk_far b.f (by omega) u⟩
def Zo (w : World) : Nat → Prop := fun q => w.heap.size ≤ q ∧ q ≤ w.heap.size + 5
/-- one on its way, ahead of an instruction -/
structure Lo (w w6 : World) (kb : Nat) (k : Int) (p : P13) (W : World) (vs vf vo : Value) (s : Ck) (l : List Int) (a : Int) : Prop where
  cs : Cs w6 ⟨W, vs.ownBlock, vf.ownBlock, Zo w⟩ W kb p vs vf s
  lo : w.heap.size + 5 < kb
  bk : W.heap[w.heap.size + 1]? = some (o2 k)
  bo : W.heap[w.heap.size + 1 + 1]? = some (.cells #[vo] 23 (0, 0))
  be : W.heap[w.heap.size + 1 + 1 + 1]? = some o4
  ba : W.heap[w.heap.size + 1 + 1 + 1 + 1]? = some (o2 a)
  ro : (Kd.int .i64).R 3 W w6.heap.size (fun q => ¬ (q = kb ∨ some q = vs.ownBlock ∨ some q = vf.ownBlock)) vo l
section
variable {w w6 W W1 : World} {kb : Nat} {k a : Int} {p : P13} {vs vf vo : Value} {s : Ck} {l : List Int}
theorem Lo.below (H : Lo w w6 kb k p W vs vf vo s l a) (hb : Below W.heap.size W W1) : Lo w w6 kb k p W1 vs vf vo s l a :=
  ⟨(H.cs.below hb).rebase, H.lo, blk_below H.bk hb, blk_below H.bo hb, blk_below H.be hb, blk_below H.ba hb, Kd.R_below H.ro hb⟩
theorem Lo.kb6 (H : Lo w w6 kb k p W vs vf vo s l a) : kb < w6.heap.size := H.cs.klt
theorem Lo.ownS (H : Lo w w6 kb k p W vs vf vo s l a) : ∀ q, vs.ownBlock = some q → w6.heap.size ≤ q ∧ q < W.heap.size := fun q hq => ⟨Kd.R_base H.cs.st q hq, Kd.R_lt H.cs.st q hq⟩
theorem Lo.ownF (H : Lo w w6 kb k p W vs vf vo s l a) : ∀ q, vf.ownBlock = some q → w6.heap.size ≤ q ∧ q < W.heap.size := fun q hq => ⟨Kd.R_base H.cs.fr q hq, Kd.R_lt H.cs.fr q hq⟩
theorem Lo.setAt (H : Lo w w6 kb k p W vs vf vo s l a) (i : Int) : Lo w w6 kb k p (W.setCell ⟨w.heap.size + 1 + 1 + 1 + 1, 0, none⟩ (.int .i64 i)) vs vf vo s l i := by
  have hlo := H.lo
  have hk6 := H.kb6
  refine ⟨?_, H.lo, blk_far H.bk (by show _ ≠ w.heap.size + 1 + 1 + 1 + 1; omega) _, blk_far H.bo (by show _ ≠ w.heap.size + 1 + 1 + 1 + 1; omega) _, blk_far H.be (by show _ ≠ w.heap.size + 1 + 1 + 1 + 1; omega) _, by simpa using blk_set H.ba 0 (.int .i64 i), ?_⟩
  · refine H.cs.mine (S := fun q => q = w.heap.size + 1 + 1 + 1 + 1) ⟨rfl, rfl, rfl, by simp, fun j hj hn => Below.heap_setCell W ⟨w.heap.size + 1 + 1 + 1 + 1, 0, none⟩ _ j hn⟩ (fun q hq => ?_)
    subst hq
    exact ⟨.inl ⟨by omega, by omega⟩, by omega, fun e => by have := (H.ownS _ e.symm).1; omega, fun e => by have := (H.ownF _ e.symm).1; omega⟩
  · refine Kd.R_mono (Kd.R_far (Kd.R_bound H.ro) (fun q hq => ?_) _) (fun q hq => hq.1)
    have := hq.2.1
    show q ≠ w.heap.size + 1 + 1 + 1 + 1
    omega
theorem Lo.push (H : Lo w w6 kb k p W vs vf vo s l a) {vo1 : Value} {l1 : List Int} (hg : W.grownBy W1 vo.ownBlock)
    (hO : (Kd.int .i64).R 3 W1 w6.heap.size (fun q => ¬ (q = kb ∨ some q = vs.ownBlock ∨ some q = vf.ownBlock)) vo1 l1) : Lo w w6 kb k p (W1.setCell ⟨w.heap.size + 1 + 1, 0, none⟩ vo1) vs vf vo1 s l1 a := by
  have hlo := H.lo
  have hk6 := H.kb6
  have hno : ∀ q, q < w6.heap.size → some q ≠ vo.ownBlock := fun q hq e => by have := Kd.R_base H.ro q e.symm; omega
  have hbo := blk_grown H.bo hg (hno _ (by omega))
  refine ⟨?_, H.lo, blk_far (blk_grown H.bk hg (hno _ (by omega))) (by show _ ≠ w.heap.size + 1 + 1; omega) _, by simpa using blk_set hbo 0 vo1, blk_far (blk_grown H.be hg (hno _ (by omega))) (by show _ ≠ w.heap.size + 1 + 1; omega) _, blk_far (blk_grown H.ba hg (hno _ (by omega))) (by show _ ≠ w.heap.size + 1 + 1; omega) _, ?_⟩
  · refine H.cs.mine (S := fun q => q = w.heap.size + 1 + 1 ∨ some q = vo.ownBlock) ?_ (fun q hq => ?_)
    · refine (Ch.grown (Ch.refl W (fun q => q = w.heap.size + 1 + 1 ∨ some q = vo.ownBlock)) hg (fun q hq => .inl (.inr hq.symm))).trans (S2 := fun q => q = w.heap.size + 1 + 1) ⟨rfl, rfl, rfl, by simp, fun j hj hn => Below.heap_setCell W1 ⟨w.heap.size + 1 + 1, 0, none⟩ vo1 j hn⟩ (fun j hj => .inl (.inl hj))
    · rcases hq with hq | hq
      · subst hq
        exact ⟨.inl ⟨by omega, by omega⟩, by omega, fun e => by have := (H.ownS _ e.symm).1; omega, fun e => by have := (H.ownF _ e.symm).1; omega⟩
      · have h1 := H.ro.1 q hq.symm
        exact ⟨.inr (Kd.R_base H.ro q hq.symm), fun e => h1 (.inl e), fun e => h1 (.inr (.inl e)), fun e => h1 (.inr (.inr e))⟩
  · refine Kd.R_mono (Kd.R_far (Kd.R_bound hO) (fun q hq => ?_) _) (fun q hq => hq.1)
    have := hq.2.1
    show q ≠ w.heap.size + 1 + 1
    omega
theorem Lo.ch (H : Lo w w6 kb k p W vs vf vo s l a) (hc : Ch W W1 (fun q => q = kb ∨ some q = vs.ownBlock ∨ some q = vf.ownBlock)) :
    W1.heap[w.heap.size + 1]? = some (o2 k) ∧ W1.heap[w.heap.size + 1 + 1]? = some (.cells #[vo] 23 (0, 0)) ∧ W1.heap[w.heap.size + 1 + 1 + 1]? = some o4 ∧ W1.heap[w.heap.size + 1 + 1 + 1 + 1]? = some (o2 a) := by
  have hlo := H.lo
  have hk6 := H.kb6
  have hn : ∀ q, q < kb → ¬ (q = kb ∨ some q = vs.ownBlock ∨ some q = vf.ownBlock) := fun q hq e => by
    rcases e with e | e | e
    · omega
    · have := (H.ownS _ e.symm).1; omega
    · have := (H.ownF _ e.symm).1; omega
  exact ⟨(hc.block _ (blk_lt H.bk) (hn _ (by omega))).trans H.bk, (hc.block _ (blk_lt H.bo) (hn _ (by omega))).trans H.bo, (hc.block _ (blk_lt H.be) (hn _ (by omega))).trans H.be, (hc.block _ (blk_lt H.ba) (hn _ (by omega))).trans H.ba⟩
theorem Lo.see (H : Lo w w6 kb k p W vs vf vo s l a) {vs1 vf1 : Value} {s1 : Ck} (hc : Cs w6 ⟨W, vs.ownBlock, vf.ownBlock, Zo w⟩ W1 kb p vs1 vf1 s1) : Lo w w6 kb k p W1 vs1 vf1 vo s1 l a := by
  obtain ⟨h1, h2, h3, h4⟩ := H.ch hc.kp.ch
  refine ⟨hc.rebase, H.lo, h1, h2, h3, h4, R_call H.ro hc.kp.ch (fun q hq => ?_)⟩
  rcases hq with e | e | e
  · exact .inl (.inl e)
  · rcases hc.kp.os with h5 | h5
    · exact .inl (.inr (.inl (e.trans h5)))
    · exact .inr (h5 q e.symm)
  · rcases hc.kp.of with h5 | h5
    · exact .inl (.inr (.inr (e.trans h5)))
    · exact .inr (h5 q e.symm)
theorem Lo.belowAll (H : Lo w w6 kb k p W vs vf vo s l a) (hb : Below w.heap.size w w6) : Below w.heap.size w W := by
  have hlo := H.lo
  exact hb.trans ⟨H.cs.ch.os, H.cs.ch.tape, H.cs.ch.output, H.cs.ch.size, fun i hi => H.cs.ch.block i (by have := hb.size; omega) (fun e => by rcases e with e | e; omega; have := e.1; omega)⟩
theorem bad_below (hlo : w.heap.size + 5 < kb) (hb : Below w.heap.size w w6) (H : Bad w6 ⟨W, vs.ownBlock, vf.ownBlock, Zo w⟩ kb W1) : Below w.heap.size w W1 :=
  hb.trans ⟨H.1.os, H.1.tape, H.1.output, H.1.size, fun i hi => H.1.block i (by have := hb.size; omega) (fun e => by rcases e with e | e; omega; have := e.1; omega)⟩
end
/-- a broken rule's way out of one -/
theorem one_broken {w W : World} {r : Except (Int × Int) (List Int)} {q i k : Int} {u0 : Value} {n : Nat} (tmps : Array Value) (hn : w.heap.size = n)
    (hkc : W.heap[n + 1]? = some (.cells #[.int .i64 k] 3 (0, 0))) (hoc : W.heap[n + 1 + 1]? = some (.cells #[u0] 23 (0, 0))) (hec : W.heap[n + 1 + 1 + 1]? = some (.cells #[.nilIface] 38 (0, 0))) (hac : W.heap[n + 1 + 1 + 1 + 1]? = some (.cells #[.int .i64 i] 3 (0, 0)))
    (hb : Below w.heap.size w W) (hk : 0 ≤ k ∧ k ≤ 1000) (hi : 0 ≤ i ∧ i ≤ 1000) (hr : r = .error (q, 1000 * k + i))
    (h4 : tmps[4]?.getD undef = .pointer (some ⟨n + 1 + 1, 0, none⟩)) (h5 : tmps[5]?.getD undef = .pointer (some ⟨n + 1 + 1 + 1, 0, none⟩)) :
    Leaves Tryd.prog Tryd.f26 tmps (OneOut w r) [{ target := .fn (.func 36) #[.pointer (some ⟨n + 1, 0, none⟩), .pointer (some ⟨n + 1 + 1 + 1 + 1, 0, none⟩), .pointer (some ⟨n + 1 + 1, 0, none⟩), .pointer (some ⟨n + 1 + 1 + 1, 0, none⟩)], args := #[] }] (.panicking (brk q)) W := by
  refine leaves_cons (f := 36) (args := #[.pointer (some ⟨n + 1, 0, none⟩), .pointer (some ⟨n + 1 + 1 + 1 + 1, 0, none⟩), .pointer (some ⟨n + 1 + 1, 0, none⟩), .pointer (some ⟨n + 1 + 1 + 1, 0, none⟩)]) (by simp) (by simp [go_sem]) ?_
  refine (one_catch ⟨n + 1, 0, none⟩ ⟨n + 1 + 1 + 1 + 1, 0, none⟩ ⟨n + 1 + 1, 0, none⟩ ⟨n + 1 + 1 + 1, 0, none⟩ k i q u0 .nilIface [] W (blk_cell hkc 0) (blk_cell hac 0) (blk_cell hoc 0) (blk_cell hec 0) (blk_frozen hoc 0) (blk_frozen hec 0) hk hi (by simp)).mono ?_
  rintro e u' w'' ⟨rfl, rfl, rfl⟩
  have hW := blk_lt hac
  have hoc1 : ((W.alloc (fBox q (1000 * k + i))).setCell ⟨n + 1 + 1, 0, none⟩ (.slice none 0 0)).heap[n + 1 + 1]? = some (.cells #[.slice none 0 0] 23 (0, 0)) := by simpa using blk_set (blk_alloc hoc (fBox q (1000 * k + i))) 0 (.slice none 0 0)
  have hoc2 := blk_far hoc1 (p := ⟨n + 1 + 1 + 1, 0, none⟩) (by simp) (fErr W.heap.size)
  have hec1 := blk_far (blk_alloc hec (fBox q (1000 * k + i))) (p := ⟨n + 1 + 1, 0, none⟩) (by simp) (.slice none 0 0)
  have hec2 : (((W.alloc (fBox q (1000 * k + i))).setCell ⟨n + 1 + 1, 0, none⟩ (.slice none 0 0)).setCell ⟨n + 1 + 1 + 1, 0, none⟩ (fErr W.heap.size)).heap[n + 1 + 1 + 1]? = some (.cells #[fErr W.heap.size] 38 (0, 0)) := by simpa using blk_set hec1 0 (fErr W.heap.size)
  have hfb := blk_far (blk_far (blk_new W (fBox q (1000 * k + i))) (p := ⟨n + 1 + 1, 0, none⟩) (by show W.heap.size ≠ n + 1 + 1; omega) (.slice none 0 0)) (p := ⟨n + 1 + 1 + 1, 0, none⟩) (by show W.heap.size ≠ n + 1 + 1 + 1; omega) (fErr W.heap.size)
  have hc4 := blk_cell hoc2 0
  have hc5 := blk_cell hec2 0
  have hBel : Below w.heap.size w (((W.alloc (fBox q (1000 * k + i))).setCell ⟨n + 1 + 1, 0, none⟩ (.slice none 0 0)).setCell ⟨n + 1 + 1 + 1, 0, none⟩ (fErr W.heap.size)) :=
    ((hb.alloc hb.size _).setCell (by rw [hn]; show n ≤ n + 1 + 1; omega) _).setCell (by rw [hn]; show n ≤ n + 1 + 1 + 1; omega) _
  have HO : OneOut w r (.returned (.tuple #[.slice none 0 0, fErr W.heap.size])) (((W.alloc (fBox q (1000 * k + i))).setCell ⟨n + 1 + 1, 0, none⟩ (.slice none 0 0)).setCell ⟨n + 1 + 1 + 1, 0, none⟩ (fErr W.heap.size)) := by
    subst hr
    exact ⟨hBel, W.heap.size, rfl, hb.size, hfb⟩
  have hc4a : ((W.alloc (fBox q (1000 * k + i))).setCell ⟨n + 1 + 1, 0, none⟩ (.slice none 0 0)).cell? ⟨n + 1 + 1, 0, none⟩ = some (.slice none 0 0) := blk_cell hoc1 0
  have hc5b : (((W.alloc (fBox q (1000 * k + i))).setCell ⟨n + 1 + 1, 0, none⟩ (.slice none 0 0)).setCell ⟨n + 1 + 1 + 1, 0, none⟩ (fErr W.heap.size)).cell? ⟨n + 1 + 1 + 1, 0, none⟩ = some (fErr W.heap.size) := blk_cell hec2 0
  simp [Leaves, settle, results, Tryd.results26, go_sem, h4, h5]
  rw [hc4a]
  dsimp only [Result.andThen]
  rw [hc5b]
  exact ⟨_, rfl, HO⟩
/-- the way out of one behind its last instruction -/
theorem one_done {w W : World} {r : Except (Int × Int) (List Int)} {l : List Int} {v : Value} {n : Nat} (tmps : Array Value) (hn : w.heap.size = n)
    (hoc : W.heap[n + 1 + 1]? = some (.cells #[v] 23 (0, 0))) (hec : W.heap[n + 1 + 1 + 1]? = some (.cells #[.nilIface] 38 (0, 0)))
    (hb : Below w.heap.size w W) (hr : r = .ok l) (hR : (Kd.int .i64).R 3 W w.heap.size (fun _ => True) v l)
    (h4 : tmps[4]?.getD undef = .pointer (some ⟨n + 1 + 1, 0, none⟩)) (h5 : tmps[5]?.getD undef = .pointer (some ⟨n + 1 + 1 + 1, 0, none⟩)) :
    Leaves Tryd.prog Tryd.f26 tmps (OneOut w r) [{ target := .fn (.func 36) #[.pointer (some ⟨n + 1, 0, none⟩), .pointer (some ⟨n + 1 + 1 + 1 + 1, 0, none⟩), .pointer (some ⟨n + 1 + 1, 0, none⟩), .pointer (some ⟨n + 1 + 1 + 1, 0, none⟩)], args := #[] }] .returning W := by
  refine leaves_cons (f := 36) (args := #[.pointer (some ⟨n + 1, 0, none⟩), .pointer (some ⟨n + 1 + 1 + 1 + 1, 0, none⟩), .pointer (some ⟨n + 1 + 1, 0, none⟩), .pointer (some ⟨n + 1 + 1 + 1, 0, none⟩)]) (by simp) (by simp [go_sem]) ?_
  refine (one_catch_idle ⟨n + 1, 0, none⟩ ⟨n + 1 + 1 + 1 + 1, 0, none⟩ ⟨n + 1 + 1, 0, none⟩ ⟨n + 1 + 1 + 1, 0, none⟩ W).mono ?_
  rintro e u' w'' ⟨rfl, rfl, rfl⟩
  have hc4 : w''.cell? ⟨n + 1 + 1, 0, none⟩ = some v := blk_cell hoc 0
  have hc5 : w''.cell? ⟨n + 1 + 1 + 1, 0, none⟩ = some .nilIface := blk_cell hec 0
  have HO : OneOut w r (.returned (.tuple #[v, .nilIface])) w'' := by
    subst hr
    exact ⟨hb, v, rfl, hR⟩
  simp [Leaves, settle, results, Tryd.results26, go_sem, h4, h5]
  rw [hc4]
  dsimp only [Result.andThen]
  rw [hc5]
  exact ⟨_, rfl, HO⟩
def oneR (k : Nat) (R : Except (Int × Int) (List Int)) : Except (Int × Int) (List Int) :=
  match R with
  | .error (e, a) => .error (e, 1000 * k + a)
  | .ok out => .ok out
theorem oneT_run {M : Md} {k : Nat} {f : Fn} (hF : M.funcs.getD k zF = f) (h0 : (wkAll f.2.2.2).2.1 = 0) : oneT M k = oneR k (run (envOf M f) f.2.2.2 0 [] (startOf (envOf M f))) := by
  subst hF
  unfold oneT oneR
  dsimp only
  rw [if_neg (fun h => h h0)]
  rfl
theorem start_wf (E : Env) (h : Ty E.result) : Wf (startOf E) := by
  refine ⟨Nat.zero_lt_one, fun i j hij hj => ?_, ?_, by simp [startOf], fun t ht => (by cases ht), fun f hf => ?_⟩
  · have hj0 : j = 0 := by have : j < 1 := hj; omega
    have hi0 : i = 0 := by omega
    subst hj0 hi0
    exact ⟨Int.le_refl _, Int.le_refl _⟩
  · show (0 : Int) ≤ 0
    decide
  · rcases List.mem_singleton.1 hf with rfl
    exact h
theorem lo_start {w w6 : World} {kb : Nat} {k : Int} {p : P13} {M : Md} {h : Hd} {f : Fn} {B1 B2 : Option Addr} {k1 k2 : Nat} (res : Int) (hlo : w.heap.size + 5 < kb) (hkb : w6.heap[kb]? = some (.cells (p.arr (.slice none 0 0) (.slice none 0 0)) 86 (0, 0))) (hb : Bx w6 w.heap.size M h k f B1 B2 k1 k2) :
    Lo w w6 kb k p ((w6.alloc (.cells (⟨2, res, 0, false, false, false⟩ : Fr).cells.toArray 88)).setCell ⟨kb, 14, none⟩ (.slice (some ⟨w6.heap.size, 0, none⟩) 1 1)) (.slice none 0 0) (.slice (some ⟨w6.heap.size, 0, none⟩) 1 1) (.slice none 0 0) ⟨[], [⟨2, res, 0, false, false, false⟩]⟩ [] 0 := by
  have hk6 := blk_lt hkb
  have hb7 := (hb.below (below_alloc (Below.refl w6.heap.size w6) (Nat.le_refl _) (.cells (⟨2, res, 0, false, false, false⟩ : Fr).cells.toArray 88))).far (p := ⟨kb, 14, none⟩) hlo (.slice (some ⟨w6.heap.size, 0, none⟩) 1 1)
  have hkb7 := blk_set (blk_alloc hkb (.cells (⟨2, res, 0, false, false, false⟩ : Fr).cells.toArray 88)) 14 (.slice (some ⟨w6.heap.size, 0, none⟩) 1 1)
  refine ⟨⟨?_, hk6, by simpa using hkb7, Kd.R_nil _ _ _ _ _, ?_, Rl.self ⟨w6, none, none, Zo w⟩ _ _ _ _⟩, hlo, hb7.k, hb7.o, hb7.e, hb7.a, Kd.R_nil _ _ _ _ _⟩
  · exact (Ch.of_below (below_alloc (Below.refl w6.heap.size w6) (Nat.le_refl _) _) _).trans (S2 := fun q => q = kb) ⟨rfl, rfl, rfl, by simp, fun j hj hn => Below.heap_setCell _ ⟨kb, 14, none⟩ _ j hn⟩ (fun j hj => .inl (.inl hj))
  · refine Kd.R_mono (Kd.R_far (Kd.R_bound (fr_lit w6 ⟨2, res, 0, false, false, false⟩ w6.heap.size (Nat.le_refl _))) (fun q hq => ?_) _) (fun _ _ => trivial)
    have := hq.2.1
    show q ≠ kb
    omega
set_option maxHeartbeats 4000000 in
set_option maxRecDepth 100000 in
theorem one_calls (M : Md) (h : Hd) (k : Nat) (w : World) (H : ModAt w h M) (F : MFine M) (hk : k < M.funcs.length) (hk8 : k ≤ 8) (hf : FnOk M (M.funcs.getD k zF)) :
    Calls Tryd.prog 26 #[.agg (M.cells h), .int .i64 k] w (OneOut w (oneT M k)) := by
  have hmf : ∀ (fn : Go.Fn) (first cap : Array Value) (w : World), (Instr.makeFunc fn first cap).run Tryd.prog w = .ok (.func fn first cap) w := fun _ _ _ _ => rfl
  have HB5 := Aside0.mk (x5_below w M h k)
  have HM := Aside0.mk H
  have hl3 := H.l3
  have hs3 := H.funcs.2.1
  obtain ⟨ad, B1, k1, B2, k2, ha, hx0, hx1, hx2, hx3, hk1, hk2, hC1, hC2⟩ := at_func H.funcs k hk
  have HC2 := Aside0.mk hC2
  have HFO := Aside0.mk hf
  have HMF := Aside0.mk F
  obtain ⟨⟨fs, ft, fl, fb⟩, hF⟩ : ∃ f, M.funcs.getD k zF = f := ⟨_, rfl⟩
  have hx0 := (HB5.out.cell (World.block_lt_of_cell? _ _ hx0)).trans hx0
  have hx1 := (HB5.out.cell (World.block_lt_of_cell? _ _ hx1)).trans hx1
  have hx2 := (HB5.out.cell (World.block_lt_of_cell? _ _ hx2)).trans hx2
  have hx3 := (HB5.out.cell (World.block_lt_of_cell? _ _ hx3)).trans hx3
  have HC1 := Aside0.mk hC1
  rw [hF] at hx0 hx1 hx2 hx3 hk1 hk2 HC1 HC2 HFO
  dsimp only at hx0 hx1 hx2 hx3 hk1 hk2 HC1 HC2
  have HF0 := Aside0.mk hF
  clear hC1 hC2 H F hf hF
  have HSP := Aside0.mk (spans_calls B2 k2 fb ((x5 w M h k).alloc (fObj (fs, ft, fl, fb) B1 B2 k1 k2)) (Kd.C_below HC2.out (HB5.out.alloc HB5.out.size _)) hk2 (by have := HFO.out.len; dsimp only at this; omega))
  obtain ⟨E6, hE6⟩ : ∃ e, (wkAll fb).2.1 = e := ⟨_, rfl⟩
  rw [hE6] at HSP
  -- the boxes that are read later
  have hfa := Aside0.mk (blk_new (x5 w M h k) (fObj (fs, ft, fl, fb) B1 B2 k1 k2))
  have hma := Aside0.mk (show (x5 w M h k).heap[w.heap.size]? = some (.cells (M.cells h) 29 (0, 0)) from blk_alloc (blk_alloc (blk_alloc (blk_alloc (blk_new w _) _) _) _) _)
  have hka := Aside0.mk (show (x5 w M h k).heap[w.heap.size + 1]? = some (.cells #[.int .i64 k] 3 (0, 0)) from blk_alloc (blk_alloc (blk_alloc (by simpa using blk_new (w.alloc (o1 M h)) (o2 k)) _) _) _)
  have hoa := Aside0.mk (show (x5 w M h k).heap[w.heap.size + 1 + 1]? = some (.cells #[.slice none 0 0] 23 (0, 0)) from blk_alloc (blk_alloc (by simpa using blk_new ((w.alloc (o1 M h)).alloc (o2 k)) o3) _) _)
  have hea := Aside0.mk (show (x5 w M h k).heap[w.heap.size + 1 + 1 + 1]? = some (.cells #[.nilIface] 38 (0, 0)) from blk_alloc (by simpa using blk_new (((w.alloc (o1 M h)).alloc (o2 k)).alloc o3) o4) _)
  have haa := Aside0.mk (show (x5 w M h k).heap[w.heap.size + 1 + 1 + 1 + 1]? = some (.cells #[.int .i64 0] 3 (0, 0)) from by simpa using blk_new ((((w.alloc (o1 M h)).alloc (o2 k)).alloc o3).alloc o4) o5)
  have hsz5 := Aside0.mk (show (x5 w M h k).heap.size = w.heap.size + 5 by simp)
  go_enter_defers Tryd.func26, Tryd.ntmps26
  go_wp2_with fail
  refine HSP.out.mono ?_
  rintro e w1 ⟨v6, rfl, hR6, hb6⟩
  have HB6 := Aside0.mk hb6
  clear hR6 hb6 HSP
  have hk1b := blk_below (blk_alloc hka.out (fObj (fs, ft, fl, fb) B1 B2 k1 k2)) HB6.out
  have ho1b := blk_below (blk_alloc hoa.out (fObj (fs, ft, fl, fb) B1 B2 k1 k2)) HB6.out
  have he1b := blk_below (blk_alloc hea.out (fObj (fs, ft, fl, fb) B1 B2 k1 k2)) HB6.out
  have ha1b := blk_below (blk_alloc haa.out (fObj (fs, ft, fl, fb) B1 B2 k1 k2)) HB6.out
  by_cases hE0 : E6 = 0
  · subst hE0
    have HB1 := Aside0.mk (show Below w.heap.size w w1 from HB5.out.trans ((((Below.refl _ _).alloc (Nat.le_refl _) _).trans (HB6.out.mono (by simp))).mono HB5.out.size))
    have hm1b := blk_below (blk_alloc hma.out (fObj (fs, ft, fl, fb) B1 B2 k1 k2)) HB6.out
    have hf1b := blk_below hfa.out HB6.out
    rw [hsz5.out] at hf1b
    have hz0 := blk_cell hm1b 0
    have hz1 := blk_cell hm1b 1
    have hz2 := blk_cell hm1b 2
    have hz3 := blk_cell hm1b 3
    have hz4 := blk_cell hm1b 4
    have hz5 := blk_cell hm1b 5
    have hz6 := blk_cell hm1b 6
    have hy0 := blk_cell hf1b 0
    have hy1 := blk_cell hf1b 1
    have hy2 := blk_cell hf1b 2
    have hy3 := blk_cell hf1b 3
    obtain ⟨sn, hsn⟩ := Int.eq_ofNat_of_zero_le HFO.out.sig.1
    dsimp only at hsn
    subst hsn
    have hlt : sn < M.sigs.length := by have := HFO.out.sig.2; dsimp only at this; omega
    have hl1 := HM.out.l1
    have hs1 := HM.out.sigs.2.1
    obtain ⟨ad2, D1, j1, D2, j2, ha2, hv0, hv1, hj1, hj2, hD1, hD2⟩ := at_sig HM.out.sigs sn hlt
    have hv0 := (HB1.out.cell (World.block_lt_of_cell? _ _ hv0)).trans hv0
    have hv1 := (HB1.out.cell (World.block_lt_of_cell? _ _ hv1)).trans hv1
    have HD := Aside0.mk (And.intro hD1 hD2)
    obtain ⟨SG, hSG⟩ : ∃ g, M.sigs.getD sn zS = g := ⟨_, rfl⟩
    have HSG := Aside0.mk hSG
    rw [hSG] at hv0 hv1 hj1 hj2 HD
    clear hD1 hD2 hSG
    obtain ⟨sp, sr⟩ := SG
    dsimp only at hv0 hv1 hj1 hj2
    have HKB := Aside0.mk (show Bx w1 w.heap.size M h k (sn, ft, fl, fb) B1 B2 k1 k2 from ⟨hk1b, ho1b, he1b, ha1b, hm1b, hf1b⟩)
    clear hk1b ho1b he1b ha1b hm1b hf1b
    have HKC := Aside0.mk (HKB.out.below (below_alloc (Below.refl _ _) (Nat.le_refl _) (sObj D1 D2 sp.length sr.length j1 j2)))
    have HKS := Aside0.mk (blk_new w1 (sObj D1 D2 sp.length sr.length j1 j2))
    have HB2 := Aside0.mk (show Below w.heap.size w (w1.alloc (sObj D1 D2 sp.length sr.length j1 j2)) from HB1.out.alloc HB1.out.size _)
    go_upto_region 8 with (fail)
    generalize w1.alloc _ = w2 at *
    clear hz0 hz1 hz2 hz3 hz4 hz5 hz6 hy0 hy1 hy2 hy3 hv0 hv1 hx0 hx1 hx2 hx3
    have hz0 := blk_cell HKC.out.m 0
    have hz1 := blk_cell HKC.out.m 1
    have hz2 := blk_cell HKC.out.m 2
    have hz3 := blk_cell HKC.out.m 3
    have hz4 := blk_cell HKC.out.m 4
    have hz5 := blk_cell HKC.out.m 5
    have hz6 := blk_cell HKC.out.m 6
    have hy0 := blk_cell HKC.out.f 0
    have hy1 := blk_cell HKC.out.f 1
    have hy2 := blk_cell HKC.out.f 2
    have hy3 := blk_cell HKC.out.f 3
    have hv1 := blk_cell HKS.out 1
    have HCF := Aside0.mk (show (Kd.int .i64).C w2.drew D2 sr.length sr from Kd.C_below HD.out.2 (HB2.out.trans ((drew_below _).mono HB2.out.size)))
    go_region_held3 (fun w' => w'.cell? ⟨w.heap.size, 0, none⟩ = some (.slice h.a1 M.sigs.length h.c1) ∧ w'.cell? ⟨w.heap.size, 1, none⟩ = some (.slice h.a2 M.imports.length h.c2) ∧ w'.cell? ⟨w.heap.size, 2, none⟩ = some (.slice h.a3 M.funcs.length h.c3) ∧ w'.cell? ⟨w.heap.size, 3, none⟩ = some (.int .i64 M.m0) ∧ w'.cell? ⟨w.heap.size, 4, none⟩ = some (.int .i64 M.m1) ∧ w'.cell? ⟨w.heap.size, 5, none⟩ = some (.slice h.a4 M.globals.length h.c4) ∧ w'.cell? ⟨w.heap.size, 6, none⟩ = some (.slice h.a5 M.data.length h.c5) ∧ w'.cell? ⟨w.heap.size + 5, 0, none⟩ = some (.int .i64 sn) ∧ w'.cell? ⟨w.heap.size + 5, 1, none⟩ = some (.bool ft) ∧ w'.cell? ⟨w.heap.size + 5, 2, none⟩ = some (.slice B1 fl.length k1) ∧ w'.cell? ⟨w.heap.size + 5, 3, none⟩ = some (.slice B2 fb.length k2) ∧ w'.cell? ⟨w1.heap.size, 1, none⟩ = some (.slice D2 sr.length j2)) (go_keep)
      (first
        | (go_at_call 38; refine (first_calls _ _ _ _ HCF.out).mono ?_; rintro e w' ⟨rfl, rfl⟩)
        | fail)
    clear HCF hz0 hz1 hz2 hz3 hz4 hz5 hz6 hy0 hy1 hy2 hy3 hv1
    have hb23 := (Below.refl w2.heap.size w2).alloc (Nat.le_refl _) (pObj M h ad2 ad sn ft B1 fl.length k1 B2 fb.length k2 (firstL sr))
    have hb23 := hb23.trans ((drew_below _).mono hb23.size)
    have HKD := Aside0.mk (HKC.out.below hb23)
    have HKT := Aside0.mk (blk_below HKS.out hb23)
    have HKE := Aside0.mk (blk_drew (blk_new w2 (pObj M h ad2 ad sn ft B1 fl.length k1 B2 fb.length k2 (firstL sr))))
    have hkbw := Aside0.mk (And.intro (blk_lt HKC.out.f) (blk_lt HKS.out))
    have HB3 := Aside0.mk (show Below w.heap.size w (w2.alloc (pObj M h ad2 ad sn ft B1 fl.length k1 B2 fb.length k2 (firstL sr))).drew from (HB2.out.alloc HB2.out.size _).trans ((drew_below _).mono (HB2.out.alloc HB2.out.size _).size))
    obtain ⟨w3, hw3⟩ : ∃ w3, w3 = (w2.alloc (pObj M h ad2 ad sn ft B1 fl.length k1 B2 fb.length k2 (firstL sr))).drew := ⟨_, rfl⟩
    rw [← hw3] at HKD HKT HKE HB3 ⊢
    clear hw3 HKC HKS hb23
    generalize w2.heap.size = kb at HKD HKT HKE hkbw ⊢
    clear HKB HB2
    have hspl : sp.length ≤ 4 := by
      have h1 := HFO.out.pars
      have h2 := HSG.out
      dsimp only at h1
      rw [Int.toNat_natCast, h2] at h1
      exact h1
    have hfll : fl.length ≤ 8 := HFO.out.locs
    go_upto_region 9 with (fail)
    have hq0 := blk_cell HKE.out 11
    have hq1 := blk_cell HKT.out 0
    have hq2 := blk_cell HKD.out.f 2
    have HRD := Aside0.mk (show (Kd.int .i64).C w3.drew D1 sp.length sp from Kd.C_below HD.out.1 (HB3.out.trans ((drew_below _).mono HB3.out.size)))
    have hne1 : w1.heap.size ≠ kb := by have := hkbw.out.2; omega
    have hne2 : w.heap.size + 5 ≠ kb := by have := hkbw.out.1; omega
    have hne3 : kb ≠ w1.heap.size := fun e => hne1 e.symm
    have hne4 : kb ≠ w.heap.size + 5 := fun e => hne2 e.symm
    go_cut [54] from 44 to 56 (fun s54 wx => ∃ (A5 : Option Addr) (c5 : Nat) (w5 : World), s54 = .slice A5 (sp.length + fl.length) c5 ∧ Aside0 ((Kd.int .i64).R 3 w5 w3.heap.size (fun _ => True) (.slice A5 (sp ++ fl).length c5) (sp ++ fl)) ∧ Aside0 (Below w3.heap.size w3 w5) ∧ wx = w5.setCell ⟨kb, 11, none⟩ (.slice A5 (sp.length + fl.length) c5))
    case first =>
      rename_i J0 K0 hRJ hMK
      refine wp_region_noPanic ?_
      go_region_law
        (first
          | (refine Kd.R_append_rows_step (Kd.int .i64) (Rr := (Kd.int .i64).K w3.drew) (w0 := w3) (W := w3.drew) w3.heap.size rfl (.tmp 48) (.tmp 50) 23 3 (.int .i64 0) 8 rfl Tryd.underlying23 infoInt rfl (by decide) (by omega) (.slice none 0 0) [] sp D1 sp.length j1 (fun _ => True) (fun _ => False) rfl rfl (Kd.R_nil _ _ _ _ _) HRD.out (fun _ _ h => h) (fun _ h => h.elim) (fun _ _ => trivial) (drew_below _) (Nat.le_refl _) (by simp; omega) ?_; intro v4 w4 hO hB hg hat; rw [List.nil_append] at hO; obtain ⟨A4, c4, e4⟩ := Kd.R_slice hO; subst e4; have HR4 := Aside0.mk (And.intro hO hB); have hr0 := blk_cell (blk_below HKE.out hB) 11; have hr1 := blk_cell (blk_below HKT.out hB) 0; have hr2 := blk_cell (HKD.out.below hB).f 2; clear hO hB hg hat)
          | (refine Kd.R_append_rows_step (Kd.int .i64) (Rr := (Kd.int .i64).K w4) (w0 := w3) (W := w4) w3.heap.size rfl (.tmp 51) (.tmp 53) 23 3 (.int .i64 0) 8 rfl Tryd.underlying23 infoInt rfl (by decide) (by omega) (.slice A4 sp.length c4) sp fl B1 fl.length k1 (fun _ => True) (fun _ => False) rfl rfl HR4.out.1 (Kd.C_below HC1.out (HB3.out.trans (HR4.out.2.mono HB3.out.size))) (fun _ _ h => h) (fun _ h => h.elim) (fun _ _ => trivial) HR4.out.2 HR4.out.2.size (by omega) ?_; intro v5 w5 hO hB hg hat; obtain ⟨A5, c5, e5⟩ := Kd.R_slice hO; subst e5; have HR5 := Aside0.mk (And.intro hO hB); have hs0 := blk_cell (blk_below HKE.out hB) 11; have hs1 := blk_cell (blk_below HKT.out hB) 0; have hs2 := blk_cell (HKD.out.below hB).f 2; have hsf := blk_frozen (blk_below HKE.out hB) 11; clear hO hB hg hat)
          | fail)
      all_goals
        refine NoPanic.normal ?_
        refine hMK _ _ (Met.intro (hRJ _ _ ?_))
        (repeat apply Exists.intro)
        refine ⟨?_, rfl⟩
        exact ⟨A5, c5, w5, by simp, ⟨HR5.out.1⟩, ⟨HR5.out.2⟩, by simp⟩
    case rest =>
    obtain ⟨A5, c5, w5, rfl, HR5, HB5b, rfl⟩ := hcut
    obtain ⟨w6, hw6⟩ : ∃ w6, w6 = w5.setCell ⟨kb, 11, none⟩ (.slice A5 (sp ++ fl).length c5) := ⟨_, rfl⟩
    have hlk : w.heap.size + 5 < kb := hkbw.out.1
    have hE6b := blk_set (blk_below HKE.out HB5b.out) 11 (.slice A5 (sp ++ fl).length c5)
    have HKD6 := Aside0.mk ((HKD.out.below HB5b.out).far (p := ⟨kb, 11, none⟩) hlk (.slice A5 (sp ++ fl).length c5))
    have HB6w := Aside0.mk (show Below w.heap.size w (w5.setCell ⟨kb, 11, none⟩ (.slice A5 (sp ++ fl).length c5)) from (HB3.out.trans (HB5b.out.mono HB3.out.size)).setCell (by show w.heap.size ≤ kb; omega) _)
    have hkl3 := blk_lt HKE.out
    have HLR := Aside0.mk (show (Kd.int .i64).R 3 (w5.setCell ⟨kb, 11, none⟩ (.slice A5 (sp ++ fl).length c5)) w.heap.size (fun k' => k' ≠ kb ∧ ¬ (w.heap.size ≤ k' ∧ k' ≤ w.heap.size + 5)) (.slice A5 (sp ++ fl).length c5) (sp ++ fl) from
      Kd.R_lower (Kd.R_mono (Kd.R_far (Kd.R_bound HR5.out) (fun k' hk' => by have := hk'.2.1; show k' ≠ kb; omega) _) (fun k' hk' => by have := hk'.2.1; exact ⟨by omega, by omega⟩)) HB3.out.size)
    rw [← hw6] at hE6b HKD6 HB6w HLR
    have hw6b : w5.setCell ⟨kb, 11, none⟩ (.slice A5 (sp.length + fl.length) c5) = w6 := by rw [hw6, List.length_append]
    rw [hw6b]
    have HE6 := Aside0.mk (show w6.heap[kb]? = some (.cells ((pOf M h ad2 ad sn ft B1 fl.length k1 B2 fb.length k2 (.slice A5 (sp ++ fl).length c5) (firstL sr)).arr (.slice none 0 0) (.slice none 0 0)) 86 (0, 0)) by simpa using hE6b)
    clear hw6b hw6 hE6b HKE HKD HKT HR5 HB5b hkl3 hne1 hne2 hne3 hne4 hq0 hq1 hq2 HRD HB3
    have hq0 := blk_cell HE6.out 12
    have HF7 := Aside0.mk (blk_alloc HE6.out (.cells (⟨2, firstL sr, 0, false, false, false⟩ : Fr).cells.toArray 88))
    have hq1 := blk_cell HF7.out 14
    have hq2 := blk_frozen HF7.out 14
    have hq3 := blk_cell HKD6.out.f 3
    go_upto_region 11 with (fail)
    obtain ⟨p, hp⟩ : ∃ p, p = pOf M h ad2 ad sn ft B1 fl.length k1 B2 fb.length k2 (.slice A5 (sp ++ fl).length c5) (firstL sr) := ⟨_, rfl⟩
    obtain ⟨E, hE⟩ : ∃ E : Env, E = ⟨M, ft, sp ++ fl, firstL sr⟩ := ⟨_, rfl⟩
    have hgm : (sp, sr) ∈ M.sigs := by rw [← HSG.out]; exact getD_mem _ _ _ hlt
    have HEF := Aside0.mk (show EFine E from by
      subst hE
      refine ⟨HMF.out, fun t ht => ?_, firstL_ty (HMF.out.sigs _ hgm).2⟩
      rcases List.mem_append.1 ht with h1 | h1
      · exact (HMF.out.sigs _ hgm).1 t h1
      · exact HFO.out.loc t h1)
    have HST := Aside0.mk (show Stat w w6 (Zo w) kb p E h from by
      subst hp hE
      exact ⟨by omega, HB6w.out, HM.out, HLR.out, fun q hq => hq.1, by rw [ha2], rfl, by rw [ha], rfl, rfl, rfl, rfl, rfl, rfl⟩)
    have HL0 := Aside0.mk (show Lo w w6 kb k p ((w6.alloc (.cells (⟨2, firstL sr, 0, false, false, false⟩ : Fr).cells.toArray 88)).setCell ⟨kb, 14, none⟩ (.slice (some ⟨w6.heap.size, 0, none⟩) 1 1)) (.slice none 0 0) (.slice (some ⟨w6.heap.size, 0, none⟩) 1 1) (.slice none 0 0) (startOf E) [] 0 from by
      subst hp hE
      exact lo_start (firstL sr) hlk HE6.out HKD6.out)
    have HWF0 := Aside0.mk (start_wf E HEF.out.res)
    obtain ⟨R, hR⟩ : ∃ R, run E fb 0 [] (startOf E) = R := ⟨_, rfl⟩
    have HTR := Aside0.mk (show oneT M k = oneR k R from by
      have henv : envOf M ((sn : Int), ft, fl, fb) = E := by
        subst hE
        unfold envOf
        dsimp only
        rw [Int.toNat_natCast, HSG.out]
      rw [oneT_run HF0.out hE6, henv]
      exact congrArg _ hR)
    have hq4 := blk_cell ((HKD6.out.below (below_alloc (Below.refl w6.heap.size w6) (Nat.le_refl _) (.cells (⟨2, firstL sr, 0, false, false, false⟩ : Fr).cells.toArray 88))).far (p := ⟨kb, 14, none⟩) hlk (.slice (some ⟨w6.heap.size, 0, none⟩) 1 1)).f 3
    have HN0 := Aside0.mk (nst_start hE6)
    have HRR := Aside0.mk hR
    have hflen := HFO.out.len
    dsimp only at hflen
    clear hp hE hR hE6 HE6 HF7 HKD6 hq0 hq1 hq2 hq3 HLR
    go_wp2_with fail
    go_loopw [69] (fun iv wr => ∃ (i : Nat) (vs vf vo : Value) (s : Ck) (l : List Int) (a : Int), i ≤ fb.length ∧ iv = .int .i64 i ∧ Aside0 (Lo w w6 kb k p wr vs vf vo s l a) ∧ Aside0 ((i < fb.length → Wf s ∧ Nst fb i s.fr.length ∧ s.fr.length ≤ i + 1) ∧ l.length = i ∧ run E (fb.drop i) i l s = R)) (fun iv _ => fb.length - (intOf iv).toNat)
    case atStart => exact ⟨0, _, _, _, startOf E, [], 0, Nat.zero_le _, rfl, HL0, ⟨fun _ => ⟨HWF0.out, HN0.out, Nat.le_refl _⟩, rfl, by simpa using HRR.out⟩⟩
    case round =>
      obtain ⟨i, vs, vf, vo, s, l, a, hi, rfl, HLo, HI⟩ := hrel
      clear HL0 HWF0 HN0 HRR
      obtain ⟨Ao, co, rfl⟩ := Kd.R_slice HLo.out.ro
      obtain ⟨Av, cv, rfl⟩ := Kd.R_slice HLo.out.cs.st
      by_cases hlt2 : i < fb.length
      · obtain ⟨adx, hB2, hxa, hxb, hxc⟩ := at_k3 (Kd.C_below HC2.out (HLo.out.belowAll HB6w.out)) (i : Int) (by omega) (by omega)
        rw [Int.toNat_natCast] at hxa hxb hxc
        obtain ⟨x, hx⟩ : ∃ x, at3 fb (i : Int) = x := ⟨_, rfl⟩
        rw [hx] at hxa hxb hxc
        have HXE := Aside0.mk hx
        have HXO := Aside0.mk (show XOk x from by
          refine HFO.out.body x ?_
          rw [← hx]
          exact getD_mem _ _ _ (by rw [Int.toNat_natCast]; exact hlt2))
        have HRUN := Aside0.mk (show (match (motive := Except Int Ck → Except (Int × Int) (List Int)) see E x s with | .error e => .error (e, (i : Int)) | .ok s1 => run E (fb.drop (i + 1)) ((i : Int) + 1) (l ++ [awake s]) s1) = R from by
          have h1 := HI.out.2.2
          rw [List.drop_eq_getElem_cons hlt2] at h1
          have h2 : fb[i] = x := by
            rw [← hx]
            unfold at3
            rw [Int.toNat_natCast, List.getD_eq_getElem?_getD, List.getElem?_eq_getElem hlt2]
            rfl
          rw [h2] at h1
          exact h1)
        obtain ⟨g, cap, rfl, hg6, hgw⟩ := HLo.out.cs.form (HI.out.1 hlt2).1.pos
        obtain ⟨q, hq⟩ : ∃ q, s.fr.length = q + 1 := ⟨s.fr.length - 1, by have := (HI.out.1 hlt2).1.pos; omega⟩
        have HLo1 := Aside0.mk (HLo.out.below (below_alloc (Below.refl _ _) (Nat.le_refl _) (xObj x)))
        have hba := blk_cell HLo1.out.ba 0
        have hbf := blk_frozen HLo1.out.ba 0
        have HLo2 := Aside0.mk ((HLo.out.setAt (i : Int)).below (below_alloc (Below.refl _ _) (Nat.le_refl _) (xObj x)))
        have HTOP := Aside0.mk (top_calls HLo2.out.cs hq)
        have hn4 := blk_lt HLo.out.ba
        have hx2b : ((wr.setCell ⟨w.heap.size + 1 + 1 + 1 + 1, 0, none⟩ (.int .i64 i)).alloc (xObj x)).heap[wr.heap.size]? = some (xObj x) := by simpa using blk_new (wr.setCell ⟨w.heap.size + 1 + 1 + 1 + 1, 0, none⟩ (.int .i64 i)) (xObj x)
        have HSZ0 := Aside0.mk HLo.out.cs.size
        have hxne : some wr.heap.size ≠ (Value.slice Ao l.length co).ownBlock := fun e => by have := Kd.R_lt HLo.out.ro _ e.symm; omega
        subst hB2
        clear hx HLo HLo1 hgw hg6
        go_wp2_with fail
        refine HTOP.out.mono ?_
        rintro e w3 ⟨rfl, hb3⟩
        have HLo3 := Aside0.mk (HLo2.out.below hb3)
        have hx3b := blk_below hx2b hb3
        have hfa := HLo3.out.cs.frAt q (by omega)
        have hfd := hfa.c3
        have hfs := hfa.c4
        have htop : s.fr.getD q zFr = s.top := by unfold Ck.top; rw [hq]; rfl
        rw [htop] at hfd hfs
        have HSZ3 := Aside0.mk HLo3.out.cs.size
        have HFRESH := Aside0.mk (show ∀ q', w3.heap.size ≤ q' → ¬ (q' = kb ∨ some q' = (Value.slice Av s.st.length cv).ownBlock ∨ some q' = (Value.slice (some ⟨g, 0, none⟩) s.fr.length cap).ownBlock) from fun q' hq' e => by
          have h6 := HLo3.out.kb6
          have h7 := HSZ3.out
          rcases e with e | e | e
          · omega
          · have := (HLo3.out.ownS _ e.symm).2; omega
          · have := (HLo3.out.ownF _ e.symm).2; omega)
        have HNO := Aside0.mk (show some (w.heap.size + 1 + 1) ≠ (Value.slice Ao l.length co).ownBlock from fun e => by have := Kd.R_base HLo3.out.ro _ e.symm; have := HLo3.out.kb6; omega)
        have hbo3 := blk_cell HLo3.out.bo 0
        clear hfa htop hb3 hx2b HLo2 HTOP hxa hxb hxc
        obtain ⟨dd, hdd⟩ : ∃ d, s.top.dead = d := ⟨_, rfl⟩
        obtain ⟨aa, haa⟩ : ∃ d, s.top.asleep = d := ⟨_, rfl⟩
        rw [hdd] at hfd
        rw [haa] at hfs
        cases dd with
        | true =>
          have HAW := Aside0.mk (show awake s = -1 by unfold awake; rw [hdd]; rfl)
          go_upto_region 19 with ((with_reducible refine gate_builtin (b := .append) (xs := #[.tmp 87, .tmp 88]) rfl ?_); at_builtin; refine Kd.R_append (Kd.int .i64) (w0 := w3) (W := w3) w6.heap.size rfl (.tmp 87) (.tmp 88) 23 3 (.int .i64 0) 8 rfl Tryd.underlying23 infoInt rfl (by decide) (by omega) (.slice Ao l.length co) l (-1) [.int .i64 (-1)] (fun q => ¬ (q = kb ∨ some q = (Value.slice Av s.st.length cv).ownBlock ∨ some q = (Value.slice (some ⟨g, 0, none⟩) s.fr.length cap).ownBlock)) (fun _ => False) rfl rfl rfl (fun _ h => h.elim) HFRESH.out HLo3.out.ro (Below.refl _ _) HSZ3.out (by have := HI.out.2.1; have := HFO.out.len; dsimp only at this; omega) ?_; intro vo1 w5 hO hB hg hat; have hbo5 := blk_grown HLo3.out.bo hg HNO.out; have hbo6 := blk_cell hbo5 0; have hbo7 := blk_frozen hbo5 0; obtain ⟨A1, c1, e1⟩ := Kd.R_slice hO; subst e1)
          have hx5b := blk_far (blk_grown hx3b hg hxne) (p := ⟨w.heap.size + 1 + 1, 0, none⟩) (by show wr.heap.size ≠ w.heap.size + 1 + 1; omega) (.slice A1 (l ++ [-1]).length c1)
          have HO5 := Aside0.mk (HLo3.out.push hg hO)
          obtain ⟨w7, hw7⟩ : ∃ w7, w7 = w5.setCell ⟨w.heap.size + 1 + 1, 0, none⟩ (.slice A1 (l ++ [-1]).length c1) := ⟨_, rfl⟩
          rw [← hw7] at hx5b HO5
          have hw7b : w5.setCell ⟨w.heap.size + 1 + 1, 0, none⟩ (.slice A1 (l.length + 1) c1) = w7 := by rw [hw7, List.length_append]; rfl
          try rw [hw7b]
          try rw [← hw7]
          have hX0 := blk_cell hx5b 0
          have hX1 := blk_cell hx5b 1
          have hX2 := blk_cell hx5b 2
          have HSEE := Aside0.mk (see_calls HST.out HEF.out x HXO.out (by have := HI.out.1 hlt2; omega) HO5.out.cs (HI.out.1 hlt2).1 rfl)
          clear hw7 hw7b hx5b hg hO hat hB
          go_wp2_with fail
          refine HSEE.out.mono ?_
          intro e w8 hh
          cases hse : see E x s with
          | error q9 =>
            rw [hse] at hh
            obtain ⟨rfl, hbad⟩ := hh
            have hRe : R = .error (q9, (i : Int)) := by
              rw [← HRUN.out, hse]
            have hbx := HO5.out.ch hbad.2
            exact one_broken (u0 := .slice A1 (l ++ [-1]).length c1) (i := (i : Int)) (k := (k : Int)) _ rfl hbx.1 hbx.2.1 hbx.2.2.1 hbx.2.2.2 (bad_below hlk HB6w.out hbad) (by omega) (by have := HFO.out.len; dsimp only at this; omega) (by rw [HTR.out, hRe]; rfl) rfl rfl
          | ok s1 =>
            rw [hse] at hh
            obtain ⟨rfl, vs9, vf9, hcs⟩ := hh
            have HL9 := Aside0.mk (HO5.out.see hcs)
            have HI9 := Aside0.mk (show (i + 1 < fb.length → Wf s1 ∧ Nst fb (i + 1) s1.fr.length ∧ s1.fr.length ≤ (i + 1) + 1) ∧ (l ++ [-1]).length = i + 1 ∧ run E (fb.drop (i + 1)) ((i + 1 : Nat) : Int) (l ++ [-1]) s1 = R from by
              refine ⟨fun h1 => ?_, by rw [List.length_append, HI.out.2.1]; rfl, ?_⟩
              · have h2 := HI.out.1 hlt2
                rcases nst_step h2.2.1 with h3 | h3
                · omega
                · rw [HXE.out] at h3
                  have h4 := see_wf HEF.out HXO.out h2.1 hse h3.1
                  refine ⟨h4.1, by rw [h4.2]; exact h3.2, ?_⟩
                  rw [h4.2]
                  have h5 := h2.2.2
                  unfold depthOf
                  split
                  · omega
                  · split <;> omega
              · have h1 := HRUN.out
                rw [hse] at h1
                rw [HAW.out] at h1
                have h2 : ((i + 1 : Nat) : Int) = (i : Int) + 1 := by omega
                rw [h2]
                exact h1)
            clear hcs hse HSEE HO5
            go_wp2_with fail
            go_roundw
            case rel => exact ⟨i + 1, vs9, vf9, .slice A1 (l ++ [-1]).length c1, s1, l ++ [-1], (i : Int), by omega, rfl, HL9, HI9⟩
            case measure => simp [intOf]; omega
        | false =>
          cases aa with
          | true =>
            have HAW := Aside0.mk (show awake s = -1 by unfold awake; rw [hdd, haa]; rfl)
            go_upto_region 19 with ((with_reducible refine gate_builtin (b := .append) (xs := #[.tmp 87, .tmp 88]) rfl ?_); at_builtin; refine Kd.R_append (Kd.int .i64) (w0 := w3) (W := w3) w6.heap.size rfl (.tmp 87) (.tmp 88) 23 3 (.int .i64 0) 8 rfl Tryd.underlying23 infoInt rfl (by decide) (by omega) (.slice Ao l.length co) l (-1) [.int .i64 (-1)] (fun q => ¬ (q = kb ∨ some q = (Value.slice Av s.st.length cv).ownBlock ∨ some q = (Value.slice (some ⟨g, 0, none⟩) s.fr.length cap).ownBlock)) (fun _ => False) rfl rfl rfl (fun _ h => h.elim) HFRESH.out HLo3.out.ro (Below.refl _ _) HSZ3.out (by have := HI.out.2.1; have := HFO.out.len; dsimp only at this; omega) ?_; intro vo1 w5 hO hB hg hat; have hbo5 := blk_grown HLo3.out.bo hg HNO.out; have hbo6 := blk_cell hbo5 0; have hbo7 := blk_frozen hbo5 0; obtain ⟨A1, c1, e1⟩ := Kd.R_slice hO; subst e1)
            have hx5b := blk_far (blk_grown hx3b hg hxne) (p := ⟨w.heap.size + 1 + 1, 0, none⟩) (by show wr.heap.size ≠ w.heap.size + 1 + 1; omega) (.slice A1 (l ++ [-1]).length c1)
            have HO5 := Aside0.mk (HLo3.out.push hg hO)
            obtain ⟨w7, hw7⟩ : ∃ w7, w7 = w5.setCell ⟨w.heap.size + 1 + 1, 0, none⟩ (.slice A1 (l ++ [-1]).length c1) := ⟨_, rfl⟩
            rw [← hw7] at hx5b HO5
            have hw7b : w5.setCell ⟨w.heap.size + 1 + 1, 0, none⟩ (.slice A1 (l.length + 1) c1) = w7 := by rw [hw7, List.length_append]; rfl
            try rw [hw7b]
            try rw [← hw7]
            have hX0 := blk_cell hx5b 0
            have hX1 := blk_cell hx5b 1
            have hX2 := blk_cell hx5b 2
            have HSEE := Aside0.mk (see_calls HST.out HEF.out x HXO.out (by have := HI.out.1 hlt2; omega) HO5.out.cs (HI.out.1 hlt2).1 rfl)
            clear hw7 hw7b hx5b hg hO hat hB
            go_wp2_with fail
            refine HSEE.out.mono ?_
            intro e w8 hh
            cases hse : see E x s with
            | error q9 =>
              rw [hse] at hh
              obtain ⟨rfl, hbad⟩ := hh
              have hRe : R = .error (q9, (i : Int)) := by
                rw [← HRUN.out, hse]
              have hbx := HO5.out.ch hbad.2
              exact one_broken (u0 := .slice A1 (l ++ [-1]).length c1) (i := (i : Int)) (k := (k : Int)) _ rfl hbx.1 hbx.2.1 hbx.2.2.1 hbx.2.2.2 (bad_below hlk HB6w.out hbad) (by omega) (by have := HFO.out.len; dsimp only at this; omega) (by rw [HTR.out, hRe]; rfl) rfl rfl
            | ok s1 =>
              rw [hse] at hh
              obtain ⟨rfl, vs9, vf9, hcs⟩ := hh
              have HL9 := Aside0.mk (HO5.out.see hcs)
              have HI9 := Aside0.mk (show (i + 1 < fb.length → Wf s1 ∧ Nst fb (i + 1) s1.fr.length ∧ s1.fr.length ≤ (i + 1) + 1) ∧ (l ++ [-1]).length = i + 1 ∧ run E (fb.drop (i + 1)) ((i + 1 : Nat) : Int) (l ++ [-1]) s1 = R from by
                refine ⟨fun h1 => ?_, by rw [List.length_append, HI.out.2.1]; rfl, ?_⟩
                · have h2 := HI.out.1 hlt2
                  rcases nst_step h2.2.1 with h3 | h3
                  · omega
                  · rw [HXE.out] at h3
                    have h4 := see_wf HEF.out HXO.out h2.1 hse h3.1
                    refine ⟨h4.1, by rw [h4.2]; exact h3.2, ?_⟩
                    rw [h4.2]
                    have h5 := h2.2.2
                    unfold depthOf
                    split
                    · omega
                    · split <;> omega
                · have h1 := HRUN.out
                  rw [hse] at h1
                  rw [HAW.out] at h1
                  have h2 : ((i + 1 : Nat) : Int) = (i : Int) + 1 := by omega
                  rw [h2]
                  exact h1)
              clear hcs hse HSEE HO5
              go_wp2_with fail
              go_roundw
              case rel => exact ⟨i + 1, vs9, vf9, .slice A1 (l ++ [-1]).length c1, s1, l ++ [-1], (i : Int), by omega, rfl, HL9, HI9⟩
              case measure => simp [intOf]; omega
          | false =>
            have HAW := Aside0.mk (show awake s = (s.st.length : Int) by unfold awake; rw [hdd, haa]; rfl)
            have hc13 := blk_cell HLo3.out.cs.box 13
            have hbo4 := cell_al hbo3 (.cells #[.int .i64 (s.st.length : Int)] 3)
            go_upto_region 18 with (fail)
            have HLd := Aside0.mk (And.intro (HLo3.out.below (drew_below w3)) (blk_drew hx3b))
            clear hx3b
            refine wp_region_noPanic ?_
            go_region_law
              (first
                | (refine Kd.R_append_step (Kd.int .i64) (w0 := w3.drew) (W := w3.drew) w6.heap.size rfl (.tmp 90) (.tmp 96) 23 3 (.int .i64 0) 8 rfl Tryd.underlying23 infoInt rfl (by decide) (by omega) (.slice Ao l.length co) l ((s.st.length : Int)) [.int .i64 ((s.st.length : Int))] (fun q => ¬ (q = kb ∨ some q = (Value.slice Av s.st.length cv).ownBlock ∨ some q = (Value.slice (some ⟨g, 0, none⟩) s.fr.length cap).ownBlock)) (fun _ => False) rfl (by show Value.slice _ _ _ = Value.slice _ _ _; simp) rfl (fun _ h => h.elim) HFRESH.out HLd.out.1.ro (Below.refl _ _) HSZ3.out (by have := HI.out.2.1; have := HFO.out.len; dsimp only at this; omega) ?_; intro vo1 w5 hO hB hg hat; have hbo5 := blk_grown HLd.out.1.bo hg HNO.out; have hbo6 := blk_cell hbo5 0; have hbo7 := blk_frozen hbo5 0; obtain ⟨A1, c1, e1⟩ := Kd.R_slice hO; subst e1)
                | fail)
            all_goals
              refine NoPanic.normal ?_
              have hx3b := HLd.out.2
              have HLo3 := Aside0.mk HLd.out.1
              have hx5b := blk_far (blk_grown hx3b hg hxne) (p := ⟨w.heap.size + 1 + 1, 0, none⟩) (by show wr.heap.size ≠ w.heap.size + 1 + 1; omega) (.slice A1 (l ++ [(s.st.length : Int)]).length c1)
              have HO5 := Aside0.mk (HLo3.out.push hg hO)
              obtain ⟨w7, hw7⟩ : ∃ w7, w7 = w5.setCell ⟨w.heap.size + 1 + 1, 0, none⟩ (.slice A1 (l ++ [(s.st.length : Int)]).length c1) := ⟨_, rfl⟩
              rw [← hw7] at hx5b HO5
              have hw7b : w5.setCell ⟨w.heap.size + 1 + 1, 0, none⟩ (.slice A1 (l.length + 1) c1) = w7 := by rw [hw7, List.length_append]; rfl
              try rw [hw7b]
              try rw [← hw7]
              have hX0 := blk_cell hx5b 0
              have hX1 := blk_cell hx5b 1
              have hX2 := blk_cell hx5b 2
              have HSEE := Aside0.mk (see_calls HST.out HEF.out x HXO.out (by have := HI.out.1 hlt2; omega) HO5.out.cs (HI.out.1 hlt2).1 rfl)
              clear hw7 hw7b hx5b hg hO hat hB
              go_wp2_with fail
              refine HSEE.out.mono ?_
              intro e w8 hh
              cases hse : see E x s with
              | error q9 =>
                rw [hse] at hh
                obtain ⟨rfl, hbad⟩ := hh
                have hRe : R = .error (q9, (i : Int)) := by
                  rw [← HRUN.out, hse]
                have hbx := HO5.out.ch hbad.2
                exact one_broken (u0 := .slice A1 (l ++ [(s.st.length : Int)]).length c1) (i := (i : Int)) (k := (k : Int)) _ rfl hbx.1 hbx.2.1 hbx.2.2.1 hbx.2.2.2 (bad_below hlk HB6w.out hbad) (by omega) (by have := HFO.out.len; dsimp only at this; omega) (by rw [HTR.out, hRe]; rfl) rfl rfl
              | ok s1 =>
                rw [hse] at hh
                obtain ⟨rfl, vs9, vf9, hcs⟩ := hh
                have HL9 := Aside0.mk (HO5.out.see hcs)
                have HI9 := Aside0.mk (show (i + 1 < fb.length → Wf s1 ∧ Nst fb (i + 1) s1.fr.length ∧ s1.fr.length ≤ (i + 1) + 1) ∧ (l ++ [(s.st.length : Int)]).length = i + 1 ∧ run E (fb.drop (i + 1)) ((i + 1 : Nat) : Int) (l ++ [(s.st.length : Int)]) s1 = R from by
                  refine ⟨fun h1 => ?_, by rw [List.length_append, HI.out.2.1]; rfl, ?_⟩
                  · have h2 := HI.out.1 hlt2
                    rcases nst_step h2.2.1 with h3 | h3
                    · omega
                    · rw [HXE.out] at h3
                      have h4 := see_wf HEF.out HXO.out h2.1 hse h3.1
                      refine ⟨h4.1, by rw [h4.2]; exact h3.2, ?_⟩
                      rw [h4.2]
                      have h5 := h2.2.2
                      unfold depthOf
                      split
                      · omega
                      · split <;> omega
                  · have h1 := HRUN.out
                    rw [hse] at h1
                    rw [HAW.out] at h1
                    have h2 : ((i + 1 : Nat) : Int) = (i : Int) + 1 := by omega
                    rw [h2]
                    exact h1)
                clear hcs hse HSEE HO5
                go_wp2_with fail
                go_roundw
                case rel => exact ⟨i + 1, vs9, vf9, .slice A1 (l ++ [(s.st.length : Int)]).length c1, s1, l ++ [(s.st.length : Int)], (i : Int), by omega, rfl, HL9, HI9⟩
                case measure => simp [intOf]; omega
      · have hie : fb.length ≤ i := by omega
        have hRl : R = .ok l := by
          have h1 := HI.out.2.2
          rw [List.drop_eq_nil_of_le hie] at h1
          exact h1.symm
        have hbo := blk_cell HLo.out.bo 0
        have hbz := blk_frozen HLo.out.bo 0
        have hbe := blk_cell HLo.out.be 0
        have hbe2 := blk_cell (blk_far HLo.out.be (p := ⟨w.heap.size + 1 + 1, 0, none⟩) (by simp) (.slice Ao l.length co)) 0
        have hbf2 := blk_frozen (blk_far HLo.out.be (p := ⟨w.heap.size + 1 + 1, 0, none⟩) (by simp) (.slice Ao l.length co)) 0
        have hfin1 : ((wr.setCell ⟨w.heap.size + 1 + 1, 0, none⟩ (.slice Ao l.length co)).setCell ⟨w.heap.size + 1 + 1 + 1, 0, none⟩ .nilIface).heap[w.heap.size + 1 + 1]? = some (.cells #[.slice Ao l.length co] 23 (0, 0)) := blk_far (by simpa using blk_set HLo.out.bo 0 (.slice Ao l.length co)) (by simp) _
        have hfin2 : ((wr.setCell ⟨w.heap.size + 1 + 1, 0, none⟩ (.slice Ao l.length co)).setCell ⟨w.heap.size + 1 + 1 + 1, 0, none⟩ .nilIface).heap[w.heap.size + 1 + 1 + 1]? = some (.cells #[.nilIface] 38 (0, 0)) := by simpa using blk_set (blk_far HLo.out.be (p := ⟨w.heap.size + 1 + 1, 0, none⟩) (by simp) (.slice Ao l.length co)) 0 .nilIface
        have hfb := ((HLo.out.belowAll HB6w.out).setCell (p := ⟨w.heap.size + 1 + 1, 0, none⟩) (by show w.heap.size ≤ w.heap.size + 1 + 1; omega) (.slice Ao l.length co)).setCell (p := ⟨w.heap.size + 1 + 1 + 1, 0, none⟩) (by show w.heap.size ≤ w.heap.size + 1 + 1 + 1; omega) .nilIface
        have HFR := Aside0.mk (show (Kd.int .i64).R 3 ((wr.setCell ⟨w.heap.size + 1 + 1, 0, none⟩ (.slice Ao l.length co)).setCell ⟨w.heap.size + 1 + 1 + 1, 0, none⟩ .nilIface) w.heap.size (fun _ => True) (.slice Ao l.length co) l from by
          have h6 := HLo.out.kb6
          refine Kd.R_lower (Kd.R_mono (Kd.R_far (Kd.R_far (Kd.R_bound HLo.out.ro) (fun q hq => ?_) _) (fun q hq => ?_) _) (fun _ _ => trivial)) HB6w.out.size
          · have := hq.2.1; show q ≠ w.heap.size + 1 + 1; omega
          · have := hq.2.1; show q ≠ w.heap.size + 1 + 1 + 1; omega)
        have HFIN := Aside0.mk (And.intro hfin1 (And.intro hfin2 hfb))
        clear hfin1 hfin2 hfb
        go_wp2_with fail
        exact one_done (n := w.heap.size) (l := l) _ rfl HFIN.out.1 HFIN.out.2.1 HFIN.out.2.2 (by rw [HTR.out, hRl]; rfl) HFR.out rfl rfl
  · have hEb : (E6 != 0) = true := by simpa using hE0
    have HT := Aside0.mk (show oneT M k = .error (E6, 1000 * k) by
      unfold oneT
      rw [HF0.out]
      dsimp only
      rw [hE6, if_pos hE0])
    have HK1 := Aside0.mk (And.intro hk1b (And.intro ho1b (And.intro he1b ha1b)))
    clear hk1b ho1b he1b ha1b hE0
    go_wp2_with fail
    exact one_broken (u0 := .slice none 0 0) (i := 0) (k := (k : Int)) _ rfl HK1.out.1 HK1.out.2.1 HK1.out.2.2.1 HK1.out.2.2.2 (HB5.out.trans ((((Below.refl _ _).alloc (Nat.le_refl _) _).trans (HB6.out.mono (by simp))).mono HB5.out.size)) (by omega) (by omega) (by rw [HT.out]; simp) rfl rfl
end Go.Proofs.YtjjhhmchomabeaaDoor.Valid
