/- isel's small functions: what they lay behind the items so far. -/
import Derived.Test.YtngpmijbjhpfhaaItem
import Derived.Deep.RegionLaw
namespace Go.Proofs.Ytngpmijbjhpfhaa.Isel
open Go.RowKit Go.Proofs.YtngpmijbjhpfhaaW.PrintWords Go.Proofs.YtngpmijbjhpfhaaW.PrintLast Go.Proofs.Ytngpmijbjhpfhaa.Mem
set_option linter.unusedVariables false
set_option linter.unusedSimpArgs false

theorem infoItem : (Try.prog.info? 42).map (fun i => (i.zero, i.size, i.bytes)) = some (some zItem.val, 9, 72) := by kernel_rfl

/-- the items so far: the variable in block g -/
structure Cd (w W : World) (g : Nat) (v : Value) (xs : List Item) : Prop where
  bel : Below w.heap.size w W
  gle : w.heap.size ≤ g
  box : W.heap[g]? = some (.cells #[v] 45 (0, 0))
  row : kItem.R 42 W w.heap.size (fun k => k ≠ g) v xs
/-- all stays but rows of items and what holds one -/
def Kp (W W1 : World) : Prop := ∀ (k : Nat) (cells : Array Value) (t : Nat), t ≠ 42 → t ≠ 45 → W.heap[k]? = some (Obj.cells cells t (0, 0)) → W1.heap[k]? = some (Obj.cells cells t (0, 0))
theorem Kp.refl (W : World) : Kp W W := fun _ _ _ _ _ h => h
theorem Kp.trans {a b c : World} (h : Kp a b) (k : Kp b c) : Kp a c := fun _ _ _ h1 h2 x => k _ _ _ h1 h2 (h _ _ _ h1 h2 x)
theorem Kp.of_below {a b : World} (h : Below a.heap.size a b) : Kp a b := fun _ _ _ _ _ x => blk_below x h
section
variable {w W W1 : World} {g : Nat} {v v1 : Value} {xs xs1 : List Item}
theorem Cd.below (h : Cd w W g v xs) (hb : Below W.heap.size W W1) : Cd w W1 g v xs :=
  ⟨h.bel.trans (hb.mono h.bel.size), h.gle, blk_below h.box hb, Kd.R_below h.row hb⟩
theorem Cd.alloc (h : Cd w W g v xs) (o : Obj) : Cd w (W.alloc o) g v xs := h.below ((Below.refl _ _).alloc (Nat.le_refl _) o)
theorem Cd.init {w W : World} (h : Below w.heap.size w W) : Cd w (W.alloc (.cells #[.slice none 0 0] 45)) W.heap.size (.slice none 0 0) [] :=
  ⟨h.alloc h.size _, h.size, blk_new _ _, Kd.R_nil _ _ _ _ _⟩
theorem Cd.put (h : Cd w W g v xs) (hg : W.grownBy W1 v.ownBlock) (hr : kItem.R 42 W1 w.heap.size (fun k => k ≠ g) v1 xs1) : Cd w (W1.setCell ⟨g, 0, none⟩ v1) g v1 xs1 := by
  have hb : ∀ k, v.ownBlock = some k → w.heap.size ≤ k := fun k hk => Kd.R_base h.row k hk
  have ho : W1.heap[g]? = some (.cells #[v] 45 (0, 0)) := blk_grown h.box hg (Kd.R_away h.row (fun _ hk => hk))
  refine ⟨?_, h.gle, by simpa using blk_set ho 0 v1, Kd.R_far hr (fun k hk => hk) v1⟩
  exact (h.bel.grown hg h.bel.size (fun k hk => hb k hk)).setCell h.gle _
theorem Cd.kept (h : Cd w W g v xs) (hg : W.grownBy W1 v.ownBlock) (u : Value) : Kp W (W1.setCell ⟨g, 0, none⟩ u) := by
  intro k cells t ht1 ht2 hk
  refine blk_far (blk_grown hk hg ?_) (fun e => ?_) _
  · intro e
    obtain ⟨c2, h2⟩ := Kd.R_typed h.row k e.symm
    rw [hk] at h2
    injection h2 with h2
    injection h2 with _ h2
    exact ht1 h2
  · have h2 := h.box
    have e : k = g := e
    subst e
    rw [hk] at h2
    injection h2 with h2
    injection h2 with _ h2
    exact ht2 h2
end
theorem cell_al {W : World} {p : Addr} {v : Value} (h : W.cell? p = some v) (o : Obj) : (W.alloc o).cell? p = some v := by
  rw [World.cell?_alloc_some _ _ _ (by rw [h]; rfl)]; exact h
theorem drew_below (w : World) : Below w.heap.size w w.drew := below_drew (Below.refl _ _)
structure Hold (P : Prop) : Prop where
  out : P
def CdOut (w W : World) (g : Nat) (xs : List Item) (e : Ending) (W' : World) : Prop := e = .returned (.tuple #[]) ∧ ∃ v', Cd w W' g v' xs ∧ Kp W W'
abbrev is (x : X) : Item := ⟨x, 0, 0⟩

theorem mark_calls {w W : World} {g : Nat} {v : Value} {xs : List Item} (H : Cd w W g v xs) (l : Int) (hl : xs.length ≤ 1000) :
    Calls Try.prog 30 #[.pointer (some ⟨g, 0, none⟩), .int .i64 l] W (CdOut w W g (xs ++ [⟨zX, l, 0⟩])) := by
  obtain ⟨Av, cv, rfl⟩ := Kd.R_slice H.row
  have HP := Aside0.mk H
  have hc1 := blk_cell H.box 0
  clear H
  have HQ := HP
  clear HP
  go_enter Try.func30, Try.ntmps30
  go_wp2_with ((with_reducible refine gate_builtin (b := .append) (xs := #[.tmp 7, .tmp 10]) rfl ?_); at_builtin; refine Kd.R_append kItem (w0 := w) w.heap.size rfl (.tmp 7) (.tmp 10) 45 42 zItem.val 72 rfl Try.underlying45 infoItem rfl (by decide) (by omega) (.slice Av xs.length cv) xs (⟨zX, l, 0⟩ : Item) (⟨zX, l, 0⟩ : Item).cells (fun k => k ≠ g) (fun _ => False) rfl rfl (kItem_M _ _ _ _) (fun _ hk => hk.elim) (fun k hk e => by have := blk_lt HQ.out.box; omega) HQ.out.row HQ.out.bel HQ.out.bel.size (by omega) ?_; intro v1 w3 hO hB hg hat; have hb1 := blk_grown HQ.out.box hg (Kd.R_away HQ.out.row (fun _ hk => hk)); have hc3 := blk_cell hb1 0; have hf3 := blk_frozen hb1 0; have HN := Aside0.mk (And.intro (HQ.out.put hg hO) (HQ.out.kept hg v1)); obtain ⟨A1, c1, e1⟩ := Kd.R_slice hO; subst e1; clear hO hB hg hat hb1)
  go_end0
  simp only [List.length_append, List.length_cons, List.length_nil, Nat.zero_add] at HN
  exact ⟨rfl, _, HN.out.1, HN.out.2⟩

theorem to_calls {w W : World} {g : Nat} {v : Value} {xs : List Item} (H : Cd w W g v xs) (l : Int) (x : X) (hl : xs.length ≤ 1000) :
    Calls Try.prog 34 #[.pointer (some ⟨g, 0, none⟩), .int .i64 l, x.val] W (CdOut w W g (xs ++ [⟨x, 0, l⟩])) := by
  obtain ⟨Av, cv, rfl⟩ := Kd.R_slice H.row
  obtain ⟨op, wd, r, b, i, c, n⟩ := x
  have HP := Aside0.mk H
  have hc1 := blk_cell H.box 0
  have HQ := Aside0.mk ((H.alloc (.cells #[.int .i64 op, .bool wd, .int .i64 r, .int .i64 b, .int .i64 i, .int .i64 c, .int .i64 n] 40)).below (drew_below _))
  have hc2 := cell_al hc1 (.cells #[.int .i64 op, .bool wd, .int .i64 r, .int .i64 b, .int .i64 i, .int .i64 c, .int .i64 n] 40)
  have hc4 := cell_al hc2 (.cells #[.int .i64 op, .bool wd, .int .i64 r, .int .i64 b, .int .i64 i, .int .i64 c, .int .i64 n, .int .i64 0, .int .i64 l] 42)
  have hKp := Kp.of_below ((Below.refl W.heap.size W).alloc (Nat.le_refl _) (.cells #[.int .i64 op, .bool wd, .int .i64 r, .int .i64 b, .int .i64 i, .int .i64 c, .int .i64 n] 40))
  clear H
  dsimp only [X.val]
  go_enter Try.func34, Try.ntmps34
  go_wp2_with fail
  go_region_law (refine Kd.R_append_step kItem (w0 := w) (W := (W.alloc (.cells #[.int .i64 op, .bool wd, .int .i64 r, .int .i64 b, .int .i64 i, .int .i64 c, .int .i64 n] 40)).drew) w.heap.size rfl (.tmp 9) (.tmp 13) 45 42 zItem.val 72 rfl Try.underlying45 infoItem rfl (by decide) (by omega) (.slice Av xs.length cv) xs (⟨⟨op, wd, r, b, i, c, n⟩, 0, l⟩ : Item) (⟨⟨op, wd, r, b, i, c, n⟩, 0, l⟩ : Item).cells (fun k => k ≠ g) (fun _ => False) rfl (by show Value.slice _ _ _ = Value.slice _ _ _; simp) (kItem_M _ _ _ _) (fun _ hk => hk.elim) (fun k hk e => by have := blk_lt HQ.out.box; omega) HQ.out.row HQ.out.bel HQ.out.bel.size (by omega) ?_; intro v1 w3 hO hB hg hat; have hb1 := blk_grown HQ.out.box hg (Kd.R_away HQ.out.row (fun _ hk => hk)); have hc3 := blk_cell hb1 0; have hf3 := blk_frozen hb1 0; have HN := Aside0.mk (And.intro (HQ.out.put hg hO) (HQ.out.kept hg v1)); obtain ⟨A1, c1, e1⟩ := Kd.R_slice hO; subst e1; clear hO hB hg hat hb1)
  all_goals
    go_end0
    simp only [List.length_append, List.length_cons, List.length_nil, Nat.zero_add] at HN
    exact ⟨rfl, _, HN.out.1, hKp.trans HN.out.2⟩

theorem when_calls {w W : World} {g : Nat} {v : Value} {xs : List Item} (H : Cd w W g v xs) (cond l : Int) (hl : xs.length ≤ 1000) :
    Calls Try.prog 17 #[.pointer (some ⟨g, 0, none⟩), .int .i64 cond, .int .i64 l] W (CdOut w W g (xs ++ [⟨⟨18, false, 0, 0, 0, cond, 0⟩, 0, l⟩])) := by
  have HP := Aside0.mk (to_calls H l ⟨18, false, 0, 0, 0, cond, 0⟩ hl)
  clear H
  go_enter Try.func17, Try.ntmps17
  go_wp2_with (go_at_call 34; refine HP.out.mono ?_; rintro e w1 ⟨rfl, HO⟩)
  go_end0
  exact ⟨rfl, HO⟩

theorem take_snoc {α : Type} (z : α) {ys : List α} {q : Nat} (h : q < ys.length) : ys.take (q + 1) = ys.take q ++ [ys.getD q z] := by
  rw [List.take_add_one]
  simp [h]

set_option maxHeartbeats 4000000 in
theorem x_calls {w W : World} {g : Nat} {v : Value} {xs : List Item} (H : Cd w W g v xs) (b : Nat) (ys : List X) (cap : Nat) (hb : W.heap[b]? = some (.cells (ys.flatMap X.cells).toArray 40 (0, 0))) (hl : xs.length + ys.length ≤ 1000) :
    Calls Try.prog 14 #[.pointer (some ⟨g, 0, none⟩), .slice (some ⟨b, 0, none⟩) ys.length cap] W (CdOut w W g (xs ++ ys.map is)) := by
  have HB := Aside0.mk hb
  have HP := Aside0.mk (And.intro H (Kp.refl W))
  clear H hb
  go_enter Try.func14, Try.ntmps14
  go_wp2_with fail
  go_loopw [8] (fun iv wr => ∃ (q : Nat) (v' : Value), q ≤ ys.length ∧ iv = .int .i64 q ∧ Aside0 (Cd w wr g v' (xs ++ (ys.take q).map is) ∧ Kp W wr)) (fun iv _ => ys.length - (intOf iv).toNat)
  case atStart => exact ⟨0, v, Nat.zero_le _, rfl, by simpa using HP⟩
  case round =>
    obtain ⟨q, v', hq, rfl, HP1⟩ := hrel
    clear HP
    by_cases hql : q < ys.length
    · have HS := Aside0.mk (show xs ++ (ys.take (q + 1)).map is = (xs ++ (ys.take q).map is) ++ [is (ys.getD q zX)] by rw [take_snoc zX hql]; simp)
      obtain ⟨hx0, hx1, hx2, hx3, hx4, hx5, hx6⟩ := at_x (HP1.out.2 _ _ _ (by decide) (by decide) HB.out) q hql
      obtain ⟨x, hx⟩ : ∃ x, ys.getD q zX = x := ⟨_, rfl⟩
      rw [hx] at hx0 hx1 hx2 hx3 hx4 hx5 hx6 HS
      clear hx
      obtain ⟨op, wd, r, bb, i, c, n⟩ := x
      dsimp only at hx0 hx1 hx2 hx3 hx4 hx5 hx6
      obtain ⟨zs, hzs⟩ : ∃ zs, xs ++ (ys.take q).map is = zs := ⟨_, rfl⟩
      have hzl : zs.length ≤ 999 := by rw [← hzs]; simp; omega
      rw [hzs] at HP1 HS
      clear hzs
      obtain ⟨Av, cv, rfl⟩ := Kd.R_slice HP1.out.1.row
      have hc1 := blk_cell HP1.out.1.box 0
      have hc2 := cell_al hc1 (.cells #[.int .i64 op, .bool wd, .int .i64 r, .int .i64 bb, .int .i64 i, .int .i64 c, .int .i64 n] 40)
      have hc4 := cell_al hc2 (.cells #[.int .i64 op, .bool wd, .int .i64 r, .int .i64 bb, .int .i64 i, .int .i64 c, .int .i64 n, .int .i64 0, .int .i64 0] 42)
      have hKp := HP1.out.2.trans (Kp.of_below ((Below.refl wr.heap.size wr).alloc (Nat.le_refl _) (.cells #[.int .i64 op, .bool wd, .int .i64 r, .int .i64 bb, .int .i64 i, .int .i64 c, .int .i64 n] 40)))
      have HQ := Aside0.mk ((HP1.out.1.alloc (.cells #[.int .i64 op, .bool wd, .int .i64 r, .int .i64 bb, .int .i64 i, .int .i64 c, .int .i64 n] 40)).below (drew_below _))
      clear HP1
      go_wp2_with fail
      go_region_law (refine Kd.R_append_step kItem (w0 := w) (W := (wr.alloc (.cells #[.int .i64 op, .bool wd, .int .i64 r, .int .i64 bb, .int .i64 i, .int .i64 c, .int .i64 n] 40)).drew) w.heap.size rfl (.tmp 15) (.tmp 18) 45 42 zItem.val 72 rfl Try.underlying45 infoItem rfl (by decide) (by omega) (.slice Av zs.length cv) zs (⟨⟨op, wd, r, bb, i, c, n⟩, 0, 0⟩ : Item) (⟨⟨op, wd, r, bb, i, c, n⟩, 0, 0⟩ : Item).cells (fun k => k ≠ g) (fun _ => False) rfl (by show Value.slice _ _ _ = Value.slice _ _ _; simp) (kItem_M _ _ _ _) (fun _ hk => hk.elim) (fun k hk e => by have := blk_lt HQ.out.box; omega) HQ.out.row HQ.out.bel HQ.out.bel.size (by omega) ?_; intro v1 w3 hO hB hg hat; have hb1 := blk_grown HQ.out.box hg (Kd.R_away HQ.out.row (fun _ hk => hk)); have hc3 := blk_cell hb1 0; have hf3 := blk_frozen hb1 0; have HN := Aside0.mk (And.intro (HQ.out.put hg hO) (HQ.out.kept hg v1)); obtain ⟨A1, c1, e1⟩ := Kd.R_slice hO; subst e1; clear hO hB hg hat hb1)
      all_goals
        simp only [List.length_append, List.length_cons, List.length_nil, Nat.zero_add] at HN
        go_wp2_with fail
        go_roundw
        case rel => exact ⟨q + 1, _, by omega, by go_num, by rw [HS.out]; exact ⟨HN.out.1, hKp.trans HN.out.2⟩⟩
        case measure => simp [intOf]; omega
    · have hqe : q = ys.length := by omega
      subst hqe
      rw [List.take_length] at HP1
      go_wp2_with fail
      go_end0
      exact ⟨rfl, _, HP1.out.1, HP1.out.2⟩
end Go.Proofs.Ytngpmijbjhpfhaa.Isel
