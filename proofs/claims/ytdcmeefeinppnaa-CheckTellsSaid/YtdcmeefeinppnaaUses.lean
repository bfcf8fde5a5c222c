/- rir.Uses: the cells that an instruction reads, in order, each once; slices.Sort and slices.Compact of a row of one's own. -/
import Derived.Test.YtdcmeefeinppnaaSortRow
import Derived.Test.YtdcmeefeinppnaaMem
import Derived.Test.YtdcmeefeinppnaaShelf
namespace Go.Proofs.Ytdcmeefeinppnaa.Uses
open Go.RowKit Go.Proofs.YtdcmeefeinppnaaW.PrintWords Go.Proofs.YtdcmeefeinppnaaW.PrintLast Go.Proofs.Ytdcmeefeinppnaa.SortRow
set_option linter.unusedVariables false
set_option linter.unusedSimpArgs false

def sorted (l : List Int) : List Int := l.mergeSort fun x y => decide (x ≤ y)
theorem sorted_length (l : List Int) : (sorted l).length = l.length := by unfold sorted; exact List.length_mergeSort _

def RowOut (w0 : World) (base : Nat) (ok : Nat → Prop) (v : Value) (xs : List Int) (e : Ending) (w' : World) : Prop :=
  (Kd.int .i64).R 3 w' base ok v xs ∧ w0.grownBy w' v.ownBlock

theorem sort_calls {w : World} {base : Nat} {ok : Nat → Prop} {v : Value} {xs : List Int} (h : (Kd.int .i64).R 3 w base ok v xs) (hn : xs.length < 4611686018427387904) :
    Calls Try.prog 52 #[v] w fun e w' => e = .returned (.tuple #[]) ∧ RowOut w base ok v (sorted xs) e w' := by
  by_cases h0 : xs = []
  · subst h0
    obtain ⟨A, c, rfl⟩ := Kd.R_slice h
    refine (Try.slices_Sort_int_none A c w).mono ?_
    rintro e w' ⟨rfl, rfl⟩
    exact ⟨rfl, by have e0 : sorted [] = [] := by simp [sorted]
                   rw [e0]; exact h, ⟨rfl, rfl, rfl, Nat.le_refl _, fun _ _ _ => rfl⟩⟩
  · obtain ⟨g, cap, rfl, hb, hg, hc⟩ := Kd.R_form h (by cases xs with | nil => exact absurd rfl h0 | cons _ _ => simp)
    obtain ⟨hH, _, _, _⟩ := holds_R h
    refine (Try.slices_Sort_int g 0 cap xs w hH hg hn).mono ?_
    rintro e w' ⟨rfl, n, os, rfl⟩
    refine ⟨rfl, ?_, ?_⟩
    · have := sorted_R h (ys := sorted xs) (sorted_length xs) n os
      rw [sorted_length] at this
      exact this
    · obtain ⟨p1, p2, p3, p4⟩ := putRow_same («Sort».ahead w n) g (sorted xs)
      have hs : («Sort».ahead w n).heap.size = w.heap.size := rfl
      refine ⟨p1, p2, p3, by unfold «Sort».grow; simp only [Array.size_append]; unfold sorted at p4; omega, fun k hk hne => ?_⟩
      have hkg : k ≠ g := fun e => hne (by rw [e]; rfl)
      have := (below_grow («Sort».putRow (Value.int .i64) («Sort».ahead w n) g 0 (sorted xs).toArray) os).block k (by omega)
      unfold sorted at this
      rw [this, heap_putRow_other hkg]
      rfl
theorem compact_calls {w : World} {base : Nat} {ok : Nat → Prop} {v : Value} {xs : List Int} (h : (Kd.int .i64).R 3 w base ok v xs) (hn : xs.length < 4611686018427387904) :
    Calls Try.prog 53 #[v] w fun e w' => ∃ v', e = .returned v' ∧ v'.ownBlock = v.ownBlock ∧ (Kd.int .i64).R 3 w' base ok v' (Lib.compact xs) ∧ w.grownBy w' v.ownBlock := by
  by_cases h0 : xs = []
  · subst h0
    obtain ⟨A, c, rfl⟩ := Kd.R_slice h
    refine (Try.slices_Compact_int_empty A c w).mono ?_
    rintro e w' ⟨rfl, rfl⟩
    exact ⟨_, rfl, rfl, h, ⟨rfl, rfl, rfl, Nat.le_refl _, fun _ _ _ => rfl⟩⟩
  · obtain ⟨g, cap, rfl, hb, hg, hc⟩ := Kd.R_form h (by cases xs with | nil => exact absurd rfl h0 | cons _ _ => simp)
    obtain ⟨hH, _, hcap, _⟩ := holds_R h
    refine (Try.slices_Compact_int g 0 cap xs w hH (by omega) hcap).mono ?_
    rintro e w' ⟨rfl, q, hw⟩
    obtain ⟨ys, hys⟩ : ∃ ys, ys = Lib.compact xs ++ List.replicate (xs.length - (Lib.compact xs).length) 0 := ⟨_, rfl⟩
    have hle : (Lib.compact xs).length ≤ xs.length := Lib.compact_length_le xs
    have hl : ys.length = xs.length := by rw [hys]; simp; omega
    rw [← hys] at hw
    subst hw
    have h1 : (Kd.int .i64).R 3 («Sort».ahead w q) base ok (.slice (some ⟨g, 0, none⟩) xs.length cap) xs := h
    have h2 := R_putRow h1 hl
    have h3 := Kd.R_take h2 (m := (Lib.compact xs).length) (by omega)
    have h4 : ys.take (Lib.compact xs).length = Lib.compact xs := by rw [hys]; simp
    rw [h4] at h3
    obtain ⟨p1, p2, p3, p4⟩ := putRow_same («Sort».ahead w q) g ys
    refine ⟨_, rfl, rfl, h3, ⟨p1, p2, p3, by rw [p4]; exact Nat.le_refl _, fun k hk hne => ?_⟩⟩
    exact heap_putRow_other (fun e => hne (by rw [e]; rfl)) ys

/-! ### the walk -/
def raw (op a b c : Int) : List Int :=
  if op = 4 then [c, b, a]
  else if op = 3 ∨ op = 6 then [b, a]
  else if op = 2 ∨ op = 8 ∨ op = 11 ∨ op = 12 ∨ op = 13 ∨ op = 5 then [a]
  else if op = 15 ∧ 0 ≤ a then [a]
  else []
def uses (op a b c : Int) : List Int := Lib.compact (sorted (raw op a b c))

theorem infoInt : (Try.prog.info? 3).map (fun i => (i.zero, i.size, i.bytes)) = some (some (.int .i64 0), 1, 8) := by kernel_rfl

/-- what holds in Uses: the instruction's box, the row so far -/
structure Ust (w W : World) (box : Array Value) (v : Value) (xs : List Int) : Prop where
  bel : Below w.heap.size w W
  sz : w.heap.size + 1 ≤ W.heap.size
  box : W.heap[w.heap.size]? = some (.cells box 38 (0, 0))
  row : (Kd.int .i64).R 3 W (w.heap.size + 1) (fun _ => True) v xs
theorem Ust.init (w : World) (box : Array Value) : Ust w (w.alloc (.cells box 38)) box (.slice none 0 0) [] :=
  ⟨(Below.refl _ _).alloc (Nat.le_refl _) _, by simp, blk_new _ _, Kd.R_nil _ _ _ _ _⟩
theorem Ust.cell {w W : World} {box : Array Value} {v : Value} {xs : List Int} (h : Ust w W box v xs) (i : Nat) : W.cell? ⟨w.heap.size, i, none⟩ = box[i]? := blk_cell h.box i
theorem Ust.grown {w W W1 : World} {box : Array Value} {v v1 : Value} {xs xs1 : List Int} (h : Ust w W box v xs) (hg : W.grownBy W1 v.ownBlock) (hr : (Kd.int .i64).R 3 W1 (w.heap.size + 1) (fun _ => True) v1 xs1) : Ust w W1 box v1 xs1 :=
  ⟨h.bel.grown hg (by have := h.sz; omega) (fun k hk => by have := Kd.R_base h.row k hk; omega), Nat.le_trans h.sz hg.size, blk_grown h.box hg (fun e => by have := Kd.R_base h.row _ e.symm; omega), hr⟩

section
variable {ops : Array Oper} {rest : List Oper} {o : Oper} {a : Act} {Q : Exit → Act → World → Prop}
theorem wp_app {w W : World} {box : Array Value} {v : Value} {xs : List Int} (H : Aside0 (Ust w W box v xs)) (hgd : o.guard = none) (s x : Operand)
    (ho : o.op = .call { callee := .builtin .append, args := #[s, x], argTypes := #[26, 26] }) (p : Int) (hs : a.eval s = v) {nb : Nat} (hx : a.eval x = .slice (some ⟨nb, 0, none⟩) 1 1) (hnb : nb = W.heap.size) (hl : xs.length < 100)
    (h : ∀ A c w1, Aside0 (Ust w w1 box (.slice A (xs ++ [p]).length c) (xs ++ [p])) → wpList Try.prog ops Q rest (a.put o.dst (.slice A (xs ++ [p]).length c)) w1) :
    wpList Try.prog ops Q (o :: rest) a (W.alloc (.cells #[.int .i64 p] 3)) := by
  subst hnb
  refine Kd.R_append (Kd.int .i64) (w0 := W) (w.heap.size + 1) hgd s x 26 3 (.int .i64 0) 8 ho Try.underlying26 infoInt rfl (by decide) (by omega) v xs p [.int .i64 p] (fun _ => True) (fun _ => False) hs hx rfl (fun _ hk => hk.elim) (fun _ _ => trivial) H.out.row (Below.refl _ _) H.out.sz (by omega) ?_
  intro v1 w1 hO hB hg hat
  obtain ⟨A, c, rfl⟩ := Kd.R_slice hO
  exact h A c w1 ⟨H.out.grown hg hO⟩
end

def UsesOut (w : World) (l : List Int) (e : Ending) (w' : World) : Prop := ∃ v, e = .returned v ∧ (Kd.int .i64).R 3 w' w.heap.size (fun _ => True) v l ∧ Below w.heap.size w w'

theorem uses_select (op d a b c n m : Int) (w : World) (h : op = 4) : Calls Try.prog 23 #[.agg #[.int .i64 op, .int .i64 d, .int .i64 a, .int .i64 b, .int .i64 c, .int .i64 n, .int .i64 m]] w (UsesOut w (Lib.compact (sorted [c, b, a]))) := by
  subst h
  have H0 := Aside0.mk (Ust.init w #[.int .i64 4, .int .i64 d, .int .i64 a, .int .i64 b, .int .i64 c, .int .i64 n, .int .i64 m])
  go_enter Try.func23, Try.ntmps23
  go_wp2_with (first
    | ((with_reducible refine gate_builtin (b := .append) (xs := #[.tmp 20, .tmp 23]) rfl ?_); at_builtin; refine wp_app H0 rfl (.tmp 20) (.tmp 23) rfl c rfl rfl (by simp) (by simp) ?_; intro A1 c1 w1 H1; have hb1 := H1.out.cell 3; have ha1 := H1.out.cell 2; clear H0)
    | ((with_reducible refine gate_builtin (b := .append) (xs := #[.tmp 25, .tmp 28]) rfl ?_); at_builtin; refine wp_app H1 rfl (.tmp 25) (.tmp 28) rfl b rfl rfl (by simp) (by simp) ?_; intro A2 c2 w2 H2; have ha2 := H2.out.cell 2; clear H1 hb1 ha1)
    | ((with_reducible refine gate_builtin (b := .append) (xs := #[.tmp 30, .tmp 33]) rfl ?_); at_builtin; refine wp_app H2 rfl (.tmp 30) (.tmp 33) rfl a rfl rfl (by simp) (by simp) ?_; intro A3 c3 w3 H3; clear H2 ha2)
    | (go_at_call 52; refine (sort_calls H3.out.row (by simp)).mono ?_; rintro e w4 ⟨rfl, hR, hg⟩; have H4 := Aside0.mk (H3.out.grown hg hR); clear hR hg H3)
    | (go_at_call 53; refine (compact_calls H4.out.row (by rw [sorted_length]; simp)).mono ?_; rintro e w5 ⟨v5, rfl, hv, hR, hg⟩; have H5 := Aside0.mk (H4.out.grown hg hR); clear hR hg hv H4))
  go_ret
  exact ⟨_, rfl, Kd.R_lower H5.out.row (Nat.le_succ _), H5.out.bel⟩
theorem uses_two3 (op d a b c n m : Int) (w : World) (h : op = 3) : Calls Try.prog 23 #[.agg #[.int .i64 op, .int .i64 d, .int .i64 a, .int .i64 b, .int .i64 c, .int .i64 n, .int .i64 m]] w (UsesOut w (Lib.compact (sorted [b, a]))) := by
  subst h
  have H0 := Aside0.mk (Ust.init w #[.int .i64 3, .int .i64 d, .int .i64 a, .int .i64 b, .int .i64 c, .int .i64 n, .int .i64 m])
  go_enter Try.func23, Try.ntmps23
  go_wp2_with (first
    | ((with_reducible refine gate_builtin (b := .append) (xs := #[.tmp 25, .tmp 28]) rfl ?_); at_builtin; refine wp_app H0 rfl (.tmp 25) (.tmp 28) rfl b rfl rfl (by simp) (by simp) ?_; intro A2 c2 w2 H2; have ha2 := H2.out.cell 2; clear H0)
    | ((with_reducible refine gate_builtin (b := .append) (xs := #[.tmp 30, .tmp 33]) rfl ?_); at_builtin; refine wp_app H2 rfl (.tmp 30) (.tmp 33) rfl a rfl rfl (by simp) (by simp) ?_; intro A3 c3 w3 H3; clear H2 ha2)
    | (go_at_call 52; refine (sort_calls H3.out.row (by simp)).mono ?_; rintro e w4 ⟨rfl, hR, hg⟩; have H4 := Aside0.mk (H3.out.grown hg hR); clear hR hg H3)
    | (go_at_call 53; refine (compact_calls H4.out.row (by rw [sorted_length]; simp)).mono ?_; rintro e w5 ⟨v5, rfl, hv, hR, hg⟩; have H5 := Aside0.mk (H4.out.grown hg hR); clear hR hg hv H4))
  go_ret
  exact ⟨_, rfl, Kd.R_lower H5.out.row (Nat.le_succ _), H5.out.bel⟩
theorem uses_two6 (op d a b c n m : Int) (w : World) (h : op = 6) : Calls Try.prog 23 #[.agg #[.int .i64 op, .int .i64 d, .int .i64 a, .int .i64 b, .int .i64 c, .int .i64 n, .int .i64 m]] w (UsesOut w (Lib.compact (sorted [b, a]))) := by
  subst h
  have H0 := Aside0.mk (Ust.init w #[.int .i64 6, .int .i64 d, .int .i64 a, .int .i64 b, .int .i64 c, .int .i64 n, .int .i64 m])
  go_enter Try.func23, Try.ntmps23
  go_wp2_with (first
    | ((with_reducible refine gate_builtin (b := .append) (xs := #[.tmp 25, .tmp 28]) rfl ?_); at_builtin; refine wp_app H0 rfl (.tmp 25) (.tmp 28) rfl b rfl rfl (by simp) (by simp) ?_; intro A2 c2 w2 H2; have ha2 := H2.out.cell 2; clear H0)
    | ((with_reducible refine gate_builtin (b := .append) (xs := #[.tmp 30, .tmp 33]) rfl ?_); at_builtin; refine wp_app H2 rfl (.tmp 30) (.tmp 33) rfl a rfl rfl (by simp) (by simp) ?_; intro A3 c3 w3 H3; clear H2 ha2)
    | (go_at_call 52; refine (sort_calls H3.out.row (by simp)).mono ?_; rintro e w4 ⟨rfl, hR, hg⟩; have H4 := Aside0.mk (H3.out.grown hg hR); clear hR hg H3)
    | (go_at_call 53; refine (compact_calls H4.out.row (by rw [sorted_length]; simp)).mono ?_; rintro e w5 ⟨v5, rfl, hv, hR, hg⟩; have H5 := Aside0.mk (H4.out.grown hg hR); clear hR hg hv H4))
  go_ret
  exact ⟨_, rfl, Kd.R_lower H5.out.row (Nat.le_succ _), H5.out.bel⟩
theorem uses_one2 (op d a b c n m : Int) (w : World) (h : op = 2) : Calls Try.prog 23 #[.agg #[.int .i64 op, .int .i64 d, .int .i64 a, .int .i64 b, .int .i64 c, .int .i64 n, .int .i64 m]] w (UsesOut w (Lib.compact (sorted [a]))) := by
  subst h
  have H0 := Aside0.mk (Ust.init w #[.int .i64 2, .int .i64 d, .int .i64 a, .int .i64 b, .int .i64 c, .int .i64 n, .int .i64 m])
  go_enter Try.func23, Try.ntmps23
  go_wp2_with (first
    | ((with_reducible refine gate_builtin (b := .append) (xs := #[.tmp 30, .tmp 33]) rfl ?_); at_builtin; refine wp_app H0 rfl (.tmp 30) (.tmp 33) rfl a rfl rfl (by simp) (by simp) ?_; intro A3 c3 w3 H3; clear H0)
    | (go_at_call 52; refine (sort_calls H3.out.row (by simp)).mono ?_; rintro e w4 ⟨rfl, hR, hg⟩; have H4 := Aside0.mk (H3.out.grown hg hR); clear hR hg H3)
    | (go_at_call 53; refine (compact_calls H4.out.row (by rw [sorted_length]; simp)).mono ?_; rintro e w5 ⟨v5, rfl, hv, hR, hg⟩; have H5 := Aside0.mk (H4.out.grown hg hR); clear hR hg hv H4))
  go_ret
  exact ⟨_, rfl, Kd.R_lower H5.out.row (Nat.le_succ _), H5.out.bel⟩
theorem uses_one8 (op d a b c n m : Int) (w : World) (h : op = 8) : Calls Try.prog 23 #[.agg #[.int .i64 op, .int .i64 d, .int .i64 a, .int .i64 b, .int .i64 c, .int .i64 n, .int .i64 m]] w (UsesOut w (Lib.compact (sorted [a]))) := by
  subst h
  have H0 := Aside0.mk (Ust.init w #[.int .i64 8, .int .i64 d, .int .i64 a, .int .i64 b, .int .i64 c, .int .i64 n, .int .i64 m])
  go_enter Try.func23, Try.ntmps23
  go_wp2_with (first
    | ((with_reducible refine gate_builtin (b := .append) (xs := #[.tmp 30, .tmp 33]) rfl ?_); at_builtin; refine wp_app H0 rfl (.tmp 30) (.tmp 33) rfl a rfl rfl (by simp) (by simp) ?_; intro A3 c3 w3 H3; clear H0)
    | (go_at_call 52; refine (sort_calls H3.out.row (by simp)).mono ?_; rintro e w4 ⟨rfl, hR, hg⟩; have H4 := Aside0.mk (H3.out.grown hg hR); clear hR hg H3)
    | (go_at_call 53; refine (compact_calls H4.out.row (by rw [sorted_length]; simp)).mono ?_; rintro e w5 ⟨v5, rfl, hv, hR, hg⟩; have H5 := Aside0.mk (H4.out.grown hg hR); clear hR hg hv H4))
  go_ret
  exact ⟨_, rfl, Kd.R_lower H5.out.row (Nat.le_succ _), H5.out.bel⟩
theorem uses_one11 (op d a b c n m : Int) (w : World) (h : op = 11) : Calls Try.prog 23 #[.agg #[.int .i64 op, .int .i64 d, .int .i64 a, .int .i64 b, .int .i64 c, .int .i64 n, .int .i64 m]] w (UsesOut w (Lib.compact (sorted [a]))) := by
  subst h
  have H0 := Aside0.mk (Ust.init w #[.int .i64 11, .int .i64 d, .int .i64 a, .int .i64 b, .int .i64 c, .int .i64 n, .int .i64 m])
  go_enter Try.func23, Try.ntmps23
  go_wp2_with (first
    | ((with_reducible refine gate_builtin (b := .append) (xs := #[.tmp 30, .tmp 33]) rfl ?_); at_builtin; refine wp_app H0 rfl (.tmp 30) (.tmp 33) rfl a rfl rfl (by simp) (by simp) ?_; intro A3 c3 w3 H3; clear H0)
    | (go_at_call 52; refine (sort_calls H3.out.row (by simp)).mono ?_; rintro e w4 ⟨rfl, hR, hg⟩; have H4 := Aside0.mk (H3.out.grown hg hR); clear hR hg H3)
    | (go_at_call 53; refine (compact_calls H4.out.row (by rw [sorted_length]; simp)).mono ?_; rintro e w5 ⟨v5, rfl, hv, hR, hg⟩; have H5 := Aside0.mk (H4.out.grown hg hR); clear hR hg hv H4))
  go_ret
  exact ⟨_, rfl, Kd.R_lower H5.out.row (Nat.le_succ _), H5.out.bel⟩
theorem uses_one12 (op d a b c n m : Int) (w : World) (h : op = 12) : Calls Try.prog 23 #[.agg #[.int .i64 op, .int .i64 d, .int .i64 a, .int .i64 b, .int .i64 c, .int .i64 n, .int .i64 m]] w (UsesOut w (Lib.compact (sorted [a]))) := by
  subst h
  have H0 := Aside0.mk (Ust.init w #[.int .i64 12, .int .i64 d, .int .i64 a, .int .i64 b, .int .i64 c, .int .i64 n, .int .i64 m])
  go_enter Try.func23, Try.ntmps23
  go_wp2_with (first
    | ((with_reducible refine gate_builtin (b := .append) (xs := #[.tmp 30, .tmp 33]) rfl ?_); at_builtin; refine wp_app H0 rfl (.tmp 30) (.tmp 33) rfl a rfl rfl (by simp) (by simp) ?_; intro A3 c3 w3 H3; clear H0)
    | (go_at_call 52; refine (sort_calls H3.out.row (by simp)).mono ?_; rintro e w4 ⟨rfl, hR, hg⟩; have H4 := Aside0.mk (H3.out.grown hg hR); clear hR hg H3)
    | (go_at_call 53; refine (compact_calls H4.out.row (by rw [sorted_length]; simp)).mono ?_; rintro e w5 ⟨v5, rfl, hv, hR, hg⟩; have H5 := Aside0.mk (H4.out.grown hg hR); clear hR hg hv H4))
  go_ret
  exact ⟨_, rfl, Kd.R_lower H5.out.row (Nat.le_succ _), H5.out.bel⟩
theorem uses_one13 (op d a b c n m : Int) (w : World) (h : op = 13) : Calls Try.prog 23 #[.agg #[.int .i64 op, .int .i64 d, .int .i64 a, .int .i64 b, .int .i64 c, .int .i64 n, .int .i64 m]] w (UsesOut w (Lib.compact (sorted [a]))) := by
  subst h
  have H0 := Aside0.mk (Ust.init w #[.int .i64 13, .int .i64 d, .int .i64 a, .int .i64 b, .int .i64 c, .int .i64 n, .int .i64 m])
  go_enter Try.func23, Try.ntmps23
  go_wp2_with (first
    | ((with_reducible refine gate_builtin (b := .append) (xs := #[.tmp 30, .tmp 33]) rfl ?_); at_builtin; refine wp_app H0 rfl (.tmp 30) (.tmp 33) rfl a rfl rfl (by simp) (by simp) ?_; intro A3 c3 w3 H3; clear H0)
    | (go_at_call 52; refine (sort_calls H3.out.row (by simp)).mono ?_; rintro e w4 ⟨rfl, hR, hg⟩; have H4 := Aside0.mk (H3.out.grown hg hR); clear hR hg H3)
    | (go_at_call 53; refine (compact_calls H4.out.row (by rw [sorted_length]; simp)).mono ?_; rintro e w5 ⟨v5, rfl, hv, hR, hg⟩; have H5 := Aside0.mk (H4.out.grown hg hR); clear hR hg hv H4))
  go_ret
  exact ⟨_, rfl, Kd.R_lower H5.out.row (Nat.le_succ _), H5.out.bel⟩
theorem uses_one5 (op d a b c n m : Int) (w : World) (h : op = 5) : Calls Try.prog 23 #[.agg #[.int .i64 op, .int .i64 d, .int .i64 a, .int .i64 b, .int .i64 c, .int .i64 n, .int .i64 m]] w (UsesOut w (Lib.compact (sorted [a]))) := by
  subst h
  have H0 := Aside0.mk (Ust.init w #[.int .i64 5, .int .i64 d, .int .i64 a, .int .i64 b, .int .i64 c, .int .i64 n, .int .i64 m])
  go_enter Try.func23, Try.ntmps23
  go_wp2_with (first
    | ((with_reducible refine gate_builtin (b := .append) (xs := #[.tmp 30, .tmp 33]) rfl ?_); at_builtin; refine wp_app H0 rfl (.tmp 30) (.tmp 33) rfl a rfl rfl (by simp) (by simp) ?_; intro A3 c3 w3 H3; clear H0)
    | (go_at_call 52; refine (sort_calls H3.out.row (by simp)).mono ?_; rintro e w4 ⟨rfl, hR, hg⟩; have H4 := Aside0.mk (H3.out.grown hg hR); clear hR hg H3)
    | (go_at_call 53; refine (compact_calls H4.out.row (by rw [sorted_length]; simp)).mono ?_; rintro e w5 ⟨v5, rfl, hv, hR, hg⟩; have H5 := Aside0.mk (H4.out.grown hg hR); clear hR hg hv H4))
  go_ret
  exact ⟨_, rfl, Kd.R_lower H5.out.row (Nat.le_succ _), H5.out.bel⟩
theorem uses_ret (op d a b c n m : Int) (w : World) (h : op = 15) (h0 : 0 ≤ a) : Calls Try.prog 23 #[.agg #[.int .i64 op, .int .i64 d, .int .i64 a, .int .i64 b, .int .i64 c, .int .i64 n, .int .i64 m]] w (UsesOut w (Lib.compact (sorted [a]))) := by
  subst h
  have H0 := Aside0.mk (Ust.init w #[.int .i64 15, .int .i64 d, .int .i64 a, .int .i64 b, .int .i64 c, .int .i64 n, .int .i64 m])
  have h1 : decide (0 ≤ a) = true := decide_eq_true h0
  go_enter Try.func23, Try.ntmps23
  go_wp2_with (first
    | ((with_reducible refine gate_builtin (b := .append) (xs := #[.tmp 38, .tmp 41]) rfl ?_); at_builtin; refine wp_app H0 rfl (.tmp 38) (.tmp 41) rfl a rfl rfl (by simp) (by simp) ?_; intro A3 c3 w3 H3; clear H0)
    | (go_at_call 52; refine (sort_calls H3.out.row (by simp)).mono ?_; rintro e w4 ⟨rfl, hR, hg⟩; have H4 := Aside0.mk (H3.out.grown hg hR); clear hR hg H3)
    | (go_at_call 53; refine (compact_calls H4.out.row (by rw [sorted_length]; simp)).mono ?_; rintro e w5 ⟨v5, rfl, hv, hR, hg⟩; have H5 := Aside0.mk (H4.out.grown hg hR); clear hR hg hv H4))
  go_ret
  exact ⟨_, rfl, Kd.R_lower H5.out.row (Nat.le_succ _), H5.out.bel⟩
theorem uses_noret (op d a b c n m : Int) (w : World) (h : op = 15) (h0 : a < 0) : Calls Try.prog 23 #[.agg #[.int .i64 op, .int .i64 d, .int .i64 a, .int .i64 b, .int .i64 c, .int .i64 n, .int .i64 m]] w (UsesOut w (Lib.compact (sorted []))) := by
  subst h
  have H3 := Aside0.mk (Ust.init w #[.int .i64 15, .int .i64 d, .int .i64 a, .int .i64 b, .int .i64 c, .int .i64 n, .int .i64 m])
  have h1 : decide (0 ≤ a) = false := decide_eq_false (by omega)
  go_enter Try.func23, Try.ntmps23
  go_wp2_with (first
    | fail
    | (go_at_call 52; refine (sort_calls H3.out.row (by simp)).mono ?_; rintro e w4 ⟨rfl, hR, hg⟩; have H4 := Aside0.mk (H3.out.grown hg hR); clear hR hg H3)
    | (go_at_call 53; refine (compact_calls H4.out.row (by rw [sorted_length]; simp)).mono ?_; rintro e w5 ⟨v5, rfl, hv, hR, hg⟩; have H5 := Aside0.mk (H4.out.grown hg hR); clear hR hg hv H4))
  go_ret
  exact ⟨_, rfl, Kd.R_lower H5.out.row (Nat.le_succ _), H5.out.bel⟩
theorem uses_none (op d a b c n m : Int) (w : World) (h4 : op ≠ 4) (h3 : op ≠ 3) (h6 : op ≠ 6) (h2 : op ≠ 2) (h8 : op ≠ 8) (h11 : op ≠ 11) (h12 : op ≠ 12) (h13 : op ≠ 13) (h5 : op ≠ 5) (h15 : op ≠ 15) : Calls Try.prog 23 #[.agg #[.int .i64 op, .int .i64 d, .int .i64 a, .int .i64 b, .int .i64 c, .int .i64 n, .int .i64 m]] w (UsesOut w (Lib.compact (sorted []))) := by
  have H3 := Aside0.mk (Ust.init w #[.int .i64 op, .int .i64 d, .int .i64 a, .int .i64 b, .int .i64 c, .int .i64 n, .int .i64 m])
  have g4 : (op == 4) = false := beq_eq_false_iff_ne.mpr h4
  have g3 : (op == 3) = false := beq_eq_false_iff_ne.mpr h3
  have g6 : (op == 6) = false := beq_eq_false_iff_ne.mpr h6
  have g2 : (op == 2) = false := beq_eq_false_iff_ne.mpr h2
  have g8 : (op == 8) = false := beq_eq_false_iff_ne.mpr h8
  have g11 : (op == 11) = false := beq_eq_false_iff_ne.mpr h11
  have g12 : (op == 12) = false := beq_eq_false_iff_ne.mpr h12
  have g13 : (op == 13) = false := beq_eq_false_iff_ne.mpr h13
  have g5 : (op == 5) = false := beq_eq_false_iff_ne.mpr h5
  have g15 : (op == 15) = false := beq_eq_false_iff_ne.mpr h15
  clear h4 h3 h6 h2 h8 h11 h12 h13 h5 h15
  go_enter Try.func23, Try.ntmps23
  go_wp2_with (first
    | fail
    | (go_at_call 52; refine (sort_calls H3.out.row (by simp)).mono ?_; rintro e w4 ⟨rfl, hR, hg⟩; have H4 := Aside0.mk (H3.out.grown hg hR); clear hR hg H3)
    | (go_at_call 53; refine (compact_calls H4.out.row (by rw [sorted_length]; simp)).mono ?_; rintro e w5 ⟨v5, rfl, hv, hR, hg⟩; have H5 := Aside0.mk (H4.out.grown hg hR); clear hR hg hv H4))
  go_ret
  exact ⟨_, rfl, Kd.R_lower H5.out.row (Nat.le_succ _), H5.out.bel⟩

theorem uses_calls (op d a b c n m : Int) (w : World) : Calls Try.prog 23 #[.agg #[.int .i64 op, .int .i64 d, .int .i64 a, .int .i64 b, .int .i64 c, .int .i64 n, .int .i64 m]] w (UsesOut w (uses op a b c)) := by
  unfold uses raw
  by_cases h4 : op = 4
  · rw [if_pos h4]; exact uses_select op d a b c n m w h4
  rw [if_neg h4]
  by_cases h36 : op = 3 ∨ op = 6
  · rw [if_pos h36]
    rcases h36 with h | h
    · exact uses_two3 op d a b c n m w h
    · exact uses_two6 op d a b c n m w h
  rw [if_neg h36]
  by_cases h1 : op = 2 ∨ op = 8 ∨ op = 11 ∨ op = 12 ∨ op = 13 ∨ op = 5
  · rw [if_pos h1]
    rcases h1 with h | h | h | h | h | h
    · exact uses_one2 op d a b c n m w h
    · exact uses_one8 op d a b c n m w h
    · exact uses_one11 op d a b c n m w h
    · exact uses_one12 op d a b c n m w h
    · exact uses_one13 op d a b c n m w h
    · exact uses_one5 op d a b c n m w h
  rw [if_neg h1]
  by_cases h15 : op = 15
  · by_cases h0 : 0 ≤ a
    · rw [if_pos ⟨h15, h0⟩]; exact uses_ret op d a b c n m w h15 h0
    · rw [if_neg (fun h => h0 h.2)]; exact uses_noret op d a b c n m w h15 (by omega)
  rw [if_neg (fun h => h15 h.1)]
  exact uses_none op d a b c n m w h4 (fun h => h36 (.inl h)) (fun h => h36 (.inr h)) (fun h => h1 (.inl h)) (fun h => h1 (.inr (.inl h))) (fun h => h1 (.inr (.inr (.inl h)))) (fun h => h1 (.inr (.inr (.inr (.inl h))))) (fun h => h1 (.inr (.inr (.inr (.inr (.inl h)))))) (fun h => h1 (.inr (.inr (.inr (.inr (.inr h)))))) h15
end Go.Proofs.Ytdcmeefeinppnaa.Uses
