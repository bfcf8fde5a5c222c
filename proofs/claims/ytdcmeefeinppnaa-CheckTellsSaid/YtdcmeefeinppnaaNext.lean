/- live.next and live.Next: what may come behind an instruction. -/
import Derived.Test.YtdcmeefeinppnaaFitsW
namespace Go.Proofs.Ytdcmeefeinppnaa.Live
open Go.RowKit Go.Proofs.YtdcmeefeinppnaaW.PrintWords Go.Proofs.YtdcmeefeinppnaaW.PrintLast Go.Proofs.Ytdcmeefeinppnaa.Mem Go.Proofs.Ytdcmeefeinppnaa.Ir
open MapOf (get put wp_lookup wp_look wp_update)
open Uses (uses uses_calls sorted sort_calls compact_calls infoInt sorted_length)
set_option linter.unusedVariables false
set_option linter.unusedSimpArgs false

structure Nx (w W : World) (c : Cod) (A : Option Addr) (cap : Nat) (v : Value) (xs : List Int) : Prop where
  bel : Below w.heap.size w W
  sz : w.heap.size + 2 ≤ W.heap.size
  box : W.heap[w.heap.size]? = some (.cells (c.vals A cap) 24 (0, 0))
  oc : W.heap[w.heap.size + 1]? = some (.cells #[v] 26 (0, 0))
  row : (Kd.int .i64).R 3 W (w.heap.size + 2) (fun _ => True) v xs
section
variable {w W W1 : World} {c : Cod} {A : Option Addr} {cap : Nat} {v v1 : Value} {xs xs1 : List Int}
theorem Nx.below (h : Nx w W c A cap v xs) (hb : Below W.heap.size W W1) : Nx w W1 c A cap v xs :=
  ⟨h.bel.trans (hb.mono (by have := h.sz; omega)), Nat.le_trans h.sz hb.size, blk_below h.box hb, blk_below h.oc hb, Kd.R_below h.row hb⟩
theorem Nx.alloc (h : Nx w W c A cap v xs) (o : Obj) : Nx w (W.alloc o) c A cap v xs := h.below ((Below.refl _ _).alloc (Nat.le_refl _) o)
theorem Nx.far (h : Nx w W c A cap v xs) (k : Nat) (hk : w.heap.size + 2 ≤ k) : some w.heap.size ≠ some k ∧ some (w.heap.size + 1) ≠ some k := ⟨by simp; omega, by simp; omega⟩
theorem Nx.init (w : World) (c : Cod) (A : Option Addr) (cap : Nat) : Nx w ((w.alloc (.cells (c.vals A cap) 24)).alloc (.cells #[.slice none 0 0] 26)) c A cap (.slice none 0 0) [] := by
  have h := blk_new (w.alloc (.cells (c.vals A cap) 24)) (.cells #[.slice none 0 0] 26)
  simp only [World.size_alloc] at h
  exact ⟨((Below.refl _ _).alloc (Nat.le_refl _) _).alloc (by simp) _, by simp, blk_alloc (blk_new _ _) _, h, Kd.R_nil _ _ _ _ _⟩
/-- the row has been written, or a new one: it is laid into the cell later -/
theorem Nx.put (h : Nx w W c A cap v xs) (hg : W.grownBy W1 v.ownBlock) (hr : (Kd.int .i64).R 3 W1 (w.heap.size + 2) (fun _ => True) v1 xs1) : Nx w (W1.setCell ⟨w.heap.size + 1, 0, none⟩ v1) c A cap v1 xs1 := by
  have hb : ∀ k, v.ownBlock = some k → w.heap.size + 2 ≤ k := fun k hk => Kd.R_base h.row k hk
  have ho : W1.heap[w.heap.size + 1]? = some (.cells #[v] 26 (0, 0)) := blk_grown h.oc hg (fun e => by have := hb _ e.symm; omega)
  refine ⟨?_, by simpa using Nat.le_trans h.sz hg.size, blk_far (blk_grown h.box hg (fun e => by have := hb _ e.symm; omega)) (by simp) _, by simpa using blk_set ho 0 v1, Kd.R_mono (Kd.R_far (Kd.R_bound hr) (fun k hk => by have := hk.2.1; simp; omega) v1) (fun _ _ => trivial)⟩
  exact (h.bel.grown hg (by have := h.sz; omega) (fun k hk => by have := hb k hk; omega)).setCell (by simp) _
end

def addTo (c : Cod) (xs : List Int) (k : Int) (ok : Bool) : List Int := if ok = true ∧ k < c.body.length then xs ++ [k] else xs
def AddOut (w : World) (c : Cod) (A : Option Addr) (cap : Nat) (xs : List Int) (e : Ending) (W' : World) : Prop := e = .returned (.tuple #[]) ∧ ∃ v', Nx w W' c A cap v' xs
theorem add_calls {w W : World} {c : Cod} {A : Option Addr} {cap : Nat} {v : Value} {xs : List Int} (H : Nx w W c A cap v xs) (k : Int) (ok : Bool) (hl : xs.length ≤ 10) (hn : c.body.length ≤ 90000) :
    Calls Try.prog 69 #[.int .i64 k, .bool ok, .pointer (some ⟨w.heap.size, 0, none⟩), .pointer (some ⟨w.heap.size + 1, 0, none⟩)] W (AddOut w c A cap (addTo c xs k ok)) := by
  obtain ⟨Av, cv, rfl⟩ := Kd.R_slice H.row
  have HP := Aside0.mk H
  have hc1 := blk_cell H.oc 0
  have hc2 := blk_cell H.box 2
  clear H
  cases ok with
  | false =>
    have he : addTo c xs k false = xs := by simp [addTo]
    rw [he]; clear he
    go_enter Try.func69, Try.ntmps69
    go_wp2_with fail
    go_end0
    exact ⟨rfl, _, HP.out⟩
  | true =>
    by_cases hk : k < c.body.length
    · have he : addTo c xs k true = xs ++ [k] := by simp [addTo, hk]
      have hkb : decide (k < (c.body.length : Int)) = true := decide_eq_true hk
      rw [he]; clear he hk
      go_enter Try.func69, Try.ntmps69
      go_wp2_with ((with_reducible refine gate_builtin (b := .append) (xs := #[.tmp 14, .tmp 16]) rfl ?_); at_builtin; refine Kd.R_append (Kd.int .i64) (w0 := W) (w.heap.size + 2) rfl (.tmp 14) (.tmp 16) 26 3 (.int .i64 0) 8 rfl Try.underlying26 infoInt rfl (by decide) (by omega) (.slice Av xs.length cv) xs k [.int .i64 k] (fun _ => True) (fun _ => False) rfl rfl rfl (fun _ hk => hk.elim) (fun _ _ => trivial) HP.out.row (Below.refl _ _) HP.out.sz (by omega) ?_; intro v1 w3 hO hB hg hat; have hb1 := blk_grown HP.out.oc hg (fun e => by have := Kd.R_base HP.out.row _ e.symm; omega); have hc3 := blk_cell hb1 0; have hf3 := blk_frozen hb1 0; have HQ := Aside0.mk (HP.out.put hg hO); clear hO hB hg hat hb1 hc1 hc2; obtain ⟨A1, c1, e1⟩ := Kd.R_slice HQ.out.row; subst e1)
      go_end0
      have h_ := HQ.out
      simp only [List.length_append, List.length_cons, List.length_nil, Nat.zero_add] at h_
      exact ⟨rfl, _, h_⟩
    · have he : addTo c xs k true = xs := by simp [addTo, hk]
      have hkb : decide (k < (c.body.length : Int)) = false := decide_eq_false hk
      rw [he]; clear he hk
      go_enter Try.func69, Try.ntmps69
      go_wp2_with fail
      go_end0
      exact ⟨rfl, _, HP.out⟩

def rawNext (c : Cod) (p : List (Int × Int)) (at_ : Nat) : List Int :=
  let x := atIr c.body at_
  let tt := (get p x.n).getD 0
  let ok := (get p x.n).isSome
  if x.op = 15 ∨ x.op = 16 then []
  else if x.op = 10 then addTo c [] tt ok
  else if x.op = 11 ∨ x.op = 12 then addTo c (addTo c [] tt ok) (at_ + 1) true
  else addTo c [] (at_ + 1) true
def nextOf (c : Cod) (p : List (Int × Int)) (at_ : Nat) : List Int := Lib.compact (sorted (rawNext c p at_))
theorem addTo_len (c : Cod) (xs : List Int) (k : Int) (ok : Bool) : (addTo c xs k ok).length ≤ xs.length + 1 := by unfold addTo; split <;> simp
def NextOut (w : World) (l : List Int) (e : Ending) (w' : World) : Prop := ∃ v, e = .returned v ∧ (Kd.int .i64).R 3 w' w.heap.size (fun _ => True) v l ∧ Below w.heap.size w w'

theorem Nx.sorted {w W W1 : World} {c : Cod} {A : Option Addr} {cap : Nat} {v : Value} {xs ys : List Int} (h : Nx w W c A cap v xs) (hg : W.grownBy W1 v.ownBlock) (hr : (Kd.int .i64).R 3 W1 (w.heap.size + 2) (fun _ => True) v ys) : Nx w W1 c A cap v ys := by
  have hb : ∀ k, v.ownBlock = some k → w.heap.size + 2 ≤ k := fun k hk => Kd.R_base h.row k hk
  exact ⟨h.bel.grown hg (by have := h.sz; omega) (fun k hk => by have := hb k hk; omega), Nat.le_trans h.sz hg.size, blk_grown h.box hg (fun e => by have := hb _ e.symm; omega), blk_grown h.oc hg (fun e => by have := hb _ e.symm; omega), hr⟩

set_option maxHeartbeats 4000000 in
theorem next_calls (c : Cod) (A : Option Addr) (cap : Nat) (b1 : Nat) (p : List (Int × Int)) (at_ : Nat) (w : World) (hC : CodeAt w c A cap) (hm : MapOf.Is encI w b1 p) (hat : at_ < c.body.length) :
    Calls Try.prog 46 #[.agg (c.vals A cap), .map (some b1), .int .i64 at_] w (NextOut w (nextOf c p at_)) := by
  have HC := Aside0.mk hC
  have HM := Aside0.mk hm
  have hn := hC.small
  have HP := Aside0.mk (Nx.init w c A cap)
  obtain ⟨ad, e, hx0, hx1, hx2, hx3, hx4, hx5, hx6⟩ := at_ir (Kd.C_below HC.out.row HP.out.bel) at_ hat
  subst e
  clear hC hm
  obtain ⟨x, hx⟩ : ∃ x, atIr c.body at_ = x := ⟨_, rfl⟩
  rw [hx] at hx0 hx1 hx2 hx3 hx4 hx5 hx6
  have HR : Aside0 (nextOf c p at_ = Lib.compact (Uses.sorted (if x.op = 15 ∨ x.op = 16 then [] else if x.op = 10 then addTo c [] ((get p x.n).getD 0) (get p x.n).isSome else if x.op = 11 ∨ x.op = 12 then addTo c (addTo c [] ((get p x.n).getD 0) (get p x.n).isSome) (at_ + 1) true else addTo c [] (at_ + 1) true))) := ⟨by unfold nextOf rawNext; rw [hx]⟩
  rw [HR.out]
  clear HR hx
  obtain ⟨tt, hto⟩ : ∃ tt, (get p x.n).getD 0 = tt := ⟨_, rfl⟩
  obtain ⟨ok, hok⟩ : ∃ ok, (get p x.n).isSome = ok := ⟨_, rfl⟩
  rw [hto, hok]
  have HTO := Aside0.mk hto
  have HOK := Aside0.mk hok
  clear hto hok
  obtain ⟨op, dst, a, b, cc, n, m⟩ := x
  by_cases h15 : op = 15
  · subst h15
    rw [if_pos (by simp)]
    go_enter Try.func46, Try.ntmps46
    go_wp2_with (first
      | ((with_reducible refine gate_ (.lookup 64 (.tmp 19) (.tmp 21) true) rfl ?_); refine MapOf.wp_look_ok _ rfl (.tmp 19) (.tmp 21) 64 rfl 3 3 Try.underlying64 Try.underlying3 (0 : Int) (zeroInt _) b1 p rfl (HM.out.below (HP.out.alloc _).bel) n rfl tt HTO.out ok HOK.out ?_; have HQ := Aside0.mk (HP.out.alloc (.cells (Ir.vals ⟨15, dst, a, b, cc, n, m⟩) 38)); clear HP; have HP := HQ; clear HQ)
      | (go_at_call 69; refine (add_calls HP.out _ _ (by first | exact Nat.zero_le _ | exact Nat.le_trans (addTo_len _ _ _ _) (by simp)) hn).mono ?_; rintro e w1 ⟨rfl, v1, h1⟩; obtain ⟨Av, cv, e1⟩ := Kd.R_slice h1.row; subst e1; have HQ := Aside0.mk h1; clear HP; have HP := HQ; clear HQ; (try clear hcc); have hcc := blk_cell h1.oc 0; clear h1)
      | (go_at_call 52; refine (sort_calls HP.out.row (by first | exact Nat.lt_of_le_of_lt (addTo_len _ _ _ _) (by simp) | exact Nat.lt_of_le_of_lt (Nat.le_trans (addTo_len _ _ _ _) (Nat.succ_le_succ (addTo_len _ _ _ _))) (by simp) | simp)).mono ?_; rintro e w2 ⟨rfl, hR, hg⟩; have HQ := Aside0.mk (HP.out.sorted hg hR); clear HP; have HP := HQ; clear HQ; (try clear hcc); have hcc := blk_cell HP.out.oc 0; clear hR hg)
      | (go_at_call 53; refine (compact_calls HP.out.row (by rw [sorted_length]; first | exact Nat.lt_of_le_of_lt (addTo_len _ _ _ _) (by simp) | exact Nat.lt_of_le_of_lt (Nat.le_trans (addTo_len _ _ _ _) (Nat.succ_le_succ (addTo_len _ _ _ _))) (by simp) | simp)).mono ?_; rintro e w3 ⟨v5, rfl, hv, hR, hg⟩; have HD := Aside0.mk (And.intro (Kd.R_lower hR (show w.heap.size ≤ w.heap.size + 2 by omega)) (HP.out.bel.grown hg (by have := HP.out.sz; omega) (fun k hk => by have := Kd.R_base HP.out.row k hk; omega))); clear hv hR hg))
    go_ret
    exact ⟨_, rfl, HD.out.1, HD.out.2⟩
  by_cases h16 : op = 16
  · subst h16
    rw [if_pos (by simp)]
    go_enter Try.func46, Try.ntmps46
    go_wp2_with (first
      | ((with_reducible refine gate_ (.lookup 64 (.tmp 19) (.tmp 21) true) rfl ?_); refine MapOf.wp_look_ok _ rfl (.tmp 19) (.tmp 21) 64 rfl 3 3 Try.underlying64 Try.underlying3 (0 : Int) (zeroInt _) b1 p rfl (HM.out.below (HP.out.alloc _).bel) n rfl tt HTO.out ok HOK.out ?_; have HQ := Aside0.mk (HP.out.alloc (.cells (Ir.vals ⟨16, dst, a, b, cc, n, m⟩) 38)); clear HP; have HP := HQ; clear HQ)
      | (go_at_call 69; refine (add_calls HP.out _ _ (by first | exact Nat.zero_le _ | exact Nat.le_trans (addTo_len _ _ _ _) (by simp)) hn).mono ?_; rintro e w1 ⟨rfl, v1, h1⟩; obtain ⟨Av, cv, e1⟩ := Kd.R_slice h1.row; subst e1; have HQ := Aside0.mk h1; clear HP; have HP := HQ; clear HQ; (try clear hcc); have hcc := blk_cell h1.oc 0; clear h1)
      | (go_at_call 52; refine (sort_calls HP.out.row (by first | exact Nat.lt_of_le_of_lt (addTo_len _ _ _ _) (by simp) | exact Nat.lt_of_le_of_lt (Nat.le_trans (addTo_len _ _ _ _) (Nat.succ_le_succ (addTo_len _ _ _ _))) (by simp) | simp)).mono ?_; rintro e w2 ⟨rfl, hR, hg⟩; have HQ := Aside0.mk (HP.out.sorted hg hR); clear HP; have HP := HQ; clear HQ; (try clear hcc); have hcc := blk_cell HP.out.oc 0; clear hR hg)
      | (go_at_call 53; refine (compact_calls HP.out.row (by rw [sorted_length]; first | exact Nat.lt_of_le_of_lt (addTo_len _ _ _ _) (by simp) | exact Nat.lt_of_le_of_lt (Nat.le_trans (addTo_len _ _ _ _) (Nat.succ_le_succ (addTo_len _ _ _ _))) (by simp) | simp)).mono ?_; rintro e w3 ⟨v5, rfl, hv, hR, hg⟩; have HD := Aside0.mk (And.intro (Kd.R_lower hR (show w.heap.size ≤ w.heap.size + 2 by omega)) (HP.out.bel.grown hg (by have := HP.out.sz; omega) (fun k hk => by have := Kd.R_base HP.out.row k hk; omega))); clear hv hR hg))
    go_ret
    exact ⟨_, rfl, HD.out.1, HD.out.2⟩
  by_cases h10 : op = 10
  · subst h10
    rw [if_neg (by simp), if_pos rfl]
    go_enter Try.func46, Try.ntmps46
    go_wp2_with (first
      | ((with_reducible refine gate_ (.lookup 64 (.tmp 19) (.tmp 21) true) rfl ?_); refine MapOf.wp_look_ok _ rfl (.tmp 19) (.tmp 21) 64 rfl 3 3 Try.underlying64 Try.underlying3 (0 : Int) (zeroInt _) b1 p rfl (HM.out.below (HP.out.alloc _).bel) n rfl tt HTO.out ok HOK.out ?_; have HQ := Aside0.mk (HP.out.alloc (.cells (Ir.vals ⟨10, dst, a, b, cc, n, m⟩) 38)); clear HP; have HP := HQ; clear HQ)
      | (go_at_call 69; refine (add_calls HP.out _ _ (by first | exact Nat.zero_le _ | exact Nat.le_trans (addTo_len _ _ _ _) (by simp)) hn).mono ?_; rintro e w1 ⟨rfl, v1, h1⟩; obtain ⟨Av, cv, e1⟩ := Kd.R_slice h1.row; subst e1; have HQ := Aside0.mk h1; clear HP; have HP := HQ; clear HQ; (try clear hcc); have hcc := blk_cell h1.oc 0; clear h1)
      | (go_at_call 52; refine (sort_calls HP.out.row (by first | exact Nat.lt_of_le_of_lt (addTo_len _ _ _ _) (by simp) | exact Nat.lt_of_le_of_lt (Nat.le_trans (addTo_len _ _ _ _) (Nat.succ_le_succ (addTo_len _ _ _ _))) (by simp) | simp)).mono ?_; rintro e w2 ⟨rfl, hR, hg⟩; have HQ := Aside0.mk (HP.out.sorted hg hR); clear HP; have HP := HQ; clear HQ; (try clear hcc); have hcc := blk_cell HP.out.oc 0; clear hR hg)
      | (go_at_call 53; refine (compact_calls HP.out.row (by rw [sorted_length]; first | exact Nat.lt_of_le_of_lt (addTo_len _ _ _ _) (by simp) | exact Nat.lt_of_le_of_lt (Nat.le_trans (addTo_len _ _ _ _) (Nat.succ_le_succ (addTo_len _ _ _ _))) (by simp) | simp)).mono ?_; rintro e w3 ⟨v5, rfl, hv, hR, hg⟩; have HD := Aside0.mk (And.intro (Kd.R_lower hR (show w.heap.size ≤ w.heap.size + 2 by omega)) (HP.out.bel.grown hg (by have := HP.out.sz; omega) (fun k hk => by have := Kd.R_base HP.out.row k hk; omega))); clear hv hR hg))
    go_ret
    exact ⟨_, rfl, HD.out.1, HD.out.2⟩
  by_cases h11 : op = 11
  · subst h11
    rw [if_neg (by simp), if_neg (by simp), if_pos (by simp)]
    go_enter Try.func46, Try.ntmps46
    go_wp2_with (first
      | ((with_reducible refine gate_ (.lookup 64 (.tmp 19) (.tmp 21) true) rfl ?_); refine MapOf.wp_look_ok _ rfl (.tmp 19) (.tmp 21) 64 rfl 3 3 Try.underlying64 Try.underlying3 (0 : Int) (zeroInt _) b1 p rfl (HM.out.below (HP.out.alloc _).bel) n rfl tt HTO.out ok HOK.out ?_; have HQ := Aside0.mk (HP.out.alloc (.cells (Ir.vals ⟨11, dst, a, b, cc, n, m⟩) 38)); clear HP; have HP := HQ; clear HQ)
      | (go_at_call 69; refine (add_calls HP.out _ _ (by first | exact Nat.zero_le _ | exact Nat.le_trans (addTo_len _ _ _ _) (by simp)) hn).mono ?_; rintro e w1 ⟨rfl, v1, h1⟩; obtain ⟨Av, cv, e1⟩ := Kd.R_slice h1.row; subst e1; have HQ := Aside0.mk h1; clear HP; have HP := HQ; clear HQ; (try clear hcc); have hcc := blk_cell h1.oc 0; clear h1)
      | (go_at_call 52; refine (sort_calls HP.out.row (by first | exact Nat.lt_of_le_of_lt (addTo_len _ _ _ _) (by simp) | exact Nat.lt_of_le_of_lt (Nat.le_trans (addTo_len _ _ _ _) (Nat.succ_le_succ (addTo_len _ _ _ _))) (by simp) | simp)).mono ?_; rintro e w2 ⟨rfl, hR, hg⟩; have HQ := Aside0.mk (HP.out.sorted hg hR); clear HP; have HP := HQ; clear HQ; (try clear hcc); have hcc := blk_cell HP.out.oc 0; clear hR hg)
      | (go_at_call 53; refine (compact_calls HP.out.row (by rw [sorted_length]; first | exact Nat.lt_of_le_of_lt (addTo_len _ _ _ _) (by simp) | exact Nat.lt_of_le_of_lt (Nat.le_trans (addTo_len _ _ _ _) (Nat.succ_le_succ (addTo_len _ _ _ _))) (by simp) | simp)).mono ?_; rintro e w3 ⟨v5, rfl, hv, hR, hg⟩; have HD := Aside0.mk (And.intro (Kd.R_lower hR (show w.heap.size ≤ w.heap.size + 2 by omega)) (HP.out.bel.grown hg (by have := HP.out.sz; omega) (fun k hk => by have := Kd.R_base HP.out.row k hk; omega))); clear hv hR hg))
    go_ret
    exact ⟨_, rfl, HD.out.1, HD.out.2⟩
  by_cases h12 : op = 12
  · subst h12
    rw [if_neg (by simp), if_neg (by simp), if_pos (by simp)]
    go_enter Try.func46, Try.ntmps46
    go_wp2_with (first
      | ((with_reducible refine gate_ (.lookup 64 (.tmp 19) (.tmp 21) true) rfl ?_); refine MapOf.wp_look_ok _ rfl (.tmp 19) (.tmp 21) 64 rfl 3 3 Try.underlying64 Try.underlying3 (0 : Int) (zeroInt _) b1 p rfl (HM.out.below (HP.out.alloc _).bel) n rfl tt HTO.out ok HOK.out ?_; have HQ := Aside0.mk (HP.out.alloc (.cells (Ir.vals ⟨12, dst, a, b, cc, n, m⟩) 38)); clear HP; have HP := HQ; clear HQ)
      | (go_at_call 69; refine (add_calls HP.out _ _ (by first | exact Nat.zero_le _ | exact Nat.le_trans (addTo_len _ _ _ _) (by simp)) hn).mono ?_; rintro e w1 ⟨rfl, v1, h1⟩; obtain ⟨Av, cv, e1⟩ := Kd.R_slice h1.row; subst e1; have HQ := Aside0.mk h1; clear HP; have HP := HQ; clear HQ; (try clear hcc); have hcc := blk_cell h1.oc 0; clear h1)
      | (go_at_call 52; refine (sort_calls HP.out.row (by first | exact Nat.lt_of_le_of_lt (addTo_len _ _ _ _) (by simp) | exact Nat.lt_of_le_of_lt (Nat.le_trans (addTo_len _ _ _ _) (Nat.succ_le_succ (addTo_len _ _ _ _))) (by simp) | simp)).mono ?_; rintro e w2 ⟨rfl, hR, hg⟩; have HQ := Aside0.mk (HP.out.sorted hg hR); clear HP; have HP := HQ; clear HQ; (try clear hcc); have hcc := blk_cell HP.out.oc 0; clear hR hg)
      | (go_at_call 53; refine (compact_calls HP.out.row (by rw [sorted_length]; first | exact Nat.lt_of_le_of_lt (addTo_len _ _ _ _) (by simp) | exact Nat.lt_of_le_of_lt (Nat.le_trans (addTo_len _ _ _ _) (Nat.succ_le_succ (addTo_len _ _ _ _))) (by simp) | simp)).mono ?_; rintro e w3 ⟨v5, rfl, hv, hR, hg⟩; have HD := Aside0.mk (And.intro (Kd.R_lower hR (show w.heap.size ≤ w.heap.size + 2 by omega)) (HP.out.bel.grown hg (by have := HP.out.sz; omega) (fun k hk => by have := Kd.R_base HP.out.row k hk; omega))); clear hv hR hg))
    go_ret
    exact ⟨_, rfl, HD.out.1, HD.out.2⟩
  · rw [if_neg (by rintro (h | h); exact h15 h; exact h16 h), if_neg h10, if_neg (by rintro (h | h); exact h11 h; exact h12 h)]
    have t15 : (op == 15) = false := beq_eq_false_iff_ne.mpr h15
    have t16 : (op == 16) = false := beq_eq_false_iff_ne.mpr h16
    have t10 : (op == 10) = false := beq_eq_false_iff_ne.mpr h10
    have t11 : (op == 11) = false := beq_eq_false_iff_ne.mpr h11
    have t12 : (op == 12) = false := beq_eq_false_iff_ne.mpr h12
    clear h15 h16 h10 h11 h12
    go_enter Try.func46, Try.ntmps46
    go_wp2_with (first
      | ((with_reducible refine gate_ (.lookup 64 (.tmp 19) (.tmp 21) true) rfl ?_); refine MapOf.wp_look_ok _ rfl (.tmp 19) (.tmp 21) 64 rfl 3 3 Try.underlying64 Try.underlying3 (0 : Int) (zeroInt _) b1 p rfl (HM.out.below (HP.out.alloc _).bel) n rfl tt HTO.out ok HOK.out ?_; have HQ := Aside0.mk (HP.out.alloc (.cells (Ir.vals ⟨op, dst, a, b, cc, n, m⟩) 38)); clear HP; have HP := HQ; clear HQ)
      | (go_at_call 69; refine (add_calls HP.out _ _ (by first | exact Nat.zero_le _ | exact Nat.le_trans (addTo_len _ _ _ _) (by simp)) hn).mono ?_; rintro e w1 ⟨rfl, v1, h1⟩; obtain ⟨Av, cv, e1⟩ := Kd.R_slice h1.row; subst e1; have HQ := Aside0.mk h1; clear HP; have HP := HQ; clear HQ; (try clear hcc); have hcc := blk_cell h1.oc 0; clear h1)
      | (go_at_call 52; refine (sort_calls HP.out.row (by first | exact Nat.lt_of_le_of_lt (addTo_len _ _ _ _) (by simp) | exact Nat.lt_of_le_of_lt (Nat.le_trans (addTo_len _ _ _ _) (Nat.succ_le_succ (addTo_len _ _ _ _))) (by simp) | simp)).mono ?_; rintro e w2 ⟨rfl, hR, hg⟩; have HQ := Aside0.mk (HP.out.sorted hg hR); clear HP; have HP := HQ; clear HQ; (try clear hcc); have hcc := blk_cell HP.out.oc 0; clear hR hg)
      | (go_at_call 53; refine (compact_calls HP.out.row (by rw [sorted_length]; first | exact Nat.lt_of_le_of_lt (addTo_len _ _ _ _) (by simp) | exact Nat.lt_of_le_of_lt (Nat.le_trans (addTo_len _ _ _ _) (Nat.succ_le_succ (addTo_len _ _ _ _))) (by simp) | simp)).mono ?_; rintro e w3 ⟨v5, rfl, hv, hR, hg⟩; have HD := Aside0.mk (And.intro (Kd.R_lower hR (show w.heap.size ≤ w.heap.size + 2 by omega)) (HP.out.bel.grown hg (by have := HP.out.sz; omega) (fun k hk => by have := Kd.R_base HP.out.row k hk; omega))); clear hv hR hg))
    go_ret
    exact ⟨_, rfl, HD.out.1, HD.out.2⟩
end Go.Proofs.Ytdcmeefeinppnaa.Live
