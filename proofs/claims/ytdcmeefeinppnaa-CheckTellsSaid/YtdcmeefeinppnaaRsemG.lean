/- rsem.Exec: one function, carried out alone. -/
import Derived.Test.YtdcmeefeinppnaaRsemF
import Derived.Test.YtdcmeefeinppnaaInsPure
import Derived.RegionTactic
namespace Go.Proofs.Ytdcmeefeinppnaa.Rsem
open Go.RowKit Go.Proofs.YtdcmeefeinppnaaW.PrintWords Go.Proofs.YtdcmeefeinppnaaW.PrintLast Go.Proofs.YtdcmeefeinppnaaW.PrintMore Go.Proofs.Ytdcmeefeinppnaa.Mem Go.Proofs.Ytdcmeefeinppnaa.Ir Go.Proofs.Ytdcmeefeinppnaa.Live
open MapOf (get put)
open Uses (uses)
open Word (arity)
set_option linter.unusedVariables false
set_option linter.unusedSimpArgs false

theorem cell_spot {w : World} {a : Addr} {v : Value} (h : w.cell? a = some v) : a = ⟨a.block, a.off, none⟩ := by
  obtain ⟨b, o, s⟩ := a
  cases s with
  | none => rfl
  | some s =>
    unfold World.cell? at h
    split at h
    · simp at h
    · cases h
theorem clone_calls (A : Option Addr) (cap : Nat) (xs : List Int) (w : World) (h : (Kd.int .i64).C w A xs.length xs) (hn : xs.length * 8 ≤ 140737488355328) :
    Calls Try.prog 59 #[.slice A xs.length cap] w fun e w' => ∃ v, e = .returned v ∧ (Kd.int .i64).R 3 w' w.heap.size (fun _ => True) v xs ∧ Below w.heap.size w w' := by
  by_cases h0 : xs.length = 0
  · have e0 : xs = [] := List.length_eq_zero_iff.1 h0
    subst e0
    cases A with
    | none =>
      refine (Try.slices_Clone_int_nil 0 cap w).mono ?_
      rintro e w' ⟨rfl, rfl⟩
      exact ⟨_, rfl, Kd.R_nil _ _ _ _ _, Below.refl _ _⟩
    | some a =>
      refine (Try.slices_Clone_int_zero a cap w).mono ?_
      rintro e w' ⟨v, rfl, ho, _, hb⟩
      exact ⟨v, rfl, Kd.R_of_own (xs := []) ho (fun _ _ => trivial), hb⟩
  · obtain ⟨ad, c, e, hl, hK, hc⟩ := Kd.C_get h 0 0 (by omega) (by omega)
    subst e
    have hc0 : c = [.int .i64 (xs.getD 0 0)] := hK
    subst hc0
    have hsp := cell_spot (hc 0 _ rfl)
    have e1 : ad.add ((0 : Int).toNat * (Kd.int .i64).sz + 0) = ad := rfl
    rw [e1] at hsp
    obtain ⟨b, off, s⟩ := ad
    obtain rfl : s = none := by injection hsp
    refine (Try.slices_Clone_int b off xs.length cap xs w (Nat.le_refl _) (by omega) (fun j hj => ?_)).mono ?_
    · obtain ⟨ad, e, hx⟩ := Kd.at_int h (j : Int) (by omega) (by omega)
      injection e with e
      subst e
      rw [Int.toNat_natCast] at hx
      have e2 : (Addr.mk b off none).add j = ⟨b, off + j, none⟩ := by
        unfold Addr.add
        split
        · rename_i h; subst h; rfl
        · rfl
      rw [e2] at hx
      rw [hx]
      unfold rd
      rw [Int.toNat_natCast]
    · rintro e w' ⟨v, rfl, ho, _, hb⟩
      rw [List.take_length] at ho
      exact ⟨v, rfl, Kd.R_of_own ho (fun _ _ => trivial), hb⟩

/-! ### what fits is good -/
theorem uses_mem {op a b c k : Int} (h : k ∈ Uses.raw op a b c) : k ∈ uses op a b c := by
  unfold Uses.uses
  refine (Ins.compact_mem _ _).2 ?_
  unfold Uses.sorted
  exact List.mem_mergeSort.2 h
theorem odd_no {n k : Int} (h : oddB n k = false) : 0 ≤ k ∧ k < n := by
  simp [oddB] at h
  omega
theorem okR_uses {c : Cod} {n : Int} {x : Ir} (h : okR c n x = true) {k : Int} (hk : k ∈ Uses.raw x.op x.a x.b x.c) : 0 ≤ k ∧ k < n := by
  unfold okR at h
  rw [Bool.and_eq_true, Bool.not_eq_true', List.any_eq_false] at h
  exact odd_no (by simpa using h.2 k (uses_mem hk))
theorem okR_dst {c : Cod} {n : Int} {x : Ir} (h : okR c n x = true) (ho : x.op = 1 ∨ x.op = 2 ∨ x.op = 3 ∨ x.op = 4) : 0 ≤ x.dst ∧ x.dst < n := by
  unfold okR kindR at h
  rw [Bool.and_eq_true] at h
  have h1 := h.1
  by_cases h3 : x.op = 3
  · rw [if_pos h3, Bool.and_eq_true] at h1
    exact odd_no (by simpa using h1.2)
  · rw [if_neg h3, if_pos (by omega)] at h1
    exact odd_no (by simpa using h1)
theorem okR_good {c : Cod} {n : Nat} {x : Ir} (h : okR c n x = true) (hl : Live.Can x.n) : Good x n where
  inn :=
    { dst := okR_dst h
      a := fun ho => okR_uses h (by unfold Uses.raw; rcases ho with e | e | e | e | e <;> simp [e])
      b := fun ho => okR_uses h (by unfold Uses.raw; rcases ho with e | e <;> simp [e])
      c := fun ho => okR_uses h (by unfold Uses.raw; simp [ho]) }
  lit := hl
  ret := fun ho ha => (okR_uses h (by unfold Uses.raw; simp [ho, ha])).2
theorem fitsR_good {c : Cod} {n : Nat} (h : fitsR c n = true) (hl : ∀ i : Nat, i < c.body.length → Live.Can (atIr c.body i).n) (i : Nat) (hi : i < c.body.length) : Good (atIr c.body i) n := by
  unfold fitsR at h
  rw [Bool.and_eq_true, List.all_eq_true] at h
  refine okR_good (h.1 _ ?_) (hl i hi)
  unfold atIr
  rw [List.getD_eq_getElem?_getD, List.getElem?_eq_getElem hi]
  exact List.getElem_mem hi

/-! ### Exec -/
def execS (c : Cod) (cs : List Int) : List Int × Int × Int := runS c.body (labR c.body c.body.length) 10000 0 cs
def ExecOut (w : World) (c : Cod) (cs : List Int) (e : Ending) (w' : World) : Prop :=
  if fitsR c cs.length = true then ∃ v, e = .returned (.tuple #[v, .int .i64 (execS c cs).2.1, .int .i64 (execS c cs).2.2, .int .i64 0]) ∧ (Kd.int .i64).R 3 w' w.heap.size (fun _ => True) v (execS c cs).1 ∧ Below w.heap.size w w'
  else e = .returned (.tuple #[.slice none 0 0, .int .i64 0, .int .i64 0, .int .i64 4]) ∧ Below w.heap.size w w'
/-- the three boxes ahead of the clone -/
structure Ex (w W : World) (c : Cod) (A : Option Addr) (cap : Nat) (v : Value) : Prop where
  bel : Below w.heap.size w W
  box : W.heap[w.heap.size]? = some (.cells (c.vals A cap) 24 (0, 0))
  bo : W.heap[w.heap.size + 1]? = some (.cells #[v] 26 (0, 0))
  bv : W.heap[w.heap.size + 1 + 1]? = some (.cells #[.int .i64 0] 3 (0, 0))
theorem Ex.below {w W W1 : World} {c : Cod} {A : Option Addr} {cap : Nat} {v : Value} (h : Ex w W c A cap v) (hb : Below W.heap.size W W1) : Ex w W1 c A cap v :=
  ⟨h.bel.trans (hb.mono h.bel.size), blk_below h.box hb, blk_below h.bo hb, blk_below h.bv hb⟩
theorem Ex.put {w W : World} {c : Cod} {A : Option Addr} {cap : Nat} {v : Value} (h : Ex w W c A cap v) (u : Value) : Ex w (W.setCell ⟨w.heap.size + 1, 0, none⟩ u) c A cap u :=
  ⟨h.bel.setCell (by simp) _, blk_far h.box (by simp) _, by simpa using blk_set h.bo 0 u, blk_far h.bv (by simp) _⟩
theorem ex_init (w : World) (c : Cod) (A : Option Addr) (cap : Nat) (W : World) (h : W = ((w.alloc (.cells (c.vals A cap) 24)).alloc (.cells #[.slice none 0 0] 26)).alloc (.cells #[.int .i64 0] 3)) : Ex w W c A cap (.slice none 0 0) := by
  subst h
  have hk := blk_new (w.alloc (.cells (c.vals A cap) 24)) (.cells #[.slice none 0 0] 26)
  have hk2 := blk_new ((w.alloc (.cells (c.vals A cap) 24)).alloc (.cells #[.slice none 0 0] 26)) (.cells #[.int .i64 0] 3)
  simp only [World.size_alloc] at hk hk2
  exact ⟨(((Below.refl _ _).alloc (Nat.le_refl _) _).alloc (by simp) _).alloc (by simp; omega) _, blk_alloc (blk_alloc (blk_new _ _) _) _, blk_alloc hk _, hk2⟩
set_option maxHeartbeats 2000000 in
theorem exec_no (c : Cod) (A : Option Addr) (cap : Nat) (B : Option Addr) (capB : Nat) (cs : List Int) (w : World) (hC : CodeAt w c A cap) (hf : fitsR c cs.length = false) :
    Calls Try.prog 35 #[.agg (c.vals A cap), .slice B cs.length capB] w (ExecOut w c cs) := by
  have HI := Aside0.mk (ex_init w c A cap _ rfl)
  have HC := Aside0.mk (hC.below HI.out.bel)
  have HO := Aside0.mk (show ∀ e w', (e = .returned (.tuple #[.slice none 0 0, .int .i64 0, .int .i64 0, .int .i64 4]) ∧ Below w.heap.size w w') → ExecOut w c cs e w' from fun e w' h => by unfold ExecOut; rw [if_neg (by rw [hf]; simp)]; exact h)
  clear hC
  go_enter Try.func35, Try.ntmps35
  go_wp2_with (go_at_call 58; refine (fitsr_calls c A cap _ _ HC.out).mono ?_; rintro e w1 ⟨rfl, hb⟩; have H1 := Aside0.mk (HI.out.below hb); have hk1 := blk_cell H1.out.bo 0; have hk2 := blk_cell H1.out.bv 0; have hf1 := blk_frozen H1.out.bo 0; have hf2 := blk_frozen H1.out.bv 0; clear hb HI)
  have H2 := Aside0.mk (H1.out.put (.slice none 0 0))
  have k1 := blk_cell H2.out.bo 0
  have k2 := blk_set H2.out.bv 0 (.int .i64 0)
  have k3 := blk_cell k2 0
  have k4 := blk_cell (blk_far H2.out.bo (p := ⟨w.heap.size + 1 + 1, 0, none⟩) (by simp) (.int .i64 0)) 0
  have HB := Aside0.mk (H2.out.bel.setCell (p := ⟨w.heap.size + 1 + 1, 0, none⟩) (by simp; omega) (.int .i64 0))
  exact bodyPost_ret (v := .tuple #[.slice none 0 0, .int .i64 0, .int .i64 0, .int .i64 4]) (by simp [results, Try.results35, go_sem, k3, k4]) rfl (HO.out _ _ ⟨rfl, HB.out⟩)
/-- the two results that lie in cells are laid anew -/
theorem Xs.out {w0 W : World} {c : Cod} {A : Option Addr} {cap b3 kb mb base : Nat} {M : List (Int × Int)} {v : Value} {cs : List Int} {r : Int} (h : Xs w0 W c A cap b3 kb mb base M v cs r) : Xs w0 (W.setCell ⟨w0.heap.size + 1, 0, none⟩ v) c A cap b3 kb mb base M v cs r := by
  have hl := h.lt
  refine ⟨h.bel.setCell (by simp) _, blk_far h.box (by simp) _, by simpa using blk_set h.bo 0 v, blk_far h.bv (by simp) _, blk_far h.bk (fun e => ?_) _, blk_far h.kc (fun e => ?_) _, h.m.far (fun e => ?_) _, Kd.R_mono (Kd.R_far (Kd.R_bound h.row) (fun k hk => by have := hk.2.1; show k ≠ w0.heap.size + 1; omega) _) (fun _ _ => trivial), h.lt⟩
  · have h1 := h.bk
    rw [e, h.bo] at h1; cases h1
  · have h1 := h.kc
    rw [e, h.bo] at h1; cases h1
  · exact h.m.ne_cells h.bo e
set_option maxHeartbeats 4000000 in
theorem exec_yes (c : Cod) (A : Option Addr) (cap : Nat) (B : Option Addr) (capB : Nat) (cs : List Int) (w : World) (hC : CodeAt w c A cap) (hB : (Kd.int .i64).C w B cs.length cs) (hn : cs.length * 8 ≤ 140737488355328) (hc : CanL cs) (hl : ∀ i : Nat, i < c.body.length → Live.Can (atIr c.body i).n) (hf : fitsR c cs.length = true) :
    Calls Try.prog 35 #[.agg (c.vals A cap), .slice B cs.length capB] w (ExecOut w c cs) := by
  have HI := Aside0.mk (ex_init w c A cap _ rfl)
  have HC0 := Aside0.mk hC
  have HC := Aside0.mk (hC.below HI.out.bel)
  have HROW := Aside0.mk hB
  have HG := Aside0.mk (fitsR_good hf hl)
  have HCAN := Aside0.mk hc
  have HO := Aside0.mk (show ∀ e w', (∃ v, e = .returned (.tuple #[v, .int .i64 (execS c cs).2.1, .int .i64 (execS c cs).2.2, .int .i64 0]) ∧ (Kd.int .i64).R 3 w' w.heap.size (fun _ => True) v (execS c cs).1 ∧ Below w.heap.size w w') → ExecOut w c cs e w' from fun e w' h => by unfold ExecOut; rw [if_pos hf]; exact h)
  have hmf : ∀ (fn : Fn) (first cap : Array Value) (w : World), (Instr.makeFunc fn first cap).run Try.prog w = .ok (.func fn first cap) w := fun _ _ _ _ => rfl
  clear hC hB hl hc
  go_enter Try.func35, Try.ntmps35
  go_wp2_with (go_at_call 58; refine (fitsr_calls c A cap _ _ HC.out).mono ?_; rintro e w1 ⟨rfl, hb⟩; have H1 := Aside0.mk (HI.out.below hb); clear hb HI)
  refine (clone_calls B _ cs _ (Kd.C_below HROW.out H1.out.bel) hn).mono ?_
  rintro e w2 ⟨v, rfl, hR, hb⟩
  have H2 := Aside0.mk (H1.out.below hb)
  have HSZ := Aside0.mk (show w.heap.size + 3 ≤ w1.heap.size from by have := blk_lt H1.out.bv; omega)
  obtain ⟨A3, c3, rfl⟩ := Kd.R_slice hR
  have HR2 := Aside0.mk hR
  have hk1 := blk_cell H2.out.bo 0
  have hf1 := blk_frozen H2.out.bo 0
  clear hR hb H1
  have H3 := Aside0.mk (H2.out.put (.slice A3 cs.length c3))
  have HR3 := Aside0.mk (show (Kd.int .i64).R 3 (w2.setCell ⟨w.heap.size + 1, 0, none⟩ (.slice A3 cs.length c3)) w1.heap.size (fun _ => True) (.slice A3 cs.length c3) cs from Kd.R_mono (Kd.R_far (Kd.R_bound HR2.out) (fun k hk => by have := hk.2.1; have := HSZ.out; show k ≠ w.heap.size + 1; omega) _) (fun _ _ => trivial))
  clear H2 HR2
  have hbx0 := blk_cell H3.out.box 0
  have hbx1 := blk_cell H3.out.box 1
  have hbx2 := blk_cell H3.out.box 2
  have hbx3 := blk_cell H3.out.box 3
  go_wp2_with fail
  clear hbx0 hbx1 hbx2 hbx3 hk1 hf1
  have HC3 := Aside0.mk (HC0.out.below H3.out.bel)
  refine (ready_calls c A cap _ HC3.out).mono ?_
  obtain ⟨W3, hW3⟩ : ∃ W3, w2.setCell ⟨w.heap.size + 1, 0, none⟩ (.slice A3 cs.length c3) = W3 := ⟨_, rfl⟩
  rw [hW3] at H3 HR3 HC3 ⊢
  clear hW3
  rintro e w4 ⟨rfl, hRd⟩
  have HM := Aside0.mk hRd.m
  have HKC := Aside0.mk (blk_alloc hRd.kc (.cells #[.pointer (some ⟨W3.heap.size + 1 + 1, 0, none⟩)] 81))
  have HX := Aside0.mk (show Xs w (w4.alloc (.cells #[.pointer (some ⟨W3.heap.size + 1 + 1, 0, none⟩)] 81)) c A cap w4.heap.size (W3.heap.size + 1 + 1) (W3.heap.size + 1) w1.heap.size (labR c.body c.body.length) (.slice A3 cs.length c3) cs 0 from by
    have h4 := (H3.out.below hRd.bel).below (below_alloc (Below.refl _ _) (.cells #[.pointer (some ⟨W3.heap.size + 1 + 1, 0, none⟩)] 81))
    exact ⟨h4.bel, h4.box, h4.bo, h4.bv, blk_new _ _, HKC.out, hRd.m.below (below_alloc (Below.refl _ _) _), Kd.R_below (Kd.R_below HR3.out hRd.bel) (below_alloc (Below.refl _ _) _), HSZ.out⟩)
  clear hRd HKC HM
  go_wp2_with fail
  refine (trapped_calls HX.out HC0.out (lab_pos _ _) HG.out HCAN.out).mono ?_
  rw [show runS c.body (labR c.body c.body.length) 10000 0 cs = execS c cs from rfl]
  rintro e w5 ⟨rfl, hx5⟩
  have HX5 := Aside0.mk hx5
  have hk1 := blk_cell hx5.bo 0
  have hk2 := blk_cell hx5.bv 0
  have hf1 := blk_frozen hx5.bo 0
  have hf2 := blk_frozen hx5.bv 0
  clear hx5 HX HR3 H3
  go_wp2_with fail
  go_region
  have H6 := Aside0.mk (((HX5.out.out).val (execS c cs).2.1).below (drew_below _))
  have k1 := blk_cell H6.out.bo 0
  have k2 : World.cell? _ ⟨w.heap.size + 1 + 1, 0, none⟩ = _ := blk_cell H6.out.bv 0
  have k0 := blk_cell (HX5.out.out).bo 0
  have k3 : World.cell? _ ⟨w.heap.size + 1 + 1, 0, none⟩ = _ := blk_cell ((HX5.out.out).val (execS c cs).2.1).bv 0
  clear hk1 hk2 hf1 hf2
  go_wp2_with fail
  refine bodyPost_ret (v := .tuple #[.slice A3 cs.length c3, .int .i64 (execS c cs).2.1, .int .i64 (execS c cs).2.2, .int .i64 0]) (by simp [results, Try.results35, go_sem, k0, k3]) rfl (HO.out _ _ ⟨_, rfl, ?_, H6.out.bel⟩)
  exact Kd.R_lower H6.out.row (by have := HSZ.out; omega)
theorem exec_calls (c : Cod) (A : Option Addr) (cap : Nat) (B : Option Addr) (capB : Nat) (cs : List Int) (w : World) (hC : CodeAt w c A cap) (hB : (Kd.int .i64).C w B cs.length cs) (hn : cs.length * 8 ≤ 140737488355328) (hc : CanL cs) (hl : ∀ i : Nat, i < c.body.length → Live.Can (atIr c.body i).n) :
    Calls Try.prog 35 #[.agg (c.vals A cap), .slice B cs.length capB] w (ExecOut w c cs) := by
  by_cases hf : fitsR c cs.length = true
  · exact exec_yes c A cap B capB cs w hC hB hn hc hl hf
  · exact exec_no c A cap B capB cs w hC (by simpa using hf)
end Go.Proofs.Ytdcmeefeinppnaa.Rsem
