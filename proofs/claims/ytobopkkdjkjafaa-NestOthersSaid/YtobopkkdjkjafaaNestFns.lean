/- nest.Spans, nest.Depth, nest.Target: what they come to. -/
import Derived.Test.YtobopkkdjkjafaaNest
import Derived.Conc.MuLone
namespace Go.Proofs.Ytobopkkdjkjafaa.Nest
open Go.RowKit Go.Proofs.YtobopkkdjkjafaaW.PrintWords Go.Proofs.YtobopkkdjkjafaaW.PrintLast Go.Proofs.Ytobopkkdjkjafaa.Mem
set_option linter.unusedVariables false
set_option linter.unusedSimpArgs false

def wkAll (L : List T3) : List T3 × Int × List (Int × List Int) := wk L L.length 0 [] [] false

/-! Spans -/
theorem seer_spans : Seer Try.prog 38 #[] (fun (_ : Unit) FP _ => ∀ k, ¬ FP k) (fun _ _ s => s) (fun _ => 0) where
  fn := fun args w => MuLone.run_callFunc_enter Try.func38 (by kernel_rfl) rfl args w
  lt := fun h hk => absurd hk (h _)
  keep := fun h _ => h
  cnt_upd := fun _ _ _ => Nat.zero_le _
  call := fun {s FP w} a A xs c sv hI hC hA hc hl hn => by
    have HI := Aside0.mk hI
    clear hI hC hA hc hl hn
    show Calls Try.prog 38 #[.int .i64 a, .slice A xs.length c, sv] w _
    go_enter Try.func38, Try.ntmps38
    go_wp2
    go_end0
    exact ⟨rfl, FP, HI.out, fun k hk => .inl hk, Ch.refl _ _⟩

def Got (w : World) (R : List T3) (E : Int) (e : Ending) (w' : World) : Prop := ∃ v, e = .returned (.tuple #[v, .int .i64 E]) ∧ k3.R 34 w' w.heap.size (fun _ => True) v R ∧ Below w.heap.size w w'

theorem spans_calls (A0 : Option Addr) (c0 : Nat) (L : List T3) (w : World) (hL : k3.C w A0 L.length L) (hc0 : L.length ≤ c0) (hn : L.length ≤ 90000) :
    Calls Try.prog 18 #[.slice A0 L.length c0] w fun e w' => Got w (wkAll L).1 (wkAll L).2.1 e w' := by
  have HL := Aside0.mk hL
  clear hL
  go_enter Try.func18, Try.ntmps18
  go_wp2_with (fail)
  refine (walk_calls seer_spans A0 c0 L () (fun _ => False) _ (fun W hW => Kd.C_below HL.out (hW.below (fun _ h => h.elim))) hc0 hn (fun _ h => h) (Nat.zero_le _) (wkAll L).1 (wkAll L).2.1 (wkAll L).2.2 rfl).mono ?_
  rintro e w2 ⟨v, FP, rfl, hR, hI, hsub, hch⟩
  have HD := Aside0.mk (And.intro hR hch)
  clear hR hI hsub hch
  go_wp2
  go_ret2
  exact ⟨v, rfl, Kd.R_mono HD.out.1 (fun _ _ => trivial), HD.out.2.below (fun _ h => h.elim)⟩

/-! Depth -/
def depthInv (p : Nat) (s : List Int) (FP : Nat → Prop) (w : World) : Prop :=
  ∃ v, w.heap[p]? = some (.cells #[v] 44 (0, 0)) ∧ (Kd.int .i64).R 3 w (p + 1) (fun k => v.ownBlock = some k) v s ∧ ∀ k, FP k ↔ (k = p ∨ v.ownBlock = some k)
theorem own_ok {w : World} {B : Nat} {ok : Nat → Prop} {v : Value} {s : List Int} (h : (Kd.int .i64).R 3 w B ok v s) : (Kd.int .i64).R 3 w B (fun k => v.ownBlock = some k) v s := Kd.R_of_own (Kd.own_of_R h) (fun _ hk => hk)

def SeenDepth (p : Nat) (s : List Int) (FP : Nat → Prop) (w : World) (e : Ending) (w' : World) : Prop := e = .returned (.tuple #[]) ∧ ∃ FP', depthInv p s FP' w' ∧ (∀ k, FP' k → FP k ∨ w.heap.size ≤ k) ∧ Ch w w' FP

theorem depth_see (p : Nat) {s : List Int} {FP : Nat → Prop} {w : World} (a : Int) (A : Option Addr) (m c : Nat) (sv : Value) (hI : depthInv p s FP w) (hl : m ≤ 100000) (hn : s.length ≤ 100000) :
    Calls Try.prog 40 #[.int .i64 a, .slice A m c, sv, .pointer (some ⟨p, 0, none⟩)] w fun e w' => SeenDepth p (s ++ [(m : Int)]) FP w e w' := by
  obtain ⟨v, hp, hR, hF⟩ := hI
  obtain ⟨Av, cv, ev⟩ := Kd.R_slice hR
  subst ev
  have HR := Aside0.mk hR
  have HF := Aside0.mk hF
  have hc1 : w.cell? ⟨p, 0, none⟩ = some (.slice Av s.length cv) := (blk_cell hp 0).trans rfl
  have hps : p < w.heap.size := blk_lt hp
  have HP := Aside0.mk hp
  clear hR hF hp
  go_enter Try.func40, Try.ntmps40
  go_wp2_with ((with_reducible refine gate_builtin (b := .append) (xs := #[.tmp 7, .tmp 10]) rfl ?_); at_builtin; refine Kd.R_append (Kd.int .i64) (w0 := _) (p + 1) rfl (.tmp 7) (.tmp 10) 44 3 (.int .i64 0) 8 rfl Try.underlying44 infoInt rfl (by decide) (by omega) (.slice Av s.length cv) s (m : Int) [.int .i64 (m : Int)] (fun _ => True) (fun _ => False) rfl rfl ?aP (fun _ hk => hk.elim) ?aF ?aO (Below.refl _ _) ?aS ?aL ?_; (case aP => exact rfl); (case aF => exact (fun _ _ => trivial)); (case aO => exact Kd.R_mono HR.out (fun _ _ => trivial)); (case aS => exact hps); (case aL => omega); intro v1 w3 hO hB hg hat; have hne : some p ≠ (Value.slice Av s.length cv).ownBlock := (fun he => by have := Kd.R_base HR.out p he.symm; omega); have hp3 := blk_grown HP.out hg hne; have hc3 : w3.cell? ⟨p, 0, none⟩ = some (.slice Av s.length cv) := (blk_cell hp3 0).trans rfl; have hf3 : w3.frozen? ⟨p, 0, none⟩ = false := blk_frozen hp3 0; have HA := Aside0.mk (And.intro hO (And.intro hg (And.intro hat (And.intro hne hp3)))); clear hO hB hg hat hne hp3 hc1; obtain ⟨A1, c1, e1⟩ := Kd.R_slice HA.out.1; subst e1)
  go_end0
  obtain ⟨hO, hg, hat, hne, hp3⟩ := HA.out
  have hn1 : ∀ k, (Value.slice A1 (s ++ [(m : Int)]).length c1).ownBlock = some k → k ≠ p := fun k hk he => by subst he; have := Kd.R_base hO k hk; omega
  refine ⟨rfl, fun k => k = p ∨ (Value.slice A1 (s ++ [(m : Int)]).length c1).ownBlock = some k, ⟨_, by simpa using blk_set hp3 0 (.slice A1 (s ++ [(m : Int)]).length c1), Kd.R_far (own_ok hO) (fun k hk => hn1 k hk) _, fun k => Iff.rfl⟩, ?_, ?_⟩
  · intro k hk
    rcases hk with hk | hk
    · exact .inl ((HF.out k).2 (.inl hk))
    · rcases hat with hat | ⟨b, hb, hsz⟩
      · exact .inl ((HF.out k).2 (.inr (by rw [← hat]; exact hk)))
      · right; rw [hb] at hk; injection hk with hk; omega
  · refine ⟨hg.os, hg.tape, hg.output, by simpa using hg.size, fun i hi hn => ?_⟩
    have h1 : i ≠ p := fun h => hn ((HF.out i).2 (.inl h))
    rw [Below.heap_setCell _ _ _ _ h1]
    exact hg.block i hi (fun he => hn ((HF.out i).2 (.inr he.symm)))

theorem seer_depth (p : Nat) : Seer Try.prog 40 #[.pointer (some ⟨p, 0, none⟩)] (depthInv p) (fun _ xs s => s ++ [(xs.length : Int)]) (fun s => s.length) where
  fn := fun args w => MuLone.run_callFunc_enter Try.func40 (by kernel_rfl) rfl args w
  lt := fun {s FP w k} ⟨v, hp, hR, hF⟩ hk => by
    rcases (hF k).1 hk with rfl | hk
    · exact blk_lt hp
    · exact Kd.R_lt hR k hk
  keep := fun {s FP w w'} ⟨v, hp, hR, hF⟩ hm => ⟨v, (hm p ((hF p).2 (.inl rfl))).trans hp, Kd.R_move hR (fun k hk => hm k ((hF k).2 (.inr hk))), hF⟩
  cnt_upd := fun _ xs s => by simp
  call := fun {s FP w} a A xs c sv hI hC hA hc hl hn => depth_see p a A xs.length c sv hI hl hn

def depths (L : List T3) : List Int := if (wkAll L).2.1 = 0 then (wkAll L).2.2.map (fun p => (p.2.length : Int)) else []
theorem fold_depth (l : List (Int × List Int)) : ∀ s : List Int, l.foldl (fun s p => (fun (_ : Int) (xs : List Int) (s : List Int) => s ++ [(xs.length : Int)]) p.1 p.2 s) s = s ++ l.map (fun p => (p.2.length : Int)) := by
  induction l with
  | nil => intro s; simp
  | cons p l ih => intro s; simp only [List.foldl_cons, List.map_cons]; rw [ih]; simp

def GotInts (w : World) (R : List Int) (E : Int) (e : Ending) (w' : World) : Prop := ∃ v, e = .returned (.tuple #[v, .int .i64 E]) ∧ (Kd.int .i64).R 3 w' w.heap.size (fun _ => True) v R ∧ Below w.heap.size w w'

set_option maxHeartbeats 1000000 in
theorem depth_calls (A0 : Option Addr) (c0 : Nat) (L : List T3) (w : World) (hL : k3.C w A0 L.length L) (hc0 : L.length ≤ c0) (hn : L.length ≤ 90000) :
    Calls Try.prog 22 #[.slice A0 L.length c0] w fun e w' => GotInts w (depths L) (wkAll L).2.1 e w' := by
  have HL := Aside0.mk hL
  clear hL
  obtain ⟨E, hE⟩ : ∃ E, (wkAll L).2.1 = E := ⟨_, rfl⟩
  have HD : Aside0 (depths L = if E = 0 then (wkAll L).2.2.map (fun p => (p.2.length : Int)) else []) := ⟨by unfold depths; rw [hE]⟩
  have HE := Aside0.mk hE
  rw [hE]
  clear hE
  have h0 : Aside0 (∀ C, depthInv w.heap.size [] (fun k => k = w.heap.size) (w.alloc (.cells #[.slice none 0 0] C)) ∨ C ≠ 44) := ⟨fun C => by
    by_cases hC : C = 44
    · subst hC; left
      exact ⟨.slice none 0 0, blk_new _ _, own_ok (Kd.R_nil _ _ _ _ (fun _ => True)), fun k => by simp [Value.ownBlock]⟩
    · right; exact hC⟩
  have hw : ∀ C W, Ch (w.alloc C) W (fun k => k = w.heap.size) → Below w.heap.size w W := fun C W h =>
    ((Ch.of_below (below_alloc (Below.refl _ _) C) (fun k => k = w.heap.size)).trans h (fun k hk => .inl hk)).below (fun k hk => by omega)
  have HW := Aside0.mk hw
  clear hw
  have hf : ∀ C, (w.alloc (.cells #[.slice none 0 0] C)).cell? ⟨w.heap.size, 0, none⟩ = some (.slice none 0 0) := fun C => by rw [World.cell?_alloc_at _ _ _ _ rfl]; rfl
  by_cases hz : E = 0
  · subst hz
    rw [if_pos rfl] at HD
    go_enter Try.func22, Try.ntmps22
    go_wp2_with (fail)
    refine (walk_calls (seer_depth w.heap.size) A0 c0 L [] (fun k => k = w.heap.size) _ (fun W hW => Kd.C_below HL.out (HW.out _ W hW)) hc0 hn ((h0.out _).resolve_right (by simp)) (Nat.zero_le _) (wkAll L).1 0 (wkAll L).2.2 (by rw [← HE.out]; rfl)).mono ?_
    rintro e w2 ⟨v, FP, rfl, hR, ⟨vo, hp, hO, hF⟩, hsub, hch⟩
    rw [fold_depth, List.nil_append, ← HD.out] at hO
    have HA := Aside0.mk (And.intro hO (HW.out _ _ hch))
    have hc : w2.cell? ⟨w.heap.size, 0, none⟩ = some vo := (blk_cell hp 0).trans rfl
    clear hR hp hO hF hsub hch
    go_wp2
    go_ret2
    exact ⟨vo, rfl, Kd.R_mono (Kd.R_lower HA.out.1 (by omega)) (fun _ _ => trivial), HA.out.2⟩
  · rw [if_neg hz] at HD
    have hzb : (E != 0) = true := bne_iff_ne.2 hz
    clear hz
    go_enter Try.func22, Try.ntmps22
    go_wp2_with (fail)
    refine (walk_calls (seer_depth w.heap.size) A0 c0 L [] (fun k => k = w.heap.size) _ (fun W hW => Kd.C_below HL.out (HW.out _ W hW)) hc0 hn ((h0.out _).resolve_right (by simp)) (Nat.zero_le _) (wkAll L).1 E (wkAll L).2.2 (by rw [← HE.out]; rfl)).mono ?_
    rintro e w2 ⟨v, FP, rfl, hR, hI, hsub, hch⟩
    have HA := Aside0.mk (HW.out _ _ hch)
    clear hR hI hsub hch
    go_wp2
    go_ret2
    exact ⟨_, rfl, by rw [HD.out]; exact Kd.R_nil _ _ _ _ _, HA.out⟩

theorem blk_add (a : Addr) (i : Nat) : (a.add i).block = a.block := by unfold Addr.add; split <;> rfl

/-! Target -/
def tsee (a d i : Int) (xs : List Int) (s : Bool × Int) : Bool × Int :=
  if i ≠ a ∨ d < 0 ∨ d > (xs.length : Int) then s else (true, if d < (xs.length : Int) then rd xs ((xs.length : Int) - 1 - d) else s.2)

structure targetInv (a d : Int) (g : Nat) (s : Bool × Int) (FP : Nat → Prop) (w : World) : Prop where
  b0 : w.heap[g]? = some (.cells #[.int .i64 a] 3 (0, 0))
  b1 : w.heap[g + 1]? = some (.cells #[.int .i64 d] 3 (0, 0))
  b2 : w.heap[g + 2]? = some (.cells #[.int .i64 s.2] 3 (0, 0))
  b3 : w.heap[g + 3]? = some (.cells #[.bool s.1] 4 (0, 0))
  fp : ∀ k, FP k ↔ (g ≤ k ∧ k ≤ g + 3)

def SeenTarget (a d : Int) (g : Nat) (s : Bool × Int) (FP : Nat → Prop) (w : World) (e : Ending) (w' : World) : Prop := e = .returned (.tuple #[]) ∧ targetInv a d g s FP w' ∧ Ch w w' FP

set_option maxHeartbeats 1000000 in
theorem target_see (a d : Int) (g : Nat) {s : Bool × Int} {FP : Nat → Prop} {w : World} (i : Int) (A : Option Addr) (xs : List Int) (c : Nat) (sv : Value) (hI : targetInv a d g s FP w) (hC : (Kd.int .i64).C w A xs.length xs) (hA : ∀ ad, A = some ad → 0 < xs.length → ¬ FP ad.block) (hl : xs.length ≤ 100000) :
    Calls Try.prog 36 #[.int .i64 i, .slice A xs.length c, sv, .pointer (some ⟨g, 0, none⟩), .pointer (some ⟨g + 1, 0, none⟩), .pointer (some ⟨g + 3, 0, none⟩), .pointer (some ⟨g + 2, 0, none⟩)] w fun e w' => SeenTarget a d g (tsee a d i xs s) FP w e w' := by
  have c0 : w.cell? ⟨g, 0, none⟩ = some (.int .i64 a) := (blk_cell hI.b0 0).trans rfl
  have c1 : w.cell? ⟨g + 1, 0, none⟩ = some (.int .i64 d) := (blk_cell hI.b1 0).trans rfl
  have c2 : w.cell? ⟨g + 2, 0, none⟩ = some (.int .i64 s.2) := (blk_cell hI.b2 0).trans rfl
  have c3 : w.cell? ⟨g + 3, 0, none⟩ = some (.bool s.1) := (blk_cell hI.b3 0).trans rfl
  have f2 : w.frozen? ⟨g + 2, 0, none⟩ = false := blk_frozen hI.b2 0
  have f3 : w.frozen? ⟨g + 3, 0, none⟩ = false := blk_frozen hI.b3 0
  have HI := Aside0.mk hI
  clear hI
  by_cases h1 : i = a
  · subst h1
    by_cases h2 : d < 0
    · have hs : tsee i d i xs s = s := by unfold tsee; rw [if_pos (.inr (.inl h2))]
      have HS := Aside0.mk hs
      clear hs hC hA
      rw [HS.out]
      go_enter Try.func36, Try.ntmps36
      go_wp2
      first
        | go_end0
        | refine bodyPost_ret (results_none rfl _ _ _) rfl ?_
      exact ⟨rfl, HI.out, Ch.refl _ _⟩
    · by_cases h3 : (xs.length : Int) < d
      · have hs : tsee i d i xs s = s := by unfold tsee; rw [if_pos (.inr (.inr h3))]
        have HS := Aside0.mk hs
        clear hs hC hA
        rw [HS.out]
        go_enter Try.func36, Try.ntmps36
        go_wp2
        first
          | go_end0
          | refine bodyPost_ret (results_none rfl _ _ _) rfl ?_
        exact ⟨rfl, HI.out, Ch.refl _ _⟩
      · by_cases h4 : d < (xs.length : Int)
        · obtain ⟨ad, e, hx⟩ := Kd.at_int hC ((xs.length : Int) - 1 - d) (by omega) (by omega)
          subst e
          have hs : tsee i d i xs s = (true, rd xs ((xs.length : Int) - 1 - d)) := by unfold tsee; rw [if_neg (by omega), if_pos h4]
          have HS := Aside0.mk hs
          clear hs hC
          rw [HS.out]
          obtain ⟨dn, rfl⟩ := Int.eq_ofNat_of_zero_le (by omega : 0 ≤ d)
          rw [show ((xs.length : Int) - 1 - (dn : Int)).toNat = xs.length - 1 - dn from by omega] at hx
          have h4' : dn < xs.length := by omega
          have hne : (ad.add (xs.length - 1 - dn)).block ≠ g + 3 := by
            have h := hA ad rfl (by omega)
            rw [HI.out.fp] at h
            rw [blk_add]; omega
          have hx' : ∀ u, (w.setCell ⟨g + 3, 0, none⟩ u).cell? (ad.add (xs.length - 1 - dn)) = some (.int .i64 (rd xs ((xs.length : Int) - 1 - (dn : Int)))) := fun u => by
            rw [World.cell?_of_block (w := w) (Below.heap_setCell w ⟨g + 3, 0, none⟩ u _ hne)]; exact hx
          clear h2 h3 hA hne hx
          go_enter Try.func36, Try.ntmps36
          go_wp2
          go_end0
          have hI := HI.out
          have e1 := blk_set hI.b3 0 (.bool true)
          refine ⟨rfl, ⟨?_, ?_, ?_, ?_, hI.fp⟩, ?_⟩
          · exact blk_far (blk_far hI.b0 (by simp) _) (by simp) _
          · exact blk_far (blk_far hI.b1 (by simp) _) (by simp) _
          · simpa using blk_set (blk_far hI.b2 (p := ⟨g + 3, 0, none⟩) (by simp) (.bool true)) 0 (.int .i64 (rd xs ((xs.length : Int) - 1 - (dn : Int))))
          · simpa using blk_far e1 (p := ⟨g + 2, 0, none⟩) (by simp) (.int .i64 (rd xs ((xs.length : Int) - 1 - (dn : Int))))
          · refine ⟨rfl, rfl, rfl, by simp [World.setCell], fun k hk hn => ?_⟩
            rw [hI.fp] at hn
            rw [Below.heap_setCell _ _ _ _ (by simp; omega), Below.heap_setCell _ _ _ _ (by simp; omega)]
        · have hs : tsee i d i xs s = (true, s.2) := by unfold tsee; rw [if_neg (by omega), if_neg h4]
          have HS := Aside0.mk hs
          clear hs hC
          rw [HS.out]
          clear hA
          go_enter Try.func36, Try.ntmps36
          go_wp2
          go_end0
          have hI := HI.out
          refine ⟨rfl, ⟨?_, ?_, ?_, ?_, hI.fp⟩, ?_⟩
          · exact blk_far hI.b0 (by simp) _
          · exact blk_far hI.b1 (by simp) _
          · exact blk_far hI.b2 (by simp) _
          · simpa using blk_set hI.b3 0 (.bool true)
          · refine ⟨rfl, rfl, rfl, by simp [World.setCell], fun k hk hn => ?_⟩
            rw [hI.fp] at hn
            rw [Below.heap_setCell _ _ _ _ (by simp; omega)]
  · have hs : tsee a d i xs s = s := by unfold tsee; rw [if_pos (.inl h1)]
    have HS := Aside0.mk hs
    have hb : (i != a) = true := bne_iff_ne.2 h1
    clear hs hC h1 hA
    rw [HS.out]
    go_enter Try.func36, Try.ntmps36
    go_wp2
    first
      | go_end0
      | refine bodyPost_ret (results_none rfl _ _ _) rfl ?_
    exact ⟨rfl, HI.out, Ch.refl _ _⟩

theorem seer_target (a d : Int) (g : Nat) : Seer Try.prog 36 #[.pointer (some ⟨g, 0, none⟩), .pointer (some ⟨g + 1, 0, none⟩), .pointer (some ⟨g + 3, 0, none⟩), .pointer (some ⟨g + 2, 0, none⟩)] (targetInv a d g) (fun i xs s => tsee a d i xs s) (fun _ => 0) where
  fn := fun args w => MuLone.run_callFunc_enter Try.func36 (by kernel_rfl) rfl args w
  lt := fun {s FP w k} h hk => by
    have := (h.fp k).1 hk
    have := blk_lt h.b3
    omega
  keep := fun {s FP w w'} h hm => ⟨(hm _ ((h.fp _).2 (by omega))).trans h.b0, (hm _ ((h.fp _).2 (by omega))).trans h.b1, (hm _ ((h.fp _).2 (by omega))).trans h.b2, (hm _ ((h.fp _).2 (by omega))).trans h.b3, h.fp⟩
  cnt_upd := fun _ _ _ => Nat.zero_le _
  call := fun {s FP w} i A xs c sv hI hC hA hc hl hn => (target_see a d g i A xs c sv hI hC hA hl).mono fun e w' ⟨he, hI', hch⟩ => ⟨he, FP, hI', fun k hk => .inl hk, hch⟩

/-- what is open anywhere is one of the spans, and each of these begins within the body -/
theorem wk_ok (L : List T3) : ∀ (r a : Nat) (sp : List T3) (op : List Int) (deep : Bool) (R : List T3) (lg : List (Int × List Int)), wk L r a sp op deep = (R, 0, lg) →
    (∀ j ∈ op, 0 ≤ j ∧ j < (sp.length : Int)) → (∀ x ∈ sp, 0 ≤ x.1 ∧ x.1 < (L.length : Int)) → a + r = L.length →
    ∃ (S : List T3) (n : Int), R = S ++ [(-1, -1, n)] ∧ sp.length ≤ S.length ∧ (∀ x ∈ S, 0 ≤ x.1 ∧ x.1 < (L.length : Int)) ∧ ∀ p ∈ lg, ∀ j ∈ p.2, 0 ≤ j ∧ j < (S.length : Int) := by
  intro r
  induction r with
  | zero =>
    intro a sp op deep R lg h
    simp [wk] at h
  | succ r ih =>
    intro a sp op deep R lg h hj hx ha
    by_cases ho : opens (at3 L a).1 = true
    · obtain ⟨lg1, rfl, h1⟩ := wk_opens h ho
      obtain ⟨S, n, e, hl, hS, hp⟩ := ih (a + 1) _ _ _ _ _ h1 (fun j hj' => by
        rcases List.mem_append.1 hj' with hj' | hj'
        · have := hj j hj'; simp; omega
        · simp at hj'; simp; omega) (fun x hx' => by
        rcases List.mem_append.1 hx' with hx' | hx'
        · exact hx x hx'
        · simp at hx'; subst hx'; simp; omega) (by omega)
      have hl' : sp.length + 1 ≤ S.length := by simpa using hl
      refine ⟨S, n, e, by omega, hS, fun p hp' => ?_⟩
      rcases List.mem_cons.1 hp' with rfl | hp'
      · intro j hj'; have := hj j hj'; omega
      · exact hp p hp'
    · by_cases h5 : (at3 L a).1 = 5
      · by_cases hop : op = []
        · have := (wk_else_no h h5 (.inl hop)).2.1; cases this
        · have hl1 : 1 ≤ op.length := by cases op with | nil => exact absurd rfl hop | cons _ _ => simp
          have ei : ((op.length : Int) - 1).toNat = op.length - 1 := by omega
          have hjm : rd op ((op.length : Int) - 1) ∈ op := by
            unfold rd
            rw [ei, List.getD_eq_getElem?_getD, List.getElem?_eq_getElem (by omega)]
            exact List.getElem_mem _
          obtain ⟨hj0, hj1⟩ := hj _ hjm
          obtain ⟨jn, hjn⟩ := Int.eq_ofNat_of_zero_le hj0
          rw [hjn] at hj1
          have hsp : at3 sp (jn : Int) ∈ sp := by
            unfold at3
            rw [Int.toNat_natCast, List.getD_eq_getElem?_getD, List.getElem?_eq_getElem (by omega)]
            exact List.getElem_mem _
          obtain ⟨hb0, hb1⟩ := hx _ hsp
          obtain ⟨bn, hbn⟩ := Int.eq_ofNat_of_zero_le hb0
          have hxx : at3 sp (jn : Int) = ((bn : Int), (at3 sp (jn : Int)).2.1, (at3 sp (jn : Int)).2.2) := by rw [← hbn]
          by_cases hb : (at3 L (bn : Int)).1 = 4 ∧ (at3 sp (jn : Int)).2.1 < 0
          · obtain ⟨lg1, rfl, h1⟩ := wk_else h h5 hop hjn hxx hb.1 hb.2
            obtain ⟨S, n, e, hl, hS, hp⟩ := ih (a + 1) _ _ _ _ _ h1 (fun j hj' => by rw [List.length_set]; exact hj j hj') (fun x hx' => by
              rcases List.mem_or_eq_of_mem_set hx' with hx' | rfl
              · exact hx x hx'
              · simp only; omega) (by omega)
            rw [List.length_set] at hl
            refine ⟨S, n, e, hl, hS, fun p hp' => ?_⟩
            rcases List.mem_cons.1 hp' with rfl | hp'
            · intro j hj'; have := hj j (List.dropLast_subset _ hj'); omega
            · exact hp p hp'
          · have := (wk_else_no h h5 (.inr ⟨hop, jn, bn, _, _, hjn, hxx, by omega⟩)).2.1; cases this
      · by_cases h11 : (at3 L a).1 = 11
        · by_cases hop : op = []
          · subst hop
            obtain ⟨rl, r1, r2, r3⟩ := wk_last h h11
            by_cases hl : a + 1 = L.length
            · cases deep
              · obtain ⟨rR, _⟩ := r3 hl rfl
                subst rl rR
                exact ⟨sp, _, rfl, Nat.le_refl _, hx, fun p hp j hj' => by simp at hp; subst hp; simp at hj'⟩
              · have := (r2 hl rfl).2; cases this
            · have := (r1 hl).2; cases this
          · have hl1 : 1 ≤ op.length := by cases op with | nil => exact absurd rfl hop | cons _ _ => simp
            have ei : ((op.length : Int) - 1).toNat = op.length - 1 := by omega
            have hjm : rd op ((op.length : Int) - 1) ∈ op := by
              unfold rd
              rw [ei, List.getD_eq_getElem?_getD, List.getElem?_eq_getElem (by omega)]
              exact List.getElem_mem _
            obtain ⟨hj0, hj1⟩ := hj _ hjm
            obtain ⟨jn, hjn⟩ := Int.eq_ofNat_of_zero_le hj0
            rw [hjn] at hj1
            have hsp : at3 sp (jn : Int) ∈ sp := by
              unfold at3
              rw [Int.toNat_natCast, List.getD_eq_getElem?_getD, List.getElem?_eq_getElem (by omega)]
              exact List.getElem_mem _
            obtain ⟨hb0, hb1⟩ := hx _ hsp
            obtain ⟨bn, hbn⟩ := Int.eq_ofNat_of_zero_le hb0
            have hxx : at3 sp (jn : Int) = ((bn : Int), (at3 sp (jn : Int)).2.1, (at3 sp (jn : Int)).2.2) := by rw [← hbn]
            obtain ⟨lg1, rfl, h1⟩ := wk_end h h11 hop hjn hxx
            obtain ⟨S, n, e, hl, hS, hp⟩ := ih (a + 1) _ _ _ _ _ h1 (fun j hj' => by rw [List.length_set]; exact hj j (List.dropLast_subset _ hj')) (fun x hx' => by
              rcases List.mem_or_eq_of_mem_set hx' with hx' | rfl
              · exact hx x hx'
              · simp only; omega) (by omega)
            rw [List.length_set] at hl
            refine ⟨S, n, e, hl, hS, fun p hp' => ?_⟩
            rcases List.mem_cons.1 hp' with rfl | hp'
            · intro j hj'; have := hj j (List.dropLast_subset _ hj'); omega
            · exact hp p hp'
        · obtain ⟨lg1, rfl, h1⟩ := wk_other h ho h5 h11
          obtain ⟨S, n, e, hl, hS, hp⟩ := ih (a + 1) _ _ _ _ _ h1 hj hx (by omega)
          refine ⟨S, n, e, hl, hS, fun p hp' => ?_⟩
          rcases List.mem_cons.1 hp' with rfl | hp'
          · intro j hj'; have := hj j hj'; omega
          · exact hp p hp'

def found (L : List T3) (a d : Int) : Bool × Int := (wkAll L).2.2.foldl (fun s p => tsee a d p.1 p.2 s) (false, -1)

theorem fold_in (a d m : Int) (l : List (Int × List Int)) : ∀ s : Bool × Int, (∀ p ∈ l, ∀ j ∈ p.2, 0 ≤ j ∧ j < m) → s.2 < m → (l.foldl (fun s p => tsee a d p.1 p.2 s) s).2 < m ∧ -1 ≤ (l.foldl (fun s p => tsee a d p.1 p.2 s) s).2 ∨ ¬ -1 ≤ s.2 := by
  induction l with
  | nil => intro s _ h; simp only [List.foldl_nil]; omega
  | cons p l ih =>
    intro s hp hs
    simp only [List.foldl_cons]
    have hq : (tsee a d p.1 p.2 s).2 < m ∧ (-1 ≤ s.2 → -1 ≤ (tsee a d p.1 p.2 s).2) := by
      unfold tsee
      split
      · exact ⟨hs, fun h => h⟩
      · rename_i h1
        simp only
        split
        · rename_i h2
          have hm : rd p.2 ((p.2.length : Int) - 1 - d) ∈ p.2 := by
            unfold rd
            rw [List.getD_eq_getElem?_getD, List.getElem?_eq_getElem (by omega)]
            exact List.getElem_mem _
          have := hp p (List.mem_cons_self ..) _ hm
          omega
        · exact ⟨hs, fun h => h⟩
    rcases ih (tsee a d p.1 p.2 s) (fun q hq' => hp q (List.mem_cons_of_mem _ hq')) hq.1 with h | h
    · exact .inl h
    · right; intro h'; exact h (hq.2 h')

def target (L : List T3) (a d : Int) : Int × Bool × Int :=
  if (wkAll L).2.1 ≠ 0 then (0, false, (wkAll L).2.1)
  else if (found L a d).1 = false then (0, false, 3)
  else if (found L a d).2 < 0 then ((L.length : Int) - 1, false, 0)
  else if (at3 L (at3 (wkAll L).1 (found L a d).2).1).1 = 3 then ((at3 (wkAll L).1 (found L a d).2).1, true, 0)
  else ((at3 (wkAll L).1 (found L a d).2).2.2, false, 0)

def GotTarget (w : World) (t : Int × Bool × Int) (e : Ending) (w' : World) : Prop := e = .returned (.tuple #[.int .i64 t.1, .bool t.2.1, .int .i64 t.2.2]) ∧ Below w.heap.size w w'
theorem GotTarget.of {w w' : World} {t : Int × Bool × Int} {x : Int} {b : Bool} {E : Int} (h : t = (x, b, E)) (hb : Below w.heap.size w w') : GotTarget w t (.returned (.tuple #[.int .i64 x, .bool b, .int .i64 E])) w' := by subst h; exact ⟨rfl, hb⟩

theorem target_start (w : World) (a d : Int) : targetInv a d w.heap.size (false, -1) (fun k => w.heap.size ≤ k ∧ k ≤ w.heap.size + 3) ((((w.alloc (.cells #[.int .i64 a] 3)).alloc (.cells #[.int .i64 d] 3)).alloc (.cells #[.int .i64 (-1)] 3)).alloc (.cells #[.bool false] 4)) := by
  have e0 := blk_alloc (blk_alloc (blk_alloc (blk_new w (.cells #[.int .i64 a] 3)) (.cells #[.int .i64 d] 3)) (.cells #[.int .i64 (-1)] 3)) (.cells #[.bool false] 4)
  have e1 := blk_alloc (blk_alloc (blk_new (w.alloc (.cells #[.int .i64 a] 3)) (.cells #[.int .i64 d] 3)) (.cells #[.int .i64 (-1)] 3)) (.cells #[.bool false] 4)
  have e2 := blk_alloc (blk_new ((w.alloc (.cells #[.int .i64 a] 3)).alloc (.cells #[.int .i64 d] 3)) (.cells #[.int .i64 (-1)] 3)) (.cells #[.bool false] 4)
  have e3 := blk_new (((w.alloc (.cells #[.int .i64 a] 3)).alloc (.cells #[.int .i64 d] 3)).alloc (.cells #[.int .i64 (-1)] 3)) (.cells #[.bool false] 4)
  exact ⟨e0, by simpa using e1, by simpa using e2, by simpa using e3, fun k => Iff.rfl⟩

set_option maxHeartbeats 4000000 in
set_option maxRecDepth 100000 in
theorem target_calls (A0 : Option Addr) (c0 : Nat) (L : List T3) (a d : Int) (w : World) (hL : k3.C w A0 L.length L) (hc0 : L.length ≤ c0) (hn : L.length ≤ 90000) :
    Calls Try.prog 16 #[.slice A0 L.length c0, .int .i64 a, .int .i64 d] w fun e w' => GotTarget w (target L a d) e w' := by
  have HL := Aside0.mk hL
  clear hL
  have huI := Try.underlying37
  have huS := Try.underlying34
  obtain ⟨R, hR⟩ : ∃ R, (wkAll L).1 = R := ⟨_, rfl⟩
  obtain ⟨E, hE⟩ : ∃ E, (wkAll L).2.1 = E := ⟨_, rfl⟩
  obtain ⟨F, hF⟩ : ∃ F, found L a d = F := ⟨_, rfl⟩
  have hall : wk L L.length 0 [] [] false = (R, E, (wkAll L).2.2) := by rw [← hR, ← hE]; rfl
  have HALL := Aside0.mk hall
  have HF := Aside0.mk hF
  obtain ⟨T, hT⟩ : ∃ T, target L a d = T := ⟨_, rfl⟩
  rw [hT]
  have hT' := hT
  unfold target at hT'
  rw [hE, hF, hR] at hT'
  have HT := Aside0.mk hT'
  clear hR hE hF hT hT' hall
  have hw : ∀ C1 C2 C3 C4 W, Ch ((((w.alloc C1).alloc C2).alloc C3).alloc C4) W (fun k => w.heap.size ≤ k ∧ k ≤ w.heap.size + 3) → Below w.heap.size w W := fun C1 C2 C3 C4 W h =>
    ((Ch.of_below (below_alloc (below_alloc (below_alloc (below_alloc (Below.refl _ _) C1) C2) C3) C4) (fun k => w.heap.size ≤ k ∧ k ≤ w.heap.size + 3)).trans h (fun k hk => .inl hk)).below (fun k hk => hk.1)
  have HW := Aside0.mk hw
  clear hw
  have f9 : ∀ C1 C2 C3 C4, (((((w.alloc C1).alloc C2).alloc C3).alloc C4)).heap.size = w.heap.size + 4 := fun _ _ _ _ => by simp
  have HS := Aside0.mk f9
  clear f9
  by_cases hz : E = 0
  · subst hz
    cases hf : F.1
    · go_enter Try.func16, Try.ntmps16
      go_wp2_with (fail)
      refine (walk_calls (seer_target a d w.heap.size) A0 c0 L (false, -1) _ _ (fun W hW => Kd.C_below HL.out (HW.out _ _ _ _ W hW)) hc0 hn (target_start w a d) (Nat.zero_le _) R 0 (wkAll L).2.2 HALL.out).mono ?_
      rintro e w2 ⟨v, FP, rfl, hR, hI, hsub, hch⟩
      have hI2 : targetInv a d w.heap.size F FP w2 := by have h := HF.out; unfold found at h; rw [← h]; exact hI
      have hc2 : w2.cell? ⟨w.heap.size + 2, 0, none⟩ = some (.int .i64 F.2) := (blk_cell hI2.b2 0).trans rfl
      have hc3 : w2.cell? ⟨w.heap.size + 3, 0, none⟩ = some (.bool F.1) := (blk_cell hI2.b3 0).trans rfl
      have HA := Aside0.mk (And.intro hR (HW.out _ _ _ _ _ hch))
      clear hR hI hI2 hsub hch
      rw [hf] at hc3
      go_wp2
      go_ret3
      refine GotTarget.of ?_ HA.out.2
      have h := HT.out
      simp [hf] at h
      exact h.symm
    · by_cases hneg : F.2 < 0
      · go_enter Try.func16, Try.ntmps16
        go_wp2_with (fail)
        refine (walk_calls (seer_target a d w.heap.size) A0 c0 L (false, -1) _ _ (fun W hW => Kd.C_below HL.out (HW.out _ _ _ _ W hW)) hc0 hn (target_start w a d) (Nat.zero_le _) R 0 (wkAll L).2.2 HALL.out).mono ?_
        rintro e w2 ⟨v, FP, rfl, hR, hI, hsub, hch⟩
        have hI2 : targetInv a d w.heap.size F FP w2 := by have h := HF.out; unfold found at h; rw [← h]; exact hI
        have hc2 : w2.cell? ⟨w.heap.size + 2, 0, none⟩ = some (.int .i64 F.2) := (blk_cell hI2.b2 0).trans rfl
        have hc3 : w2.cell? ⟨w.heap.size + 3, 0, none⟩ = some (.bool F.1) := (blk_cell hI2.b3 0).trans rfl
        have HA := Aside0.mk (And.intro hR (HW.out _ _ _ _ _ hch))
        clear hR hI hI2 hsub hch
        rw [hf] at hc3
        go_wp2
        go_ret3
        refine GotTarget.of ?_ HA.out.2
        have h := HT.out
        simp [hf, hneg] at h
        exact h.symm
      · obtain ⟨S, n, eR, _, hS, hp⟩ := wk_ok L L.length 0 [] [] false R _ HALL.out (fun _ h => by simp at h) (fun _ h => by simp at h) (by omega)
        have hlt : F.2 < (S.length : Int) := by
          rcases fold_in a d (S.length : Int) (wkAll L).2.2 (false, -1) hp (by simp only; omega) with h | h
          · have hF := HF.out
            unfold found at hF
            rw [hF] at h
            exact h.1
          · exact absurd (by simp) h
        obtain ⟨jn, hj⟩ := Int.eq_ofNat_of_zero_le (by omega : 0 ≤ F.2)
        have hjR : jn < R.length := by rw [eR]; simp; omega
        have hin : at3 R (jn : Int) ∈ S := by
          unfold at3
          rw [eR, Int.toNat_natCast, List.getD_eq_getElem?_getD, List.getElem?_append_left (by omega), List.getElem?_eq_getElem (by omega)]
          exact List.getElem_mem _
        obtain ⟨hb0, hb1⟩ := hS _ hin
        obtain ⟨bn, hbn⟩ := Int.eq_ofNat_of_zero_le hb0
        have HB := Aside0.mk (And.intro hjR (And.intro hb1 (And.intro hbn hj)))
        clear hin hS hp eR hlt hb0 hb1 hneg hj hjR hbn
        by_cases hloop : (at3 L (bn : Int)).1 = 3
        · go_enter Try.func16, Try.ntmps16
          go_wp2_with (fail)
          refine (walk_calls (seer_target a d w.heap.size) A0 c0 L (false, -1) _ _ (fun W hW => Kd.C_below HL.out (HW.out _ _ _ _ W hW)) hc0 hn (target_start w a d) (Nat.zero_le _) R 0 (wkAll L).2.2 HALL.out).mono ?_
          rintro e w2 ⟨v, FP, rfl, hR, hI, hsub, hch⟩
          have hI2 : targetInv a d w.heap.size F FP w2 := by have h := HF.out; unfold found at h; rw [← h]; exact hI
          have hc2 : w2.cell? ⟨w.heap.size + 2, 0, none⟩ = some (.int .i64 F.2) := (blk_cell hI2.b2 0).trans rfl
          have hc3 : w2.cell? ⟨w.heap.size + 3, 0, none⟩ = some (.bool F.1) := (blk_cell hI2.b3 0).trans rfl
          obtain ⟨hjR, hb1, hbn, hj⟩ := HB.out
          obtain ⟨g, cap, ev, hgb, hgs, hgc⟩ := Kd.R_form hR (by omega)
          subst ev
          obtain ⟨ce, hcl, hM, hcc, hfr⟩ := Kd.R_elem hR z3 (jn : Int) (by omega) (by omega)
          obtain rfl := k3_openM hM
          have hz0 : w2.cell? ⟨g, jn * 3, none⟩ = some (.int .i64 (at3 R (jn : Int)).1) := hcc 0 _ rfl
          have hz1 : w2.cell? ⟨g, jn * 3 + 1, none⟩ = some (.int .i64 (at3 R (jn : Int)).2.1) := hcc 1 _ rfl
          have hz2 : w2.cell? ⟨g, jn * 3 + 2, none⟩ = some (.int .i64 (at3 R (jn : Int)).2.2) := hcc 2 _ rfl
          have hz2a : ∀ o, (w2.alloc o).cell? ⟨g, jn * 3 + 2, none⟩ = some (.int .i64 (at3 R (jn : Int)).2.2) := fun o => (World.cell?_alloc_past _ _ _ hgs).trans hz2
          have hLb := HW.out _ _ _ _ _ hch
          obtain ⟨ad, eA, hw0, _, _⟩ := at_k3 (Kd.C_below HL.out hLb) (bn : Int) (by omega) (by omega)
          subst eA
          rw [Int.toNat_natCast] at hw0
          have hw0a : ∀ o, (w2.alloc o).cell? (ad.add (bn * 3)) = some (.int .i64 (at3 L (bn : Int)).1) := fun o => pw_cell_below (below_alloc (Below.refl _ _) o) hw0
          have hbl : bn < L.length := by omega
          have hjl : jn < R.length := hjR
          rw [hj] at hc2
          have hc2a : ∀ o, (w2.alloc o).cell? ⟨w.heap.size + 2, 0, none⟩ = some (.int .i64 (jn : Int)) := fun o => pw_cell_below (below_alloc (Below.refl _ _) o) hc2
          rw [hbn] at hz0
          rw [hf] at hc3
          have HA := Aside0.mk (And.intro hLb (And.intro hbn hj))
          clear hR hI hI2 hsub hch hM hcl hcc hfr hgb hgc hb1 hbn hj hLb hjR hw0
          have hlb : ((at3 L (bn : Int)).1 == 3) = true := beq_iff_eq.2 hloop
          go_wp2
          go_ret3
          refine GotTarget.of ?_ (below_alloc HA.out.1 _)
          have h := HT.out
          have h2 : ¬ F.2 < 0 := by rw [HA.out.2.2]; omega
          have h3 : ¬ F.1 = false := by rw [hf]; simp
          rw [if_neg (by simp), if_neg h3, if_neg h2, HA.out.2.2, HA.out.2.1, if_pos hloop] at h
          exact h.symm
        · go_enter Try.func16, Try.ntmps16
          go_wp2_with (fail)
          refine (walk_calls (seer_target a d w.heap.size) A0 c0 L (false, -1) _ _ (fun W hW => Kd.C_below HL.out (HW.out _ _ _ _ W hW)) hc0 hn (target_start w a d) (Nat.zero_le _) R 0 (wkAll L).2.2 HALL.out).mono ?_
          rintro e w2 ⟨v, FP, rfl, hR, hI, hsub, hch⟩
          have hI2 : targetInv a d w.heap.size F FP w2 := by have h := HF.out; unfold found at h; rw [← h]; exact hI
          have hc2 : w2.cell? ⟨w.heap.size + 2, 0, none⟩ = some (.int .i64 F.2) := (blk_cell hI2.b2 0).trans rfl
          have hc3 : w2.cell? ⟨w.heap.size + 3, 0, none⟩ = some (.bool F.1) := (blk_cell hI2.b3 0).trans rfl
          obtain ⟨hjR, hb1, hbn, hj⟩ := HB.out
          obtain ⟨g, cap, ev, hgb, hgs, hgc⟩ := Kd.R_form hR (by omega)
          subst ev
          obtain ⟨ce, hcl, hM, hcc, hfr⟩ := Kd.R_elem hR z3 (jn : Int) (by omega) (by omega)
          obtain rfl := k3_openM hM
          have hz0 : w2.cell? ⟨g, jn * 3, none⟩ = some (.int .i64 (at3 R (jn : Int)).1) := hcc 0 _ rfl
          have hz1 : w2.cell? ⟨g, jn * 3 + 1, none⟩ = some (.int .i64 (at3 R (jn : Int)).2.1) := hcc 1 _ rfl
          have hz2 : w2.cell? ⟨g, jn * 3 + 2, none⟩ = some (.int .i64 (at3 R (jn : Int)).2.2) := hcc 2 _ rfl
          have hz2a : ∀ o, (w2.alloc o).cell? ⟨g, jn * 3 + 2, none⟩ = some (.int .i64 (at3 R (jn : Int)).2.2) := fun o => (World.cell?_alloc_past _ _ _ hgs).trans hz2
          have hLb := HW.out _ _ _ _ _ hch
          obtain ⟨ad, eA, hw0, _, _⟩ := at_k3 (Kd.C_below HL.out hLb) (bn : Int) (by omega) (by omega)
          subst eA
          rw [Int.toNat_natCast] at hw0
          have hw0a : ∀ o, (w2.alloc o).cell? (ad.add (bn * 3)) = some (.int .i64 (at3 L (bn : Int)).1) := fun o => pw_cell_below (below_alloc (Below.refl _ _) o) hw0
          have hbl : bn < L.length := by omega
          have hjl : jn < R.length := hjR
          rw [hj] at hc2
          have hc2a : ∀ o, (w2.alloc o).cell? ⟨w.heap.size + 2, 0, none⟩ = some (.int .i64 (jn : Int)) := fun o => pw_cell_below (below_alloc (Below.refl _ _) o) hc2
          rw [hbn] at hz0
          rw [hf] at hc3
          have HA := Aside0.mk (And.intro hLb (And.intro hbn hj))
          clear hR hI hI2 hsub hch hM hcl hcc hfr hgb hgc hb1 hbn hj hLb hjR hw0
          have hlb : ((at3 L (bn : Int)).1 == 3) = false := beq_eq_false_iff_ne.2 hloop
          go_wp2
          go_ret3
          refine GotTarget.of ?_ (below_alloc HA.out.1 _)
          have h := HT.out
          have h2 : ¬ F.2 < 0 := by rw [HA.out.2.2]; omega
          have h3 : ¬ F.1 = false := by rw [hf]; simp
          rw [if_neg (by simp), if_neg h3, if_neg h2, HA.out.2.2, HA.out.2.1, if_neg hloop] at h
          exact h.symm
  · have hzb : (E != 0) = true := bne_iff_ne.2 hz
    go_enter Try.func16, Try.ntmps16
    go_wp2_with (fail)
    refine (walk_calls (seer_target a d w.heap.size) A0 c0 L (false, -1) _ _ (fun W hW => Kd.C_below HL.out (HW.out _ _ _ _ W hW)) hc0 hn (target_start w a d) (Nat.zero_le _) R E (wkAll L).2.2 HALL.out).mono ?_
    rintro e w2 ⟨v, FP, rfl, hR, hI, hsub, hch⟩
    have hI2 : targetInv a d w.heap.size F FP w2 := by have h := HF.out; unfold found at h; rw [← h]; exact hI
    have hc2 : w2.cell? ⟨w.heap.size + 2, 0, none⟩ = some (.int .i64 F.2) := (blk_cell hI2.b2 0).trans rfl
    have hc3 : w2.cell? ⟨w.heap.size + 3, 0, none⟩ = some (.bool F.1) := (blk_cell hI2.b3 0).trans rfl
    have HA := Aside0.mk (And.intro hR (HW.out _ _ _ _ _ hch))
    clear hR hI hI2 hsub hch
    have hne := Aside0.mk hz
    clear hz
    go_wp2
    go_ret3
    refine GotTarget.of ?_ HA.out.2
    have h := HT.out
    rw [if_pos hne.out] at h
    exact h.symm

end Go.Proofs.Ytobopkkdjkjafaa.Nest
