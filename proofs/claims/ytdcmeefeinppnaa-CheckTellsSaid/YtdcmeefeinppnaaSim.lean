/- Code carried out over cells, and over other places of theirs: the same comes out (plain). -/
import Derived.Test.YtdcmeefeinppnaaBits
import Derived.Test.YtdcmeefeinppnaaRsemG
namespace Go.Proofs.Ytdcmeefeinppnaa.Rsem
open Go.RowKit Go.Proofs.YtdcmeefeinppnaaW.PrintWords Go.Proofs.YtdcmeefeinppnaaW.PrintLast Go.Proofs.YtdcmeefeinppnaaW.PrintMore Go.Proofs.Ytdcmeefeinppnaa.Mem Go.Proofs.Ytdcmeefeinppnaa.Ir Go.Proofs.Ytdcmeefeinppnaa.Live
open MapOf (get put)
open Uses (uses)
open Word (eval)
set_option linter.unusedVariables false
set_option linter.unusedSimpArgs false

/-! ### labels -/
theorem lab_same (L : List Ir) (n : Int) (k : Nat) : (cnt L n k = 0 → get (labR L k) n = none ∧ get (labs L k).1 n = none) ∧ (cnt L n k = 1 → get (labR L k) n = get (labs L k).1 n ∧ ∃ v, get (labs L k).1 n = some v ∧ 0 ≤ v ∧ v < k) := by
  induction k with
  | zero => exact ⟨fun _ => ⟨rfl, rfl⟩, fun h => by simp [cnt] at h⟩
  | succ k ih =>
    obtain ⟨ih0, ih1⟩ := ih
    by_cases h9 : (atIr L k).op = 9
    · have hR : labR L (k + 1) = put (labR L k) (atIr L k).n k := by rw [labR, if_pos h9]
      have hS : (labs L (k + 1)).1 = if (get (labs L k).2 (atIr L k).n).getD 0 + 1 = 1 then put (labs L k).1 (atIr L k).n k else (labs L k).1 := by rw [labs, if_pos h9]
      rw [hR, hS, labs_many]
      by_cases hn : (atIr L k).n = n
      · have hc : cnt L n (k + 1) = cnt L n k + 1 := by rw [cnt, if_pos ⟨h9, hn⟩]
        rw [hc, hn]
        refine ⟨fun h => absurd h (Nat.succ_ne_zero _), fun h => ?_⟩
        rw [if_pos (show ((cnt L n k : Nat) : Int) + 1 = 1 by omega), MapOf.get_put, MapOf.get_put, if_pos rfl, if_pos rfl]
        exact ⟨rfl, (k : Int), rfl, by omega, by omega⟩
      · have hc : cnt L n (k + 1) = cnt L n k := by rw [cnt, if_neg (fun e => hn e.2)]; omega
        rw [hc]
        have e1 : get (put (labR L k) (atIr L k).n k) n = get (labR L k) n := by rw [MapOf.get_put, if_neg hn]
        have e2 : get (if ((cnt L (atIr L k).n k : Nat) : Int) + 1 = 1 then put (labs L k).1 (atIr L k).n k else (labs L k).1) n = get (labs L k).1 n := by
          split
          · rw [MapOf.get_put, if_neg hn]
          · rfl
        rw [e1, e2]
        refine ⟨ih0, fun h => ?_⟩
        obtain ⟨h1, v, h2, h3, h4⟩ := ih1 h
        exact ⟨h1, v, h2, h3, by omega⟩
    · have hR : labR L (k + 1) = labR L k := by rw [labR, if_neg h9]
      have hS : labs L (k + 1) = labs L k := by rw [labs, if_neg h9]
      have hc : cnt L n (k + 1) = cnt L n k := by rw [cnt, if_neg (fun e => h9 e.1)]; omega
      rw [hR, hS, hc]
      refine ⟨ih0, fun h => ?_⟩
      obtain ⟨h1, v, h2, h3, h4⟩ := ih1 h
      exact ⟨h1, v, h2, h3, by omega⟩
theorem labR_congr {L L' : List Ir} (h : ∀ i, (atIr L' i).op = (atIr L i).op ∧ (atIr L' i).n = (atIr L i).n) (k : Nat) : labR L' k = labR L k := by
  induction k with
  | zero => rfl
  | succ k ih => unfold labR; rw [(h k).1, (h k).2, ih]

/-! ### what is live -/
theorem orL_mem {ah : List Int} (l : List Int) : ∀ (s : Int), Sub s (orL ah l s) ∧ ∀ k ∈ l, Sub (rd ah k) (orL ah l s) := by
  induction l with
  | nil => intro s; exact ⟨Sub.refl _, fun k hk => by cases hk⟩
  | cons x l ih =>
    intro s
    obtain ⟨h1, h2⟩ := ih (Go.bits .or .i64 s (rd ah x))
    refine ⟨Sub.orl.trans h1, fun k hk => ?_⟩
    rcases List.mem_cons.1 hk with rfl | hk
    · exact Sub.orr.trans h1
    · exact h2 k hk
theorem clr_keep {s d : Int} {k : Nat} (hk : k < 60) (hd : d < 60) (hne : d ≠ k) (h : inB s (k : Int) = true) : inB (clr s d) (k : Int) = true := by
  unfold clr
  split
  · rename_i h0
    rw [inB_bv _ _ (by omega)] at h ⊢
    obtain ⟨q, rfl⟩ : ∃ q : Nat, d = (q : Int) := ⟨d.toNat, by omega⟩
    have h2 : (bv (shl .i64 1 (q : Int))).getLsbD k = false := by
      rw [← inB_bv _ _ (by omega), shl_bit (by omega), Int.toNat_natCast, inB_bit q k (by omega) (by omega)]
      exact decide_eq_false (by omega)
    rw [bv_andNot, BitVec.getLsbD_and, BitVec.getLsbD_not, h, h2]
    simp; omega
  · exact h
structure LiveAt (c : Cod) (ah af : List Int) : Prop where
  fit : fits c = true
  is : LiveIs c ah af
section
variable {c : Cod} {ah af : List Int}
theorem LiveAt.use (H : LiveAt c ah af) {i : Nat} (hi : i < c.body.length) {k : Int} (hk : k ∈ Uses.raw (atIr c.body i).op (atIr c.body i).a (atIr c.body i).b (atIr c.body i).c) : 0 ≤ k ∧ k < c.cells ∧ k < 60 ∧ inB (rd ah (i : Int)) k = true := by
  have hu := okIr_use (fits_ir H.fit i hi) k (uses_mem hk)
  have hh := fits_head H.fit
  refine ⟨hu.1, hu.2, by omega, ?_⟩
  rw [H.is.fa i hi]
  unfold Live.stepT
  obtain ⟨q, rfl⟩ : ∃ q : Nat, k = (q : Int) := ⟨k.toNat, by omega⟩
  exact inB_sub (Sub.bitL_mem _ _ _ (uses_mem hk)) (by omega) (inB_shl (by omega))
theorem LiveAt.after (H : LiveAt c ah af) {i : Nat} (hi : i < c.body.length) {j : Int} (hj : j ∈ nextOf c (labs c.body c.body.length).1 i) {k : Nat} (hk : (k : Int) < c.cells) (hl : inB (rd ah j) (k : Int) = true) : inB (rd af (i : Int)) (k : Int) = true := by
  have hh := fits_head H.fit
  rw [H.is.ff i hi]
  unfold Live.stepS
  rw [ways_at hi]
  exact inB_sub ((orL_mem _ _).2 j hj) (by omega) hl
theorem LiveAt.ahead (H : LiveAt c ah af) {i : Nat} (hi : i < c.body.length) {k : Nat} (hk : (k : Int) < c.cells) (hd : defs (atIr c.body i) ≠ k) (hl : inB (rd af (i : Int)) (k : Int) = true) : inB (rd ah (i : Int)) (k : Int) = true := by
  have hh := fits_head H.fit
  have hdd := okIr_def (fits_ir H.fit i hi)
  rw [H.is.ff i hi] at hl
  rw [H.is.fa i hi]
  unfold Live.stepT
  exact inB_sub (Sub.bitL_ge _ _) (by omega) (clr_keep (by omega) (by omega) hd hl)
end

/-! ### an instruction over other places -/
def ren (g : Int → Int) (x : Ir) : Ir :=
  { op := x.op, dst := if 0 ≤ defs x then g x.dst else x.dst, a := if Uses.raw x.op x.a x.b x.c = [] then x.a else g x.a, b := if x.op = 3 ∨ x.op = 4 then g x.b else x.b, c := if x.op = 4 then g x.c else x.c, n := x.n, m := x.m }
/-- what is right of places g: they are among the n' places; what is live behind an instruction is not where it writes -/
structure Places (c : Cod) (af : List Int) (g : Int → Int) (n' : Nat) : Prop where
  use : ∀ i : Nat, i < c.body.length → ∀ k ∈ Uses.raw (atIr c.body i).op (atIr c.body i).a (atIr c.body i).b (atIr c.body i).c, 0 ≤ g k ∧ g k < n'
  dst : ∀ i : Nat, i < c.body.length → 0 ≤ defs (atIr c.body i) → 0 ≤ g (defs (atIr c.body i)) ∧ g (defs (atIr c.body i)) < n'
  apart : ∀ i : Nat, i < c.body.length → 0 ≤ defs (atIr c.body i) → ∀ k : Nat, (k : Int) < c.cells → (k : Int) ≠ defs (atIr c.body i) → inB (rd af (i : Int)) (k : Int) = true → 0 ≤ g (k : Int) ∧ g (k : Int) ≠ g (defs (atIr c.body i))
/-- the cells that are live ahead of place at are the same -/
def Same (c : Cod) (ah : List Int) (g : Int → Int) (at_ : Int) (cs ps : List Int) : Prop := ∀ k : Nat, (k : Int) < c.cells → inB (rd ah at_) (k : Int) = true → rd cs (k : Int) = rd ps (g (k : Int))
/-- places that are live lie among the places -/
theorem next_1 {c : Cod} {i : Nat} (hi : i + 1 < c.body.length) (ho : (atIr c.body i).op ≠ 15 ∧ (atIr c.body i).op ≠ 16 ∧ (atIr c.body i).op ≠ 10) : ((i : Int) + 1) ∈ nextOf c (labs c.body c.body.length).1 i := by
  unfold nextOf
  refine (Ins.compact_mem _ _).2 ?_
  unfold Uses.sorted
  refine List.mem_mergeSort.2 ?_
  unfold rawNext
  simp only
  rw [if_neg (by omega), if_neg (by omega)]
  have h : ∀ xs : List Int, ((i : Int) + 1) ∈ addTo c xs ((i : Int) + 1) true := fun xs => by
    unfold addTo
    rw [if_pos ⟨rfl, by omega⟩]
    simp
  split
  · exact h _
  · exact h _
theorem next_j {c : Cod} {i : Nat} (ho : (atIr c.body i).op = 10 ∨ (atIr c.body i).op = 11 ∨ (atIr c.body i).op = 12) {v : Int} (hg : get (labs c.body c.body.length).1 (atIr c.body i).n = some v) (hv : v < c.body.length) : v ∈ nextOf c (labs c.body c.body.length).1 i := by
  unfold nextOf
  refine (Ins.compact_mem _ _).2 ?_
  unfold Uses.sorted
  refine List.mem_mergeSort.2 ?_
  unfold rawNext
  simp only
  rw [if_neg (by omega), hg]
  have h0 : v ∈ addTo c [] v true := by unfold addTo; rw [if_pos ⟨rfl, hv⟩]; simp
  by_cases h10 : (atIr c.body i).op = 10
  · rw [if_pos h10]; exact h0
  · rw [if_neg h10, if_pos (by omega)]
    unfold addTo
    split
    · exact List.mem_append_left _ h0
    · exact h0
section
variable {c : Cod} {ah af : List Int} {g : Int → Int} {n' : Nat} {cs ps : List Int}
/-- what an instruction reads is the same there -/
theorem read_same (H : LiveAt c ah af) {i : Nat} (hi : i < c.body.length) (hs : Same c ah g (i : Int) cs ps) {k : Int} (hk : k ∈ Uses.raw (atIr c.body i).op (atIr c.body i).a (atIr c.body i).b (atIr c.body i).c) : rd cs k = rd ps (g k) := by
  obtain ⟨h0, h1, h2, h3⟩ := H.use hi hk
  obtain ⟨q, rfl⟩ : ∃ q : Nat, k = (q : Int) := ⟨k.toNat, by omega⟩
  exact hs q h1 h3
/-- behind what writes no cell -/
theorem same_stay (H : LiveAt c ah af) {i : Nat} (hi : i < c.body.length) (hd : defs (atIr c.body i) < 0) {j : Int} (hj : j ∈ nextOf c (labs c.body c.body.length).1 i) (hs : Same c ah g (i : Int) cs ps) : Same c ah g j cs ps :=
  fun k hk hl => hs k hk (H.ahead hi hk (by omega) (H.after hi hj hk hl))
/-- behind what writes one -/
theorem same_set (H : LiveAt c ah af) (P : Places c af g n') {i : Nat} (hi : i < c.body.length) (h0 : 0 ≤ defs (atIr c.body i)) (hlc : cs.length = c.cells) (hlp : ps.length = n') {j : Int} (hj : j ∈ nextOf c (labs c.body c.body.length).1 i) (hs : Same c ah g (i : Int) cs ps) (v : Int) :
    Same c ah g j (setI cs (defs (atIr c.body i)) v) (setI ps (g (defs (atIr c.body i))) v) := by
  intro k hk hl
  have hdd := okIr_def (fits_ir H.fit i hi)
  have hp := P.dst i hi h0
  have ha := H.after hi hj hk hl
  rw [rd_setI (by omega), rd_setI (by omega)]
  by_cases he : (k : Int) = defs (atIr c.body i)
  · rw [if_pos (by omega), he, if_pos rfl]
  · obtain ⟨hg0, hg⟩ := P.apart i hi h0 k hk he ha
    rw [if_neg (by omega), if_neg (by omega)]
    exact hs k hk (H.ahead hi hk (fun e => he e.symm) ha)
end
/-! ### an instruction, and the run -/
theorem okR_at {c : Cod} {n : Int} (hf : fitsR c n = true) {i : Nat} (hi : i < c.body.length) : okR c n (atIr c.body i) = true := by
  unfold fitsR at hf
  rw [Bool.and_eq_true, List.all_eq_true] at hf
  refine hf.1 _ ?_
  unfold atIr
  rw [List.getD_eq_getElem?_getD, List.getElem?_eq_getElem hi]
  exact List.getElem_mem hi
/-- the kinds of what can be carried out alone -/
theorem okR_kind {c : Cod} {n : Int} {x : Ir} (h : okR c n x = true) : (x.op = 1 ∨ x.op = 2 ∨ x.op = 3 ∨ x.op = 4) ∨ ((x.op = 10 ∨ x.op = 11 ∨ x.op = 12) ∧ cnt c.body x.n c.body.length = 1) ∨ (x.op = 9 ∨ x.op = 15 ∨ x.op = 16) := by
  unfold okR kindR at h
  rw [Bool.and_eq_true] at h
  have h1 := h.1
  by_cases h3 : x.op = 3
  · exact .inl (by omega)
  rw [if_neg h3] at h1
  by_cases h2 : x.op = 1 ∨ x.op = 2 ∨ x.op = 4
  · exact .inl (by omega)
  rw [if_neg h2] at h1
  by_cases h4 : x.op = 10 ∨ x.op = 11 ∨ x.op = 12
  · rw [if_pos h4, decide_eq_true_iff] at h1
    exact .inr (.inl ⟨h4, h1⟩)
  rw [if_neg h4, decide_eq_true_iff] at h1
  exact .inr (.inr h1)
section
variable {M : List (Int × Int)} {x : Ir} {cs : List Int} {at_ : Int}
theorem plainS_1 (h : x.op = 1) : plainS M x cs at_ = .ok (at_, setI cs x.dst x.n) := by unfold plainS; rw [if_pos h]
theorem plainS_2 (h : x.op = 2) : plainS M x cs at_ = .ok (at_, setI cs x.dst (rd cs x.a)) := by unfold plainS; rw [if_neg (by omega), if_pos h]
theorem plainS_3 (h : x.op = 3) : plainS M x cs at_ = if (eval x.n (rd cs x.a) (rd cs x.b)).2 = 0 then .ok (at_, setI cs x.dst (eval x.n (rd cs x.a) (rd cs x.b)).1) else .error (eval x.n (rd cs x.a) (rd cs x.b)).2 := by unfold plainS; rw [if_neg (by omega), if_neg (by omega), if_pos h]
theorem plainS_4 (h : x.op = 4) : plainS M x cs at_ = .ok (at_, setI cs x.dst (rd cs (if rd cs x.c = 0 then x.b else x.a))) := by unfold plainS; rw [if_neg (by omega), if_neg (by omega), if_neg (by omega), if_pos h]
theorem plainS_11 (h : x.op = 11) : plainS M x cs at_ = .ok (if rd cs x.a ≠ 0 then (get M x.n).getD 0 else at_, cs) := by unfold plainS; rw [if_neg (by omega), if_neg (by omega), if_neg (by omega), if_neg (by omega), if_pos h]
theorem plainS_12 (h : x.op = 12) : plainS M x cs at_ = .ok (if rd cs x.a = 0 then (get M x.n).getD 0 else at_, cs) := by unfold plainS; rw [if_neg (by omega), if_neg (by omega), if_neg (by omega), if_neg (by omega), if_neg (by omega), if_pos h]
theorem plainS_10 (h : x.op = 10) : plainS M x cs at_ = .ok ((get M x.n).getD 0, cs) := by unfold plainS; rw [if_neg (by omega), if_neg (by omega), if_neg (by omega), if_neg (by omega), if_neg (by omega), if_neg (by omega), if_pos h]
theorem plainS_no (h : x.op ≠ 1 ∧ x.op ≠ 2 ∧ x.op ≠ 3 ∧ x.op ≠ 4 ∧ x.op ≠ 11 ∧ x.op ≠ 12 ∧ x.op ≠ 10) : plainS M x cs at_ = .ok (at_, cs) := by unfold plainS; rw [if_neg h.1, if_neg h.2.1, if_neg h.2.2.1, if_neg h.2.2.2.1, if_neg h.2.2.2.2.1, if_neg h.2.2.2.2.2.1, if_neg h.2.2.2.2.2.2]
end
section
variable {c : Cod} {ah af : List Int} {g : Int → Int} {n' : Nat}
/-- from where an instruction goes on all that is live is the same -/
def StepSame (c : Cod) (ah : List Int) (g : Int → Int) (n' : Nat) : Except Int (Int × List Int) → Except Int (Int × List Int) → Prop
  | .error t, .error u => t = u
  | .ok r, .ok q => r.1 = q.1 ∧ 0 ≤ r.1 ∧ r.2.length = c.cells ∧ q.2.length = n' ∧ (r.1 < c.body.length → Same c ah g r.1 r.2 q.2)
  | _, _ => False
theorem step_same (H : LiveAt c ah af) (hR : fitsR c c.cells = true) (P : Places c af g n') {i : Nat} (hi : i < c.body.length) (h15 : (atIr c.body i).op ≠ 15 ∧ (atIr c.body i).op ≠ 16) {cs ps : List Int} (hlc : cs.length = c.cells) (hlp : ps.length = n') (hs : Same c ah g (i : Int) cs ps) :
    StepSame c ah g n' (plainS (labR c.body c.body.length) (atIr c.body i) cs ((i : Int) + 1)) (plainS (labR c.body c.body.length) (ren g (atIr c.body i)) ps ((i : Int) + 1)) := by
  have hk := okR_kind (okR_at hR hi)
  have n1 : (atIr c.body i).op ≠ 10 → (i : Int) + 1 < c.body.length → ((i : Int) + 1) ∈ nextOf c (labs c.body c.body.length).1 i := fun h hl => next_1 (by omega) ⟨h15.1, h15.2, h⟩
  have rs : ∀ {k : Int}, k ∈ Uses.raw (atIr c.body i).op (atIr c.body i).a (atIr c.body i).b (atIr c.body i).c → rd cs k = rd ps (g k) := fun hk => read_same H hi hs hk
  have hset : ∀ v, 0 ≤ defs (atIr c.body i) → (atIr c.body i).op ≠ 10 → StepSame c ah g n' (.ok ((i : Int) + 1, setI cs (defs (atIr c.body i)) v)) (.ok ((i : Int) + 1, setI ps (g (defs (atIr c.body i))) v)) := fun v h0 h10 =>
    ⟨rfl, by show (0 : Int) ≤ (i : Int) + 1; omega, by rw [setI_len]; exact hlc, by rw [setI_len]; exact hlp, fun hl => same_set H P hi h0 hlc hlp (n1 h10 hl) hs v⟩
  have hstay : ∀ j : Int, defs (atIr c.body i) < 0 → 0 ≤ j → (j < c.body.length → j ∈ nextOf c (labs c.body c.body.length).1 i) → StepSame c ah g n' (.ok (j, cs)) (.ok (j, ps)) := fun j hd h0 hj =>
    ⟨rfl, h0, hlc, hlp, fun hl => same_stay H hi hd (hj hl) hs⟩
  have hdst := okR_dst (okR_at hR hi)
  have hjmp : ((atIr c.body i).op = 10 ∨ (atIr c.body i).op = 11 ∨ (atIr c.body i).op = 12) → cnt c.body (atIr c.body i).n c.body.length = 1 → StepSame c ah g n' (.ok ((get (labR c.body c.body.length) (atIr c.body i).n).getD 0, cs)) (.ok ((get (labR c.body c.body.length) (atIr c.body i).n).getD 0, ps)) := fun ho hc => by
    obtain ⟨h1, v, h2, h3, h4⟩ := (lab_same c.body (atIr c.body i).n c.body.length).2 hc
    rw [h1, h2]
    refine hstay v ?_ h3 (fun _ => next_j ho h2 h4)
    unfold defs
    rw [if_neg (by omega)]
    decide
  obtain ⟨x, hx⟩ : ∃ x, atIr c.body i = x := ⟨_, rfl⟩
  rw [hx] at hk rs hset hstay hdst hjmp h15 n1 ⊢
  clear hx hs
  have hop : (ren g x).op = x.op := rfl
  have hn : (ren g x).n = x.n := rfl
  have hA : Uses.raw x.op x.a x.b x.c ≠ [] → (ren g x).a = g x.a := fun h => if_neg h
  have hB : x.op = 3 ∨ x.op = 4 → (ren g x).b = g x.b := fun h => if_pos h
  have hC : x.op = 4 → (ren g x).c = g x.c := fun h => if_pos h
  have hdef : x.op = 1 ∨ x.op = 2 ∨ x.op = 3 ∨ x.op = 4 → defs x = x.dst := fun h => if_pos (by omega)
  have hD : x.op = 1 ∨ x.op = 2 ∨ x.op = 3 ∨ x.op = 4 → (ren g x).dst = g x.dst := fun h => if_pos (by rw [hdef h]; exact (hdst h).1)
  have hset' : ∀ v, x.op = 1 ∨ x.op = 2 ∨ x.op = 3 ∨ x.op = 4 → StepSame c ah g n' (.ok ((i : Int) + 1, setI cs x.dst v)) (.ok ((i : Int) + 1, setI ps (g x.dst) v)) := fun v h => by
    have h1 := hset v (by rw [hdef h]; exact (hdst h).1) (by omega)
    rw [hdef h] at h1
    exact h1
  have hnd : ¬ (x.op = 1 ∨ x.op = 2 ∨ x.op = 3 ∨ x.op = 4) → defs x < 0 := fun h => by unfold defs; rw [if_neg (by omega)]; decide
  have hlast : ¬ (x.op = 1 ∨ x.op = 2 ∨ x.op = 3 ∨ x.op = 4) → x.op ≠ 10 → StepSame c ah g n' (.ok ((i : Int) + 1, cs)) (.ok ((i : Int) + 1, ps)) := fun h h10 => hstay _ (hnd h) (by omega) (n1 h10)
  have hcnt : (x.op = 10 ∨ x.op = 11 ∨ x.op = 12) → cnt c.body x.n c.body.length = 1 := fun h => by
    rcases hk with h' | h' | h'
    · omega
    · exact h'.2
    · omega
  by_cases h1 : x.op = 1
  · rw [plainS_1 h1, plainS_1 (hop.trans h1), hD (by omega), hn]
    exact hset' _ (by omega)
  by_cases h2 : x.op = 2
  · have ha : x.a ∈ Uses.raw x.op x.a x.b x.c := by unfold Uses.raw; simp [h2]
    rw [plainS_2 h2, plainS_2 (hop.trans h2), hD (by omega), hA (fun e => by rw [e] at ha; cases ha), ← rs ha]
    exact hset' _ (by omega)
  by_cases h3 : x.op = 3
  · have ha : x.a ∈ Uses.raw x.op x.a x.b x.c := by unfold Uses.raw; simp [h3]
    have hb : x.b ∈ Uses.raw x.op x.a x.b x.c := by unfold Uses.raw; simp [h3]
    rw [plainS_3 h3, plainS_3 (hop.trans h3), hD (by omega), hA (fun e => by rw [e] at ha; cases ha), hB (by omega), hn, ← rs ha, ← rs hb]
    split
    · exact hset' _ (by omega)
    · rfl
  by_cases h4 : x.op = 4
  · have ha : x.a ∈ Uses.raw x.op x.a x.b x.c := by unfold Uses.raw; simp [h4]
    have hb : x.b ∈ Uses.raw x.op x.a x.b x.c := by unfold Uses.raw; simp [h4]
    have hc : x.c ∈ Uses.raw x.op x.a x.b x.c := by unfold Uses.raw; simp [h4]
    rw [plainS_4 h4, plainS_4 (hop.trans h4), hD (by omega), hA (fun e => by rw [e] at ha; cases ha), hB (by omega), hC h4, ← rs hc]
    have e8 : rd ps (if rd cs x.c = 0 then g x.b else g x.a) = rd cs (if rd cs x.c = 0 then x.b else x.a) := by
      split
      · exact (rs hb).symm
      · exact (rs ha).symm
    rw [e8]
    exact hset' _ (by omega)
  by_cases h11 : x.op = 11
  · have ha : x.a ∈ Uses.raw x.op x.a x.b x.c := by unfold Uses.raw; simp [h11]
    rw [plainS_11 h11, plainS_11 (hop.trans h11), hA (fun e => by rw [e] at ha; cases ha), hn, ← rs ha]
    by_cases hz : rd cs x.a = 0
    · rw [if_neg (by simpa using hz)]
      exact hlast (by omega) (by omega)
    · rw [if_pos hz]
      exact hjmp (by omega) (hcnt (by omega))
  by_cases h12 : x.op = 12
  · have ha : x.a ∈ Uses.raw x.op x.a x.b x.c := by unfold Uses.raw; simp [h12]
    rw [plainS_12 h12, plainS_12 (hop.trans h12), hA (fun e => by rw [e] at ha; cases ha), hn, ← rs ha]
    by_cases hz : rd cs x.a = 0
    · rw [if_pos hz]
      exact hjmp (by omega) (hcnt (by omega))
    · rw [if_neg hz]
      exact hlast (by omega) (by omega)
  by_cases h10 : x.op = 10
  · rw [plainS_10 h10, plainS_10 (hop.trans h10), hn]
    exact hjmp (.inl h10) (hcnt (.inl h10))
  · rw [plainS_no ⟨h1, h2, h3, h4, h11, h12, h10⟩, plainS_no (x := ren g x) ⟨h1, h2, h3, h4, h11, h12, h10⟩]
    exact hlast (by omega) h10
/-- the run over other places brings the same value, the same trap -/
theorem run_same (H : LiveAt c ah af) (hR : fitsR c c.cells = true) (P : Places c af g n') (L' : List Ir) (hL : L'.length = c.body.length) (hat : ∀ i, i < c.body.length → atIr L' i = ren g (atIr c.body i)) :
    ∀ (f : Nat) (at_ : Int) (cs ps : List Int), 0 ≤ at_ → cs.length = c.cells → ps.length = n' → (at_ < c.body.length → Same c ah g at_ cs ps) →
      (runS c.body (labR c.body c.body.length) f at_ cs).2 = (runS L' (labR c.body c.body.length) f at_ ps).2 := by
  intro f
  induction f with
  | zero =>
    intro at_ cs ps h0 hc hp hs
    unfold runS
    rw [hL]
    split <;> rfl
  | succ f ih =>
    intro at_ cs ps h0 hc hp hs
    unfold runS
    rw [hL]
    by_cases hlt : at_ < c.body.length
    · rw [if_pos hlt, if_pos hlt]
      obtain ⟨i, rfl⟩ : ∃ i : Nat, at_ = (i : Int) := ⟨at_.toNat, by omega⟩
      rw [Int.toNat_natCast]
      have hi : i < c.body.length := by omega
      have hsm := hs hlt
      rw [hat i hi]
      have hop : (ren g (atIr c.body i)).op = (atIr c.body i).op := rfl
      have hn : (ren g (atIr c.body i)).n = (atIr c.body i).n := rfl
      rw [hop, hn]
      by_cases h15 : (atIr c.body i).op = 15
      · rw [if_pos h15, if_pos h15]
        by_cases ha : 0 ≤ (atIr c.body i).a
        · have hraw : (atIr c.body i).a ∈ Uses.raw (atIr c.body i).op (atIr c.body i).a (atIr c.body i).b (atIr c.body i).c := by unfold Uses.raw; simp [h15, ha]
          have e1 : (ren g (atIr c.body i)).a = g (atIr c.body i).a := if_neg (fun e => by rw [e] at hraw; cases hraw)
          have e2 := (P.use i hi _ hraw).1
          rw [e1, if_pos ha, if_pos e2, read_same H hi hsm hraw]
        · have hraw : Uses.raw (atIr c.body i).op (atIr c.body i).a (atIr c.body i).b (atIr c.body i).c = [] := by unfold Uses.raw; simp [h15, ha]
          have e1 : (ren g (atIr c.body i)).a = (atIr c.body i).a := if_pos hraw
          rw [e1, if_neg ha, if_neg ha]
      rw [if_neg h15, if_neg h15]
      by_cases h16 : (atIr c.body i).op = 16
      · rw [if_pos h16, if_pos h16]
      rw [if_neg h16, if_neg h16]
      have hst := step_same H hR P hi ⟨h15, h16⟩ hc hp hsm
      cases h1 : plainS (labR c.body c.body.length) (atIr c.body i) cs ((i : Int) + 1) with
      | error t =>
        cases h2 : plainS (labR c.body c.body.length) (ren g (atIr c.body i)) ps ((i : Int) + 1) with
        | error u => rw [h1, h2] at hst; simp only; rw [show t = u from hst]
        | ok q => rw [h1, h2] at hst; exact hst.elim
      | ok r =>
        cases h2 : plainS (labR c.body c.body.length) (ren g (atIr c.body i)) ps ((i : Int) + 1) with
        | error u => rw [h1, h2] at hst; exact hst.elim
        | ok q =>
          rw [h1, h2] at hst
          obtain ⟨e1, e2, e3, e4, e5⟩ := hst
          simp only
          rw [← e1]
          exact ih _ _ _ e2 e3 e4 e5
    · rw [if_neg hlt, if_neg hlt]
end
/-- the same code, over cells of which one that is not live is another -/
theorem changes (c : Cod) (ah af : List Int) (H : LiveAt c ah af) (cs ds : List Int) (hR : fitsR c c.cells = true) (hc : cs.length = c.cells) (hd : ds.length = c.cells) (hs : 0 < c.body.length → ∀ k : Nat, (k : Int) < c.cells → inB (rd ah 0) (k : Int) = true → rd cs (k : Int) = rd ds (k : Int)) :
    (execS c cs).2 = (execS c ds).2 := by
  have hren : ∀ x : Ir, ren (fun k => k) x = x := fun x => by
    unfold ren
    obtain ⟨op, d, a, b, cc, n, m⟩ := x
    simp
  refine run_same H hR (g := fun k => k) (n' := cs.length) ⟨fun i hi k hk => ?_, fun i hi h0 => ?_, fun i hi h0 k hk hne _ => ⟨by simp, hne⟩⟩ c.body rfl (fun i _ => (hren _).symm) 10000 0 cs ds (by omega) hc (by omega) (fun hlt => fun k hk hl => hs (by omega) k hk hl)
  · have h := H.use hi hk
    exact ⟨h.1, by omega⟩
  · have h := okIr_def (fits_ir H.fit i hi)
    exact ⟨h0, by omega⟩
/-- which cell: a raw number, turned -/
def pickN (k : Int) (n : Nat) : Int := (if k < 0 then -(k + 1) else k) % (n : Int)
theorem pickN_in (k : Int) {n : Nat} (h : 0 < n) : 0 ≤ pickN k n ∧ pickN k n < n := ⟨Int.emod_nonneg _ (by omega), Int.emod_lt_of_pos _ (by omega)⟩
theorem pick_slot {k : Int} {n q : Nat} (h : pickN k n = (q : Int)) (hn : 0 < n) : (k < 0 ∧ -((k + 1).tmod (n : Int)) = (q : Int)) ∨ (¬ k < 0 ∧ k % (n : Int) = (q : Int)) := by
  unfold pickN at h
  by_cases hk : k < 0
  · rw [if_pos hk] at h
    refine .inl ⟨hk, ?_⟩
    rw [← Int.neg_tmod, Int.tmod_eq_emod_of_nonneg (by omega)]
    exact h
  · rw [if_neg hk] at h
    exact .inr ⟨hk, h⟩
theorem canL_of {cs : List Int} (h : ∀ k ∈ cs, -9223372036854775808 ≤ k ∧ k ≤ 9223372036854775807) : CanL cs := fun i => by
  unfold rd
  rw [List.getD_eq_getElem?_getD]
  cases hx : cs[i.toNat]? with
  | none => exact ⟨by decide, by decide⟩
  | some v => exact h v (List.mem_of_getElem? hx)
theorem wf_range {n : Int} (h : (Lit.int .i64 n).wf = true) : -9223372036854775808 ≤ n ∧ n ≤ 9223372036854775807 := by
  unfold Lit.wf at h
  simp only [Bool.and_eq_true, decide_eq_true_eq] at h
  exact h
theorem exec_fits {w : World} {c : Cod} {cs : List Int} {e : Ending} {w' : World} (h : ExecOut w c cs e w') (hf : fitsR c cs.length = true) : ∃ v, e = .returned (.tuple #[v, .int .i64 (execS c cs).2.1, .int .i64 (execS c cs).2.2, .int .i64 0]) ∧ (Kd.int .i64).R 3 w' w.heap.size (fun _ => True) v (execS c cs).1 ∧ Below w.heap.size w w' := by
  unfold ExecOut at h
  rw [if_pos hf] at h
  exact h
theorem exec_odd {w : World} {c : Cod} {cs : List Int} {e : Ending} {w' : World} (h : ExecOut w c cs e w') (hf : fitsR c cs.length = false) : e = .returned (.tuple #[.slice none 0 0, .int .i64 0, .int .i64 0, .int .i64 4]) ∧ Below w.heap.size w w' := by
  unfold ExecOut at h
  rw [if_neg (by rw [hf]; simp)] at h
  exact h
theorem atIr_take {L : List Ir} {m : Nat} {i : Nat} (h : i < (L.take m).length) : atIr (L.take m) i = atIr L i := by
  unfold atIr
  rw [List.getD_eq_getElem?_getD, List.getD_eq_getElem?_getD, List.getElem?_take, if_pos (by rw [List.length_take] at h; omega)]
end Go.Proofs.Ytdcmeefeinppnaa.Rsem
