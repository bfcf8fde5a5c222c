/- Plain facts on the walk of package nest: the spans and what is open where. -/
import Derived.Test.YtobopkkdjkjafaaNestFns
namespace Go.Proofs.Ytobopkkdjkjafaa.Nest
open Go.RowKit Go.Proofs.YtobopkkdjkjafaaW.PrintWords
set_option linter.unusedVariables false
set_option linter.unusedSimpArgs false

def nth (S : List T3) (k : Nat) : T3 := S.getD k z3
theorem at3_nat (S : List T3) (k : Nat) : at3 S (k : Int) = nth S k := by unfold at3 nth; rw [Int.toNat_natCast]
theorem nth_left {S T : List T3} {k : Nat} (h : k < S.length) : nth (S ++ T) k = nth S k := by
  unfold nth; rw [List.getD_eq_getElem?_getD, List.getElem?_append_left h, ← List.getD_eq_getElem?_getD]
theorem nth_last {S : List T3} {x : T3} : nth (S ++ [x]) S.length = x := by
  unfold nth; rw [List.getD_eq_getElem?_getD, List.getElem?_append_right (Nat.le_refl _)]; simp
theorem nth_set {S : List T3} {j : Nat} (x : T3) (k : Nat) (hj : j < S.length) : nth (S.set j x) k = if k = j then x else nth S k := by
  unfold nth
  rw [List.getD_eq_getElem?_getD, List.getElem?_set]
  by_cases h : k = j
  · subst h; simp [hj]
  · rw [if_neg (fun e => h e.symm), if_neg h, ← List.getD_eq_getElem?_getD]

def arnd (s : T3) (i : Int) : Prop := s.1 < i ∧ i < s.2.2 ∧ i ≠ s.2.1

/-- how far the walk has come -/
structure Inv1 (sp : List T3) (op : List Int) (a : Nat) : Prop where
  sorted : op.Pairwise (· < ·)
  inn : ∀ j ∈ op, 0 ≤ j ∧ j < (sp.length : Int)
  opn : ∀ k : Nat, k < sp.length → (k : Int) ∈ op → 0 ≤ (nth sp k).1 ∧ (nth sp k).1 < a ∧ (nth sp k).2.1 < a
  shut : ∀ k : Nat, k < sp.length → (k : Int) ∉ op → 0 ≤ (nth sp k).1 ∧ (nth sp k).1 < a ∧ (nth sp k).2.2 < a

/-- what the spans at the end are, as seen from here -/
structure Agr (n : Nat) (sp : List T3) (op : List Int) (a : Nat) (S : List T3) : Prop where
  le : sp.length ≤ S.length
  shut : ∀ k : Nat, k < sp.length → (k : Int) ∉ op → nth S k = nth sp k
  opn : ∀ k : Nat, k < sp.length → (k : Int) ∈ op → (nth S k).1 = (nth sp k).1 ∧ (a : Int) ≤ (nth S k).2.2 ∧ (nth S k).2.2 + 1 < n ∧ ((nth S k).2.1 = (nth sp k).2.1 ∨ (nth sp k).2.1 < 0 ∧ (a : Int) ≤ (nth S k).2.1 ∧ (nth S k).2.1 < (nth S k).2.2)
  new : ∀ k : Nat, sp.length ≤ k → k < S.length → (a : Int) ≤ (nth S k).1 ∧ (nth S k).1 < (nth S k).2.2 ∧ (nth S k).2.2 + 1 < n ∧ ((nth S k).2.1 = -1 ∨ (nth S k).1 < (nth S k).2.1 ∧ (nth S k).2.1 < (nth S k).2.2)
  oo : ∀ k k' : Nat, k < k' → k' < sp.length → (k : Int) ∈ op → (k' : Int) ∈ op → (nth S k').2.2 < (nth S k).2.2
  on : ∀ k k' : Nat, k < sp.length → (k : Int) ∈ op → sp.length ≤ k' → k' < S.length → (nth S k').2.2 < (nth S k).2.2 ∨ (nth S k).2.2 < (nth S k').1
  nn : ∀ k k' : Nat, sp.length ≤ k → k < k' → k' < S.length → (nth S k).1 < (nth S k').1 ∧ ((nth S k').2.2 < (nth S k).2.2 ∨ (nth S k).2.2 < (nth S k').1)

/-- at each place the open ones are those around it -/
structure View (S : List T3) (a : Int) (v : List Int) : Prop where
  sorted : v.Pairwise (· < ·)
  inn : ∀ j ∈ v, 0 ≤ j ∧ j < (S.length : Int)
  mem : ∀ k : Nat, k < S.length → ((k : Int) ∈ v ↔ arnd (nth S k) a)

theorem dropLast_mem {op : List Int} (hs : op.Pairwise (· < ·)) (hop : op ≠ []) (j : Int) : j ∈ op.dropLast ↔ j ∈ op ∧ j ≠ rd op ((op.length : Int) - 1) := by
  have hl : 1 ≤ op.length := by cases op with | nil => exact absurd rfl hop | cons _ _ => simp
  have e : rd op ((op.length : Int) - 1) = op.getLast hop := by
    unfold rd
    rw [show ((op.length : Int) - 1).toNat = op.length - 1 from by omega, List.getD_eq_getElem?_getD, List.getElem?_eq_getElem (by omega), List.getLast_eq_getElem]; rfl
  have hd : op.dropLast ++ [op.getLast hop] = op := List.dropLast_concat_getLast hop
  rw [e]
  constructor
  · intro h
    refine ⟨List.dropLast_subset _ h, fun he => ?_⟩
    rw [← hd, List.pairwise_append] at hs
    have := hs.2.2 j h (op.getLast hop) (by simp)
    omega
  · rintro ⟨h, hne⟩
    rw [← hd] at h
    rcases List.mem_append.1 h with h | h
    · exact h
    · simp at h; exact absurd h hne
theorem last_mem {op : List Int} (hop : op ≠ []) : rd op ((op.length : Int) - 1) ∈ op := by
  have hl : 1 ≤ op.length := by cases op with | nil => exact absurd rfl hop | cons _ _ => simp
  unfold rd
  rw [show ((op.length : Int) - 1).toNat = op.length - 1 from by omega, List.getD_eq_getElem?_getD, List.getElem?_eq_getElem (by omega)]
  exact List.getElem_mem _

theorem wk_all (L : List T3) : ∀ (r a : Nat) (sp : List T3) (op : List Int) (deep : Bool) (R : List T3) (lg : List (Int × List Int)), wk L r a sp op deep = (R, 0, lg) → a + r = L.length → Inv1 sp op a →
    ∃ S, R = S ++ [(-1, -1, (L.length : Int) - 1)] ∧ Agr L.length sp op a S ∧ lg.length = r ∧ ∀ i (h : i < lg.length), (lg[i]).1 = ((a + i : Nat) : Int) ∧ View S ((a + i : Nat) : Int) (lg[i]).2 := by
  intro r
  induction r with
  | zero => intro a sp op deep R lg h; simp [wk] at h
  | succ r ih =>
    intro a sp op deep R lg h ha hI
    have step : ∀ {S : List T3} {v : List Int} {lg1 : List (Int × List Int)}, View S (a : Int) v → (lg1.length = r ∧ ∀ i (h : i < lg1.length), (lg1[i]).1 = ((a + 1 + i : Nat) : Int) ∧ View S ((a + 1 + i : Nat) : Int) (lg1[i]).2) →
        (((a : Int), v) :: lg1).length = r + 1 ∧ ∀ i (h : i < (((a : Int), v) :: lg1).length), ((((a : Int), v) :: lg1)[i]).1 = ((a + i : Nat) : Int) ∧ View S ((a + i : Nat) : Int) ((((a : Int), v) :: lg1)[i]).2 := by
      intro S v lg1 hv hl
      refine ⟨by simp [hl.1], fun i hi => ?_⟩
      cases i with
      | zero => exact ⟨rfl, hv⟩
      | succ i =>
        have := hl.2 i (by simpa using hi)
        have e : a + 1 + i = a + (i + 1) := by omega
        rw [e] at this
        exact this
    by_cases ho : opens (at3 L a).1 = true
    · obtain ⟨lg1, rfl, h1⟩ := wk_opens h ho
      have hI' : Inv1 (sp ++ [((a : Int), -1, -1)]) (op ++ [(sp.length : Int)]) (a + 1) := by
        refine ⟨?_, ?_, ?_, ?_⟩
        · rw [List.pairwise_append]
          refine ⟨hI.sorted, by simp, fun x hx y hy => ?_⟩
          simp at hy; subst hy; exact (hI.inn x hx).2
        · intro j hj
          rcases List.mem_append.1 hj with hj | hj
          · have := hI.inn j hj; simp; omega
          · simp at hj; simp; omega
        · intro k hk hm
          by_cases hkn : k < sp.length
          · rw [nth_left hkn]
            have hm' : (k : Int) ∈ op := by
              rcases List.mem_append.1 hm with hm | hm
              · exact hm
              · simp at hm; omega
            have := hI.opn k hkn hm'; push_cast; omega
          · have hk' : k = sp.length := by simp at hk; omega
            subst hk'
            rw [nth_last]; push_cast; (try simp only); omega
        · intro k hk hm
          have hkn : k < sp.length := by
            by_cases hkn : k < sp.length
            · exact hkn
            · exfalso; apply hm; apply List.mem_append.2; right; simp at hk; simp; omega
          rw [nth_left hkn]
          have := hI.shut k hkn (fun h => hm (List.mem_append.2 (.inl h))); push_cast; omega
      obtain ⟨S, eR, hA, hl⟩ := ih (a + 1) _ _ _ _ _ h1 (by omega) hI'
      have hle := hA.le
      simp only [List.length_append, List.length_cons, List.length_nil, Nat.zero_add] at hle
      have hnew := hA.opn sp.length (by simp) (by simp)
      rw [nth_last] at hnew
      simp only at hnew
      push_cast at hnew
      have mo : ∀ k : Nat, (k : Int) ∈ op → (k : Int) ∈ op ++ [(sp.length : Int)] := fun k h => List.mem_append.2 (.inl h)
      have nm : ∀ k : Nat, k < sp.length → (k : Int) ∉ op → (k : Int) ∉ op ++ [(sp.length : Int)] := fun k hk h h' => by
        rcases List.mem_append.1 h' with h' | h'
        · exact h h'
        · simp at h'; omega
      have oA : ∀ k : Nat, k < sp.length → (k : Int) ∈ op → (nth S k).1 = (nth sp k).1 ∧ ((a : Int) + 1) ≤ (nth S k).2.2 ∧ (nth S k).2.2 + 1 < L.length ∧ ((nth S k).2.1 = (nth sp k).2.1 ∨ (nth sp k).2.1 < 0 ∧ ((a : Int) + 1) ≤ (nth S k).2.1 ∧ (nth S k).2.1 < (nth S k).2.2) := fun k hk hm => by
        have := hA.opn k (by simp; omega) (mo k hm)
        rw [nth_left hk] at this
        push_cast at this
        exact this
      have nA : ∀ k : Nat, sp.length < k → k < S.length → ((a : Int) + 1) ≤ (nth S k).1 := fun k hk hk2 => by
        have := (hA.new k (by simp; omega) hk2).1; push_cast at this; exact this
      refine ⟨S, eR, ⟨by omega, ?_, ?_, ?_, ?_, ?_, ?_⟩, step ⟨hI.sorted, fun j hj => ?_, fun k hk => ?_⟩ hl⟩
      · intro k hk hm
        have := hA.shut k (by simp; omega) (nm k hk hm)
        rw [nth_left hk] at this; exact this
      · intro k hk hm
        have := oA k hk hm; omega
      · intro k hk hk2
        by_cases he : k = sp.length
        · subst he; omega
        · have := hA.new k (by simp; omega) hk2; push_cast at this; omega
      · intro k k' hkk hk' hm hm'
        exact hA.oo k k' hkk (by simp; omega) (mo k hm) (mo k' hm')
      · intro k k' hk hm hk' hk2
        by_cases he : k' = sp.length
        · subst he; left; exact hA.oo k sp.length hk (by simp) (mo k hm) (by simp)
        · exact hA.on k k' (by simp; omega) (mo k hm) (by simp; omega) hk2
      · intro k k' hk hkk hk2
        by_cases he : k = sp.length
        · subst he
          have h1 := nA k' hkk hk2
          exact ⟨by omega, hA.on sp.length k' (by simp) (by simp) (by simp; omega) hk2⟩
        · exact hA.nn k k' (by simp; omega) hkk hk2
      · have := hI.inn j hj; omega
      · unfold arnd
        by_cases hkn : k < sp.length
        · by_cases hm : (k : Int) ∈ op
          · have h1 := oA k hkn hm
            have h2 := hI.opn k hkn hm
            exact ⟨fun _ => by omega, fun _ => hm⟩
          · have h1 := hA.shut k (by simp; omega) (nm k hkn hm)
            rw [nth_left hkn] at h1
            have h2 := hI.shut k hkn hm
            rw [h1]
            exact ⟨fun h => absurd h hm, fun h => by omega⟩
        · have hm : (k : Int) ∉ op := fun h => by have := hI.inn _ h; omega
          refine ⟨fun h => absurd h hm, fun h => ?_⟩
          by_cases he : k = sp.length
          · subst he; omega
          · have := nA k (by omega) hk; omega
    · have noview : ∀ {S : List T3} {v : List Int}, (∀ j ∈ v, 0 ≤ j ∧ j < (sp.length : Int)) → sp.length ≤ S.length → ∀ j ∈ v, 0 ≤ j ∧ j < (S.length : Int) := fun hv hle j hj => by have := hv j hj; omega
      by_cases h5 : (at3 L a).1 = 5
      · by_cases hop : op = []
        · have := (wk_else_no h h5 (.inl hop)).2.1; cases this
        · obtain ⟨hj0, hj1⟩ := hI.inn _ (last_mem hop)
          obtain ⟨jn, hjn⟩ := Int.eq_ofNat_of_zero_le hj0
          have hjm : (jn : Int) ∈ op := by rw [← hjn]; exact last_mem hop
          rw [hjn] at hj1
          have hjl : jn < sp.length := by omega
          have hoj := hI.opn jn hjl hjm
          obtain ⟨bn, hbn⟩ := Int.eq_ofNat_of_zero_le hoj.1
          have hxx : at3 sp (jn : Int) = ((bn : Int), (nth sp jn).2.1, (nth sp jn).2.2) := by rw [at3_nat, ← hbn]
          have hdl := fun j => dropLast_mem hI.sorted hop j
          rw [hjn] at hdl
          by_cases hb : (at3 L (bn : Int)).1 = 4 ∧ (nth sp jn).2.1 < 0
          · obtain ⟨lg1, rfl, h1⟩ := wk_else h h5 hop hjn hxx hb.1 hb.2
            have sn : ∀ k : Nat, nth (sp.set jn ((bn : Int), (a : Int), (nth sp jn).2.2)) k = if k = jn then ((bn : Int), (a : Int), (nth sp jn).2.2) else nth sp k := fun k => nth_set _ k hjl
            have hI' : Inv1 (sp.set jn ((bn : Int), (a : Int), (nth sp jn).2.2)) op (a + 1) := by
              refine ⟨hI.sorted, fun j hj => by rw [List.length_set]; exact hI.inn j hj, fun k hk hm => ?_, fun k hk hm => ?_⟩
              · rw [List.length_set] at hk
                have := hI.opn k hk hm
                rw [sn]; push_cast
                by_cases e : k = jn
                · rw [if_pos e]; (try simp only); subst e; omega
                · rw [if_neg e]; omega
              · rw [List.length_set] at hk
                have := hI.shut k hk hm
                rw [sn, if_neg (fun e => hm (by rw [e]; exact hjm))]; push_cast; omega
            obtain ⟨S, eR, hA, hl⟩ := ih (a + 1) _ _ _ _ _ h1 (by omega) hI'
            have hle := hA.le
            rw [List.length_set] at hle
            have oA : ∀ k : Nat, k < sp.length → (k : Int) ∈ op → k ≠ jn → (nth S k).1 = (nth sp k).1 ∧ ((a : Int) + 1) ≤ (nth S k).2.2 ∧ (nth S k).2.2 + 1 < L.length ∧ ((nth S k).2.1 = (nth sp k).2.1 ∨ (nth sp k).2.1 < 0 ∧ ((a : Int) + 1) ≤ (nth S k).2.1 ∧ (nth S k).2.1 < (nth S k).2.2) := fun k hk hm e => by
              have := hA.opn k (by rw [List.length_set]; exact hk) hm
              rw [sn, if_neg e] at this
              push_cast at this; exact this
            have oJ : (nth S jn).1 = (nth sp jn).1 ∧ ((a : Int) + 1) ≤ (nth S jn).2.2 ∧ (nth S jn).2.2 + 1 < L.length ∧ (nth S jn).2.1 = (a : Int) := by
              have := hA.opn jn (by rw [List.length_set]; exact hjl) hjm
              rw [sn, if_pos rfl] at this
              push_cast at this
              (try simp only at this)
              omega
            have nA : ∀ k : Nat, sp.length ≤ k → k < S.length → ((a : Int) + 1) ≤ (nth S k).1 ∧ (nth S k).1 < (nth S k).2.2 ∧ (nth S k).2.2 + 1 < L.length ∧ ((nth S k).2.1 = -1 ∨ (nth S k).1 < (nth S k).2.1 ∧ (nth S k).2.1 < (nth S k).2.2) := fun k hk hk2 => by
              have := hA.new k (by rw [List.length_set]; exact hk) hk2; push_cast at this; exact this
            have sA : ∀ k : Nat, k < sp.length → (k : Int) ∉ op → nth S k = nth sp k := fun k hk hm => by
              have := hA.shut k (by rw [List.length_set]; exact hk) hm
              rw [sn, if_neg (fun e => hm (by rw [e]; exact hjm))] at this; exact this
            refine ⟨S, eR, ⟨hle, sA, ?_, ?_, ?_, ?_, ?_⟩, step ⟨hI.sorted.sublist (List.dropLast_sublist op), noview (fun j hj => hI.inn j (List.dropLast_subset _ hj)) hle, fun k hk => ?_⟩ hl⟩
            · intro k hk hm
              by_cases e : k = jn
              · subst e; omega
              · have := oA k hk hm e; omega
            · intro k hk hk2
              have := nA k hk hk2; omega
            · intro k k' hkk hk' hm hm'
              exact hA.oo k k' hkk (by rw [List.length_set]; exact hk') hm hm'
            · intro k k' hk hm hk' hk2
              exact hA.on k k' (by rw [List.length_set]; exact hk) hm (by rw [List.length_set]; exact hk') hk2
            · intro k k' hk hkk hk2
              exact hA.nn k k' (by rw [List.length_set]; exact hk) hkk hk2
            · rw [hdl]
              unfold arnd
              by_cases hkn : k < sp.length
              · by_cases hm : (k : Int) ∈ op
                · have h2 := hI.opn k hkn hm
                  by_cases e : k = jn
                  · subst e
                    exact ⟨fun h => absurd rfl h.2, fun h => by omega⟩
                  · have h1 := oA k hkn hm e
                    exact ⟨fun _ => by omega, fun _ => ⟨hm, fun e' => e (by omega)⟩⟩
                · have h2 := hI.shut k hkn hm
                  rw [sA k hkn hm]
                  exact ⟨fun h => absurd h.1 hm, fun h => by omega⟩
              · have hm : (k : Int) ∉ op := fun h => by have := hI.inn _ h; omega
                have := nA k (by omega) hk
                exact ⟨fun h => absurd h.1 hm, fun h => by omega⟩
          · have := (wk_else_no h h5 (.inr ⟨hop, jn, bn, _, _, hjn, hxx, by omega⟩)).2.1; cases this
      · by_cases h11 : (at3 L a).1 = 11
        · by_cases hop : op = []
          · subst hop
            obtain ⟨rl, r1, r2, r3⟩ := wk_last h h11
            by_cases hl : a + 1 = L.length
            · cases deep
              · obtain ⟨rR, _⟩ := r3 hl rfl
                subst rl rR
                have hr : r = 0 := by omega
                subst hr
                refine ⟨sp, by rw [show (a : Int) = (L.length : Int) - 1 from by omega], ⟨Nat.le_refl _, fun _ _ _ => rfl, fun _ _ h => by simp at h, fun k h1 h2 => by omega, fun _ _ _ _ h => by simp at h, fun _ _ _ h => by simp at h, fun k k' h1 h2 h3 => by omega⟩, rfl, fun i hi => ?_⟩
                have hi0 : i = 0 := by simpa using hi
                subst hi0
                refine ⟨rfl, by simp, by simp, fun k hk => ?_⟩
                have := hI.shut k hk (by simp)
                unfold arnd
                simp only [List.getElem_cons_zero, List.not_mem_nil, false_iff, Nat.add_zero]
                omega
              · have := (r2 hl rfl).2; cases this
            · have := (r1 hl).2; cases this
          · obtain ⟨hj0, hj1⟩ := hI.inn _ (last_mem hop)
            obtain ⟨jn, hjn⟩ := Int.eq_ofNat_of_zero_le hj0
            have hjm : (jn : Int) ∈ op := by rw [← hjn]; exact last_mem hop
            rw [hjn] at hj1
            have hjl : jn < sp.length := by omega
            have hoj := hI.opn jn hjl hjm
            obtain ⟨bn, hbn⟩ := Int.eq_ofNat_of_zero_le hoj.1
            have hxx : at3 sp (jn : Int) = ((bn : Int), (nth sp jn).2.1, (nth sp jn).2.2) := by rw [at3_nat, ← hbn]
            have hdl := fun j => dropLast_mem hI.sorted hop j
            rw [hjn] at hdl
            obtain ⟨lg1, rfl, h1⟩ := wk_end h h11 hop hjn hxx
            have hr1 : 1 ≤ r := by
              cases r with
              | zero => simp [wk] at h1
              | succ _ => omega
            have sn : ∀ k : Nat, nth (sp.set jn ((bn : Int), (nth sp jn).2.1, (a : Int))) k = if k = jn then ((bn : Int), (nth sp jn).2.1, (a : Int)) else nth sp k := fun k => nth_set _ k hjl
            have hI' : Inv1 (sp.set jn ((bn : Int), (nth sp jn).2.1, (a : Int))) op.dropLast (a + 1) := by
              refine ⟨hI.sorted.sublist (List.dropLast_sublist op), fun j hj => by rw [List.length_set]; exact hI.inn j (List.dropLast_subset _ hj), fun k hk hm => ?_, fun k hk hm => ?_⟩
              · rw [List.length_set] at hk
                rw [hdl] at hm
                have := hI.opn k hk hm.1
                rw [sn, if_neg (fun e => hm.2 (by rw [e]))]; push_cast; omega
              · rw [List.length_set] at hk
                rw [sn]; push_cast
                by_cases e : k = jn
                · rw [if_pos e]; simp only; omega
                · rw [if_neg e]
                  have := hI.shut k hk (fun h => hm ((hdl _).2 ⟨h, fun e' => e (by omega)⟩)); omega
            obtain ⟨S, eR, hA, hl⟩ := ih (a + 1) _ _ _ _ _ h1 (by omega) hI'
            have hle := hA.le
            rw [List.length_set] at hle
            have oA : ∀ k : Nat, k < sp.length → (k : Int) ∈ op → k ≠ jn → (nth S k).1 = (nth sp k).1 ∧ ((a : Int) + 1) ≤ (nth S k).2.2 ∧ (nth S k).2.2 + 1 < L.length ∧ ((nth S k).2.1 = (nth sp k).2.1 ∨ (nth sp k).2.1 < 0 ∧ ((a : Int) + 1) ≤ (nth S k).2.1 ∧ (nth S k).2.1 < (nth S k).2.2) := fun k hk hm e => by
              have := hA.opn k (by rw [List.length_set]; exact hk) ((hdl _).2 ⟨hm, fun e' => e (by omega)⟩)
              rw [sn, if_neg e] at this
              push_cast at this; exact this
            have oJ : nth S jn = ((bn : Int), (nth sp jn).2.1, (a : Int)) := by
              have := hA.shut jn (by rw [List.length_set]; exact hjl) (fun h => ((hdl _).1 h).2 rfl)
              rw [sn, if_pos rfl] at this; exact this
            have nA : ∀ k : Nat, sp.length ≤ k → k < S.length → ((a : Int) + 1) ≤ (nth S k).1 ∧ (nth S k).1 < (nth S k).2.2 ∧ (nth S k).2.2 + 1 < L.length ∧ ((nth S k).2.1 = -1 ∨ (nth S k).1 < (nth S k).2.1 ∧ (nth S k).2.1 < (nth S k).2.2) := fun k hk hk2 => by
              have := hA.new k (by rw [List.length_set]; exact hk) hk2; push_cast at this; exact this
            have sA : ∀ k : Nat, k < sp.length → (k : Int) ∉ op → nth S k = nth sp k := fun k hk hm => by
              have := hA.shut k (by rw [List.length_set]; exact hk) (fun h => hm ((hdl _).1 h).1)
              rw [sn, if_neg (fun e => hm (by rw [e]; exact hjm))] at this; exact this
            have maxj : ∀ k : Nat, (k : Int) ∈ op → k ≤ jn := fun k hk => by
              by_cases e : k = jn
              · omega
              · have h1 := (hdl (k : Int)).2 ⟨hk, fun e' => e (by omega)⟩
                have hd : op.dropLast ++ [op.getLast hop] = op := List.dropLast_concat_getLast hop
                have hs := hI.sorted
                rw [← hd, List.pairwise_append] at hs
                have h2 := hs.2.2 _ h1 (op.getLast hop) (by simp)
                have h3 : op.getLast hop ∈ op := List.getLast_mem hop
                have h4 : op.getLast hop = (jn : Int) := by
                  by_cases e4 : op.getLast hop = (jn : Int)
                  · exact e4
                  · have h5 := (hdl _).2 ⟨h3, e4⟩
                    have := hs.2.2 _ h5 (op.getLast hop) (by simp)
                    omega
                omega
            refine ⟨S, eR, ⟨hle, sA, ?_, ?_, ?_, ?_, ?_⟩, step ⟨hI.sorted.sublist (List.dropLast_sublist op), noview (fun j hj => hI.inn j (List.dropLast_subset _ hj)) hle, fun k hk => ?_⟩ hl⟩
            · intro k hk hm
              by_cases e : k = jn
              · subst e; rw [oJ]; exact ⟨hbn.symm, by simp only; omega, by simp only; omega, .inl rfl⟩
              · have := oA k hk hm e; omega
            · intro k hk hk2
              have := nA k hk hk2; omega
            · intro k k' hkk hk' hm hm'
              have := maxj k' hm'
              by_cases e : k' = jn
              · subst e
                have h1 := oA k (by omega) hm (by omega)
                rw [oJ]; simp only; omega
              · exact hA.oo k k' hkk (by rw [List.length_set]; exact hk') ((hdl _).2 ⟨hm, fun e' => by omega⟩) ((hdl _).2 ⟨hm', fun e' => e (by omega)⟩)
            · intro k k' hk hm hk' hk2
              by_cases e : k = jn
              · subst e
                have := nA k' hk' hk2
                right; rw [oJ]; simp only; omega
              · exact hA.on k k' (by rw [List.length_set]; exact hk) ((hdl _).2 ⟨hm, fun e' => e (by omega)⟩) (by rw [List.length_set]; exact hk') hk2
            · intro k k' hk hkk hk2
              exact hA.nn k k' (by rw [List.length_set]; exact hk) hkk hk2
            · rw [hdl]
              unfold arnd
              by_cases hkn : k < sp.length
              · by_cases hm : (k : Int) ∈ op
                · have h2 := hI.opn k hkn hm
                  by_cases e : k = jn
                  · subst e
                    rw [oJ]
                    exact ⟨fun h => absurd rfl h.2, fun h => by simp only at h; omega⟩
                  · have h1 := oA k hkn hm e
                    exact ⟨fun _ => by omega, fun _ => ⟨hm, fun e' => e (by omega)⟩⟩
                · have h2 := hI.shut k hkn hm
                  rw [sA k hkn hm]
                  exact ⟨fun h => absurd h.1 hm, fun h => by omega⟩
              · have hm : (k : Int) ∉ op := fun h => by have := hI.inn _ h; omega
                have := nA k (by omega) hk
                exact ⟨fun h => absurd h.1 hm, fun h => by omega⟩
        · obtain ⟨lg1, rfl, h1⟩ := wk_other h ho h5 h11
          have hI' : Inv1 sp op (a + 1) := ⟨hI.sorted, hI.inn, fun k hk hm => by have := hI.opn k hk hm; push_cast; omega, fun k hk hm => by have := hI.shut k hk hm; push_cast; omega⟩
          obtain ⟨S, eR, hA, hl⟩ := ih (a + 1) _ _ _ _ _ h1 (by omega) hI'
          refine ⟨S, eR, ⟨hA.le, hA.shut, fun k hk hm => ?_, fun k hk hk2 => ?_, hA.oo, hA.on, hA.nn⟩, step ⟨hI.sorted, noview hI.inn hA.le, fun k hk => ?_⟩ hl⟩
          · have := hA.opn k hk hm; push_cast at this; omega
          · have := hA.new k hk hk2; push_cast at this; omega
          · unfold arnd
            by_cases hkn : k < sp.length
            · by_cases hm : (k : Int) ∈ op
              · have h2 := hI.opn k hkn hm
                have h1 := hA.opn k hkn hm
                push_cast at h1
                exact ⟨fun _ => by omega, fun _ => hm⟩
              · have h2 := hI.shut k hkn hm
                rw [hA.shut k hkn hm]
                exact ⟨fun h => absurd h hm, fun h => by omega⟩
            · have hm : (k : Int) ∉ op := fun h => by have := hI.inn _ h; omega
              have := hA.new k (by omega) hk
              push_cast at this
              exact ⟨fun h => absurd h hm, fun h => by omega⟩

theorem wk_bad (L : List T3) : ∀ (r a : Nat) (sp : List T3) (op : List Int) (deep : Bool), (wk L r a sp op deep).2.1 ≠ 0 → (wk L r a sp op deep).1 = [] := by
  intro r
  induction r with
  | zero => intro a sp op deep _; rfl
  | succ r ih =>
    intro a sp op deep h
    unfold wk at h ⊢
    by_cases ho : opens (at3 L a).1 = true
    · rw [if_pos ho] at h ⊢; exact ih _ _ _ _ h
    · rw [if_neg ho] at h ⊢
      by_cases h5 : (at3 L a).1 = 5
      · rw [if_pos h5] at h ⊢
        by_cases hop : op = []
        · rw [if_pos hop]
        · rw [if_neg hop] at h ⊢
          simp only at h ⊢
          split at h
          · rename_i hc; rw [if_pos hc]
          · rename_i hc; rw [if_neg hc]; exact ih _ _ _ _ h
      · rw [if_neg h5] at h ⊢
        by_cases h11 : (at3 L a).1 = 11
        · rw [if_pos h11] at h ⊢
          by_cases hop : op = []
          · rw [if_pos hop] at h ⊢
            by_cases hl : a + 1 ≠ L.length
            · rw [if_pos hl]
            · rw [if_neg hl] at h ⊢
              cases deep
              · exact absurd rfl h
              · rfl
          · rw [if_neg hop] at h ⊢; exact ih _ _ _ _ h
        · rw [if_neg h11] at h ⊢; exact ih _ _ _ _ h

theorem wkAll_bad (L : List T3) (h : (wkAll L).2.1 ≠ 0) : (wkAll L).1 = [] := wk_bad L _ _ _ _ _ h
theorem wkAll_all (L : List T3) (h : (wkAll L).2.1 = 0) : ∃ S, (wkAll L).1 = S ++ [(-1, -1, (L.length : Int) - 1)] ∧ Agr L.length [] [] 0 S ∧ (wkAll L).2.2.length = L.length ∧
    ∀ i (h : i < (wkAll L).2.2.length), ((wkAll L).2.2[i]).1 = (i : Int) ∧ View S (i : Int) ((wkAll L).2.2[i]).2 := by
  have := wk_all L L.length 0 [] [] false (wkAll L).1 (wkAll L).2.2 (by rw [← h]; rfl) (by omega) ⟨by simp, by simp, by simp, by simp⟩
  simpa using this

end Go.Proofs.Ytobopkkdjkjafaa.Nest
