/- A map of the call's own, keyed by whole numbers: what it holds, a look-up, a store. -/
import Derived.MapKept
import Derived.Maps.OwnOps
import Derived.Below
import Derived.WalkKit
namespace Go.Proofs.Ytdcmeefeinppnaa.MapOf
open Go.MapKept Go.RowKit
set_option linter.unusedVariables false
set_option linter.unusedSimpArgs false

def get {β : Type} (m : List (Int × β)) (k : Int) : Option β := (m.find? (fun p => p.1 == k)).map (·.2)
def put {β : Type} : List (Int × β) → Int → β → List (Int × β)
  | [], k, v => [(k, v)]
  | p :: m, k, v => if p.1 == k then (k, v) :: m else p :: put m k v

theorem get_put {β : Type} (m : List (Int × β)) (k : Int) (v : β) (j : Int) : get (put m k v) j = if k = j then some v else get m j := by
  induction m with
  | nil =>
    unfold put get
    by_cases h : k = j
    · simp [List.find?, h]
    · have hb : (k == j) = false := beq_eq_false_iff_ne.mpr h
      simp [List.find?, h, hb]
  | cons p m ih =>
    unfold put
    by_cases hp : p.1 = k
    · have : (p.1 == k) = true := by simp [hp]
      rw [if_pos this]
      unfold get
      by_cases h : k = j
      · simp [List.find?, h]
      · have h2 : (p.1 == j) = false := beq_eq_false_iff_ne.mpr (by rw [hp]; exact h)
        have h3 : (k == j) = false := beq_eq_false_iff_ne.mpr h
        simp [List.find?, h, h2, h3]
    · have : ¬ (p.1 == k) = true := by simp [hp]
      rw [if_neg this]
      unfold get at ih ⊢
      by_cases h2 : p.1 = j
      · have h3 : ¬ k = j := fun e => hp (h2.trans e.symm)
        simp [List.find?, h2, h3]
      · have h4 : (p.1 == j) = false := by simp [h2]
        rw [List.find?_cons, List.find?_cons, h4]
        exact ih
theorem get_nil {β : Type} (j : Int) : get ([] : List (Int × β)) j = none := rfl
theorem length_put {β : Type} (m : List (Int × β)) (k : Int) (v : β) : (put m k v).length ≤ m.length + 1 := by
  induction m with
  | nil => simp [put]
  | cons p m ih => unfold put; split <;> simp <;> omega

/-- block b is a map that holds m -/
def Is {β : Type} (enc : β → Value) (w : World) (b : Nat) (m : List (Int × β)) : Prop :=
  ∃ es clock, w.heap[b]? = some (.map es clock) ∧ es.toList.map (fun e => (e.key, e.val)) = m.map (fun p => (Value.int .i64 p.1, enc p.2))

section
variable {β : Type} {enc : β → Value} {w w1 : World} {b : Nat} {m : List (Int × β)} {P : Program}

theorem Is.lt (h : Is enc w b m) : b < w.heap.size := by
  obtain ⟨es, c, hb, _⟩ := h
  exact (Array.getElem?_eq_some_iff.1 hb).1
theorem Is.same (h : Is enc w b m) (hb : w1.heap[b]? = w.heap[b]?) : Is enc w1 b m := by
  obtain ⟨es, c, h1, h2⟩ := h
  exact ⟨es, c, hb.trans h1, h2⟩
theorem Is.grown {row : Option Nat} (h : Is enc w b m) (hg : w.grownBy w1 row) (hne : some b ≠ row) : Is enc w1 b m := h.same (hg.block b h.lt hne)
theorem Is.below (h : Is enc w b m) (hb : Below w.heap.size w w1) : Is enc w1 b m := h.same (hb.block b h.lt)
theorem Is.made (enc : β → Value) (w : World) : Is enc (w.alloc (.map #[] 0)) w.heap.size [] := ⟨#[], 0, (heap_alloc w _).1, rfl⟩
theorem Is.far (h : Is enc w b m) {p : Addr} (hp : b ≠ p.block) (u : Value) : Is enc (w.setCell p u) b m := h.same (Below.heap_setCell w p u b hp)
/-- a block of cells is no map -/
theorem Is.ne_cells (h : Is enc w b m) {g e : Nat} {cs : Array Value} {fr : Nat × Nat} (hg : w.heap[g]? = some (.cells cs e fr)) : b ≠ g := by
  rintro rfl
  obtain ⟨es, c, hb, _⟩ := h
  rw [hb] at hg
  cases hg

theorem isKey (n : Int) : IsKey (.int .i64) (.int .i64 n) := by simp [IsKey]

theorem find_at (k : Int) : ∀ (es : List MapEntry) (m : List (Int × β)) (i : Nat), es.map (fun e => (e.key, e.val)) = m.map (fun p => (Value.int .i64 p.1, enc p.2)) →
    (Instr.findNow (.int .i64) (.int .i64 k) es i = some none ∧ get m k = none ∧ put m k = fun v => m ++ [(k, v)]) ∨
    (∃ j v, Instr.findNow (.int .i64) (.int .i64 k) es i = some (some (i + j, enc v)) ∧ get m k = some v ∧ j < m.length ∧ (m[j]?).map (·.1) = some k ∧ put m k = fun v => m.set j (k, v)) := by
  intro es
  induction es with
  | nil =>
    intro m i h
    cases m with
    | nil => exact .inl ⟨rfl, rfl, rfl⟩
    | cons _ _ => simp at h
  | cons e es ih =>
    intro m i h
    cases m with
    | nil => simp at h
    | cons p m =>
      simp only [List.map_cons, List.cons.injEq, Prod.mk.injEq] at h
      obtain ⟨⟨hk, hv⟩, ht⟩ := h
      by_cases hp : p.1 = k
      · refine .inr ⟨0, p.2, ?_, ?_, by simp, by simp [hp], ?_⟩
        · simp [Instr.findNow, hk, hv, Instr.sameNow, hp]
        · simp [get, List.find?, hp]
        · funext v; simp [put, hp]
      · have h1 : Instr.findNow (.int .i64) (.int .i64 k) (e :: es) i = Instr.findNow (.int .i64) (.int .i64 k) es (i + 1) := by
          have : (k == p.1) = false := by simp; exact fun e => hp e.symm
          simp [Instr.findNow, hk, Instr.sameNow, this]
        have h4 : (p.1 == k) = false := by simp [hp]
        rcases ih m (i + 1) ht with ⟨a, b, c⟩ | ⟨j, v, a, b, c, d, e⟩
        · refine .inl ⟨h1.trans a, ?_, ?_⟩
          · unfold get at b ⊢
            rw [List.find?_cons, h4]; exact b
          · funext v
            show put (p :: m) k v = _
            unfold put
            rw [h4, c]; rfl
        · refine .inr ⟨j + 1, v, ?_, ?_, by simp; exact c, by simpa using d, ?_⟩
          · rw [h1, a]; congr 3; omega
          · unfold get at b ⊢
            rw [List.find?_cons, h4]; exact b
          · funext v
            show put (p :: m) k v = _
            unfold put
            rw [h4, e]; rfl

theorem run_lookup {t kt et : TypeId} (h : Is enc w b m) (ht : P.underlying t = some (.map kt et)) (hk : P.underlying kt = some (.int .i64)) {z : β} (hz : (zeroValue et).run P w = .ok (enc z) w) (k : Int) (c : Bool) :
    (Instr.lookup t (.map (some b)) (.int .i64 k) c).run P w = .ok (if c then .tuple #[enc ((get m k).getD z), .bool (get m k).isSome] else enc ((get m k).getD z)) w := by
  obtain ⟨es, cl, hb, hm⟩ := h
  rcases find_at (enc := enc) k es.toList m 0 hm with ⟨h1, h2, _⟩ | ⟨j, v, h1, h2, _⟩
  · cases c <;> simp [Instr.lookup, run_underlying ht, MapKept.run_getObj_map hb, run_checkKey hk (isKey k), run_findKey hk h1, hz, h2, Result.andThen]
  · cases c <;> simp [Instr.lookup, run_underlying ht, MapKept.run_getObj_map hb, run_checkKey hk (isKey k), run_findKey hk h1, hz, h2, Result.andThen]
theorem run_update {t kt et : TypeId} (h : Is enc w b m) (ht : P.underlying t = some (.map kt et)) (hk : P.underlying kt = some (.int .i64)) (k : Int) (v : β) :
    ∃ w', (Instr.mapUpdate t (.map (some b)) (.int .i64 k) (enc v)).run P w = .ok () w' ∧ Is enc w' b (put m k v) ∧ w.grownBy w' (some b) ∧ w'.heap.size = w.heap.size := by
  obtain ⟨es, cl, hb, hm⟩ := h
  have hlen : es.size = m.length := by
    have := congrArg List.length hm
    simpa using this
  rcases find_at (enc := enc) k es.toList m 0 hm with ⟨h1, _, h3⟩ | ⟨j, u, h1, _, hj, hjk, h3⟩
  · refine ⟨{ w with heap := w.heap.setIfInBounds b (.map (es.push { key := .int .i64 k, val := enc v, born := cl }) (cl + 1)) }, ?_, ⟨_, _, (heap_set hb).1, ?_⟩, ⟨rfl, rfl, rfl, by simp, fun i hi hne => (heap_set hb).2 i (fun e => hne (by rw [e]))⟩, by simp⟩
    · simp [Instr.mapUpdate, run_underlying ht, MapKept.run_getObj_map hb, run_checkKey hk (isKey k), run_findKey hk h1, run_setObj_map _ hb, Result.andThen]
    · rw [h3]; simp [hm]
  · rw [Nat.zero_add] at h1
    have hjs : j < es.size := by omega
    have hkey : ((es[j]?).map (·.key)).getD (.int .i64 k) = .int .i64 k := by
      have e1 : (es.toList.map (fun e => (e.key, e.val)))[j]? = (m.map (fun p => (Value.int .i64 p.1, enc p.2)))[j]? := by rw [hm]
      simp only [List.getElem?_map] at e1
      rw [List.getElem?_eq_getElem hj] at hjk e1
      simp at hjk
      rw [Array.getElem?_toList, Array.getElem?_eq_getElem hjs] at e1
      simp at e1
      rw [Array.getElem?_eq_getElem hjs]
      simp [e1.1, hjk]
    refine ⟨{ w with heap := w.heap.setIfInBounds b (.map (es.modify j fun e => { e with key := .int .i64 k, val := enc v }) cl) }, ?_, ⟨_, _, (heap_set hb).1, ?_⟩, ⟨rfl, rfl, rfl, by simp, fun i hi hne => (heap_set hb).2 i (fun e => hne (by rw [e]))⟩, by simp⟩
    · simp [Instr.mapUpdate, run_underlying ht, MapKept.run_getObj_map hb, run_checkKey hk (isKey k), run_findKey hk h1, run_setObj_map _ hb, Result.andThen, hkey, run_keyThatStays (isKey k)]
    · rw [h3]
      apply List.ext_getElem?
      intro i
      have e1 : (es.toList.map (fun e => (e.key, e.val)))[i]? = (m.map (fun p => (Value.int .i64 p.1, enc p.2)))[i]? := by rw [hm]
      simp only [List.getElem?_map, Array.getElem?_toList, Array.getElem?_modify, List.getElem?_set] at e1 ⊢
      by_cases hij : j = i
      · subst hij
        simp [hj, hjs]
      · simp [hij]
        simpa using e1
end

section
variable {β : Type} {enc : β → Value} {P : Program} (w : World) {ops : Array Oper} {rest : List Oper} {o : Oper} {a : Act} {Q : Exit → Act → World → Prop}
theorem wp_lookup (hg : o.guard = none) (m x : Operand) (t : TypeId) (c : Bool) (hop : o.op = Op.lookup t m x c) (kt et : TypeId) (ht : P.underlying t = some (.map kt et)) (hkt : P.underlying kt = some (.int .i64))
    (z : β) (hz : (zeroValue et).run P w = .ok (enc z) w) (b : Nat) (M : List (Int × β)) (hm : a.eval m = .map (some b)) (h : Is enc w b M) (k : Int) (hx : a.eval x = .int .i64 k)
    (hK : wpList P ops Q rest (a.put o.dst (if c then .tuple #[enc ((get M k).getD z), .bool (get M k).isSome] else enc ((get M k).getD z))) w) : wpList P ops Q (o :: rest) a w := by
  refine wpList_plain hg fun K' hK' => ?_
  unfold Oper.wp
  simp [execOp, hop, hm, hx, run_lookup h ht hkt hz k c, Result.andThen]
  exact hK' _ _ hK
theorem wp_look (hg : o.guard = none) (m x : Operand) (t : TypeId) (hop : o.op = Op.lookup t m x false) (kt et : TypeId) (ht : P.underlying t = some (.map kt et)) (hkt : P.underlying kt = some (.int .i64))
    (z : β) (hz : (zeroValue et).run P w = .ok (enc z) w) (b : Nat) (M : List (Int × β)) (hm : a.eval m = .map (some b)) (h : Is enc w b M) (k : Int) (hx : a.eval x = .int .i64 k) (v : β) (hv : (get M k).getD z = v)
    (hK : wpList P ops Q rest (a.put o.dst (enc v)) w) : wpList P ops Q (o :: rest) a w := by
  subst hv
  exact wp_lookup w hg m x t false hop kt et ht hkt z hz b M hm h k hx hK
theorem wp_look_ok (hg : o.guard = none) (m x : Operand) (t : TypeId) (hop : o.op = Op.lookup t m x true) (kt et : TypeId) (ht : P.underlying t = some (.map kt et)) (hkt : P.underlying kt = some (.int .i64))
    (z : β) (hz : (zeroValue et).run P w = .ok (enc z) w) (b : Nat) (M : List (Int × β)) (hm : a.eval m = .map (some b)) (h : Is enc w b M) (k : Int) (hx : a.eval x = .int .i64 k) (v : β) (hv : (get M k).getD z = v) (ok : Bool) (hok : (get M k).isSome = ok)
    (hK : wpList P ops Q rest (a.put o.dst (.tuple #[enc v, .bool ok])) w) : wpList P ops Q (o :: rest) a w := by
  subst hv hok
  exact wp_lookup w hg m x t true hop kt et ht hkt z hz b M hm h k hx hK
theorem wp_update (hg : o.guard = none) (m x v : Operand) (t : TypeId) (hop : o.op = Op.mapUpdate t m x v) (kt et : TypeId) (ht : P.underlying t = some (.map kt et)) (hkt : P.underlying kt = some (.int .i64))
    (b : Nat) (M : List (Int × β)) (hm : a.eval m = .map (some b)) (h : Is enc w b M) (k : Int) (u : β) (hx : a.eval x = .int .i64 k) (hv : a.eval v = enc u)
    (hK : ∀ w', Is enc w' b (put M k u) → w.grownBy w' (some b) → w'.heap.size = w.heap.size → wpList P ops Q rest (a.put o.dst undef) w') : wpList P ops Q (o :: rest) a w := by
  refine wpList_plain hg fun K' hK' => ?_
  obtain ⟨w', hrun, r1, r2, r3⟩ := run_update h ht hkt k u
  unfold Oper.wp
  simp [execOp, hop, hm, hx, hv, hrun, Result.andThen]
  exact hK' _ _ (hK w' r1 r2 r3)
end
end Go.Proofs.Ytdcmeefeinppnaa.MapOf
