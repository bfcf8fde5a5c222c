/- The reference's Op: rows of items that are made, over the kit's print of the small functions. -/
import Derived.Test.YtngpmijbjhpfhaaIselS
import Derived.Test.YtngpmijbjhpfhaaPIselOpsx4
import Derived.Test.YtngpmijbjhpfhaaPIselOpsx6
namespace Go.Proofs.Ytngpmijbjhpfhaa.Isel
open Go.RowKit Go.Proofs.YtngpmijbjhpfhaaW.PrintWords Go.Proofs.YtngpmijbjhpfhaaW.PrintLast Go.Proofs.Ytngpmijbjhpfhaa.Mem
open PIselOps (S42 S40 k42 k40 k42_open k42_mkM k42_mk)
set_option linter.unusedVariables false
set_option linter.unusedSimpArgs false

abbrev scells (t : S42) : List Value := [.int .i64 t.f0.f0, .bool t.f0.f1, .int .i64 t.f0.f2, .int .i64 t.f0.f3, .int .i64 t.f0.f4, .int .i64 t.f0.f5, .int .i64 t.f0.f6, .int .i64 t.f1, .int .i64 t.f2]
def toS (t : Item) : S42 := ⟨⟨t.x.op, t.x.wide, t.x.r, t.x.b, t.x.i, t.x.c, t.x.n⟩, t.label, t.jmp⟩
theorem kItem_openM {w : World} {base : Nat} {ok : Nat → Prop} {t : Item} {cs : List Value} (h : kItem.M w base ok t cs) : cs = t.cells := by
  obtain ⟨_, _, rfl, rfl, _, _, rfl, rfl, _, _, rfl, rfl, _, _, rfl, rfl, _, _, rfl, rfl, _, _, rfl, rfl, _, _, rfl, rfl, _, _, rfl, rfl, rfl⟩ := h
  rfl
theorem toS_R {e : Nat} {w : World} {base : Nat} {ok : Nat → Prop} {v : Value} {xs : List Item} (h : kItem.R e w base ok v xs) : k42.R e w base ok v (xs.map toS) := by
  obtain ⟨h1, inner, ho, hr⟩ := h
  refine ⟨h1, inner, by rw [List.length_map]; exact ho, by rw [List.length_map]; exact hr.1, fun j p hj => ?_⟩
  rw [List.getElem?_map] at hj
  cases hx : xs[j]? with
  | none => rw [hx] at hj; simp at hj
  | some q =>
    rw [hx] at hj
    simp only [Option.map_some, Option.some.injEq] at hj
    subst hj
    have h2 := hr.2 j q hx
    rw [show (k42.sz) = kItem.sz from rfl, kItem_openM h2]
    exact k42_mkM _ _ _ (toS q)
theorem flat_take {α β : Type} (f : α → List β) (k : Nat) (hk : ∀ a, (f a).length = k) : ∀ (l : List α) (j : Nat) (p : α), l[j]? = some p → ((l.flatMap f).drop (j * k)).take k = f p := by
  intro l
  induction l with
  | nil => intro j p h; simp at h
  | cons a l ih =>
    intro j p h
    rw [List.flatMap_cons]
    cases j with
    | zero =>
      simp at h
      subst h
      rw [Nat.zero_mul, List.drop_zero, List.take_append_of_le_length (by rw [hk]; omega), List.take_of_length_le (by rw [hk]; omega)]
    | succ j =>
      rw [List.drop_append, List.drop_eq_nil_of_le (by rw [hk, Nat.succ_mul]; omega), List.nil_append, hk]
      have : (j + 1) * k - k = j * k := by rw [Nat.succ_mul]; omega
      rw [this]
      exact ih j p (by simpa using h)
theorem flat_len {α β : Type} (f : α → List β) (k : Nat) (hk : ∀ a, (f a).length = k) : ∀ (l : List α), (l.flatMap f).length = l.length * k := by
  intro l
  induction l with
  | nil => simp
  | cons a l ih => rw [List.flatMap_cons, List.length_append, hk, ih, List.length_cons, Nat.succ_mul]; omega
/-- a row of items of one's own -/
structure Rr (w W : World) (v : Value) (xs : List S42) : Prop where
  bel : Below w.heap.size w W
  row : k42.R 42 W w.heap.size (fun _ => True) v xs
theorem Rr.below {w W W1 : World} {v : Value} {xs : List S42} (h : Rr w W v xs) (hb : Below W.heap.size W W1) : Rr w W1 v xs := ⟨h.bel.trans (hb.mono h.bel.size), Kd.R_below h.row hb⟩
theorem Rr.lit {w W : World} (h : Below w.heap.size w W) (ys : List S42) (hl : ys.length ≤ 1000) : Rr w (W.alloc (.cells (ys.flatMap scells).toArray 42)) (.slice (some ⟨W.heap.size, 0, none⟩) ys.length ys.length) ys := by
  refine ⟨h.alloc h.size _, fun _ _ => trivial, (ys.flatMap scells), ?_, ?_, fun j p hj => ?_⟩
  · have h2 := World.ownsRow_lit (base := w.heap.size) (e := 42) (size := 9) W (ys.flatMap scells).toArray ys.length h.size (by simp [maxLen]; omega) (by simpa using flat_len scells 9 (fun _ => rfl) ys)
    rw [show k42.sz = 9 from rfl]
    simpa using h2
  · exact flat_len scells 9 (fun _ => rfl) ys
  · rw [show k42.sz = 9 from rfl, flat_take scells 9 (fun _ => rfl) ys j p hj]
    exact k42_mkM _ _ _ p
theorem infoS : (Try.prog.info? 42).map (fun i => (i.zero, i.size, i.bytes)) = some (some zItem.val, 9, 72) := infoItem
section
variable {ops : Array Oper} {rest : List Oper} {o : Oper} {a : Act} {Q : Exit → Act → World → Prop}
theorem wp_app {w W : World} {v : Value} {xs ys : List S42} (H : Aside0 (Rr w W v xs)) (hgd : o.guard = none) (s x : Operand)
    (ho : o.op = .call { callee := .builtin .append, args := #[s, x], argTypes := #[31, 31] }) (A : Option Addr) (m c : Nat) (hs : a.eval s = v) (hx : a.eval x = .slice A m c) (HR : k42.C W A m ys) (hl : xs.length + m < 1000)
    (h : ∀ v1 w1, Aside0 (Rr w w1 v1 (xs ++ ys)) → wpList Try.prog ops Q rest (a.put o.dst v1) w1) :
    wpList Try.prog ops Q (o :: rest) a W := by
  refine Kd.R_append_rows k42 (w0 := w) w.heap.size hgd s x 31 42 zItem.val 72 ho Try.underlying31 infoS rfl (by decide) (by omega) v xs ys A m c (fun _ => True) (fun _ => False) hs hx H.out.row HR
    (fun x cs hk => by rw [k42_open hk]; exact k42_mkM _ _ _ x) (fun _ h => h.elim) (fun _ _ => trivial) H.out.bel H.out.bel.size (by omega) ?_
  intro v1 w1 hO hB hg hat
  exact h v1 w1 ⟨⟨hB, hO⟩⟩
end
def ROut (w : World) (l : List S42) (n : Int) (e : Ending) (w' : World) : Prop := ∃ v, e = .returned (.tuple #[v, .int .i64 n, .bool true]) ∧ k42.R 42 w' w.heap.size (fun _ => True) v l ∧ Below w.heap.size w w'
end Go.Proofs.Ytngpmijbjhpfhaa.Isel
