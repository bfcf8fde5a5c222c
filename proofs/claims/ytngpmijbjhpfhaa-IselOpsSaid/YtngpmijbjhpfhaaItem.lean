/- The machine's instruction and the item, as rows of values. -/
import Derived.Test.YtngpmijbjhpfhaaMem
namespace Go.Proofs.Ytngpmijbjhpfhaa.Isel
open Go.RowKit Go.Proofs.YtngpmijbjhpfhaaW.PrintWords Go.Proofs.YtngpmijbjhpfhaaW.PrintLast Go.Proofs.Ytngpmijbjhpfhaa.Mem
set_option linter.unusedVariables false
set_option linter.unusedSimpArgs false

structure X where
  op : Int
  wide : Bool
  r : Int
  b : Int
  i : Int
  c : Int
  n : Int
deriving DecidableEq
abbrev X.cells (x : X) : List Value := [.int .i64 x.op, .bool x.wide, .int .i64 x.r, .int .i64 x.b, .int .i64 x.i, .int .i64 x.c, .int .i64 x.n]
abbrev X.val (x : X) : Value := .agg #[.int .i64 x.op, .bool x.wide, .int .i64 x.r, .int .i64 x.b, .int .i64 x.i, .int .i64 x.c, .int .i64 x.n]
structure Item where
  x : X
  label : Int
  jmp : Int
deriving DecidableEq
abbrev Item.cells (t : Item) : List Value := [.int .i64 t.x.op, .bool t.x.wide, .int .i64 t.x.r, .int .i64 t.x.b, .int .i64 t.x.i, .int .i64 t.x.c, .int .i64 t.x.n, .int .i64 t.label, .int .i64 t.jmp]
abbrev Item.val (t : Item) : Value := .agg #[.int .i64 t.x.op, .bool t.x.wide, .int .i64 t.x.r, .int .i64 t.x.b, .int .i64 t.x.i, .int .i64 t.x.c, .int .i64 t.x.n, .int .i64 t.label, .int .i64 t.jmp]
def zItem : Item := ⟨⟨0, false, 0, 0, 0, 0, 0⟩, 0, 0⟩
def zX : X := ⟨0, false, 0, 0, 0, 0, 0⟩
def kItem : Kd Item := Kd.iso (Kd.pair (Kd.int .i64) (Kd.pair Kd.bool (Kd.pair (Kd.int .i64) (Kd.pair (Kd.int .i64) (Kd.pair (Kd.int .i64) (Kd.pair (Kd.int .i64) (Kd.pair (Kd.int .i64) (Kd.pair (Kd.int .i64) (Kd.int .i64)))))))))
  (fun t : Item => (t.x.op, t.x.wide, t.x.r, t.x.b, t.x.i, t.x.c, t.x.n, t.label, t.jmp))
theorem kItem_open {w : World} {t : Item} {cs : List Value} (h : kItem.K w t cs) : cs = t.cells := by
  obtain ⟨_, _, rfl, rfl, _, _, rfl, rfl, _, _, rfl, rfl, _, _, rfl, rfl, _, _, rfl, rfl, _, _, rfl, rfl, _, _, rfl, rfl, _, _, rfl, rfl, rfl⟩ := h
  rfl
theorem kItem_M (w : World) (base : Nat) (ok : Nat → Prop) (t : Item) : kItem.M w base ok t t.cells :=
  ⟨[_], _, rfl, rfl, [_], _, rfl, rfl, [_], _, rfl, rfl, [_], _, rfl, rfl, [_], _, rfl, rfl, [_], _, rfl, rfl, [_], _, rfl, rfl, [_], [_], rfl, rfl, rfl⟩
theorem flat_get {α β : Type} (f : α → List β) (k : Nat) (hk : ∀ a, (f a).length = k) : ∀ (l : List α) (j : Nat) (p : α) (i : Nat), l[j]? = some p → i < k → (l.flatMap f)[j * k + i]? = (f p)[i]? := by
  intro l
  induction l with
  | nil => intro j p i h _; simp at h
  | cons a l ih =>
    intro j p i h hi
    rw [List.flatMap_cons]
    cases j with
    | zero =>
      simp at h
      subst h
      rw [List.getElem?_append_left (by rw [hk]; omega), Nat.zero_mul, Nat.zero_add]
    | succ j =>
      rw [List.getElem?_append_right (by rw [hk, Nat.succ_mul]; omega), hk]
      have : (j + 1) * k + i - k = j * k + i := by rw [Nat.succ_mul]; omega
      rw [this]
      exact ih j p i (by simpa using h) hi
theorem add_q (b q : Nat) : (⟨b, 0, none⟩ : Addr).add q = ⟨b, q, none⟩ := by
  unfold Addr.add
  split
  · rename_i h; subst h; rfl
  · simp
/-- a row of instructions that lies by itself in a block: its cells -/
theorem at_x {W : World} {b t : Nat} {l : List X} (h : W.heap[b]? = some (.cells (l.flatMap X.cells).toArray t (0, 0))) (q : Nat) (hq : q < l.length) :
    W.cell? ⟨b, q * 7, none⟩ = some (.int .i64 (l.getD q zX).op) ∧ W.cell? ⟨b, q * 7 + 1, none⟩ = some (.bool (l.getD q zX).wide) ∧ W.cell? ⟨b, q * 7 + 2, none⟩ = some (.int .i64 (l.getD q zX).r) ∧ W.cell? ⟨b, q * 7 + 3, none⟩ = some (.int .i64 (l.getD q zX).b)
      ∧ W.cell? ⟨b, q * 7 + 4, none⟩ = some (.int .i64 (l.getD q zX).i) ∧ W.cell? ⟨b, q * 7 + 5, none⟩ = some (.int .i64 (l.getD q zX).c) ∧ W.cell? ⟨b, q * 7 + 6, none⟩ = some (.int .i64 (l.getD q zX).n) := by
  have hp : l[q]? = some (l.getD q zX) := by simp [hq]
  have hc : ∀ i u, i < 7 → (l.getD q zX).cells[i]? = some u → W.cell? ⟨b, q * 7 + i, none⟩ = some u := by
    intro i u hi hu
    rw [blk_cell h]
    simp only [List.getElem?_toArray]
    rw [flat_get X.cells 7 (fun _ => rfl) l q _ i hp hi]
    exact hu
  exact ⟨hc 0 _ (by omega) rfl, hc 1 _ (by omega) rfl, hc 2 _ (by omega) rfl, hc 3 _ (by omega) rfl, hc 4 _ (by omega) rfl, hc 5 _ (by omega) rfl, hc 6 _ (by omega) rfl⟩
/-- a row of items that lies by itself in a block, as a row that is read -/
theorem reads_items {W : World} {b t : Nat} (l : List Item) (hn : l.length ≤ 1000) (h : W.heap[b]? = some (.cells (l.flatMap Item.cells).toArray t (0, 0))) : ReadsRow (fun x cs => cs = x.cells) 9 W (some ⟨b, 0, none⟩) l.length l := by
  refine ⟨rfl, by omega, fun _ => ⟨_, rfl, fun j p hj => ⟨p.cells, rfl, rfl, fun i u hu => ?_⟩⟩⟩
  have hi : i < 9 := by
    rcases Nat.lt_or_ge i 9 with h1 | h1
    · exact h1
    · rw [List.getElem?_eq_none (by show 9 ≤ i; omega)] at hu; cases hu
  rw [add_q, blk_cell h]
  simp only [List.getElem?_toArray]
  rw [flat_get Item.cells 9 (fun _ => rfl) l j p i hj hi]
  exact hu
/-- the cells of a row of items -/
theorem at_item {w : World} {A : Option Addr} {n : Nat} {xs : List Item} (h : kItem.C w A n xs) (q : Nat) (hq : q < n) :
    ∃ ad, A = some ad ∧ w.cell? (ad.add (q * 9)) = some (.int .i64 (xs.getD q zItem).x.op) ∧ w.cell? ⟨(ad.add (q * 9)).block, (ad.add (q * 9)).off + 1, none⟩ = some (.bool (xs.getD q zItem).x.wide) ∧ w.cell? ⟨(ad.add (q * 9)).block, (ad.add (q * 9)).off + 2, none⟩ = some (.int .i64 (xs.getD q zItem).x.r)
      ∧ w.cell? ⟨(ad.add (q * 9)).block, (ad.add (q * 9)).off + 3, none⟩ = some (.int .i64 (xs.getD q zItem).x.b) ∧ w.cell? ⟨(ad.add (q * 9)).block, (ad.add (q * 9)).off + 4, none⟩ = some (.int .i64 (xs.getD q zItem).x.i) ∧ w.cell? ⟨(ad.add (q * 9)).block, (ad.add (q * 9)).off + 5, none⟩ = some (.int .i64 (xs.getD q zItem).x.c)
      ∧ w.cell? ⟨(ad.add (q * 9)).block, (ad.add (q * 9)).off + 6, none⟩ = some (.int .i64 (xs.getD q zItem).x.n) ∧ w.cell? ⟨(ad.add (q * 9)).block, (ad.add (q * 9)).off + 7, none⟩ = some (.int .i64 (xs.getD q zItem).label) ∧ w.cell? ⟨(ad.add (q * 9)).block, (ad.add (q * 9)).off + 8, none⟩ = some (.int .i64 (xs.getD q zItem).jmp) := by
  obtain ⟨ad, c, e, _, hK, hc0⟩ := Kd.C_get h zItem (q : Int) (by omega) (by omega)
  rw [Int.toNat_natCast] at hK hc0
  have hc : ∀ j u, c[j]? = some u → w.cell? (ad.add (q * 9 + j)) = some u := hc0
  obtain rfl := kItem_open hK
  exact ⟨ad, e, hc 0 _ rfl, by rw [← add_field _ _ 1 (by omega)]; exact hc 1 _ rfl, by rw [← add_field _ _ 2 (by omega)]; exact hc 2 _ rfl, by rw [← add_field _ _ 3 (by omega)]; exact hc 3 _ rfl, by rw [← add_field _ _ 4 (by omega)]; exact hc 4 _ rfl, by rw [← add_field _ _ 5 (by omega)]; exact hc 5 _ rfl, by rw [← add_field _ _ 6 (by omega)]; exact hc 6 _ rfl, by rw [← add_field _ _ 7 (by omega)]; exact hc 7 _ rfl, by rw [← add_field _ _ 8 (by omega)]; exact hc 8 _ rfl⟩
end Go.Proofs.Ytngpmijbjhpfhaa.Isel
