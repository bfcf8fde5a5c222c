/- An instruction of the lowered code, its kind; a code's body that is read. -/
import Derived.Test.YtdcmeefeinppnaaMem
import Derived.Test.YtdcmeefeinppnaaMap
namespace Go.Proofs.Ytdcmeefeinppnaa.Ir
open Go.RowKit Go.Proofs.YtdcmeefeinppnaaW.PrintWords Go.Proofs.YtdcmeefeinppnaaW.PrintLast Go.Proofs.Ytdcmeefeinppnaa.Mem
set_option linter.unusedVariables false
set_option linter.unusedSimpArgs false

structure Ir where
  op : Int
  dst : Int
  a : Int
  b : Int
  c : Int
  n : Int
  m : Int
deriving DecidableEq
def zIr : Ir := ⟨0, 0, 0, 0, 0, 0, 0⟩
abbrev Ir.vals (x : Ir) : Array Value := #[.int .i64 x.op, .int .i64 x.dst, .int .i64 x.a, .int .i64 x.b, .int .i64 x.c, .int .i64 x.n, .int .i64 x.m]
def kIr : Kd Ir := Kd.iso (Kd.pair (Kd.int .i64) (Kd.pair (Kd.int .i64) (Kd.pair (Kd.int .i64) (Kd.pair (Kd.int .i64) (Kd.pair (Kd.int .i64) (Kd.pair (Kd.int .i64) (Kd.int .i64))))))) (fun x : Ir => (x.op, x.dst, x.a, x.b, x.c, x.n, x.m))
theorem kIr_open {w : World} {x : Ir} {cs : List Value} (h : kIr.K w x cs) : cs = x.vals.toList := by
  obtain ⟨_, _, rfl, rfl, _, _, rfl, rfl, _, _, rfl, rfl, _, _, rfl, rfl, _, _, rfl, rfl, _, _, rfl, rfl, rfl⟩ := h
  rfl
def atIr (xs : List Ir) (i : Nat) : Ir := xs.getD i zIr
theorem at_ir {w : World} {A : Option Addr} {n : Nat} {xs : List Ir} (h : kIr.C w A n xs) (i : Nat) (h1 : i < n) :
    ∃ ad, A = some ad ∧ w.cell? (ad.add (i * 7)) = some (.int .i64 (atIr xs i).op) ∧ w.cell? ⟨(ad.add (i * 7)).block, (ad.add (i * 7)).off + 1, none⟩ = some (.int .i64 (atIr xs i).dst) ∧ w.cell? ⟨(ad.add (i * 7)).block, (ad.add (i * 7)).off + 2, none⟩ = some (.int .i64 (atIr xs i).a)
      ∧ w.cell? ⟨(ad.add (i * 7)).block, (ad.add (i * 7)).off + 3, none⟩ = some (.int .i64 (atIr xs i).b) ∧ w.cell? ⟨(ad.add (i * 7)).block, (ad.add (i * 7)).off + 4, none⟩ = some (.int .i64 (atIr xs i).c) ∧ w.cell? ⟨(ad.add (i * 7)).block, (ad.add (i * 7)).off + 5, none⟩ = some (.int .i64 (atIr xs i).n) ∧ w.cell? ⟨(ad.add (i * 7)).block, (ad.add (i * 7)).off + 6, none⟩ = some (.int .i64 (atIr xs i).m) := by
  obtain ⟨ad, c, e, _, hK, hc0⟩ := Kd.C_get h zIr (i : Int) (by omega) (by omega)
  rw [Int.toNat_natCast] at hK hc0
  have hc : ∀ j u, c[j]? = some u → w.cell? (ad.add (i * 7 + j)) = some u := hc0
  obtain rfl := kIr_open hK
  exact ⟨ad, e, hc 0 _ rfl, by rw [← add_field _ _ 1 (by omega)]; exact hc 1 _ rfl, by rw [← add_field _ _ 2 (by omega)]; exact hc 2 _ rfl, by rw [← add_field _ _ 3 (by omega)]; exact hc 3 _ rfl, by rw [← add_field _ _ 4 (by omega)]; exact hc 4 _ rfl, by rw [← add_field _ _ 5 (by omega)]; exact hc 5 _ rfl, by rw [← add_field _ _ 6 (by omega)]; exact hc 6 _ rfl⟩

def defs (x : Ir) : Int := if x.op = 1 ∨ x.op = 2 ∨ x.op = 3 ∨ x.op = 4 ∨ x.op = 5 ∨ x.op = 7 ∨ x.op = 14 then x.dst else -1

/-- a code: how many cells, parameters, labels; its body -/
structure Cod where
  cells : Int
  params : Int
  body : List Ir
  labels : Int
/-- the value of a code whose body lies at A -/
abbrev Cod.vals (c : Cod) (A : Option Addr) (cap : Nat) : Array Value := #[.int .i64 c.cells, .int .i64 c.params, .slice A c.body.length cap, .int .i64 c.labels]
/-- a code's value as it is handed in -/
structure CodeAt (w : World) (c : Cod) (A : Option Addr) (cap : Nat) : Prop where
  row : kIr.C w A c.body.length c.body
  cap : c.body.length ≤ cap
  small : c.body.length ≤ 90000
theorem CodeAt.below {w w' : World} {c : Cod} {A : Option Addr} {cap : Nat} (h : CodeAt w c A cap) (hb : Below w.heap.size w w') : CodeAt w' c A cap := ⟨Kd.C_below h.row hb, h.cap, h.small⟩

/-! ### where labels stand, how often -/
open MapOf (get put)
def labs (L : List Ir) : Nat → List (Int × Int) × List (Int × Int)
  | 0 => ([], [])
  | k + 1 =>
    if (atIr L k).op = 9 then
      (if (get (labs L k).2 (atIr L k).n).getD 0 + 1 = 1 then put (labs L k).1 (atIr L k).n k else (labs L k).1, put (labs L k).2 (atIr L k).n ((get (labs L k).2 (atIr L k).n).getD 0 + 1))
    else labs L k
def cnt (L : List Ir) (n : Int) : Nat → Nat
  | 0 => 0
  | k + 1 => cnt L n k + if (atIr L k).op = 9 ∧ (atIr L k).n = n then 1 else 0
theorem cnt_le (L : List Ir) (n : Int) (k : Nat) : cnt L n k ≤ k := by
  induction k with
  | zero => simp [cnt]
  | succ k ih => unfold cnt; split <;> omega
theorem labs_many (L : List Ir) (n : Int) (k : Nat) : (get (labs L k).2 n).getD 0 = (cnt L n k : Int) := by
  induction k with
  | zero => rfl
  | succ k ih =>
    unfold labs cnt
    by_cases h : (atIr L k).op = 9
    · rw [if_pos h]
      simp only [MapOf.get_put]
      by_cases hn : (atIr L k).n = n
      · rw [if_pos hn, if_pos ⟨h, hn⟩]
        subst hn
        simp [ih]
      · rw [if_neg hn, if_neg (fun e => hn e.2), ih]; simp
    · rw [if_neg h, if_neg (fun e => h e.1), ih]; simp
end Go.Proofs.Ytdcmeefeinppnaa.Ir
