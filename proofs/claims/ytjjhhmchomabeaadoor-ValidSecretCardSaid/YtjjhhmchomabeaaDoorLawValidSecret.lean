/- No public cell takes what a secret one has in a function that is not trusted (ValidSecret): whatever the two types and the flag are, the law returns true. -/
import Derived.Test.YtjjhhmchomabeaaDoorValL
import Derived.Test.YtjjhhmchomabeaaDoorCards
import Derived.Test.YtjjhhmchomabeaaDoorTie
import Derived.ChangeSame
import Derived.ChangeVars
import Derived.JoinedOf
import Derived.RowKit
import Derived.RowKitTokens
import Derived.LaidLaws
import Derived.LaidHandle
import Derived.Stop.Joined
import Derived.SevenTiedAt
namespace Go.Proofs.YtjjhhmchomabeaaDoor.Valid
open Go.RowKit Go.Proofs.YtjjhhmchomabeaaDoorW.PrintWords Go.Proofs.YtjjhhmchomabeaaDoorW.PrintLast Go.Proofs.YtjjhhmchomabeaaDoor.Mem Go.Proofs.YtjjhhmchomabeaaDoor.Nest
set_option linter.unusedVariables false
set_option linter.unusedSimpArgs false

/-- the law's module: two signatures, a global, one function -/
def mS (a b : Int) (tr : Bool) (sg : Int) (l : List T3) : Md := ⟨[([a, b], []), ([a], [b])], [], [(sg, tr, [], l)], 0, 0, [(b, 0)], []⟩
theorem valid_is {M : Md} {h : Hd} {w : World} {b : Bool} (H : Aside0 (ModAt w h M)) (HC : Aside0 (MCan M)) (hb : Aside0 ((validT M).isNone = b)) :
    Calls Tryd.prog 14 #[.agg (M.cells h)] w fun e w' => Below w.heap.size w w' ∧ ∃ v, e = .returned v ∧ (if b = true then v = .nilIface else ∃ q, v = fErr q) := by
  refine (valid_calls M h w H.out HC.out).mono ?_
  rintro e w' ⟨h1, v, rfl, h2⟩
  refine ⟨h1, v, rfl, ?_⟩
  have h3 := hb.out
  cases hv : validT M with
  | none =>
    rw [hv] at h2 h3
    have : b = true := h3.symm
    rw [if_pos this]
    exact h2
  | some x =>
    obtain ⟨q, at_⟩ := x
    rw [hv] at h2 h3
    have : b = false := h3.symm
    subst this
    obtain ⟨q2, h4, _⟩ := h2
    exact ⟨q2, h4⟩
/-- the law's variables and rows -/
structure Sec (W : World) (g : Nat) (a b : Int) (vf : Value) : Prop where
  g0 : W.heap[g]? = some (.cells #[.int .i64 32, .int .i64 0, .int .i64 0] 45 (0, 0))
  g1 : W.heap[g + 1]? = some (.cells #[.int .i64 11, .int .i64 0, .int .i64 0] 45 (0, 0))
  g2 : W.heap[g + 1 + 1]? = some (.cells #[.int .i64 a, .int .i64 b] 3 (0, 0))
  g3 : W.heap[g + 1 + 1 + 1]? = some (.cells #[.int .i64 a] 3 (0, 0))
  g4 : W.heap[g + 1 + 1 + 1 + 1]? = some (.cells #[.int .i64 b] 3 (0, 0))
  g5 : W.heap[g + 1 + 1 + 1 + 1 + 1]? = some (.cells #[.slice (some ⟨g + 1 + 1, 0, none⟩) 2 2, .slice none 0 0, .slice (some ⟨g + 1 + 1 + 1, 0, none⟩) 1 1, .slice (some ⟨g + 1 + 1 + 1 + 1, 0, none⟩) 1 1] 32 (0, 0))
  g6 : W.heap[g + 1 + 1 + 1 + 1 + 1 + 1]? = some (.cells #[.int .i64 b, .int .i64 0] 57 (0, 0))
  g7 : W.heap[g + 1 + 1 + 1 + 1 + 1 + 1 + 1]? = some (.cells #[.slice (some ⟨g + 1 + 1 + 1 + 1 + 1, 0, none⟩) 2 2, .slice none 0 0, vf, .int .i64 0, .int .i64 0, .slice (some ⟨g + 1 + 1 + 1 + 1 + 1 + 1, 0, none⟩) 1 1, .slice none 0 0] 29 (0, 0))
section
variable {W W1 : World} {g : Nat} {a b : Int} {vf : Value}
theorem Sec.below (S : Sec W g a b vf) (h : Below W.heap.size W W1) : Sec W1 g a b vf :=
  ⟨blk_below S.g0 h, blk_below S.g1 h, blk_below S.g2 h, blk_below S.g3 h, blk_below S.g4 h, blk_below S.g5 h, blk_below S.g6 h, blk_below S.g7 h⟩
theorem Sec.put (S : Sec W g a b vf) (v : Value) : Sec (W.setCell ⟨g + 1 + 1 + 1 + 1 + 1 + 1 + 1, 2, none⟩ v) g a b v :=
  ⟨blk_far S.g0 (by simp <;> omega) v, blk_far S.g1 (by simp <;> omega) v, blk_far S.g2 (by simp <;> omega) v, blk_far S.g3 (by simp <;> omega) v, blk_far S.g4 (by simp <;> omega) v, blk_far S.g5 (by simp <;> omega) v, blk_far S.g6 (by simp <;> omega) v, by simpa using blk_set S.g7 2 v⟩
theorem ints_row (l : List Int) (hl : l.length ≤ 100) {t : TypeId} {g : Nat} (hb : W.heap[g]? = some (.cells (l.map (Value.int .i64)).toArray t (0, 0))) : (Kd.int .i64).C W (some ⟨g, 0, none⟩) l.length l :=
  ⟨rfl, by omega, fun _ => ⟨_, rfl, fun j p hp => ⟨[.int .i64 p], rfl, rfl, fun i u hu => by
    have hi : i = 0 := by have := (List.getElem?_eq_some_iff.1 hu).1; simp at this; omega
    subst hi
    have h1 : (⟨g, 0, none⟩ : Addr).add (j * (Kd.int .i64).sz + 0) = ⟨g, j, none⟩ := by
      show (⟨g, 0, none⟩ : Addr).add (j * 1 + 0) = _
      unfold Addr.add
      split <;> simp_all
    rw [h1, blk_cell hb j]
    simp at hu
    simp [hp, hu]⟩⟩⟩
theorem add0 (g q : Nat) : (⟨g, 0, none⟩ : Addr).add q = ⟨g, q, none⟩ := by unfold Addr.add; split <;> simp_all
theorem Sec.mod (S : Sec W g a b vf) {f r : Nat} {tr : Bool} {sg : Int} {l : List T3} (hl : l.length ≤ 100) (hf : W.heap[f]? = some (.cells #[.int .i64 sg, .bool tr, .slice none 0 0, .slice (some ⟨r, 0, none⟩) l.length l.length] 43 (0, 0))) (hr : W.heap[r]? = some (.cells (l.flatMap x3).toArray 45 (0, 0))) :
    ModAt W ⟨some ⟨g + 1 + 1 + 1 + 1 + 1, 0, none⟩, none, some ⟨f, 0, none⟩, some ⟨g + 1 + 1 + 1 + 1 + 1 + 1, 0, none⟩, none, 2, 0, 1, 1, 0⟩ (mS a b tr sg l) where
  sigs := ⟨rfl, (by show 2 ≤ 9223372036854775807; omega), fun _ => ⟨_, rfl, fun j p hp => by
    have h2 : (Kd.int .i64).C W (some ⟨g + 1 + 1, 0, none⟩) 2 [a, b] := ints_row [a, b] (by simp) S.g2
    have h3 : (Kd.int .i64).C W (some ⟨g + 1 + 1 + 1, 0, none⟩) 1 [a] := ints_row [a] (by simp) S.g3
    have h4 : (Kd.int .i64).C W (some ⟨g + 1 + 1 + 1 + 1, 0, none⟩) 1 [b] := ints_row [b] (by simp) S.g4
    rcases j with _ | _ | j
    · cases hp
      refine ⟨[.slice (some ⟨g + 1 + 1, 0, none⟩) 2 2, .slice none 0 0], rfl, ⟨[_], [_], rfl, slice_K (xs := [a, b]) (Nat.le_refl _) h2, slice_K (xs := ([] : List Int)) (Nat.le_refl _) (nilRow _ _)⟩, fun i u hu => ?_⟩
      rw [add0]
      show W.cell? ⟨g + 1 + 1 + 1 + 1 + 1, 0 * 2 + i, none⟩ = _
      rw [blk_cell S.g5]
      rcases i with _ | _ | i
      · exact hu
      · exact hu
      · simp at hu
    · cases hp
      refine ⟨[.slice (some ⟨g + 1 + 1 + 1, 0, none⟩) 1 1, .slice (some ⟨g + 1 + 1 + 1 + 1, 0, none⟩) 1 1], rfl, ⟨[_], [_], rfl, slice_K (xs := [a]) (Nat.le_refl _) h3, slice_K (xs := [b]) (Nat.le_refl _) h4⟩, fun i u hu => ?_⟩
      rw [add0]
      show W.cell? ⟨g + 1 + 1 + 1 + 1 + 1, (0 + 1) * 2 + i, none⟩ = _
      rw [blk_cell S.g5]
      rcases i with _ | _ | i
      · exact hu
      · exact hu
      · simp at hu
    · exact absurd (show (none : Option Sg) = some p from hp) (by simp)⟩⟩
  imports := nilRow _ _
  funcs := one_row (cs := [.int .i64 sg, .bool tr, .slice none 0 0, .slice (some ⟨r, 0, none⟩) l.length l.length]) hf rfl ⟨[_], _, rfl, rfl, [_], _, rfl, rfl, [_], [_], rfl, slice_K (xs := ([] : List Int)) (Nat.le_refl _) (nilRow _ _), slice_K (Nat.le_refl _) (k3_lit l hl hr)⟩
  globals := one_row (cs := [.int .i64 b, .int .i64 0]) S.g6 rfl ⟨[_], [_], rfl, rfl, rfl⟩
  data := nilRow _ _
  l1 := Nat.le_refl _
  l2 := Nat.le_refl _
  l3 := Nat.le_refl _
  l4 := Nat.le_refl _
  l5 := Nat.le_refl _
end
theorem can_mS {a b : Int} (ha : Can a) (hb : Can b) (tr : Bool) (sg : Int) (l : List T3) (hl : ∀ x ∈ l, -9223372036854775808 ≤ x.2.1 ∧ x.2.1 < 9223372036854775808) : MCan (mS a b tr sg l) := by
  refine ⟨fun g hg => ?_, fun f hf => ?_, fun g hg => ?_⟩
  · have hg : g = ([a, b], []) ∨ g = ([a], [b]) := by simpa [mS] using hg
    rcases hg with rfl | rfl
    · exact ⟨fun t ht => (by have ht : t = a ∨ t = b := by simpa using ht
                             rcases ht with rfl | rfl <;> assumption), fun t ht => (by cases ht)⟩
    · exact ⟨fun t ht => (by rcases List.mem_singleton.1 ht with rfl; exact ha), fun t ht => (by rcases List.mem_singleton.1 ht with rfl; exact hb)⟩
  · rcases List.mem_singleton.1 hf with rfl
    exact ⟨fun t ht => (by cases ht), hl⟩
  · rcases List.mem_singleton.1 hg with rfl
    exact hb
/-- what is so of the four modules -/
theorem secret_plain {a b : Int} (ha : right a = true) (hb : right b = true) (tr : Bool) :
    (validT (mS a b tr 0 [(32, 0, 0), (33, 1, 0), (11, 0, 0)])).isNone = flows a b ∧ (validT (mS a b tr 0 [(32, 0, 0), (36, 0, 0), (11, 0, 0)])).isNone = flows a b ∧ (validT (mS a b tr 1 [(32, 0, 0), (11, 0, 0)])).isNone = flows a b ∧ (validT (mS a b tr 1 [(32, 0, 0), (241, 0, 0), (11, 0, 0)])).isNone = (tr && (wide a == wide b)) := by
  rcases right_four ha with rfl | rfl | rfl | rfl <;> rcases right_four hb with rfl | rfl | rfl | rfl <;> cases tr <;> exact ⟨by kernel_rfl, by kernel_rfl, by kernel_rfl, by kernel_rfl⟩
set_option maxHeartbeats 16000000 in
set_option maxRecDepth 100000 in
theorem secret_walk (a b : Int) (tr : Bool) (w : World) (hl : Laid w) (ha : right a = true) (hb : right b = true) : Calls Tryd.prog 8 #[.int .i64 a, .int .i64 b, .bool tr] w fun e w' => e = .returned (.bool true) ∧ Below w.heap.size w w' := by
  have HL := Aside0.mk hl
  have hca := Aside0.mk (right_can ha)
  have hcb := Aside0.mk (right_can hb)
  have HA := Aside0.mk ha
  have HB := Aside0.mk hb
  have HPL := secret_plain ha hb tr
  obtain ⟨fl, hfl⟩ : ∃ f, flows a b = f := ⟨_, rfl⟩
  obtain ⟨wa, hwa⟩ : ∃ f, wide a = f := ⟨_, rfl⟩
  obtain ⟨wb, hwb⟩ : ∃ f, wide b = f := ⟨_, rfl⟩
  rw [hfl, hwa, hwb] at HPL
  have HFL := Aside0.mk hfl
  have HWA := Aside0.mk hwa
  have HWB := Aside0.mk hwb
  have HP0 := Aside0.mk HPL.1
  have HP1 := Aside0.mk HPL.2.1
  have HP2 := Aside0.mk HPL.2.2.1
  obtain ⟨dd, hdd⟩ : ∃ d, (tr && (wa == wb)) = d := ⟨_, rfl⟩
  have HP3 := Aside0.mk HPL.2.2.2
  rw [hdd] at HP3
  have HC0 := Aside0.mk (can_mS (right_can ha) (right_can hb) tr 0 [(32, 0, 0), (33, 1, 0), (11, 0, 0)] (by decide))
  have HC1 := Aside0.mk (can_mS (right_can ha) (right_can hb) tr 0 [(32, 0, 0), (36, 0, 0), (11, 0, 0)] (by decide))
  have HC2 := Aside0.mk (can_mS (right_can ha) (right_can hb) tr 1 [(32, 0, 0), (11, 0, 0)] (by decide))
  have HC3 := Aside0.mk (can_mS (right_can ha) (right_can hb) tr 1 [(32, 0, 0), (241, 0, 0), (11, 0, 0)] (by decide))
  clear hl ha hb HPL hfl hwa hwb
  go_enter Tryd.func8, Tryd.ntmps8
  go_wp2_with fail
  refine (examples_calls w HL.out).mono ?_
  rintro e w1 ⟨rfl, hb1⟩
  have HB1 := Aside0.mk hb1
  clear hb1
  go_upto_region 7 with (first | (go_at_call 19; refine (right_calls a _ hca.out).mono ?_; rw [HA.out]; rintro e wq ⟨rfl, hwq⟩; subst wq) | (go_at_call 19; refine (right_calls b _ hcb.out).mono ?_; rw [HB.out]; rintro e wq ⟨rfl, hwq⟩; subst wq))
  obtain ⟨W0, hW0⟩ : ∃ W, W = ((((((((w1.alloc (.cells #[.int .i64 32, .int .i64 0, .int .i64 0] 45)).alloc (.cells #[.int .i64 11, .int .i64 0, .int .i64 0] 45)).alloc (.cells #[.int .i64 a, .int .i64 b] 3)).alloc (.cells #[.int .i64 a] 3)).alloc (.cells #[.int .i64 b] 3)).alloc (.cells #[.slice (some ⟨w1.heap.size + 1 + 1, 0, none⟩) 2 2, .slice none 0 0, .slice (some ⟨w1.heap.size + 1 + 1 + 1, 0, none⟩) 1 1, .slice (some ⟨w1.heap.size + 1 + 1 + 1 + 1, 0, none⟩) 1 1] 32)).alloc (.cells #[.int .i64 b, .int .i64 0] 57)).alloc (.cells #[.slice (some ⟨w1.heap.size + 1 + 1 + 1 + 1 + 1, 0, none⟩) 2 2, .slice none 0 0, .slice none 0 0, .int .i64 0, .int .i64 0, .slice (some ⟨w1.heap.size + 1 + 1 + 1 + 1 + 1 + 1, 0, none⟩) 1 1, .slice none 0 0] 29)) := ⟨_, rfl⟩
  rw [← hW0]
  obtain ⟨g, hg⟩ : ∃ g, g = w1.heap.size := ⟨_, rfl⟩
  have HS0 := Aside0.mk (show Sec W0 w1.heap.size a b (.slice none 0 0) from by
    rw [hW0]
    exact ⟨(blk_alloc (blk_alloc (blk_alloc (blk_alloc (blk_alloc (blk_alloc (blk_alloc (by simpa using blk_new w1 (.cells #[.int .i64 32, .int .i64 0, .int .i64 0] 45)) _) _) _) _) _) _) _),
    (blk_alloc (blk_alloc (blk_alloc (blk_alloc (blk_alloc (blk_alloc (by simpa using blk_new (w1.alloc (.cells #[.int .i64 32, .int .i64 0, .int .i64 0] 45)) (.cells #[.int .i64 11, .int .i64 0, .int .i64 0] 45)) _) _) _) _) _) _),
    (blk_alloc (blk_alloc (blk_alloc (blk_alloc (blk_alloc (by simpa using blk_new ((w1.alloc (.cells #[.int .i64 32, .int .i64 0, .int .i64 0] 45)).alloc (.cells #[.int .i64 11, .int .i64 0, .int .i64 0] 45)) (.cells #[.int .i64 a, .int .i64 b] 3)) _) _) _) _) _),
    (blk_alloc (blk_alloc (blk_alloc (blk_alloc (by simpa using blk_new (((w1.alloc (.cells #[.int .i64 32, .int .i64 0, .int .i64 0] 45)).alloc (.cells #[.int .i64 11, .int .i64 0, .int .i64 0] 45)).alloc (.cells #[.int .i64 a, .int .i64 b] 3)) (.cells #[.int .i64 a] 3)) _) _) _) _),
    (blk_alloc (blk_alloc (blk_alloc (by simpa using blk_new ((((w1.alloc (.cells #[.int .i64 32, .int .i64 0, .int .i64 0] 45)).alloc (.cells #[.int .i64 11, .int .i64 0, .int .i64 0] 45)).alloc (.cells #[.int .i64 a, .int .i64 b] 3)).alloc (.cells #[.int .i64 a] 3)) (.cells #[.int .i64 b] 3)) _) _) _),
    (blk_alloc (blk_alloc (by simpa using blk_new (((((w1.alloc (.cells #[.int .i64 32, .int .i64 0, .int .i64 0] 45)).alloc (.cells #[.int .i64 11, .int .i64 0, .int .i64 0] 45)).alloc (.cells #[.int .i64 a, .int .i64 b] 3)).alloc (.cells #[.int .i64 a] 3)).alloc (.cells #[.int .i64 b] 3)) (.cells #[.slice (some ⟨w1.heap.size + 1 + 1, 0, none⟩) 2 2, .slice none 0 0, .slice (some ⟨w1.heap.size + 1 + 1 + 1, 0, none⟩) 1 1, .slice (some ⟨w1.heap.size + 1 + 1 + 1 + 1, 0, none⟩) 1 1] 32)) _) _),
    (blk_alloc (by simpa using blk_new ((((((w1.alloc (.cells #[.int .i64 32, .int .i64 0, .int .i64 0] 45)).alloc (.cells #[.int .i64 11, .int .i64 0, .int .i64 0] 45)).alloc (.cells #[.int .i64 a, .int .i64 b] 3)).alloc (.cells #[.int .i64 a] 3)).alloc (.cells #[.int .i64 b] 3)).alloc (.cells #[.slice (some ⟨w1.heap.size + 1 + 1, 0, none⟩) 2 2, .slice none 0 0, .slice (some ⟨w1.heap.size + 1 + 1 + 1, 0, none⟩) 1 1, .slice (some ⟨w1.heap.size + 1 + 1 + 1 + 1, 0, none⟩) 1 1] 32)) (.cells #[.int .i64 b, .int .i64 0] 57)) _),
    (by simpa using blk_new (((((((w1.alloc (.cells #[.int .i64 32, .int .i64 0, .int .i64 0] 45)).alloc (.cells #[.int .i64 11, .int .i64 0, .int .i64 0] 45)).alloc (.cells #[.int .i64 a, .int .i64 b] 3)).alloc (.cells #[.int .i64 a] 3)).alloc (.cells #[.int .i64 b] 3)).alloc (.cells #[.slice (some ⟨w1.heap.size + 1 + 1, 0, none⟩) 2 2, .slice none 0 0, .slice (some ⟨w1.heap.size + 1 + 1 + 1, 0, none⟩) 1 1, .slice (some ⟨w1.heap.size + 1 + 1 + 1 + 1, 0, none⟩) 1 1] 32)).alloc (.cells #[.int .i64 b, .int .i64 0] 57)) (.cells #[.slice (some ⟨w1.heap.size + 1 + 1 + 1 + 1 + 1, 0, none⟩) 2 2, .slice none 0 0, .slice none 0 0, .int .i64 0, .int .i64 0, .slice (some ⟨w1.heap.size + 1 + 1 + 1 + 1 + 1 + 1, 0, none⟩) 1 1, .slice none 0 0] 29))⟩)
  have HX0 := Aside0.mk (show Below w.heap.size w W0 from by
    rw [hW0]
    have h0 := HB1.out
    have h1 := h0.alloc h0.size (.cells #[.int .i64 32, .int .i64 0, .int .i64 0] 45)
    have h2 := h1.alloc h1.size (.cells #[.int .i64 11, .int .i64 0, .int .i64 0] 45)
    have h3 := h2.alloc h2.size (.cells #[.int .i64 a, .int .i64 b] 3)
    have h4 := h3.alloc h3.size (.cells #[.int .i64 a] 3)
    have h5 := h4.alloc h4.size (.cells #[.int .i64 b] 3)
    have h6 := h5.alloc h5.size (.cells #[.slice (some ⟨w1.heap.size + 1 + 1, 0, none⟩) 2 2, .slice none 0 0, .slice (some ⟨w1.heap.size + 1 + 1 + 1, 0, none⟩) 1 1, .slice (some ⟨w1.heap.size + 1 + 1 + 1 + 1, 0, none⟩) 1 1] 32)
    have h7 := h6.alloc h6.size (.cells #[.int .i64 b, .int .i64 0] 57)
    have h8 := h7.alloc h7.size (.cells #[.slice (some ⟨w1.heap.size + 1 + 1 + 1 + 1 + 1, 0, none⟩) 2 2, .slice none 0 0, .slice none 0 0, .int .i64 0, .int .i64 0, .slice (some ⟨w1.heap.size + 1 + 1 + 1 + 1 + 1 + 1, 0, none⟩) 1 1, .slice none 0 0] 29)
    exact h8)
  have hgw := Aside0.mk (show w.heap.size ≤ g from by rw [hg]; exact HB1.out.size)
  rw [← hg] at HS0 ⊢
  clear hW0 hg
  rcases fl with _ | _ <;> rcases dd with _ | _
  all_goals
    have ha0 := blk_cell HS0.out.g0 0
    have ha1 := blk_cell HS0.out.g0 1
    have ha2 := blk_cell HS0.out.g0 2
    have hb0 := blk_cell HS0.out.g1 0
    have hb1 := blk_cell HS0.out.g1 1
    have hb2 := blk_cell HS0.out.g1 2
    have hSa := HS0.out.below (below_alloc (Below.refl _ _) (Nat.le_refl _) (.cells #[.int .i64 32, .int .i64 0, .int .i64 0, .int .i64 33, .int .i64 1, .int .i64 0, .int .i64 11, .int .i64 0, .int .i64 0] 45))
    have hSb := hSa.below (below_alloc (Below.refl _ _) (Nat.le_refl _) (.cells #[.int .i64 0, .bool tr, .slice none 0 0, .slice (some ⟨W0.heap.size, 0, none⟩) 3 3] 43))
    have hmc := blk_cell hSb.g7 2
    have hmz := blk_frozen hSb.g7 2
    have hgl := blk_lt HS0.out.g7
    clear hSa hSb
    go_upto_region 8 with (fail)
    obtain ⟨V0, hV0⟩ : ∃ V, V = (((W0.alloc (.cells #[.int .i64 32, .int .i64 0, .int .i64 0, .int .i64 33, .int .i64 1, .int .i64 0, .int .i64 11, .int .i64 0, .int .i64 0] 45)).alloc (.cells #[.int .i64 0, .bool tr, .slice none 0 0, .slice (some ⟨W0.heap.size, 0, none⟩) 3 3] 43)).setCell ⟨g + 1 + 1 + 1 + 1 + 1 + 1 + 1, 2, none⟩ (.slice (some ⟨W0.heap.size + 1, 0, none⟩) 1 1)) := ⟨_, rfl⟩
    rw [← hV0]
    have HT0 := Aside0.mk (show Sec V0 g a b (.slice (some ⟨W0.heap.size + 1, 0, none⟩) 1 1) from by
      rw [hV0]
      exact ((HS0.out.below (below_alloc (Below.refl _ _) (Nat.le_refl _) (.cells #[.int .i64 32, .int .i64 0, .int .i64 0, .int .i64 33, .int .i64 1, .int .i64 0, .int .i64 11, .int .i64 0, .int .i64 0] 45))).below (below_alloc (Below.refl _ _) (Nat.le_refl _) (.cells #[.int .i64 0, .bool tr, .slice none 0 0, .slice (some ⟨W0.heap.size, 0, none⟩) 3 3] 43))).put (.slice (some ⟨W0.heap.size + 1, 0, none⟩) 1 1))
    have HN0 := Aside0.mk (show Below w.heap.size w V0 from by
      rw [hV0]
      have h0 := HX0.out
      exact ((h0.alloc h0.size _).alloc (h0.alloc h0.size _).size _).setCell (p := ⟨g + 1 + 1 + 1 + 1 + 1 + 1 + 1, 2, none⟩) (by show w.heap.size ≤ g + 1 + 1 + 1 + 1 + 1 + 1 + 1; have := hgw.out; omega) (.slice (some ⟨W0.heap.size + 1, 0, none⟩) 1 1))
    have HM0 := Aside0.mk (show ModAt V0 ⟨some ⟨g + 1 + 1 + 1 + 1 + 1, 0, none⟩, none, some ⟨W0.heap.size + 1, 0, none⟩, some ⟨g + 1 + 1 + 1 + 1 + 1 + 1, 0, none⟩, none, 2, 0, 1, 1, 0⟩ (mS a b tr 0 [(32, 0, 0), (33, 1, 0), (11, 0, 0)]) from by
      refine HT0.out.mod (r := W0.heap.size) (by decide) ?_ ?_
      · rw [hV0]
        exact blk_far (by simpa using blk_new (W0.alloc (.cells #[.int .i64 32, .int .i64 0, .int .i64 0, .int .i64 33, .int .i64 1, .int .i64 0, .int .i64 11, .int .i64 0, .int .i64 0] 45)) (.cells #[.int .i64 0, .bool tr, .slice none 0 0, .slice (some ⟨W0.heap.size, 0, none⟩) 3 3] 43)) (by show W0.heap.size + 1 ≠ g + 1 + 1 + 1 + 1 + 1 + 1 + 1; omega) _
      · rw [hV0]
        exact blk_far (blk_alloc (blk_new W0 (.cells #[.int .i64 32, .int .i64 0, .int .i64 0, .int .i64 33, .int .i64 1, .int .i64 0, .int .i64 11, .int .i64 0, .int .i64 0] 45)) _) (by show W0.heap.size ≠ g + 1 + 1 + 1 + 1 + 1 + 1 + 1; omega) _)
    clear hV0 ha0 ha1 ha2 hb0 hb1 hb2 hmc hmz hgl
    have hm0 := blk_cell HT0.out.g7 0
    have hm1 := blk_cell HT0.out.g7 1
    have hm2 := blk_cell HT0.out.g7 2
    have hm3 := blk_cell HT0.out.g7 3
    have hm4 := blk_cell HT0.out.g7 4
    have hm5 := blk_cell HT0.out.g7 5
    have hm6 := blk_cell HT0.out.g7 6
    go_wp2_with fail
    refine (valid_is (M := mS a b tr 0 [(32, 0, 0), (33, 1, 0), (11, 0, 0)]) HM0 HC0 HP0).mono ?_
    rintro e W1 ⟨hbl, v0, rfl, hv0⟩
    have HS1 := Aside0.mk (HT0.out.below hbl)
    have HX1 := Aside0.mk (HN0.out.trans (hbl.mono HN0.out.size))
    clear hbl hm0 hm1 hm2 hm3 hm4 hm5 hm6 HT0 HN0 HM0 HS0 HX0
    first | (have hvn : v0 = .nilIface := hv0; subst hvn) | (obtain ⟨q0, hvn⟩ : ∃ q, v0 = fErr q := hv0; subst hvn)
    have ha0 := blk_cell HS1.out.g0 0
    have ha1 := blk_cell HS1.out.g0 1
    have ha2 := blk_cell HS1.out.g0 2
    have hb0 := blk_cell HS1.out.g1 0
    have hb1 := blk_cell HS1.out.g1 1
    have hb2 := blk_cell HS1.out.g1 2
    have hSa := HS1.out.below (below_alloc (Below.refl _ _) (Nat.le_refl _) (.cells #[.int .i64 32, .int .i64 0, .int .i64 0, .int .i64 36, .int .i64 0, .int .i64 0, .int .i64 11, .int .i64 0, .int .i64 0] 45))
    have hSb := hSa.below (below_alloc (Below.refl _ _) (Nat.le_refl _) (.cells #[.int .i64 0, .bool tr, .slice none 0 0, .slice (some ⟨W1.heap.size, 0, none⟩) 3 3] 43))
    have hmc := blk_cell hSb.g7 2
    have hmz := blk_frozen hSb.g7 2
    have hgl := blk_lt HS1.out.g7
    clear hSa hSb
    go_upto_region 10 with (fail)
    obtain ⟨V1, hV1⟩ : ∃ V, V = (((W1.alloc (.cells #[.int .i64 32, .int .i64 0, .int .i64 0, .int .i64 36, .int .i64 0, .int .i64 0, .int .i64 11, .int .i64 0, .int .i64 0] 45)).alloc (.cells #[.int .i64 0, .bool tr, .slice none 0 0, .slice (some ⟨W1.heap.size, 0, none⟩) 3 3] 43)).setCell ⟨g + 1 + 1 + 1 + 1 + 1 + 1 + 1, 2, none⟩ (.slice (some ⟨W1.heap.size + 1, 0, none⟩) 1 1)) := ⟨_, rfl⟩
    rw [← hV1]
    have HT1 := Aside0.mk (show Sec V1 g a b (.slice (some ⟨W1.heap.size + 1, 0, none⟩) 1 1) from by
      rw [hV1]
      exact ((HS1.out.below (below_alloc (Below.refl _ _) (Nat.le_refl _) (.cells #[.int .i64 32, .int .i64 0, .int .i64 0, .int .i64 36, .int .i64 0, .int .i64 0, .int .i64 11, .int .i64 0, .int .i64 0] 45))).below (below_alloc (Below.refl _ _) (Nat.le_refl _) (.cells #[.int .i64 0, .bool tr, .slice none 0 0, .slice (some ⟨W1.heap.size, 0, none⟩) 3 3] 43))).put (.slice (some ⟨W1.heap.size + 1, 0, none⟩) 1 1))
    have HN1 := Aside0.mk (show Below w.heap.size w V1 from by
      rw [hV1]
      have h0 := HX1.out
      exact ((h0.alloc h0.size _).alloc (h0.alloc h0.size _).size _).setCell (p := ⟨g + 1 + 1 + 1 + 1 + 1 + 1 + 1, 2, none⟩) (by show w.heap.size ≤ g + 1 + 1 + 1 + 1 + 1 + 1 + 1; have := hgw.out; omega) (.slice (some ⟨W1.heap.size + 1, 0, none⟩) 1 1))
    have HM1 := Aside0.mk (show ModAt V1 ⟨some ⟨g + 1 + 1 + 1 + 1 + 1, 0, none⟩, none, some ⟨W1.heap.size + 1, 0, none⟩, some ⟨g + 1 + 1 + 1 + 1 + 1 + 1, 0, none⟩, none, 2, 0, 1, 1, 0⟩ (mS a b tr 0 [(32, 0, 0), (36, 0, 0), (11, 0, 0)]) from by
      refine HT1.out.mod (r := W1.heap.size) (by decide) ?_ ?_
      · rw [hV1]
        exact blk_far (by simpa using blk_new (W1.alloc (.cells #[.int .i64 32, .int .i64 0, .int .i64 0, .int .i64 36, .int .i64 0, .int .i64 0, .int .i64 11, .int .i64 0, .int .i64 0] 45)) (.cells #[.int .i64 0, .bool tr, .slice none 0 0, .slice (some ⟨W1.heap.size, 0, none⟩) 3 3] 43)) (by show W1.heap.size + 1 ≠ g + 1 + 1 + 1 + 1 + 1 + 1 + 1; omega) _
      · rw [hV1]
        exact blk_far (blk_alloc (blk_new W1 (.cells #[.int .i64 32, .int .i64 0, .int .i64 0, .int .i64 36, .int .i64 0, .int .i64 0, .int .i64 11, .int .i64 0, .int .i64 0] 45)) _) (by show W1.heap.size ≠ g + 1 + 1 + 1 + 1 + 1 + 1 + 1; omega) _)
    clear hV1 ha0 ha1 ha2 hb0 hb1 hb2 hmc hmz hgl
    have hm0 := blk_cell HT1.out.g7 0
    have hm1 := blk_cell HT1.out.g7 1
    have hm2 := blk_cell HT1.out.g7 2
    have hm3 := blk_cell HT1.out.g7 3
    have hm4 := blk_cell HT1.out.g7 4
    have hm5 := blk_cell HT1.out.g7 5
    have hm6 := blk_cell HT1.out.g7 6
    go_wp2_with fail
    refine (valid_is (M := mS a b tr 0 [(32, 0, 0), (36, 0, 0), (11, 0, 0)]) HM1 HC1 HP1).mono ?_
    rintro e W2 ⟨hbl, v1, rfl, hv1⟩
    have HS2 := Aside0.mk (HT1.out.below hbl)
    have HX2 := Aside0.mk (HN1.out.trans (hbl.mono HN1.out.size))
    clear hbl hm0 hm1 hm2 hm3 hm4 hm5 hm6 HT1 HN1 HM1 HS1 HX1
    first | (have hvn : v1 = .nilIface := hv1; subst hvn) | (obtain ⟨q1, hvn⟩ : ∃ q, v1 = fErr q := hv1; subst hvn)
    have ha0 := blk_cell HS2.out.g0 0
    have ha1 := blk_cell HS2.out.g0 1
    have ha2 := blk_cell HS2.out.g0 2
    have hb0 := blk_cell HS2.out.g1 0
    have hb1 := blk_cell HS2.out.g1 1
    have hb2 := blk_cell HS2.out.g1 2
    have hSa := HS2.out.below (below_alloc (Below.refl _ _) (Nat.le_refl _) (.cells #[.int .i64 32, .int .i64 0, .int .i64 0, .int .i64 11, .int .i64 0, .int .i64 0] 45))
    have hSb := hSa.below (below_alloc (Below.refl _ _) (Nat.le_refl _) (.cells #[.int .i64 1, .bool tr, .slice none 0 0, .slice (some ⟨W2.heap.size, 0, none⟩) 2 2] 43))
    have hmc := blk_cell hSb.g7 2
    have hmz := blk_frozen hSb.g7 2
    have hgl := blk_lt HS2.out.g7
    clear hSa hSb
    go_upto_region 12 with (fail)
    obtain ⟨V2, hV2⟩ : ∃ V, V = (((W2.alloc (.cells #[.int .i64 32, .int .i64 0, .int .i64 0, .int .i64 11, .int .i64 0, .int .i64 0] 45)).alloc (.cells #[.int .i64 1, .bool tr, .slice none 0 0, .slice (some ⟨W2.heap.size, 0, none⟩) 2 2] 43)).setCell ⟨g + 1 + 1 + 1 + 1 + 1 + 1 + 1, 2, none⟩ (.slice (some ⟨W2.heap.size + 1, 0, none⟩) 1 1)) := ⟨_, rfl⟩
    rw [← hV2]
    have HT2 := Aside0.mk (show Sec V2 g a b (.slice (some ⟨W2.heap.size + 1, 0, none⟩) 1 1) from by
      rw [hV2]
      exact ((HS2.out.below (below_alloc (Below.refl _ _) (Nat.le_refl _) (.cells #[.int .i64 32, .int .i64 0, .int .i64 0, .int .i64 11, .int .i64 0, .int .i64 0] 45))).below (below_alloc (Below.refl _ _) (Nat.le_refl _) (.cells #[.int .i64 1, .bool tr, .slice none 0 0, .slice (some ⟨W2.heap.size, 0, none⟩) 2 2] 43))).put (.slice (some ⟨W2.heap.size + 1, 0, none⟩) 1 1))
    have HN2 := Aside0.mk (show Below w.heap.size w V2 from by
      rw [hV2]
      have h0 := HX2.out
      exact ((h0.alloc h0.size _).alloc (h0.alloc h0.size _).size _).setCell (p := ⟨g + 1 + 1 + 1 + 1 + 1 + 1 + 1, 2, none⟩) (by show w.heap.size ≤ g + 1 + 1 + 1 + 1 + 1 + 1 + 1; have := hgw.out; omega) (.slice (some ⟨W2.heap.size + 1, 0, none⟩) 1 1))
    have HM2 := Aside0.mk (show ModAt V2 ⟨some ⟨g + 1 + 1 + 1 + 1 + 1, 0, none⟩, none, some ⟨W2.heap.size + 1, 0, none⟩, some ⟨g + 1 + 1 + 1 + 1 + 1 + 1, 0, none⟩, none, 2, 0, 1, 1, 0⟩ (mS a b tr 1 [(32, 0, 0), (11, 0, 0)]) from by
      refine HT2.out.mod (r := W2.heap.size) (by decide) ?_ ?_
      · rw [hV2]
        exact blk_far (by simpa using blk_new (W2.alloc (.cells #[.int .i64 32, .int .i64 0, .int .i64 0, .int .i64 11, .int .i64 0, .int .i64 0] 45)) (.cells #[.int .i64 1, .bool tr, .slice none 0 0, .slice (some ⟨W2.heap.size, 0, none⟩) 2 2] 43)) (by show W2.heap.size + 1 ≠ g + 1 + 1 + 1 + 1 + 1 + 1 + 1; omega) _
      · rw [hV2]
        exact blk_far (blk_alloc (blk_new W2 (.cells #[.int .i64 32, .int .i64 0, .int .i64 0, .int .i64 11, .int .i64 0, .int .i64 0] 45)) _) (by show W2.heap.size ≠ g + 1 + 1 + 1 + 1 + 1 + 1 + 1; omega) _)
    clear hV2 ha0 ha1 ha2 hb0 hb1 hb2 hmc hmz hgl
    have hm0 := blk_cell HT2.out.g7 0
    have hm1 := blk_cell HT2.out.g7 1
    have hm2 := blk_cell HT2.out.g7 2
    have hm3 := blk_cell HT2.out.g7 3
    have hm4 := blk_cell HT2.out.g7 4
    have hm5 := blk_cell HT2.out.g7 5
    have hm6 := blk_cell HT2.out.g7 6
    go_wp2_with fail
    refine (valid_is (M := mS a b tr 1 [(32, 0, 0), (11, 0, 0)]) HM2 HC2 HP2).mono ?_
    rintro e W3 ⟨hbl, v2, rfl, hv2⟩
    have HS3 := Aside0.mk (HT2.out.below hbl)
    have HX3 := Aside0.mk (HN2.out.trans (hbl.mono HN2.out.size))
    clear hbl hm0 hm1 hm2 hm3 hm4 hm5 hm6 HT2 HN2 HM2 HS2 HX2
    first | (have hvn : v2 = .nilIface := hv2; subst hvn) | (obtain ⟨q2, hvn⟩ : ∃ q, v2 = fErr q := hv2; subst hvn)
    have ha0 := blk_cell HS3.out.g0 0
    have ha1 := blk_cell HS3.out.g0 1
    have ha2 := blk_cell HS3.out.g0 2
    have hb0 := blk_cell HS3.out.g1 0
    have hb1 := blk_cell HS3.out.g1 1
    have hb2 := blk_cell HS3.out.g1 2
    have hSa := HS3.out.below (below_alloc (Below.refl _ _) (Nat.le_refl _) (.cells #[.int .i64 32, .int .i64 0, .int .i64 0, .int .i64 241, .int .i64 0, .int .i64 0, .int .i64 11, .int .i64 0, .int .i64 0] 45))
    have hSb := hSa.below (below_alloc (Below.refl _ _) (Nat.le_refl _) (.cells #[.int .i64 1, .bool tr, .slice none 0 0, .slice (some ⟨W3.heap.size, 0, none⟩) 3 3] 43))
    have hmc := blk_cell hSb.g7 2
    have hmz := blk_frozen hSb.g7 2
    have hgl := blk_lt HS3.out.g7
    clear hSa hSb
    go_upto_region 14 with (fail)
    obtain ⟨V3, hV3⟩ : ∃ V, V = (((W3.alloc (.cells #[.int .i64 32, .int .i64 0, .int .i64 0, .int .i64 241, .int .i64 0, .int .i64 0, .int .i64 11, .int .i64 0, .int .i64 0] 45)).alloc (.cells #[.int .i64 1, .bool tr, .slice none 0 0, .slice (some ⟨W3.heap.size, 0, none⟩) 3 3] 43)).setCell ⟨g + 1 + 1 + 1 + 1 + 1 + 1 + 1, 2, none⟩ (.slice (some ⟨W3.heap.size + 1, 0, none⟩) 1 1)) := ⟨_, rfl⟩
    rw [← hV3]
    have HT3 := Aside0.mk (show Sec V3 g a b (.slice (some ⟨W3.heap.size + 1, 0, none⟩) 1 1) from by
      rw [hV3]
      exact ((HS3.out.below (below_alloc (Below.refl _ _) (Nat.le_refl _) (.cells #[.int .i64 32, .int .i64 0, .int .i64 0, .int .i64 241, .int .i64 0, .int .i64 0, .int .i64 11, .int .i64 0, .int .i64 0] 45))).below (below_alloc (Below.refl _ _) (Nat.le_refl _) (.cells #[.int .i64 1, .bool tr, .slice none 0 0, .slice (some ⟨W3.heap.size, 0, none⟩) 3 3] 43))).put (.slice (some ⟨W3.heap.size + 1, 0, none⟩) 1 1))
    have HN3 := Aside0.mk (show Below w.heap.size w V3 from by
      rw [hV3]
      have h0 := HX3.out
      exact ((h0.alloc h0.size _).alloc (h0.alloc h0.size _).size _).setCell (p := ⟨g + 1 + 1 + 1 + 1 + 1 + 1 + 1, 2, none⟩) (by show w.heap.size ≤ g + 1 + 1 + 1 + 1 + 1 + 1 + 1; have := hgw.out; omega) (.slice (some ⟨W3.heap.size + 1, 0, none⟩) 1 1))
    have HM3 := Aside0.mk (show ModAt V3 ⟨some ⟨g + 1 + 1 + 1 + 1 + 1, 0, none⟩, none, some ⟨W3.heap.size + 1, 0, none⟩, some ⟨g + 1 + 1 + 1 + 1 + 1 + 1, 0, none⟩, none, 2, 0, 1, 1, 0⟩ (mS a b tr 1 [(32, 0, 0), (241, 0, 0), (11, 0, 0)]) from by
      refine HT3.out.mod (r := W3.heap.size) (by decide) ?_ ?_
      · rw [hV3]
        exact blk_far (by simpa using blk_new (W3.alloc (.cells #[.int .i64 32, .int .i64 0, .int .i64 0, .int .i64 241, .int .i64 0, .int .i64 0, .int .i64 11, .int .i64 0, .int .i64 0] 45)) (.cells #[.int .i64 1, .bool tr, .slice none 0 0, .slice (some ⟨W3.heap.size, 0, none⟩) 3 3] 43)) (by show W3.heap.size + 1 ≠ g + 1 + 1 + 1 + 1 + 1 + 1 + 1; omega) _
      · rw [hV3]
        exact blk_far (blk_alloc (blk_new W3 (.cells #[.int .i64 32, .int .i64 0, .int .i64 0, .int .i64 241, .int .i64 0, .int .i64 0, .int .i64 11, .int .i64 0, .int .i64 0] 45)) _) (by show W3.heap.size ≠ g + 1 + 1 + 1 + 1 + 1 + 1 + 1; omega) _)
    clear hV3 ha0 ha1 ha2 hb0 hb1 hb2 hmc hmz hgl
    have hm0 := blk_cell HT3.out.g7 0
    have hm1 := blk_cell HT3.out.g7 1
    have hm2 := blk_cell HT3.out.g7 2
    have hm3 := blk_cell HT3.out.g7 3
    have hm4 := blk_cell HT3.out.g7 4
    have hm5 := blk_cell HT3.out.g7 5
    have hm6 := blk_cell HT3.out.g7 6
    go_wp2_with fail
    refine (valid_is (M := mS a b tr 1 [(32, 0, 0), (241, 0, 0), (11, 0, 0)]) HM3 HC3 HP3).mono ?_
    rintro e W4 ⟨hbl, v3, rfl, hv3⟩
    have HS4 := Aside0.mk (HT3.out.below hbl)
    have HX4 := Aside0.mk (HN3.out.trans (hbl.mono HN3.out.size))
    clear hbl hm0 hm1 hm2 hm3 hm4 hm5 hm6 HT3 HN3 HM3 HS3 HX3
    first | (have hvn : v3 = .nilIface := hv3; subst hvn) | (obtain ⟨q3, hvn⟩ : ∃ q, v3 = fErr q := hv3; subst hvn)
    rcases tr with _ | _ <;> rcases wa with _ | _ <;> rcases wb with _ | _
    all_goals try (exact absurd hdd (by decide))
    all_goals
      go_wp2_with (first | (go_at_call 20; refine (flows_calls a b _ hca.out hcb.out).mono ?_; rw [HFL.out]; rintro e wq ⟨rfl, hwq⟩; subst wq) | (go_at_call 21; refine (wide_calls2 (by assumption) (by assumption) _).mono ?_; rintro e wq ⟨rfl, hwq⟩; subst wq))
      go_ret
      exact ⟨rfl, HX4.out⟩
    
end Go.Proofs.YtjjhhmchomabeaaDoor.Valid
namespace Go.Proofs.YtjjhhmchomabeaaDoor.ValidSecret
open Go.ChangeShapes Go.WideShapes Go.RowKit Go.Proofs.YtjjhhmchomabeaaDoorW.PrintWords Go.Proofs.YtjjhhmchomabeaaDoor.Valid
set_option linter.unusedVariables false
set_option linter.unusedSimpArgs false

set_option maxHeartbeats 4000000 in
set_option maxRecDepth 100000 in
theorem walk_a (a b : Int) (tr : Bool) (w : World) (hl : Laid w) (hca : Valid.Can a) (hcb : Valid.Can b) (ha : right a = false) : Calls Tryd.prog 8 #[.int .i64 a, .int .i64 b, .bool tr] w fun e w' => e = .returned (.bool true) ∧ Below w.heap.size w w' := by
  have HL := Aside0.mk hl
  have HA := Aside0.mk ha
  have HCA := Aside0.mk hca
  clear hl ha hca
  go_enter Tryd.func8, Tryd.ntmps8
  go_wp2_with fail
  refine (examples_calls w HL.out).mono ?_
  rintro e w1 ⟨rfl, hb1⟩
  have HB1 := Aside0.mk hb1
  clear hb1
  go_wp2_with (go_at_call 19; refine (right_calls a _ HCA.out).mono ?_; rw [HA.out]; rintro e wq ⟨rfl, hwq⟩; subst wq)
  go_ret
  exact ⟨rfl, HB1.out⟩
set_option maxHeartbeats 4000000 in
set_option maxRecDepth 100000 in
theorem walk_b (a b : Int) (tr : Bool) (w : World) (hl : Laid w) (hca : Valid.Can a) (hcb : Valid.Can b) (ha : right a = true) (hb : right b = false) : Calls Tryd.prog 8 #[.int .i64 a, .int .i64 b, .bool tr] w fun e w' => e = .returned (.bool true) ∧ Below w.heap.size w w' := by
  have HL := Aside0.mk hl
  have HA := Aside0.mk ha
  have HB := Aside0.mk hb
  have HCA := Aside0.mk hca
  have HCB := Aside0.mk hcb
  clear hl ha hb hca hcb
  go_enter Tryd.func8, Tryd.ntmps8
  go_wp2_with fail
  refine (examples_calls w HL.out).mono ?_
  rintro e w1 ⟨rfl, hb1⟩
  have HB1 := Aside0.mk hb1
  clear hb1
  go_wp2_with (first | (go_at_call 19; refine (right_calls a _ HCA.out).mono ?_; rw [HA.out]; rintro e wq ⟨rfl, hwq⟩; subst wq) | (go_at_call 19; refine (right_calls b _ HCB.out).mono ?_; rw [HB.out]; rintro e wq ⟨rfl, hwq⟩; subst wq))
  go_ret
  exact ⟨rfl, HB1.out⟩
theorem walk (a b : Int) (tr : Bool) (w : World) (hl : Laid w) (hca : Valid.Can a) (hcb : Valid.Can b) : Calls Tryd.prog 8 #[.int .i64 a, .int .i64 b, .bool tr] w fun e w' => e = .returned (.bool true) ∧ Below w.heap.size w w' := by
  cases ha : right a with
  | false => exact walk_a a b tr w hl hca hcb ha
  | true =>
    cases hb : right b with
    | false => exact walk_b a b tr w hl hca hcb ha hb
    | true => exact secret_walk a b tr w hl ha hb

/-! ### the row -/
theorem own : ownKnob Tryd.prog.godebug = none := by kernel_rfl
theorem et : Tryd.prog.globalNamed "errors.errorType" = some 0 := by kernel_rfl
theorem rt : (Tryd.prog.cutTypes.find? (·.1 == "internal/reflectlite.rtype")).map (·.2) = some 112 := by kernel_rfl
theorem oneRow : ((List.range 174).filter fun t => Tryd.prog.rowNamed t [101, 114, 114, 111, 114]) = [38] := by kernel_rfl
theorem size : Tryd.prog.types.size = 174 := by kernel_rfl
theorem handle_of_laid {W : World} (h : laidMetH Tryd.prog [("errors.errorType", Rows.laid_errors_errorType)] W) : Laid W := by
  have h' : laidMet Tryd.prog [] W ∧ handlesMet Tryd.prog [("errors.errorType", Rows.laid_errors_errorType)] W := h
  obtain ⟨name, u, ty, e1, e2, e3, e4, e5⟩ := h'.2 _ (List.mem_singleton.2 rfl)
  have en : name = [101, 114, 114, 111, 114] := (Option.some.inj e1).symm
  subst en
  obtain rfl := Option.some.inj (rt.symm.trans e2)
  have hm : ty ∈ (List.range 174).filter fun t => Tryd.prog.rowNamed t [101, 114, 114, 111, 114] := List.mem_filter.2 ⟨List.mem_range.2 (by rw [← size]; exact e3), e4⟩
  rw [oneRow] at hm
  obtain rfl := List.mem_singleton.1 hm
  have hh : typeHandle Tryd.prog 38 = .pointer (some ⟨1, 38, none⟩) := by kernel_rfl
  rw [hh] at e5
  unfold Laid
  simpa using World.var?_cell et e5 0
noncomputable def laidWorld (os : Os) : World :=
  let w0 := World.holding Tryd.prog os ⟨#[], #[], []⟩
  { w0 with heap := w0.heap.modify 0 fun
      | .cells _ t frozen => .cells #[.iface 112 (.agg #[.pointer (some ⟨1, 38, none⟩)])] t frozen
      | o => o }
theorem laidWorld_met (os : Os) (args : Array Value) : laidMetH Tryd.prog [("errors.errorType", Rows.laid_errors_errorType)] ((laidWorld os).forCall (fun _ _ => 0) ⟨#[], args, []⟩).memory :=
  laidMetH_of_parts (laidMet_nil _ _) (by kernel_rfl)
theorem can_wf {n : Int} (h : (Lit.int .i64 n).wf = true) : Valid.Can n := by
  simp [Lit.wf, IntKind.has, IntKind.min, IntKind.max, IntKind.bits, IntKind.signed] at h
  unfold Valid.Can
  omega
set_option maxRecDepth 100000 in
theorem lifted (os : Os) (started : os.Started) (H : Type) (enc : TypeId × Value → H) :
    ReturnsInHanded {} Tryd.checked os 8 .any (fun w args => (Rows.validSecretSpec.pre enc Tryd.prog Tryd.f8 [] false w args ∧ laidMetH Tryd.prog [("errors.errorType", Rows.laid_errors_errorType)] w) ∧ sizedMet enc Tryd.prog Tryd.f8 (OpenSpec.ofChange Rows.validSecretSpec) false w args)
      (Rows.validSecretSpec.post enc Tryd.prog Tryd.f8 false true false false) := by
  refine returnsInHanded_of_change_and (C := Tryd.checked) (X := fun w _ => laidMetH Tryd.prog [("errors.errorType", Rows.laid_errors_errorType)] w) (fun _ _ _ hh h => h.of_heap hh) own started (by kernel_rfl) Tryd.func8
    (ChangeSpec.witness_at (enc := enc) (C := Tryd.checked) (os := os) (X := fun w _ => laidMetH Tryd.prog [("errors.errorType", Rows.laid_errors_errorType)] w) false (laidWorld os) #[.int .i64 0, .int .i64 0, .bool false] 8 rfl (by kernel_rfl) (by kernel_rfl) (by kernel_rfl) (by kernel_rfl) (by kernel_rfl) (laidWorld_met os _)) ?_
  intro W base args ds gs before hval0 hW _ _ hL _
  have hval : ∀ (j : Nat) t v, Tryd.f8.params[j]? = some t → args[j]? = some v → Value.okWide Tryd.prog W .any base t v := hval0
  have hW' := hW
  obtain ⟨p, q, hA0, hV0, rfl, hfz, hnd⟩ := hW
  have hA : DataW.TrodAll enc Tryd.prog W 0 (fun _ => true) true Tryd.f8.params.toList args.toList ds p := hA0
  have hV : DataW.TrodVars enc Tryd.prog W (fun _ => true) [] gs q := hV0
  rw [Tryd.params8] at hA hval
  obtain ⟨v0, vs0, d0, ds0, p0, q0, hargs, rfl, rfl, h0, r0⟩ := trodAll_cons hA
  obtain ⟨v1, vs1, d1, ds1, p1, q1, rfl, rfl, rfl, h1, r1⟩ := trodAll_cons r0
  obtain ⟨v2, vs2, d2, ds2, p2, q2, rfl, rfl, rfl, h2, r2⟩ := trodAll_cons r1
  obtain ⟨rfl, rfl, rfl⟩ := trodAll_nil r2
  obtain rfl : args = #[v0, v1, v2] := by cases args; simp_all
  obtain ⟨a0, rfl, rfl, rfl, w0⟩ := open_int Tryd.underlying3 (hval 0 3 v0 rfl rfl) h0
  obtain ⟨a1, rfl, rfl, rfl, w1⟩ := open_int Tryd.underlying3 (hval 1 3 v1 rfl rfl) h1
  obtain ⟨a2, rfl, rfl, rfl⟩ := open_bool Tryd.underlying4 (hval 2 4 v2 rfl rfl) h2
  have hg := handle_of_laid hL
  obtain ⟨rfl, rfl⟩ : gs = [] ∧ q = [] := by
    cases gs with
    | nil => exact ⟨rfl, hV⟩
    | cons g r => exact absurd hV (by intro h; cases h)
  have e1 : Rows.validSecretSpec.fn H ([.lit (.int .i64 a0), .lit (.int .i64 a1), .lit (.bool a2)] ++ []) = { results := [.lit (.bool true)], args := [.lit (.int .i64 a0), .lit (.int .i64 a1), .lit (.bool a2)] } := by simp [Rows.validSecretSpec]
  refine (walk a0 a1 a2 W hg (can_wf w0) (can_wf w1)).mono fun e W' ⟨he, hw⟩ => ?_
  subst he
  refine ⟨_, rfl, _, _, _, [], [], [], hW', ?_, ?_, ?_, hw.frame _, fun h => by cases h⟩
  · rw [e1]; exact trodAll_mk1 (shut_bool Tryd.underlying4 true)
  · rw [e1]; exact trodAll_mk3 (shut_int Tryd.underlying3 w0) (shut_int Tryd.underlying3 w1) (shut_bool Tryd.underlying4 a2)
  · rw [e1]; rfl
theorem row_holds : Rows.ValidSecretSaid :=
  OpenClaim.holds_of_wide 8 Tryd.f8 rfl rfl rfl rfl rfl rfl rfl ⟨rfl, rfl, rfl, rfl, rfl⟩ rfl rfl rfl rfl rfl (by kernel_rfl) Tryd.func8 (by kernel_rfl)
    (of_decide_eq_true (by kernel_rfl)) (by unfold Func.isWrapper; rw [if_neg (of_decide_eq_false (by kernel_rfl))]; exact ⟨rfl, rfl⟩)
    (fun os started H enc _ => lifted os started H enc)
/-- ValidSecret, tied to the program's text. -/
theorem validSecret_holds : Rows.ValidSecretCardSaid :=
  Claim7.holds_tied_plain_at .later [] [.handle] true (true, "a375214d61d745cf21eebd2106e1b8edc3a89ab9356fe3b512f1620f8a12f14f") true
    row_holds (fun _ h => by cases h) (by kernel_rfl) (fun _ h => by cases h) validSecret_row_tie rfl ⟨rfl, rfl⟩ (by kernel_rfl) rfl
    (fun f fn hf hfn => by
      obtain rfl : f = 8 := Option.some.inj ((show Tryd.prog.funcNamed "oubliette/oubliettelaw07.ValidSecret" = some 8 by kernel_rfl).symm.trans hf) |>.symm
      obtain rfl : fn = Tryd.f8 := (Option.some.inj (Tryd.func8.symm.trans hfn)).symm
      exact ⟨by kernel_rfl, fun j t ht => by
        rw [Tryd.params8] at ht
        have h3 : t = 3 ∨ t = 4 := by
          rcases j with _ | _ | _ | j
          · exact .inl (by simpa using ht.symm)
          · exact .inl (by simpa using ht.symm)
          · exact .inr (by simpa using ht.symm)
          · simp at ht
        rcases h3 with rfl | rfl
        · exact (show Tryd.prog.wantsStandIn 3 = false by kernel_rfl)
        · exact (show Tryd.prog.wantsStandIn 4 = false by kernel_rfl)⟩)
    (by kernel_rfl)
#print axioms validSecret_holds
end Go.Proofs.YtjjhhmchomabeaaDoor.ValidSecret
namespace Go.Proofs.YtjjhhmchomabeaaDoor
/-- The card, under a short name, for the claim. -/
theorem validSecret_holds : Rows.ValidSecretCardSaid := ValidSecret.validSecret_holds
end Go.Proofs.YtjjhhmchomabeaaDoor
