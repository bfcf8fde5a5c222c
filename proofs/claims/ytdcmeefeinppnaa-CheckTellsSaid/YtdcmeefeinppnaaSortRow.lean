/- A row of one's own of whole numbers, behind a call of slices.Sort or slices.Compact (the shelf's words): what it holds then. -/
import Derived.Test.YtdcmeefeinppnaaWWords
import Derived.Sort.Row
import Derived.Sort.Grow
namespace Go.Proofs.Ytdcmeefeinppnaa.SortRow
open Go.RowKit Go.Proofs.YtdcmeefeinppnaaW.PrintWords
set_option linter.unusedVariables false

theorem heap_putRow {w : World} {g : Nat} {cur : Array Value} {e : TypeId} {fr : Nat × Nat} (h : w.heap[g]? = some (.cells cur e fr)) (ys : List Int) :
    («Sort».putRow (Value.int .i64) w g 0 ys.toArray).heap[g]? = some (.cells («Sort».putCells (Value.int .i64) 0 ys.toArray cur) e fr) := by
  unfold «Sort».putRow «Sort».mapBlock
  simp only [Array.getElem?_modify, if_true, h, Option.map_some, «Sort».onCells]
theorem heap_putRow_other {w : World} {g k : Nat} (hk : k ≠ g) (ys : List Int) : («Sort».putRow (Value.int .i64) w g 0 ys.toArray).heap[k]? = w.heap[k]? := by
  unfold «Sort».putRow «Sort».mapBlock
  simp only [Array.getElem?_modify]
  rw [if_neg (fun e => hk e.symm)]
theorem putRow_same (w : World) (g : Nat) (ys : List Int) : («Sort».putRow (Value.int .i64) w g 0 ys.toArray).os = w.os ∧ («Sort».putRow (Value.int .i64) w g 0 ys.toArray).tape = w.tape ∧ («Sort».putRow (Value.int .i64) w g 0 ys.toArray).output = w.output ∧ («Sort».putRow (Value.int .i64) w g 0 ys.toArray).heap.size = w.heap.size := by
  unfold «Sort».putRow «Sort».mapBlock
  exact ⟨rfl, rfl, rfl, by simp⟩

theorem R_putRow {w : World} {base e : Nat} {ok : Nat → Prop} {g cap : Nat} {xs ys : List Int} (h : (Kd.int .i64).R e w base ok (.slice (some ⟨g, 0, none⟩) xs.length cap) xs) (hl : ys.length = xs.length) :
    (Kd.int .i64).R e («Sort».putRow (Value.int .i64) w g 0 ys.toArray) base ok (.slice (some ⟨g, 0, none⟩) ys.length cap) ys := by
  obtain ⟨hok, inner, ⟨hin, hown⟩, hr⟩ := h
  refine ⟨hok, ys.map (Value.int .i64), ⟨(by rw [List.length_map]; exact (Nat.mul_one _).symm), ?_⟩, ?_⟩
  · right
    rcases hown with ⟨h1, _⟩ | ⟨g', cap', cur, hv, hb, hc, hn, hm, hs, ht⟩
    · cases h1
    · injection hv with h1 h2 h3
      injection h1 with h1
      injection h1 with h1
      subst h1 h3
      refine ⟨g, cap, _, rfl, hb, heap_putRow hc ys, by omega, hm, by unfold «Sort».putCells; simpa using hs, ?_⟩
      have hsz : (Kd.int .i64).sz = 1 := rfl
      rw [hsz, Nat.mul_one] at hs ht ⊢
      apply List.ext_getElem?
      intro i
      rw [List.getElem?_take, List.getElem?_map]
      by_cases hi : i < ys.length
      · rw [if_pos hi, List.getElem?_eq_getElem hi, Array.getElem?_toList]
        unfold «Sort».putCells
        rw [Array.getElem?_mapIdx, Array.getElem?_eq_getElem (by omega)]
        simp [hi]
      · rw [if_neg hi, List.getElem?_eq_none (by omega)]; rfl
  · refine ⟨(by rw [List.length_map]; exact (Nat.mul_one _).symm), fun j p hj => ?_⟩
    have hsz : (Kd.int .i64).sz = 1 := rfl
    rw [hsz, Nat.mul_one]
    have hjl : j < ys.length := by
      by_cases h : j < ys.length
      · exact h
      · rw [List.getElem?_eq_none (by omega)] at hj; cases hj
    show ((ys.map (Value.int .i64)).drop j).take 1 = [Value.int .i64 p]
    rw [List.getElem?_eq_getElem hjl] at hj
    injection hj with hj
    rw [List.drop_eq_getElem_cons (by simpa using hjl)]
    simp [hj]

/-- what the shelf asks of a row -/
theorem holds_R {w : World} {base e : Nat} {ok : Nat → Prop} {g cap : Nat} {xs : List Int} (h : (Kd.int .i64).R e w base ok (.slice (some ⟨g, 0, none⟩) xs.length cap) xs) : «Sort».Holds (Value.int .i64) w g 0 xs.toArray ∧ g < w.heap.size ∧ xs.length ≤ cap ∧ base ≤ g := by
  obtain ⟨hok, inner, ⟨hin, hown⟩, hr⟩ := h
  rcases hown with ⟨h1, _⟩ | ⟨g', cap', cur, hv, hb, hc, hn, hm, hs, ht⟩
  · cases h1
  · injection hv with h1 h2 h3
    injection h1 with h1
    injection h1 with h1
    subst h1 h3
    have hg : g < w.heap.size := by
      by_cases h : g < w.heap.size
      · exact h
      · rw [Array.getElem?_eq_none (by omega)] at hc; cases hc
    refine ⟨fun j hj => ?_, hg, hn, hb⟩
    have hj' : j < xs.length := by simpa using hj
    have hp := hr.2 j xs[j] (List.getElem?_eq_getElem hj')
    have hsz : (Kd.int .i64).sz = 1 := rfl
    rw [hsz, Nat.mul_one] at hp ht hs
    have hp2 : (inner.drop j).take 1 = [Value.int .i64 xs[j]] := hp
    have hcj : cur[j]? = some (Value.int .i64 xs[j]) := by
      have h1 : inner[j]? = some (Value.int .i64 xs[j]) := by
        have : ((inner.drop j).take 1)[0]? = some (Value.int .i64 xs[j]) := by rw [hp2]; rfl
        rw [List.getElem?_take, if_pos (by omega), List.getElem?_drop] at this
        simpa using this
      rw [← ht, List.getElem?_take, if_pos hj', Array.getElem?_toList] at h1
      exact h1
    have e1 : (xs.toArray[j]!) = xs[j] := by simp [hj']
    rw [e1, Nat.zero_add]
    constructor
    · unfold World.cell?
      simp [hc, hcj]
    · unfold World.frozen?
      simp [hc]

theorem below_grow (w : World) (os : Array Obj) : Below w.heap.size w («Sort».grow w os) :=
  ⟨rfl, rfl, rfl, by unfold «Sort».grow; simp, fun i hi => by unfold «Sort».grow; simp only [Array.getElem?_append_left hi]⟩
/-- a row of one's own behind slices.Sort, or what is alike -/
theorem sorted_R {w : World} {base e : Nat} {ok : Nat → Prop} {g cap : Nat} {xs ys : List Int} (h : (Kd.int .i64).R e w base ok (.slice (some ⟨g, 0, none⟩) xs.length cap) xs) (hl : ys.length = xs.length) (n : Nat) (os : Array Obj) :
    (Kd.int .i64).R e («Sort».grow («Sort».putRow (Value.int .i64) («Sort».ahead w n) g 0 ys.toArray) os) base ok (.slice (some ⟨g, 0, none⟩) ys.length cap) ys := by
  have h1 : (Kd.int .i64).R e («Sort».ahead w n) base ok (.slice (some ⟨g, 0, none⟩) xs.length cap) xs := h
  exact Kd.R_below (R_putRow h1 hl) (below_grow _ _)
theorem sorted_below {w0 w : World} {B : Nat} (hb : Below B w0 w) (hB : B ≤ w0.heap.size) {g : Nat} (hg : B ≤ g) (ys : List Int) (n : Nat) (os : Array Obj) :
    Below B w0 («Sort».grow («Sort».putRow (Value.int .i64) («Sort».ahead w n) g 0 ys.toArray) os) := by
  obtain ⟨p1, p2, p3, p4⟩ := putRow_same («Sort».ahead w n) g ys
  have hs : («Sort».ahead w n).heap.size = w.heap.size := rfl
  have hsz := hb.size
  refine ⟨p1.trans hb.os, p2.trans hb.tape, p3.trans hb.output, ?_, fun i hi => ?_⟩
  · unfold «Sort».grow
    simp only [Array.size_append]; omega
  · have := (below_grow («Sort».putRow (Value.int .i64) («Sort».ahead w n) g 0 ys.toArray) os).block i (by omega)
    rw [this, heap_putRow_other (by omega)]
    exact hb.block i hi
end Go.Proofs.Ytdcmeefeinppnaa.SortRow
