/- alloc.clashes: what 'note' writes into the rows of bits. -/
import Derived.Test.YtdcmeefeinppnaaNamed
import Derived.RangeFuncNested
import Derived.RangeFuncWrites
import Derived.RangeFuncBound
import Derived.RangeFuncCalls
import Derived.RangeFuncLeaves
import Derived.Shelf.Abstract
import Derived.Shelf.RegionOpen
import Derived.OwnWalkIn
import Derived.TacticsInMore
import Derived.LoopNIn
import Derived.LoopIn
namespace Go.Proofs.Ytdcmeefeinppnaa.Live
open Go.RowKit Go.Shelf Go.Proofs.YtdcmeefeinppnaaW.PrintWords Go.Proofs.YtdcmeefeinppnaaW.PrintLast Go.Proofs.YtdcmeefeinppnaaW.PrintMore Go.Proofs.Ytdcmeefeinppnaa.Mem Go.Proofs.Ytdcmeefeinppnaa.Ir
set_option linter.unusedVariables false
set_option linter.unusedSimpArgs false
attribute [local go_sem] Oper.semAt_some

/-- the members of a set among the first k of n cells -/
def memF (s : Int) (n k : Nat) : List (Fin n) := ((List.finRange n).take k).filter (fun j => inB s (j.val : Int))
theorem memF_zero (s : Int) (n : Nat) : memF s n 0 = [] := rfl
theorem take_fin {n k : Nat} (h : k < n) : (List.finRange n).take (k + 1) = (List.finRange n).take k ++ [⟨k, h⟩] := by
  rw [List.take_add_one]
  simp [h]
theorem memF_yes {s : Int} {n k : Nat} (h : k < n) (hb : inB s (k : Int) = true) : memF s n (k + 1) = memF s n k ++ [⟨k, h⟩] := by
  unfold memF
  rw [take_fin h, List.filter_append]
  simp [hb]
theorem memF_no {s : Int} {n k : Nat} (h : k < n) (hb : inB s (k : Int) = false) : memF s n (k + 1) = memF s n k := by
  unfold memF
  rw [take_fin h, List.filter_append]
  simp [hb]
theorem memF_len (s : Int) (n k : Nat) : (memF s n k).length ≤ k := by
  unfold memF
  exact Nat.le_trans (List.length_filter_le _ _) (by rw [List.length_take]; omega)
/-- what a round must keep: the two boxes -/
def KpB (b1 b2 : Nat) (W W' : World) : Prop := W'.cell? ⟨b1, 0, none⟩ = W.cell? ⟨b1, 0, none⟩ ∧ W'.cell? ⟨b2, 0, none⟩ = W.cell? ⟨b2, 0, none⟩
theorem KpB.trans {b1 b2 : Nat} {A B C : World} (h : KpB b1 b2 A B) (k : KpB b1 b2 B C) : KpB b1 b2 A C := ⟨k.1.trans h.1, k.2.trans h.2⟩
set_option maxRecDepth 100000 in
set_option maxHeartbeats 2000000 in
theorem cells1_in (F : Fence) (n : Nat) (hF : F.fn 75) (hro : F.round = none) (hn : 1 ≤ n) (l b1 b2 nn : Nat) (s : Int) (hnn : nn ≤ 60) (J Jx : List (Fin nn) → World → Prop)
    (hY : ∀ pre x W, J pre W → pre.length < nn → YieldAt F (n - 1) Try.prog l #[.int .i64 (x.val : Int)] W fun e W' =>
      (e = .returned (.bool true) ∧ J (pre ++ [x]) W' ∧ KpB b1 b2 W W') ∨ (e = .returned (.bool false) ∧ Jx (pre ++ [x]) W'))
    (W : World) (h1 : W.cell? ⟨b1, 0, none⟩ = some (.int .i64 nn)) (h2 : W.cell? ⟨b2, 0, none⟩ = some (.int .i64 s)) (h0 : J [] W) :
    CallsIn F n Try.prog 75 #[.func (.yield l) #[] #[], .pointer (some ⟨b1, 0, none⟩), .pointer (some ⟨b2, 0, none⟩)] W fun e W' => (∃ v, e = .returned v) ∧
      ((∃ ys, ys = memF s nn nn ∧ J ys W') ∨ (∃ pre, True ∧ Jx pre W')) := by
  refine callsIn_of_wp Try.func75 rfl hF ?_ hro
  simp only [Try.ntmps75, List.size_toArray, List.length_cons, List.length_nil, Nat.reduceAdd, Nat.reduceSub, Array.replicate_succ, Array.replicate_zero, List.push_toArray, List.append_toArray, List.nil_append, List.cons_append]
  gi_wp2
  gi_loopw [4, 6] (fun _ i wr => ∃ k : Nat, k ≤ nn ∧ i = .int .i64 k ∧ J (memF s nn k) wr ∧ wr.cell? ⟨b1, 0, none⟩ = some (.int .i64 nn) ∧ wr.cell? ⟨b2, 0, none⟩ = some (.int .i64 s))
    (fun _ i _ => nn - (intOf i).toNat)
  case atStart => exact ⟨0, Nat.zero_le _, rfl, h0, h1, h2⟩
  case round =>
    obtain ⟨k, hk, rfl, hJs, hc1, hc2⟩ := hrel
    by_cases hlt : k < nn
    · cases hb : inB s (k : Int) with
      | true =>
        have hbit : (Go.bits .and .i64 (s / 2 ^ k) 1 != 0) = true := by have h := hb; unfold inB at h; rwa [Int.toNat_natCast] at h
        obtain ⟨fn, tmps, assign, body, hy, hR⟩ := hY _ ⟨k, hlt⟩ wr hJs (Nat.lt_of_le_of_lt (memF_len _ _ _) hlt)
        dsimp only at hy
        rw [← memF_yes hlt hb] at hR
        clear hb
        gi_wp2
        refine hR.mono ?_
        rintro e W3 (⟨rfl, hJ3, hk3⟩ | ⟨rfl, hJx3⟩)
        · have hc31 := hk3.1.trans hc1
          have hc32 := hk3.2.trans hc2
          gi_wp2
          go_roundw
          case rel => exact ⟨k + 1, by omega, by simp, hJ3, hc31, hc32⟩
          case measure => simp [intOf]; omega
        · gi_wp2
          refine bodyPost_ret (results_none rfl _ _ _) rfl ?_
          exact ⟨⟨_, rfl⟩, .inr ⟨_, trivial, hJx3⟩⟩
      | false =>
        have hbit : (Go.bits .and .i64 (s / 2 ^ k) 1 != 0) = false := by have h := hb; unfold inB at h; rwa [Int.toNat_natCast] at h
        have hJ3 : J (memF s nn (k + 1)) wr := by rw [memF_no hlt hb]; exact hJs
        clear hb hJs
        gi_wp2
        refine ⟨fun _ h => (by cases h), ?_⟩
        gi_wp2
        go_roundw
        case rel => exact ⟨k + 1, by omega, by simp, hJ3, hc1, hc2⟩
        case measure => simp [intOf]; omega
    · obtain rfl : k = nn := by omega
      gi_wp2
      go_end0
      exact ⟨⟨_, rfl⟩, .inl ⟨_, rfl, hJs⟩⟩

set_option maxHeartbeats 1000000 in
theorem cells_in (F : Fence) (n : Nat) (hF : F.fn 56) (hro : F.round = none) (s m : Int) (w : World) :
    CallsIn F n Try.prog 56 #[.int .i64 s, .int .i64 m] w fun e w' => e = .returned (.func (.func 75) #[] #[.pointer (some ⟨w.heap.size + 1, 0, none⟩), .pointer (some ⟨w.heap.size, 0, none⟩)]) ∧ w' = (w.alloc (.cells #[.int .i64 s] 3)).alloc (.cells #[.int .i64 m] 3) := by
  refine callsIn_of_wp Try.func56 rfl hF ?_ hro
  simp only [Try.ntmps56, List.size_toArray, List.length_cons, List.length_nil, Nat.reduceAdd, Nat.reduceSub, Array.replicate_succ, Array.replicate_zero, List.push_toArray, List.append_toArray, List.nil_append, List.cons_append]
  gi_wp2
  go_ret
  exact ⟨rfl, rfl⟩
theorem cells_stops (F : Fence) (n : Nat) (hF : F.fn 75) (hro : F.round = none) (hn : 1 ≤ n) (b1 b2 nn : Nat) (s : Int) (hnn : nn ≤ 60) (w : World) (hb1 : b1 < w.heap.size) (hb2 : b2 < w.heap.size)
    (h1 : w.cell? ⟨b1, 0, none⟩ = some (.int .i64 nn)) (h2 : w.cell? ⟨b2, 0, none⟩ = some (.int .i64 s)) :
    SeqStopsK F n Try.prog 75 #[.pointer (some ⟨b1, 0, none⟩), .pointer (some ⟨b2, 0, none⟩)] (fun x : Fin nn => #[Value.int .i64 (x.val : Int)]) (KpB b1 b2) (fun ys => ys = memF s nn nn) (fun _ => True) nn w := fun l J Jx W hW _ _ hY h0 =>
  cells1_in F n hF hro hn l b1 b2 nn s hnn J Jx hY W ((hW.cell (p := ⟨b1, 0, none⟩) hb1).trans h1) ((hW.cell (p := ⟨b2, 0, none⟩) hb2).trans h2) h0
theorem kpB_b {b1 b2 : Nat} {w : World} (h1 : b1 < w.heap.size) (h2 : b2 < w.heap.size) (W : World) (l : Nat) (o o' : Obj) (hl : w.heap.size ≤ l) (h : W.heap[l]? = some o) (_ : o.isCells = false) (_ : o.isWalk = false) : KpB b1 b2 W (W.putObj l o') :=
  ⟨World.cell?_of_block (World.putObj_heap_other (by simp; omega)), World.cell?_of_block (World.putObj_heap_other (by simp; omega))⟩
end Go.Proofs.Ytdcmeefeinppnaa.Live
namespace Go.Proofs.Ytdcmeefeinppnaa.Live
open Go.RowKit Go.Shelf Go.Proofs.YtdcmeefeinppnaaW.PrintWords Go.Proofs.YtdcmeefeinppnaaW.PrintLast Go.Proofs.YtdcmeefeinppnaaW.PrintMore Go.Proofs.Ytdcmeefeinppnaa.Mem Go.Proofs.Ytdcmeefeinppnaa.Ir
set_option linter.unusedVariables false
set_option linter.unusedSimpArgs false
attribute [local go_sem] Oper.semAt_some

def orAt (ms : List Int) (b : Nat) (v : Int) : List Int := ms.set b (Go.bits .or .i64 (rd ms (b : Int)) v)
def noteL (n : Nat) (a : Int) (ms : List Int) (l : List (Fin n)) : List Int := l.foldl (fun m x => orAt m x.val (wrap64 (2 ^ a.toNat))) ms
theorem orAt_len (ms : List Int) (b : Nat) (v : Int) : (orAt ms b v).length = ms.length := by simp [orAt]
theorem noteL_len (n : Nat) (a : Int) (l : List (Fin n)) : ∀ ms, (noteL n a ms l).length = ms.length := by
  induction l with
  | nil => intro ms; rfl
  | cons x l ih => intro ms; exact (ih _).trans (orAt_len _ _ _)
theorem noteL_snoc (n : Nat) (a : Int) (ms : List Int) (l : List (Fin n)) (x : Fin n) : noteL n a ms (l ++ [x]) = orAt (noteL n a ms l) x.val (wrap64 (2 ^ a.toNat)) := by simp [noteL, List.foldl_append]
abbrev ints (ms : List Int) : Array Value := (ms.map (Value.int .i64)).toArray
def noteM (n : Nat) (a set : Int) (ms : List Int) : List Int := noteL n a (orAt ms a.toNat set) (memF set n n)
/-- the rows of bits: the variable in bm, its row in g -/
structure Mt (W : World) (c : Cod) (A : Option Addr) (cap bm bc g : Nat) (ms : List Int) : Prop where
  vm : W.heap[bm]? = some (.cells #[.slice (some ⟨g, 0, none⟩) ms.length ms.length] 26 (0, 0))
  vc : W.heap[bc]? = some (.cells (c.vals A cap) 24 (0, 0))
  row : W.heap[g]? = some (.cells (ints ms) 3 (0, 0))
theorem Mt.ne {W : World} {c : Cod} {A : Option Addr} {cap bm bc g : Nat} {ms : List Int} (h : Mt W c A cap bm bc g ms) : bm ≠ g ∧ bc ≠ g := ⟨blk_ne h.vm h.row (by decide), blk_ne h.vc h.row (by decide)⟩
theorem Mt.below {W W1 : World} {c : Cod} {A : Option Addr} {cap bm bc g : Nat} {ms : List Int} (h : Mt W c A cap bm bc g ms) (hb : Below W.heap.size W W1) : Mt W1 c A cap bm bc g ms := ⟨blk_below h.vm hb, blk_below h.vc hb, blk_below h.row hb⟩
theorem row_set {W : World} {g : Nat} {t : TypeId} {ms : List Int} (h : W.heap[g]? = some (.cells (ints ms) t (0, 0))) (j : Nat) (u : Int) : (W.setCell ⟨g, j, none⟩ (.int .i64 u)).heap[g]? = some (.cells (ints (ms.set j u)) t (0, 0)) := by
  rw [blk_set h j (.int .i64 u)]
  simp [List.map_set]
theorem row_cell {W : World} {g : Nat} {t : TypeId} {ms : List Int} (h : W.heap[g]? = some (.cells (ints ms) t (0, 0))) {j : Nat} (hj : j < ms.length) : W.cell? ⟨g, j, none⟩ = some (.int .i64 (rd ms (j : Int))) := by
  rw [blk_cell h]
  simp [rd, hj]
theorem ch_set {a b : World} {S : Nat → Prop} (h : Ch a b S) {p : Addr} (hp : S p.block ∨ a.heap.size ≤ p.block) (v : Value) : Ch a (b.setCell p v) S :=
  ⟨h.os, h.tape, h.output, by rw [World.size_setCell]; exact h.size, fun i hi hn => (Below.heap_setCell b p v i (fun e => by subst e; exact hp.elim hn (fun h3 => by omega))).trans (h.block i hi hn)⟩

theorem Mt.set {W : World} {c : Cod} {A : Option Addr} {cap bm bc g : Nat} {ms : List Int} (h : Mt W c A cap bm bc g ms) (j : Nat) (u : Int) : Mt (W.setCell ⟨g, j, none⟩ (.int .i64 u)) c A cap bm bc g (ms.set j u) :=
  ⟨by rw [List.length_set]; exact blk_far h.vm h.ne.1 _, blk_far h.vc h.ne.2 _, row_set h.row j u⟩
set_option maxRecDepth 100000 in
set_option maxHeartbeats 4000000 in
theorem note_in (F : Fence) (n : Nat) (hF : F.fn 73) (hF1 : F.fn 56) (hF2 : F.fn 75) (hro : F.round = none) (hn : 3 ≤ n)
    (c : Cod) (A : Option Addr) (cap bm bc g nn : Nat) (ms : List Int) (a set : Int) (w : World) (H : Mt w c A cap bm bc g ms) (hms : ms.length = nn) (hcn : c.cells = (nn : Int)) (hnn : nn ≤ 60) (ha0 : 0 ≤ a) (ha1 : a < nn) :
    CallsIn F n Try.prog 73 #[.int .i64 a, .int .i64 set, .pointer (some ⟨bm, 0, none⟩), .pointer (some ⟨bc, 0, none⟩)] w fun e w' => e = .returned (.tuple #[]) ∧ Mt w' c A cap bm bc g (noteM nn a set ms) ∧ Ch w w' (fun k => k = g) := by
  have h1 : 1 ≤ n := by omega
  obtain ⟨aa, rfl⟩ : ∃ aa : Nat, a = (aa : Int) := ⟨a.toNat, by omega⟩
  have hal : aa < ms.length := by omega
  have hH := H
  have hA := hH.below ((Below.refl _ _).alloc (Nat.le_refl _) (.cells #[.int .i64 (aa : Int)] 3))
  have hm := blk_cell hA.vm 0
  have hc := blk_cell hA.vc 0
  have hr := row_cell hA.row hal
  have hrf := blk_frozen hA.row aa
  have hS := hA.set aa (Go.bits .or .i64 (rd ms (aa : Int)) set)
  have hc1 := blk_cell hS.vc 0
  have hms2 : (ms.set aa (Go.bits .or .i64 (rd ms (aa : Int)) set)) = orAt ms aa set := rfl
  refine callsIn_of_wp_marks Try.func73 rfl hF ?_ hro
  simp only [Try.ntmps73, List.size_toArray, List.length_cons, List.length_nil, Nat.reduceAdd, Nat.reduceSub, Array.replicate_succ, Array.replicate_zero, List.push_toArray, List.append_toArray, List.nil_append, List.cons_append]
  gi_wp2_with (gi_at_call 56; refine (cells_in F (n - 1) hF1 hro _ _ _).mono ?_; rintro e w' ⟨rfl, rfl⟩)
  have hS2 := (hS.below ((Below.refl _ _).alloc (Nat.le_refl _) (.cells #[.int .i64 set] 3))).below ((Below.refl _ _).alloc (Nat.le_refl _) (.cells #[.int .i64 (nn : Int)] 3))
  have hch0 : Ch w ((((w.alloc (.cells #[.int .i64 (aa : Int)] 3)).setCell ⟨g, aa, none⟩ (.int .i64 (Go.bits .or .i64 (rd ms (aa : Int)) set))).alloc (.cells #[.int .i64 set] 3)).alloc (.cells #[.int .i64 (nn : Int)] 3)) (fun k => k = g) :=
    ((ch_set (S := fun k => k = g) (Ch.of_below ((Below.refl _ _).alloc (Nat.le_refl _) _) _) (p := ⟨g, aa, none⟩) (.inl rfl) _).then_below ((Below.refl _ _).alloc (Nat.le_refl _) _)).then_below ((Below.refl _ _).alloc (Nat.le_refl _) _)
  have hba := blk_alloc (blk_alloc (blk_far (blk_new w (.cells #[.int .i64 (aa : Int)] 3)) (p := ⟨g, aa, none⟩) (by have := blk_lt hH.row; simp; omega) (.int .i64 (Go.bits .or .i64 (rd ms (aa : Int)) set))) (.cells #[.int .i64 set] 3)) (.cells #[.int .i64 (nn : Int)] 3)
  have hb2 := blk_alloc (blk_new ((w.alloc (.cells #[.int .i64 (aa : Int)] 3)).setCell ⟨g, aa, none⟩ (.int .i64 (Go.bits .or .i64 (rd ms (aa : Int)) set))) (.cells #[.int .i64 set] 3)) (.cells #[.int .i64 (nn : Int)] 3)
  have hb1 := blk_new (((w.alloc (.cells #[.int .i64 (aa : Int)] 3)).setCell ⟨g, aa, none⟩ (.int .i64 (Go.bits .or .i64 (rd ms (aa : Int)) set))).alloc (.cells #[.int .i64 set] 3)) (.cells #[.int .i64 (nn : Int)] 3)
  have hsz : ((((w.alloc (.cells #[.int .i64 (aa : Int)] 3)).setCell ⟨g, aa, none⟩ (.int .i64 (Go.bits .or .i64 (rd ms (aa : Int)) set))).alloc (.cells #[.int .i64 set] 3)).alloc (.cells #[.int .i64 (nn : Int)] 3)).heap.size = w.heap.size + 1 + 1 + 1 := by simp
  simp only [World.size_alloc, World.size_setCell] at hb1 hb2
  rw [hms2] at hS2
  obtain ⟨W2, hW2⟩ : ∃ W2, ((((w.alloc (.cells #[.int .i64 (aa : Int)] 3)).setCell ⟨g, aa, none⟩ (.int .i64 (Go.bits .or .i64 (rd ms (aa : Int)) set))).alloc (.cells #[.int .i64 set] 3)).alloc (.cells #[.int .i64 (nn : Int)] 3)) = W2 := ⟨_, rfl⟩
  rw [hW2] at hS2 hch0 hba hb1 hb2 hsz
  have hmsl : (orAt ms aa set).length = nn := by rw [orAt_len]; exact hms
  obtain ⟨ms1, hms1⟩ : ∃ ms1, orAt ms aa set = ms1 := ⟨_, rfl⟩
  have hgl : g < W2.heap.size := blk_lt hS2.row
  have hml : bm < W2.heap.size := blk_lt hS2.vm
  have hnote : noteM nn (aa : Int) set ms = noteL nn (aa : Int) ms1 (memF set nn nn) := by unfold noteM; rw [Int.toNat_natCast, hms1]
  rw [hms1] at hS2 hmsl
  have hag : w.heap.size ≠ g := by have := blk_lt hH.row; omega
  have hI : OwnFrom W2.heap.size (fun (pre : List (Fin nn)) W => W.heap[g]? = some (.cells (ints (noteL nn (aa : Int) ms1 pre)) 3 (0, 0)) ∧ Ch W2 W (fun k => k = g)) :=
    fun s A B row hs hg hr => ⟨blk_grown hs.1 hg (fun e => by have := (hr _ e.symm).1; omega), hs.2.grown hg (fun k e => .inr (hr k e).1)⟩
  clear hm hc hr hrf hc1 hS hA hms2 hH
  have hWW : ((((w.alloc (.cells #[.int .i64 (aa : Int)] 3)).setCell ⟨g, aa, none⟩ (.int .i64 (bits BinOp.or IntKind.i64 (rd ms (aa : Int)) set))).alloc (.cells #[.int .i64 set] 3)).alloc (.cells #[.int .i64 (nn : Int)] 3)) = W2 := hW2
  rw [hWW]
  clear hW2 hWW
  refine wpIn_rangeFunc_ownG hro h1 (gf := 75) (lb := #[.pointer (some ⟨w.heap.size + 1 + 1, 0, none⟩), .pointer (some ⟨w.heap.size + 1, 0, none⟩)]) rfl hF2 (enters_of Try.func75 (by kernel_rfl) rfl)
    (cells_stops F (n - 1) hF2 hro (by omega) (w.heap.size + 1 + 1) (w.heap.size + 1) nn set hnn W2 (by omega) (by omega) (blk_cell hb1 0) (blk_cell hb2 0)) (fun h k => KpB.trans h k) (kpB_b (by omega) (by omega)) (Below.refl _ _) (fun _ => rfl)
    (fun pre W => W.heap[g]? = some (.cells (ints (noteL nn (aa : Int) ms1 pre)) 3 (0, 0)) ∧ Ch W2 W (fun k => k = g))
    (fun _ _ _ => False) hI (fun _ _ _ _ _ hs _ _ => hs) ⟨hS2.row, Ch.refl _ _⟩
    (fun x => { tmps := #[.int .i64 (aa : Int), .int .i64 set, .pointer (some ⟨bm, 0, none⟩), .pointer (some ⟨bc, 0, none⟩), .pointer (some ⟨w.heap.size, 0, none⟩), undef, .int .i64 (x.val : Int), .slice (some ⟨g, 0, none⟩) nn nn, .int .i64 (aa : Int), .pointer (some ⟨g, aa, none⟩), .int .i64 (rd ms (aa : Int)), .int .i64 set, .int .i64 (bits BinOp.or IntKind.i64 (rd ms (aa : Int)) set), .pointer (some ⟨g, aa, none⟩), .int .i64 set, .pointer (some ⟨bc, 0, none⟩), .int .i64 (nn : Int), .func (.func 75) #[] #[.pointer (some ⟨w.heap.size + 1 + 1, 0, none⟩), .pointer (some ⟨w.heap.size + 1, 0, none⟩)], .int .i64 (x.val : Int), undef, undef, undef, undef, undef, undef, undef, undef], defers := [] }) ?assign ?body ?done ?stop
  case assign =>
    intro l x W K hK
    gi_wp2
    exact hK
  case body =>
    rintro l pre x W ⟨hrow, hch⟩ _
    have hxl : x.val < (noteL nn (aa : Int) ms1 pre).length := by rw [noteL_len, hmsl]; exact x.isLt
    have hxn : x.val < nn := x.isLt
    obtain ⟨xv, hxv⟩ : ∃ xv, x.val = xv := ⟨_, rfl⟩
    have hsn := noteL_snoc nn (aa : Int) ms1 pre x
    rw [hxv] at hxl hsn hxn ⊢
    obtain ⟨mp, hmp⟩ : ∃ mp, noteL nn (aa : Int) ms1 pre = mp := ⟨_, rfl⟩
    rw [hmp] at hxl hsn hrow
    have hc1 : W.cell? ⟨bm, 0, none⟩ = some (.slice (some ⟨g, 0, none⟩) nn nn) := by rw [blk_cell ((hch.block bm hml hS2.ne.1).trans hS2.vm), hmsl]; rfl
    have hc2 : W.cell? ⟨w.heap.size, 0, none⟩ = some (.int .i64 (aa : Int)) := by rw [blk_cell ((hch.block w.heap.size (by omega) hag).trans hba)]; rfl
    have hc3 := row_cell hrow hxl
    have hf3 := blk_frozen hrow xv
    have hx0 : (0 : Int) ≤ (xv : Int) := by omega
    have hx1 : (xv : Int) < (nn : Int) := by omega
    have hgw : g < w.heap.size := blk_lt H.row
    have hI3 : (W.setCell ⟨g, xv, none⟩ (.int .i64 (Go.bits .or .i64 (rd mp (xv : Int)) (wrap64 (2 ^ aa))))).heap[g]? = some (.cells (ints (noteL nn (aa : Int) ms1 (pre ++ [x]))) 3 (0, 0)) := by
      rw [hsn, Int.toNat_natCast]; exact row_set hrow xv _
    have hC3 := (ch_set hch (p := ⟨g, xv, none⟩) (.inl rfl) (.int .i64 (Go.bits .or .i64 (rd mp (xv : Int)) (wrap64 (2 ^ aa))))).then_below (drew_below _)
    have hK3 : KpB (w.heap.size + 1 + 1) (w.heap.size + 1) W (W.setCell ⟨g, xv, none⟩ (.int .i64 (Go.bits .or .i64 (rd mp (xv : Int)) (wrap64 (2 ^ aa))))) :=
      ⟨World.cell?_of_block (Below.heap_setCell _ _ _ _ (by simp; omega)), World.cell?_of_block (Below.heap_setCell _ _ _ _ (by simp; omega))⟩
    have hmx : Try.prog.follows .mixedOrders = true := by kernel_rfl
    gi_wp2
    gi_region_with_o (fail)
    all_goals gi_wp2
    all_goals (try go_bits)
    all_goals exact ⟨((KeepsOthers.setCell _ _ _).trans (KeepsOthers.drew _)).from _, hK3, hI3, hC3⟩
  case done =>
    rintro D ys W hD rfl hIW hK
    gi_wp2
    have hI2 := hI.putObj (.deferred none) hIW hD hK rfl
    refine ⟨by simp, .inl ⟨_, _, rfl, run_takeDeferred hK, ?_⟩⟩
    rw [hnote]
    refine ⟨_, results_none rfl _ _ _, rfl, ⟨?_, (hI2.2.block bc (blk_lt hS2.vc) hS2.ne.2).trans hS2.vc, hI2.1⟩, hch0.trans hI2.2 (fun j hj => .inl hj)⟩
    rw [noteL_len]
    exact (hI2.2.block bm hml hS2.ne.1).trans hS2.vm
  case stop =>
    rintro D c pre W _ _ h _
    exact h.elim
end Go.Proofs.Ytdcmeefeinppnaa.Live
