/- A builder that is written; inst.Body; wbin.closed, wbin.word. -/
import Derived.Test.YtjjhhmchomabeaaDoorInstW
import Derived.Test.YtjjhhmchomabeaaDoorShelf
namespace Go.Proofs.YtjjhhmchomabeaaDoor.Valid
open Go.RowKit Go.Proofs.YtjjhhmchomabeaaDoorW.PrintWords Go.Proofs.YtjjhhmchomabeaaDoorW.PrintLast Go.Proofs.YtjjhhmchomabeaaDoor.Mem Go.Proofs.YtjjhhmchomabeaaDoor.Nest
set_option linter.unusedVariables false
set_option linter.unusedSimpArgs false

theorem sizeBuilder : (Tryd.prog.info? 106).map (·.size) = some 2 := by kernel_rfl
theorem liesBuilder : liesAt Tryd.prog Tryd.prog.depth 106 (2 / Tryd.prog.cellsOf 106) 0 106 1 = true := by kernel_rfl
set_option maxHeartbeats 1000000 in
set_option maxRecDepth 100000 in
theorem check_used (b : Nat) (w : World) (h0 : w.cell? ⟨b, 0, none⟩ = some (.pointer (some ⟨b, 0, none⟩))) :
    Calls Tryd.prog 71 #[.pointer (some ⟨b, 0, none⟩)] w fun e w' => e = .returned (.tuple #[]) ∧ w' = w := by
  obtain ⟨j, hj, _⟩ := Option.map_eq_some_iff.1 sizeBuilder
  go_enter Tryd.func71, Tryd.ntmps71
  go_wp2
  rw [Lib.run_neq_ptr_same w _ Tryd.underlying103 hj]
  go_wp2
  go_end0
  exact ⟨rfl, rfl⟩
set_option maxHeartbeats 1000000 in
set_option maxRecDepth 100000 in
theorem check_fresh (b : Nat) (w : World) (h0 : w.cell? ⟨b, 0, none⟩ = some (.pointer none)) (hsh : w.shape? b = some (106, 2)) (hfz : w.frozen? ⟨b, 0, none⟩ = false) :
    Calls Tryd.prog 71 #[.pointer (some ⟨b, 0, none⟩)] w fun e w' => e = .returned (.tuple #[]) ∧ w' = w.setCell ⟨b, 0, none⟩ (.pointer (some ⟨b, 0, none⟩)) := by
  obtain ⟨j, hj, hjs⟩ := Option.map_eq_some_iff.1 sizeBuilder
  go_enter Tryd.func71, Tryd.ntmps71
  go_wp2
  rw [Lib.run_to_unsafe w ⟨b, 0, none⟩ Tryd.underlying103 Tryd.underlying92 hj (by rw [hjs]; decide) hsh (Nat.zero_lt_succ 1)]
  simp only [Result.andThen]
  rw [Oper.upon_value]
  go_wp2
  rw [run_callFunc_extern Tryd.func75 (by kernel_rfl) (by kernel_rfl) (by kernel_rfl) (e := Extern.AbiNoEscape.same) (by kernel_rfl)]
  rw [Lib.run_noEscape]
  simp only [Result.andThen]
  rw [Oper.upon_value]
  go_wp2
  rw [Lib.run_from_unsafe w ⟨b, 0, none⟩ Tryd.underlying92 Tryd.underlying103 hj hsh liesBuilder]
  simp only [Result.andThen]
  rw [Oper.upon_value]
  go_wp2
  go_end0
  exact ⟨rfl, rfl⟩
theorem check_calls (B b : Nat) (bs : List Value) (w : World) (h : Lib.IsBuilder 106 5 B b bs w) :
    Calls Tryd.prog 71 #[.pointer (some ⟨b, 0, none⟩)] w fun e w' => e = .returned (.tuple #[]) ∧ (Lib.BuilderAt 106 5 B b (.pointer (some ⟨b, 0, none⟩)) bs w' ∧ Below B w w') := by
  rcases h with h | h
  · refine (check_fresh b w h.cell0 h.shape h.frozen0).mono ?_
    rintro e w' ⟨rfl, rfl⟩
    exact ⟨rfl, h.used _, (Below.refl B w).setCell (p := ⟨b, 0, none⟩) h.1 _⟩
  · refine (check_used b w h.cell0).mono ?_
    rintro e w' ⟨rfl, rfl⟩
    exact ⟨rfl, h, Below.refl B _⟩
set_option maxHeartbeats 2000000 in
set_option maxRecDepth 100000 in
theorem write_calls (B b : Nat) (bs : List Value) (s : ByteArray) (w : World) (h : Lib.IsBuilder 106 5 B b bs w) (hlen : bs.length + s.size ≤ 140737488355328) (hBw : B ≤ w.heap.size) :
    Calls Tryd.prog 47 #[.pointer (some ⟨b, 0, none⟩), .string s] w fun e w' => e = .returned (.tuple #[.int .i64 s.size, .nilIface]) ∧ (Lib.BuilderAt 106 5 B b (.pointer (some ⟨b, 0, none⟩)) (bs ++ Lib.strCells s) w' ∧ Below B w w') := by
  obtain ⟨i0, hi, hzz⟩ := Option.map_eq_some_iff.1 infoByte
  simp only [Prod.mk.injEq] at hzz
  obtain ⟨hz0, hz1, hz2⟩ := hzz
  go_enter Tryd.func47, Tryd.ntmps47
  go_wp2_with (go_at_call 71; refine (check_calls B b bs _ h).mono ?_)
  rintro e w1 ⟨rfl, h1, hb1⟩
  obtain ⟨hB, v, hbk, hown, hne⟩ := h1
  have c1 : w1.cell? ⟨b, 1, none⟩ = some v := by rw [Lib.cell_of_heap hbk]; rfl
  go_wp2_with (at_builtin; refine Lib.wpList_append_own_string _ rfl _ _ 104 9 rfl B 5 i0 Tryd.underlying104 Tryd.underlying9 hi hz0 hz1 hz2 _ _ _ rfl hown s rfl ?c3 ?c4 ?c5 ?_)
  case c3 => unfold maxLen; omega
  case c4 => omega
  case c5 => have := hb1.size; omega
  intro v' w2 hown' hgrow _
  have hlt : b < w1.heap.size := blk_lt hbk
  have hb2 : w2.heap[b]? = some (.cells #[.pointer (some ⟨b, 0, none⟩), v] 106 (0, 0)) := by
    rw [hgrow.block b hlt (fun e => hne e.symm)]
    exact hbk
  have d1 : w2.cell? ⟨b, 1, none⟩ = some v := by rw [Lib.cell_of_heap hb2]; rfl
  have f1 : w2.frozen? ⟨b, 1, none⟩ = false := Lib.frozen_of_heap hb2 1
  obtain ⟨ao, n', cap, rfl⟩ : ∃ ao n' cap, v' = .slice ao n' cap := by
    rcases hown'.2 with ⟨hv, _⟩ | ⟨g, cap, cur, hv, _⟩
    · exact ⟨_, _, _, hv⟩
    · exact ⟨_, _, _, hv⟩
  go_wp2
  go_ret2
  refine ⟨rfl, ?_, ?_⟩
  · exact Lib.BuilderAt.put hB hb2 (bs' := bs ++ Lib.strCells s) (by simpa [Lib.strCells_length] using hown') (by decide)
  · exact (hb1.grown hgrow (by have := hb1.size; omega) (fun k hk => (hown.lt k hk).1)).setCell (p := ⟨b, 1, none⟩) hB _
abbrev IsB (B b : Nat) (l : List UInt8) (w : World) : Prop := Lib.IsBuilder 106 5 B b (Lib.byteCells l) w
theorem bat_below {B b : Nat} {p : Value} {bs : List Value} {w w1 : World} (h : Lib.BuilderAt 106 5 B b p bs w) (hb : Below w.heap.size w w1) : Lib.BuilderAt 106 5 B b p bs w1 := by
  obtain ⟨h1, v, h2, ⟨h3, h4⟩, h5⟩ := h
  refine ⟨h1, v, blk_below h2 hb, ⟨h3, ?_⟩, h5⟩
  rcases h4 with h4 | ⟨g, cap, cur, e1, e2, e3, e4⟩
  · exact .inl h4
  · exact .inr ⟨g, cap, cur, e1, e2, blk_below e3 hb, e4⟩
theorem isb_below {B b : Nat} {l : List UInt8} {w w1 : World} (h : IsB B b l w) (hb : Below w.heap.size w w1) : IsB B b l w1 :=
  h.elim (fun h => .inl (bat_below h hb)) (fun h => .inr (bat_below h hb))
theorem isb_new (w : World) : IsB w.heap.size w.heap.size [] (w.alloc (.cells #[.pointer none, .slice none 0 0] 106)) :=
  .inl ⟨Nat.le_refl _, .slice none 0 0, blk_new _ _, World.ownsRow_nil _ _ _ _, by simp [Value.ownBlock]⟩
/-- inst.Body's error -/
def bodyE (l : List T3) : Int := if l.all rightX then 0 else 4
structure BodyAt (w : World) (l : List T3) (k : Nat) (wr : World) : Prop where
  b : ∃ bs : List UInt8, bs.length ≤ 24 * k ∧ IsB w.heap.size w.heap.size bs wr
  w : Below w.heap.size w wr
  all : (l.take k).all rightX = true
set_option maxHeartbeats 2000000 in
set_option maxRecDepth 100000 in
theorem body_calls (A : Option Addr) (c : Nat) (l : List T3) (w : World) (hL : k3.C w A l.length l) (hc : l.length ≤ c) (hn : l.length ≤ 200) (hcan : ∀ x ∈ l, Can x.2.1) :
    Calls Tryd.prog 32 #[.slice A l.length c] w fun e w' => ∃ s : ByteArray, e = .returned (.tuple #[.string s, .int .i64 (bodyE l)]) ∧ Below w.heap.size w w' := by
  have HL := Aside0.mk hL
  have HCN := Aside0.mk hcan
  have HB0 := Aside0.mk (isb_new w)
  have HW0 := Aside0.mk (below_alloc (Below.refl w.heap.size w) (Nat.le_refl _) (.cells #[.pointer none, .slice none 0 0] 106))
  clear hL hcan
  go_enter Tryd.func32, Tryd.ntmps32
  go_wp2_with fail
  go_loopw [11] (fun iv wr => ∃ k : Nat, k ≤ l.length ∧ iv = .int .i64 k ∧ Aside0 (BodyAt w l k wr)) (fun iv _ => l.length - (intOf iv).toNat)
  case atStart => exact ⟨0, Nat.zero_le _, rfl, ⟨⟨⟨[], by simp, HB0.out⟩, HW0.out, rfl⟩⟩⟩
  case round =>
    obtain ⟨k, hk, rfl, HP⟩ := hrel
    clear HB0 HW0
    by_cases hlt : k < l.length
    · obtain ⟨ad, hA, hxa, hxb, hxc⟩ := at_k3 (Kd.C_below HL.out HP.out.w) (k : Int) (by omega) (by omega)
      rw [Int.toNat_natCast] at hxa hxb hxc
      obtain ⟨x, hx⟩ : ∃ x, at3 l (k : Int) = x := ⟨_, rfl⟩
      rw [hx] at hxa hxb hxc
      have hget : l[k] = x := by
        rw [← hx]
        unfold at3
        rw [Int.toNat_natCast, List.getD_eq_getElem?_getD, List.getElem?_eq_getElem hlt]
        rfl
      have HXC := Aside0.mk (show Can x.2.1 from HCN.out x (by rw [← hget]; exact List.getElem_mem _))
      have HTK := Aside0.mk (show (l.take (k + 1)).all rightX = ((l.take k).all rightX && rightX x) from by rw [List.take_succ_eq_append_getElem hlt, List.all_append, hget]; simp)
      have HALL := Aside0.mk (show rightX x = false → l.all rightX = false from fun h => List.all_eq_false.2 ⟨x, by rw [← hget]; exact List.getElem_mem _, by rw [h]; decide⟩)
      have HP1 := Aside0.mk (And.intro (HP.out.w.alloc HP.out.w.size (xObj x)) (blk_new wr (xObj x)))
      have hy0 := blk_cell HP1.out.2 0
      have hy1 := blk_cell HP1.out.2 1
      have hy2 := blk_cell HP1.out.2 2
      subst hA
      clear hx hget
      rcases hr : rightX x with _ | _
      · have HE := Aside0.mk (show bodyE l = 4 from by unfold bodyE; rw [HALL.out hr]; rfl)
        go_wp2_with (go_at_call 46; refine (bytes_calls x HXC.out _).mono ?_; rw [hr, if_neg (by decide)]; rintro e w1 ⟨s, rfl, hs, hb⟩; have HB1 := Aside0.mk hb; clear hb)
        go_ret2
        exact ⟨(⟨#[]⟩ : ByteArray), by rw [HE.out]; rfl, HP1.out.1.trans (HB1.out.mono HP1.out.1.size)⟩
      · obtain ⟨bs, hbs, hB⟩ := HP.out.b
        have HIB := Aside0.mk (isb_below hB (below_alloc (Below.refl _ _) (Nat.le_refl _) (xObj x)))
        clear hB
        go_wp2_with (go_at_call 46; refine (bytes_calls x HXC.out _).mono ?_; rw [hr, if_pos rfl]; rintro e w1 ⟨s, rfl, hs, hb⟩; have HB1 := Aside0.mk (And.intro hs (And.intro (isb_below HIB.out hb) (HP1.out.1.trans (hb.mono HP1.out.1.size)))); clear hs hb)
        refine (write_calls w.heap.size w.heap.size (Lib.byteCells bs) s _ HB1.out.2.1 (by have := HB1.out.1; rw [Lib.byteCells_length]; omega) HB1.out.2.2.size).mono ?_
        rintro e w2 ⟨rfl, h2, hb2⟩
        have hlen : (bs ++ s.data.toList).length ≤ 24 * (k + 1) := by
          have h8 := HB1.out.1
          have h9 : s.size = s.data.toList.length := by rw [Array.length_toList]; rfl
          rw [List.length_append, ← h9]
          omega
        have h3 : Lib.byteCells (bs ++ s.data.toList) = Lib.byteCells bs ++ Lib.strCells s := by rw [Lib.strCells_eq]; simp [Lib.byteCells]
        rw [← h3] at h2
        have HN := Aside0.mk (show BodyAt w l (k + 1) w2 from ⟨⟨bs ++ s.data.toList, hlen, .inr h2⟩, HB1.out.2.2.trans hb2, by rw [HTK.out, HP.out.all, hr]; rfl⟩)
        clear hlen h3
        clear h2 hb2
        go_wp2_with fail
        go_roundw
        case rel => exact ⟨k + 1, by omega, rfl, HN⟩
        case measure => simp [intOf]; omega
    · obtain rfl : k = l.length := by omega
      obtain ⟨bs, hbs, hB⟩ := HP.out.b
      have HF := Aside0.mk (show bodyE l = 0 from by unfold bodyE; have := HP.out.all; rw [List.take_length] at this; rw [this]; rfl)
      have HIB := Aside0.mk hB
      clear hB
      go_wp2_with (go_at_call 48; refine (Tryd.Builder_String_any w.heap.size w.heap.size bs _ HIB.out HP.out.w.size).mono ?_; rintro e w1 ⟨rfl, hb⟩; have HB1 := Aside0.mk hb; clear hb)
      go_ret2
      exact ⟨_, by rw [HF.out]; rfl, HP.out.w.trans HB1.out⟩
theorem closedN_drop {n : Nat} {l : List T3} {i : Nat} (h : i < l.length) (d : Int) : closedN n (l.drop i) i d = (if (at3 l (i : Int)).1 = 2 ∨ (at3 l (i : Int)).1 = 3 ∨ (at3 l (i : Int)).1 = 4 then closedN n (l.drop (i + 1)) (i + 1) (d + 1)
    else if (at3 l (i : Int)).1 = 11 then (if d - 1 = 0 then decide (i + 1 = n) else closedN n (l.drop (i + 1)) (i + 1) (d - 1)) else closedN n (l.drop (i + 1)) (i + 1) d) := by
  rw [List.drop_eq_getElem_cons h]
  have h2 : l[i] = at3 l (i : Int) := by
    unfold at3
    rw [Int.toNat_natCast, List.getD_eq_getElem?_getD, List.getElem?_eq_getElem h]
    rfl
  rw [h2]
  rfl
set_option maxHeartbeats 2000000 in
set_option maxRecDepth 100000 in
theorem closed_calls (A : Option Addr) (c : Nat) (l : List T3) (w : World) (hL : k3.C w A l.length l) (hc : l.length ≤ c) (hn : l.length ≤ 200) :
    Calls Tryd.prog 33 #[.slice A l.length c] w fun e w' => e = .returned (.bool (closedB l)) ∧ Below w.heap.size w w' := by
  have HL := Aside0.mk hL
  clear hL
  go_enter Tryd.func33, Tryd.ntmps33
  go_wp2_with fail
  go_loopw [3, 8] (fun dv iv wr => ∃ (k : Nat) (d : Int), k ≤ l.length ∧ iv = .int .i64 k ∧ dv = .int .i64 d ∧ 1 ≤ d ∧ d ≤ 1 + k ∧ Aside0 (closedN l.length (l.drop k) k d = closedB l) ∧ Aside0 (Below w.heap.size w wr)) (fun _ iv _ => l.length - (intOf iv).toNat)
  case atStart => exact ⟨0, 1, Nat.zero_le _, rfl, rfl, by omega, by omega, ⟨rfl⟩, ⟨Below.refl _ _⟩⟩
  case round =>
    obtain ⟨k, d, hk, rfl, rfl, hd1, hd2, HC, HW⟩ := hrel
    by_cases hlt : k < l.length
    · obtain ⟨ad, hA, hxa, hxb, hxc⟩ := at_k3 (Kd.C_below HL.out HW.out) (k : Int) (by omega) (by omega)
      rw [Int.toNat_natCast] at hxa hxb hxc
      have hcd := closedN_drop hlt d (n := l.length)
      rw [HC.out] at hcd
      obtain ⟨⟨op, n, m⟩, hx⟩ : ∃ x, at3 l (k : Int) = x := ⟨_, rfl⟩
      rw [hx] at hxa hxb hxc hcd
      dsimp only at hxa hxb hxc hcd
      have HCD := Aside0.mk hcd
      have HW1 := Aside0.mk (HW.out.alloc HW.out.size (xObj (op, n, m)))
      subst hA
      clear hx hcd HC
      by_cases h2 : op = 2
      · subst h2
        have HN := Aside0.mk (show closedN l.length (l.drop (k + 1)) (k + 1) (d + 1) = closedB l from by rw [HCD.out, if_pos (.inl rfl)])
        go_wp2_with fail
        go_roundw
        case rel => exact ⟨k + 1, d + 1, by omega, rfl, by go_num, by omega, by omega, HN, HW1⟩
        case measure => simp [intOf]; omega
      by_cases h3 : op = 3
      · subst h3
        have HN := Aside0.mk (show closedN l.length (l.drop (k + 1)) (k + 1) (d + 1) = closedB l from by rw [HCD.out, if_pos (.inr (.inl rfl))])
        go_wp2_with fail
        go_roundw
        case rel => exact ⟨k + 1, d + 1, by omega, rfl, by go_num, by omega, by omega, HN, HW1⟩
        case measure => simp [intOf]; omega
      by_cases h4 : op = 4
      · subst h4
        have HN := Aside0.mk (show closedN l.length (l.drop (k + 1)) (k + 1) (d + 1) = closedB l from by rw [HCD.out, if_pos (.inr (.inr rfl))])
        go_wp2_with fail
        go_roundw
        case rel => exact ⟨k + 1, d + 1, by omega, rfl, by go_num, by omega, by omega, HN, HW1⟩
        case measure => simp [intOf]; omega
      by_cases h11 : op = 11
      · subst h11
        have hcd := HCD.out
        rw [if_neg (by decide), if_pos rfl] at hcd
        by_cases hz : d - 1 = 0
        · rw [if_pos hz] at hcd
          have hd : d = 1 := by omega
          subst hd
          have HR := Aside0.mk hcd
          by_cases hl : k + 1 = l.length
          · have hkl : ((k : Int) == (l.length : Int) - 1) = true := by rw [beq_iff_eq]; omega
            go_wp2_with fail
            go_ret
            exact ⟨by first | rfl | (rw [HR.out, decide_eq_true hl]; rfl), HW1.out⟩
          · have hkl : ((k : Int) == (l.length : Int) - 1) = false := beq_eq_false_iff_ne.2 (by omega)
            go_wp2_with fail
            go_ret
            exact ⟨by first | rfl | (rw [HR.out, decide_eq_false hl]; rfl), HW1.out⟩
        · rw [if_neg hz] at hcd
          have HN := Aside0.mk hcd.symm
          have hdz : (d - 1 == 0) = false := beq_eq_false_iff_ne.2 hz
          clear hcd
          go_wp2_with fail
          go_roundw
          case rel => exact ⟨k + 1, d - 1, by omega, rfl, by go_num, by omega, by omega, HN, HW1⟩
          case measure => simp [intOf]; omega
      · have HN := Aside0.mk (show closedN l.length (l.drop (k + 1)) (k + 1) d = closedB l from by rw [HCD.out, if_neg (by rintro (h | h | h) <;> contradiction), if_neg h11])
        go_wp2_with fail
        go_roundw
        case rel => exact ⟨k + 1, d, by omega, rfl, by go_num, by omega, by omega, HN, HW1⟩
        case measure => simp [intOf]; omega
    · obtain rfl : k = l.length := by omega
      have HF := Aside0.mk (show closedB l = false from by rw [← HC.out, List.drop_length]; rfl)
      go_wp2_with fail
      go_ret
      exact ⟨by first | rfl | (rw [HF.out]; rfl), HW.out⟩
end Go.Proofs.YtjjhhmchomabeaaDoor.Valid
