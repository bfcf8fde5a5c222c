/- The reference's Uses: what an instruction reads, sorted by laying in, each once. -/
import Derived.Test.YtdcmeefeinppnaaRDefs
import Derived.Test.YtdcmeefeinppnaaEx16
namespace Go.Proofs.Ytdcmeefeinppnaa.Live
open Go.RowKit Go.Proofs.YtdcmeefeinppnaaW.PrintWords Go.Proofs.YtdcmeefeinppnaaW.PrintLast Go.Proofs.Ytdcmeefeinppnaa.Mem Go.Proofs.Ytdcmeefeinppnaa.Ir
open Uses (uses raw infoInt UsesOut)
open Ins
set_option linter.unusedVariables false
set_option linter.unusedSimpArgs false

theorem addr0 (g q : Nat) : (⟨g, 0, none⟩ : Addr).add q = ⟨g, q, none⟩ := by
  unfold Addr.add
  split
  · rename_i h; subst h; rfl
  · simp
structure Hold (P : Prop) : Prop where
  out : P
/-- what holds in Uses: the list to be laid in, the row so far -/
structure Ur (w W : World) (A : Option Addr) (L : List Int) (v : Value) (xs : List Int) : Prop where
  bel : Below w.heap.size w W
  src : (Kd.int .i64).C W A L.length L
  row : (Kd.int .i64).R 3 W w.heap.size (fun _ => True) v xs
/-- the new row, over the world where it began -/
structure Un (W0 W : World) (v : Value) (ys : List Int) : Prop where
  bel : Below W0.heap.size W0 W
  row : (Kd.int .i64).R 3 W W0.heap.size (fun _ => True) v ys
theorem Un.init (W : World) : Un W W (.slice none 0 0) [] := ⟨Below.refl _ _, Kd.R_nil _ _ _ _ _⟩
theorem Un.alloc {W0 W : World} {v : Value} {ys : List Int} (h : Un W0 W v ys) (o : Obj) : Un W0 (W.alloc o) v ys :=
  ⟨h.bel.alloc h.bel.size o, Kd.R_below h.row ((Below.refl _ _).alloc (Nat.le_refl _) o)⟩
theorem Ur.drewN {w W : World} {A : Option Addr} {L : List Int} {v : Value} {xs : List Int} (h : Ur w W A L v xs) (n : Nat) : Ur w (W.drewN n) A L v xs :=
  have hb := pw_below_drewN (Below.refl W.heap.size W) n
  ⟨h.bel.trans (hb.mono h.bel.size), Kd.C_below h.src hb, Kd.R_below h.row hb⟩
theorem Ur.next {w W W1 : World} {A : Option Addr} {L : List Int} {v v1 : Value} {xs ys : List Int} (h : Ur w W A L v xs) (hn : Un W W1 v1 ys) : Ur w W1 A L v1 ys :=
  ⟨h.bel.trans (hn.bel.mono h.bel.size), Kd.C_below h.src hn.bel, Kd.R_lower hn.row h.bel.size⟩
section
variable {ops : Array Oper} {rest : List Oper} {o : Oper} {a : Act} {Q : Exit → Act → World → Prop}
theorem wp_row {W0 W : World} {v : Value} {xs ys : List Int} (H : Aside0 (Un W0 W v xs)) (hgd : o.guard = none) (s x : Operand)
    (ho : o.op = .call { callee := .builtin .append, args := #[s, x], argTypes := #[26, 26] }) (A : Option Addr) (m c : Nat) (hs : a.eval s = v) (hx : a.eval x = .slice A m c) (HR : (Kd.int .i64).C W A m ys) (hl : xs.length + m < 100) (n : Nat) (hn : (xs ++ ys).length = n)
    (h : ∀ A1 c1 w1, Aside0 (Un W0 w1 (.slice A1 n c1) (xs ++ ys)) → wpList Try.prog ops Q rest (a.put o.dst (.slice A1 n c1)) w1) :
    wpList Try.prog ops Q (o :: rest) a W := by
  refine Kd.R_append_row (Value.int .i64) 0 (w0 := W0) W0.heap.size hgd s x 26 3 (.int .i64 0) 8 ho Try.underlying26 infoInt rfl (by decide) v xs ys A m c (fun _ => True) hs hx (fun _ _ => trivial) H.out.row HR H.out.bel H.out.bel.size (by omega) ?_
  intro v1 w1 hO hB hg hat
  obtain ⟨A1, c1, rfl⟩ := Kd.R_slice hO
  subst hn
  exact h A1 c1 w1 ⟨⟨hB, hO⟩⟩
end

set_option maxHeartbeats 4000000 in
set_option maxRecDepth 100000 in
theorem ru_select (op d a b c n m : Int) (w : World) (h : op = 4) : Calls Try.prog 44 #[.agg #[.int .i64 op, .int .i64 d, .int .i64 a, .int .i64 b, .int .i64 c, .int .i64 n, .int .i64 m]] w (UsesOut w (insAll [a, b, c])) := by
  subst h
  have HP := Aside0.mk (show Ur w ((w.alloc (.cells #[.int .i64 4, .int .i64 d, .int .i64 a, .int .i64 b, .int .i64 c, .int .i64 n, .int .i64 m] 38)).alloc (.cells #[.int .i64 a, .int .i64 b, .int .i64 c] 3)) (some ⟨w.heap.size + 1, 0, none⟩) [a, b, c] (.slice none 0 0) [] from ⟨((Below.refl w.heap.size w).alloc (Nat.le_refl _) _).alloc (by simp) _, C_ints [a, b, c] (by simp) (by have := blk_new (w.alloc (.cells #[.int .i64 4, .int .i64 d, .int .i64 a, .int .i64 b, .int .i64 c, .int .i64 n, .int .i64 m] 38)) (.cells #[.int .i64 a, .int .i64 b, .int .i64 c] 3); simpa using this), Kd.R_nil _ _ _ _ _⟩)
  go_enter Try.func44, Try.ntmps44
  go_wp2_with fail
  go_loopw [4, 5] (fun ov iv wr => ∃ q : Nat, q ≤ 3 ∧ iv = .int .i64 q ∧ Aside0 (Ur w wr (some ⟨w.heap.size + 1, 0, none⟩) [a, b, c] ov (insAll ([a, b, c].take q)))) (fun _ iv _ => 3 - (intOf iv).toNat)
  case atStart => exact ⟨0, Nat.zero_le _, rfl, HP⟩
  case round =>
    obtain ⟨q, hq, rfl, HP1⟩ := hrel
    clear HP
    obtain ⟨xs, hxs⟩ : ∃ xs, insAll ([a, b, c].take q) = xs := ⟨_, rfl⟩
    have hxl : xs.length ≤ q := by rw [← hxs]; exact Nat.le_trans (insAll_length _) (by rw [List.length_take]; omega)
    rw [hxs] at HP1
    obtain ⟨A1, c1, rfl, hc1, hC1⟩ := Kd.R_reads HP1.out.row
    by_cases hql : q < 3
    · obtain ⟨adw, e, hqc⟩ := Kd.at_int HP1.out.src (q : Int) (by omega) (by simp; omega)
      cases e
      rw [Int.toNat_natCast] at hqc
      replace hqc : wr.cell? ⟨w.heap.size + 1, q, none⟩ = some (.int .i64 (rd [a, b, c] (q : Int))) := by rw [addr0] at hqc; exact hqc
      obtain ⟨x, hx⟩ : ∃ x, rd [a, b, c] (q : Int) = x := ⟨_, rfl⟩
      have HNX := Aside0.mk (show insAll ([a, b, c].take (q + 1)) = ins xs x by rw [take_snoc (by simpa using hql), insAll_snoc, hxs, hx])
      have HC1 := Aside0.mk hC1
      obtain ⟨K, hK⟩ : ∃ K, pos xs x xs.length = K := ⟨_, rfl⟩
      have hKK := Aside0.mk hK
      clear hxs hC1
      go_wp2_with fail
      go_loopw [6] (fun kv wq => ∃ k : Nat, k ≤ xs.length ∧ kv = .int .i64 k ∧ pos xs x k = K ∧ Aside0 (Ur w wq (some ⟨w.heap.size + 1, 0, none⟩) [a, b, c] (.slice A1 xs.length c1) xs)) (fun kv _ => (intOf kv).toNat)
      case atStart => exact ⟨xs.length, Nat.le_refl _, rfl, hK, HP1⟩
      case round =>
        clear hK HP1 hqc HC1
        obtain ⟨k, hk, rfl, hK, HP2⟩ := hrel
        cases k with
        | zero =>
          have hK0 : pos xs x xs.length = 0 := by rw [hKK.out]; exact hK.symm
          clear hK
          have HC2 := Aside0.mk ((Kd.R_reads' HP2.out.row).2.2)
          obtain ⟨adw, e, hqc⟩ := Kd.at_int HP2.out.src (q : Int) (by omega) (by simp; omega)
          cases e
          rw [Int.toNat_natCast, hx] at hqc
          replace hqc : wr.cell? ⟨w.heap.size + 1, q, none⟩ = some (.int .i64 x) := by rw [addr0] at hqc; exact hqc
          have HI := Aside0.mk (show ins xs x = xs.take 0 ++ [x] ++ xs.drop 0 by unfold ins; simp only []; rw [hK0]; exact if_neg (fun e => by omega))
          go_wp2_with fail
          go_quiet (fail)
          go_wp2_with fail
          go_quiet (fail)
          have hk0 : (0 : Int) ≤ (0 : Int) := by omega
          have hkx : (0 : Int) ≤ (xs.length : Int) := by omega
          have hkc : (0 : Int) ≤ (c1 : Int) := by omega
          go_wp2_with (first
            | ((with_reducible refine gate_builtin (b := .append) (xs := #[.tmp 83, .tmp 86]) rfl ?_); at_builtin; refine wp_row (ys := xs.take 0) ⟨Un.init _⟩ rfl (.tmp 83) (.tmp 86) rfl A1 0 c1 rfl rfl (Kd.C_below (by have := Kd.C_take HC2.out (m := 0) (by omega); rw [List.length_take, Nat.min_eq_left (by omega)] at this; exact this) (pw_below_drewN (Below.refl _ _) _)) (by first | (simp; done) | (simp; omega)) 0 (by first | (simp; done) | (simp; omega)) ?_; intro A2 c2 w2 HU2; have hx2 := (HU2.out.bel.cell (World.block_lt_of_cell? _ _ hqc)).trans hqc; clear hqc)
            | ((with_reducible refine gate_builtin (b := .append) (xs := #[.tmp 88, .tmp 93]) rfl ?_); at_builtin; refine wp_row (ys := [x]) ⟨HU2.out.alloc _⟩ rfl (.tmp 88) (.tmp 93) rfl _ 1 1 rfl rfl (C_ints [x] (by simp) (blk_new _ _)) (by first | (simp; done) | (simp; omega)) (0 + 1) (by first | (simp; done) | (simp; omega)) ?_; intro A3 c3 w3 HU3)
            | ((with_reducible refine gate_builtin (b := .append) (xs := #[.tmp 95, .tmp 98]) rfl ?_); at_builtin; refine Hold.out ?_))
          all_goals refine Hold.mk ?_
          all_goals refine wp_row (ys := xs.drop 0) HU3 rfl (.tmp 95) (.tmp 98) rfl _ _ _ rfl rfl (by exact Kd.C_below (Kd.C_below HC2.out (pw_below_drewN (Below.refl _ _) _)) HU3.out.bel) (by first | (simp; done) | (simp; omega)) (xs.length + 1) (by first | (simp; done) | (simp; omega)) ?_
          all_goals
            intro A4 c4 w4 HU4
            go_wp2_with fail
            go_roundw
            case rel => exact ⟨q + 1, by omega, by go_num, by rw [HNX.out, HI.out]; exact ⟨(HP2.out.drewN _).next (by have := HU4.out; simpa using this)⟩⟩
            case measure => first | (simp [intOf]; done) | (simp [intOf]; omega)
        | succ j =>
          have HC2 := Aside0.mk ((Kd.R_reads' HP2.out.row).2.2)
          obtain ⟨adw, e, hqc⟩ := Kd.at_int HP2.out.src (q : Int) (by omega) (by simp; omega)
          cases e
          rw [Int.toNat_natCast, hx] at hqc
          replace hqc : wr.cell? ⟨w.heap.size + 1, q, none⟩ = some (.int .i64 x) := by rw [addr0] at hqc; exact hqc
          obtain ⟨ado, eo, hqo⟩ := Kd.at_int HC2.out (j : Int) (by omega) (by omega)
          subst eo
          rw [Int.toNat_natCast] at hqo
          by_cases hgt : rd xs (j : Int) > x
          · have hgb : decide (x < rd xs (j : Int)) = true := decide_eq_true hgt
            have HKJ := Aside0.mk (show pos xs x j = K from by rw [← hK]; exact (if_pos hgt).symm)
            clear hgt hK
            go_wp2_with fail
            go_quiet (fail)
            go_wp2_with fail
            go_roundw
            case rel => exact ⟨j, by omega, by go_num, HKJ.out, ⟨HP2.out.drewN _⟩⟩
            case measure => first | (simp [intOf]; done) | (simp [intOf]; omega)
          · have hgb : decide (x < rd xs (j : Int)) = false := decide_eq_false hgt
            have hKJ : K = j + 1 := by rw [← hK]; exact if_neg hgt
            clear hgt hK
            by_cases heq : rd xs (j : Int) = x
            · have heb : (rd xs (j : Int) == x) = true := by simpa using heq
              have HI := Aside0.mk (show ins xs x = xs by unfold ins; simp only []; rw [hKK.out, hKJ]; exact if_pos ⟨by omega, by rw [show ((j + 1 : Nat) : Int) - 1 = (j : Int) by omega]; exact heq⟩)
              clear heq hKJ
              go_wp2_with fail
              go_quiet (fail)
              go_wp2_with fail
              go_quiet (fail)
              go_wp2_with fail
              go_roundw
              case rel => exact ⟨q + 1, by omega, by go_num, by rw [HNX.out, HI.out]; exact ⟨HP2.out.drewN _⟩⟩
              case measure => first | (simp [intOf]; done) | (simp [intOf]; omega)
            · have heb : (rd xs (j : Int) == x) = false := by simpa using heq
              have HI := Aside0.mk (show ins xs x = xs.take (j + 1) ++ [x] ++ xs.drop (j + 1) by unfold ins; simp only []; rw [hKK.out, hKJ]; exact if_neg (fun e => heq (by rw [← e.2, show ((j + 1 : Nat) : Int) - 1 = (j : Int) by omega])))
              clear heq hKJ
              go_wp2_with fail
              go_quiet (fail)
              go_wp2_with fail
              go_quiet (fail)
              have hk0 : (0 : Int) ≤ ((j : Int) + 1) := by omega
              have hkx : ((j : Int) + 1) ≤ (xs.length : Int) := by omega
              have hkc : ((j : Int) + 1) ≤ (c1 : Int) := by omega
              go_wp2_with (first
                | ((with_reducible refine gate_builtin (b := .append) (xs := #[.tmp 83, .tmp 86]) rfl ?_); at_builtin; refine wp_row (ys := xs.take (j + 1)) ⟨Un.init _⟩ rfl (.tmp 83) (.tmp 86) rfl (some ado) (j + 1) c1 rfl rfl (Kd.C_below (by have := Kd.C_take HC2.out (m := (j + 1)) (by omega); rw [List.length_take, Nat.min_eq_left (by omega)] at this; exact this) (pw_below_drewN (Below.refl _ _) _)) (by first | (simp; done) | (simp; omega)) (j + 1) (by first | (simp; done) | (simp; omega)) ?_; intro A2 c2 w2 HU2; have hx2 := (HU2.out.bel.cell (World.block_lt_of_cell? _ _ hqc)).trans hqc; clear hqc)
                | ((with_reducible refine gate_builtin (b := .append) (xs := #[.tmp 88, .tmp 93]) rfl ?_); at_builtin; refine wp_row (ys := [x]) ⟨HU2.out.alloc _⟩ rfl (.tmp 88) (.tmp 93) rfl _ 1 1 rfl rfl (C_ints [x] (by simp) (blk_new _ _)) (by first | (simp; done) | (simp; omega)) ((j + 1) + 1) (by first | (simp; done) | (simp; omega)) ?_; intro A3 c3 w3 HU3)
                | ((with_reducible refine gate_builtin (b := .append) (xs := #[.tmp 95, .tmp 98]) rfl ?_); at_builtin; refine Hold.out ?_))
              all_goals refine Hold.mk ?_
              all_goals refine wp_row (ys := xs.drop (j + 1)) HU3 rfl (.tmp 95) (.tmp 98) rfl _ _ _ rfl rfl (by refine Kd.C_below (Kd.C_below ?_ (pw_below_drewN (Below.refl _ _) _)) HU3.out.bel; have hd := Kd.C_drop HC2.out (m := j + 1) (by omega) hc1; have hs : (Kd.int .i64).sz = 1 := rfl; rw [hs, Nat.mul_one, List.length_drop] at hd; first | (rw [if_pos (by omega)] at hd; exact hd) | (rw [if_neg (by omega)] at hd; exact hd)) (by first | (simp; done) | (simp; omega)) (xs.length + 1) (by first | (simp; done) | (simp; omega)) ?_
              all_goals
                intro A4 c4 w4 HU4
                go_wp2_with fail
                go_roundw
                case rel => exact ⟨q + 1, by omega, by go_num, by rw [HNX.out, HI.out]; exact ⟨(HP2.out.drewN _).next (by have := HU4.out; simpa using this)⟩⟩
                case measure => first | (simp [intOf]; done) | (simp [intOf]; omega)
    · go_wp2_with fail
      go_ret
      have hq3 : insAll ([a, b, c].take q) = insAll [a, b, c] := by rw [List.take_of_length_le (by simp; omega)]
      subst hxs
      exact ⟨_, rfl, by rw [← hq3]; exact HP1.out.row, HP1.out.bel⟩
set_option maxHeartbeats 4000000 in
set_option maxRecDepth 100000 in
theorem ru_3 (op d a b c n m : Int) (w : World) (h : op = 3) : Calls Try.prog 44 #[.agg #[.int .i64 op, .int .i64 d, .int .i64 a, .int .i64 b, .int .i64 c, .int .i64 n, .int .i64 m]] w (UsesOut w (insAll [a, b])) := by
  subst h
  have HP := Aside0.mk (show Ur w ((w.alloc (.cells #[.int .i64 3, .int .i64 d, .int .i64 a, .int .i64 b, .int .i64 c, .int .i64 n, .int .i64 m] 38)).alloc (.cells #[.int .i64 a, .int .i64 b] 3)) (some ⟨w.heap.size + 1, 0, none⟩) [a, b] (.slice none 0 0) [] from ⟨((Below.refl w.heap.size w).alloc (Nat.le_refl _) _).alloc (by simp) _, C_ints [a, b] (by simp) (by have := blk_new (w.alloc (.cells #[.int .i64 3, .int .i64 d, .int .i64 a, .int .i64 b, .int .i64 c, .int .i64 n, .int .i64 m] 38)) (.cells #[.int .i64 a, .int .i64 b] 3); simpa using this), Kd.R_nil _ _ _ _ _⟩)
  go_enter Try.func44, Try.ntmps44
  go_wp2_with fail
  go_loopw [4, 5] (fun ov iv wr => ∃ q : Nat, q ≤ 2 ∧ iv = .int .i64 q ∧ Aside0 (Ur w wr (some ⟨w.heap.size + 1, 0, none⟩) [a, b] ov (insAll ([a, b].take q)))) (fun _ iv _ => 2 - (intOf iv).toNat)
  case atStart => exact ⟨0, Nat.zero_le _, rfl, HP⟩
  case round =>
    obtain ⟨q, hq, rfl, HP1⟩ := hrel
    clear HP
    obtain ⟨xs, hxs⟩ : ∃ xs, insAll ([a, b].take q) = xs := ⟨_, rfl⟩
    have hxl : xs.length ≤ q := by rw [← hxs]; exact Nat.le_trans (insAll_length _) (by rw [List.length_take]; omega)
    rw [hxs] at HP1
    obtain ⟨A1, c1, rfl, hc1, hC1⟩ := Kd.R_reads HP1.out.row
    by_cases hql : q < 2
    · obtain ⟨adw, e, hqc⟩ := Kd.at_int HP1.out.src (q : Int) (by omega) (by simp; omega)
      cases e
      rw [Int.toNat_natCast] at hqc
      replace hqc : wr.cell? ⟨w.heap.size + 1, q, none⟩ = some (.int .i64 (rd [a, b] (q : Int))) := by rw [addr0] at hqc; exact hqc
      obtain ⟨x, hx⟩ : ∃ x, rd [a, b] (q : Int) = x := ⟨_, rfl⟩
      have HNX := Aside0.mk (show insAll ([a, b].take (q + 1)) = ins xs x by rw [take_snoc (by simpa using hql), insAll_snoc, hxs, hx])
      have HC1 := Aside0.mk hC1
      obtain ⟨K, hK⟩ : ∃ K, pos xs x xs.length = K := ⟨_, rfl⟩
      have hKK := Aside0.mk hK
      clear hxs hC1
      go_wp2_with fail
      go_loopw [6] (fun kv wq => ∃ k : Nat, k ≤ xs.length ∧ kv = .int .i64 k ∧ pos xs x k = K ∧ Aside0 (Ur w wq (some ⟨w.heap.size + 1, 0, none⟩) [a, b] (.slice A1 xs.length c1) xs)) (fun kv _ => (intOf kv).toNat)
      case atStart => exact ⟨xs.length, Nat.le_refl _, rfl, hK, HP1⟩
      case round =>
        clear hK HP1 hqc HC1
        obtain ⟨k, hk, rfl, hK, HP2⟩ := hrel
        cases k with
        | zero =>
          have hK0 : pos xs x xs.length = 0 := by rw [hKK.out]; exact hK.symm
          clear hK
          have HC2 := Aside0.mk ((Kd.R_reads' HP2.out.row).2.2)
          obtain ⟨adw, e, hqc⟩ := Kd.at_int HP2.out.src (q : Int) (by omega) (by simp; omega)
          cases e
          rw [Int.toNat_natCast, hx] at hqc
          replace hqc : wr.cell? ⟨w.heap.size + 1, q, none⟩ = some (.int .i64 x) := by rw [addr0] at hqc; exact hqc
          have HI := Aside0.mk (show ins xs x = xs.take 0 ++ [x] ++ xs.drop 0 by unfold ins; simp only []; rw [hK0]; exact if_neg (fun e => by omega))
          go_wp2_with fail
          go_quiet (fail)
          go_wp2_with fail
          go_quiet (fail)
          have hk0 : (0 : Int) ≤ (0 : Int) := by omega
          have hkx : (0 : Int) ≤ (xs.length : Int) := by omega
          have hkc : (0 : Int) ≤ (c1 : Int) := by omega
          go_wp2_with (first
            | ((with_reducible refine gate_builtin (b := .append) (xs := #[.tmp 83, .tmp 86]) rfl ?_); at_builtin; refine wp_row (ys := xs.take 0) ⟨Un.init _⟩ rfl (.tmp 83) (.tmp 86) rfl A1 0 c1 rfl rfl (Kd.C_below (by have := Kd.C_take HC2.out (m := 0) (by omega); rw [List.length_take, Nat.min_eq_left (by omega)] at this; exact this) (pw_below_drewN (Below.refl _ _) _)) (by first | (simp; done) | (simp; omega)) 0 (by first | (simp; done) | (simp; omega)) ?_; intro A2 c2 w2 HU2; have hx2 := (HU2.out.bel.cell (World.block_lt_of_cell? _ _ hqc)).trans hqc; clear hqc)
            | ((with_reducible refine gate_builtin (b := .append) (xs := #[.tmp 88, .tmp 93]) rfl ?_); at_builtin; refine wp_row (ys := [x]) ⟨HU2.out.alloc _⟩ rfl (.tmp 88) (.tmp 93) rfl _ 1 1 rfl rfl (C_ints [x] (by simp) (blk_new _ _)) (by first | (simp; done) | (simp; omega)) (0 + 1) (by first | (simp; done) | (simp; omega)) ?_; intro A3 c3 w3 HU3)
            | ((with_reducible refine gate_builtin (b := .append) (xs := #[.tmp 95, .tmp 98]) rfl ?_); at_builtin; refine Hold.out ?_))
          all_goals refine Hold.mk ?_
          all_goals refine wp_row (ys := xs.drop 0) HU3 rfl (.tmp 95) (.tmp 98) rfl _ _ _ rfl rfl (by exact Kd.C_below (Kd.C_below HC2.out (pw_below_drewN (Below.refl _ _) _)) HU3.out.bel) (by first | (simp; done) | (simp; omega)) (xs.length + 1) (by first | (simp; done) | (simp; omega)) ?_
          all_goals
            intro A4 c4 w4 HU4
            go_wp2_with fail
            go_roundw
            case rel => exact ⟨q + 1, by omega, by go_num, by rw [HNX.out, HI.out]; exact ⟨(HP2.out.drewN _).next (by have := HU4.out; simpa using this)⟩⟩
            case measure => first | (simp [intOf]; done) | (simp [intOf]; omega)
        | succ j =>
          have HC2 := Aside0.mk ((Kd.R_reads' HP2.out.row).2.2)
          obtain ⟨adw, e, hqc⟩ := Kd.at_int HP2.out.src (q : Int) (by omega) (by simp; omega)
          cases e
          rw [Int.toNat_natCast, hx] at hqc
          replace hqc : wr.cell? ⟨w.heap.size + 1, q, none⟩ = some (.int .i64 x) := by rw [addr0] at hqc; exact hqc
          obtain ⟨ado, eo, hqo⟩ := Kd.at_int HC2.out (j : Int) (by omega) (by omega)
          subst eo
          rw [Int.toNat_natCast] at hqo
          by_cases hgt : rd xs (j : Int) > x
          · have hgb : decide (x < rd xs (j : Int)) = true := decide_eq_true hgt
            have HKJ := Aside0.mk (show pos xs x j = K from by rw [← hK]; exact (if_pos hgt).symm)
            clear hgt hK
            go_wp2_with fail
            go_quiet (fail)
            go_wp2_with fail
            go_roundw
            case rel => exact ⟨j, by omega, by go_num, HKJ.out, ⟨HP2.out.drewN _⟩⟩
            case measure => first | (simp [intOf]; done) | (simp [intOf]; omega)
          · have hgb : decide (x < rd xs (j : Int)) = false := decide_eq_false hgt
            have hKJ : K = j + 1 := by rw [← hK]; exact if_neg hgt
            clear hgt hK
            by_cases heq : rd xs (j : Int) = x
            · have heb : (rd xs (j : Int) == x) = true := by simpa using heq
              have HI := Aside0.mk (show ins xs x = xs by unfold ins; simp only []; rw [hKK.out, hKJ]; exact if_pos ⟨by omega, by rw [show ((j + 1 : Nat) : Int) - 1 = (j : Int) by omega]; exact heq⟩)
              clear heq hKJ
              go_wp2_with fail
              go_quiet (fail)
              go_wp2_with fail
              go_quiet (fail)
              go_wp2_with fail
              go_roundw
              case rel => exact ⟨q + 1, by omega, by go_num, by rw [HNX.out, HI.out]; exact ⟨HP2.out.drewN _⟩⟩
              case measure => first | (simp [intOf]; done) | (simp [intOf]; omega)
            · have heb : (rd xs (j : Int) == x) = false := by simpa using heq
              have HI := Aside0.mk (show ins xs x = xs.take (j + 1) ++ [x] ++ xs.drop (j + 1) by unfold ins; simp only []; rw [hKK.out, hKJ]; exact if_neg (fun e => heq (by rw [← e.2, show ((j + 1 : Nat) : Int) - 1 = (j : Int) by omega])))
              clear heq hKJ
              go_wp2_with fail
              go_quiet (fail)
              go_wp2_with fail
              go_quiet (fail)
              have hk0 : (0 : Int) ≤ ((j : Int) + 1) := by omega
              have hkx : ((j : Int) + 1) ≤ (xs.length : Int) := by omega
              have hkc : ((j : Int) + 1) ≤ (c1 : Int) := by omega
              go_wp2_with (first
                | ((with_reducible refine gate_builtin (b := .append) (xs := #[.tmp 83, .tmp 86]) rfl ?_); at_builtin; refine wp_row (ys := xs.take (j + 1)) ⟨Un.init _⟩ rfl (.tmp 83) (.tmp 86) rfl (some ado) (j + 1) c1 rfl rfl (Kd.C_below (by have := Kd.C_take HC2.out (m := (j + 1)) (by omega); rw [List.length_take, Nat.min_eq_left (by omega)] at this; exact this) (pw_below_drewN (Below.refl _ _) _)) (by first | (simp; done) | (simp; omega)) (j + 1) (by first | (simp; done) | (simp; omega)) ?_; intro A2 c2 w2 HU2; have hx2 := (HU2.out.bel.cell (World.block_lt_of_cell? _ _ hqc)).trans hqc; clear hqc)
                | ((with_reducible refine gate_builtin (b := .append) (xs := #[.tmp 88, .tmp 93]) rfl ?_); at_builtin; refine wp_row (ys := [x]) ⟨HU2.out.alloc _⟩ rfl (.tmp 88) (.tmp 93) rfl _ 1 1 rfl rfl (C_ints [x] (by simp) (blk_new _ _)) (by first | (simp; done) | (simp; omega)) ((j + 1) + 1) (by first | (simp; done) | (simp; omega)) ?_; intro A3 c3 w3 HU3)
                | ((with_reducible refine gate_builtin (b := .append) (xs := #[.tmp 95, .tmp 98]) rfl ?_); at_builtin; refine Hold.out ?_))
              all_goals refine Hold.mk ?_
              all_goals refine wp_row (ys := xs.drop (j + 1)) HU3 rfl (.tmp 95) (.tmp 98) rfl _ _ _ rfl rfl (by refine Kd.C_below (Kd.C_below ?_ (pw_below_drewN (Below.refl _ _) _)) HU3.out.bel; have hd := Kd.C_drop HC2.out (m := j + 1) (by omega) hc1; have hs : (Kd.int .i64).sz = 1 := rfl; rw [hs, Nat.mul_one, List.length_drop] at hd; first | (rw [if_pos (by omega)] at hd; exact hd) | (rw [if_neg (by omega)] at hd; exact hd)) (by first | (simp; done) | (simp; omega)) (xs.length + 1) (by first | (simp; done) | (simp; omega)) ?_
              all_goals
                intro A4 c4 w4 HU4
                go_wp2_with fail
                go_roundw
                case rel => exact ⟨q + 1, by omega, by go_num, by rw [HNX.out, HI.out]; exact ⟨(HP2.out.drewN _).next (by have := HU4.out; simpa using this)⟩⟩
                case measure => first | (simp [intOf]; done) | (simp [intOf]; omega)
    · go_wp2_with fail
      go_ret
      have hq3 : insAll ([a, b].take q) = insAll [a, b] := by rw [List.take_of_length_le (by simp; omega)]
      subst hxs
      exact ⟨_, rfl, by rw [← hq3]; exact HP1.out.row, HP1.out.bel⟩
set_option maxHeartbeats 4000000 in
set_option maxRecDepth 100000 in
theorem ru_6 (op d a b c n m : Int) (w : World) (h : op = 6) : Calls Try.prog 44 #[.agg #[.int .i64 op, .int .i64 d, .int .i64 a, .int .i64 b, .int .i64 c, .int .i64 n, .int .i64 m]] w (UsesOut w (insAll [a, b])) := by
  subst h
  have HP := Aside0.mk (show Ur w ((w.alloc (.cells #[.int .i64 6, .int .i64 d, .int .i64 a, .int .i64 b, .int .i64 c, .int .i64 n, .int .i64 m] 38)).alloc (.cells #[.int .i64 a, .int .i64 b] 3)) (some ⟨w.heap.size + 1, 0, none⟩) [a, b] (.slice none 0 0) [] from ⟨((Below.refl w.heap.size w).alloc (Nat.le_refl _) _).alloc (by simp) _, C_ints [a, b] (by simp) (by have := blk_new (w.alloc (.cells #[.int .i64 6, .int .i64 d, .int .i64 a, .int .i64 b, .int .i64 c, .int .i64 n, .int .i64 m] 38)) (.cells #[.int .i64 a, .int .i64 b] 3); simpa using this), Kd.R_nil _ _ _ _ _⟩)
  go_enter Try.func44, Try.ntmps44
  go_wp2_with fail
  go_loopw [4, 5] (fun ov iv wr => ∃ q : Nat, q ≤ 2 ∧ iv = .int .i64 q ∧ Aside0 (Ur w wr (some ⟨w.heap.size + 1, 0, none⟩) [a, b] ov (insAll ([a, b].take q)))) (fun _ iv _ => 2 - (intOf iv).toNat)
  case atStart => exact ⟨0, Nat.zero_le _, rfl, HP⟩
  case round =>
    obtain ⟨q, hq, rfl, HP1⟩ := hrel
    clear HP
    obtain ⟨xs, hxs⟩ : ∃ xs, insAll ([a, b].take q) = xs := ⟨_, rfl⟩
    have hxl : xs.length ≤ q := by rw [← hxs]; exact Nat.le_trans (insAll_length _) (by rw [List.length_take]; omega)
    rw [hxs] at HP1
    obtain ⟨A1, c1, rfl, hc1, hC1⟩ := Kd.R_reads HP1.out.row
    by_cases hql : q < 2
    · obtain ⟨adw, e, hqc⟩ := Kd.at_int HP1.out.src (q : Int) (by omega) (by simp; omega)
      cases e
      rw [Int.toNat_natCast] at hqc
      replace hqc : wr.cell? ⟨w.heap.size + 1, q, none⟩ = some (.int .i64 (rd [a, b] (q : Int))) := by rw [addr0] at hqc; exact hqc
      obtain ⟨x, hx⟩ : ∃ x, rd [a, b] (q : Int) = x := ⟨_, rfl⟩
      have HNX := Aside0.mk (show insAll ([a, b].take (q + 1)) = ins xs x by rw [take_snoc (by simpa using hql), insAll_snoc, hxs, hx])
      have HC1 := Aside0.mk hC1
      obtain ⟨K, hK⟩ : ∃ K, pos xs x xs.length = K := ⟨_, rfl⟩
      have hKK := Aside0.mk hK
      clear hxs hC1
      go_wp2_with fail
      go_loopw [6] (fun kv wq => ∃ k : Nat, k ≤ xs.length ∧ kv = .int .i64 k ∧ pos xs x k = K ∧ Aside0 (Ur w wq (some ⟨w.heap.size + 1, 0, none⟩) [a, b] (.slice A1 xs.length c1) xs)) (fun kv _ => (intOf kv).toNat)
      case atStart => exact ⟨xs.length, Nat.le_refl _, rfl, hK, HP1⟩
      case round =>
        clear hK HP1 hqc HC1
        obtain ⟨k, hk, rfl, hK, HP2⟩ := hrel
        cases k with
        | zero =>
          have hK0 : pos xs x xs.length = 0 := by rw [hKK.out]; exact hK.symm
          clear hK
          have HC2 := Aside0.mk ((Kd.R_reads' HP2.out.row).2.2)
          obtain ⟨adw, e, hqc⟩ := Kd.at_int HP2.out.src (q : Int) (by omega) (by simp; omega)
          cases e
          rw [Int.toNat_natCast, hx] at hqc
          replace hqc : wr.cell? ⟨w.heap.size + 1, q, none⟩ = some (.int .i64 x) := by rw [addr0] at hqc; exact hqc
          have HI := Aside0.mk (show ins xs x = xs.take 0 ++ [x] ++ xs.drop 0 by unfold ins; simp only []; rw [hK0]; exact if_neg (fun e => by omega))
          go_wp2_with fail
          go_quiet (fail)
          go_wp2_with fail
          go_quiet (fail)
          have hk0 : (0 : Int) ≤ (0 : Int) := by omega
          have hkx : (0 : Int) ≤ (xs.length : Int) := by omega
          have hkc : (0 : Int) ≤ (c1 : Int) := by omega
          go_wp2_with (first
            | ((with_reducible refine gate_builtin (b := .append) (xs := #[.tmp 83, .tmp 86]) rfl ?_); at_builtin; refine wp_row (ys := xs.take 0) ⟨Un.init _⟩ rfl (.tmp 83) (.tmp 86) rfl A1 0 c1 rfl rfl (Kd.C_below (by have := Kd.C_take HC2.out (m := 0) (by omega); rw [List.length_take, Nat.min_eq_left (by omega)] at this; exact this) (pw_below_drewN (Below.refl _ _) _)) (by first | (simp; done) | (simp; omega)) 0 (by first | (simp; done) | (simp; omega)) ?_; intro A2 c2 w2 HU2; have hx2 := (HU2.out.bel.cell (World.block_lt_of_cell? _ _ hqc)).trans hqc; clear hqc)
            | ((with_reducible refine gate_builtin (b := .append) (xs := #[.tmp 88, .tmp 93]) rfl ?_); at_builtin; refine wp_row (ys := [x]) ⟨HU2.out.alloc _⟩ rfl (.tmp 88) (.tmp 93) rfl _ 1 1 rfl rfl (C_ints [x] (by simp) (blk_new _ _)) (by first | (simp; done) | (simp; omega)) (0 + 1) (by first | (simp; done) | (simp; omega)) ?_; intro A3 c3 w3 HU3)
            | ((with_reducible refine gate_builtin (b := .append) (xs := #[.tmp 95, .tmp 98]) rfl ?_); at_builtin; refine Hold.out ?_))
          all_goals refine Hold.mk ?_
          all_goals refine wp_row (ys := xs.drop 0) HU3 rfl (.tmp 95) (.tmp 98) rfl _ _ _ rfl rfl (by exact Kd.C_below (Kd.C_below HC2.out (pw_below_drewN (Below.refl _ _) _)) HU3.out.bel) (by first | (simp; done) | (simp; omega)) (xs.length + 1) (by first | (simp; done) | (simp; omega)) ?_
          all_goals
            intro A4 c4 w4 HU4
            go_wp2_with fail
            go_roundw
            case rel => exact ⟨q + 1, by omega, by go_num, by rw [HNX.out, HI.out]; exact ⟨(HP2.out.drewN _).next (by have := HU4.out; simpa using this)⟩⟩
            case measure => first | (simp [intOf]; done) | (simp [intOf]; omega)
        | succ j =>
          have HC2 := Aside0.mk ((Kd.R_reads' HP2.out.row).2.2)
          obtain ⟨adw, e, hqc⟩ := Kd.at_int HP2.out.src (q : Int) (by omega) (by simp; omega)
          cases e
          rw [Int.toNat_natCast, hx] at hqc
          replace hqc : wr.cell? ⟨w.heap.size + 1, q, none⟩ = some (.int .i64 x) := by rw [addr0] at hqc; exact hqc
          obtain ⟨ado, eo, hqo⟩ := Kd.at_int HC2.out (j : Int) (by omega) (by omega)
          subst eo
          rw [Int.toNat_natCast] at hqo
          by_cases hgt : rd xs (j : Int) > x
          · have hgb : decide (x < rd xs (j : Int)) = true := decide_eq_true hgt
            have HKJ := Aside0.mk (show pos xs x j = K from by rw [← hK]; exact (if_pos hgt).symm)
            clear hgt hK
            go_wp2_with fail
            go_quiet (fail)
            go_wp2_with fail
            go_roundw
            case rel => exact ⟨j, by omega, by go_num, HKJ.out, ⟨HP2.out.drewN _⟩⟩
            case measure => first | (simp [intOf]; done) | (simp [intOf]; omega)
          · have hgb : decide (x < rd xs (j : Int)) = false := decide_eq_false hgt
            have hKJ : K = j + 1 := by rw [← hK]; exact if_neg hgt
            clear hgt hK
            by_cases heq : rd xs (j : Int) = x
            · have heb : (rd xs (j : Int) == x) = true := by simpa using heq
              have HI := Aside0.mk (show ins xs x = xs by unfold ins; simp only []; rw [hKK.out, hKJ]; exact if_pos ⟨by omega, by rw [show ((j + 1 : Nat) : Int) - 1 = (j : Int) by omega]; exact heq⟩)
              clear heq hKJ
              go_wp2_with fail
              go_quiet (fail)
              go_wp2_with fail
              go_quiet (fail)
              go_wp2_with fail
              go_roundw
              case rel => exact ⟨q + 1, by omega, by go_num, by rw [HNX.out, HI.out]; exact ⟨HP2.out.drewN _⟩⟩
              case measure => first | (simp [intOf]; done) | (simp [intOf]; omega)
            · have heb : (rd xs (j : Int) == x) = false := by simpa using heq
              have HI := Aside0.mk (show ins xs x = xs.take (j + 1) ++ [x] ++ xs.drop (j + 1) by unfold ins; simp only []; rw [hKK.out, hKJ]; exact if_neg (fun e => heq (by rw [← e.2, show ((j + 1 : Nat) : Int) - 1 = (j : Int) by omega])))
              clear heq hKJ
              go_wp2_with fail
              go_quiet (fail)
              go_wp2_with fail
              go_quiet (fail)
              have hk0 : (0 : Int) ≤ ((j : Int) + 1) := by omega
              have hkx : ((j : Int) + 1) ≤ (xs.length : Int) := by omega
              have hkc : ((j : Int) + 1) ≤ (c1 : Int) := by omega
              go_wp2_with (first
                | ((with_reducible refine gate_builtin (b := .append) (xs := #[.tmp 83, .tmp 86]) rfl ?_); at_builtin; refine wp_row (ys := xs.take (j + 1)) ⟨Un.init _⟩ rfl (.tmp 83) (.tmp 86) rfl (some ado) (j + 1) c1 rfl rfl (Kd.C_below (by have := Kd.C_take HC2.out (m := (j + 1)) (by omega); rw [List.length_take, Nat.min_eq_left (by omega)] at this; exact this) (pw_below_drewN (Below.refl _ _) _)) (by first | (simp; done) | (simp; omega)) (j + 1) (by first | (simp; done) | (simp; omega)) ?_; intro A2 c2 w2 HU2; have hx2 := (HU2.out.bel.cell (World.block_lt_of_cell? _ _ hqc)).trans hqc; clear hqc)
                | ((with_reducible refine gate_builtin (b := .append) (xs := #[.tmp 88, .tmp 93]) rfl ?_); at_builtin; refine wp_row (ys := [x]) ⟨HU2.out.alloc _⟩ rfl (.tmp 88) (.tmp 93) rfl _ 1 1 rfl rfl (C_ints [x] (by simp) (blk_new _ _)) (by first | (simp; done) | (simp; omega)) ((j + 1) + 1) (by first | (simp; done) | (simp; omega)) ?_; intro A3 c3 w3 HU3)
                | ((with_reducible refine gate_builtin (b := .append) (xs := #[.tmp 95, .tmp 98]) rfl ?_); at_builtin; refine Hold.out ?_))
              all_goals refine Hold.mk ?_
              all_goals refine wp_row (ys := xs.drop (j + 1)) HU3 rfl (.tmp 95) (.tmp 98) rfl _ _ _ rfl rfl (by refine Kd.C_below (Kd.C_below ?_ (pw_below_drewN (Below.refl _ _) _)) HU3.out.bel; have hd := Kd.C_drop HC2.out (m := j + 1) (by omega) hc1; have hs : (Kd.int .i64).sz = 1 := rfl; rw [hs, Nat.mul_one, List.length_drop] at hd; first | (rw [if_pos (by omega)] at hd; exact hd) | (rw [if_neg (by omega)] at hd; exact hd)) (by first | (simp; done) | (simp; omega)) (xs.length + 1) (by first | (simp; done) | (simp; omega)) ?_
              all_goals
                intro A4 c4 w4 HU4
                go_wp2_with fail
                go_roundw
                case rel => exact ⟨q + 1, by omega, by go_num, by rw [HNX.out, HI.out]; exact ⟨(HP2.out.drewN _).next (by have := HU4.out; simpa using this)⟩⟩
                case measure => first | (simp [intOf]; done) | (simp [intOf]; omega)
    · go_wp2_with fail
      go_ret
      have hq3 : insAll ([a, b].take q) = insAll [a, b] := by rw [List.take_of_length_le (by simp; omega)]
      subst hxs
      exact ⟨_, rfl, by rw [← hq3]; exact HP1.out.row, HP1.out.bel⟩
set_option maxHeartbeats 4000000 in
set_option maxRecDepth 100000 in
theorem ru_2 (op d a b c n m : Int) (w : World) (h : op = 2) : Calls Try.prog 44 #[.agg #[.int .i64 op, .int .i64 d, .int .i64 a, .int .i64 b, .int .i64 c, .int .i64 n, .int .i64 m]] w (UsesOut w (insAll [a])) := by
  subst h
  have HP := Aside0.mk (show Ur w ((w.alloc (.cells #[.int .i64 2, .int .i64 d, .int .i64 a, .int .i64 b, .int .i64 c, .int .i64 n, .int .i64 m] 38)).alloc (.cells #[.int .i64 a] 3)) (some ⟨w.heap.size + 1, 0, none⟩) [a] (.slice none 0 0) [] from ⟨((Below.refl w.heap.size w).alloc (Nat.le_refl _) _).alloc (by simp) _, C_ints [a] (by simp) (by have := blk_new (w.alloc (.cells #[.int .i64 2, .int .i64 d, .int .i64 a, .int .i64 b, .int .i64 c, .int .i64 n, .int .i64 m] 38)) (.cells #[.int .i64 a] 3); simpa using this), Kd.R_nil _ _ _ _ _⟩)
  go_enter Try.func44, Try.ntmps44
  go_wp2_with fail
  go_loopw [4, 5] (fun ov iv wr => ∃ q : Nat, q ≤ 1 ∧ iv = .int .i64 q ∧ Aside0 (Ur w wr (some ⟨w.heap.size + 1, 0, none⟩) [a] ov (insAll ([a].take q)))) (fun _ iv _ => 1 - (intOf iv).toNat)
  case atStart => exact ⟨0, Nat.zero_le _, rfl, HP⟩
  case round =>
    obtain ⟨q, hq, rfl, HP1⟩ := hrel
    clear HP
    obtain ⟨xs, hxs⟩ : ∃ xs, insAll ([a].take q) = xs := ⟨_, rfl⟩
    have hxl : xs.length ≤ q := by rw [← hxs]; exact Nat.le_trans (insAll_length _) (by rw [List.length_take]; omega)
    rw [hxs] at HP1
    obtain ⟨A1, c1, rfl, hc1, hC1⟩ := Kd.R_reads HP1.out.row
    by_cases hql : q < 1
    · obtain ⟨adw, e, hqc⟩ := Kd.at_int HP1.out.src (q : Int) (by omega) (by simp; omega)
      cases e
      rw [Int.toNat_natCast] at hqc
      replace hqc : wr.cell? ⟨w.heap.size + 1, q, none⟩ = some (.int .i64 (rd [a] (q : Int))) := by rw [addr0] at hqc; exact hqc
      obtain ⟨x, hx⟩ : ∃ x, rd [a] (q : Int) = x := ⟨_, rfl⟩
      have HNX := Aside0.mk (show insAll ([a].take (q + 1)) = ins xs x by rw [take_snoc (by simpa using hql), insAll_snoc, hxs, hx])
      have HC1 := Aside0.mk hC1
      obtain ⟨K, hK⟩ : ∃ K, pos xs x xs.length = K := ⟨_, rfl⟩
      have hKK := Aside0.mk hK
      clear hxs hC1
      go_wp2_with fail
      go_loopw [6] (fun kv wq => ∃ k : Nat, k ≤ xs.length ∧ kv = .int .i64 k ∧ pos xs x k = K ∧ Aside0 (Ur w wq (some ⟨w.heap.size + 1, 0, none⟩) [a] (.slice A1 xs.length c1) xs)) (fun kv _ => (intOf kv).toNat)
      case atStart => exact ⟨xs.length, Nat.le_refl _, rfl, hK, HP1⟩
      case round =>
        clear hK HP1 hqc HC1
        obtain ⟨k, hk, rfl, hK, HP2⟩ := hrel
        cases k with
        | zero =>
          have hK0 : pos xs x xs.length = 0 := by rw [hKK.out]; exact hK.symm
          clear hK
          have HC2 := Aside0.mk ((Kd.R_reads' HP2.out.row).2.2)
          obtain ⟨adw, e, hqc⟩ := Kd.at_int HP2.out.src (q : Int) (by omega) (by simp; omega)
          cases e
          rw [Int.toNat_natCast, hx] at hqc
          replace hqc : wr.cell? ⟨w.heap.size + 1, q, none⟩ = some (.int .i64 x) := by rw [addr0] at hqc; exact hqc
          have HI := Aside0.mk (show ins xs x = xs.take 0 ++ [x] ++ xs.drop 0 by unfold ins; simp only []; rw [hK0]; exact if_neg (fun e => by omega))
          go_wp2_with fail
          go_quiet (fail)
          go_wp2_with fail
          go_quiet (fail)
          have hk0 : (0 : Int) ≤ (0 : Int) := by omega
          have hkx : (0 : Int) ≤ (xs.length : Int) := by omega
          have hkc : (0 : Int) ≤ (c1 : Int) := by omega
          go_wp2_with (first
            | ((with_reducible refine gate_builtin (b := .append) (xs := #[.tmp 83, .tmp 86]) rfl ?_); at_builtin; refine wp_row (ys := xs.take 0) ⟨Un.init _⟩ rfl (.tmp 83) (.tmp 86) rfl A1 0 c1 rfl rfl (Kd.C_below (by have := Kd.C_take HC2.out (m := 0) (by omega); rw [List.length_take, Nat.min_eq_left (by omega)] at this; exact this) (pw_below_drewN (Below.refl _ _) _)) (by first | (simp; done) | (simp; omega)) 0 (by first | (simp; done) | (simp; omega)) ?_; intro A2 c2 w2 HU2; have hx2 := (HU2.out.bel.cell (World.block_lt_of_cell? _ _ hqc)).trans hqc; clear hqc)
            | ((with_reducible refine gate_builtin (b := .append) (xs := #[.tmp 88, .tmp 93]) rfl ?_); at_builtin; refine wp_row (ys := [x]) ⟨HU2.out.alloc _⟩ rfl (.tmp 88) (.tmp 93) rfl _ 1 1 rfl rfl (C_ints [x] (by simp) (blk_new _ _)) (by first | (simp; done) | (simp; omega)) (0 + 1) (by first | (simp; done) | (simp; omega)) ?_; intro A3 c3 w3 HU3)
            | ((with_reducible refine gate_builtin (b := .append) (xs := #[.tmp 95, .tmp 98]) rfl ?_); at_builtin; refine Hold.out ?_))
          all_goals refine Hold.mk ?_
          all_goals refine wp_row (ys := xs.drop 0) HU3 rfl (.tmp 95) (.tmp 98) rfl _ _ _ rfl rfl (by exact Kd.C_below (Kd.C_below HC2.out (pw_below_drewN (Below.refl _ _) _)) HU3.out.bel) (by first | (simp; done) | (simp; omega)) (xs.length + 1) (by first | (simp; done) | (simp; omega)) ?_
          all_goals
            intro A4 c4 w4 HU4
            go_wp2_with fail
            go_roundw
            case rel => exact ⟨q + 1, by omega, by go_num, by rw [HNX.out, HI.out]; exact ⟨(HP2.out.drewN _).next (by have := HU4.out; simpa using this)⟩⟩
            case measure => first | (simp [intOf]; done) | (simp [intOf]; omega)
        | succ j => exfalso; omega
    · go_wp2_with fail
      go_ret
      have hq3 : insAll ([a].take q) = insAll [a] := by rw [List.take_of_length_le (by simp; omega)]
      subst hxs
      exact ⟨_, rfl, by rw [← hq3]; exact HP1.out.row, HP1.out.bel⟩
set_option maxHeartbeats 4000000 in
set_option maxRecDepth 100000 in
theorem ru_8 (op d a b c n m : Int) (w : World) (h : op = 8) : Calls Try.prog 44 #[.agg #[.int .i64 op, .int .i64 d, .int .i64 a, .int .i64 b, .int .i64 c, .int .i64 n, .int .i64 m]] w (UsesOut w (insAll [a])) := by
  subst h
  have HP := Aside0.mk (show Ur w ((w.alloc (.cells #[.int .i64 8, .int .i64 d, .int .i64 a, .int .i64 b, .int .i64 c, .int .i64 n, .int .i64 m] 38)).alloc (.cells #[.int .i64 a] 3)) (some ⟨w.heap.size + 1, 0, none⟩) [a] (.slice none 0 0) [] from ⟨((Below.refl w.heap.size w).alloc (Nat.le_refl _) _).alloc (by simp) _, C_ints [a] (by simp) (by have := blk_new (w.alloc (.cells #[.int .i64 8, .int .i64 d, .int .i64 a, .int .i64 b, .int .i64 c, .int .i64 n, .int .i64 m] 38)) (.cells #[.int .i64 a] 3); simpa using this), Kd.R_nil _ _ _ _ _⟩)
  go_enter Try.func44, Try.ntmps44
  go_wp2_with fail
  go_loopw [4, 5] (fun ov iv wr => ∃ q : Nat, q ≤ 1 ∧ iv = .int .i64 q ∧ Aside0 (Ur w wr (some ⟨w.heap.size + 1, 0, none⟩) [a] ov (insAll ([a].take q)))) (fun _ iv _ => 1 - (intOf iv).toNat)
  case atStart => exact ⟨0, Nat.zero_le _, rfl, HP⟩
  case round =>
    obtain ⟨q, hq, rfl, HP1⟩ := hrel
    clear HP
    obtain ⟨xs, hxs⟩ : ∃ xs, insAll ([a].take q) = xs := ⟨_, rfl⟩
    have hxl : xs.length ≤ q := by rw [← hxs]; exact Nat.le_trans (insAll_length _) (by rw [List.length_take]; omega)
    rw [hxs] at HP1
    obtain ⟨A1, c1, rfl, hc1, hC1⟩ := Kd.R_reads HP1.out.row
    by_cases hql : q < 1
    · obtain ⟨adw, e, hqc⟩ := Kd.at_int HP1.out.src (q : Int) (by omega) (by simp; omega)
      cases e
      rw [Int.toNat_natCast] at hqc
      replace hqc : wr.cell? ⟨w.heap.size + 1, q, none⟩ = some (.int .i64 (rd [a] (q : Int))) := by rw [addr0] at hqc; exact hqc
      obtain ⟨x, hx⟩ : ∃ x, rd [a] (q : Int) = x := ⟨_, rfl⟩
      have HNX := Aside0.mk (show insAll ([a].take (q + 1)) = ins xs x by rw [take_snoc (by simpa using hql), insAll_snoc, hxs, hx])
      have HC1 := Aside0.mk hC1
      obtain ⟨K, hK⟩ : ∃ K, pos xs x xs.length = K := ⟨_, rfl⟩
      have hKK := Aside0.mk hK
      clear hxs hC1
      go_wp2_with fail
      go_loopw [6] (fun kv wq => ∃ k : Nat, k ≤ xs.length ∧ kv = .int .i64 k ∧ pos xs x k = K ∧ Aside0 (Ur w wq (some ⟨w.heap.size + 1, 0, none⟩) [a] (.slice A1 xs.length c1) xs)) (fun kv _ => (intOf kv).toNat)
      case atStart => exact ⟨xs.length, Nat.le_refl _, rfl, hK, HP1⟩
      case round =>
        clear hK HP1 hqc HC1
        obtain ⟨k, hk, rfl, hK, HP2⟩ := hrel
        cases k with
        | zero =>
          have hK0 : pos xs x xs.length = 0 := by rw [hKK.out]; exact hK.symm
          clear hK
          have HC2 := Aside0.mk ((Kd.R_reads' HP2.out.row).2.2)
          obtain ⟨adw, e, hqc⟩ := Kd.at_int HP2.out.src (q : Int) (by omega) (by simp; omega)
          cases e
          rw [Int.toNat_natCast, hx] at hqc
          replace hqc : wr.cell? ⟨w.heap.size + 1, q, none⟩ = some (.int .i64 x) := by rw [addr0] at hqc; exact hqc
          have HI := Aside0.mk (show ins xs x = xs.take 0 ++ [x] ++ xs.drop 0 by unfold ins; simp only []; rw [hK0]; exact if_neg (fun e => by omega))
          go_wp2_with fail
          go_quiet (fail)
          go_wp2_with fail
          go_quiet (fail)
          have hk0 : (0 : Int) ≤ (0 : Int) := by omega
          have hkx : (0 : Int) ≤ (xs.length : Int) := by omega
          have hkc : (0 : Int) ≤ (c1 : Int) := by omega
          go_wp2_with (first
            | ((with_reducible refine gate_builtin (b := .append) (xs := #[.tmp 83, .tmp 86]) rfl ?_); at_builtin; refine wp_row (ys := xs.take 0) ⟨Un.init _⟩ rfl (.tmp 83) (.tmp 86) rfl A1 0 c1 rfl rfl (Kd.C_below (by have := Kd.C_take HC2.out (m := 0) (by omega); rw [List.length_take, Nat.min_eq_left (by omega)] at this; exact this) (pw_below_drewN (Below.refl _ _) _)) (by first | (simp; done) | (simp; omega)) 0 (by first | (simp; done) | (simp; omega)) ?_; intro A2 c2 w2 HU2; have hx2 := (HU2.out.bel.cell (World.block_lt_of_cell? _ _ hqc)).trans hqc; clear hqc)
            | ((with_reducible refine gate_builtin (b := .append) (xs := #[.tmp 88, .tmp 93]) rfl ?_); at_builtin; refine wp_row (ys := [x]) ⟨HU2.out.alloc _⟩ rfl (.tmp 88) (.tmp 93) rfl _ 1 1 rfl rfl (C_ints [x] (by simp) (blk_new _ _)) (by first | (simp; done) | (simp; omega)) (0 + 1) (by first | (simp; done) | (simp; omega)) ?_; intro A3 c3 w3 HU3)
            | ((with_reducible refine gate_builtin (b := .append) (xs := #[.tmp 95, .tmp 98]) rfl ?_); at_builtin; refine Hold.out ?_))
          all_goals refine Hold.mk ?_
          all_goals refine wp_row (ys := xs.drop 0) HU3 rfl (.tmp 95) (.tmp 98) rfl _ _ _ rfl rfl (by exact Kd.C_below (Kd.C_below HC2.out (pw_below_drewN (Below.refl _ _) _)) HU3.out.bel) (by first | (simp; done) | (simp; omega)) (xs.length + 1) (by first | (simp; done) | (simp; omega)) ?_
          all_goals
            intro A4 c4 w4 HU4
            go_wp2_with fail
            go_roundw
            case rel => exact ⟨q + 1, by omega, by go_num, by rw [HNX.out, HI.out]; exact ⟨(HP2.out.drewN _).next (by have := HU4.out; simpa using this)⟩⟩
            case measure => first | (simp [intOf]; done) | (simp [intOf]; omega)
        | succ j => exfalso; omega
    · go_wp2_with fail
      go_ret
      have hq3 : insAll ([a].take q) = insAll [a] := by rw [List.take_of_length_le (by simp; omega)]
      subst hxs
      exact ⟨_, rfl, by rw [← hq3]; exact HP1.out.row, HP1.out.bel⟩
set_option maxHeartbeats 4000000 in
set_option maxRecDepth 100000 in
theorem ru_11 (op d a b c n m : Int) (w : World) (h : op = 11) : Calls Try.prog 44 #[.agg #[.int .i64 op, .int .i64 d, .int .i64 a, .int .i64 b, .int .i64 c, .int .i64 n, .int .i64 m]] w (UsesOut w (insAll [a])) := by
  subst h
  have HP := Aside0.mk (show Ur w ((w.alloc (.cells #[.int .i64 11, .int .i64 d, .int .i64 a, .int .i64 b, .int .i64 c, .int .i64 n, .int .i64 m] 38)).alloc (.cells #[.int .i64 a] 3)) (some ⟨w.heap.size + 1, 0, none⟩) [a] (.slice none 0 0) [] from ⟨((Below.refl w.heap.size w).alloc (Nat.le_refl _) _).alloc (by simp) _, C_ints [a] (by simp) (by have := blk_new (w.alloc (.cells #[.int .i64 11, .int .i64 d, .int .i64 a, .int .i64 b, .int .i64 c, .int .i64 n, .int .i64 m] 38)) (.cells #[.int .i64 a] 3); simpa using this), Kd.R_nil _ _ _ _ _⟩)
  go_enter Try.func44, Try.ntmps44
  go_wp2_with fail
  go_loopw [4, 5] (fun ov iv wr => ∃ q : Nat, q ≤ 1 ∧ iv = .int .i64 q ∧ Aside0 (Ur w wr (some ⟨w.heap.size + 1, 0, none⟩) [a] ov (insAll ([a].take q)))) (fun _ iv _ => 1 - (intOf iv).toNat)
  case atStart => exact ⟨0, Nat.zero_le _, rfl, HP⟩
  case round =>
    obtain ⟨q, hq, rfl, HP1⟩ := hrel
    clear HP
    obtain ⟨xs, hxs⟩ : ∃ xs, insAll ([a].take q) = xs := ⟨_, rfl⟩
    have hxl : xs.length ≤ q := by rw [← hxs]; exact Nat.le_trans (insAll_length _) (by rw [List.length_take]; omega)
    rw [hxs] at HP1
    obtain ⟨A1, c1, rfl, hc1, hC1⟩ := Kd.R_reads HP1.out.row
    by_cases hql : q < 1
    · obtain ⟨adw, e, hqc⟩ := Kd.at_int HP1.out.src (q : Int) (by omega) (by simp; omega)
      cases e
      rw [Int.toNat_natCast] at hqc
      replace hqc : wr.cell? ⟨w.heap.size + 1, q, none⟩ = some (.int .i64 (rd [a] (q : Int))) := by rw [addr0] at hqc; exact hqc
      obtain ⟨x, hx⟩ : ∃ x, rd [a] (q : Int) = x := ⟨_, rfl⟩
      have HNX := Aside0.mk (show insAll ([a].take (q + 1)) = ins xs x by rw [take_snoc (by simpa using hql), insAll_snoc, hxs, hx])
      have HC1 := Aside0.mk hC1
      obtain ⟨K, hK⟩ : ∃ K, pos xs x xs.length = K := ⟨_, rfl⟩
      have hKK := Aside0.mk hK
      clear hxs hC1
      go_wp2_with fail
      go_loopw [6] (fun kv wq => ∃ k : Nat, k ≤ xs.length ∧ kv = .int .i64 k ∧ pos xs x k = K ∧ Aside0 (Ur w wq (some ⟨w.heap.size + 1, 0, none⟩) [a] (.slice A1 xs.length c1) xs)) (fun kv _ => (intOf kv).toNat)
      case atStart => exact ⟨xs.length, Nat.le_refl _, rfl, hK, HP1⟩
      case round =>
        clear hK HP1 hqc HC1
        obtain ⟨k, hk, rfl, hK, HP2⟩ := hrel
        cases k with
        | zero =>
          have hK0 : pos xs x xs.length = 0 := by rw [hKK.out]; exact hK.symm
          clear hK
          have HC2 := Aside0.mk ((Kd.R_reads' HP2.out.row).2.2)
          obtain ⟨adw, e, hqc⟩ := Kd.at_int HP2.out.src (q : Int) (by omega) (by simp; omega)
          cases e
          rw [Int.toNat_natCast, hx] at hqc
          replace hqc : wr.cell? ⟨w.heap.size + 1, q, none⟩ = some (.int .i64 x) := by rw [addr0] at hqc; exact hqc
          have HI := Aside0.mk (show ins xs x = xs.take 0 ++ [x] ++ xs.drop 0 by unfold ins; simp only []; rw [hK0]; exact if_neg (fun e => by omega))
          go_wp2_with fail
          go_quiet (fail)
          go_wp2_with fail
          go_quiet (fail)
          have hk0 : (0 : Int) ≤ (0 : Int) := by omega
          have hkx : (0 : Int) ≤ (xs.length : Int) := by omega
          have hkc : (0 : Int) ≤ (c1 : Int) := by omega
          go_wp2_with (first
            | ((with_reducible refine gate_builtin (b := .append) (xs := #[.tmp 83, .tmp 86]) rfl ?_); at_builtin; refine wp_row (ys := xs.take 0) ⟨Un.init _⟩ rfl (.tmp 83) (.tmp 86) rfl A1 0 c1 rfl rfl (Kd.C_below (by have := Kd.C_take HC2.out (m := 0) (by omega); rw [List.length_take, Nat.min_eq_left (by omega)] at this; exact this) (pw_below_drewN (Below.refl _ _) _)) (by first | (simp; done) | (simp; omega)) 0 (by first | (simp; done) | (simp; omega)) ?_; intro A2 c2 w2 HU2; have hx2 := (HU2.out.bel.cell (World.block_lt_of_cell? _ _ hqc)).trans hqc; clear hqc)
            | ((with_reducible refine gate_builtin (b := .append) (xs := #[.tmp 88, .tmp 93]) rfl ?_); at_builtin; refine wp_row (ys := [x]) ⟨HU2.out.alloc _⟩ rfl (.tmp 88) (.tmp 93) rfl _ 1 1 rfl rfl (C_ints [x] (by simp) (blk_new _ _)) (by first | (simp; done) | (simp; omega)) (0 + 1) (by first | (simp; done) | (simp; omega)) ?_; intro A3 c3 w3 HU3)
            | ((with_reducible refine gate_builtin (b := .append) (xs := #[.tmp 95, .tmp 98]) rfl ?_); at_builtin; refine Hold.out ?_))
          all_goals refine Hold.mk ?_
          all_goals refine wp_row (ys := xs.drop 0) HU3 rfl (.tmp 95) (.tmp 98) rfl _ _ _ rfl rfl (by exact Kd.C_below (Kd.C_below HC2.out (pw_below_drewN (Below.refl _ _) _)) HU3.out.bel) (by first | (simp; done) | (simp; omega)) (xs.length + 1) (by first | (simp; done) | (simp; omega)) ?_
          all_goals
            intro A4 c4 w4 HU4
            go_wp2_with fail
            go_roundw
            case rel => exact ⟨q + 1, by omega, by go_num, by rw [HNX.out, HI.out]; exact ⟨(HP2.out.drewN _).next (by have := HU4.out; simpa using this)⟩⟩
            case measure => first | (simp [intOf]; done) | (simp [intOf]; omega)
        | succ j => exfalso; omega
    · go_wp2_with fail
      go_ret
      have hq3 : insAll ([a].take q) = insAll [a] := by rw [List.take_of_length_le (by simp; omega)]
      subst hxs
      exact ⟨_, rfl, by rw [← hq3]; exact HP1.out.row, HP1.out.bel⟩
set_option maxHeartbeats 4000000 in
set_option maxRecDepth 100000 in
theorem ru_12 (op d a b c n m : Int) (w : World) (h : op = 12) : Calls Try.prog 44 #[.agg #[.int .i64 op, .int .i64 d, .int .i64 a, .int .i64 b, .int .i64 c, .int .i64 n, .int .i64 m]] w (UsesOut w (insAll [a])) := by
  subst h
  have HP := Aside0.mk (show Ur w ((w.alloc (.cells #[.int .i64 12, .int .i64 d, .int .i64 a, .int .i64 b, .int .i64 c, .int .i64 n, .int .i64 m] 38)).alloc (.cells #[.int .i64 a] 3)) (some ⟨w.heap.size + 1, 0, none⟩) [a] (.slice none 0 0) [] from ⟨((Below.refl w.heap.size w).alloc (Nat.le_refl _) _).alloc (by simp) _, C_ints [a] (by simp) (by have := blk_new (w.alloc (.cells #[.int .i64 12, .int .i64 d, .int .i64 a, .int .i64 b, .int .i64 c, .int .i64 n, .int .i64 m] 38)) (.cells #[.int .i64 a] 3); simpa using this), Kd.R_nil _ _ _ _ _⟩)
  go_enter Try.func44, Try.ntmps44
  go_wp2_with fail
  go_loopw [4, 5] (fun ov iv wr => ∃ q : Nat, q ≤ 1 ∧ iv = .int .i64 q ∧ Aside0 (Ur w wr (some ⟨w.heap.size + 1, 0, none⟩) [a] ov (insAll ([a].take q)))) (fun _ iv _ => 1 - (intOf iv).toNat)
  case atStart => exact ⟨0, Nat.zero_le _, rfl, HP⟩
  case round =>
    obtain ⟨q, hq, rfl, HP1⟩ := hrel
    clear HP
    obtain ⟨xs, hxs⟩ : ∃ xs, insAll ([a].take q) = xs := ⟨_, rfl⟩
    have hxl : xs.length ≤ q := by rw [← hxs]; exact Nat.le_trans (insAll_length _) (by rw [List.length_take]; omega)
    rw [hxs] at HP1
    obtain ⟨A1, c1, rfl, hc1, hC1⟩ := Kd.R_reads HP1.out.row
    by_cases hql : q < 1
    · obtain ⟨adw, e, hqc⟩ := Kd.at_int HP1.out.src (q : Int) (by omega) (by simp; omega)
      cases e
      rw [Int.toNat_natCast] at hqc
      replace hqc : wr.cell? ⟨w.heap.size + 1, q, none⟩ = some (.int .i64 (rd [a] (q : Int))) := by rw [addr0] at hqc; exact hqc
      obtain ⟨x, hx⟩ : ∃ x, rd [a] (q : Int) = x := ⟨_, rfl⟩
      have HNX := Aside0.mk (show insAll ([a].take (q + 1)) = ins xs x by rw [take_snoc (by simpa using hql), insAll_snoc, hxs, hx])
      have HC1 := Aside0.mk hC1
      obtain ⟨K, hK⟩ : ∃ K, pos xs x xs.length = K := ⟨_, rfl⟩
      have hKK := Aside0.mk hK
      clear hxs hC1
      go_wp2_with fail
      go_loopw [6] (fun kv wq => ∃ k : Nat, k ≤ xs.length ∧ kv = .int .i64 k ∧ pos xs x k = K ∧ Aside0 (Ur w wq (some ⟨w.heap.size + 1, 0, none⟩) [a] (.slice A1 xs.length c1) xs)) (fun kv _ => (intOf kv).toNat)
      case atStart => exact ⟨xs.length, Nat.le_refl _, rfl, hK, HP1⟩
      case round =>
        clear hK HP1 hqc HC1
        obtain ⟨k, hk, rfl, hK, HP2⟩ := hrel
        cases k with
        | zero =>
          have hK0 : pos xs x xs.length = 0 := by rw [hKK.out]; exact hK.symm
          clear hK
          have HC2 := Aside0.mk ((Kd.R_reads' HP2.out.row).2.2)
          obtain ⟨adw, e, hqc⟩ := Kd.at_int HP2.out.src (q : Int) (by omega) (by simp; omega)
          cases e
          rw [Int.toNat_natCast, hx] at hqc
          replace hqc : wr.cell? ⟨w.heap.size + 1, q, none⟩ = some (.int .i64 x) := by rw [addr0] at hqc; exact hqc
          have HI := Aside0.mk (show ins xs x = xs.take 0 ++ [x] ++ xs.drop 0 by unfold ins; simp only []; rw [hK0]; exact if_neg (fun e => by omega))
          go_wp2_with fail
          go_quiet (fail)
          go_wp2_with fail
          go_quiet (fail)
          have hk0 : (0 : Int) ≤ (0 : Int) := by omega
          have hkx : (0 : Int) ≤ (xs.length : Int) := by omega
          have hkc : (0 : Int) ≤ (c1 : Int) := by omega
          go_wp2_with (first
            | ((with_reducible refine gate_builtin (b := .append) (xs := #[.tmp 83, .tmp 86]) rfl ?_); at_builtin; refine wp_row (ys := xs.take 0) ⟨Un.init _⟩ rfl (.tmp 83) (.tmp 86) rfl A1 0 c1 rfl rfl (Kd.C_below (by have := Kd.C_take HC2.out (m := 0) (by omega); rw [List.length_take, Nat.min_eq_left (by omega)] at this; exact this) (pw_below_drewN (Below.refl _ _) _)) (by first | (simp; done) | (simp; omega)) 0 (by first | (simp; done) | (simp; omega)) ?_; intro A2 c2 w2 HU2; have hx2 := (HU2.out.bel.cell (World.block_lt_of_cell? _ _ hqc)).trans hqc; clear hqc)
            | ((with_reducible refine gate_builtin (b := .append) (xs := #[.tmp 88, .tmp 93]) rfl ?_); at_builtin; refine wp_row (ys := [x]) ⟨HU2.out.alloc _⟩ rfl (.tmp 88) (.tmp 93) rfl _ 1 1 rfl rfl (C_ints [x] (by simp) (blk_new _ _)) (by first | (simp; done) | (simp; omega)) (0 + 1) (by first | (simp; done) | (simp; omega)) ?_; intro A3 c3 w3 HU3)
            | ((with_reducible refine gate_builtin (b := .append) (xs := #[.tmp 95, .tmp 98]) rfl ?_); at_builtin; refine Hold.out ?_))
          all_goals refine Hold.mk ?_
          all_goals refine wp_row (ys := xs.drop 0) HU3 rfl (.tmp 95) (.tmp 98) rfl _ _ _ rfl rfl (by exact Kd.C_below (Kd.C_below HC2.out (pw_below_drewN (Below.refl _ _) _)) HU3.out.bel) (by first | (simp; done) | (simp; omega)) (xs.length + 1) (by first | (simp; done) | (simp; omega)) ?_
          all_goals
            intro A4 c4 w4 HU4
            go_wp2_with fail
            go_roundw
            case rel => exact ⟨q + 1, by omega, by go_num, by rw [HNX.out, HI.out]; exact ⟨(HP2.out.drewN _).next (by have := HU4.out; simpa using this)⟩⟩
            case measure => first | (simp [intOf]; done) | (simp [intOf]; omega)
        | succ j => exfalso; omega
    · go_wp2_with fail
      go_ret
      have hq3 : insAll ([a].take q) = insAll [a] := by rw [List.take_of_length_le (by simp; omega)]
      subst hxs
      exact ⟨_, rfl, by rw [← hq3]; exact HP1.out.row, HP1.out.bel⟩
set_option maxHeartbeats 4000000 in
set_option maxRecDepth 100000 in
theorem ru_13 (op d a b c n m : Int) (w : World) (h : op = 13) : Calls Try.prog 44 #[.agg #[.int .i64 op, .int .i64 d, .int .i64 a, .int .i64 b, .int .i64 c, .int .i64 n, .int .i64 m]] w (UsesOut w (insAll [a])) := by
  subst h
  have HP := Aside0.mk (show Ur w ((w.alloc (.cells #[.int .i64 13, .int .i64 d, .int .i64 a, .int .i64 b, .int .i64 c, .int .i64 n, .int .i64 m] 38)).alloc (.cells #[.int .i64 a] 3)) (some ⟨w.heap.size + 1, 0, none⟩) [a] (.slice none 0 0) [] from ⟨((Below.refl w.heap.size w).alloc (Nat.le_refl _) _).alloc (by simp) _, C_ints [a] (by simp) (by have := blk_new (w.alloc (.cells #[.int .i64 13, .int .i64 d, .int .i64 a, .int .i64 b, .int .i64 c, .int .i64 n, .int .i64 m] 38)) (.cells #[.int .i64 a] 3); simpa using this), Kd.R_nil _ _ _ _ _⟩)
  go_enter Try.func44, Try.ntmps44
  go_wp2_with fail
  go_loopw [4, 5] (fun ov iv wr => ∃ q : Nat, q ≤ 1 ∧ iv = .int .i64 q ∧ Aside0 (Ur w wr (some ⟨w.heap.size + 1, 0, none⟩) [a] ov (insAll ([a].take q)))) (fun _ iv _ => 1 - (intOf iv).toNat)
  case atStart => exact ⟨0, Nat.zero_le _, rfl, HP⟩
  case round =>
    obtain ⟨q, hq, rfl, HP1⟩ := hrel
    clear HP
    obtain ⟨xs, hxs⟩ : ∃ xs, insAll ([a].take q) = xs := ⟨_, rfl⟩
    have hxl : xs.length ≤ q := by rw [← hxs]; exact Nat.le_trans (insAll_length _) (by rw [List.length_take]; omega)
    rw [hxs] at HP1
    obtain ⟨A1, c1, rfl, hc1, hC1⟩ := Kd.R_reads HP1.out.row
    by_cases hql : q < 1
    · obtain ⟨adw, e, hqc⟩ := Kd.at_int HP1.out.src (q : Int) (by omega) (by simp; omega)
      cases e
      rw [Int.toNat_natCast] at hqc
      replace hqc : wr.cell? ⟨w.heap.size + 1, q, none⟩ = some (.int .i64 (rd [a] (q : Int))) := by rw [addr0] at hqc; exact hqc
      obtain ⟨x, hx⟩ : ∃ x, rd [a] (q : Int) = x := ⟨_, rfl⟩
      have HNX := Aside0.mk (show insAll ([a].take (q + 1)) = ins xs x by rw [take_snoc (by simpa using hql), insAll_snoc, hxs, hx])
      have HC1 := Aside0.mk hC1
      obtain ⟨K, hK⟩ : ∃ K, pos xs x xs.length = K := ⟨_, rfl⟩
      have hKK := Aside0.mk hK
      clear hxs hC1
      go_wp2_with fail
      go_loopw [6] (fun kv wq => ∃ k : Nat, k ≤ xs.length ∧ kv = .int .i64 k ∧ pos xs x k = K ∧ Aside0 (Ur w wq (some ⟨w.heap.size + 1, 0, none⟩) [a] (.slice A1 xs.length c1) xs)) (fun kv _ => (intOf kv).toNat)
      case atStart => exact ⟨xs.length, Nat.le_refl _, rfl, hK, HP1⟩
      case round =>
        clear hK HP1 hqc HC1
        obtain ⟨k, hk, rfl, hK, HP2⟩ := hrel
        cases k with
        | zero =>
          have hK0 : pos xs x xs.length = 0 := by rw [hKK.out]; exact hK.symm
          clear hK
          have HC2 := Aside0.mk ((Kd.R_reads' HP2.out.row).2.2)
          obtain ⟨adw, e, hqc⟩ := Kd.at_int HP2.out.src (q : Int) (by omega) (by simp; omega)
          cases e
          rw [Int.toNat_natCast, hx] at hqc
          replace hqc : wr.cell? ⟨w.heap.size + 1, q, none⟩ = some (.int .i64 x) := by rw [addr0] at hqc; exact hqc
          have HI := Aside0.mk (show ins xs x = xs.take 0 ++ [x] ++ xs.drop 0 by unfold ins; simp only []; rw [hK0]; exact if_neg (fun e => by omega))
          go_wp2_with fail
          go_quiet (fail)
          go_wp2_with fail
          go_quiet (fail)
          have hk0 : (0 : Int) ≤ (0 : Int) := by omega
          have hkx : (0 : Int) ≤ (xs.length : Int) := by omega
          have hkc : (0 : Int) ≤ (c1 : Int) := by omega
          go_wp2_with (first
            | ((with_reducible refine gate_builtin (b := .append) (xs := #[.tmp 83, .tmp 86]) rfl ?_); at_builtin; refine wp_row (ys := xs.take 0) ⟨Un.init _⟩ rfl (.tmp 83) (.tmp 86) rfl A1 0 c1 rfl rfl (Kd.C_below (by have := Kd.C_take HC2.out (m := 0) (by omega); rw [List.length_take, Nat.min_eq_left (by omega)] at this; exact this) (pw_below_drewN (Below.refl _ _) _)) (by first | (simp; done) | (simp; omega)) 0 (by first | (simp; done) | (simp; omega)) ?_; intro A2 c2 w2 HU2; have hx2 := (HU2.out.bel.cell (World.block_lt_of_cell? _ _ hqc)).trans hqc; clear hqc)
            | ((with_reducible refine gate_builtin (b := .append) (xs := #[.tmp 88, .tmp 93]) rfl ?_); at_builtin; refine wp_row (ys := [x]) ⟨HU2.out.alloc _⟩ rfl (.tmp 88) (.tmp 93) rfl _ 1 1 rfl rfl (C_ints [x] (by simp) (blk_new _ _)) (by first | (simp; done) | (simp; omega)) (0 + 1) (by first | (simp; done) | (simp; omega)) ?_; intro A3 c3 w3 HU3)
            | ((with_reducible refine gate_builtin (b := .append) (xs := #[.tmp 95, .tmp 98]) rfl ?_); at_builtin; refine Hold.out ?_))
          all_goals refine Hold.mk ?_
          all_goals refine wp_row (ys := xs.drop 0) HU3 rfl (.tmp 95) (.tmp 98) rfl _ _ _ rfl rfl (by exact Kd.C_below (Kd.C_below HC2.out (pw_below_drewN (Below.refl _ _) _)) HU3.out.bel) (by first | (simp; done) | (simp; omega)) (xs.length + 1) (by first | (simp; done) | (simp; omega)) ?_
          all_goals
            intro A4 c4 w4 HU4
            go_wp2_with fail
            go_roundw
            case rel => exact ⟨q + 1, by omega, by go_num, by rw [HNX.out, HI.out]; exact ⟨(HP2.out.drewN _).next (by have := HU4.out; simpa using this)⟩⟩
            case measure => first | (simp [intOf]; done) | (simp [intOf]; omega)
        | succ j => exfalso; omega
    · go_wp2_with fail
      go_ret
      have hq3 : insAll ([a].take q) = insAll [a] := by rw [List.take_of_length_le (by simp; omega)]
      subst hxs
      exact ⟨_, rfl, by rw [← hq3]; exact HP1.out.row, HP1.out.bel⟩
set_option maxHeartbeats 4000000 in
set_option maxRecDepth 100000 in
theorem ru_5 (op d a b c n m : Int) (w : World) (h : op = 5) : Calls Try.prog 44 #[.agg #[.int .i64 op, .int .i64 d, .int .i64 a, .int .i64 b, .int .i64 c, .int .i64 n, .int .i64 m]] w (UsesOut w (insAll [a])) := by
  subst h
  have HP := Aside0.mk (show Ur w ((w.alloc (.cells #[.int .i64 5, .int .i64 d, .int .i64 a, .int .i64 b, .int .i64 c, .int .i64 n, .int .i64 m] 38)).alloc (.cells #[.int .i64 a] 3)) (some ⟨w.heap.size + 1, 0, none⟩) [a] (.slice none 0 0) [] from ⟨((Below.refl w.heap.size w).alloc (Nat.le_refl _) _).alloc (by simp) _, C_ints [a] (by simp) (by have := blk_new (w.alloc (.cells #[.int .i64 5, .int .i64 d, .int .i64 a, .int .i64 b, .int .i64 c, .int .i64 n, .int .i64 m] 38)) (.cells #[.int .i64 a] 3); simpa using this), Kd.R_nil _ _ _ _ _⟩)
  go_enter Try.func44, Try.ntmps44
  go_wp2_with fail
  go_loopw [4, 5] (fun ov iv wr => ∃ q : Nat, q ≤ 1 ∧ iv = .int .i64 q ∧ Aside0 (Ur w wr (some ⟨w.heap.size + 1, 0, none⟩) [a] ov (insAll ([a].take q)))) (fun _ iv _ => 1 - (intOf iv).toNat)
  case atStart => exact ⟨0, Nat.zero_le _, rfl, HP⟩
  case round =>
    obtain ⟨q, hq, rfl, HP1⟩ := hrel
    clear HP
    obtain ⟨xs, hxs⟩ : ∃ xs, insAll ([a].take q) = xs := ⟨_, rfl⟩
    have hxl : xs.length ≤ q := by rw [← hxs]; exact Nat.le_trans (insAll_length _) (by rw [List.length_take]; omega)
    rw [hxs] at HP1
    obtain ⟨A1, c1, rfl, hc1, hC1⟩ := Kd.R_reads HP1.out.row
    by_cases hql : q < 1
    · obtain ⟨adw, e, hqc⟩ := Kd.at_int HP1.out.src (q : Int) (by omega) (by simp; omega)
      cases e
      rw [Int.toNat_natCast] at hqc
      replace hqc : wr.cell? ⟨w.heap.size + 1, q, none⟩ = some (.int .i64 (rd [a] (q : Int))) := by rw [addr0] at hqc; exact hqc
      obtain ⟨x, hx⟩ : ∃ x, rd [a] (q : Int) = x := ⟨_, rfl⟩
      have HNX := Aside0.mk (show insAll ([a].take (q + 1)) = ins xs x by rw [take_snoc (by simpa using hql), insAll_snoc, hxs, hx])
      have HC1 := Aside0.mk hC1
      obtain ⟨K, hK⟩ : ∃ K, pos xs x xs.length = K := ⟨_, rfl⟩
      have hKK := Aside0.mk hK
      clear hxs hC1
      go_wp2_with fail
      go_loopw [6] (fun kv wq => ∃ k : Nat, k ≤ xs.length ∧ kv = .int .i64 k ∧ pos xs x k = K ∧ Aside0 (Ur w wq (some ⟨w.heap.size + 1, 0, none⟩) [a] (.slice A1 xs.length c1) xs)) (fun kv _ => (intOf kv).toNat)
      case atStart => exact ⟨xs.length, Nat.le_refl _, rfl, hK, HP1⟩
      case round =>
        clear hK HP1 hqc HC1
        obtain ⟨k, hk, rfl, hK, HP2⟩ := hrel
        cases k with
        | zero =>
          have hK0 : pos xs x xs.length = 0 := by rw [hKK.out]; exact hK.symm
          clear hK
          have HC2 := Aside0.mk ((Kd.R_reads' HP2.out.row).2.2)
          obtain ⟨adw, e, hqc⟩ := Kd.at_int HP2.out.src (q : Int) (by omega) (by simp; omega)
          cases e
          rw [Int.toNat_natCast, hx] at hqc
          replace hqc : wr.cell? ⟨w.heap.size + 1, q, none⟩ = some (.int .i64 x) := by rw [addr0] at hqc; exact hqc
          have HI := Aside0.mk (show ins xs x = xs.take 0 ++ [x] ++ xs.drop 0 by unfold ins; simp only []; rw [hK0]; exact if_neg (fun e => by omega))
          go_wp2_with fail
          go_quiet (fail)
          go_wp2_with fail
          go_quiet (fail)
          have hk0 : (0 : Int) ≤ (0 : Int) := by omega
          have hkx : (0 : Int) ≤ (xs.length : Int) := by omega
          have hkc : (0 : Int) ≤ (c1 : Int) := by omega
          go_wp2_with (first
            | ((with_reducible refine gate_builtin (b := .append) (xs := #[.tmp 83, .tmp 86]) rfl ?_); at_builtin; refine wp_row (ys := xs.take 0) ⟨Un.init _⟩ rfl (.tmp 83) (.tmp 86) rfl A1 0 c1 rfl rfl (Kd.C_below (by have := Kd.C_take HC2.out (m := 0) (by omega); rw [List.length_take, Nat.min_eq_left (by omega)] at this; exact this) (pw_below_drewN (Below.refl _ _) _)) (by first | (simp; done) | (simp; omega)) 0 (by first | (simp; done) | (simp; omega)) ?_; intro A2 c2 w2 HU2; have hx2 := (HU2.out.bel.cell (World.block_lt_of_cell? _ _ hqc)).trans hqc; clear hqc)
            | ((with_reducible refine gate_builtin (b := .append) (xs := #[.tmp 88, .tmp 93]) rfl ?_); at_builtin; refine wp_row (ys := [x]) ⟨HU2.out.alloc _⟩ rfl (.tmp 88) (.tmp 93) rfl _ 1 1 rfl rfl (C_ints [x] (by simp) (blk_new _ _)) (by first | (simp; done) | (simp; omega)) (0 + 1) (by first | (simp; done) | (simp; omega)) ?_; intro A3 c3 w3 HU3)
            | ((with_reducible refine gate_builtin (b := .append) (xs := #[.tmp 95, .tmp 98]) rfl ?_); at_builtin; refine Hold.out ?_))
          all_goals refine Hold.mk ?_
          all_goals refine wp_row (ys := xs.drop 0) HU3 rfl (.tmp 95) (.tmp 98) rfl _ _ _ rfl rfl (by exact Kd.C_below (Kd.C_below HC2.out (pw_below_drewN (Below.refl _ _) _)) HU3.out.bel) (by first | (simp; done) | (simp; omega)) (xs.length + 1) (by first | (simp; done) | (simp; omega)) ?_
          all_goals
            intro A4 c4 w4 HU4
            go_wp2_with fail
            go_roundw
            case rel => exact ⟨q + 1, by omega, by go_num, by rw [HNX.out, HI.out]; exact ⟨(HP2.out.drewN _).next (by have := HU4.out; simpa using this)⟩⟩
            case measure => first | (simp [intOf]; done) | (simp [intOf]; omega)
        | succ j => exfalso; omega
    · go_wp2_with fail
      go_ret
      have hq3 : insAll ([a].take q) = insAll [a] := by rw [List.take_of_length_le (by simp; omega)]
      subst hxs
      exact ⟨_, rfl, by rw [← hq3]; exact HP1.out.row, HP1.out.bel⟩
set_option maxHeartbeats 4000000 in
set_option maxRecDepth 100000 in
theorem ru_ret (op d a b c n m : Int) (w : World) (h : op = 15) (h0 : 0 ≤ a) : Calls Try.prog 44 #[.agg #[.int .i64 op, .int .i64 d, .int .i64 a, .int .i64 b, .int .i64 c, .int .i64 n, .int .i64 m]] w (UsesOut w (insAll [a])) := by
  subst h
  have h1 : decide (0 ≤ a) = true := decide_eq_true h0
  have HP := Aside0.mk (show Ur w ((w.alloc (.cells #[.int .i64 15, .int .i64 d, .int .i64 a, .int .i64 b, .int .i64 c, .int .i64 n, .int .i64 m] 38)).alloc (.cells #[.int .i64 a] 3)) (some ⟨w.heap.size + 1, 0, none⟩) [a] (.slice none 0 0) [] from ⟨((Below.refl w.heap.size w).alloc (Nat.le_refl _) _).alloc (by simp) _, C_ints [a] (by simp) (by have := blk_new (w.alloc (.cells #[.int .i64 15, .int .i64 d, .int .i64 a, .int .i64 b, .int .i64 c, .int .i64 n, .int .i64 m] 38)) (.cells #[.int .i64 a] 3); simpa using this), Kd.R_nil _ _ _ _ _⟩)
  go_enter Try.func44, Try.ntmps44
  go_wp2_with fail
  go_loopw [4, 5] (fun ov iv wr => ∃ q : Nat, q ≤ 1 ∧ iv = .int .i64 q ∧ Aside0 (Ur w wr (some ⟨w.heap.size + 1, 0, none⟩) [a] ov (insAll ([a].take q)))) (fun _ iv _ => 1 - (intOf iv).toNat)
  case atStart => exact ⟨0, Nat.zero_le _, rfl, HP⟩
  case round =>
    obtain ⟨q, hq, rfl, HP1⟩ := hrel
    clear HP
    obtain ⟨xs, hxs⟩ : ∃ xs, insAll ([a].take q) = xs := ⟨_, rfl⟩
    have hxl : xs.length ≤ q := by rw [← hxs]; exact Nat.le_trans (insAll_length _) (by rw [List.length_take]; omega)
    rw [hxs] at HP1
    obtain ⟨A1, c1, rfl, hc1, hC1⟩ := Kd.R_reads HP1.out.row
    by_cases hql : q < 1
    · obtain ⟨adw, e, hqc⟩ := Kd.at_int HP1.out.src (q : Int) (by omega) (by simp; omega)
      cases e
      rw [Int.toNat_natCast] at hqc
      replace hqc : wr.cell? ⟨w.heap.size + 1, q, none⟩ = some (.int .i64 (rd [a] (q : Int))) := by rw [addr0] at hqc; exact hqc
      obtain ⟨x, hx⟩ : ∃ x, rd [a] (q : Int) = x := ⟨_, rfl⟩
      have HNX := Aside0.mk (show insAll ([a].take (q + 1)) = ins xs x by rw [take_snoc (by simpa using hql), insAll_snoc, hxs, hx])
      have HC1 := Aside0.mk hC1
      obtain ⟨K, hK⟩ : ∃ K, pos xs x xs.length = K := ⟨_, rfl⟩
      have hKK := Aside0.mk hK
      clear hxs hC1
      go_wp2_with fail
      go_loopw [6] (fun kv wq => ∃ k : Nat, k ≤ xs.length ∧ kv = .int .i64 k ∧ pos xs x k = K ∧ Aside0 (Ur w wq (some ⟨w.heap.size + 1, 0, none⟩) [a] (.slice A1 xs.length c1) xs)) (fun kv _ => (intOf kv).toNat)
      case atStart => exact ⟨xs.length, Nat.le_refl _, rfl, hK, HP1⟩
      case round =>
        clear hK HP1 hqc HC1
        obtain ⟨k, hk, rfl, hK, HP2⟩ := hrel
        cases k with
        | zero =>
          have hK0 : pos xs x xs.length = 0 := by rw [hKK.out]; exact hK.symm
          clear hK
          have HC2 := Aside0.mk ((Kd.R_reads' HP2.out.row).2.2)
          obtain ⟨adw, e, hqc⟩ := Kd.at_int HP2.out.src (q : Int) (by omega) (by simp; omega)
          cases e
          rw [Int.toNat_natCast, hx] at hqc
          replace hqc : wr.cell? ⟨w.heap.size + 1, q, none⟩ = some (.int .i64 x) := by rw [addr0] at hqc; exact hqc
          have HI := Aside0.mk (show ins xs x = xs.take 0 ++ [x] ++ xs.drop 0 by unfold ins; simp only []; rw [hK0]; exact if_neg (fun e => by omega))
          go_wp2_with fail
          go_quiet (fail)
          go_wp2_with fail
          go_quiet (fail)
          have hk0 : (0 : Int) ≤ (0 : Int) := by omega
          have hkx : (0 : Int) ≤ (xs.length : Int) := by omega
          have hkc : (0 : Int) ≤ (c1 : Int) := by omega
          go_wp2_with (first
            | ((with_reducible refine gate_builtin (b := .append) (xs := #[.tmp 83, .tmp 86]) rfl ?_); at_builtin; refine wp_row (ys := xs.take 0) ⟨Un.init _⟩ rfl (.tmp 83) (.tmp 86) rfl A1 0 c1 rfl rfl (Kd.C_below (by have := Kd.C_take HC2.out (m := 0) (by omega); rw [List.length_take, Nat.min_eq_left (by omega)] at this; exact this) (pw_below_drewN (Below.refl _ _) _)) (by first | (simp; done) | (simp; omega)) 0 (by first | (simp; done) | (simp; omega)) ?_; intro A2 c2 w2 HU2; have hx2 := (HU2.out.bel.cell (World.block_lt_of_cell? _ _ hqc)).trans hqc; clear hqc)
            | ((with_reducible refine gate_builtin (b := .append) (xs := #[.tmp 88, .tmp 93]) rfl ?_); at_builtin; refine wp_row (ys := [x]) ⟨HU2.out.alloc _⟩ rfl (.tmp 88) (.tmp 93) rfl _ 1 1 rfl rfl (C_ints [x] (by simp) (blk_new _ _)) (by first | (simp; done) | (simp; omega)) (0 + 1) (by first | (simp; done) | (simp; omega)) ?_; intro A3 c3 w3 HU3)
            | ((with_reducible refine gate_builtin (b := .append) (xs := #[.tmp 95, .tmp 98]) rfl ?_); at_builtin; refine Hold.out ?_))
          all_goals refine Hold.mk ?_
          all_goals refine wp_row (ys := xs.drop 0) HU3 rfl (.tmp 95) (.tmp 98) rfl _ _ _ rfl rfl (by exact Kd.C_below (Kd.C_below HC2.out (pw_below_drewN (Below.refl _ _) _)) HU3.out.bel) (by first | (simp; done) | (simp; omega)) (xs.length + 1) (by first | (simp; done) | (simp; omega)) ?_
          all_goals
            intro A4 c4 w4 HU4
            go_wp2_with fail
            go_roundw
            case rel => exact ⟨q + 1, by omega, by go_num, by rw [HNX.out, HI.out]; exact ⟨(HP2.out.drewN _).next (by have := HU4.out; simpa using this)⟩⟩
            case measure => first | (simp [intOf]; done) | (simp [intOf]; omega)
        | succ j => exfalso; omega
    · go_wp2_with fail
      go_ret
      have hq3 : insAll ([a].take q) = insAll [a] := by rw [List.take_of_length_le (by simp; omega)]
      subst hxs
      exact ⟨_, rfl, by rw [← hq3]; exact HP1.out.row, HP1.out.bel⟩
set_option maxHeartbeats 4000000 in
set_option maxRecDepth 100000 in
theorem ru_noret (op d a b c n m : Int) (w : World) (h : op = 15) (h0 : a < 0) : Calls Try.prog 44 #[.agg #[.int .i64 op, .int .i64 d, .int .i64 a, .int .i64 b, .int .i64 c, .int .i64 n, .int .i64 m]] w (UsesOut w (insAll [])) := by
  subst h
  have h1 : decide (0 ≤ a) = false := decide_eq_false (by omega)
  have HP := Aside0.mk (show Ur w (w.alloc (.cells #[.int .i64 15, .int .i64 d, .int .i64 a, .int .i64 b, .int .i64 c, .int .i64 n, .int .i64 m] 38)) none [] (.slice none 0 0) [] from ⟨(Below.refl w.heap.size w).alloc (Nat.le_refl _) _, Kd.C_nil _ _, Kd.R_nil _ _ _ _ _⟩)
  go_enter Try.func44, Try.ntmps44
  go_wp2_with fail
  go_loopw [4, 5] (fun ov iv wr => ∃ q : Nat, q ≤ 0 ∧ iv = .int .i64 q ∧ Aside0 (Ur w wr none [] ov (insAll ([].take q)))) (fun _ iv _ => 0 - (intOf iv).toNat)
  case atStart => exact ⟨0, Nat.zero_le _, rfl, HP⟩
  case round =>
    obtain ⟨q, hq, rfl, HP1⟩ := hrel
    clear HP
    obtain rfl : q = 0 := by omega
    obtain ⟨A1, c1, rfl, hc1, hC1⟩ := Kd.R_reads HP1.out.row
    go_wp2_with fail
    go_ret
    exact ⟨_, rfl, HP1.out.row, HP1.out.bel⟩
set_option maxHeartbeats 4000000 in
set_option maxRecDepth 100000 in
theorem ru_none (op d a b c n m : Int) (w : World) (h4 : op ≠ 4) (h3 : op ≠ 3) (h6 : op ≠ 6) (h2 : op ≠ 2) (h8 : op ≠ 8) (h11 : op ≠ 11) (h12 : op ≠ 12) (h13 : op ≠ 13) (h5 : op ≠ 5) (h15 : op ≠ 15) : Calls Try.prog 44 #[.agg #[.int .i64 op, .int .i64 d, .int .i64 a, .int .i64 b, .int .i64 c, .int .i64 n, .int .i64 m]] w (UsesOut w (insAll [])) := by
  have g4 : (op == 4) = false := beq_eq_false_iff_ne.mpr h4
  have g3 : (op == 3) = false := beq_eq_false_iff_ne.mpr h3
  have g6 : (op == 6) = false := beq_eq_false_iff_ne.mpr h6
  have g2 : (op == 2) = false := beq_eq_false_iff_ne.mpr h2
  have g8 : (op == 8) = false := beq_eq_false_iff_ne.mpr h8
  have g11 : (op == 11) = false := beq_eq_false_iff_ne.mpr h11
  have g12 : (op == 12) = false := beq_eq_false_iff_ne.mpr h12
  have g13 : (op == 13) = false := beq_eq_false_iff_ne.mpr h13
  have g5 : (op == 5) = false := beq_eq_false_iff_ne.mpr h5
  have g15 : (op == 15) = false := beq_eq_false_iff_ne.mpr h15
  clear h4 h3 h6 h2 h8 h11 h12 h13 h5 h15
  have HP := Aside0.mk (show Ur w (w.alloc (.cells #[.int .i64 op, .int .i64 d, .int .i64 a, .int .i64 b, .int .i64 c, .int .i64 n, .int .i64 m] 38)) none [] (.slice none 0 0) [] from ⟨(Below.refl w.heap.size w).alloc (Nat.le_refl _) _, Kd.C_nil _ _, Kd.R_nil _ _ _ _ _⟩)
  go_enter Try.func44, Try.ntmps44
  go_wp2_with fail
  go_loopw [4, 5] (fun ov iv wr => ∃ q : Nat, q ≤ 0 ∧ iv = .int .i64 q ∧ Aside0 (Ur w wr none [] ov (insAll ([].take q)))) (fun _ iv _ => 0 - (intOf iv).toNat)
  case atStart => exact ⟨0, Nat.zero_le _, rfl, HP⟩
  case round =>
    obtain ⟨q, hq, rfl, HP1⟩ := hrel
    clear HP
    obtain rfl : q = 0 := by omega
    obtain ⟨A1, c1, rfl, hc1, hC1⟩ := Kd.R_reads HP1.out.row
    go_wp2_with fail
    go_ret
    exact ⟨_, rfl, HP1.out.row, HP1.out.bel⟩
theorem ruses_calls (op d a b c n m : Int) (w : World) : Calls Try.prog 44 #[.agg #[.int .i64 op, .int .i64 d, .int .i64 a, .int .i64 b, .int .i64 c, .int .i64 n, .int .i64 m]] w (UsesOut w (uses op a b c)) := by
  unfold uses raw
  by_cases h4 : op = 4
  · rw [if_pos h4, ← insAll_eq [a, b, c] [c, b, a] (fun x => by simp; constructor <;> (rintro (h | h | h) <;> simp [h]))]; exact ru_select op d a b c n m w h4
  rw [if_neg h4]
  by_cases h36 : op = 3 ∨ op = 6
  · rw [if_pos h36, ← insAll_eq [a, b] [b, a] (fun x => by simp; exact or_comm)]
    rcases h36 with h | h
    · exact ru_3 op d a b c n m w h
    · exact ru_6 op d a b c n m w h
  rw [if_neg h36]
  by_cases h1 : op = 2 ∨ op = 8 ∨ op = 11 ∨ op = 12 ∨ op = 13 ∨ op = 5
  · rw [if_pos h1, ← insAll_eq [a] [a] (fun x => Iff.rfl)]
    rcases h1 with h | h | h | h | h | h
    · exact ru_2 op d a b c n m w h
    · exact ru_8 op d a b c n m w h
    · exact ru_11 op d a b c n m w h
    · exact ru_12 op d a b c n m w h
    · exact ru_13 op d a b c n m w h
    · exact ru_5 op d a b c n m w h
  rw [if_neg h1]
  by_cases h15 : op = 15
  · by_cases h0 : 0 ≤ a
    · rw [if_pos ⟨h15, h0⟩, ← insAll_eq [a] [a] (fun x => Iff.rfl)]; exact ru_ret op d a b c n m w h15 h0
    · rw [if_neg (fun e => h0 e.2), ← insAll_eq [] [] (fun x => Iff.rfl)]; exact ru_noret op d a b c n m w h15 (by omega)
  · rw [if_neg (fun e => h15 e.1), ← insAll_eq [] [] (fun x => Iff.rfl)]
    exact ru_none op d a b c n m w h4 (fun e => h36 (.inl e)) (fun e => h36 (.inr e)) (fun e => h1 (.inl e)) (fun e => h1 (.inr (.inl e))) (fun e => h1 (.inr (.inr (.inl e)))) (fun e => h1 (.inr (.inr (.inr (.inl e))))) (fun e => h1 (.inr (.inr (.inr (.inr (.inl e)))))) (fun e => h1 (.inr (.inr (.inr (.inr (.inr e)))))) h15
end Go.Proofs.Ytdcmeefeinppnaa.Live
