/- rsem: trapped; fits; ready; Exec. -/
import Derived.Test.YtdcmeefeinppnaaLiveEnd
import Derived.Test.YtdcmeefeinppnaaWord
import Derived.Recover
import Derived.Defers
import Derived.Laws.Pointers
namespace Go.Proofs.Ytdcmeefeinppnaa.Rsem
open Go.RowKit Go.Proofs.YtdcmeefeinppnaaW.PrintWords Go.Proofs.YtdcmeefeinppnaaW.PrintLast Go.Proofs.YtdcmeefeinppnaaW.PrintMore Go.Proofs.Ytdcmeefeinppnaa.Mem Go.Proofs.Ytdcmeefeinppnaa.Ir Go.Proofs.Ytdcmeefeinppnaa.Live
open MapOf (get put)
open Word (eval eval_calls)
set_option linter.unusedVariables false
set_option linter.unusedSimpArgs false

def setI (cs : List Int) (k v : Int) : List Int := cs.set k.toNat v
/-- a label's place, the last of its name -/
def labR (L : List Ir) : Nat → List (Int × Int)
  | 0 => []
  | k + 1 => if (atIr L k).op = 9 then put (labR L k) (atIr L k).n k else labR L k
def plainS (M : List (Int × Int)) (x : Ir) (cs : List Int) (at_ : Int) : Except Int (Int × List Int) :=
  if x.op = 1 then .ok (at_, setI cs x.dst x.n)
  else if x.op = 2 then .ok (at_, setI cs x.dst (rd cs x.a))
  else if x.op = 3 then (if (eval x.n (rd cs x.a) (rd cs x.b)).2 = 0 then .ok (at_, setI cs x.dst (eval x.n (rd cs x.a) (rd cs x.b)).1) else .error (eval x.n (rd cs x.a) (rd cs x.b)).2)
  else if x.op = 4 then .ok (at_, setI cs x.dst (rd cs (if rd cs x.c = 0 then x.b else x.a)))
  else if x.op = 11 then .ok (if rd cs x.a ≠ 0 then (get M x.n).getD 0 else at_, cs)
  else if x.op = 12 then .ok (if rd cs x.a = 0 then (get M x.n).getD 0 else at_, cs)
  else if x.op = 10 then .ok ((get M x.n).getD 0, cs)
  else .ok (at_, cs)
/-- the cells that an instruction names lie within n -/
structure Inn (x : Ir) (n : Nat) : Prop where
  dst : x.op = 1 ∨ x.op = 2 ∨ x.op = 3 ∨ x.op = 4 → 0 ≤ x.dst ∧ x.dst < n
  a : x.op = 2 ∨ x.op = 3 ∨ x.op = 4 ∨ x.op = 11 ∨ x.op = 12 → 0 ≤ x.a ∧ x.a < n
  b : x.op = 3 ∨ x.op = 4 → 0 ≤ x.b ∧ x.b < n
  c : x.op = 4 → 0 ≤ x.c ∧ x.c < n
def trapOf (t : Int) : List PanicEntry := [{ v := .iface 102 (.int .i64 t), recovered := false }]

theorem must_yes (t : Int) (w : World) : Calls Try.prog 63 #[.bool true, .int .i64 t] w fun e w' => e = .returned (.tuple #[]) ∧ w = w' := by
  go_enter Try.func63, Try.ntmps63
  go_wp2_with fail
  go_end0
  exact ⟨rfl, rfl⟩
theorem must_no (t : Int) (w : World) : Calls Try.prog 63 #[.bool false, .int .i64 t] w fun e w' => e = .panicked (trapOf t) ∧ w = w' := by
  go_enter Try.func63, Try.ntmps63
  go_wp2_with fail
  exact ⟨rfl, rfl, rfl⟩
/-- what plain sees: the labels, the cells -/
structure Pl (W : World) (kb mb base : Nat) (M : List (Int × Int)) (v : Value) (cs : List Int) : Prop where
  k : W.cell? ⟨kb, 4, none⟩ = some (.map (some mb))
  m : MapOf.Is encI W mb M
  row : (Kd.int .i64).R 3 W base (fun _ => True) v cs
theorem Pl.below {W W1 : World} {kb mb base : Nat} {M : List (Int × Int)} {v : Value} {cs : List Int} (h : Pl W kb mb base M v cs) (hb : Below W.heap.size W W1) : Pl W1 kb mb base M v cs :=
  ⟨(hb.cell (World.block_lt_of_cell? _ _ h.k)).trans h.k, h.m.below hb, Kd.R_below h.row hb⟩
def PlOut (w : World) (v : Value) (base : Nat) : Except Int (Int × List Int) → Ending → World → Prop
  | .error t, e, w' => e = .panicked (trapOf t) ∧ Below w.heap.size w w'
  | .ok r, e, w' => e = .returned (.int .i64 r.1) ∧ (Kd.int .i64).R 3 w' base (fun _ => True) v r.2 ∧ Ch w w' (fun k => some k = v.ownBlock)
theorem zeroInt (w : World) : (zeroValue 3).run Try.prog w = .ok (.int .i64 0) w := by kernel_rfl
section
variable {β : Type} {enc : β → Value} {P : Program} {w : World} {ops : Array Oper} {o : Oper} {a : Act} {Q : Exit → Act → World → Prop} {Kc : Act → World → Prop}
theorem look_step (hw : Region.wanted o (yielded ops a.tmps) = true) (m x : Operand) (t : TypeId) (hop : o.op = Op.lookup t m x false) (kt et : TypeId) (ht : P.underlying t = some (.map kt et)) (hkt : P.underlying kt = some (.int .i64))
    (z : β) (hz : (zeroValue et).run P w = .ok (enc z) w) (b : Nat) (M : List (Int × β)) (hm : a.eval m = .map (some b)) (h : MapOf.Is enc w b M) (k : Int) (hx : a.eval x = .int .i64 k) (v : β) (hv : (MapOf.get M k).getD z = v)
    (hK : Kc (a.put o.dst (enc v)) w) : if Region.wanted o (yielded ops a.tmps) = true then Oper.wp P o a w Kc Q else Kc (a.put o.dst undef) w := by
  subst hv
  rw [if_pos hw]
  unfold Oper.wp
  simp [execOp, hop, hm, hx, MapOf.run_lookup h ht hkt hz k false, Result.andThen]
  exact hK
end
theorem pl_put {w : World} {base g cap : Nat} {cs : List Int} (h : (Kd.int .i64).R 3 w base (fun _ => True) (.slice (some ⟨g, 0, none⟩) cs.length cap) cs) (d u : Int) (o : Obj) :
    (Kd.int .i64).R 3 ((w.setCell ⟨g, d.toNat, none⟩ (.int .i64 u)).alloc o) base (fun _ => True) (.slice (some ⟨g, 0, none⟩) cs.length cap) (setI cs d u) ∧ Ch w ((w.setCell ⟨g, d.toNat, none⟩ (.int .i64 u)).alloc o) (fun k => some k = (Value.slice (some ⟨g, 0, none⟩) cs.length cap).ownBlock) := by
  obtain ⟨h1, h2⟩ := Kd.R_put h d u
  have hb := below_alloc (Below.refl (w.setCell ⟨g, d.toNat, none⟩ (.int .i64 u)).heap.size (w.setCell ⟨g, d.toNat, none⟩ (.int .i64 u))) o
  exact ⟨Kd.R_below h1 hb, ((Ch.refl w _).grown h2 (fun k hk => .inl hk.symm)).then_below hb⟩
theorem pl_put2 {w w2 : World} {base g cap : Nat} {cs : List Int} (hb : Below w.heap.size w w2) (h : (Kd.int .i64).R 3 w2 base (fun _ => True) (.slice (some ⟨g, 0, none⟩) cs.length cap) cs) (d u : Int) :
    (Kd.int .i64).R 3 (w2.setCell ⟨g, d.toNat, none⟩ (.int .i64 u)) base (fun _ => True) (.slice (some ⟨g, 0, none⟩) cs.length cap) (setI cs d u) ∧ Ch w (w2.setCell ⟨g, d.toNat, none⟩ (.int .i64 u)) (fun k => some k = (Value.slice (some ⟨g, 0, none⟩) cs.length cap).ownBlock) := by
  obtain ⟨h1, h2⟩ := Kd.R_put h d u
  exact ⟨h1, (Ch.of_below hb _).grown h2 (fun k hk => .inl hk.symm)⟩
theorem pl_drew {w w1 : World} {base : Nat} {v : Value} {cs : List Int} {S : Nat → Prop} (h : (Kd.int .i64).R 3 w1 base (fun _ => True) v cs ∧ Ch w w1 S) : (Kd.int .i64).R 3 w1.drew base (fun _ => True) v cs ∧ Ch w w1.drew S :=
  ⟨Kd.R_below h.1 (drew_below _), h.2.then_below (drew_below _)⟩
theorem pl_same {w w1 : World} {base : Nat} {v : Value} {cs : List Int} {S : Nat → Prop} (h : (Kd.int .i64).R 3 w base (fun _ => True) v cs) (hb : Below w.heap.size w w1) : (Kd.int .i64).R 3 w1 base (fun _ => True) v cs ∧ Ch w w1 S :=
  ⟨Kd.R_below h hb, Ch.of_below hb _⟩
set_option maxHeartbeats 2000000 in
theorem plain_const (kb mb base : Nat) (M : List (Int × Int)) (v : Value) (cs : List Int) (x : Ir) (at_ : Int) (w : World) (H : Pl w kb mb base M v cs) (hi : Inn x cs.length) (h : x.op = 1) :
    Calls Try.prog 64 #[.pointer (some ⟨kb, 0, none⟩), .agg x.vals, v, .int .i64 at_] w (PlOut w v base (.ok (at_, setI cs x.dst x.n))) := by
  obtain ⟨op, d, a, b, c, n, m⟩ := x
  have h : op = 1 := h
  subst h
  obtain ⟨h0, h1⟩ := hi.dst (by simp)
  have h0 : 0 ≤ d := h0
  have h1 : d < cs.length := h1
  have HP := Aside0.mk H
  obtain ⟨g, cap, e, hgb, hgl, cells, hcl⟩ := Kd.R_form H.row (by omega)
  subst e
  clear hcl
  have HQ := Aside0.mk (H.below (below_alloc (Below.refl _ _) (.cells #[.int .i64 1, .int .i64 d, .int .i64 a, .int .i64 b, .int .i64 c, .int .i64 n, .int .i64 m] 38)))
  obtain ⟨qd, zd⟩ := Kd.R_cell (0 : Int) HQ.out.row d h0 h1
  replace qd : World.cell? _ ⟨g, d.toNat, none⟩ = some (.int .i64 (rd cs d)) := qd
  clear H hi
  go_enter Try.func64, Try.ntmps64
  go_wp2_with fail
  go_ret
  exact ⟨rfl, pl_put HP.out.row d n _⟩
set_option maxHeartbeats 2000000 in
theorem plain_move (kb mb base : Nat) (M : List (Int × Int)) (v : Value) (cs : List Int) (x : Ir) (at_ : Int) (w : World) (H : Pl w kb mb base M v cs) (hi : Inn x cs.length) (h : x.op = 2) :
    Calls Try.prog 64 #[.pointer (some ⟨kb, 0, none⟩), .agg x.vals, v, .int .i64 at_] w (PlOut w v base (.ok (at_, setI cs x.dst (rd cs x.a)))) := by
  obtain ⟨op, d, a, b, c, n, m⟩ := x
  have h : op = 2 := h
  subst h
  obtain ⟨h0, h1⟩ := hi.dst (by simp)
  have h0 : 0 ≤ d := h0
  have h1 : d < cs.length := h1
  obtain ⟨ha0, ha1⟩ := hi.a (by simp)
  have ha0 : 0 ≤ a := ha0
  have ha1 : a < cs.length := ha1
  have HP := Aside0.mk H
  obtain ⟨g, cap, e, hgb, hgl, cells, hcl⟩ := Kd.R_form H.row (by omega)
  subst e
  clear hcl
  have HQ := Aside0.mk (H.below (below_alloc (Below.refl _ _) (.cells #[.int .i64 2, .int .i64 d, .int .i64 a, .int .i64 b, .int .i64 c, .int .i64 n, .int .i64 m] 38)))
  obtain ⟨qd, zd⟩ := Kd.R_cell (0 : Int) HQ.out.row d h0 h1
  replace qd : World.cell? _ ⟨g, d.toNat, none⟩ = some (.int .i64 (rd cs d)) := qd
  obtain ⟨qa, za⟩ := Kd.R_cell (0 : Int) HQ.out.row a ha0 ha1
  replace qa : World.cell? _ ⟨g, a.toNat, none⟩ = some (.int .i64 (rd cs a)) := qa
  clear H hi
  go_enter Try.func64, Try.ntmps64
  go_wp2_with fail
  go_region
  go_wp2_with fail
  go_ret
  exact ⟨rfl, pl_drew (pl_put HP.out.row d (rd cs a) _)⟩
set_option maxHeartbeats 2000000 in
theorem plain_other (kb mb base : Nat) (M : List (Int × Int)) (v : Value) (cs : List Int) (x : Ir) (at_ : Int) (w : World) (H : Pl w kb mb base M v cs) (hi : Inn x cs.length) (h : x.op ≠ 1 ∧ x.op ≠ 2 ∧ x.op ≠ 3 ∧ x.op ≠ 4 ∧ x.op ≠ 10 ∧ x.op ≠ 11 ∧ x.op ≠ 12) :
    Calls Try.prog 64 #[.pointer (some ⟨kb, 0, none⟩), .agg x.vals, v, .int .i64 at_] w (PlOut w v base (.ok (at_, cs))) := by
  obtain ⟨op, d, a, b, c, n, m⟩ := x
  obtain ⟨g1, g2, g3, g4, g10, g11, g12⟩ := h
  have g1 : (op == 1) = false := by simpa using g1
  have g2 : (op == 2) = false := by simpa using g2
  have g3 : (op == 3) = false := by simpa using g3
  have g4 : (op == 4) = false := by simpa using g4
  have g10 : (op == 10) = false := by simpa using g10
  have g11 : (op == 11) = false := by simpa using g11
  have g12 : (op == 12) = false := by simpa using g12
  have HP := Aside0.mk H
  have HQ := Aside0.mk (H.below (below_alloc (Below.refl _ _) (.cells #[.int .i64 op, .int .i64 d, .int .i64 a, .int .i64 b, .int .i64 c, .int .i64 n, .int .i64 m] 38)))
  clear H hi
  go_enter Try.func64, Try.ntmps64
  go_wp2_with fail
  go_ret
  exact ⟨rfl, pl_same HP.out.row (below_alloc (Below.refl _ _) _)⟩
set_option maxHeartbeats 2000000 in
theorem plain_jump (kb mb base : Nat) (M : List (Int × Int)) (v : Value) (cs : List Int) (x : Ir) (at_ : Int) (w : World) (H : Pl w kb mb base M v cs) (hi : Inn x cs.length) (h : x.op = 10) :
    Calls Try.prog 64 #[.pointer (some ⟨kb, 0, none⟩), .agg x.vals, v, .int .i64 at_] w (PlOut w v base (.ok ((MapOf.get M x.n).getD 0, cs))) := by
  obtain ⟨op, d, a, b, c, n, m⟩ := x
  have h : op = 10 := h
  subst h
  have HP := Aside0.mk H
  have HQ := Aside0.mk (H.below (below_alloc (Below.refl _ _) (.cells #[.int .i64 10, .int .i64 d, .int .i64 a, .int .i64 b, .int .i64 c, .int .i64 n, .int .i64 m] 38)))
  clear H hi
  have HD := Aside0.mk (HQ.out.below (drew_below _))
  have hk := HQ.out.k
  go_enter Try.func64, Try.ntmps64
  go_wp2_with fail
  have hlk : (Instr.lookup 64 (.map (some mb)) (.int .i64 n) false).run Try.prog ((w.alloc (.cells #[.int .i64 10, .int .i64 d, .int .i64 a, .int .i64 b, .int .i64 c, .int .i64 n, .int .i64 m] 38)).drew) = .ok (.int .i64 ((MapOf.get M n).getD 0)) ((w.alloc (.cells #[.int .i64 10, .int .i64 d, .int .i64 a, .int .i64 b, .int .i64 c, .int .i64 n, .int .i64 m] 38)).drew) := MapOf.run_lookup (enc := encI) HD.out.m Try.underlying64 Try.underlying3 (z := (0 : Int)) (zeroInt _) n false
  go_region
  all_goals
    go_wp2_with fail
    go_ret
    exact ⟨rfl, pl_same HP.out.row ((below_alloc (Below.refl _ _) _).trans ((drew_below _).mono (by simp)))⟩
set_option maxHeartbeats 2000000 in
theorem plain_if (kb mb base : Nat) (M : List (Int × Int)) (v : Value) (cs : List Int) (x : Ir) (at_ : Int) (w : World) (H : Pl w kb mb base M v cs) (hi : Inn x cs.length) (h : x.op = 11) :
    Calls Try.prog 64 #[.pointer (some ⟨kb, 0, none⟩), .agg x.vals, v, .int .i64 at_] w (PlOut w v base (.ok (if rd cs x.a ≠ 0 then (MapOf.get M x.n).getD 0 else at_, cs))) := by
  obtain ⟨op, d, a, b, c, n, m⟩ := x
  have h : op = 11 := h
  subst h
  obtain ⟨ha0, ha1⟩ := hi.a (by simp)
  have ha0 : 0 ≤ a := ha0
  have ha1 : a < cs.length := ha1
  have HP := Aside0.mk H
  obtain ⟨g, cap, e, hgb, hgl, cells, hcl⟩ := Kd.R_form H.row (by omega)
  subst e
  clear hcl
  have HQ := Aside0.mk (H.below (below_alloc (Below.refl _ _) (.cells #[.int .i64 11, .int .i64 d, .int .i64 a, .int .i64 b, .int .i64 c, .int .i64 n, .int .i64 m] 38)))
  obtain ⟨qa, za⟩ := Kd.R_cell (0 : Int) HQ.out.row a ha0 ha1
  replace qa : World.cell? _ ⟨g, a.toNat, none⟩ = some (.int .i64 (rd cs a)) := qa
  clear H hi
  have HD := Aside0.mk (HQ.out.below (drew_below _))
  have hk := HQ.out.k
  by_cases hz : rd cs a = 0
  · have e : (if rd cs a ≠ 0 then (MapOf.get M n).getD 0 else at_) = at_ := if_neg (by simp [hz])
    show Calls _ _ _ _ (PlOut w _ base (.ok (if rd cs a ≠ 0 then (MapOf.get M n).getD 0 else at_, cs)))
    rw [e]
    rw [hz] at qa
    clear e hz
    go_enter Try.func64, Try.ntmps64
    go_wp2_with fail
    go_ret
    exact ⟨rfl, pl_same HP.out.row (below_alloc (Below.refl _ _) _)⟩
  · have e : (if rd cs a ≠ 0 then (MapOf.get M n).getD 0 else at_) = (MapOf.get M n).getD 0 := if_pos (by exact hz)
    show Calls _ _ _ _ (PlOut w _ base (.ok (if rd cs a ≠ 0 then (MapOf.get M n).getD 0 else at_, cs)))
    rw [e]
    have hzb : (rd cs a == 0) = false := by simpa using hz
    have hzn : (rd cs a != 0) = true := by simpa using hz
    clear e hz
    go_enter Try.func64, Try.ntmps64
    go_wp2_with fail
    have hlk : (Instr.lookup 64 (.map (some mb)) (.int .i64 n) false).run Try.prog ((w.alloc (.cells #[.int .i64 11, .int .i64 d, .int .i64 a, .int .i64 b, .int .i64 c, .int .i64 n, .int .i64 m] 38)).drew) = .ok (.int .i64 ((MapOf.get M n).getD 0)) ((w.alloc (.cells #[.int .i64 11, .int .i64 d, .int .i64 a, .int .i64 b, .int .i64 c, .int .i64 n, .int .i64 m] 38)).drew) := MapOf.run_lookup (enc := encI) HD.out.m Try.underlying64 Try.underlying3 (z := (0 : Int)) (zeroInt _) n false
    go_region
    all_goals
      go_wp2_with fail
      go_ret
      exact ⟨rfl, pl_same HP.out.row ((below_alloc (Below.refl _ _) _).trans ((drew_below _).mono (by simp)))⟩
set_option maxHeartbeats 2000000 in
theorem plain_unless (kb mb base : Nat) (M : List (Int × Int)) (v : Value) (cs : List Int) (x : Ir) (at_ : Int) (w : World) (H : Pl w kb mb base M v cs) (hi : Inn x cs.length) (h : x.op = 12) :
    Calls Try.prog 64 #[.pointer (some ⟨kb, 0, none⟩), .agg x.vals, v, .int .i64 at_] w (PlOut w v base (.ok (if rd cs x.a = 0 then (MapOf.get M x.n).getD 0 else at_, cs))) := by
  obtain ⟨op, d, a, b, c, n, m⟩ := x
  have h : op = 12 := h
  subst h
  obtain ⟨ha0, ha1⟩ := hi.a (by simp)
  have ha0 : 0 ≤ a := ha0
  have ha1 : a < cs.length := ha1
  have HP := Aside0.mk H
  obtain ⟨g, cap, e, hgb, hgl, cells, hcl⟩ := Kd.R_form H.row (by omega)
  subst e
  clear hcl
  have HQ := Aside0.mk (H.below (below_alloc (Below.refl _ _) (.cells #[.int .i64 12, .int .i64 d, .int .i64 a, .int .i64 b, .int .i64 c, .int .i64 n, .int .i64 m] 38)))
  obtain ⟨qa, za⟩ := Kd.R_cell (0 : Int) HQ.out.row a ha0 ha1
  replace qa : World.cell? _ ⟨g, a.toNat, none⟩ = some (.int .i64 (rd cs a)) := qa
  clear H hi
  have HD := Aside0.mk (HQ.out.below (drew_below _))
  have hk := HQ.out.k
  by_cases hz : rd cs a = 0
  · have e : (if rd cs a = 0 then (MapOf.get M n).getD 0 else at_) = (MapOf.get M n).getD 0 := if_pos (by exact hz)
    show Calls _ _ _ _ (PlOut w _ base (.ok (if rd cs a = 0 then (MapOf.get M n).getD 0 else at_, cs)))
    rw [e]
    rw [hz] at qa
    clear e hz
    go_enter Try.func64, Try.ntmps64
    go_wp2_with fail
    have hlk : (Instr.lookup 64 (.map (some mb)) (.int .i64 n) false).run Try.prog ((w.alloc (.cells #[.int .i64 12, .int .i64 d, .int .i64 a, .int .i64 b, .int .i64 c, .int .i64 n, .int .i64 m] 38)).drew) = .ok (.int .i64 ((MapOf.get M n).getD 0)) ((w.alloc (.cells #[.int .i64 12, .int .i64 d, .int .i64 a, .int .i64 b, .int .i64 c, .int .i64 n, .int .i64 m] 38)).drew) := MapOf.run_lookup (enc := encI) HD.out.m Try.underlying64 Try.underlying3 (z := (0 : Int)) (zeroInt _) n false
    go_region
    all_goals
      go_wp2_with fail
      go_ret
      exact ⟨rfl, pl_same HP.out.row ((below_alloc (Below.refl _ _) _).trans ((drew_below _).mono (by simp)))⟩
  · have e : (if rd cs a = 0 then (MapOf.get M n).getD 0 else at_) = at_ := if_neg (by exact hz)
    show Calls _ _ _ _ (PlOut w _ base (.ok (if rd cs a = 0 then (MapOf.get M n).getD 0 else at_, cs)))
    rw [e]
    have hzb : (rd cs a == 0) = false := by simpa using hz
    have hzn : (rd cs a != 0) = true := by simpa using hz
    clear e hz
    go_enter Try.func64, Try.ntmps64
    go_wp2_with fail
    go_ret
    exact ⟨rfl, pl_same HP.out.row (below_alloc (Below.refl _ _) _)⟩
set_option maxHeartbeats 2000000 in
theorem plain_select (kb mb base : Nat) (M : List (Int × Int)) (v : Value) (cs : List Int) (x : Ir) (at_ : Int) (w : World) (H : Pl w kb mb base M v cs) (hi : Inn x cs.length) (h : x.op = 4) :
    Calls Try.prog 64 #[.pointer (some ⟨kb, 0, none⟩), .agg x.vals, v, .int .i64 at_] w (PlOut w v base (.ok (at_, setI cs x.dst (rd cs (if rd cs x.c = 0 then x.b else x.a))))) := by
  obtain ⟨op, d, a, b, c, n, m⟩ := x
  have h : op = 4 := h
  subst h
  obtain ⟨h0, h1⟩ := hi.dst (by simp)
  have h0 : 0 ≤ d := h0
  have h1 : d < cs.length := h1
  obtain ⟨ha0, ha1⟩ := hi.a (by simp)
  have ha0 : 0 ≤ a := ha0
  have ha1 : a < cs.length := ha1
  obtain ⟨hb0, hb1⟩ := hi.b (by simp)
  have hb0 : 0 ≤ b := hb0
  have hb1 : b < cs.length := hb1
  obtain ⟨hc0, hc1⟩ := hi.c (by simp)
  have hc0 : 0 ≤ c := hc0
  have hc1 : c < cs.length := hc1
  have HP := Aside0.mk H
  obtain ⟨g, cap, e, hgb, hgl, cells, hcl⟩ := Kd.R_form H.row (by omega)
  subst e
  clear hcl
  have HQ := Aside0.mk (H.below (below_alloc (Below.refl _ _) (.cells #[.int .i64 4, .int .i64 d, .int .i64 a, .int .i64 b, .int .i64 c, .int .i64 n, .int .i64 m] 38)))
  obtain ⟨qd, zd⟩ := Kd.R_cell (0 : Int) HQ.out.row d h0 h1
  replace qd : World.cell? _ ⟨g, d.toNat, none⟩ = some (.int .i64 (rd cs d)) := qd
  obtain ⟨qa, za⟩ := Kd.R_cell (0 : Int) HQ.out.row a ha0 ha1
  replace qa : World.cell? _ ⟨g, a.toNat, none⟩ = some (.int .i64 (rd cs a)) := qa
  obtain ⟨qb, zb⟩ := Kd.R_cell (0 : Int) HQ.out.row b hb0 hb1
  replace qb : World.cell? _ ⟨g, b.toNat, none⟩ = some (.int .i64 (rd cs b)) := qb
  obtain ⟨qc, zc⟩ := Kd.R_cell (0 : Int) HQ.out.row c hc0 hc1
  replace qc : World.cell? _ ⟨g, c.toNat, none⟩ = some (.int .i64 (rd cs c)) := qc
  clear H hi
  by_cases hz : rd cs c = 0
  · show Calls _ _ _ _ (PlOut w _ base (.ok (at_, setI cs d (rd cs (if rd cs c = 0 then b else a)))))
    rw [if_pos hz]
    rw [hz] at qc
    clear hz
    go_enter Try.func64, Try.ntmps64
    go_wp2_with fail
    go_region
    go_wp2_with fail
    go_ret
    exact ⟨rfl, pl_drew (pl_put HP.out.row d (rd cs b) _)⟩
  · show Calls _ _ _ _ (PlOut w _ base (.ok (at_, setI cs d (rd cs (if rd cs c = 0 then b else a)))))
    rw [if_neg hz]
    have hzb : (rd cs c == 0) = false := by simpa using hz
    clear hz
    go_enter Try.func64, Try.ntmps64
    go_wp2_with fail
    go_region
    go_wp2_with fail
    go_ret
    exact ⟨rfl, pl_drew (pl_put HP.out.row d (rd cs a) _)⟩
set_option maxHeartbeats 2000000 in
theorem plain_op (kb mb base : Nat) (M : List (Int × Int)) (v : Value) (cs : List Int) (x : Ir) (at_ : Int) (w : World) (H : Pl w kb mb base M v cs) (hi : Inn x cs.length) (h : x.op = 3) (hb : Live.Can (rd cs x.b)) (u t : Int) (hev : eval x.n (rd cs x.a) (rd cs x.b) = (u, t)) (ht : t = 0) :
    Calls Try.prog 64 #[.pointer (some ⟨kb, 0, none⟩), .agg x.vals, v, .int .i64 at_] w (PlOut w v base (.ok (at_, setI cs x.dst u))) := by
  obtain ⟨op, d, a, b, c, n, m⟩ := x
  have h : op = 3 := h
  subst h
  obtain ⟨h0, h1⟩ := hi.dst (by simp)
  have h0 : 0 ≤ d := h0
  have h1 : d < cs.length := h1
  obtain ⟨ha0, ha1⟩ := hi.a (by simp)
  have ha0 : 0 ≤ a := ha0
  have ha1 : a < cs.length := ha1
  obtain ⟨hb0, hb1⟩ := hi.b (by simp)
  have hb0 : 0 ≤ b := hb0
  have hb1 : b < cs.length := hb1
  have HP := Aside0.mk H
  obtain ⟨g, cap, e, hgb, hgl, cells, hcl⟩ := Kd.R_form H.row (by omega)
  subst e
  clear hcl
  have HQ := Aside0.mk (H.below (below_alloc (Below.refl _ _) (.cells #[.int .i64 3, .int .i64 d, .int .i64 a, .int .i64 b, .int .i64 c, .int .i64 n, .int .i64 m] 38)))
  obtain ⟨qd, zd⟩ := Kd.R_cell (0 : Int) HQ.out.row d h0 h1
  replace qd : World.cell? _ ⟨g, d.toNat, none⟩ = some (.int .i64 (rd cs d)) := qd
  obtain ⟨qa, za⟩ := Kd.R_cell (0 : Int) HQ.out.row a ha0 ha1
  replace qa : World.cell? _ ⟨g, a.toNat, none⟩ = some (.int .i64 (rd cs a)) := qa
  obtain ⟨qb, zb⟩ := Kd.R_cell (0 : Int) HQ.out.row b hb0 hb1
  replace qb : World.cell? _ ⟨g, b.toNat, none⟩ = some (.int .i64 (rd cs b)) := qb
  have HEV := Aside0.mk (show eval n (rd cs a) (rd cs b) = (u, t) from hev)
  have HCB := Aside0.mk (show Live.Can (rd cs b) from hb)
  clear H hi hev hb
  subst ht
  go_enter Try.func64, Try.ntmps64
  go_wp2_with fail
  go_region_held3 (fun w' => w'.cell? ⟨w.heap.size, 5, none⟩ = some (.int .i64 n) ∧ w'.cell? ⟨w.heap.size, 2, none⟩ = some (.int .i64 a) ∧ w'.cell? ⟨w.heap.size, 3, none⟩ = some (.int .i64 b) ∧ w'.cell? ⟨g, a.toNat, none⟩ = some (.int .i64 (rd cs a)) ∧ w'.cell? ⟨g, b.toNat, none⟩ = some (.int .i64 (rd cs b))) (go_keep) ((go_at_call 81; refine (eval_calls n (rd cs a) (rd cs b) _ HCB.out.1 HCB.out.2).mono ?_; rw [HEV.out]; rintro e w2 ⟨rfl, hb⟩; have HQ2 := Aside0.mk (HQ.out.below ((drew_below _).trans (hb.mono (drew_below _).size))); have HBW := Aside0.mk ((below_alloc (Below.refl w.heap.size w) (.cells #[.int .i64 3, .int .i64 d, .int .i64 a, .int .i64 b, .int .i64 c, .int .i64 n, .int .i64 m] 38)).trans (((drew_below _).trans (hb.mono (drew_below _).size)).mono (by simp))); have HBX := Aside0.mk (blk_below (blk_below (blk_new w (.cells #[.int .i64 3, .int .i64 d, .int .i64 a, .int .i64 b, .int .i64 c, .int .i64 n, .int .i64 m] 38)) (drew_below _)) hb); have hy1 := blk_cell HBX.out 1; have hy2 := blk_cell HBX.out 2; have hy3 := blk_cell HBX.out 3; have hy5 := blk_cell HBX.out 5; obtain ⟨pa, ya⟩ := Kd.R_cell (0 : Int) HQ2.out.row a ha0 ha1; replace pa : World.cell? _ ⟨g, a.toNat, none⟩ = some (.int .i64 (rd cs a)) := pa; obtain ⟨pb, yb⟩ := Kd.R_cell (0 : Int) HQ2.out.row b hb0 hb1; replace pb : World.cell? _ ⟨g, b.toNat, none⟩ = some (.int .i64 (rd cs b)) := pb; obtain ⟨pd, yd⟩ := Kd.R_cell (0 : Int) HQ2.out.row d h0 h1; clear hb))
  clear qd qa qb zd za zb HQ HEV HCB
  go_wp2_with fail
  refine (must_yes 0 _).mono ?_
  rintro e w3 ⟨rfl, rfl⟩
  go_wp2_with fail
  go_ret
  exact ⟨rfl, pl_put2 HBW.out HQ2.out.row d u⟩
set_option maxHeartbeats 2000000 in
theorem plain_trap (kb mb base : Nat) (M : List (Int × Int)) (v : Value) (cs : List Int) (x : Ir) (at_ : Int) (w : World) (H : Pl w kb mb base M v cs) (hi : Inn x cs.length) (h : x.op = 3) (hb : Live.Can (rd cs x.b)) (u t : Int) (hev : eval x.n (rd cs x.a) (rd cs x.b) = (u, t)) (ht : t ≠ 0) :
    Calls Try.prog 64 #[.pointer (some ⟨kb, 0, none⟩), .agg x.vals, v, .int .i64 at_] w (PlOut w v base (.error t)) := by
  obtain ⟨op, d, a, b, c, n, m⟩ := x
  have h : op = 3 := h
  subst h
  obtain ⟨h0, h1⟩ := hi.dst (by simp)
  have h0 : 0 ≤ d := h0
  have h1 : d < cs.length := h1
  obtain ⟨ha0, ha1⟩ := hi.a (by simp)
  have ha0 : 0 ≤ a := ha0
  have ha1 : a < cs.length := ha1
  obtain ⟨hb0, hb1⟩ := hi.b (by simp)
  have hb0 : 0 ≤ b := hb0
  have hb1 : b < cs.length := hb1
  have HP := Aside0.mk H
  obtain ⟨g, cap, e, hgb, hgl, cells, hcl⟩ := Kd.R_form H.row (by omega)
  subst e
  clear hcl
  have HQ := Aside0.mk (H.below (below_alloc (Below.refl _ _) (.cells #[.int .i64 3, .int .i64 d, .int .i64 a, .int .i64 b, .int .i64 c, .int .i64 n, .int .i64 m] 38)))
  obtain ⟨qd, zd⟩ := Kd.R_cell (0 : Int) HQ.out.row d h0 h1
  replace qd : World.cell? _ ⟨g, d.toNat, none⟩ = some (.int .i64 (rd cs d)) := qd
  obtain ⟨qa, za⟩ := Kd.R_cell (0 : Int) HQ.out.row a ha0 ha1
  replace qa : World.cell? _ ⟨g, a.toNat, none⟩ = some (.int .i64 (rd cs a)) := qa
  obtain ⟨qb, zb⟩ := Kd.R_cell (0 : Int) HQ.out.row b hb0 hb1
  replace qb : World.cell? _ ⟨g, b.toNat, none⟩ = some (.int .i64 (rd cs b)) := qb
  have HEV := Aside0.mk (show eval n (rd cs a) (rd cs b) = (u, t) from hev)
  have HCB := Aside0.mk (show Live.Can (rd cs b) from hb)
  clear H hi hev hb
  have htb : (t == 0) = false := by simpa using ht
  clear ht
  go_enter Try.func64, Try.ntmps64
  go_wp2_with fail
  go_region_held3 (fun w' => w'.cell? ⟨w.heap.size, 5, none⟩ = some (.int .i64 n) ∧ w'.cell? ⟨w.heap.size, 2, none⟩ = some (.int .i64 a) ∧ w'.cell? ⟨w.heap.size, 3, none⟩ = some (.int .i64 b) ∧ w'.cell? ⟨g, a.toNat, none⟩ = some (.int .i64 (rd cs a)) ∧ w'.cell? ⟨g, b.toNat, none⟩ = some (.int .i64 (rd cs b))) (go_keep) ((go_at_call 81; refine (eval_calls n (rd cs a) (rd cs b) _ HCB.out.1 HCB.out.2).mono ?_; rw [HEV.out]; rintro e w2 ⟨rfl, hb⟩; have HQ2 := Aside0.mk (HQ.out.below ((drew_below _).trans (hb.mono (drew_below _).size))); have HBW := Aside0.mk ((below_alloc (Below.refl w.heap.size w) (.cells #[.int .i64 3, .int .i64 d, .int .i64 a, .int .i64 b, .int .i64 c, .int .i64 n, .int .i64 m] 38)).trans (((drew_below _).trans (hb.mono (drew_below _).size)).mono (by simp))); have HBX := Aside0.mk (blk_below (blk_below (blk_new w (.cells #[.int .i64 3, .int .i64 d, .int .i64 a, .int .i64 b, .int .i64 c, .int .i64 n, .int .i64 m] 38)) (drew_below _)) hb); have hy1 := blk_cell HBX.out 1; have hy2 := blk_cell HBX.out 2; have hy3 := blk_cell HBX.out 3; have hy5 := blk_cell HBX.out 5; obtain ⟨pa, ya⟩ := Kd.R_cell (0 : Int) HQ2.out.row a ha0 ha1; replace pa : World.cell? _ ⟨g, a.toNat, none⟩ = some (.int .i64 (rd cs a)) := pa; obtain ⟨pb, yb⟩ := Kd.R_cell (0 : Int) HQ2.out.row b hb0 hb1; replace pb : World.cell? _ ⟨g, b.toNat, none⟩ = some (.int .i64 (rd cs b)) := pb; obtain ⟨pd, yd⟩ := Kd.R_cell (0 : Int) HQ2.out.row d h0 h1; clear hb))
  clear qd qa qb zd za zb HQ HEV HCB
  go_wp2_with fail
  refine (must_no t _).mono ?_
  rintro e w3 ⟨rfl, rfl⟩
  exact ⟨rfl, rfl, HBW.out⟩
end Go.Proofs.Ytdcmeefeinppnaa.Rsem
namespace Go.Proofs.Ytdcmeefeinppnaa.Rsem
open Go.RowKit Go.Proofs.YtdcmeefeinppnaaW.PrintWords Go.Proofs.YtdcmeefeinppnaaW.PrintLast Go.Proofs.YtdcmeefeinppnaaW.PrintMore Go.Proofs.Ytdcmeefeinppnaa.Mem Go.Proofs.Ytdcmeefeinppnaa.Ir Go.Proofs.Ytdcmeefeinppnaa.Live
open MapOf (get put)
open Word (eval eval_calls)
set_option linter.unusedVariables false
set_option linter.unusedSimpArgs false

/-! ### values are of 64 bits -/
theorem can_wrap (z : Int) : Live.Can (wrap64 z) := by unfold Live.Can wrap64; omega
theorem can_trim (b : Bool) {v : Int} (h : Live.Can v) : Live.Can (Word.trim b v) := by
  obtain ⟨h0, h1⟩ := h
  have := Word.trim_range b v h0 h1
  exact ⟨this.1, this.2.1⟩
theorem can_sgn (b : Bool) {v : Int} (h : Live.Can v) : Live.Can (Word.sgn b v) := by
  obtain ⟨h0, h1⟩ := h
  unfold Word.sgn
  split
  · exact ⟨h0, h1⟩
  · unfold wrap32 Live.Can; omega
theorem can_tell (b : Bool) : Live.Can (Word.tell b) := by unfold Word.tell Live.Can; split <;> omega
theorem can_div {v d : Int} (h : Live.Can v) (hd : 0 < d) : Live.Can (v / d) := by
  obtain ⟨h0, h1⟩ := h
  have e1 : v / d ≤ 9223372036854775807 := by
    by_cases hv : 0 ≤ v
    · exact Int.le_trans (Int.ediv_le_self _ hv) h1
    · have : v / d < 0 := Int.ediv_neg_of_neg_of_pos (by omega) hd
      omega
  have e2 : -9223372036854775808 ≤ v / d := by
    have : v ≤ v / d ∨ 0 ≤ v / d := by
      by_cases hv : 0 ≤ v
      · right; exact Int.ediv_nonneg hv (by omega)
      · left
        rw [Int.le_ediv_iff_mul_le hd]
        have := Int.mul_le_mul_of_nonpos_left (a := v) (b := d) (c := 1) (by omega) (by omega)
        omega
    omega
  exact ⟨e2, e1⟩
theorem can_tmod {v d : Int} (h : Live.Can v) : Live.Can (v.tmod d) := by
  obtain ⟨h0, h1⟩ := h
  have h2 : (v.tmod d).natAbs ≤ v.natAbs := by rw [Int.natAbs_tmod]; exact Nat.mod_le _ _
  unfold Live.Can
  by_cases hv : 0 ≤ v
  · have := Int.tmod_nonneg d hv
    omega
  · have h3 := Int.tmod_nonneg d (show 0 ≤ -v by omega)
    rw [Int.neg_tmod] at h3
    omega
theorem can_divi (op : Int) (b : Bool) {x y : Int} (hx : Live.Can x) : Live.Can (Word.divi op b x y).1 := by
  unfold Word.divi
  repeat' split
  all_goals first | exact can_wrap _ | exact can0' | exact can_tmod (can_sgn _ hx)
where can0' : Live.Can 0 := by unfold Live.Can; omega
theorem can_ite1 {p : Prop} [Decidable p] {a b : Int × Int} (h1 : Live.Can a.1) (h2 : Live.Can b.1) : Live.Can (if p then a else b).1 := by split <;> assumption
theorem can_ite {p : Prop} [Decidable p] {a b : Int} (h1 : Live.Can a) (h2 : Live.Can b) : Live.Can (if p then a else b) := by split <;> assumption
theorem can_pair {a : Int} (h : Live.Can a) (t : Int) : Live.Can (a, t).1 := h
theorem can_shr {x d : Int} (b : Bool) (hx : Live.Can x) (k : Nat) : Live.Can (Word.sgn b x / 2 ^ k) := can_div (can_sgn b hx) (Int.pow_pos (show (0 : Int) < 2 by decide))
theorem can_reck (op : Int) (b : Bool) {x y : Int} (hx : Live.Can x) : Live.Can (Word.reck op b x y).1 := by
  unfold Word.reck
  apply can_ite1 (can_pair (can_wrap _) _)
  apply can_ite1 (can_pair (can_wrap _) _)
  apply can_ite1 (can_pair (can_wrap _) _)
  apply can_ite1 (can_pair (can_bits _ _ _) _)
  apply can_ite1 (can_pair (can_bits _ _ _) _)
  apply can_ite1 (can_pair (can_bits _ _ _) _)
  apply can_ite1 (can_pair (can_wrap _) _)
  apply can_ite1 (can_pair (can_shr (d := 0) b hx _) _)
  apply can_ite1 (can_pair (can_wrap _) _)
  apply can_ite1 (can_pair (can_ite (can_wrap _) (can_wrap _)) _)
  apply can_ite1 (can_pair (can_ite (can_wrap _) (can_wrap _)) _)
  exact can_divi _ _ hx
theorem can_eval (op : Int) {x y : Int} (hx : Live.Can x) : Live.Can (eval op x y).1 := by
  unfold Word.eval
  repeat' split
  all_goals first | exact can_tell _ | exact can_trim _ (can_trim _ hx) | exact can_trim _ (can_sgn _ (can_trim _ hx)) | exact can_trim _ (can_reck _ _ (can_trim _ hx)) | (unfold Live.Can; omega)
def CanL (cs : List Int) : Prop := ∀ i : Int, Live.Can (rd cs i)
theorem setI_len (cs : List Int) (k v : Int) : (setI cs k v).length = cs.length := by simp [setI]
theorem rd_setI {cs : List Int} {k : Int} (hk : k.toNat < cs.length) (v i : Int) : rd (setI cs k v) i = if i.toNat = k.toNat then v else rd cs i := rd_set cs k.toNat v i hk
theorem CanL.set {cs : List Int} (h : CanL cs) {k v : Int} (hk : 0 ≤ k ∧ k < cs.length) (hv : Live.Can v) : CanL (setI cs k v) := fun i => by
  rw [rd_setI (by omega)]
  split
  · exact hv
  · exact h i
/-- where a label is, it is a place -/
def Pos (M : List (Int × Int)) : Prop := ∀ n, 0 ≤ (get M n).getD 0
theorem lab_pos (L : List Ir) (k : Nat) : Pos (labR L k) := by
  induction k with
  | zero => intro n; simp [labR, MapOf.get_nil]
  | succ k ih =>
    intro n
    unfold labR
    split
    · rw [MapOf.get_put]
      split
      · simp
      · exact ih n
    · exact ih n
structure Good (x : Ir) (n : Nat) : Prop where
  inn : Inn x n
  lit : Live.Can x.n
  ret : x.op = 15 → 0 ≤ x.a → x.a < n
theorem plain_good {M : List (Int × Int)} (hM : Pos M) {x : Ir} {cs : List Int} (hg : Good x cs.length) (hc : CanL cs) {at_ at' : Int} {cs' : List Int} (h0 : 0 ≤ at_) (h : plainS M x cs at_ = .ok (at', cs')) : 0 ≤ at' ∧ cs'.length = cs.length ∧ CanL cs' := by
  unfold plainS at h
  split at h
  · rename_i h1
    cases h
    exact ⟨h0, setI_len _ _ _, hc.set (hg.inn.dst (.inl h1)) hg.lit⟩
  split at h
  · rename_i h2
    cases h
    exact ⟨h0, setI_len _ _ _, hc.set (hg.inn.dst (.inr (.inl h2))) (hc _)⟩
  split at h
  · rename_i h3
    split at h
    · cases h
      exact ⟨h0, setI_len _ _ _, hc.set (hg.inn.dst (.inr (.inr (.inl h3)))) (can_eval _ (hc _))⟩
    · cases h
  split at h
  · rename_i h4
    cases h
    exact ⟨h0, setI_len _ _ _, hc.set (hg.inn.dst (.inr (.inr (.inr h4)))) (hc _)⟩
  split at h
  · cases h
    refine ⟨?_, rfl, hc⟩
    split
    · exact hM _
    · exact h0
  split at h
  · cases h
    refine ⟨?_, rfl, hc⟩
    split
    · exact hM _
    · exact h0
  split at h
  · cases h
    exact ⟨hM _, rfl, hc⟩
  · cases h
    exact ⟨h0, rfl, hc⟩
theorem plain_calls (kb mb base : Nat) (M : List (Int × Int)) (v : Value) (cs : List Int) (x : Ir) (at_ : Int) (w : World) (H : Pl w kb mb base M v cs) (hg : Good x cs.length) (hc : CanL cs) :
    Calls Try.prog 64 #[.pointer (some ⟨kb, 0, none⟩), .agg x.vals, v, .int .i64 at_] w (PlOut w v base (plainS M x cs at_)) := by
  have hi := hg.inn
  by_cases h1 : x.op = 1
  · rw [show plainS M x cs at_ = .ok (at_, setI cs x.dst x.n) by unfold plainS; rw [if_pos h1]]
    exact plain_const kb mb base M v cs x at_ w H hi h1
  by_cases h2 : x.op = 2
  · rw [show plainS M x cs at_ = .ok (at_, setI cs x.dst (rd cs x.a)) by unfold plainS; rw [if_neg h1, if_pos h2]]
    exact plain_move kb mb base M v cs x at_ w H hi h2
  by_cases h3 : x.op = 3
  · obtain ⟨u, t, hev⟩ : ∃ u t, eval x.n (rd cs x.a) (rd cs x.b) = (u, t) := ⟨_, _, rfl⟩
    by_cases ht : t = 0
    · rw [show plainS M x cs at_ = .ok (at_, setI cs x.dst u) by unfold plainS; rw [if_neg h1, if_neg h2, if_pos h3, hev, if_pos ht]]
      exact plain_op kb mb base M v cs x at_ w H hi h3 (hc _) u t hev ht
    · rw [show plainS M x cs at_ = .error t by unfold plainS; rw [if_neg h1, if_neg h2, if_pos h3, hev, if_neg ht]]
      exact plain_trap kb mb base M v cs x at_ w H hi h3 (hc _) u t hev ht
  by_cases h4 : x.op = 4
  · rw [show plainS M x cs at_ = .ok (at_, setI cs x.dst (rd cs (if rd cs x.c = 0 then x.b else x.a))) by unfold plainS; rw [if_neg h1, if_neg h2, if_neg h3, if_pos h4]]
    exact plain_select kb mb base M v cs x at_ w H hi h4
  by_cases h11 : x.op = 11
  · rw [show plainS M x cs at_ = .ok (if rd cs x.a ≠ 0 then (get M x.n).getD 0 else at_, cs) by unfold plainS; rw [if_neg h1, if_neg h2, if_neg h3, if_neg h4, if_pos h11]]
    exact plain_if kb mb base M v cs x at_ w H hi h11
  by_cases h12 : x.op = 12
  · rw [show plainS M x cs at_ = .ok (if rd cs x.a = 0 then (get M x.n).getD 0 else at_, cs) by unfold plainS; rw [if_neg h1, if_neg h2, if_neg h3, if_neg h4, if_neg h11, if_pos h12]]
    exact plain_unless kb mb base M v cs x at_ w H hi h12
  by_cases h10 : x.op = 10
  · rw [show plainS M x cs at_ = .ok ((get M x.n).getD 0, cs) by unfold plainS; rw [if_neg h1, if_neg h2, if_neg h3, if_neg h4, if_neg h11, if_neg h12, if_pos h10]]
    exact plain_jump kb mb base M v cs x at_ w H hi h10
  · rw [show plainS M x cs at_ = .ok (at_, cs) by unfold plainS; rw [if_neg h1, if_neg h2, if_neg h3, if_neg h4, if_neg h11, if_neg h12, if_neg h10]]
    exact plain_other kb mb base M v cs x at_ w H hi ⟨h1, h2, h3, h4, h10, h11, h12⟩
/-- the run: the cells, the value, the trap -/
def runS (L : List Ir) (M : List (Int × Int)) : Nat → Int → List Int → List Int × Int × Int
  | 0, at_, cs => if at_ < L.length then (cs, 0, 7) else (cs, 0, 0)
  | f + 1, at_, cs =>
    if at_ < L.length then
      if (atIr L at_.toNat).op = 15 then (cs, if 0 ≤ (atIr L at_.toNat).a then rd cs (atIr L at_.toNat).a else 0, 0)
      else if (atIr L at_.toNat).op = 16 then (cs, 0, (atIr L at_.toNat).n)
      else match plainS M (atIr L at_.toNat) cs (at_ + 1) with
        | .error t => (cs, 0, t)
        | .ok r => runS L M f r.1 r.2
    else (cs, 0, 0)
end Go.Proofs.Ytdcmeefeinppnaa.Rsem
namespace Go.Proofs.Ytdcmeefeinppnaa.Rsem
open Go.RowKit Go.Proofs.YtdcmeefeinppnaaW.PrintWords Go.Proofs.YtdcmeefeinppnaaW.PrintLast Go.Proofs.YtdcmeefeinppnaaW.PrintMore Go.Proofs.Ytdcmeefeinppnaa.Mem Go.Proofs.Ytdcmeefeinppnaa.Ir Go.Proofs.Ytdcmeefeinppnaa.Live
open MapOf (get put)
set_option linter.unusedVariables false
set_option linter.unusedSimpArgs false

/-- where all lies while code is carried out: w0 the world at Exec's call -/
structure Xs (w0 W : World) (c : Cod) (A : Option Addr) (cap b3 kb mb base : Nat) (M : List (Int × Int)) (v : Value) (cs : List Int) (r : Int) : Prop where
  bel : Below w0.heap.size w0 W
  box : W.heap[w0.heap.size]? = some (.cells (c.vals A cap) 24 (0, 0))
  bo : W.heap[w0.heap.size + 1]? = some (.cells #[v] 26 (0, 0))
  bv : W.heap[w0.heap.size + 2]? = some (.cells #[.int .i64 r] 3 (0, 0))
  bk : W.heap[b3]? = some (.cells #[.pointer (some ⟨kb, 0, none⟩)] 81 (0, 0))
  kc : W.heap[kb]? = some (.cells #[.int .i64 c.cells, .int .i64 c.params, .slice A c.body.length cap, .int .i64 c.labels, .map (some mb)] 101 (0, 0))
  m : MapOf.Is encI W mb M
  row : (Kd.int .i64).R 3 W base (fun _ => True) v cs
  lt : w0.heap.size + 3 ≤ base
section
variable {w0 W W1 : World} {c : Cod} {A : Option Addr} {cap b3 kb mb base : Nat} {M : List (Int × Int)} {v : Value} {cs cs1 : List Int} {r : Int}
theorem Xs.below (h : Xs w0 W c A cap b3 kb mb base M v cs r) (hb : Below W.heap.size W W1) : Xs w0 W1 c A cap b3 kb mb base M v cs r :=
  ⟨h.bel.trans (hb.mono h.bel.size), blk_below h.box hb, blk_below h.bo hb, blk_below h.bv hb, blk_below h.bk hb, blk_below h.kc hb, h.m.below hb, Kd.R_below h.row hb, h.lt⟩
theorem Xs.own (h : Xs w0 W c A cap b3 kb mb base M v cs r) : ∀ k, some k = v.ownBlock → base ≤ k := fun k hk => Kd.R_base h.row k hk.symm
theorem Xs.pl (h : Xs w0 W c A cap b3 kb mb base M v cs r) : Pl W kb mb base M v cs := ⟨blk_cell h.kc 4, h.m, h.row⟩
/-- another row of cells has been laid in place of the elder -/
theorem Xs.put (h : Xs w0 W c A cap b3 kb mb base M v cs r) (hr : (Kd.int .i64).R 3 W1 base (fun _ => True) v cs1) (hc : Ch W W1 (fun k => some k = v.ownBlock)) : Xs w0 W1 c A cap b3 kb mb base M v cs1 r := by
  have ho := h.own
  have hk : ∀ {i : Nat} {cells : Array Value} {t : TypeId}, W.heap[i]? = some (.cells cells t (0, 0)) → ¬ some i = v.ownBlock → W1.heap[i]? = some (.cells cells t (0, 0)) := fun {i cells t} hb hn => (hc.block i (blk_lt hb) hn).trans hb
  have hlow : ∀ i, i < base → ¬ some i = v.ownBlock := fun i hi e => by have := ho i e; omega
  have hl := h.lt
  refine ⟨⟨hc.os.trans h.bel.os, hc.tape.trans h.bel.tape, hc.output.trans h.bel.output, Nat.le_trans h.bel.size hc.size, fun i hi => (hc.block i (Nat.lt_of_lt_of_le hi h.bel.size) (hlow i (by omega))).trans (h.bel.block i hi)⟩,
    hk h.box (hlow _ (by omega)), hk h.bo (hlow _ (by omega)), hk h.bv (hlow _ (by omega)), hk h.bk (Kd.R_ne h.row h.bk (by decide)), hk h.kc (Kd.R_ne h.row h.kc (by decide)), h.m.same (hc.block mb h.m.lt ?_), hr, h.lt⟩
  intro e
  rcases Nat.eq_zero_or_pos cs.length with h0 | h0
  · obtain ⟨_, _, hcl⟩ := h.m
    obtain ⟨cells, hcc⟩ := own_typed (Kd.R_own h.row).choose_spec mb e.symm
    exact h.m.ne_cells hcc rfl
  · obtain ⟨cells, hcc⟩ := own_typed (Kd.R_own h.row).choose_spec mb e.symm
    exact h.m.ne_cells hcc rfl
/-- the value has been laid -/
theorem Xs.val (h : Xs w0 W c A cap b3 kb mb base M v cs r) (u : Int) : Xs w0 (W.setCell ⟨w0.heap.size + 2, 0, none⟩ (.int .i64 u)) c A cap b3 kb mb base M v cs u := by
  have hl := h.lt
  refine ⟨h.bel.setCell (by simp) _, blk_far h.box (by simp) _, blk_far h.bo (by simp) _, by simpa using blk_set h.bv 0 (.int .i64 u), blk_far h.bk (fun e => ?_) _, blk_far h.kc (fun e => ?_) _, h.m.far (fun e => ?_) _, Kd.R_mono (Kd.R_far (Kd.R_bound h.row) (fun k hk => by have := hk.2.1; show k ≠ w0.heap.size + 2; omega) _) (fun _ _ => trivial), h.lt⟩
  · have h1 := h.bk
    rw [e, h.bv] at h1; cases h1
  · have h1 := h.kc
    rw [e, h.bv] at h1; cases h1
  · exact h.m.ne_cells h.bv e
end
theorem ch_set {a b : World} {S : Nat → Prop} (h : Ch a b S) (p : Addr) (u : Value) (hp : S p.block) : Ch a (b.setCell p u) S :=
  ⟨h.os, h.tape, h.output, by simpa using h.size, fun i hi hn => (Below.heap_setCell b p u i (fun e => hn (e ▸ hp))).trans (h.block i hi hn)⟩
/-- what the function literal leaves -/
def ExOut (w0 W : World) (c : Cod) (A : Option Addr) (cap b3 kb mb base : Nat) (M : List (Int × Int)) (v : Value) (R : List Int × Int × Int) (e : Ending) (W1 : World) : Prop :=
  (e = .returned (.tuple #[]) ∧ R.2.2 = 0 ∨ e = .panicked (trapOf R.2.2)) ∧ Xs w0 W1 c A cap b3 kb mb base M v R.1 R.2.1 ∧ Ch W W1 (fun k => k = w0.heap.size + 2 ∨ some k = v.ownBlock)
set_option maxHeartbeats 8000000 in
set_option maxRecDepth 100000 in
theorem lit_calls {w0 W : World} {c : Cod} {A : Option Addr} {cap b3 kb mb base : Nat} {M : List (Int × Int)} {v : Value} {cs : List Int} (H : Xs w0 W c A cap b3 kb mb base M v cs 0) (hcode : CodeAt w0 c A cap)
    (hM : Pos M) (hg : ∀ i : Nat, i < c.body.length → Good (atIr c.body i) cs.length) (hc : CanL cs) :
    Calls Try.prog 62 #[.pointer (some ⟨w0.heap.size, 0, none⟩), .pointer (some ⟨w0.heap.size + 1, 0, none⟩), .pointer (some ⟨w0.heap.size + 2, 0, none⟩), .pointer (some ⟨b3, 0, none⟩)] W (ExOut w0 W c A cap b3 kb mb base M v (runS c.body M 10000 0 cs)) := by
  have HP := Aside0.mk (And.intro H (And.intro (Ch.refl W (fun k => k = w0.heap.size + 2 ∨ some k = v.ownBlock)) hc))
  have HG := Aside0.mk hg
  have HCODE := Aside0.mk hcode
  have HPOS := Aside0.mk hM
  have hsm := hcode.small
  have HLEN := Aside0.mk (show cs.length = cs.length from rfl)
  obtain ⟨N, hN⟩ : ∃ N, cs.length = N := ⟨_, rfl⟩
  obtain ⟨R, hR⟩ : ∃ R, runS c.body M 10000 0 cs = R := ⟨_, rfl⟩
  have HR0 := Aside0.mk hR
  have HN0 := Aside0.mk hN
  rw [hN] at HG
  rw [hR]
  clear H hc hg hcode hM hR hN HLEN
  go_enter Try.func62, Try.ntmps62
  go_wp2_with fail
  go_loopw [4, 5] (fun av nv wr => ∃ (a : Nat) (k f : Nat) (ds : List Int), av = .int .i64 a ∧ nv = .int .i64 k ∧ k + f = 10000 ∧ Aside0 (ds.length = N ∧ runS c.body M f a ds = R) ∧ Aside0 (Xs w0 wr c A cap b3 kb mb base M v ds 0 ∧ Ch W wr (fun k => k = w0.heap.size + 2 ∨ some k = v.ownBlock) ∧ CanL ds)) (fun _ nv _ => 10001 - (intOf nv).toNat)
  case atStart => exact ⟨0, 0, 10000, cs, rfl, rfl, rfl, ⟨HN0.out, HR0.out⟩, HP⟩
  case round =>
    obtain ⟨a, k, f, ds, rfl, rfl, hf, HR, HQ⟩ := hrel
    clear HP HR0 HN0
    have hb2 := blk_cell HQ.out.1.box 2
    by_cases hlt : a < c.body.length
    · rcases Nat.eq_zero_or_pos f with h0 | hpos
      · subst h0
        have hhi : decide ((k : Int) < 10000) = false := decide_eq_false (by omega)
        have HRE := Aside0.mk (show (ds, (0 : Int), (7 : Int)) = R from by have h := HR.out.2; unfold runS at h; rw [if_pos (by omega)] at h; exact h)
        go_wp2_with fail
        refine (must_no 7 _).mono ?_
        rintro e w1 ⟨rfl, rfl⟩
        refine ⟨rfl, ?_⟩
        rw [← HRE.out]
        exact ⟨.inr rfl, HQ.out.1, HQ.out.2.1⟩
      · obtain ⟨f, rfl⟩ : ∃ g, f = g + 1 := ⟨f - 1, by omega⟩
        obtain ⟨ad, e, hx0, hx1, hx2, hx3, hx4, hx5, hx6⟩ := at_ir (Kd.C_below HCODE.out.row HQ.out.1.bel) a hlt
        subst e
        have hlo : decide ((k : Int) < 10000) = true := decide_eq_true (by omega)
        go_wp2_with fail
        refine (must_yes 7 _).mono ?_
        rintro e w1 ⟨rfl, rfl⟩
        have HGX := Aside0.mk (HG.out a hlt)
        have HRX := Aside0.mk (show (if (atIr c.body a).op = 15 then (ds, if 0 ≤ (atIr c.body a).a then rd ds (atIr c.body a).a else 0, 0) else if (atIr c.body a).op = 16 then (ds, 0, (atIr c.body a).n) else match plainS M (atIr c.body a) ds ((a : Int) + 1) with | .error t => (ds, 0, t) | .ok r => runS c.body M f r.1 r.2) = R from by have h := HR.out.2; unfold runS at h; rw [if_pos (by omega), Int.toNat_natCast] at h; exact h)
        by_cases h15 : (atIr c.body a).op = 15
        · rw [if_pos h15] at HRX
          have hop : ((atIr c.body a).op == 15) = true := by simpa using h15
          rw [h15] at hx0
          by_cases ha : 0 ≤ (atIr c.body a).a
          · have hab : decide (0 ≤ (atIr c.body a).a) = true := decide_eq_true ha
            have hal : (atIr c.body a).a < ds.length := by rw [HR.out.1]; exact HGX.out.ret h15 ha
            rw [if_pos ha] at HRX
            have hbo := blk_cell HQ.out.1.bo 0
            have hbv := blk_cell HQ.out.1.bv 0
            have hfv := blk_frozen HQ.out.1.bv 0
            obtain ⟨g, cap', e, hgb, hgl, cells, hcl⟩ := Kd.R_form HQ.out.1.row (by omega)
            subst e
            clear hcl
            obtain ⟨qa, za⟩ := Kd.R_cell (0 : Int) HQ.out.1.row _ ha hal
            replace qa : World.cell? _ ⟨g, (atIr c.body a).a.toNat, none⟩ = some (.int .i64 (rd ds (atIr c.body a).a)) := qa
            have hbo2 := fun o => cell_al hbo o
            have hbv2 := fun o => cell_al hbv o
            have hfv2 := fun o => froz_al hbv hfv o
            have qa2 := fun o => cell_al qa o
            clear h15 hop hbo hbv hfv qa
            go_wp2_with fail
            refine bodyPost_ret (results_none rfl _ _ _) rfl ?_
            rw [← HRX.out]
            have hch := HQ.out.2.1.then_below (below_alloc (Below.refl _ _) (.cells #[.int .i64 15, .int .i64 (atIr c.body a).dst, .int .i64 (atIr c.body a).a, .int .i64 (atIr c.body a).b, .int .i64 (atIr c.body a).c, .int .i64 (atIr c.body a).n, .int .i64 (atIr c.body a).m] 38))
            exact ⟨.inl ⟨rfl, rfl⟩, (HQ.out.1.below (below_alloc (Below.refl _ _) _)).val _, ch_set hch ⟨w0.heap.size + 2, 0, none⟩ _ (.inl rfl)⟩
          · have hab : decide (0 ≤ (atIr c.body a).a) = false := decide_eq_false ha
            rw [if_neg ha] at HRX
            clear h15 ha hop
            go_wp2_with fail
            refine bodyPost_ret (results_none rfl _ _ _) rfl ?_
            rw [← HRX.out]
            exact ⟨.inl ⟨rfl, rfl⟩, HQ.out.1.below (below_alloc (Below.refl _ _) _), HQ.out.2.1.then_below (below_alloc (Below.refl _ _) _)⟩
        · rw [if_neg h15] at HRX
          have hop : ((atIr c.body a).op == 15) = false := by simpa using h15
          by_cases h16 : (atIr c.body a).op = 16
          · rw [if_pos h16] at HRX
            rw [h16] at hx0
            clear h15 h16 hop
            go_wp2_with fail
            refine (must_no _ _).mono ?_
            rintro e w1 ⟨rfl, rfl⟩
            refine ⟨rfl, ?_⟩
            rw [← HRX.out]
            exact ⟨.inr rfl, HQ.out.1.below (below_alloc (Below.refl _ _) _), HQ.out.2.1.then_below (below_alloc (Below.refl _ _) _)⟩
          · rw [if_neg h16] at HRX
            have hop2 : ((atIr c.body a).op == 16) = false := by simpa using h16
            have hbo := fun o => cell_al (blk_cell HQ.out.1.bo 0) o
            have hbk := fun o => cell_al (blk_cell HQ.out.1.bk 0) o
            clear h15 h16
            go_wp2_with fail
            have HQ1 := Aside0.mk (HQ.out.1.below (below_alloc (Below.refl _ _) (.cells (atIr c.body a).vals 38)))
            have HC1 := Aside0.mk (HQ.out.2.1.then_below (below_alloc (Below.refl _ _) (.cells (atIr c.body a).vals 38)))
            have HGX2 := Aside0.mk (show Good (atIr c.body a) ds.length by rw [HR.out.1]; exact HGX.out)
            have HPC := Aside0.mk (plain_calls kb mb base M v ds (atIr c.body a) ((a : Int) + 1) _ HQ1.out.pl HGX2.out HQ.out.2.2)
            clear hx0 hx1 hx2 hx3 hx4 hx5 hx6 hbo hbk hb2 hop hop2
            cases hps : plainS M (atIr c.body a) ds ((a : Int) + 1) with
            | error t =>
              rw [hps] at HPC HRX
              refine HPC.out.mono ?_
              rintro e w2 ⟨rfl, hb⟩
              refine ⟨rfl, ?_⟩
              rw [← HRX.out]
              exact ⟨.inr rfl, HQ1.out.below hb, HC1.out.then_below hb⟩
            | ok r =>
              have hpg := plain_good HPOS.out HGX2.out HQ.out.2.2 (by omega) hps
              rw [hps] at HPC HRX
              obtain ⟨r1, r2⟩ := r
              obtain ⟨a', rfl⟩ : ∃ a' : Nat, r1 = (a' : Int) := ⟨r1.toNat, by have := hpg.1; omega⟩
              have HPG := Aside0.mk hpg
              clear hps hpg
              refine HPC.out.mono ?_
              rintro e w2 ⟨rfl, hr, hch⟩
              have HQ2 := Aside0.mk (And.intro (HQ1.out.put hr hch) (HC1.out.trans hch (fun j hj => .inl (.inr hj))))
              clear hr hch
              go_wp2_with fail
              go_roundw
              case rel => exact ⟨a', k + 1, f, r2, rfl, by go_num, by omega, ⟨HPG.out.2.1.trans HR.out.1, HRX.out⟩, ⟨HQ2.out.1, HQ2.out.2, HPG.out.2.2⟩⟩
              case measure => simp [intOf]; omega
    · have HRE := Aside0.mk (show (ds, (0 : Int), (0 : Int)) = R from by
        have h := HR.out.2
        cases f with
        | zero => unfold runS at h; rw [if_neg (by omega)] at h; exact h
        | succ f => unfold runS at h; rw [if_neg (by omega)] at h; exact h)
      go_wp2_with fail
      go_end0
      rw [← HRE.out]
      exact ⟨.inl ⟨rfl, rfl⟩, HQ.out.1, HQ.out.2.1⟩
end Go.Proofs.Ytdcmeefeinppnaa.Rsem
namespace Go.Proofs.Ytdcmeefeinppnaa.Rsem
open Go.RowKit Go.Proofs.YtdcmeefeinppnaaW.PrintWords Go.Proofs.YtdcmeefeinppnaaW.PrintLast Go.Proofs.YtdcmeefeinppnaaW.PrintMore Go.Proofs.Ytdcmeefeinppnaa.Mem Go.Proofs.Ytdcmeefeinppnaa.Ir Go.Proofs.Ytdcmeefeinppnaa.Live
open MapOf (get put)
set_option linter.unusedVariables false
set_option linter.unusedSimpArgs false

set_option maxRecDepth 100000 in
theorem catch_panicking (p : Addr) (x t : Int) (older : List PanicEntry) (w : World) (hc : w.cell? p = some (.int .i64 x)) (hz : w.frozen? p = false) :
    CallsD Try.prog 80 #[.pointer (some p)] (.panicking ({ v := .iface 102 (.int .i64 t), recovered := false } :: older)) w fun e u' w' =>
      e = .returned (.tuple #[]) ∧ u' = .panicking ({ v := .iface 102 (.int .i64 t), recovered := true } :: older) ∧ w' = w.setCell p (.int .i64 t) := by
  have hta : (Instr.typeAssert (.iface 102 (.int .i64 t)) 20 102 true).run Try.prog w = .ok (.tuple #[.int .i64 t, .bool true]) w := by kernel_rfl
  refine callsD_of_wpS Try.func80 rfl fun c₀ cs hu => ?_
  apply wpS_seq
  apply wpS_region
  simp [wpOpsS, go_sem, recoverD, hu, Try.ntmps80, Exit.thenS]
  refine wpS_of_wp ?_
  simp only [List.size_toArray, List.length_cons, List.length_nil, Nat.reduceAdd, Nat.reduceSub, Array.replicate_succ, Array.replicate_zero, List.push_toArray, List.append_toArray, List.nil_append, List.cons_append, List.setIfInBounds_toArray, List.set_cons_zero, List.set_cons_succ]
  go_wp2_with fail
  cases c₀
  simp_all [bodyPostS, results, Try.results80]
theorem catch_idle (p : Addr) (w : World) :
    CallsD Try.prog 80 #[.pointer (some p)] .returning w fun e u' w' => e = .returned (.tuple #[]) ∧ u' = .returning ∧ w' = w := by
  refine callsD_of_wpS Try.func80 rfl fun c₀ cs hu => ?_
  apply wpS_seq
  apply wpS_region
  simp [wpOpsS, go_sem, recoverD, hu, Try.ntmps80, Exit.thenS]
  refine wpS_of_wp ?_
  simp only [List.size_toArray, List.length_cons, List.length_nil, Nat.reduceAdd, Nat.reduceSub, Array.replicate_succ, Array.replicate_zero, List.push_toArray, List.append_toArray, List.nil_append, List.cons_append, List.setIfInBounds_toArray, List.set_cons_zero, List.set_cons_succ]
  go_wp2_with fail
  cases c₀
  simp_all [bodyPostS, results, Try.results80]
/-- what lies among the elder blocks stays where only younger ones change -/
theorem Xs.under {w0 W W1 W2 : World} {c : Cod} {A : Option Addr} {cap b3 kb mb base : Nat} {M : List (Int × Int)} {v : Value} {cs cs1 : List Int} {r r1 : Int} (h : Xs w0 W c A cap b3 kb mb base M v cs r) (h1 : Xs w0 W1 c A cap b3 kb mb base M v cs1 r1) (hb : Below W.heap.size W1 W2) : Xs w0 W2 c A cap b3 kb mb base M v cs1 r1 := by
  have hk : ∀ {i : Nat} {o o' : Obj}, W.heap[i]? = some o' → W1.heap[i]? = some o → W2.heap[i]? = some o := fun {i o o'} e' e => (hb.block i (blk_lt e')).trans e
  have hown : ∀ k, v.ownBlock = some k → k < W.heap.size := fun k hk => ((Kd.R_bound h.row).1 k hk).2.2.1
  refine ⟨h1.bel.trans (hb.mono h.bel.size), hk h.box h1.box, hk h.bo h1.bo, hk h.bv h1.bv, hk h.bk h1.bk, hk h.kc h1.kc, h1.m.same (hb.block mb h.m.lt), ?_, h1.lt⟩
  exact Kd.R_mono (Kd.R_step (Kd.R_of_own (Kd.own_of_R h1.row) hown) (fun k hk _ => hb.block k hk)) (fun _ _ => trivial)
set_option maxHeartbeats 2000000 in
theorem trapped_calls {w0 W : World} {c : Cod} {A : Option Addr} {cap b3 kb mb base : Nat} {M : List (Int × Int)} {v : Value} {cs : List Int} (H : Xs w0 W c A cap b3 kb mb base M v cs 0) (hcode : CodeAt w0 c A cap)
    (hM : Pos M) (hg : ∀ i : Nat, i < c.body.length → Good (atIr c.body i) cs.length) (hc : CanL cs) :
    Calls Try.prog 61 #[.func (.func 62) #[] #[.pointer (some ⟨w0.heap.size, 0, none⟩), .pointer (some ⟨w0.heap.size + 1, 0, none⟩), .pointer (some ⟨w0.heap.size + 2, 0, none⟩), .pointer (some ⟨b3, 0, none⟩)]] W fun e W1 =>
      e = .returned (.int .i64 (runS c.body M 10000 0 cs).2.2) ∧ Xs w0 W1 c A cap b3 kb mb base M v (runS c.body M 10000 0 cs).1 (runS c.body M 10000 0 cs).2.1 := by
  have hmf : ∀ (fn : Fn) (first cap : Array Value) (w : World), (Instr.makeFunc fn first cap).run Try.prog w = .ok (.func fn first cap) w := fun _ _ _ _ => rfl
  have HX := Aside0.mk (H.below (below_alloc (Below.refl _ _) (.cells #[.int .i64 0] 3)))
  have HL := Aside0.mk (lit_calls HX.out hcode hM hg hc)
  have HT := Aside0.mk (blk_new W (.cells #[.int .i64 0] 3))
  have HSZ := Aside0.mk (show w0.heap.size + 2 < W.heap.size from blk_lt H.bv)
  have HOWN := Aside0.mk (fun k (hk : some k = v.ownBlock) => (Kd.R_bound H.row).1 k hk.symm)
  obtain ⟨R, hR⟩ : ∃ R, runS c.body M 10000 0 cs = R := ⟨_, rfl⟩
  rw [hR] at HL ⊢
  have HW := Aside0.mk H
  clear H hcode hM hg hc hR HX
  go_enter_defers Try.func61, Try.ntmps61
  go_wp2_with fail
  refine HL.out.mono ?_
  rintro e w1 ⟨he, hx, hch⟩
  have ht := hch.block W.heap.size (by simp) (fun h => by
    rcases h with h | h
    · have := HSZ.out; omega
    · have := (HOWN.out _ h).2.2.1; omega)
  rw [HT.out] at ht
  have HX1 := Aside0.mk hx
  have hc1 := blk_cell ht 0
  have hf1 := blk_frozen ht 0
  clear HL hx hch HT
  rcases he with ⟨rfl, hz⟩ | rfl
  · have HR2 := Aside0.mk (show Xs w0 (w1.setCell ⟨W.heap.size, 0, none⟩ (.int .i64 0)) c A cap b3 kb mb base M v R.1 R.2.1 from HW.out.under HX1.out (Below.setCell (p := ⟨W.heap.size, 0, none⟩) (Below.refl W.heap.size w1) (Nat.le_refl _) _))
    go_wp2_with fail
    refine leaves_cons (f := 80) (args := #[.pointer (some ⟨W.heap.size, 0, none⟩)]) (by simp) (by simp [go_sem]) ?_
    refine (catch_idle ⟨W.heap.size, 0, none⟩ _).mono ?_
    rintro e u' w'' ⟨rfl, rfl, rfl⟩
    have hcc : (w1.setCell ⟨W.heap.size, 0, none⟩ (.int .i64 0)).cell? ⟨W.heap.size, 0, none⟩ = some (.int .i64 0) := by simpa using blk_cell (blk_set ht 0 (.int .i64 0)) 0
    simp [Leaves, settle, results, Try.results61, go_sem, hz]
    rw [hcc]
    exact ⟨_, rfl, rfl, HR2.out⟩
  · have HR2 := Aside0.mk (show Xs w0 (w1.setCell ⟨W.heap.size, 0, none⟩ (.int .i64 R.2.2)) c A cap b3 kb mb base M v R.1 R.2.1 from HW.out.under HX1.out (Below.setCell (p := ⟨W.heap.size, 0, none⟩) (Below.refl W.heap.size w1) (Nat.le_refl _) _))
    refine leaves_cons (f := 80) (args := #[.pointer (some ⟨W.heap.size, 0, none⟩)]) (by simp) (by simp [go_sem]) ?_
    refine (catch_panicking ⟨W.heap.size, 0, none⟩ 0 R.2.2 [] _ hc1 hf1).mono ?_
    rintro e u' w'' ⟨rfl, rfl, rfl⟩
    have hcc : (w1.setCell ⟨W.heap.size, 0, none⟩ (.int .i64 R.2.2)).cell? ⟨W.heap.size, 0, none⟩ = some (.int .i64 R.2.2) := by simpa using blk_cell (blk_set ht 0 (.int .i64 R.2.2)) 0
    simp [Leaves, settle, results, Try.results61, go_sem]
    rw [hcc]
    exact ⟨_, rfl, rfl, HR2.out⟩
/-! ### ready -/
section
variable {β : Type} {enc : β → Value} {P : Program} {w : World} {ops : Array Oper} {o : Oper} {a : Act} {Q : Exit → Act → World → Prop} {Kc : Act → World → Prop}
theorem update_step (hw : Region.wanted o (yielded ops a.tmps) = true) (m x v : Operand) (t : TypeId) (hop : o.op = Op.mapUpdate t m x v) (kt et : TypeId) (ht : P.underlying t = some (.map kt et)) (hkt : P.underlying kt = some (.int .i64))
    (b : Nat) (M : List (Int × β)) (hm : a.eval m = .map (some b)) (h : MapOf.Is enc w b M) (k : Int) (u : β) (hx : a.eval x = .int .i64 k) (hv : a.eval v = enc u)
    (hK : ∀ w', MapOf.Is enc w' b (put M k u) → w.grownBy w' (some b) → w'.heap.size = w.heap.size → Kc (a.put o.dst undef) w') : if Region.wanted o (yielded ops a.tmps) = true then Oper.wp P o a w Kc Q else Kc (a.put o.dst undef) w := by
  obtain ⟨w', hrun, r1, r2, r3⟩ := MapOf.run_update h ht hkt k u
  rw [if_pos hw]
  unfold Oper.wp
  simp [execOp, hop, hm, hx, hv, hrun, Result.andThen]
  exact hK w' r1 r2 r3
end
structure Rd (w W : World) (c : Cod) (A : Option Addr) (cap : Nat) (M : List (Int × Int)) : Prop where
  bel : Below w.heap.size w W
  box : W.heap[w.heap.size]? = some (.cells (c.vals A cap) 24 (0, 0))
  m : MapOf.Is encI W (w.heap.size + 1) M
  kc : W.heap[w.heap.size + 1 + 1]? = some (.cells #[.int .i64 c.cells, .int .i64 c.params, .slice A c.body.length cap, .int .i64 c.labels, .map (some (w.heap.size + 1))] 101 (0, 0))
theorem Rd.below {w W W1 : World} {c : Cod} {A : Option Addr} {cap : Nat} {M : List (Int × Int)} (h : Rd w W c A cap M) (hb : Below W.heap.size W W1) : Rd w W1 c A cap M :=
  ⟨h.bel.trans (hb.mono h.bel.size), blk_below h.box hb, h.m.below hb, blk_below h.kc hb⟩
theorem Rd.grown {w W W1 : World} {c : Cod} {A : Option Addr} {cap : Nat} {M M1 : List (Int × Int)} (h : Rd w W c A cap M) (hm : MapOf.Is encI W1 (w.heap.size + 1) M1) (hg : W.grownBy W1 (some (w.heap.size + 1))) : Rd w W1 c A cap M1 :=
  ⟨h.bel.grown hg h.bel.size (fun k hk => by cases hk; omega), blk_grown h.box hg (by simp), hm, blk_grown h.kc hg (by simp)⟩
theorem rd_init (w : World) (c : Cod) (A : Option Addr) (cap : Nat) (W : World) (h : W = ((w.alloc (.cells (c.vals A cap) 24)).alloc (.map #[] 0)).alloc (.cells #[.int .i64 c.cells, .int .i64 c.params, .slice A c.body.length cap, .int .i64 c.labels, .map (some (w.heap.size + 1))] 101)) : Rd w W c A cap [] := by
  subst h
  have hk := blk_new ((w.alloc (.cells (c.vals A cap) 24)).alloc (.map #[] 0)) (.cells #[.int .i64 c.cells, .int .i64 c.params, .slice A c.body.length cap, .int .i64 c.labels, .map (some (w.heap.size + 1))] 101)
  simp only [World.size_alloc] at hk
  refine ⟨(((Below.refl _ _).alloc (Nat.le_refl _) _).alloc (by simp) _).alloc (by simp; omega) _, blk_alloc (blk_alloc (blk_new _ _) _) _, ?_, hk⟩
  have h1 := MapOf.Is.made encI (w.alloc (.cells (c.vals A cap) 24))
  have h2 := h1.below ((Below.refl _ _).alloc (Nat.le_refl _) (.cells #[.int .i64 c.cells, .int .i64 c.params, .slice A c.body.length cap, .int .i64 c.labels, .map (some (w.heap.size + 1))] 101))
  simpa using h2
set_option maxHeartbeats 2000000 in
theorem ready_calls (c : Cod) (A : Option Addr) (cap : Nat) (w : World) (hC : CodeAt w c A cap) :
    Calls Try.prog 60 #[.agg (c.vals A cap)] w fun e w' => e = .returned (.pointer (some ⟨w.heap.size + 1 + 1, 0, none⟩)) ∧ Rd w w' c A cap (labR c.body c.body.length) := by
  have HC := Aside0.mk hC
  have hs := hC.small
  clear hC
  have HI := Aside0.mk (rd_init w c A cap _ rfl)
  have hmm := @run_makeMap Try.prog
  go_enter Try.func60, Try.ntmps60
  go_wp2_with fail
  clear hmm
  go_loopw [13] (fun i wr => ∃ k : Nat, k ≤ c.body.length ∧ i = .int .i64 k ∧ Aside0 (Rd w wr c A cap (labR c.body k))) (fun i _ => c.body.length - (intOf i).toNat)
  case atStart => exact ⟨0, Nat.zero_le _, rfl, HI⟩
  case round =>
    obtain ⟨k, hk, rfl, HP⟩ := hrel
    clear HI
    by_cases hlt : k < c.body.length
    · obtain ⟨ad, e, hx0, hx1, hx2, hx3, hx4, hx5, hx6⟩ := at_ir (Kd.C_below HC.out.row HP.out.bel) k hlt
      subst e
      by_cases h9 : (atIr c.body k).op = 9
      · have HS := Aside0.mk (show labR c.body (k + 1) = put (labR c.body k) (atIr c.body k).n k from by rw [labR, if_pos h9])
        rw [h9] at hx0
        have hkc := fun o => cell_al (blk_cell HP.out.kc 4) o
        obtain ⟨w3, hrun, hIs, hg, hsz⟩ := MapOf.run_update (enc := encI) ((HP.out.below (below_alloc (Below.refl _ _) (.cells #[.int .i64 9, .int .i64 (atIr c.body k).dst, .int .i64 (atIr c.body k).a, .int .i64 (atIr c.body k).b, .int .i64 (atIr c.body k).c, .int .i64 (atIr c.body k).n, .int .i64 (atIr c.body k).m] 38))).below (drew_below _)).m Try.underlying64 Try.underlying3 (atIr c.body k).n (k : Int)
        have HP3 := Aside0.mk (((HP.out.below (below_alloc (Below.refl _ _) (.cells #[.int .i64 9, .int .i64 (atIr c.body k).dst, .int .i64 (atIr c.body k).a, .int .i64 (atIr c.body k).b, .int .i64 (atIr c.body k).c, .int .i64 (atIr c.body k).n, .int .i64 (atIr c.body k).m] 38))).below (drew_below _)).grown hIs hg)
        clear h9 hIs hg hsz
        go_wp2_with fail
        go_region
        all_goals
          go_wp2_with fail
          go_roundw
        case rel => exact ⟨k + 1, by omega, by go_num, by rw [HS.out]; exact HP3⟩
        case measure => simp [intOf]; omega
      · have h9b : ((atIr c.body k).op == 9) = false := by simpa using h9
        have HS := Aside0.mk (show labR c.body (k + 1) = labR c.body k from by rw [labR, if_neg h9])
        have HP2 := Aside0.mk (HP.out.below (below_alloc (Below.refl _ _) (.cells (atIr c.body k).vals 38)))
        clear h9
        go_wp2_with fail
        go_roundw
        case rel => exact ⟨k + 1, by omega, by go_num, by rw [HS.out]; exact HP2⟩
        case measure => simp [intOf]; omega
    · have HK := Aside0.mk (show k = c.body.length by omega)
      go_wp2_with fail
      go_ret
      exact ⟨rfl, by rw [← HK.out]; exact HP.out⟩
end Go.Proofs.Ytdcmeefeinppnaa.Rsem
