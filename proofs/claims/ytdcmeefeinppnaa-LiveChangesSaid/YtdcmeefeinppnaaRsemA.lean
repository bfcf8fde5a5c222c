/- rsem: what is carried out alone: one instruction (plain). -/
import Derived.Test.YtdcmeefeinppnaaLiveEnd
import Derived.Test.YtdcmeefeinppnaaWord
import Derived.Recover
namespace Go.Proofs.Ytdcmeefeinppnaa.Rsem
open Go.RowKit Go.Proofs.YtdcmeefeinppnaaW.PrintWords Go.Proofs.YtdcmeefeinppnaaW.PrintLast Go.Proofs.YtdcmeefeinppnaaW.PrintMore Go.Proofs.Ytdcmeefeinppnaa.Mem Go.Proofs.Ytdcmeefeinppnaa.Ir Go.Proofs.Ytdcmeefeinppnaa.Live
open MapOf (get put)
open Word (eval eval_calls)
set_option linter.unusedVariables false
set_option linter.unusedSimpArgs false

def setI (cs : List Int) (k v : Int) : List Int := cs.set k.toNat v
/-- a label's place, the last of its name -/
def labR (L : List Ir) : Nat → List (Int × Int)
  | 0 => []
  | k + 1 => if (atIr L k).op = 9 then put (labR L k) (atIr L k).n k else labR L k
def plainS (M : List (Int × Int)) (x : Ir) (cs : List Int) (at_ : Int) : Except Int (Int × List Int) :=
  if x.op = 1 then .ok (at_, setI cs x.dst x.n)
  else if x.op = 2 then .ok (at_, setI cs x.dst (rd cs x.a))
  else if x.op = 3 then (if (eval x.n (rd cs x.a) (rd cs x.b)).2 = 0 then .ok (at_, setI cs x.dst (eval x.n (rd cs x.a) (rd cs x.b)).1) else .error (eval x.n (rd cs x.a) (rd cs x.b)).2)
  else if x.op = 4 then .ok (at_, setI cs x.dst (rd cs (if rd cs x.c = 0 then x.b else x.a)))
  else if x.op = 11 then .ok (if rd cs x.a ≠ 0 then (get M x.n).getD 0 else at_, cs)
  else if x.op = 12 then .ok (if rd cs x.a = 0 then (get M x.n).getD 0 else at_, cs)
  else if x.op = 10 then .ok ((get M x.n).getD 0, cs)
  else .ok (at_, cs)
/-- the cells that an instruction names lie within n -/
structure Inn (x : Ir) (n : Nat) : Prop where
  dst : x.op = 1 ∨ x.op = 2 ∨ x.op = 3 ∨ x.op = 4 → 0 ≤ x.dst ∧ x.dst < n
  a : x.op = 2 ∨ x.op = 3 ∨ x.op = 4 ∨ x.op = 11 ∨ x.op = 12 → 0 ≤ x.a ∧ x.a < n
  b : x.op = 3 ∨ x.op = 4 → 0 ≤ x.b ∧ x.b < n
  c : x.op = 4 → 0 ≤ x.c ∧ x.c < n
def trapOf (t : Int) : List PanicEntry := [{ v := .iface 102 (.int .i64 t), recovered := false }]

theorem must_yes (t : Int) (w : World) : Calls Try.prog 63 #[.bool true, .int .i64 t] w fun e w' => e = .returned (.tuple #[]) ∧ w = w' := by
  go_enter Try.func63, Try.ntmps63
  go_wp2_with fail
  go_end0
  exact ⟨rfl, rfl⟩
theorem must_no (t : Int) (w : World) : Calls Try.prog 63 #[.bool false, .int .i64 t] w fun e w' => e = .panicked (trapOf t) ∧ w = w' := by
  go_enter Try.func63, Try.ntmps63
  go_wp2_with fail
  exact ⟨rfl, rfl, rfl⟩
/-- what plain sees: the labels, the cells -/
structure Pl (W : World) (kb mb base : Nat) (M : List (Int × Int)) (v : Value) (cs : List Int) : Prop where
  k : W.cell? ⟨kb, 4, none⟩ = some (.map (some mb))
  m : MapOf.Is encI W mb M
  row : (Kd.int .i64).R 3 W base (fun _ => True) v cs
theorem Pl.below {W W1 : World} {kb mb base : Nat} {M : List (Int × Int)} {v : Value} {cs : List Int} (h : Pl W kb mb base M v cs) (hb : Below W.heap.size W W1) : Pl W1 kb mb base M v cs :=
  ⟨(hb.cell (World.block_lt_of_cell? _ _ h.k)).trans h.k, h.m.below hb, Kd.R_below h.row hb⟩
def PlOut (w : World) (v : Value) (base : Nat) : Except Int (Int × List Int) → Ending → World → Prop
  | .error t, e, w' => e = .panicked (trapOf t) ∧ Below w.heap.size w w'
  | .ok r, e, w' => e = .returned (.int .i64 r.1) ∧ (Kd.int .i64).R 3 w' base (fun _ => True) v r.2 ∧ Ch w w' (fun k => some k = v.ownBlock)
theorem zeroInt (w : World) : (zeroValue 3).run Try.prog w = .ok (.int .i64 0) w := by kernel_rfl
section
variable {β : Type} {enc : β → Value} {P : Program} {w : World} {ops : Array Oper} {o : Oper} {a : Act} {Q : Exit → Act → World → Prop} {Kc : Act → World → Prop}
theorem look_step (hw : Region.wanted o (yielded ops a.tmps) = true) (m x : Operand) (t : TypeId) (hop : o.op = Op.lookup t m x false) (kt et : TypeId) (ht : P.underlying t = some (.map kt et)) (hkt : P.underlying kt = some (.int .i64))
    (z : β) (hz : (zeroValue et).run P w = .ok (enc z) w) (b : Nat) (M : List (Int × β)) (hm : a.eval m = .map (some b)) (h : MapOf.Is enc w b M) (k : Int) (hx : a.eval x = .int .i64 k) (v : β) (hv : (MapOf.get M k).getD z = v)
    (hK : Kc (a.put o.dst (enc v)) w) : if Region.wanted o (yielded ops a.tmps) = true then Oper.wp P o a w Kc Q else Kc (a.put o.dst undef) w := by
  subst hv
  rw [if_pos hw]
  unfold Oper.wp
  simp [execOp, hop, hm, hx, MapOf.run_lookup h ht hkt hz k false, Result.andThen]
  exact hK
end
theorem pl_put {w : World} {base g cap : Nat} {cs : List Int} (h : (Kd.int .i64).R 3 w base (fun _ => True) (.slice (some ⟨g, 0, none⟩) cs.length cap) cs) (d u : Int) (o : Obj) :
    (Kd.int .i64).R 3 ((w.setCell ⟨g, d.toNat, none⟩ (.int .i64 u)).alloc o) base (fun _ => True) (.slice (some ⟨g, 0, none⟩) cs.length cap) (setI cs d u) ∧ Ch w ((w.setCell ⟨g, d.toNat, none⟩ (.int .i64 u)).alloc o) (fun k => some k = (Value.slice (some ⟨g, 0, none⟩) cs.length cap).ownBlock) := by
  obtain ⟨h1, h2⟩ := Kd.R_put h d u
  have hb := below_alloc (Below.refl (w.setCell ⟨g, d.toNat, none⟩ (.int .i64 u)).heap.size (w.setCell ⟨g, d.toNat, none⟩ (.int .i64 u))) o
  exact ⟨Kd.R_below h1 hb, ((Ch.refl w _).grown h2 (fun k hk => .inl hk.symm)).then_below hb⟩
theorem pl_put2 {w w2 : World} {base g cap : Nat} {cs : List Int} (hb : Below w.heap.size w w2) (h : (Kd.int .i64).R 3 w2 base (fun _ => True) (.slice (some ⟨g, 0, none⟩) cs.length cap) cs) (d u : Int) :
    (Kd.int .i64).R 3 (w2.setCell ⟨g, d.toNat, none⟩ (.int .i64 u)) base (fun _ => True) (.slice (some ⟨g, 0, none⟩) cs.length cap) (setI cs d u) ∧ Ch w (w2.setCell ⟨g, d.toNat, none⟩ (.int .i64 u)) (fun k => some k = (Value.slice (some ⟨g, 0, none⟩) cs.length cap).ownBlock) := by
  obtain ⟨h1, h2⟩ := Kd.R_put h d u
  exact ⟨h1, (Ch.of_below hb _).grown h2 (fun k hk => .inl hk.symm)⟩
theorem pl_drew {w w1 : World} {base : Nat} {v : Value} {cs : List Int} {S : Nat → Prop} (h : (Kd.int .i64).R 3 w1 base (fun _ => True) v cs ∧ Ch w w1 S) : (Kd.int .i64).R 3 w1.drew base (fun _ => True) v cs ∧ Ch w w1.drew S :=
  ⟨Kd.R_below h.1 (drew_below _), h.2.then_below (drew_below _)⟩
theorem pl_same {w w1 : World} {base : Nat} {v : Value} {cs : List Int} {S : Nat → Prop} (h : (Kd.int .i64).R 3 w base (fun _ => True) v cs) (hb : Below w.heap.size w w1) : (Kd.int .i64).R 3 w1 base (fun _ => True) v cs ∧ Ch w w1 S :=
  ⟨Kd.R_below h hb, Ch.of_below hb _⟩
set_option maxHeartbeats 2000000 in
theorem plain_const (kb mb base : Nat) (M : List (Int × Int)) (v : Value) (cs : List Int) (x : Ir) (at_ : Int) (w : World) (H : Pl w kb mb base M v cs) (hi : Inn x cs.length) (h : x.op = 1) :
    Calls Try.prog 64 #[.pointer (some ⟨kb, 0, none⟩), .agg x.vals, v, .int .i64 at_] w (PlOut w v base (.ok (at_, setI cs x.dst x.n))) := by
  obtain ⟨op, d, a, b, c, n, m⟩ := x
  have h : op = 1 := h
  subst h
  obtain ⟨h0, h1⟩ := hi.dst (by simp)
  have h0 : 0 ≤ d := h0
  have h1 : d < cs.length := h1
  have HP := Aside0.mk H
  obtain ⟨g, cap, e, hgb, hgl, cells, hcl⟩ := Kd.R_form H.row (by omega)
  subst e
  clear hcl
  have HQ := Aside0.mk (H.below (below_alloc (Below.refl _ _) (.cells #[.int .i64 1, .int .i64 d, .int .i64 a, .int .i64 b, .int .i64 c, .int .i64 n, .int .i64 m] 38)))
  obtain ⟨qd, zd⟩ := Kd.R_cell (0 : Int) HQ.out.row d h0 h1
  replace qd : World.cell? _ ⟨g, d.toNat, none⟩ = some (.int .i64 (rd cs d)) := qd
  clear H hi
  go_enter Try.func64, Try.ntmps64
  go_wp2_with fail
  go_ret
  exact ⟨rfl, pl_put HP.out.row d n _⟩
set_option maxHeartbeats 2000000 in
theorem plain_move (kb mb base : Nat) (M : List (Int × Int)) (v : Value) (cs : List Int) (x : Ir) (at_ : Int) (w : World) (H : Pl w kb mb base M v cs) (hi : Inn x cs.length) (h : x.op = 2) :
    Calls Try.prog 64 #[.pointer (some ⟨kb, 0, none⟩), .agg x.vals, v, .int .i64 at_] w (PlOut w v base (.ok (at_, setI cs x.dst (rd cs x.a)))) := by
  obtain ⟨op, d, a, b, c, n, m⟩ := x
  have h : op = 2 := h
  subst h
  obtain ⟨h0, h1⟩ := hi.dst (by simp)
  have h0 : 0 ≤ d := h0
  have h1 : d < cs.length := h1
  obtain ⟨ha0, ha1⟩ := hi.a (by simp)
  have ha0 : 0 ≤ a := ha0
  have ha1 : a < cs.length := ha1
  have HP := Aside0.mk H
  obtain ⟨g, cap, e, hgb, hgl, cells, hcl⟩ := Kd.R_form H.row (by omega)
  subst e
  clear hcl
  have HQ := Aside0.mk (H.below (below_alloc (Below.refl _ _) (.cells #[.int .i64 2, .int .i64 d, .int .i64 a, .int .i64 b, .int .i64 c, .int .i64 n, .int .i64 m] 38)))
  obtain ⟨qd, zd⟩ := Kd.R_cell (0 : Int) HQ.out.row d h0 h1
  replace qd : World.cell? _ ⟨g, d.toNat, none⟩ = some (.int .i64 (rd cs d)) := qd
  obtain ⟨qa, za⟩ := Kd.R_cell (0 : Int) HQ.out.row a ha0 ha1
  replace qa : World.cell? _ ⟨g, a.toNat, none⟩ = some (.int .i64 (rd cs a)) := qa
  clear H hi
  go_enter Try.func64, Try.ntmps64
  go_wp2_with fail
  go_region
  go_wp2_with fail
  go_ret
  exact ⟨rfl, pl_drew (pl_put HP.out.row d (rd cs a) _)⟩
set_option maxHeartbeats 2000000 in
theorem plain_other (kb mb base : Nat) (M : List (Int × Int)) (v : Value) (cs : List Int) (x : Ir) (at_ : Int) (w : World) (H : Pl w kb mb base M v cs) (hi : Inn x cs.length) (h : x.op ≠ 1 ∧ x.op ≠ 2 ∧ x.op ≠ 3 ∧ x.op ≠ 4 ∧ x.op ≠ 10 ∧ x.op ≠ 11 ∧ x.op ≠ 12) :
    Calls Try.prog 64 #[.pointer (some ⟨kb, 0, none⟩), .agg x.vals, v, .int .i64 at_] w (PlOut w v base (.ok (at_, cs))) := by
  obtain ⟨op, d, a, b, c, n, m⟩ := x
  obtain ⟨g1, g2, g3, g4, g10, g11, g12⟩ := h
  have g1 : (op == 1) = false := by simpa using g1
  have g2 : (op == 2) = false := by simpa using g2
  have g3 : (op == 3) = false := by simpa using g3
  have g4 : (op == 4) = false := by simpa using g4
  have g10 : (op == 10) = false := by simpa using g10
  have g11 : (op == 11) = false := by simpa using g11
  have g12 : (op == 12) = false := by simpa using g12
  have HP := Aside0.mk H
  have HQ := Aside0.mk (H.below (below_alloc (Below.refl _ _) (.cells #[.int .i64 op, .int .i64 d, .int .i64 a, .int .i64 b, .int .i64 c, .int .i64 n, .int .i64 m] 38)))
  clear H hi
  go_enter Try.func64, Try.ntmps64
  go_wp2_with fail
  go_ret
  exact ⟨rfl, pl_same HP.out.row (below_alloc (Below.refl _ _) _)⟩
set_option maxHeartbeats 2000000 in
theorem plain_jump (kb mb base : Nat) (M : List (Int × Int)) (v : Value) (cs : List Int) (x : Ir) (at_ : Int) (w : World) (H : Pl w kb mb base M v cs) (hi : Inn x cs.length) (h : x.op = 10) :
    Calls Try.prog 64 #[.pointer (some ⟨kb, 0, none⟩), .agg x.vals, v, .int .i64 at_] w (PlOut w v base (.ok ((MapOf.get M x.n).getD 0, cs))) := by
  obtain ⟨op, d, a, b, c, n, m⟩ := x
  have h : op = 10 := h
  subst h
  have HP := Aside0.mk H
  have HQ := Aside0.mk (H.below (below_alloc (Below.refl _ _) (.cells #[.int .i64 10, .int .i64 d, .int .i64 a, .int .i64 b, .int .i64 c, .int .i64 n, .int .i64 m] 38)))
  clear H hi
  have HD := Aside0.mk (HQ.out.below (drew_below _))
  have hk := HQ.out.k
  go_enter Try.func64, Try.ntmps64
  go_wp2_with fail
  have hlk : (Instr.lookup 64 (.map (some mb)) (.int .i64 n) false).run Try.prog ((w.alloc (.cells #[.int .i64 10, .int .i64 d, .int .i64 a, .int .i64 b, .int .i64 c, .int .i64 n, .int .i64 m] 38)).drew) = .ok (.int .i64 ((MapOf.get M n).getD 0)) ((w.alloc (.cells #[.int .i64 10, .int .i64 d, .int .i64 a, .int .i64 b, .int .i64 c, .int .i64 n, .int .i64 m] 38)).drew) := MapOf.run_lookup (enc := encI) HD.out.m Try.underlying64 Try.underlying3 (z := (0 : Int)) (zeroInt _) n false
  go_region
  all_goals
    go_wp2_with fail
    go_ret
    exact ⟨rfl, pl_same HP.out.row ((below_alloc (Below.refl _ _) _).trans ((drew_below _).mono (by simp)))⟩
set_option maxHeartbeats 2000000 in
theorem plain_if (kb mb base : Nat) (M : List (Int × Int)) (v : Value) (cs : List Int) (x : Ir) (at_ : Int) (w : World) (H : Pl w kb mb base M v cs) (hi : Inn x cs.length) (h : x.op = 11) :
    Calls Try.prog 64 #[.pointer (some ⟨kb, 0, none⟩), .agg x.vals, v, .int .i64 at_] w (PlOut w v base (.ok (if rd cs x.a ≠ 0 then (MapOf.get M x.n).getD 0 else at_, cs))) := by
  obtain ⟨op, d, a, b, c, n, m⟩ := x
  have h : op = 11 := h
  subst h
  obtain ⟨ha0, ha1⟩ := hi.a (by simp)
  have ha0 : 0 ≤ a := ha0
  have ha1 : a < cs.length := ha1
  have HP := Aside0.mk H
  obtain ⟨g, cap, e, hgb, hgl, cells, hcl⟩ := Kd.R_form H.row (by omega)
  subst e
  clear hcl
  have HQ := Aside0.mk (H.below (below_alloc (Below.refl _ _) (.cells #[.int .i64 11, .int .i64 d, .int .i64 a, .int .i64 b, .int .i64 c, .int .i64 n, .int .i64 m] 38)))
  obtain ⟨qa, za⟩ := Kd.R_cell (0 : Int) HQ.out.row a ha0 ha1
  replace qa : World.cell? _ ⟨g, a.toNat, none⟩ = some (.int .i64 (rd cs a)) := qa
  clear H hi
  have HD := Aside0.mk (HQ.out.below (drew_below _))
  have hk := HQ.out.k
  by_cases hz : rd cs a = 0
  · have e : (if rd cs a ≠ 0 then (MapOf.get M n).getD 0 else at_) = at_ := if_neg (by simp [hz])
    show Calls _ _ _ _ (PlOut w _ base (.ok (if rd cs a ≠ 0 then (MapOf.get M n).getD 0 else at_, cs)))
    rw [e]
    rw [hz] at qa
    clear e hz
    go_enter Try.func64, Try.ntmps64
    go_wp2_with fail
    go_ret
    exact ⟨rfl, pl_same HP.out.row (below_alloc (Below.refl _ _) _)⟩
  · have e : (if rd cs a ≠ 0 then (MapOf.get M n).getD 0 else at_) = (MapOf.get M n).getD 0 := if_pos (by exact hz)
    show Calls _ _ _ _ (PlOut w _ base (.ok (if rd cs a ≠ 0 then (MapOf.get M n).getD 0 else at_, cs)))
    rw [e]
    have hzb : (rd cs a == 0) = false := by simpa using hz
    have hzn : (rd cs a != 0) = true := by simpa using hz
    clear e hz
    go_enter Try.func64, Try.ntmps64
    go_wp2_with fail
    have hlk : (Instr.lookup 64 (.map (some mb)) (.int .i64 n) false).run Try.prog ((w.alloc (.cells #[.int .i64 11, .int .i64 d, .int .i64 a, .int .i64 b, .int .i64 c, .int .i64 n, .int .i64 m] 38)).drew) = .ok (.int .i64 ((MapOf.get M n).getD 0)) ((w.alloc (.cells #[.int .i64 11, .int .i64 d, .int .i64 a, .int .i64 b, .int .i64 c, .int .i64 n, .int .i64 m] 38)).drew) := MapOf.run_lookup (enc := encI) HD.out.m Try.underlying64 Try.underlying3 (z := (0 : Int)) (zeroInt _) n false
    go_region
    all_goals
      go_wp2_with fail
      go_ret
      exact ⟨rfl, pl_same HP.out.row ((below_alloc (Below.refl _ _) _).trans ((drew_below _).mono (by simp)))⟩
set_option maxHeartbeats 2000000 in
theorem plain_unless (kb mb base : Nat) (M : List (Int × Int)) (v : Value) (cs : List Int) (x : Ir) (at_ : Int) (w : World) (H : Pl w kb mb base M v cs) (hi : Inn x cs.length) (h : x.op = 12) :
    Calls Try.prog 64 #[.pointer (some ⟨kb, 0, none⟩), .agg x.vals, v, .int .i64 at_] w (PlOut w v base (.ok (if rd cs x.a = 0 then (MapOf.get M x.n).getD 0 else at_, cs))) := by
  obtain ⟨op, d, a, b, c, n, m⟩ := x
  have h : op = 12 := h
  subst h
  obtain ⟨ha0, ha1⟩ := hi.a (by simp)
  have ha0 : 0 ≤ a := ha0
  have ha1 : a < cs.length := ha1
  have HP := Aside0.mk H
  obtain ⟨g, cap, e, hgb, hgl, cells, hcl⟩ := Kd.R_form H.row (by omega)
  subst e
  clear hcl
  have HQ := Aside0.mk (H.below (below_alloc (Below.refl _ _) (.cells #[.int .i64 12, .int .i64 d, .int .i64 a, .int .i64 b, .int .i64 c, .int .i64 n, .int .i64 m] 38)))
  obtain ⟨qa, za⟩ := Kd.R_cell (0 : Int) HQ.out.row a ha0 ha1
  replace qa : World.cell? _ ⟨g, a.toNat, none⟩ = some (.int .i64 (rd cs a)) := qa
  clear H hi
  have HD := Aside0.mk (HQ.out.below (drew_below _))
  have hk := HQ.out.k
  by_cases hz : rd cs a = 0
  · have e : (if rd cs a = 0 then (MapOf.get M n).getD 0 else at_) = (MapOf.get M n).getD 0 := if_pos (by exact hz)
    show Calls _ _ _ _ (PlOut w _ base (.ok (if rd cs a = 0 then (MapOf.get M n).getD 0 else at_, cs)))
    rw [e]
    rw [hz] at qa
    clear e hz
    go_enter Try.func64, Try.ntmps64
    go_wp2_with fail
    have hlk : (Instr.lookup 64 (.map (some mb)) (.int .i64 n) false).run Try.prog ((w.alloc (.cells #[.int .i64 12, .int .i64 d, .int .i64 a, .int .i64 b, .int .i64 c, .int .i64 n, .int .i64 m] 38)).drew) = .ok (.int .i64 ((MapOf.get M n).getD 0)) ((w.alloc (.cells #[.int .i64 12, .int .i64 d, .int .i64 a, .int .i64 b, .int .i64 c, .int .i64 n, .int .i64 m] 38)).drew) := MapOf.run_lookup (enc := encI) HD.out.m Try.underlying64 Try.underlying3 (z := (0 : Int)) (zeroInt _) n false
    go_region
    all_goals
      go_wp2_with fail
      go_ret
      exact ⟨rfl, pl_same HP.out.row ((below_alloc (Below.refl _ _) _).trans ((drew_below _).mono (by simp)))⟩
  · have e : (if rd cs a = 0 then (MapOf.get M n).getD 0 else at_) = at_ := if_neg (by exact hz)
    show Calls _ _ _ _ (PlOut w _ base (.ok (if rd cs a = 0 then (MapOf.get M n).getD 0 else at_, cs)))
    rw [e]
    have hzb : (rd cs a == 0) = false := by simpa using hz
    have hzn : (rd cs a != 0) = true := by simpa using hz
    clear e hz
    go_enter Try.func64, Try.ntmps64
    go_wp2_with fail
    go_ret
    exact ⟨rfl, pl_same HP.out.row (below_alloc (Below.refl _ _) _)⟩
set_option maxHeartbeats 2000000 in
theorem plain_select (kb mb base : Nat) (M : List (Int × Int)) (v : Value) (cs : List Int) (x : Ir) (at_ : Int) (w : World) (H : Pl w kb mb base M v cs) (hi : Inn x cs.length) (h : x.op = 4) :
    Calls Try.prog 64 #[.pointer (some ⟨kb, 0, none⟩), .agg x.vals, v, .int .i64 at_] w (PlOut w v base (.ok (at_, setI cs x.dst (rd cs (if rd cs x.c = 0 then x.b else x.a))))) := by
  obtain ⟨op, d, a, b, c, n, m⟩ := x
  have h : op = 4 := h
  subst h
  obtain ⟨h0, h1⟩ := hi.dst (by simp)
  have h0 : 0 ≤ d := h0
  have h1 : d < cs.length := h1
  obtain ⟨ha0, ha1⟩ := hi.a (by simp)
  have ha0 : 0 ≤ a := ha0
  have ha1 : a < cs.length := ha1
  obtain ⟨hb0, hb1⟩ := hi.b (by simp)
  have hb0 : 0 ≤ b := hb0
  have hb1 : b < cs.length := hb1
  obtain ⟨hc0, hc1⟩ := hi.c (by simp)
  have hc0 : 0 ≤ c := hc0
  have hc1 : c < cs.length := hc1
  have HP := Aside0.mk H
  obtain ⟨g, cap, e, hgb, hgl, cells, hcl⟩ := Kd.R_form H.row (by omega)
  subst e
  clear hcl
  have HQ := Aside0.mk (H.below (below_alloc (Below.refl _ _) (.cells #[.int .i64 4, .int .i64 d, .int .i64 a, .int .i64 b, .int .i64 c, .int .i64 n, .int .i64 m] 38)))
  obtain ⟨qd, zd⟩ := Kd.R_cell (0 : Int) HQ.out.row d h0 h1
  replace qd : World.cell? _ ⟨g, d.toNat, none⟩ = some (.int .i64 (rd cs d)) := qd
  obtain ⟨qa, za⟩ := Kd.R_cell (0 : Int) HQ.out.row a ha0 ha1
  replace qa : World.cell? _ ⟨g, a.toNat, none⟩ = some (.int .i64 (rd cs a)) := qa
  obtain ⟨qb, zb⟩ := Kd.R_cell (0 : Int) HQ.out.row b hb0 hb1
  replace qb : World.cell? _ ⟨g, b.toNat, none⟩ = some (.int .i64 (rd cs b)) := qb
  obtain ⟨qc, zc⟩ := Kd.R_cell (0 : Int) HQ.out.row c hc0 hc1
  replace qc : World.cell? _ ⟨g, c.toNat, none⟩ = some (.int .i64 (rd cs c)) := qc
  clear H hi
  by_cases hz : rd cs c = 0
  · show Calls _ _ _ _ (PlOut w _ base (.ok (at_, setI cs d (rd cs (if rd cs c = 0 then b else a)))))
    rw [if_pos hz]
    rw [hz] at qc
    clear hz
    go_enter Try.func64, Try.ntmps64
    go_wp2_with fail
    go_region
    go_wp2_with fail
    go_ret
    exact ⟨rfl, pl_drew (pl_put HP.out.row d (rd cs b) _)⟩
  · show Calls _ _ _ _ (PlOut w _ base (.ok (at_, setI cs d (rd cs (if rd cs c = 0 then b else a)))))
    rw [if_neg hz]
    have hzb : (rd cs c == 0) = false := by simpa using hz
    clear hz
    go_enter Try.func64, Try.ntmps64
    go_wp2_with fail
    go_region
    go_wp2_with fail
    go_ret
    exact ⟨rfl, pl_drew (pl_put HP.out.row d (rd cs a) _)⟩
set_option maxHeartbeats 2000000 in
theorem plain_op (kb mb base : Nat) (M : List (Int × Int)) (v : Value) (cs : List Int) (x : Ir) (at_ : Int) (w : World) (H : Pl w kb mb base M v cs) (hi : Inn x cs.length) (h : x.op = 3) (hb : Live.Can (rd cs x.b)) (u t : Int) (hev : eval x.n (rd cs x.a) (rd cs x.b) = (u, t)) (ht : t = 0) :
    Calls Try.prog 64 #[.pointer (some ⟨kb, 0, none⟩), .agg x.vals, v, .int .i64 at_] w (PlOut w v base (.ok (at_, setI cs x.dst u))) := by
  obtain ⟨op, d, a, b, c, n, m⟩ := x
  have h : op = 3 := h
  subst h
  obtain ⟨h0, h1⟩ := hi.dst (by simp)
  have h0 : 0 ≤ d := h0
  have h1 : d < cs.length := h1
  obtain ⟨ha0, ha1⟩ := hi.a (by simp)
  have ha0 : 0 ≤ a := ha0
  have ha1 : a < cs.length := ha1
  obtain ⟨hb0, hb1⟩ := hi.b (by simp)
  have hb0 : 0 ≤ b := hb0
  have hb1 : b < cs.length := hb1
  have HP := Aside0.mk H
  obtain ⟨g, cap, e, hgb, hgl, cells, hcl⟩ := Kd.R_form H.row (by omega)
  subst e
  clear hcl
  have HQ := Aside0.mk (H.below (below_alloc (Below.refl _ _) (.cells #[.int .i64 3, .int .i64 d, .int .i64 a, .int .i64 b, .int .i64 c, .int .i64 n, .int .i64 m] 38)))
  obtain ⟨qd, zd⟩ := Kd.R_cell (0 : Int) HQ.out.row d h0 h1
  replace qd : World.cell? _ ⟨g, d.toNat, none⟩ = some (.int .i64 (rd cs d)) := qd
  obtain ⟨qa, za⟩ := Kd.R_cell (0 : Int) HQ.out.row a ha0 ha1
  replace qa : World.cell? _ ⟨g, a.toNat, none⟩ = some (.int .i64 (rd cs a)) := qa
  obtain ⟨qb, zb⟩ := Kd.R_cell (0 : Int) HQ.out.row b hb0 hb1
  replace qb : World.cell? _ ⟨g, b.toNat, none⟩ = some (.int .i64 (rd cs b)) := qb
  have HEV := Aside0.mk (show eval n (rd cs a) (rd cs b) = (u, t) from hev)
  have HCB := Aside0.mk (show Live.Can (rd cs b) from hb)
  clear H hi hev hb
  subst ht
  go_enter Try.func64, Try.ntmps64
  go_wp2_with fail
  go_region_held3 (fun w' => w'.cell? ⟨w.heap.size, 5, none⟩ = some (.int .i64 n) ∧ w'.cell? ⟨w.heap.size, 2, none⟩ = some (.int .i64 a) ∧ w'.cell? ⟨w.heap.size, 3, none⟩ = some (.int .i64 b) ∧ w'.cell? ⟨g, a.toNat, none⟩ = some (.int .i64 (rd cs a)) ∧ w'.cell? ⟨g, b.toNat, none⟩ = some (.int .i64 (rd cs b))) (go_keep) ((go_at_call 81; refine (eval_calls n (rd cs a) (rd cs b) _ HCB.out.1 HCB.out.2).mono ?_; rw [HEV.out]; rintro e w2 ⟨rfl, hb⟩; have HQ2 := Aside0.mk (HQ.out.below ((drew_below _).trans (hb.mono (drew_below _).size))); have HBW := Aside0.mk ((below_alloc (Below.refl w.heap.size w) (.cells #[.int .i64 3, .int .i64 d, .int .i64 a, .int .i64 b, .int .i64 c, .int .i64 n, .int .i64 m] 38)).trans (((drew_below _).trans (hb.mono (drew_below _).size)).mono (by simp))); have HBX := Aside0.mk (blk_below (blk_below (blk_new w (.cells #[.int .i64 3, .int .i64 d, .int .i64 a, .int .i64 b, .int .i64 c, .int .i64 n, .int .i64 m] 38)) (drew_below _)) hb); have hy1 := blk_cell HBX.out 1; have hy2 := blk_cell HBX.out 2; have hy3 := blk_cell HBX.out 3; have hy5 := blk_cell HBX.out 5; obtain ⟨pa, ya⟩ := Kd.R_cell (0 : Int) HQ2.out.row a ha0 ha1; replace pa : World.cell? _ ⟨g, a.toNat, none⟩ = some (.int .i64 (rd cs a)) := pa; obtain ⟨pb, yb⟩ := Kd.R_cell (0 : Int) HQ2.out.row b hb0 hb1; replace pb : World.cell? _ ⟨g, b.toNat, none⟩ = some (.int .i64 (rd cs b)) := pb; obtain ⟨pd, yd⟩ := Kd.R_cell (0 : Int) HQ2.out.row d h0 h1; clear hb))
  clear qd qa qb zd za zb HQ HEV HCB
  go_wp2_with fail
  refine (must_yes 0 _).mono ?_
  rintro e w3 ⟨rfl, rfl⟩
  go_wp2_with fail
  go_ret
  exact ⟨rfl, pl_put2 HBW.out HQ2.out.row d u⟩
set_option maxHeartbeats 2000000 in
theorem plain_trap (kb mb base : Nat) (M : List (Int × Int)) (v : Value) (cs : List Int) (x : Ir) (at_ : Int) (w : World) (H : Pl w kb mb base M v cs) (hi : Inn x cs.length) (h : x.op = 3) (hb : Live.Can (rd cs x.b)) (u t : Int) (hev : eval x.n (rd cs x.a) (rd cs x.b) = (u, t)) (ht : t ≠ 0) :
    Calls Try.prog 64 #[.pointer (some ⟨kb, 0, none⟩), .agg x.vals, v, .int .i64 at_] w (PlOut w v base (.error t)) := by
  obtain ⟨op, d, a, b, c, n, m⟩ := x
  have h : op = 3 := h
  subst h
  obtain ⟨h0, h1⟩ := hi.dst (by simp)
  have h0 : 0 ≤ d := h0
  have h1 : d < cs.length := h1
  obtain ⟨ha0, ha1⟩ := hi.a (by simp)
  have ha0 : 0 ≤ a := ha0
  have ha1 : a < cs.length := ha1
  obtain ⟨hb0, hb1⟩ := hi.b (by simp)
  have hb0 : 0 ≤ b := hb0
  have hb1 : b < cs.length := hb1
  have HP := Aside0.mk H
  obtain ⟨g, cap, e, hgb, hgl, cells, hcl⟩ := Kd.R_form H.row (by omega)
  subst e
  clear hcl
  have HQ := Aside0.mk (H.below (below_alloc (Below.refl _ _) (.cells #[.int .i64 3, .int .i64 d, .int .i64 a, .int .i64 b, .int .i64 c, .int .i64 n, .int .i64 m] 38)))
  obtain ⟨qd, zd⟩ := Kd.R_cell (0 : Int) HQ.out.row d h0 h1
  replace qd : World.cell? _ ⟨g, d.toNat, none⟩ = some (.int .i64 (rd cs d)) := qd
  obtain ⟨qa, za⟩ := Kd.R_cell (0 : Int) HQ.out.row a ha0 ha1
  replace qa : World.cell? _ ⟨g, a.toNat, none⟩ = some (.int .i64 (rd cs a)) := qa
  obtain ⟨qb, zb⟩ := Kd.R_cell (0 : Int) HQ.out.row b hb0 hb1
  replace qb : World.cell? _ ⟨g, b.toNat, none⟩ = some (.int .i64 (rd cs b)) := qb
  have HEV := Aside0.mk (show eval n (rd cs a) (rd cs b) = (u, t) from hev)
  have HCB := Aside0.mk (show Live.Can (rd cs b) from hb)
  clear H hi hev hb
  have htb : (t == 0) = false := by simpa using ht
  clear ht
  go_enter Try.func64, Try.ntmps64
  go_wp2_with fail
  go_region_held3 (fun w' => w'.cell? ⟨w.heap.size, 5, none⟩ = some (.int .i64 n) ∧ w'.cell? ⟨w.heap.size, 2, none⟩ = some (.int .i64 a) ∧ w'.cell? ⟨w.heap.size, 3, none⟩ = some (.int .i64 b) ∧ w'.cell? ⟨g, a.toNat, none⟩ = some (.int .i64 (rd cs a)) ∧ w'.cell? ⟨g, b.toNat, none⟩ = some (.int .i64 (rd cs b))) (go_keep) ((go_at_call 81; refine (eval_calls n (rd cs a) (rd cs b) _ HCB.out.1 HCB.out.2).mono ?_; rw [HEV.out]; rintro e w2 ⟨rfl, hb⟩; have HQ2 := Aside0.mk (HQ.out.below ((drew_below _).trans (hb.mono (drew_below _).size))); have HBW := Aside0.mk ((below_alloc (Below.refl w.heap.size w) (.cells #[.int .i64 3, .int .i64 d, .int .i64 a, .int .i64 b, .int .i64 c, .int .i64 n, .int .i64 m] 38)).trans (((drew_below _).trans (hb.mono (drew_below _).size)).mono (by simp))); have HBX := Aside0.mk (blk_below (blk_below (blk_new w (.cells #[.int .i64 3, .int .i64 d, .int .i64 a, .int .i64 b, .int .i64 c, .int .i64 n, .int .i64 m] 38)) (drew_below _)) hb); have hy1 := blk_cell HBX.out 1; have hy2 := blk_cell HBX.out 2; have hy3 := blk_cell HBX.out 3; have hy5 := blk_cell HBX.out 5; obtain ⟨pa, ya⟩ := Kd.R_cell (0 : Int) HQ2.out.row a ha0 ha1; replace pa : World.cell? _ ⟨g, a.toNat, none⟩ = some (.int .i64 (rd cs a)) := pa; obtain ⟨pb, yb⟩ := Kd.R_cell (0 : Int) HQ2.out.row b hb0 hb1; replace pb : World.cell? _ ⟨g, b.toNat, none⟩ = some (.int .i64 (rd cs b)) := pb; obtain ⟨pd, yd⟩ := Kd.R_cell (0 : Int) HQ2.out.row d h0 h1; clear hb))
  clear qd qa qb zd za zb HQ HEV HCB
  go_wp2_with fail
  refine (must_no t _).mono ?_
  rintro e w3 ⟨rfl, rfl⟩
  exact ⟨rfl, rfl, HBW.out⟩
end Go.Proofs.Ytdcmeefeinppnaa.Rsem
