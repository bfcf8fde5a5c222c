/- The reference's chapter 15: fits; Exec of any code. -/
import Derived.Test.YtdcmeefeinppnaaRsemD
import Derived.Test.YtdcmeefeinppnaaRDefs
import Derived.Test.YtdcmeefeinppnaaWordQ
import Derived.Test.YtdcmeefeinppnaaRsemG
import Derived.Test.YtdcmeefeinppnaaRFits
namespace Go.Proofs.Ytdcmeefeinppnaa.RefE
open Go.RowKit Go.Proofs.YtdcmeefeinppnaaW.PrintWords Go.Proofs.YtdcmeefeinppnaaW.PrintLast Go.Proofs.YtdcmeefeinppnaaW.PrintMore Go.Proofs.Ytdcmeefeinppnaa.Mem Go.Proofs.Ytdcmeefeinppnaa.Ir Go.Proofs.Ytdcmeefeinppnaa.Live Go.Proofs.Ytdcmeefeinppnaa.Rsem
open Word (eval reval reval_calls reval_eq)
set_option linter.unusedVariables false
set_option linter.unusedSimpArgs false

/-- a label's place, the first of its name; else the end -/
def labO (L : List Ir) (n : Int) : Int := if fa L n L.length < 0 then L.length else fa L n L.length
theorem labO_at {L : List Ir} {n : Int} {k : Nat} (hk : k < L.length) (hf : fa L n k < 0) (h : (atIr L k).op = 9 ∧ (atIr L k).n = n) : labO L n = k := by
  have h1 : fa L n (k + 1) = k := fa_yes ⟨h.1, h.2, hf⟩
  have h2 : ∀ j, fa L n (k + 1 + j) = k := by
    intro j
    induction j with
    | zero => exact h1
    | succ j ih => rw [Nat.add_succ, fa_no (by rw [ih]; omega)]; exact ih
  have h3 := h2 (L.length - (k + 1))
  rw [show k + 1 + (L.length - (k + 1)) = L.length by omega] at h3
  unfold labO
  rw [h3, if_neg (by omega)]
theorem labO_end {L : List Ir} {n : Int} (hf : fa L n L.length < 0) : labO L n = L.length := if_pos hf
theorem labO_pos (L : List Ir) (n : Int) : 0 ≤ labO L n := by unfold labO; split <;> omega

set_option maxHeartbeats 4000000 in
theorem label_calls (c : Cod) (A : Option Addr) (cap : Nat) (n : Int) (w : World) (hC : CodeAt w c A cap) :
    Calls Try.prog 104 #[.agg (c.vals A cap), .int .i64 n] w fun e w' => e = .returned (.int .i64 (labO c.body n)) ∧ Below w.heap.size w w' := by
  have HC := Aside0.mk hC
  have hs := hC.small
  have HB := Aside0.mk ((Below.refl w.heap.size w).alloc (Nat.le_refl _) (.cells (c.vals A cap) 24))
  clear hC
  go_enter Try.func104, Try.ntmps104
  go_wp2_with fail
  go_loop [5] (fun iv => ∃ k : Nat, k ≤ c.body.length ∧ iv = .int .i64 k ∧ Aside0 (fa c.body n k < 0)) (fun iv => c.body.length - (intOf iv).toNat)
  case atStart => exact ⟨0, Nat.zero_le _, rfl, ⟨show (-1 : Int) < 0 by decide⟩⟩
  case round =>
    obtain ⟨k, hk, rfl, HF⟩ := hrel
    by_cases hlt : k < c.body.length
    · obtain ⟨ad, e, hx0, hx1, hx2, hx3, hx4, hx5, hx6⟩ := at_ir (Kd.C_below HC.out.row HB.out) k hlt
      subst e
      by_cases h9 : (atIr c.body k).op = 9
      · rw [h9] at hx0
        by_cases hn : (atIr c.body k).n = n
        · rw [hn] at hx5
          have HK := Aside0.mk (labO_at hlt HF.out ⟨h9, hn⟩)
          clear h9 hn
          go_wp2_with fail
          go_ret
          exact ⟨by rw [HK.out]; rfl, HB.out⟩
        · have hnb : ((atIr c.body k).n == n) = false := by simpa using hn
          have HK := Aside0.mk (show fa c.body n (k + 1) < 0 from by rw [fa_no (fun e => hn e.2.1)]; exact HF.out)
          clear h9 hn
          go_wp2_with fail
          go_round
          case rel => exact ⟨k + 1, by omega, by go_num, HK⟩
          case measure => simp [intOf]; omega
      · have hnb : ((atIr c.body k).op == 9) = false := by simpa using h9
        have HK := Aside0.mk (show fa c.body n (k + 1) < 0 from by rw [fa_no (fun e => h9 e.1)]; exact HF.out)
        clear h9
        go_wp2_with fail
        go_round
        case rel => exact ⟨k + 1, by omega, by go_num, HK⟩
        case measure => simp [intOf]; omega
    · have hkk : k = c.body.length := by omega
      have HK := Aside0.mk (labO_end (by rw [← hkk]; exact HF.out))
      clear hkk
      go_wp2_with fail
      go_ret
      exact ⟨by rw [HK.out]; rfl, HB.out⟩
set_option maxHeartbeats 4000000 in
theorem many_calls (c : Cod) (A : Option Addr) (cap : Nat) (n : Int) (w : World) (hC : CodeAt w c A cap) :
    Calls Try.prog 101 #[.agg (c.vals A cap), .int .i64 n] w fun e w' => e = .returned (.int .i64 (cnt c.body n c.body.length)) ∧ Below w.heap.size w w' := by
  have HC := Aside0.mk hC
  have hs := hC.small
  have HB := Aside0.mk ((Below.refl w.heap.size w).alloc (Nat.le_refl _) (.cells (c.vals A cap) 24))
  clear hC
  go_enter Try.func101, Try.ntmps101
  go_wp2_with fail
  go_loop [5, 6] (fun mv iv => ∃ k : Nat, k ≤ c.body.length ∧ iv = .int .i64 k ∧ mv = .int .i64 (cnt c.body n k)) (fun _ iv => c.body.length - (intOf iv).toNat)
  case atStart => exact ⟨0, Nat.zero_le _, rfl, rfl⟩
  case round =>
    obtain ⟨k, hk, rfl, rfl⟩ := hrel
    by_cases hlt : k < c.body.length
    · obtain ⟨ad, e, hx0, hx1, hx2, hx3, hx4, hx5, hx6⟩ := at_ir (Kd.C_below HC.out.row HB.out) k hlt
      subst e
      have hcn := cnt_le c.body n k
      by_cases h9 : (atIr c.body k).op = 9
      · rw [h9] at hx0
        by_cases hn : (atIr c.body k).n = n
        · rw [hn] at hx5
          have HK := Aside0.mk (cnt_yes (L := c.body) ⟨h9, hn⟩)
          clear h9 hn
          go_wp2_with fail
          go_round
          case rel => exact ⟨k + 1, by omega, by go_num, by rw [HK.out]; go_num⟩
          case measure => simp [intOf]; omega
        · have hnb : ((atIr c.body k).n == n) = false := by simpa using hn
          have HK := Aside0.mk (cnt_no (L := c.body) (k := k) (n := n) (fun e => hn e.2))
          clear h9 hn
          go_wp2_with fail
          go_round
          case rel => exact ⟨k + 1, by omega, by go_num, by rw [HK.out]⟩
          case measure => simp [intOf]; omega
      · have hnb : ((atIr c.body k).op == 9) = false := by simpa using h9
        have HK := Aside0.mk (cnt_no (L := c.body) (k := k) (n := n) (fun e => h9 e.1))
        clear h9
        go_wp2_with fail
        go_round
        case rel => exact ⟨k + 1, by omega, by go_num, by rw [HK.out]⟩
        case measure => simp [intOf]; omega
    · have hkk : k = c.body.length := by omega
      have HK := Aside0.mk hkk
      clear hkk
      go_wp2_with fail
      go_ret
      exact ⟨by rw [HK.out]; rfl, HB.out⟩
/-- what plain answers and leaves: J is where a label is -/
def plainQ (L : List Ir) (x : Ir) (cs : List Int) (at_ : Int) : Except Int (Int × List Int) :=
  if x.op = 1 then .ok (at_, setI cs x.dst x.n)
  else if x.op = 2 then .ok (at_, setI cs x.dst (rd cs x.a))
  else if x.op = 3 then (if (reval x.n (rd cs x.a) (rd cs x.b)).2 = 0 then .ok (at_, setI cs x.dst (reval x.n (rd cs x.a) (rd cs x.b)).1) else .error (reval x.n (rd cs x.a) (rd cs x.b)).2)
  else if x.op = 4 then .ok (at_, setI cs x.dst (rd cs (if rd cs x.c = 0 then x.b else x.a)))
  else if x.op = 11 then .ok (if rd cs x.a ≠ 0 then labO L x.n else at_, cs)
  else if x.op = 12 then .ok (if rd cs x.a = 0 then labO L x.n else at_, cs)
  else if x.op = 10 then .ok (labO L x.n, cs)
  else .ok (at_, cs)
structure Pq (W : World) (c : Cod) (A : Option Addr) (cap base : Nat) (v : Value) (cs : List Int) : Prop where
  code : CodeAt W c A cap
  row : (Kd.int .i64).R 3 W base (fun _ => True) v cs
theorem Pq.below {W W1 : World} {c : Cod} {A : Option Addr} {cap base : Nat} {v : Value} {cs : List Int} (h : Pq W c A cap base v cs) (hb : Below W.heap.size W W1) : Pq W1 c A cap base v cs :=
  ⟨h.code.below hb, Kd.R_below h.row hb⟩
def PqOut (w : World) (v : Value) (base : Nat) (at_ : Int) : Except Int (Int × List Int) → Ending → World → Prop
  | .error t, e, w' => e = .returned (.tuple #[.int .i64 at_, .int .i64 t]) ∧ t ≠ 0 ∧ Below w.heap.size w w'
  | .ok r, e, w' => e = .returned (.tuple #[.int .i64 r.1, .int .i64 0]) ∧ (Kd.int .i64).R 3 w' base (fun _ => True) v r.2 ∧ Ch w w' (fun k => some k = v.ownBlock)
theorem pq_put {w : World} {base g cap : Nat} {cs : List Int} (h : (Kd.int .i64).R 3 w base (fun _ => True) (.slice (some ⟨g, 0, none⟩) cs.length cap) cs) (d u : Int) (o o2 : Obj) :
    (Kd.int .i64).R 3 (((w.setCell ⟨g, d.toNat, none⟩ (.int .i64 u)).alloc o).alloc o2) base (fun _ => True) (.slice (some ⟨g, 0, none⟩) cs.length cap) (setI cs d u) ∧ Ch w (((w.setCell ⟨g, d.toNat, none⟩ (.int .i64 u)).alloc o).alloc o2) (fun k => some k = (Value.slice (some ⟨g, 0, none⟩) cs.length cap).ownBlock) := by
  obtain ⟨h1, h2⟩ := pl_put h d u o
  have hb := below_alloc (Below.refl ((w.setCell ⟨g, d.toNat, none⟩ (.int .i64 u)).alloc o).heap.size ((w.setCell ⟨g, d.toNat, none⟩ (.int .i64 u)).alloc o)) o2
  exact ⟨Kd.R_below h1 hb, h2.then_below hb⟩
theorem pq_putN {w : World} {base g cap : Nat} {cs : List Int} (h : (Kd.int .i64).R 3 w base (fun _ => True) (.slice (some ⟨g, 0, none⟩) cs.length cap) cs) (d u : Int) (o o2 : Obj) (n : Nat) :
    (Kd.int .i64).R 3 ((((w.alloc o).alloc o2).drewN n).setCell ⟨g, d.toNat, none⟩ (.int .i64 u)) base (fun _ => True) (.slice (some ⟨g, 0, none⟩) cs.length cap) (setI cs d u) ∧ Ch w ((((w.alloc o).alloc o2).drewN n).setCell ⟨g, d.toNat, none⟩ (.int .i64 u)) (fun k => some k = (Value.slice (some ⟨g, 0, none⟩) cs.length cap).ownBlock) := by
  have hb : Below w.heap.size w (((w.alloc o).alloc o2).drewN n) := pw_below_drewN (below_alloc (below_alloc (Below.refl _ _) o) o2) n
  exact pl_put2 hb (Kd.R_below h hb) d u
theorem reval_to {op x y u t : Int} (h : reval op x y = (u, t)) (h0 : -9223372036854775808 ≤ y) (h1 : y ≤ 9223372036854775807) (w : World) :
    Calls Try.prog 103 #[.int .i64 op, .int .i64 x, .int .i64 y] w fun e w' => e = .returned (.tuple #[.int .i64 u, .int .i64 t]) ∧ w' = w := by
  refine (reval_calls op x y w h0 h1).mono ?_
  rw [h]
  exact fun e w' h => ⟨h.1, h.2.symm⟩
set_option maxHeartbeats 2000000 in
theorem rplain_const (co : Cod) (A : Option Addr) (kap base : Nat) (v : Value) (cs : List Int) (x : Ir) (at_ : Int) (w : World) (H : Pq w co A kap base v cs) (hi : Inn x cs.length) (h : x.op = 1) :
    Calls Try.prog 83 #[.agg (co.vals A kap), .agg x.vals, v, .int .i64 at_] w (PqOut w v base at_ (.ok (at_, setI cs x.dst x.n))) := by
  obtain ⟨op, d, a, b, c, n, m⟩ := x
  have h : op = 1 := h
  subst h
  obtain ⟨h0, h1⟩ := hi.dst (by simp)
  have h0 : 0 ≤ d := h0
  have h1 : d < cs.length := h1
  have HP := Aside0.mk H
  obtain ⟨g, cap, e, hgb, hgl, cells, hcl⟩ := Kd.R_form H.row (by omega)
  subst e
  clear hcl
  have HB := Aside0.mk (below_alloc (below_alloc (Below.refl w.heap.size w) (.cells (co.vals A kap) 24)) (.cells #[.int .i64 1, .int .i64 d, .int .i64 a, .int .i64 b, .int .i64 c, .int .i64 n, .int .i64 m] 38))
  have HQ := Aside0.mk (H.below HB.out)
  obtain ⟨qd, zd⟩ := Kd.R_cell (0 : Int) HQ.out.row d h0 h1
  replace qd : World.cell? _ ⟨g, d.toNat, none⟩ = some (.int .i64 (rd cs d)) := qd
  clear H hi
  go_enter Try.func83, Try.ntmps83
  go_wp2_with fail
  go_ret2
  exact ⟨rfl, pq_put HP.out.row d n _ _⟩
set_option maxHeartbeats 2000000 in
theorem rplain_move (co : Cod) (A : Option Addr) (kap base : Nat) (v : Value) (cs : List Int) (x : Ir) (at_ : Int) (w : World) (H : Pq w co A kap base v cs) (hi : Inn x cs.length) (h : x.op = 2) :
    Calls Try.prog 83 #[.agg (co.vals A kap), .agg x.vals, v, .int .i64 at_] w (PqOut w v base at_ (.ok (at_, setI cs x.dst (rd cs x.a)))) := by
  obtain ⟨op, d, a, b, c, n, m⟩ := x
  have h : op = 2 := h
  subst h
  obtain ⟨h0, h1⟩ := hi.dst (by simp)
  have h0 : 0 ≤ d := h0
  have h1 : d < cs.length := h1
  obtain ⟨ha0, ha1⟩ := hi.a (by simp)
  have ha0 : 0 ≤ a := ha0
  have ha1 : a < cs.length := ha1
  have HP := Aside0.mk H
  obtain ⟨g, cap, e, hgb, hgl, cells, hcl⟩ := Kd.R_form H.row (by omega)
  subst e
  clear hcl
  have HB := Aside0.mk (below_alloc (below_alloc (Below.refl w.heap.size w) (.cells (co.vals A kap) 24)) (.cells #[.int .i64 2, .int .i64 d, .int .i64 a, .int .i64 b, .int .i64 c, .int .i64 n, .int .i64 m] 38))
  have HQ := Aside0.mk (H.below HB.out)
  obtain ⟨qd, zd⟩ := Kd.R_cell (0 : Int) HQ.out.row d h0 h1
  replace qd : World.cell? _ ⟨g, d.toNat, none⟩ = some (.int .i64 (rd cs d)) := qd
  obtain ⟨qa, za⟩ := Kd.R_cell (0 : Int) HQ.out.row a ha0 ha1
  replace qa : World.cell? _ ⟨g, a.toNat, none⟩ = some (.int .i64 (rd cs a)) := qa
  clear H hi
  go_enter Try.func83, Try.ntmps83
  go_wp2_with fail
  go_region
  go_wp2_with fail
  go_ret2
  exact ⟨rfl, pl_drew (pq_put HP.out.row d (rd cs a) _ _)⟩
set_option maxHeartbeats 2000000 in
theorem rplain_other (co : Cod) (A : Option Addr) (kap base : Nat) (v : Value) (cs : List Int) (x : Ir) (at_ : Int) (w : World) (H : Pq w co A kap base v cs) (hi : Inn x cs.length) (h : x.op ≠ 1 ∧ x.op ≠ 2 ∧ x.op ≠ 3 ∧ x.op ≠ 4 ∧ x.op ≠ 10 ∧ x.op ≠ 11 ∧ x.op ≠ 12) :
    Calls Try.prog 83 #[.agg (co.vals A kap), .agg x.vals, v, .int .i64 at_] w (PqOut w v base at_ (.ok (at_, cs))) := by
  obtain ⟨op, d, a, b, c, n, m⟩ := x
  obtain ⟨g1, g2, g3, g4, g10, g11, g12⟩ := h
  have g1 : (op == 1) = false := by simpa using g1
  have g2 : (op == 2) = false := by simpa using g2
  have g3 : (op == 3) = false := by simpa using g3
  have g4 : (op == 4) = false := by simpa using g4
  have g10 : (op == 10) = false := by simpa using g10
  have g11 : (op == 11) = false := by simpa using g11
  have g12 : (op == 12) = false := by simpa using g12
  have HP := Aside0.mk H
  have HB := Aside0.mk (below_alloc (below_alloc (Below.refl w.heap.size w) (.cells (co.vals A kap) 24)) (.cells #[.int .i64 op, .int .i64 d, .int .i64 a, .int .i64 b, .int .i64 c, .int .i64 n, .int .i64 m] 38))
  have HQ := Aside0.mk (H.below HB.out)
  clear H hi
  go_enter Try.func83, Try.ntmps83
  go_wp2_with fail
  go_ret2
  exact ⟨rfl, pl_same HP.out.row HB.out⟩
set_option maxHeartbeats 2000000 in
theorem rplain_jump (co : Cod) (A : Option Addr) (kap base : Nat) (v : Value) (cs : List Int) (x : Ir) (at_ : Int) (w : World) (H : Pq w co A kap base v cs) (hi : Inn x cs.length) (h : x.op = 10) :
    Calls Try.prog 83 #[.agg (co.vals A kap), .agg x.vals, v, .int .i64 at_] w (PqOut w v base at_ (.ok (labO co.body x.n, cs))) := by
  obtain ⟨op, d, a, b, c, n, m⟩ := x
  have h : op = 10 := h
  subst h
  have HP := Aside0.mk H
  have HB := Aside0.mk (below_alloc (below_alloc (Below.refl w.heap.size w) (.cells (co.vals A kap) 24)) (.cells #[.int .i64 10, .int .i64 d, .int .i64 a, .int .i64 b, .int .i64 c, .int .i64 n, .int .i64 m] 38))
  have HQ := Aside0.mk (H.below HB.out)
  clear H hi
  go_enter Try.func83, Try.ntmps83
  go_wp2_with (go_at_call 104; refine (label_calls co A kap n _ HQ.out.code).mono ?_; rintro e w3 ⟨rfl, hb⟩; have HB3 := Aside0.mk (HB.out.trans (hb.mono HB.out.size)); clear hb)
  go_ret2
  exact ⟨rfl, pl_same HP.out.row HB3.out⟩
set_option maxHeartbeats 2000000 in
theorem rplain_if (co : Cod) (A : Option Addr) (kap base : Nat) (v : Value) (cs : List Int) (x : Ir) (at_ : Int) (w : World) (H : Pq w co A kap base v cs) (hi : Inn x cs.length) (h : x.op = 11) :
    Calls Try.prog 83 #[.agg (co.vals A kap), .agg x.vals, v, .int .i64 at_] w (PqOut w v base at_ (.ok (if rd cs x.a ≠ 0 then labO co.body x.n else at_, cs))) := by
  obtain ⟨op, d, a, b, c, n, m⟩ := x
  have h : op = 11 := h
  subst h
  obtain ⟨ha0, ha1⟩ := hi.a (by simp)
  have ha0 : 0 ≤ a := ha0
  have ha1 : a < cs.length := ha1
  have HP := Aside0.mk H
  obtain ⟨g, cap, e, hgb, hgl, cells, hcl⟩ := Kd.R_form H.row (by omega)
  subst e
  clear hcl
  have HB := Aside0.mk (below_alloc (below_alloc (Below.refl w.heap.size w) (.cells (co.vals A kap) 24)) (.cells #[.int .i64 11, .int .i64 d, .int .i64 a, .int .i64 b, .int .i64 c, .int .i64 n, .int .i64 m] 38))
  have HQ := Aside0.mk (H.below HB.out)
  obtain ⟨qa, za⟩ := Kd.R_cell (0 : Int) HQ.out.row a ha0 ha1
  replace qa : World.cell? _ ⟨g, a.toNat, none⟩ = some (.int .i64 (rd cs a)) := qa
  clear H hi
  by_cases hz : rd cs a = 0
  · have e : (if rd cs a ≠ 0 then labO co.body n else at_) = at_ := if_neg (by simp [hz])
    show Calls _ _ _ _ (PqOut w _ base at_ (.ok (if rd cs a ≠ 0 then labO co.body n else at_, cs)))
    rw [e]
    rw [hz] at qa
    clear e hz
    go_enter Try.func83, Try.ntmps83
    go_wp2_with fail
    go_ret2
    exact ⟨rfl, pl_same HP.out.row HB.out⟩
  · have e : (if rd cs a ≠ 0 then labO co.body n else at_) = labO co.body n := if_pos (by exact hz)
    show Calls _ _ _ _ (PqOut w _ base at_ (.ok (if rd cs a ≠ 0 then labO co.body n else at_, cs)))
    rw [e]
    have hzb : (rd cs a == 0) = false := by simpa using hz
    have hzn : (rd cs a != 0) = true := by simpa using hz
    clear e hz
    go_enter Try.func83, Try.ntmps83
    go_wp2_with (go_at_call 104; refine (label_calls co A kap n _ HQ.out.code).mono ?_; rintro e w3 ⟨rfl, hb⟩; have HB3 := Aside0.mk (HB.out.trans (hb.mono HB.out.size)); clear hb)
    go_ret2
    exact ⟨rfl, pl_same HP.out.row HB3.out⟩
set_option maxHeartbeats 2000000 in
theorem rplain_unless (co : Cod) (A : Option Addr) (kap base : Nat) (v : Value) (cs : List Int) (x : Ir) (at_ : Int) (w : World) (H : Pq w co A kap base v cs) (hi : Inn x cs.length) (h : x.op = 12) :
    Calls Try.prog 83 #[.agg (co.vals A kap), .agg x.vals, v, .int .i64 at_] w (PqOut w v base at_ (.ok (if rd cs x.a = 0 then labO co.body x.n else at_, cs))) := by
  obtain ⟨op, d, a, b, c, n, m⟩ := x
  have h : op = 12 := h
  subst h
  obtain ⟨ha0, ha1⟩ := hi.a (by simp)
  have ha0 : 0 ≤ a := ha0
  have ha1 : a < cs.length := ha1
  have HP := Aside0.mk H
  obtain ⟨g, cap, e, hgb, hgl, cells, hcl⟩ := Kd.R_form H.row (by omega)
  subst e
  clear hcl
  have HB := Aside0.mk (below_alloc (below_alloc (Below.refl w.heap.size w) (.cells (co.vals A kap) 24)) (.cells #[.int .i64 12, .int .i64 d, .int .i64 a, .int .i64 b, .int .i64 c, .int .i64 n, .int .i64 m] 38))
  have HQ := Aside0.mk (H.below HB.out)
  obtain ⟨qa, za⟩ := Kd.R_cell (0 : Int) HQ.out.row a ha0 ha1
  replace qa : World.cell? _ ⟨g, a.toNat, none⟩ = some (.int .i64 (rd cs a)) := qa
  clear H hi
  by_cases hz : rd cs a = 0
  · have e : (if rd cs a = 0 then labO co.body n else at_) = labO co.body n := if_pos (by exact hz)
    show Calls _ _ _ _ (PqOut w _ base at_ (.ok (if rd cs a = 0 then labO co.body n else at_, cs)))
    rw [e]
    rw [hz] at qa
    clear e hz
    go_enter Try.func83, Try.ntmps83
    go_wp2_with (go_at_call 104; refine (label_calls co A kap n _ HQ.out.code).mono ?_; rintro e w3 ⟨rfl, hb⟩; have HB3 := Aside0.mk (HB.out.trans (hb.mono HB.out.size)); clear hb)
    go_ret2
    exact ⟨rfl, pl_same HP.out.row HB3.out⟩
  · have e : (if rd cs a = 0 then labO co.body n else at_) = at_ := if_neg (by exact hz)
    show Calls _ _ _ _ (PqOut w _ base at_ (.ok (if rd cs a = 0 then labO co.body n else at_, cs)))
    rw [e]
    have hzb : (rd cs a == 0) = false := by simpa using hz
    have hzn : (rd cs a != 0) = true := by simpa using hz
    clear e hz
    go_enter Try.func83, Try.ntmps83
    go_wp2_with fail
    go_ret2
    exact ⟨rfl, pl_same HP.out.row HB.out⟩
set_option maxHeartbeats 2000000 in
theorem rplain_select (co : Cod) (A : Option Addr) (kap base : Nat) (v : Value) (cs : List Int) (x : Ir) (at_ : Int) (w : World) (H : Pq w co A kap base v cs) (hi : Inn x cs.length) (h : x.op = 4) :
    Calls Try.prog 83 #[.agg (co.vals A kap), .agg x.vals, v, .int .i64 at_] w (PqOut w v base at_ (.ok (at_, setI cs x.dst (rd cs (if rd cs x.c = 0 then x.b else x.a))))) := by
  obtain ⟨op, d, a, b, c, n, m⟩ := x
  have h : op = 4 := h
  subst h
  obtain ⟨h0, h1⟩ := hi.dst (by simp)
  have h0 : 0 ≤ d := h0
  have h1 : d < cs.length := h1
  obtain ⟨ha0, ha1⟩ := hi.a (by simp)
  have ha0 : 0 ≤ a := ha0
  have ha1 : a < cs.length := ha1
  obtain ⟨hb0, hb1⟩ := hi.b (by simp)
  have hb0 : 0 ≤ b := hb0
  have hb1 : b < cs.length := hb1
  obtain ⟨hc0, hc1⟩ := hi.c (by simp)
  have hc0 : 0 ≤ c := hc0
  have hc1 : c < cs.length := hc1
  have HP := Aside0.mk H
  obtain ⟨g, cap, e, hgb, hgl, cells, hcl⟩ := Kd.R_form H.row (by omega)
  subst e
  clear hcl
  have HB := Aside0.mk (below_alloc (below_alloc (Below.refl w.heap.size w) (.cells (co.vals A kap) 24)) (.cells #[.int .i64 4, .int .i64 d, .int .i64 a, .int .i64 b, .int .i64 c, .int .i64 n, .int .i64 m] 38))
  have HQ := Aside0.mk (H.below HB.out)
  obtain ⟨qd, zd⟩ := Kd.R_cell (0 : Int) HQ.out.row d h0 h1
  replace qd : World.cell? _ ⟨g, d.toNat, none⟩ = some (.int .i64 (rd cs d)) := qd
  obtain ⟨qa, za⟩ := Kd.R_cell (0 : Int) HQ.out.row a ha0 ha1
  replace qa : World.cell? _ ⟨g, a.toNat, none⟩ = some (.int .i64 (rd cs a)) := qa
  obtain ⟨qb, zb⟩ := Kd.R_cell (0 : Int) HQ.out.row b hb0 hb1
  replace qb : World.cell? _ ⟨g, b.toNat, none⟩ = some (.int .i64 (rd cs b)) := qb
  obtain ⟨qc, zc⟩ := Kd.R_cell (0 : Int) HQ.out.row c hc0 hc1
  replace qc : World.cell? _ ⟨g, c.toNat, none⟩ = some (.int .i64 (rd cs c)) := qc
  clear H hi
  by_cases hz : rd cs c = 0
  · show Calls _ _ _ _ (PqOut w _ base at_ (.ok (at_, setI cs d (rd cs (if rd cs c = 0 then b else a)))))
    rw [if_pos hz]
    rw [hz] at qc
    clear hz
    go_enter Try.func83, Try.ntmps83
    go_wp2_with fail
    go_ret2
    exact ⟨rfl, pq_put HP.out.row d (rd cs b) _ _⟩
  · show Calls _ _ _ _ (PqOut w _ base at_ (.ok (at_, setI cs d (rd cs (if rd cs c = 0 then b else a)))))
    rw [if_neg hz]
    have hzb : (rd cs c != 0) = true := by simpa using hz
    clear hz
    go_enter Try.func83, Try.ntmps83
    go_wp2_with fail
    go_ret2
    exact ⟨rfl, pq_put HP.out.row d (rd cs a) _ _⟩
set_option maxHeartbeats 2000000 in
theorem rplain_op (co : Cod) (A : Option Addr) (kap base : Nat) (v : Value) (cs : List Int) (x : Ir) (at_ : Int) (w : World) (H : Pq w co A kap base v cs) (hi : Inn x cs.length) (h : x.op = 3) (hb : Live.Can (rd cs x.b)) (u t : Int) (hev : reval x.n (rd cs x.a) (rd cs x.b) = (u, t)) (ht : t = 0) :
    Calls Try.prog 83 #[.agg (co.vals A kap), .agg x.vals, v, .int .i64 at_] w (PqOut w v base at_ (.ok (at_, setI cs x.dst u))) := by
  obtain ⟨op, d, a, b, c, n, m⟩ := x
  have h : op = 3 := h
  subst h
  obtain ⟨h0, h1⟩ := hi.dst (by simp)
  have h0 : 0 ≤ d := h0
  have h1 : d < cs.length := h1
  obtain ⟨ha0, ha1⟩ := hi.a (by simp)
  have ha0 : 0 ≤ a := ha0
  have ha1 : a < cs.length := ha1
  obtain ⟨hb0, hb1⟩ := hi.b (by simp)
  have hb0 : 0 ≤ b := hb0
  have hb1 : b < cs.length := hb1
  have HP := Aside0.mk H
  obtain ⟨g, cap, e, hgb, hgl, cells, hcl⟩ := Kd.R_form H.row (by omega)
  subst e
  clear hcl
  have HB := Aside0.mk (below_alloc (below_alloc (Below.refl w.heap.size w) (.cells (co.vals A kap) 24)) (.cells #[.int .i64 3, .int .i64 d, .int .i64 a, .int .i64 b, .int .i64 c, .int .i64 n, .int .i64 m] 38))
  have HQ := Aside0.mk (H.below HB.out)
  obtain ⟨qd, zd⟩ := Kd.R_cell (0 : Int) HQ.out.row d h0 h1
  replace qd : World.cell? _ ⟨g, d.toNat, none⟩ = some (.int .i64 (rd cs d)) := qd
  obtain ⟨qa, za⟩ := Kd.R_cell (0 : Int) HQ.out.row a ha0 ha1
  replace qa : World.cell? _ ⟨g, a.toNat, none⟩ = some (.int .i64 (rd cs a)) := qa
  obtain ⟨qb, zb⟩ := Kd.R_cell (0 : Int) HQ.out.row b hb0 hb1
  replace qb : World.cell? _ ⟨g, b.toNat, none⟩ = some (.int .i64 (rd cs b)) := qb
  clear H hi
  have HEV := Aside0.mk (show reval n (rd cs a) (rd cs b) = (u, t) from hev)
  have HCB := Aside0.mk (show Live.Can (rd cs b) from hb)
  clear hev hb
  subst ht
  go_enter Try.func83, Try.ntmps83
  go_wp2_with fail
  go_quiet ((go_at_call 103; exact Calls.quiet_of_same (reval_to HEV.out HCB.out.1 HCB.out.2 _)))
  go_wp2_with fail
  go_ret2
  exact ⟨rfl, pq_putN HP.out.row d u _ _ _⟩
set_option maxHeartbeats 2000000 in
theorem rplain_trap (co : Cod) (A : Option Addr) (kap base : Nat) (v : Value) (cs : List Int) (x : Ir) (at_ : Int) (w : World) (H : Pq w co A kap base v cs) (hi : Inn x cs.length) (h : x.op = 3) (hb : Live.Can (rd cs x.b)) (u t : Int) (hev : reval x.n (rd cs x.a) (rd cs x.b) = (u, t)) (ht : t ≠ 0) :
    Calls Try.prog 83 #[.agg (co.vals A kap), .agg x.vals, v, .int .i64 at_] w (PqOut w v base at_ (.error t)) := by
  obtain ⟨op, d, a, b, c, n, m⟩ := x
  have h : op = 3 := h
  subst h
  obtain ⟨h0, h1⟩ := hi.dst (by simp)
  have h0 : 0 ≤ d := h0
  have h1 : d < cs.length := h1
  obtain ⟨ha0, ha1⟩ := hi.a (by simp)
  have ha0 : 0 ≤ a := ha0
  have ha1 : a < cs.length := ha1
  obtain ⟨hb0, hb1⟩ := hi.b (by simp)
  have hb0 : 0 ≤ b := hb0
  have hb1 : b < cs.length := hb1
  have HP := Aside0.mk H
  obtain ⟨g, cap, e, hgb, hgl, cells, hcl⟩ := Kd.R_form H.row (by omega)
  subst e
  clear hcl
  have HB := Aside0.mk (below_alloc (below_alloc (Below.refl w.heap.size w) (.cells (co.vals A kap) 24)) (.cells #[.int .i64 3, .int .i64 d, .int .i64 a, .int .i64 b, .int .i64 c, .int .i64 n, .int .i64 m] 38))
  have HQ := Aside0.mk (H.below HB.out)
  obtain ⟨qd, zd⟩ := Kd.R_cell (0 : Int) HQ.out.row d h0 h1
  replace qd : World.cell? _ ⟨g, d.toNat, none⟩ = some (.int .i64 (rd cs d)) := qd
  obtain ⟨qa, za⟩ := Kd.R_cell (0 : Int) HQ.out.row a ha0 ha1
  replace qa : World.cell? _ ⟨g, a.toNat, none⟩ = some (.int .i64 (rd cs a)) := qa
  obtain ⟨qb, zb⟩ := Kd.R_cell (0 : Int) HQ.out.row b hb0 hb1
  replace qb : World.cell? _ ⟨g, b.toNat, none⟩ = some (.int .i64 (rd cs b)) := qb
  clear H hi
  have HEV := Aside0.mk (show reval n (rd cs a) (rd cs b) = (u, t) from hev)
  have HCB := Aside0.mk (show Live.Can (rd cs b) from hb)
  have HT := Aside0.mk ht
  have htb : (t == 0) = false := by simpa using ht
  have htn : (t != 0) = true := by simpa using ht
  clear hev hb ht
  go_enter Try.func83, Try.ntmps83
  go_wp2_with fail
  go_quiet ((go_at_call 103; exact Calls.quiet_of_same (reval_to HEV.out HCB.out.1 HCB.out.2 _)))
  go_wp2_with fail
  go_ret2
  exact ⟨rfl, HT.out, pw_below_drewN HB.out _⟩
theorem rplain_calls (co : Cod) (A : Option Addr) (kap base : Nat) (v : Value) (cs : List Int) (x : Ir) (at_ : Int) (w : World) (H : Pq w co A kap base v cs) (hg : Rsem.Good x cs.length) (hc : CanL cs) :
    Calls Try.prog 83 #[.agg (co.vals A kap), .agg x.vals, v, .int .i64 at_] w (PqOut w v base at_ (plainQ co.body x cs at_)) := by
  have hi := hg.inn
  by_cases h1 : x.op = 1
  · rw [show plainQ co.body x cs at_ = .ok (at_, setI cs x.dst x.n) by unfold plainQ; rw [if_pos h1]]
    exact rplain_const co A kap base v cs x at_ w H hi h1
  by_cases h2 : x.op = 2
  · rw [show plainQ co.body x cs at_ = .ok (at_, setI cs x.dst (rd cs x.a)) by unfold plainQ; rw [if_neg h1, if_pos h2]]
    exact rplain_move co A kap base v cs x at_ w H hi h2
  by_cases h3 : x.op = 3
  · obtain ⟨u, t, hev⟩ : ∃ u t, reval x.n (rd cs x.a) (rd cs x.b) = (u, t) := ⟨_, _, rfl⟩
    by_cases ht : t = 0
    · rw [show plainQ co.body x cs at_ = .ok (at_, setI cs x.dst u) by unfold plainQ; rw [if_neg h1, if_neg h2, if_pos h3, hev, if_pos ht]]
      exact rplain_op co A kap base v cs x at_ w H hi h3 (hc _) u t hev ht
    · rw [show plainQ co.body x cs at_ = .error t by unfold plainQ; rw [if_neg h1, if_neg h2, if_pos h3, hev, if_neg ht]]
      exact rplain_trap co A kap base v cs x at_ w H hi h3 (hc _) u t hev ht
  by_cases h4 : x.op = 4
  · rw [show plainQ co.body x cs at_ = .ok (at_, setI cs x.dst (rd cs (if rd cs x.c = 0 then x.b else x.a))) by unfold plainQ; rw [if_neg h1, if_neg h2, if_neg h3, if_pos h4]]
    exact rplain_select co A kap base v cs x at_ w H hi h4
  by_cases h11 : x.op = 11
  · rw [show plainQ co.body x cs at_ = .ok (if rd cs x.a ≠ 0 then labO co.body x.n else at_, cs) by unfold plainQ; rw [if_neg h1, if_neg h2, if_neg h3, if_neg h4, if_pos h11]]
    exact rplain_if co A kap base v cs x at_ w H hi h11
  by_cases h12 : x.op = 12
  · rw [show plainQ co.body x cs at_ = .ok (if rd cs x.a = 0 then labO co.body x.n else at_, cs) by unfold plainQ; rw [if_neg h1, if_neg h2, if_neg h3, if_neg h4, if_neg h11, if_pos h12]]
    exact rplain_unless co A kap base v cs x at_ w H hi h12
  by_cases h10 : x.op = 10
  · rw [show plainQ co.body x cs at_ = .ok (labO co.body x.n, cs) by unfold plainQ; rw [if_neg h1, if_neg h2, if_neg h3, if_neg h4, if_neg h11, if_neg h12, if_pos h10]]
    exact rplain_jump co A kap base v cs x at_ w H hi h10
  · rw [show plainQ co.body x cs at_ = .ok (at_, cs) by unfold plainQ; rw [if_neg h1, if_neg h2, if_neg h3, if_neg h4, if_neg h11, if_neg h12, if_neg h10]]
    exact rplain_other co A kap base v cs x at_ w H hi ⟨h1, h2, h3, h4, h10, h11, h12⟩
/-- where a label is there once, its place is the same -/
theorem lab_once (L : List Ir) (n : Int) (k : Nat) : (cnt L n k = 0 → MapOf.get (labR L k) n = none) ∧ (cnt L n k = 1 → MapOf.get (labR L k) n = some (fa L n k) ∧ 0 ≤ fa L n k) := by
  induction k with
  | zero => exact ⟨fun _ => rfl, fun h => by simp [cnt] at h⟩
  | succ k ih =>
    obtain ⟨ih0, ih1⟩ := ih
    have hfl := (fa_labs L n k).2
    by_cases h : (atIr L k).op = 9 ∧ (atIr L k).n = n
    · have hR : labR L (k + 1) = MapOf.put (labR L k) (atIr L k).n k := by rw [labR, if_pos h.1]
      rw [hR, cnt_yes h, MapOf.get_put, if_pos h.2]
      refine ⟨fun e => absurd e (Nat.succ_ne_zero _), fun e => ?_⟩
      rw [fa_yes ⟨h.1, h.2, hfl.1 (by omega)⟩]
      exact ⟨rfl, by omega⟩
    · rw [cnt_no h, fa_no (fun e => h ⟨e.1, e.2.1⟩)]
      have hR : MapOf.get (labR L (k + 1)) n = MapOf.get (labR L k) n := by
        by_cases h9 : (atIr L k).op = 9
        · rw [labR, if_pos h9, MapOf.get_put, if_neg (fun e => h ⟨h9, e⟩)]
        · rw [labR, if_neg h9]
      rw [hR]
      exact ⟨ih0, ih1⟩
theorem plain_same {c : Cod} {x : Ir} {cs : List Int} (at_ : Int) (hc : CanL cs) (hj : x.op = 10 ∨ x.op = 11 ∨ x.op = 12 → cnt c.body x.n c.body.length = 1) :
    plainQ c.body x cs at_ = plainS (labR c.body c.body.length) x cs at_ := by
  have hl : x.op = 10 ∨ x.op = 11 ∨ x.op = 12 → labO c.body x.n = (MapOf.get (labR c.body c.body.length) x.n).getD 0 := fun h => by
    obtain ⟨h1, h2⟩ := (lab_once c.body x.n c.body.length).2 (hj h)
    rw [h1]
    unfold labO
    rw [if_neg (by omega)]
    rfl
  have hE : reval x.n (rd cs x.a) (rd cs x.b) = eval x.n (rd cs x.a) (rd cs x.b) := reval_eq _ _ _ (hc _) (hc _)
  unfold plainQ plainS
  rw [hE]
  by_cases h1 : x.op = 1
  · rw [if_pos h1, if_pos h1]
  rw [if_neg h1, if_neg h1]
  by_cases h2 : x.op = 2
  · rw [if_pos h2, if_pos h2]
  rw [if_neg h2, if_neg h2]
  by_cases h3 : x.op = 3
  · rw [if_pos h3, if_pos h3]
  rw [if_neg h3, if_neg h3]
  by_cases h4 : x.op = 4
  · rw [if_pos h4, if_pos h4]
  rw [if_neg h4, if_neg h4]
  by_cases h11 : x.op = 11
  · rw [if_pos h11, if_pos h11, hl (by omega)]
  rw [if_neg h11, if_neg h11]
  by_cases h12 : x.op = 12
  · rw [if_pos h12, if_pos h12, hl (by omega)]
  rw [if_neg h12, if_neg h12]
  by_cases h10 : x.op = 10
  · rw [if_pos h10, if_pos h10, hl (by omega)]
  rw [if_neg h10, if_neg h10]
end Go.Proofs.Ytdcmeefeinppnaa.RefE
namespace Go.Proofs.Ytdcmeefeinppnaa.RefE
open Go.RowKit Go.Proofs.YtdcmeefeinppnaaW.PrintWords Go.Proofs.YtdcmeefeinppnaaW.PrintLast Go.Proofs.YtdcmeefeinppnaaW.PrintMore Go.Proofs.Ytdcmeefeinppnaa.Mem Go.Proofs.Ytdcmeefeinppnaa.Ir Go.Proofs.Ytdcmeefeinppnaa.Live Go.Proofs.Ytdcmeefeinppnaa.Rsem
open Uses (uses)
set_option linter.unusedVariables false
set_option linter.unusedSimpArgs false

structure Xq (w0 W : World) (c : Cod) (A : Option Addr) (cap base : Nat) (v : Value) (cs : List Int) : Prop where
  bel : Below w0.heap.size w0 W
  box : W.heap[w0.heap.size]? = some (.cells (c.vals A cap) 24 (0, 0))
  row : (Kd.int .i64).R 3 W base (fun _ => True) v cs
  lt : w0.heap.size + 1 ≤ base
section
variable {w0 W W1 : World} {c : Cod} {A : Option Addr} {cap base : Nat} {v : Value} {cs cs1 : List Int}
theorem Xq.below (h : Xq w0 W c A cap base v cs) (hb : Below W.heap.size W W1) : Xq w0 W1 c A cap base v cs :=
  ⟨h.bel.trans (hb.mono h.bel.size), blk_below h.box hb, Kd.R_below h.row hb, h.lt⟩
theorem Xq.put (h : Xq w0 W c A cap base v cs) (hr : (Kd.int .i64).R 3 W1 base (fun _ => True) v cs1) (hc : Ch W W1 (fun k => some k = v.ownBlock)) : Xq w0 W1 c A cap base v cs1 := by
  have ho : ∀ k, some k = v.ownBlock → base ≤ k := fun k hk => Kd.R_base h.row k hk.symm
  have hl := h.lt
  refine ⟨⟨hc.os.trans h.bel.os, hc.tape.trans h.bel.tape, hc.output.trans h.bel.output, Nat.le_trans h.bel.size hc.size, fun i hi => (hc.block i (Nat.lt_of_lt_of_le hi h.bel.size) (fun e => by have := ho i e; omega)).trans (h.bel.block i hi)⟩,
    (hc.block _ (blk_lt h.box) (fun e => by have := ho _ e; omega)).trans h.box, hr, h.lt⟩
end
/-- what Exec answers; the cells that it brings are not looked at -/
def RExOut (w : World) (c : Cod) (cs : List Int) (e : Ending) (w' : World) : Prop :=
  if fitsR c cs.length = true then ∃ v, e = .returned (.tuple #[v, .int .i64 (execS c cs).2.1, .int .i64 (execS c cs).2.2, .int .i64 0]) ∧ Below w.heap.size w w'
  else e = .returned (.tuple #[.slice none 0 0, .int .i64 0, .int .i64 0, .int .i64 4]) ∧ Below w.heap.size w w'
theorem okR_at {c : Cod} {n : Int} (h : fitsR c n = true) {i : Nat} (hi : i < c.body.length) : okR c n (atIr c.body i) = true := by
  unfold fitsR at h
  rw [Bool.and_eq_true, List.all_eq_true] at h
  refine h.1 _ ?_
  unfold atIr
  rw [List.getD_eq_getElem?_getD, List.getElem?_eq_getElem hi]
  exact List.getElem_mem hi
theorem okR_once {c : Cod} {n : Int} {x : Ir} (h : okR c n x = true) (hj : x.op = 10 ∨ x.op = 11 ∨ x.op = 12) : cnt c.body x.n c.body.length = 1 := by
  unfold okR kindR at h
  rw [Bool.and_eq_true] at h
  have h1 := h.1
  rw [if_neg (by omega), if_neg (by omega), if_pos hj] at h1
  exact of_decide_eq_true h1
set_option maxHeartbeats 8000000 in
set_option maxRecDepth 100000 in
theorem rexec_yes (c : Cod) (A : Option Addr) (cap : Nat) (B : Option Addr) (capB : Nat) (cs : List Int) (w : World) (hC : CodeAt w c A cap) (hB : (Kd.int .i64).C w B cs.length cs) (hn : cs.length * 8 ≤ 140737488355328) (hc : CanL cs) (hl : ∀ i : Nat, i < c.body.length → Live.Can (atIr c.body i).n) (hf : fitsR c cs.length = true)
    (hF : ∀ w1 : World, Below w.heap.size w w1 → Calls Try.prog 82 #[.agg (c.vals A cap), .slice B cs.length capB] w1 fun e w2 => e = .returned (.bool (fitsR c cs.length)) ∧ Below w1.heap.size w1 w2) :
    Calls Try.prog 65 #[.agg (c.vals A cap), .slice B cs.length capB] w (RExOut w c cs) := by
  have HB0 := Aside0.mk (below_alloc (Below.refl w.heap.size w) (.cells (c.vals A cap) 24))
  have HX0 := Aside0.mk (blk_new w (.cells (c.vals A cap) 24))
  have HCODE := Aside0.mk hC
  have HROW := Aside0.mk hB
  have HG := Aside0.mk (fitsR_good hf hl)
  have HJ := Aside0.mk (show ∀ i : Nat, i < c.body.length → ((atIr c.body i).op = 10 ∨ (atIr c.body i).op = 11 ∨ (atIr c.body i).op = 12) → cnt c.body (atIr c.body i).n c.body.length = 1 from fun i hi hj => okR_once (okR_at hf hi) hj)
  have HCAN := Aside0.mk hc
  have hsm := hC.small
  have HO := Aside0.mk (show ∀ e w', (∃ v, e = .returned (.tuple #[v, .int .i64 (execS c cs).2.1, .int .i64 (execS c cs).2.2, .int .i64 0]) ∧ Below w.heap.size w w') → RExOut w c cs e w' from fun e w' h => by unfold RExOut; rw [if_pos hf]; exact h)
  have HFC := Aside0.mk (show Calls Try.prog 82 #[.agg (c.vals A cap), .slice B cs.length capB] (w.alloc (.cells (c.vals A cap) 24)) fun e w2 => e = .returned (.bool true) ∧ Below (w.alloc (.cells (c.vals A cap) 24)).heap.size (w.alloc (.cells (c.vals A cap) 24)) w2 from by
    have := hF _ HB0.out
    rw [hf] at this
    exact this)
  obtain ⟨N, hN⟩ : ∃ N, cs.length = N := ⟨_, rfl⟩
  obtain ⟨R, hR⟩ : ∃ R, execS c cs = R := ⟨_, rfl⟩
  have HR0 := Aside0.mk (show runS c.body (labR c.body c.body.length) 10000 0 cs = R from hR)
  have HN0 := Aside0.mk hN
  rw [hN] at HG
  rw [hR] at HO
  clear hC hB hl hc hF hf hR hN
  go_enter Try.func65, Try.ntmps65
  go_wp2_with first
    | (go_at_call 82; refine HFC.out.mono ?_; rintro e w3 ⟨rfl, hb⟩; have HB3 := Aside0.mk (HB0.out.trans (hb.mono HB0.out.size)); have HX3 := Aside0.mk (blk_below HX0.out hb); clear hb)
    | ((with_reducible refine gate_builtin (b := .append) (xs := #[.const (.slice none 0 0), .tmp 21]) rfl ?_); at_builtin; refine Kd.R_append_row (Value.int .i64) 0 (w0 := w3) w3.heap.size rfl (.const (.slice none 0 0)) (.tmp 21) 26 3 (.int .i64 0) 8 rfl Try.underlying26 Uses.infoInt rfl (by decide) (.slice none 0 0) [] cs B cs.length capB (fun _ => True) rfl rfl (fun _ _ => trivial) (Kd.R_nil _ _ _ _ _) (Kd.C_below HROW.out HB3.out) (Below.refl _ _) (Nat.le_refl _) (by simp; omega) ?_; intro v4 w4 hO hb4 hg4 hat4; rw [List.nil_append] at hO; have HP := Aside0.mk (show Xq w w4 c A cap w3.heap.size v4 cs from ⟨HB3.out.trans (hb4.mono HB3.out.size), blk_below HX3.out hb4, hO, by have := blk_lt HX3.out; omega⟩); clear hO hb4 hg4 hat4)
  obtain ⟨base, hbase⟩ : ∃ base, w3.heap.size = base := ⟨_, rfl⟩
  rw [hbase] at HP
  clear hbase HX3 HB3 HX0 HB0 HFC
  go_loopw [10, 11] (fun av nv wr => ∃ (a : Nat) (k f : Nat) (ds : List Int), av = .int .i64 a ∧ nv = .int .i64 k ∧ k + f = 10000 ∧ Aside0 (ds.length = N ∧ runS c.body (labR c.body c.body.length) f a ds = R) ∧ Aside0 (Xq w wr c A cap base v4 ds ∧ CanL ds)) (fun _ nv _ => 10001 - (intOf nv).toNat)
  case atStart => exact ⟨0, 0, 10000, cs, rfl, rfl, rfl, ⟨HN0.out, HR0.out⟩, ⟨HP.out, HCAN.out⟩⟩
  case round =>
    obtain ⟨a, k, f, ds, rfl, rfl, hf, HR, HQ⟩ := hrel
    clear HP HR0 HN0 HCAN
    have hb2 := blk_cell HQ.out.1.box 2
    by_cases hlt : a < c.body.length
    · rcases Nat.eq_zero_or_pos f with h0 | hpos
      · subst h0
        have hhi : decide ((10000 : Int) ≤ (k : Int)) = true := decide_eq_true (by omega)
        have HRE := Aside0.mk (show (ds, (0 : Int), (7 : Int)) = R from by have h := HR.out.2; unfold runS at h; rw [if_pos (by omega)] at h; exact h)
        go_wp2_with fail
        refine bodyPost_ret (v := .tuple #[v4, .int .i64 0, .int .i64 7, .int .i64 0]) (by simp [results, Try.results65, go_sem]) rfl (HO.out _ _ ⟨v4, by rw [← HRE.out], HQ.out.1.bel⟩)
      · obtain ⟨f, rfl⟩ : ∃ g, f = g + 1 := ⟨f - 1, by omega⟩
        obtain ⟨ad, e, hx0, hx1, hx2, hx3, hx4, hx5, hx6⟩ := at_ir (Kd.C_below HCODE.out.row HQ.out.1.bel) a hlt
        subst e
        have hlo : decide ((10000 : Int) ≤ (k : Int)) = false := decide_eq_false (by omega)
        have HGX := Aside0.mk (HG.out a hlt)
        have HRX := Aside0.mk (show (if (atIr c.body a).op = 15 then (ds, if 0 ≤ (atIr c.body a).a then rd ds (atIr c.body a).a else 0, 0) else if (atIr c.body a).op = 16 then (ds, 0, (atIr c.body a).n) else match plainS (labR c.body c.body.length) (atIr c.body a) ds ((a : Int) + 1) with | .error t => (ds, 0, t) | .ok r => runS c.body (labR c.body c.body.length) f r.1 r.2) = R from by have h := HR.out.2; unfold runS at h; rw [if_pos (by omega), Int.toNat_natCast] at h; exact h)
        by_cases h15 : (atIr c.body a).op = 15
        · rw [if_pos h15] at HRX
          rw [h15] at hx0
          by_cases ha : 0 ≤ (atIr c.body a).a
          · have hab : decide (0 ≤ (atIr c.body a).a) = true := decide_eq_true ha
            have hal : (atIr c.body a).a < ds.length := by rw [HR.out.1]; exact HGX.out.ret h15 ha
            rw [if_pos ha] at HRX
            obtain ⟨g, cap', e, hgb, hgl, cells, hcl⟩ := Kd.R_form HQ.out.1.row (by omega)
            subst e
            clear hcl
            obtain ⟨qa, za⟩ := Kd.R_cell (0 : Int) HQ.out.1.row _ ha hal
            replace qa : World.cell? _ ⟨g, (atIr c.body a).a.toNat, none⟩ = some (.int .i64 (rd ds (atIr c.body a).a)) := qa
            have qa2 := fun o => cell_al qa o
            clear h15 qa
            go_wp2_with fail
            refine bodyPost_ret (v := .tuple #[.slice (some ⟨g, 0, none⟩) ds.length cap', .int .i64 (rd ds (atIr c.body a).a), .int .i64 0, .int .i64 0]) (by simp [results, Try.results65, go_sem]) rfl (HO.out _ _ ⟨_, by rw [← HRX.out], (HQ.out.1.below (below_alloc (Below.refl _ _) _)).bel⟩)
          · have hab : decide (0 ≤ (atIr c.body a).a) = false := decide_eq_false ha
            rw [if_neg ha] at HRX
            clear h15 ha
            go_wp2_with fail
            refine bodyPost_ret (v := .tuple #[v4, .int .i64 0, .int .i64 0, .int .i64 0]) (by simp [results, Try.results65, go_sem]) rfl (HO.out _ _ ⟨_, by rw [← HRX.out], (HQ.out.1.below (below_alloc (Below.refl _ _) _)).bel⟩)
        · rw [if_neg h15] at HRX
          have hop : ((atIr c.body a).op == 15) = false := by simpa using h15
          by_cases h16 : (atIr c.body a).op = 16
          · rw [if_pos h16] at HRX
            rw [h16] at hx0
            clear h15 h16 hop
            go_wp2_with fail
            go_quiet (fail)
            go_wp2_with fail
            refine bodyPost_ret (v := .tuple #[v4, .int .i64 0, .int .i64 (atIr c.body a).n, .int .i64 0]) (by simp [results, Try.results65, go_sem]) rfl (HO.out _ _ ⟨_, by rw [← HRX.out], (HQ.out.1.below (pw_below_drewN (below_alloc (Below.refl _ _) _) _)).bel⟩)
          · rw [if_neg h16] at HRX
            have hop2 : ((atIr c.body a).op == 16) = false := by simpa using h16
            have HBX := Aside0.mk (blk_cell HQ.out.1.box 0)
            have hbx0 := fun o => cell_al (blk_cell HQ.out.1.box 0) o
            have hbx1 := fun o => cell_al (blk_cell HQ.out.1.box 1) o
            have hbx2 := fun o => cell_al (blk_cell HQ.out.1.box 2) o
            have hbx3 := fun o => cell_al (blk_cell HQ.out.1.box 3) o
            have HJX := Aside0.mk (HJ.out a hlt)
            clear h15 h16 HBX
            go_wp2_with fail
            have HQ1 := Aside0.mk (HQ.out.1.below (below_alloc (Below.refl _ _) (.cells (atIr c.body a).vals 38)))
            have HGX2 := Aside0.mk (show Rsem.Good (atIr c.body a) ds.length by rw [HR.out.1]; exact HGX.out)
            have HPC := Aside0.mk (rplain_calls c (some ad) cap base v4 ds (atIr c.body a) ((a : Int) + 1) _ ⟨HCODE.out.below HQ1.out.bel, HQ1.out.row⟩ HGX2.out HQ.out.2)
            rw [plain_same ((a : Int) + 1) HQ.out.2 HJX.out] at HPC
            clear hx0 hx1 hx2 hx3 hx4 hx5 hx6 hbx0 hbx1 hbx2 hbx3 hb2 hop hop2
            cases hps : plainS (labR c.body c.body.length) (atIr c.body a) ds ((a : Int) + 1) with
            | error t =>
              rw [hps] at HPC HRX
              refine HPC.out.mono ?_
              rintro e w5 ⟨rfl, ht, hb⟩
              have htn : (t != 0) = true := by simpa using ht
              have HQ2 := Aside0.mk (HQ1.out.below hb)
              clear hb ht
              go_wp2_with fail
              refine bodyPost_ret (v := .tuple #[v4, .int .i64 0, .int .i64 t, .int .i64 0]) (by simp [results, Try.results65, go_sem]) rfl (HO.out _ _ ⟨_, by rw [← HRX.out], HQ2.out.bel⟩)
            | ok r =>
              have hpg := plain_good (lab_pos c.body c.body.length) HGX2.out HQ.out.2 (by omega) hps
              rw [hps] at HPC HRX
              obtain ⟨r1, r2⟩ := r
              obtain ⟨a', rfl⟩ : ∃ a' : Nat, r1 = (a' : Int) := ⟨r1.toNat, by have := hpg.1; omega⟩
              have HPG := Aside0.mk hpg
              clear hps hpg
              refine HPC.out.mono ?_
              rintro e w5 ⟨rfl, hr, hch⟩
              have HQ2 := Aside0.mk (HQ1.out.put hr hch)
              clear hr hch
              go_wp2_with fail
              go_roundw
              case rel => exact ⟨a', k + 1, f, r2, rfl, by go_num, by omega, ⟨HPG.out.2.1.trans HR.out.1, HRX.out⟩, ⟨HQ2.out, HPG.out.2.2⟩⟩
              case measure => simp [intOf]; omega
    · have HRE := Aside0.mk (show (ds, (0 : Int), (0 : Int)) = R from by
        have h := HR.out.2
        cases f with
        | zero => unfold runS at h; rw [if_neg (by omega)] at h; exact h
        | succ f => unfold runS at h; rw [if_neg (by omega)] at h; exact h)
      go_wp2_with fail
      refine bodyPost_ret (v := .tuple #[v4, .int .i64 0, .int .i64 0, .int .i64 0]) (by simp [results, Try.results65, go_sem]) rfl (HO.out _ _ ⟨_, by rw [← HRE.out], HQ.out.1.bel⟩)
end Go.Proofs.Ytdcmeefeinppnaa.RefE
namespace Go.Proofs.Ytdcmeefeinppnaa.RefE
open Go.RowKit Go.Proofs.YtdcmeefeinppnaaW.PrintWords Go.Proofs.YtdcmeefeinppnaaW.PrintLast Go.Proofs.YtdcmeefeinppnaaW.PrintMore Go.Proofs.Ytdcmeefeinppnaa.Mem Go.Proofs.Ytdcmeefeinppnaa.Ir Go.Proofs.Ytdcmeefeinppnaa.Live Go.Proofs.Ytdcmeefeinppnaa.Rsem
open Uses (uses infoInt)
open Word (arity ref_arity_calls)
set_option linter.unusedVariables false
set_option linter.unusedSimpArgs false

/-- the cells that are looked at -/
def lsOf (x : Ir) : List Int := if x.op = 1 ∨ x.op = 2 ∨ x.op = 3 ∨ x.op = 4 then uses x.op x.a x.b x.c ++ [x.dst] else uses x.op x.a x.b x.c
def kOk (c : Cod) (x : Ir) : Prop := (x.op = 1 ∨ x.op = 2 ∨ x.op = 3 ∨ x.op = 4 ∨ x.op = 9 ∨ x.op = 15 ∨ x.op = 16) ∨ (x.op = 10 ∨ x.op = 11 ∨ x.op = 12) ∧ cnt c.body x.n c.body.length = 1
theorem kindR_val {c : Cod} {n : Int} {x : Ir} (hk : kOk c x) : kindR c n x = ((if x.op = 3 then (arity x.n).2.2.2 else true) && (if x.op = 1 ∨ x.op = 2 ∨ x.op = 3 ∨ x.op = 4 then !oddB n x.dst else true)) := by
  unfold kindR
  rcases hk with (h | h | h | h | h | h | h) | ⟨h | h | h, hc⟩ <;> simp [h]
  all_goals exact hc
theorem ok_bad {c : Cod} {n j : Int} {x : Ir} (hk : kOk c x) (hm : j ∈ lsOf x) (h : oddB n j = true) : okR c n x = false := by
  unfold okR
  rw [kindR_val hk]
  unfold lsOf at hm
  by_cases hd : x.op = 1 ∨ x.op = 2 ∨ x.op = 3 ∨ x.op = 4
  · rw [if_pos hd] at hm
    rcases List.mem_append.1 hm with hm | hm
    · have : (uses x.op x.a x.b x.c).any (oddB n) = true := List.any_eq_true.2 ⟨j, hm, h⟩
      rw [this]; simp
    · rw [List.mem_singleton.1 hm] at h
      rw [if_pos hd, h]; simp
  · rw [if_neg hd] at hm
    have : (uses x.op x.a x.b x.c).any (oddB n) = true := List.any_eq_true.2 ⟨j, hm, h⟩
    rw [this]; simp
theorem ok_good {c : Cod} {n : Int} {x : Ir} (hk : kOk c x) (h : ∀ j ∈ lsOf x, oddB n j = false) (ha : x.op = 3 → (arity x.n).2.2.2 = true) : okR c n x = true := by
  unfold okR
  rw [kindR_val hk]
  unfold lsOf at h
  have hu : (uses x.op x.a x.b x.c).any (oddB n) = false := by
    rw [List.any_eq_false]
    intro j hj
    rw [h j (by split; exact List.mem_append.2 (.inl hj); exact hj)]
    simp
  rw [hu]
  have e1 : (if x.op = 3 then (arity x.n).2.2.2 else true) = true := by split; rename_i h3; exact ha h3; rfl
  rw [e1]
  by_cases hd : x.op = 1 ∨ x.op = 2 ∨ x.op = 3 ∨ x.op = 4
  · rw [if_pos hd, h x.dst (by rw [if_pos hd]; simp)]; rfl
  · rw [if_neg hd]; rfl
theorem ok_ar {c : Cod} {n : Int} {x : Ir} (h3 : x.op = 3) (ha : (arity x.n).2.2.2 = false) : okR c n x = false := by
  unfold okR kindR
  rw [if_pos h3, ha]; rfl
theorem ok_none {c : Cod} {n : Int} {x : Ir} (h : ¬ kOk c x) : okR c n x = false := by
  have e : kindR c n x = false := by
    unfold kindR
    unfold kOk at h
    rw [if_neg (by omega), if_neg (by omega)]
    by_cases hj : x.op = 10 ∨ x.op = 11 ∨ x.op = 12
    · rw [if_pos hj]; exact decide_eq_false (fun e => h (.inr ⟨hj, e⟩))
    · rw [if_neg hj]; exact decide_eq_false (by omega)
  unfold okR
  rw [e]; rfl
theorem lsOf_len (x : Ir) : (lsOf x).length ≤ 4 := by
  have := uses_len x.op x.a x.b x.c
  unfold lsOf
  split
  · rw [List.length_append]; simp; omega
  · omega
theorem rd_all {l : List Int} {n : Int} (h : ∀ j : Nat, j < l.length → oddB n (rd l (j : Int)) = false) : ∀ j ∈ l, oddB n j = false := fun y hy => by
  obtain ⟨q, hq, rfl⟩ := List.mem_iff_getElem.1 hy
  have := h q hq
  rwa [Ins.rd_get _ q hq] at this
theorem rf_of {w W W1 : World} {c : Cod} {A : Option Addr} {cap base : Nat} (h : Rf w W c A cap) (hc : CodeAt w c A cap) (hB : Below base W W1) (hb : w.heap.size + 1 ≤ base) : Rf w W1 c A cap :=
  ⟨h.bel.trans (hB.mono (by omega)), Nat.le_trans h.sz hB.size, (hB.block _ (by omega)).trans h.box, hc.below (h.bel.trans (hB.mono (by omega)))⟩
set_option maxHeartbeats 16000000 in
set_option maxRecDepth 100000 in
theorem fits15_calls (c : Cod) (A : Option Addr) (cap : Nat) (B : Option Addr) (N capB : Nat) (w : World) (hC : CodeAt w c A cap) (hN : N ≤ 90000) :
    Calls Try.prog 82 #[.agg (c.vals A cap), .slice B N capB] w (FitROut w (fitsR c N)) := by
  have HP := Aside0.mk (Rf.init hC)
  have hsm := hC.small
  have HC0 := Aside0.mk hC
  have hb0 := blk_cell HP.out.box 0
  clear hC
  by_cases hnc : ¬ (N : Int) = c.cells
  · have HF : Aside0 (fitsR c N = false) := ⟨by unfold fitsR; rw [decide_eq_false hnc, Bool.and_false]⟩
    have hne : ((N : Int) != c.cells) = true := by simpa using hnc
    clear hnc
    go_enter Try.func82, Try.ntmps82
    go_wp2_with fail
    go_ret
    exact ⟨by rw [HF.out]; rfl, HP.out.bel⟩
  replace hnc : (N : Int) = c.cells := Decidable.not_not.1 hnc
  have HNC := Aside0.mk hnc
  have hne : ((N : Int) != c.cells) = false := by simpa using hnc
  clear hnc
  go_enter Try.func82, Try.ntmps82
  go_wp2_with fail
  clear hb0 hne
  go_loopw [5] (fun i wr => ∃ k : Nat, k ≤ c.body.length ∧ i = .int .i64 k ∧ Aside0 (RdF c N k) ∧ Aside0 (Rf w wr c A cap)) (fun i _ => c.body.length - (intOf i).toNat)
  case atStart => exact ⟨0, Nat.zero_le _, rfl, ⟨⟨fun j hj => by omega⟩⟩, HP⟩
  case round =>
    obtain ⟨k, hk, rfl, HR, HP1⟩ := hrel
    clear HP
    have hb2 := blk_cell HP1.out.box 2
    by_cases hlt : k < c.body.length
    · obtain ⟨ad, e, hx0, hx1, hx2, hx3, hx4, hx5, hx6⟩ := at_ir HP1.out.code.row k hlt
      subst e
      obtain ⟨x, hx⟩ : ∃ x, atIr c.body k = x := ⟨_, rfl⟩
      rw [hx] at hx0 hx1 hx2 hx3 hx4 hx5 hx6
      have HFALSE : Aside0 (okR c N x = false → fitsR c N = false) := ⟨fun h => fitsR_at hlt (by rw [hx]; exact h)⟩
      have HNEXT : Aside0 (okR c N x = true → RdF c N (k + 1)) := ⟨fun h => HR.out.next (by rw [hx]; exact h)⟩
      clear hx
      obtain ⟨op, dst, a, b, cc, n, m⟩ := x
      by_cases hkk : ¬ kOk c ⟨op, dst, a, b, cc, n, m⟩
      · have HF := Aside0.mk (HFALSE.out (ok_none hkk))
        by_cases hj : op = 10 ∨ op = 11 ∨ op = 12
        · have hcn : cnt c.body n c.body.length ≠ 1 := fun e => hkk (.inr ⟨hj, e⟩)
          have hmb : (((cnt c.body n c.body.length : Nat) : Int) != 1) = true := by simp; omega
          have hbx0 := fun o => cell_al (blk_cell HP1.out.box 0) o
          have hbx1 := fun o => cell_al (blk_cell HP1.out.box 1) o
          have hbx2 := fun o => cell_al (blk_cell HP1.out.box 2) o
          have hbx3 := fun o => cell_al (blk_cell HP1.out.box 3) o
          clear hkk hcn
          rcases hj with rfl | rfl | rfl
          all_goals
            go_wp2_with (go_at_call 101; refine (many_calls c (some ad) cap n _ (HP1.out.alloc _).code).mono ?_; rintro e w8 ⟨rfl, hb⟩; have HP5 := Aside0.mk ((HP1.out.alloc _).below hb); clear hb)
            go_ret
            exact ⟨by rw [HF.out]; rfl, HP5.out.bel⟩
        · have hh : ¬ op = 1 ∧ ¬ op = 2 ∧ ¬ op = 3 ∧ ¬ op = 4 ∧ ¬ op = 9 ∧ ¬ op = 15 ∧ ¬ op = 16 ∧ ¬ op = 10 ∧ ¬ op = 11 ∧ ¬ op = 12 := by unfold kOk at hkk; simp only [] at hkk; omega
          obtain ⟨g1, g2, g3, g4, g9, g15, g16, g10, g11, g12⟩ := hh
          have g1 : (op == 1) = false := by simpa using g1
          have g2 : (op == 2) = false := by simpa using g2
          have g3 : (op == 3) = false := by simpa using g3
          have g4 : (op == 4) = false := by simpa using g4
          have g9 : (op == 9) = false := by simpa using g9
          have g15 : (op == 15) = false := by simpa using g15
          have g16 : (op == 16) = false := by simpa using g16
          have g10 : (op == 10) = false := by simpa using g10
          have g11 : (op == 11) = false := by simpa using g11
          have g12 : (op == 12) = false := by simpa using g12
          clear hj hkk
          go_wp2_with fail
          go_ret
          exact ⟨by rw [HF.out]; rfl, (HP1.out.alloc _).bel⟩
      replace hkk : kOk c ⟨op, dst, a, b, cc, n, m⟩ := Classical.not_not.1 hkk
      have HKK := Aside0.mk hkk
      have hcases : (op = 1 ∨ op = 2 ∨ op = 3 ∨ op = 4 ∨ op = 9 ∨ op = 15 ∨ op = 16) ∨ (op = 10 ∨ op = 11 ∨ op = 12) ∧ cnt c.body n c.body.length = 1 := hkk
      clear hkk
      have hbx0 := fun o => cell_al (blk_cell HP1.out.box 0) o
      have hbx1 := fun o => cell_al (blk_cell HP1.out.box 1) o
      have hbx2 := fun o => cell_al (blk_cell HP1.out.box 2) o
      have hbx3 := fun o => cell_al (blk_cell HP1.out.box 3) o
      have hg : (op = 1 ∨ op = 2 ∨ op = 4 ∨ op = 3) ∨ (op = 9 ∨ op = 15 ∨ op = 16) ∨ (op = 10 ∨ op = 11 ∨ op = 12) ∧ cnt c.body n c.body.length = 1 := by omega
      clear hcases
      rcases hg with h | h | ⟨h, hcn⟩
      · rcases h with h | h | h | h
        all_goals
          have hnd := Aside0.mk (show defs ⟨op, dst, a, b, cc, n, m⟩ = dst from by simp [defs, h])
          have hnl := Aside0.mk (show lsOf ⟨op, dst, a, b, cc, n, m⟩ = uses op a b cc ++ [dst] from by simp [lsOf, h])
          first
            | (have g1 : (op == 1) = true := by (rw [h]; rfl))
            | (have g1 : (op == 1) = false := by (rw [h]; rfl))
          first
            | (have g2 : (op == 2) = true := by (rw [h]; rfl))
            | (have g2 : (op == 2) = false := by (rw [h]; rfl))
          first
            | (have g3 : (op == 3) = true := by (rw [h]; rfl))
            | (have g3 : (op == 3) = false := by (rw [h]; rfl))
          first
            | (have g4 : (op == 4) = true := by (rw [h]; rfl))
            | (have g4 : (op == 4) = false := by (rw [h]; rfl))
          first
            | (have g9 : (op == 9) = true := by (rw [h]; rfl))
            | (have g9 : (op == 9) = false := by (rw [h]; rfl))
          first
            | (have g15 : (op == 15) = true := by (rw [h]; rfl))
            | (have g15 : (op == 15) = false := by (rw [h]; rfl))
          first
            | (have g16 : (op == 16) = true := by (rw [h]; rfl))
            | (have g16 : (op == 16) = false := by (rw [h]; rfl))
          first
            | (have g10 : (op == 10) = true := by (rw [h]; rfl))
            | (have g10 : (op == 10) = false := by (rw [h]; rfl))
          first
            | (have g11 : (op == 11) = true := by (rw [h]; rfl))
            | (have g11 : (op == 11) = false := by (rw [h]; rfl))
          first
            | (have g12 : (op == 12) = true := by (rw [h]; rfl))
            | (have g12 : (op == 12) = false := by (rw [h]; rfl))
          have HH := Aside0.mk h
          clear h
          have hul := uses_len op a b cc
          obtain ⟨us, hus⟩ : ∃ us, uses op a b cc = us := ⟨_, rfl⟩
          rw [hus] at hul
          have HUS := Aside0.mk hus
          have HLS0 := Aside0.mk (show lsOf ⟨op, dst, a, b, cc, n, m⟩ = us ++ [dst] from by rw [← hus]; exact hnl.out)
          have HD := Aside0.mk (show defs ⟨op, dst, a, b, cc, n, m⟩ = dst from hnd.out)
          have HXB := Aside0.mk (blk_new wr (.cells #[.int .i64 op, .int .i64 dst, .int .i64 a, .int .i64 b, .int .i64 cc, .int .i64 n, .int .i64 m] 38))
          clear hus
          go_wp2_with (first
            | (go_at_call 44; refine (ruses_calls _ _ _ _ _ _ _ _).mono ?_; rw [HUS.out]; rintro e w3 ⟨v3, rfl, hR, hb⟩; obtain ⟨U3, c3, e3⟩ := Kd.R_slice hR; subst e3; have HR3 := Aside0.mk hR; have HP3 := Aside0.mk ((HP1.out.alloc _).below hb); have HX3 := Aside0.mk (blk_below HXB.out hb); have hy0 := blk_cell HX3.out 0; have hy1 := blk_cell HX3.out 1; have hy2 := blk_cell HX3.out 2; have hy3 := blk_cell HX3.out 3; have hy4 := blk_cell HX3.out 4; have hy5 := blk_cell HX3.out 5; have hy6 := blk_cell HX3.out 6; clear hb hR hx0 hx1 hx2 hx3 hx4 hx5 hx6 hb2 hbx0 hbx1 hbx2 hbx3)
            | (go_at_call 42; refine (rdefs_calls' HD.out _).mono ?_; rintro e w4 ⟨rfl, hb⟩; have HR4 := Aside0.mk (Kd.R_below HR3.out hb); have HP4 := Aside0.mk (HP3.out.below hb); have HX4 := Aside0.mk (blk_below HX3.out hb); have hz0 := blk_cell HX4.out 0; clear hb hy0 hy1 hy2 hy3 hy4 hy5 hy6)
            | ((with_reducible refine gate_builtin (b := .append) (xs := #[.tmp 61, .tmp 63]) rfl ?_); at_builtin; refine Kd.R_append (Kd.int .i64) (w0 := w4) (wr.heap.size + 1) rfl (.tmp 61) (.tmp 63) 26 3 (.int .i64 0) 8 rfl Try.underlying26 infoInt rfl (by decide) (by omega) (.slice U3 us.length c3) us dst [.int .i64 dst] (fun _ => True) (fun _ => False) rfl rfl rfl (fun _ hk => hk.elim) (fun _ _ => trivial) (Kd.R_lower HR4.out (by simp)) (Below.refl _ _) (by have := blk_lt HX4.out; omega) (by omega) ?_; intro v5 w5 hO hB hg hat; obtain ⟨ls, hls⟩ : ∃ ls, us ++ [dst] = ls := ⟨_, rfl⟩; rw [hls] at hO; have HLS := Aside0.mk (HLS0.out.trans hls); clear hls; obtain ⟨U5, c5, e5⟩ := Kd.R_slice hO; subst e5; have HR5 := Aside0.mk hO; have HB5 := Aside0.mk hB; have HG5 := Aside0.mk hg; clear hO hB hg hat))
          obtain ⟨-, -, hCU⟩ := Kd.R_reads' HR5.out
          have HX2 := Aside0.mk (show Rx w w5 c (some ad) cap wr.heap.size ⟨op, dst, a, b, cc, n, m⟩ U5 ls from ⟨rf_of HP4.out HC0.out HB5.out (by have := HP1.out.sz; omega), (HB5.out.block _ (by omega)).trans HX4.out, hCU⟩)
          have hll : ls.length ≤ 4 := by rw [← HLS.out]; exact lsOf_len _
          clear hCU hul
          go_loopw [9] (fun iv wq => ∃ q : Nat, q ≤ ls.length ∧ iv = .int .i64 q ∧ Aside0 (∀ j : Nat, j < q → oddB N (rd ls (j : Int)) = false) ∧ Aside0 (Rx w wq c (some ad) cap wr.heap.size ⟨op, dst, a, b, cc, n, m⟩ U5 ls)) (fun iv _ => ls.length - (intOf iv).toNat)
          case atStart => exact ⟨0, Nat.zero_le _, rfl, ⟨fun j hj => by omega⟩, HX2⟩
          case round =>
            obtain ⟨q, hq, rfl, HO, HX9⟩ := hrel
            clear HX2
            by_cases hql : q < ls.length
            · obtain ⟨adw, e, hqc⟩ := Kd.at_int HX9.out.us (q : Int) (by omega) (by omega)
              subst e
              rw [Int.toNat_natCast] at hqc
              by_cases ho : oddB N (rd ls (q : Int)) = true
              · have HF := Aside0.mk (HFALSE.out (ok_bad (j := rd ls (q : Int)) HKK.out (by rw [HLS.out]; exact rd_mem hql) ho))
                by_cases hneg : rd ls (q : Int) < 0
                · have hnb := decide_eq_true hneg
                  clear ho hneg
                  go_wp2_with fail
                  go_ret
                  exact ⟨by rw [HF.out]; rfl, HX9.out.f.bel⟩
                · have hnb := decide_eq_false hneg
                  have hge : decide ((N : Int) ≤ rd ls (q : Int)) = true := decide_eq_true (by simp [oddB] at ho; omega)
                  clear ho hneg
                  go_wp2_with fail
                  go_ret
                  exact ⟨by rw [HF.out]; rfl, HX9.out.f.bel⟩
              · replace ho : oddB N (rd ls (q : Int)) = false := by simpa using ho
                have HOQ := Aside0.mk ho
                have hnb : decide (rd ls (q : Int) < 0) = false := decide_eq_false (by simp [oddB] at ho; omega)
                have hge : decide ((N : Int) ≤ rd ls (q : Int)) = false := decide_eq_false (by simp [oddB] at ho; omega)
                clear ho
                go_wp2_with fail
                go_roundw
                case rel => exact ⟨q + 1, by omega, by go_num, ⟨fun j hj => by rcases Nat.lt_succ_iff_lt_or_eq.1 hj with h | rfl; exact HO.out j h; exact HOQ.out⟩, HX9⟩
                case measure => first | (simp [intOf]; done) | (simp [intOf]; omega)
            · have HALL := Aside0.mk (rd_all (show ∀ j : Nat, j < ls.length → oddB N (rd ls (j : Int)) = false from fun j hj => HO.out j (by omega)))
              clear HO
              have hx0 := blk_cell HX9.out.xb 0
              have hx5 := blk_cell HX9.out.xb 5
              by_cases h3 : op = 3
              · first
                | (exfalso; have hh := HH.out; omega)
                | (
                  cases har : (arity n).2.2.2 with
                  | true =>
                    have HN := Aside0.mk (HNEXT.out (ok_good HKK.out (by rw [HLS.out]; exact HALL.out) (fun _ => har)))
                    clear h3
                    go_wp2_with (go_at_call 102; refine (ref_arity_calls n _).mono ?_; rintro e w6 ⟨rfl, rfl⟩)
                    go_roundw
                    case rel => exact ⟨k + 1, by omega, by go_num, HN, ⟨HX9.out.f⟩⟩
                    case measure => first | (simp [intOf]; done) | (simp [intOf]; omega)
                  | false =>
                    have HF := Aside0.mk (HFALSE.out (ok_ar h3 har))
                    clear h3
                    go_wp2_with (go_at_call 102; refine (ref_arity_calls n _).mono ?_; rintro e w6 ⟨rfl, rfl⟩)
                    go_ret
                    exact ⟨by rw [HF.out]; rfl, HX9.out.f.bel⟩)
              · first
                | (exfalso; have hh := HH.out; omega)
                | (
                  have HN := Aside0.mk (HNEXT.out (ok_good HKK.out (by rw [HLS.out]; exact HALL.out) (fun e => absurd e h3)))
                  clear h3
                  go_wp2_with (go_at_call 102; refine (ref_arity_calls n _).mono ?_; rintro e w6 ⟨rfl, rfl⟩)
                  go_roundw
                  case rel => exact ⟨k + 1, by omega, by go_num, HN, ⟨HX9.out.f⟩⟩
                  case measure => first | (simp [intOf]; done) | (simp [intOf]; omega))
      · rcases h with h | h | h
        all_goals
          have hnd := Aside0.mk (show defs ⟨op, dst, a, b, cc, n, m⟩ = -1 from by simp [defs, h])
          have hnl := Aside0.mk (show lsOf ⟨op, dst, a, b, cc, n, m⟩ = uses op a b cc from by simp [lsOf, h])
          first
            | (have g1 : (op == 1) = true := by (rw [h]; rfl))
            | (have g1 : (op == 1) = false := by (rw [h]; rfl))
          first
            | (have g2 : (op == 2) = true := by (rw [h]; rfl))
            | (have g2 : (op == 2) = false := by (rw [h]; rfl))
          first
            | (have g3 : (op == 3) = true := by (rw [h]; rfl))
            | (have g3 : (op == 3) = false := by (rw [h]; rfl))
          first
            | (have g4 : (op == 4) = true := by (rw [h]; rfl))
            | (have g4 : (op == 4) = false := by (rw [h]; rfl))
          first
            | (have g9 : (op == 9) = true := by (rw [h]; rfl))
            | (have g9 : (op == 9) = false := by (rw [h]; rfl))
          first
            | (have g15 : (op == 15) = true := by (rw [h]; rfl))
            | (have g15 : (op == 15) = false := by (rw [h]; rfl))
          first
            | (have g16 : (op == 16) = true := by (rw [h]; rfl))
            | (have g16 : (op == 16) = false := by (rw [h]; rfl))
          first
            | (have g10 : (op == 10) = true := by (rw [h]; rfl))
            | (have g10 : (op == 10) = false := by (rw [h]; rfl))
          first
            | (have g11 : (op == 11) = true := by (rw [h]; rfl))
            | (have g11 : (op == 11) = false := by (rw [h]; rfl))
          first
            | (have g12 : (op == 12) = true := by (rw [h]; rfl))
            | (have g12 : (op == 12) = false := by (rw [h]; rfl))
          have HH := Aside0.mk h
          clear h
          have hul := uses_len op a b cc
          obtain ⟨ls, hus⟩ : ∃ ls, uses op a b cc = ls := ⟨_, rfl⟩
          rw [hus] at hul
          have HUS := Aside0.mk hus
          have HLS := Aside0.mk (show lsOf ⟨op, dst, a, b, cc, n, m⟩ = ls from by rw [← hus]; exact hnl.out)
          have HD := Aside0.mk (show defs ⟨op, dst, a, b, cc, n, m⟩ = -1 from hnd.out)
          have HXB := Aside0.mk (blk_new wr (.cells #[.int .i64 op, .int .i64 dst, .int .i64 a, .int .i64 b, .int .i64 cc, .int .i64 n, .int .i64 m] 38))
          clear hus
          go_wp2_with (first
            | (go_at_call 44; refine (ruses_calls _ _ _ _ _ _ _ _).mono ?_; rw [HUS.out]; rintro e w3 ⟨v3, rfl, hR, hb⟩; obtain ⟨U3, c3, e3⟩ := Kd.R_slice hR; subst e3; have HR3 := Aside0.mk hR; have HP3 := Aside0.mk ((HP1.out.alloc _).below hb); have HX3 := Aside0.mk (blk_below HXB.out hb); have hy0 := blk_cell HX3.out 0; have hy1 := blk_cell HX3.out 1; have hy2 := blk_cell HX3.out 2; have hy3 := blk_cell HX3.out 3; have hy4 := blk_cell HX3.out 4; have hy5 := blk_cell HX3.out 5; have hy6 := blk_cell HX3.out 6; clear hb hR hx0 hx1 hx2 hx3 hx4 hx5 hx6 hb2 hbx0 hbx1 hbx2 hbx3)
            | (go_at_call 42; refine (rdefs_calls' HD.out _).mono ?_; rintro e w4 ⟨rfl, hb⟩; have HR4 := Aside0.mk (Kd.R_below HR3.out hb); have HP4 := Aside0.mk (HP3.out.below hb); have HX4 := Aside0.mk (blk_below HX3.out hb); have hz0 := blk_cell HX4.out 0; clear hb hy0 hy1 hy2 hy3 hy4 hy5 hy6))
          obtain ⟨-, -, hCU⟩ := Kd.R_reads' HR4.out
          have HX2 := Aside0.mk (show Rx w w4 c (some ad) cap wr.heap.size ⟨op, dst, a, b, cc, n, m⟩ U3 ls from ⟨HP4.out, HX4.out, hCU⟩)
          have hll : ls.length ≤ 4 := by rw [← HLS.out]; exact lsOf_len _
          clear hCU hul
          go_loopw [9] (fun iv wq => ∃ q : Nat, q ≤ ls.length ∧ iv = .int .i64 q ∧ Aside0 (∀ j : Nat, j < q → oddB N (rd ls (j : Int)) = false) ∧ Aside0 (Rx w wq c (some ad) cap wr.heap.size ⟨op, dst, a, b, cc, n, m⟩ U3 ls)) (fun iv _ => ls.length - (intOf iv).toNat)
          case atStart => exact ⟨0, Nat.zero_le _, rfl, ⟨fun j hj => by omega⟩, HX2⟩
          case round =>
            obtain ⟨q, hq, rfl, HO, HX9⟩ := hrel
            clear HX2
            by_cases hql : q < ls.length
            · obtain ⟨adw, e, hqc⟩ := Kd.at_int HX9.out.us (q : Int) (by omega) (by omega)
              subst e
              rw [Int.toNat_natCast] at hqc
              by_cases ho : oddB N (rd ls (q : Int)) = true
              · have HF := Aside0.mk (HFALSE.out (ok_bad (j := rd ls (q : Int)) HKK.out (by rw [HLS.out]; exact rd_mem hql) ho))
                by_cases hneg : rd ls (q : Int) < 0
                · have hnb := decide_eq_true hneg
                  clear ho hneg
                  go_wp2_with fail
                  go_ret
                  exact ⟨by rw [HF.out]; rfl, HX9.out.f.bel⟩
                · have hnb := decide_eq_false hneg
                  have hge : decide ((N : Int) ≤ rd ls (q : Int)) = true := decide_eq_true (by simp [oddB] at ho; omega)
                  clear ho hneg
                  go_wp2_with fail
                  go_ret
                  exact ⟨by rw [HF.out]; rfl, HX9.out.f.bel⟩
              · replace ho : oddB N (rd ls (q : Int)) = false := by simpa using ho
                have HOQ := Aside0.mk ho
                have hnb : decide (rd ls (q : Int) < 0) = false := decide_eq_false (by simp [oddB] at ho; omega)
                have hge : decide ((N : Int) ≤ rd ls (q : Int)) = false := decide_eq_false (by simp [oddB] at ho; omega)
                clear ho
                go_wp2_with fail
                go_roundw
                case rel => exact ⟨q + 1, by omega, by go_num, ⟨fun j hj => by rcases Nat.lt_succ_iff_lt_or_eq.1 hj with h | rfl; exact HO.out j h; exact HOQ.out⟩, HX9⟩
                case measure => first | (simp [intOf]; done) | (simp [intOf]; omega)
            · have HALL := Aside0.mk (rd_all (show ∀ j : Nat, j < ls.length → oddB N (rd ls (j : Int)) = false from fun j hj => HO.out j (by omega)))
              clear HO
              have hx0 := blk_cell HX9.out.xb 0
              have hx5 := blk_cell HX9.out.xb 5
              have HN := Aside0.mk (HNEXT.out (ok_good HKK.out (by rw [HLS.out]; exact HALL.out) (fun e => absurd e (show ¬ op = 3 by have hh := HH.out; omega))))
              go_wp2_with (go_at_call 102; refine (ref_arity_calls n _).mono ?_; rintro e w6 ⟨rfl, rfl⟩)
              go_roundw
              case rel => exact ⟨k + 1, by omega, by go_num, HN, ⟨HX9.out.f⟩⟩
              case measure => first | (simp [intOf]; done) | (simp [intOf]; omega)
      · rcases h with h | h | h
        all_goals
          have hnd := Aside0.mk (show defs ⟨op, dst, a, b, cc, n, m⟩ = -1 from by simp [defs, h])
          have hnl := Aside0.mk (show lsOf ⟨op, dst, a, b, cc, n, m⟩ = uses op a b cc from by simp [lsOf, h])
          first
            | (have g1 : (op == 1) = true := by (rw [h]; rfl))
            | (have g1 : (op == 1) = false := by (rw [h]; rfl))
          first
            | (have g2 : (op == 2) = true := by (rw [h]; rfl))
            | (have g2 : (op == 2) = false := by (rw [h]; rfl))
          first
            | (have g3 : (op == 3) = true := by (rw [h]; rfl))
            | (have g3 : (op == 3) = false := by (rw [h]; rfl))
          first
            | (have g4 : (op == 4) = true := by (rw [h]; rfl))
            | (have g4 : (op == 4) = false := by (rw [h]; rfl))
          first
            | (have g9 : (op == 9) = true := by (rw [h]; rfl))
            | (have g9 : (op == 9) = false := by (rw [h]; rfl))
          first
            | (have g15 : (op == 15) = true := by (rw [h]; rfl))
            | (have g15 : (op == 15) = false := by (rw [h]; rfl))
          first
            | (have g16 : (op == 16) = true := by (rw [h]; rfl))
            | (have g16 : (op == 16) = false := by (rw [h]; rfl))
          first
            | (have g10 : (op == 10) = true := by (rw [h]; rfl))
            | (have g10 : (op == 10) = false := by (rw [h]; rfl))
          first
            | (have g11 : (op == 11) = true := by (rw [h]; rfl))
            | (have g11 : (op == 11) = false := by (rw [h]; rfl))
          first
            | (have g12 : (op == 12) = true := by (rw [h]; rfl))
            | (have g12 : (op == 12) = false := by (rw [h]; rfl))
          have HH := Aside0.mk h
          clear h
          have hul := uses_len op a b cc
          obtain ⟨ls, hus⟩ : ∃ ls, uses op a b cc = ls := ⟨_, rfl⟩
          rw [hus] at hul
          have HUS := Aside0.mk hus
          have HLS := Aside0.mk (show lsOf ⟨op, dst, a, b, cc, n, m⟩ = ls from by rw [← hus]; exact hnl.out)
          have HD := Aside0.mk (show defs ⟨op, dst, a, b, cc, n, m⟩ = -1 from hnd.out)
          have HXB := Aside0.mk (blk_new wr (.cells #[.int .i64 op, .int .i64 dst, .int .i64 a, .int .i64 b, .int .i64 cc, .int .i64 n, .int .i64 m] 38))
          clear hus
          have hmb : (((cnt c.body n c.body.length : Nat) : Int) != 1) = false := by rw [hcn]; rfl
          clear hcn
          go_wp2_with (first
            | (go_at_call 101; refine (many_calls c (some ad) cap n _ (HP1.out.alloc _).code).mono ?_; rintro e w8 ⟨rfl, hb⟩; have HPJ := Aside0.mk ((HP1.out.alloc _).below hb); have HXJ := Aside0.mk (blk_below HXB.out hb); have hj0 := blk_cell HXJ.out 0; have hj1 := blk_cell HXJ.out 1; have hj2 := blk_cell HXJ.out 2; have hj3 := blk_cell HXJ.out 3; have hj4 := blk_cell HXJ.out 4; have hj5 := blk_cell HXJ.out 5; have hj6 := blk_cell HXJ.out 6; clear hb hx0 hx1 hx2 hx3 hx4 hx5 hx6 hb2 hbx0 hbx1 hbx2 hbx3)
            | (go_at_call 44; refine (ruses_calls _ _ _ _ _ _ _ _).mono ?_; rw [HUS.out]; rintro e w3 ⟨v3, rfl, hR, hb⟩; obtain ⟨U3, c3, e3⟩ := Kd.R_slice hR; subst e3; have HR3 := Aside0.mk hR; have HP3 := Aside0.mk (HPJ.out.below hb); have HX3 := Aside0.mk (blk_below HXJ.out hb); have hy0 := blk_cell HX3.out 0; have hy1 := blk_cell HX3.out 1; have hy2 := blk_cell HX3.out 2; have hy3 := blk_cell HX3.out 3; have hy4 := blk_cell HX3.out 4; have hy5 := blk_cell HX3.out 5; have hy6 := blk_cell HX3.out 6; clear hb hR hj0 hj1 hj2 hj3 hj4 hj5 hj6)
            | (go_at_call 42; refine (rdefs_calls' HD.out _).mono ?_; rintro e w4 ⟨rfl, hb⟩; have HR4 := Aside0.mk (Kd.R_below HR3.out hb); have HP4 := Aside0.mk (HP3.out.below hb); have HX4 := Aside0.mk (blk_below HX3.out hb); have hz0 := blk_cell HX4.out 0; clear hb hy0 hy1 hy2 hy3 hy4 hy5 hy6))
          obtain ⟨-, -, hCU⟩ := Kd.R_reads' HR4.out
          have HX2 := Aside0.mk (show Rx w w4 c (some ad) cap wr.heap.size ⟨op, dst, a, b, cc, n, m⟩ U3 ls from ⟨HP4.out, HX4.out, hCU⟩)
          have hll : ls.length ≤ 4 := by rw [← HLS.out]; exact lsOf_len _
          clear hCU hul
          go_loopw [9] (fun iv wq => ∃ q : Nat, q ≤ ls.length ∧ iv = .int .i64 q ∧ Aside0 (∀ j : Nat, j < q → oddB N (rd ls (j : Int)) = false) ∧ Aside0 (Rx w wq c (some ad) cap wr.heap.size ⟨op, dst, a, b, cc, n, m⟩ U3 ls)) (fun iv _ => ls.length - (intOf iv).toNat)
          case atStart => exact ⟨0, Nat.zero_le _, rfl, ⟨fun j hj => by omega⟩, HX2⟩
          case round =>
            obtain ⟨q, hq, rfl, HO, HX9⟩ := hrel
            clear HX2
            by_cases hql : q < ls.length
            · obtain ⟨adw, e, hqc⟩ := Kd.at_int HX9.out.us (q : Int) (by omega) (by omega)
              subst e
              rw [Int.toNat_natCast] at hqc
              by_cases ho : oddB N (rd ls (q : Int)) = true
              · have HF := Aside0.mk (HFALSE.out (ok_bad (j := rd ls (q : Int)) HKK.out (by rw [HLS.out]; exact rd_mem hql) ho))
                by_cases hneg : rd ls (q : Int) < 0
                · have hnb := decide_eq_true hneg
                  clear ho hneg
                  go_wp2_with fail
                  go_ret
                  exact ⟨by rw [HF.out]; rfl, HX9.out.f.bel⟩
                · have hnb := decide_eq_false hneg
                  have hge : decide ((N : Int) ≤ rd ls (q : Int)) = true := decide_eq_true (by simp [oddB] at ho; omega)
                  clear ho hneg
                  go_wp2_with fail
                  go_ret
                  exact ⟨by rw [HF.out]; rfl, HX9.out.f.bel⟩
              · replace ho : oddB N (rd ls (q : Int)) = false := by simpa using ho
                have HOQ := Aside0.mk ho
                have hnb : decide (rd ls (q : Int) < 0) = false := decide_eq_false (by simp [oddB] at ho; omega)
                have hge : decide ((N : Int) ≤ rd ls (q : Int)) = false := decide_eq_false (by simp [oddB] at ho; omega)
                clear ho
                go_wp2_with fail
                go_roundw
                case rel => exact ⟨q + 1, by omega, by go_num, ⟨fun j hj => by rcases Nat.lt_succ_iff_lt_or_eq.1 hj with h | rfl; exact HO.out j h; exact HOQ.out⟩, HX9⟩
                case measure => first | (simp [intOf]; done) | (simp [intOf]; omega)
            · have HALL := Aside0.mk (rd_all (show ∀ j : Nat, j < ls.length → oddB N (rd ls (j : Int)) = false from fun j hj => HO.out j (by omega)))
              clear HO
              have hx0 := blk_cell HX9.out.xb 0
              have hx5 := blk_cell HX9.out.xb 5
              have HN := Aside0.mk (HNEXT.out (ok_good HKK.out (by rw [HLS.out]; exact HALL.out) (fun e => absurd e (show ¬ op = 3 by have hh := HH.out; omega))))
              go_wp2_with (go_at_call 102; refine (ref_arity_calls n _).mono ?_; rintro e w6 ⟨rfl, rfl⟩)
              go_roundw
              case rel => exact ⟨k + 1, by omega, by go_num, HN, ⟨HX9.out.f⟩⟩
              case measure => first | (simp [intOf]; done) | (simp [intOf]; omega)
    · have HE := Aside0.mk (show fitsR c N = true from by
        have e : k = c.body.length := by omega
        have h := HR.out
        rw [e] at h
        rw [fitsR_end h, HNC.out]
        simp)
      go_wp2_with fail
      go_ret
      exact ⟨by rw [HE.out]; rfl, HP1.out.bel⟩
theorem rexec_no (c : Cod) (A : Option Addr) (cap : Nat) (B : Option Addr) (capB : Nat) (cs : List Int) (w : World) (hC : CodeAt w c A cap) (hn : cs.length ≤ 90000) (hf : fitsR c cs.length = false) :
    Calls Try.prog 65 #[.agg (c.vals A cap), .slice B cs.length capB] w (RExOut w c cs) := by
  have HB0 := Aside0.mk (below_alloc (Below.refl w.heap.size w) (.cells (c.vals A cap) 24))
  have HC := Aside0.mk (fits15_calls c A cap B cs.length capB _ (hC.below HB0.out) hn)
  rw [hf] at HC
  have HO := Aside0.mk (show ∀ e w', (e = .returned (.tuple #[.slice none 0 0, .int .i64 0, .int .i64 0, .int .i64 4]) ∧ Below w.heap.size w w') → RExOut w c cs e w' from fun e w' h => by unfold RExOut; rw [if_neg (by rw [hf]; simp)]; exact h)
  clear hC hf
  go_enter Try.func65, Try.ntmps65
  go_wp2_with (go_at_call 82; refine HC.out.mono ?_; rintro e w3 ⟨rfl, hb⟩; have HB3 := Aside0.mk (HB0.out.trans (hb.mono HB0.out.size)); clear hb)
  exact bodyPost_ret (v := .tuple #[.slice none 0 0, .int .i64 0, .int .i64 0, .int .i64 4]) (by simp [results, Try.results65, go_sem]) rfl (HO.out _ _ ⟨rfl, HB3.out⟩)
theorem rexec_calls (c : Cod) (A : Option Addr) (cap : Nat) (B : Option Addr) (capB : Nat) (cs : List Int) (w : World) (hC : CodeAt w c A cap) (hB : (Kd.int .i64).C w B cs.length cs) (hn : cs.length ≤ 90000) (hc : CanL cs) (hl : ∀ i : Nat, i < c.body.length → Live.Can (atIr c.body i).n) :
    Calls Try.prog 65 #[.agg (c.vals A cap), .slice B cs.length capB] w (RExOut w c cs) := by
  by_cases hf : fitsR c cs.length = true
  · exact rexec_yes c A cap B capB cs w hC hB (by omega) hc hl hf (fun w1 hb => fits15_calls c A cap B cs.length capB w1 (hC.below hb) hn)
  · exact rexec_no c A cap B capB cs w hC hn (by simpa using hf)
end Go.Proofs.Ytdcmeefeinppnaa.RefE
