/- rsem: trapped; fits; ready; Exec. -/
import Derived.Test.YtdcmeefeinppnaaRsemC
import Derived.Defers
import Derived.Laws.Pointers
namespace Go.Proofs.Ytdcmeefeinppnaa.Rsem
open Go.RowKit Go.Proofs.YtdcmeefeinppnaaW.PrintWords Go.Proofs.YtdcmeefeinppnaaW.PrintLast Go.Proofs.YtdcmeefeinppnaaW.PrintMore Go.Proofs.Ytdcmeefeinppnaa.Mem Go.Proofs.Ytdcmeefeinppnaa.Ir Go.Proofs.Ytdcmeefeinppnaa.Live
open MapOf (get put)
set_option linter.unusedVariables false
set_option linter.unusedSimpArgs false

set_option maxRecDepth 100000 in
theorem catch_panicking (p : Addr) (x t : Int) (older : List PanicEntry) (w : World) (hc : w.cell? p = some (.int .i64 x)) (hz : w.frozen? p = false) :
    CallsD Try.prog 80 #[.pointer (some p)] (.panicking ({ v := .iface 102 (.int .i64 t), recovered := false } :: older)) w fun e u' w' =>
      e = .returned (.tuple #[]) ∧ u' = .panicking ({ v := .iface 102 (.int .i64 t), recovered := true } :: older) ∧ w' = w.setCell p (.int .i64 t) := by
  have hta : (Instr.typeAssert (.iface 102 (.int .i64 t)) 20 102 true).run Try.prog w = .ok (.tuple #[.int .i64 t, .bool true]) w := by kernel_rfl
  refine callsD_of_wpS Try.func80 rfl fun c₀ cs hu => ?_
  apply wpS_seq
  apply wpS_region
  simp [wpOpsS, go_sem, recoverD, hu, Try.ntmps80, Exit.thenS]
  refine wpS_of_wp ?_
  simp only [List.size_toArray, List.length_cons, List.length_nil, Nat.reduceAdd, Nat.reduceSub, Array.replicate_succ, Array.replicate_zero, List.push_toArray, List.append_toArray, List.nil_append, List.cons_append, List.setIfInBounds_toArray, List.set_cons_zero, List.set_cons_succ]
  go_wp2_with fail
  cases c₀
  simp_all [bodyPostS, results, Try.results80]
theorem catch_idle (p : Addr) (w : World) :
    CallsD Try.prog 80 #[.pointer (some p)] .returning w fun e u' w' => e = .returned (.tuple #[]) ∧ u' = .returning ∧ w' = w := by
  refine callsD_of_wpS Try.func80 rfl fun c₀ cs hu => ?_
  apply wpS_seq
  apply wpS_region
  simp [wpOpsS, go_sem, recoverD, hu, Try.ntmps80, Exit.thenS]
  refine wpS_of_wp ?_
  simp only [List.size_toArray, List.length_cons, List.length_nil, Nat.reduceAdd, Nat.reduceSub, Array.replicate_succ, Array.replicate_zero, List.push_toArray, List.append_toArray, List.nil_append, List.cons_append, List.setIfInBounds_toArray, List.set_cons_zero, List.set_cons_succ]
  go_wp2_with fail
  cases c₀
  simp_all [bodyPostS, results, Try.results80]
/-- what lies among the elder blocks stays where only younger ones change -/
theorem Xs.under {w0 W W1 W2 : World} {c : Cod} {A : Option Addr} {cap b3 kb mb base : Nat} {M : List (Int × Int)} {v : Value} {cs cs1 : List Int} {r r1 : Int} (h : Xs w0 W c A cap b3 kb mb base M v cs r) (h1 : Xs w0 W1 c A cap b3 kb mb base M v cs1 r1) (hb : Below W.heap.size W1 W2) : Xs w0 W2 c A cap b3 kb mb base M v cs1 r1 := by
  have hk : ∀ {i : Nat} {o o' : Obj}, W.heap[i]? = some o' → W1.heap[i]? = some o → W2.heap[i]? = some o := fun {i o o'} e' e => (hb.block i (blk_lt e')).trans e
  have hown : ∀ k, v.ownBlock = some k → k < W.heap.size := fun k hk => ((Kd.R_bound h.row).1 k hk).2.2.1
  refine ⟨h1.bel.trans (hb.mono h.bel.size), hk h.box h1.box, hk h.bo h1.bo, hk h.bv h1.bv, hk h.bk h1.bk, hk h.kc h1.kc, h1.m.same (hb.block mb h.m.lt), ?_, h1.lt⟩
  exact Kd.R_mono (Kd.R_step (Kd.R_of_own (Kd.own_of_R h1.row) hown) (fun k hk _ => hb.block k hk)) (fun _ _ => trivial)
set_option maxHeartbeats 2000000 in
theorem trapped_calls {w0 W : World} {c : Cod} {A : Option Addr} {cap b3 kb mb base : Nat} {M : List (Int × Int)} {v : Value} {cs : List Int} (H : Xs w0 W c A cap b3 kb mb base M v cs 0) (hcode : CodeAt w0 c A cap)
    (hM : Pos M) (hg : ∀ i : Nat, i < c.body.length → Good (atIr c.body i) cs.length) (hc : CanL cs) :
    Calls Try.prog 61 #[.func (.func 62) #[] #[.pointer (some ⟨w0.heap.size, 0, none⟩), .pointer (some ⟨w0.heap.size + 1, 0, none⟩), .pointer (some ⟨w0.heap.size + 2, 0, none⟩), .pointer (some ⟨b3, 0, none⟩)]] W fun e W1 =>
      e = .returned (.int .i64 (runS c.body M 10000 0 cs).2.2) ∧ Xs w0 W1 c A cap b3 kb mb base M v (runS c.body M 10000 0 cs).1 (runS c.body M 10000 0 cs).2.1 := by
  have hmf : ∀ (fn : Fn) (first cap : Array Value) (w : World), (Instr.makeFunc fn first cap).run Try.prog w = .ok (.func fn first cap) w := fun _ _ _ _ => rfl
  have HX := Aside0.mk (H.below (below_alloc (Below.refl _ _) (.cells #[.int .i64 0] 3)))
  have HL := Aside0.mk (lit_calls HX.out hcode hM hg hc)
  have HT := Aside0.mk (blk_new W (.cells #[.int .i64 0] 3))
  have HSZ := Aside0.mk (show w0.heap.size + 2 < W.heap.size from blk_lt H.bv)
  have HOWN := Aside0.mk (fun k (hk : some k = v.ownBlock) => (Kd.R_bound H.row).1 k hk.symm)
  obtain ⟨R, hR⟩ : ∃ R, runS c.body M 10000 0 cs = R := ⟨_, rfl⟩
  rw [hR] at HL ⊢
  have HW := Aside0.mk H
  clear H hcode hM hg hc hR HX
  go_enter_defers Try.func61, Try.ntmps61
  go_wp2_with fail
  refine HL.out.mono ?_
  rintro e w1 ⟨he, hx, hch⟩
  have ht := hch.block W.heap.size (by simp) (fun h => by
    rcases h with h | h
    · have := HSZ.out; omega
    · have := (HOWN.out _ h).2.2.1; omega)
  rw [HT.out] at ht
  have HX1 := Aside0.mk hx
  have hc1 := blk_cell ht 0
  have hf1 := blk_frozen ht 0
  clear HL hx hch HT
  rcases he with ⟨rfl, hz⟩ | rfl
  · have HR2 := Aside0.mk (show Xs w0 (w1.setCell ⟨W.heap.size, 0, none⟩ (.int .i64 0)) c A cap b3 kb mb base M v R.1 R.2.1 from HW.out.under HX1.out (Below.setCell (p := ⟨W.heap.size, 0, none⟩) (Below.refl W.heap.size w1) (Nat.le_refl _) _))
    go_wp2_with fail
    refine leaves_cons (f := 80) (args := #[.pointer (some ⟨W.heap.size, 0, none⟩)]) (by simp) (by simp [go_sem]) ?_
    refine (catch_idle ⟨W.heap.size, 0, none⟩ _).mono ?_
    rintro e u' w'' ⟨rfl, rfl, rfl⟩
    have hcc : (w1.setCell ⟨W.heap.size, 0, none⟩ (.int .i64 0)).cell? ⟨W.heap.size, 0, none⟩ = some (.int .i64 0) := by simpa using blk_cell (blk_set ht 0 (.int .i64 0)) 0
    simp [Leaves, settle, results, Try.results61, go_sem, hz]
    rw [hcc]
    exact ⟨_, rfl, rfl, HR2.out⟩
  · have HR2 := Aside0.mk (show Xs w0 (w1.setCell ⟨W.heap.size, 0, none⟩ (.int .i64 R.2.2)) c A cap b3 kb mb base M v R.1 R.2.1 from HW.out.under HX1.out (Below.setCell (p := ⟨W.heap.size, 0, none⟩) (Below.refl W.heap.size w1) (Nat.le_refl _) _))
    refine leaves_cons (f := 80) (args := #[.pointer (some ⟨W.heap.size, 0, none⟩)]) (by simp) (by simp [go_sem]) ?_
    refine (catch_panicking ⟨W.heap.size, 0, none⟩ 0 R.2.2 [] _ hc1 hf1).mono ?_
    rintro e u' w'' ⟨rfl, rfl, rfl⟩
    have hcc : (w1.setCell ⟨W.heap.size, 0, none⟩ (.int .i64 R.2.2)).cell? ⟨W.heap.size, 0, none⟩ = some (.int .i64 R.2.2) := by simpa using blk_cell (blk_set ht 0 (.int .i64 R.2.2)) 0
    simp [Leaves, settle, results, Try.results61, go_sem]
    rw [hcc]
    exact ⟨_, rfl, rfl, HR2.out⟩
/-! ### ready -/
section
variable {β : Type} {enc : β → Value} {P : Program} {w : World} {ops : Array Oper} {o : Oper} {a : Act} {Q : Exit → Act → World → Prop} {Kc : Act → World → Prop}
theorem update_step (hw : Region.wanted o (yielded ops a.tmps) = true) (m x v : Operand) (t : TypeId) (hop : o.op = Op.mapUpdate t m x v) (kt et : TypeId) (ht : P.underlying t = some (.map kt et)) (hkt : P.underlying kt = some (.int .i64))
    (b : Nat) (M : List (Int × β)) (hm : a.eval m = .map (some b)) (h : MapOf.Is enc w b M) (k : Int) (u : β) (hx : a.eval x = .int .i64 k) (hv : a.eval v = enc u)
    (hK : ∀ w', MapOf.Is enc w' b (put M k u) → w.grownBy w' (some b) → w'.heap.size = w.heap.size → Kc (a.put o.dst undef) w') : if Region.wanted o (yielded ops a.tmps) = true then Oper.wp P o a w Kc Q else Kc (a.put o.dst undef) w := by
  obtain ⟨w', hrun, r1, r2, r3⟩ := MapOf.run_update h ht hkt k u
  rw [if_pos hw]
  unfold Oper.wp
  simp [execOp, hop, hm, hx, hv, hrun, Result.andThen]
  exact hK w' r1 r2 r3
end
structure Rd (w W : World) (c : Cod) (A : Option Addr) (cap : Nat) (M : List (Int × Int)) : Prop where
  bel : Below w.heap.size w W
  box : W.heap[w.heap.size]? = some (.cells (c.vals A cap) 24 (0, 0))
  m : MapOf.Is encI W (w.heap.size + 1) M
  kc : W.heap[w.heap.size + 1 + 1]? = some (.cells #[.int .i64 c.cells, .int .i64 c.params, .slice A c.body.length cap, .int .i64 c.labels, .map (some (w.heap.size + 1))] 101 (0, 0))
theorem Rd.below {w W W1 : World} {c : Cod} {A : Option Addr} {cap : Nat} {M : List (Int × Int)} (h : Rd w W c A cap M) (hb : Below W.heap.size W W1) : Rd w W1 c A cap M :=
  ⟨h.bel.trans (hb.mono h.bel.size), blk_below h.box hb, h.m.below hb, blk_below h.kc hb⟩
theorem Rd.grown {w W W1 : World} {c : Cod} {A : Option Addr} {cap : Nat} {M M1 : List (Int × Int)} (h : Rd w W c A cap M) (hm : MapOf.Is encI W1 (w.heap.size + 1) M1) (hg : W.grownBy W1 (some (w.heap.size + 1))) : Rd w W1 c A cap M1 :=
  ⟨h.bel.grown hg h.bel.size (fun k hk => by cases hk; omega), blk_grown h.box hg (by simp), hm, blk_grown h.kc hg (by simp)⟩
theorem rd_init (w : World) (c : Cod) (A : Option Addr) (cap : Nat) (W : World) (h : W = ((w.alloc (.cells (c.vals A cap) 24)).alloc (.map #[] 0)).alloc (.cells #[.int .i64 c.cells, .int .i64 c.params, .slice A c.body.length cap, .int .i64 c.labels, .map (some (w.heap.size + 1))] 101)) : Rd w W c A cap [] := by
  subst h
  have hk := blk_new ((w.alloc (.cells (c.vals A cap) 24)).alloc (.map #[] 0)) (.cells #[.int .i64 c.cells, .int .i64 c.params, .slice A c.body.length cap, .int .i64 c.labels, .map (some (w.heap.size + 1))] 101)
  simp only [World.size_alloc] at hk
  refine ⟨(((Below.refl _ _).alloc (Nat.le_refl _) _).alloc (by simp) _).alloc (by simp; omega) _, blk_alloc (blk_alloc (blk_new _ _) _) _, ?_, hk⟩
  have h1 := MapOf.Is.made encI (w.alloc (.cells (c.vals A cap) 24))
  have h2 := h1.below ((Below.refl _ _).alloc (Nat.le_refl _) (.cells #[.int .i64 c.cells, .int .i64 c.params, .slice A c.body.length cap, .int .i64 c.labels, .map (some (w.heap.size + 1))] 101))
  simpa using h2
set_option maxHeartbeats 2000000 in
theorem ready_calls (c : Cod) (A : Option Addr) (cap : Nat) (w : World) (hC : CodeAt w c A cap) :
    Calls Try.prog 60 #[.agg (c.vals A cap)] w fun e w' => e = .returned (.pointer (some ⟨w.heap.size + 1 + 1, 0, none⟩)) ∧ Rd w w' c A cap (labR c.body c.body.length) := by
  have HC := Aside0.mk hC
  have hs := hC.small
  clear hC
  have HI := Aside0.mk (rd_init w c A cap _ rfl)
  have hmm := @run_makeMap Try.prog
  go_enter Try.func60, Try.ntmps60
  go_wp2_with fail
  clear hmm
  go_loopw [13] (fun i wr => ∃ k : Nat, k ≤ c.body.length ∧ i = .int .i64 k ∧ Aside0 (Rd w wr c A cap (labR c.body k))) (fun i _ => c.body.length - (intOf i).toNat)
  case atStart => exact ⟨0, Nat.zero_le _, rfl, HI⟩
  case round =>
    obtain ⟨k, hk, rfl, HP⟩ := hrel
    clear HI
    by_cases hlt : k < c.body.length
    · obtain ⟨ad, e, hx0, hx1, hx2, hx3, hx4, hx5, hx6⟩ := at_ir (Kd.C_below HC.out.row HP.out.bel) k hlt
      subst e
      by_cases h9 : (atIr c.body k).op = 9
      · have HS := Aside0.mk (show labR c.body (k + 1) = put (labR c.body k) (atIr c.body k).n k from by rw [labR, if_pos h9])
        rw [h9] at hx0
        have hkc := fun o => cell_al (blk_cell HP.out.kc 4) o
        obtain ⟨w3, hrun, hIs, hg, hsz⟩ := MapOf.run_update (enc := encI) ((HP.out.below (below_alloc (Below.refl _ _) (.cells #[.int .i64 9, .int .i64 (atIr c.body k).dst, .int .i64 (atIr c.body k).a, .int .i64 (atIr c.body k).b, .int .i64 (atIr c.body k).c, .int .i64 (atIr c.body k).n, .int .i64 (atIr c.body k).m] 38))).below (drew_below _)).m Try.underlying64 Try.underlying3 (atIr c.body k).n (k : Int)
        have HP3 := Aside0.mk (((HP.out.below (below_alloc (Below.refl _ _) (.cells #[.int .i64 9, .int .i64 (atIr c.body k).dst, .int .i64 (atIr c.body k).a, .int .i64 (atIr c.body k).b, .int .i64 (atIr c.body k).c, .int .i64 (atIr c.body k).n, .int .i64 (atIr c.body k).m] 38))).below (drew_below _)).grown hIs hg)
        clear h9 hIs hg hsz
        go_wp2_with fail
        go_region
        all_goals
          go_wp2_with fail
          go_roundw
        case rel => exact ⟨k + 1, by omega, by go_num, by rw [HS.out]; exact HP3⟩
        case measure => simp [intOf]; omega
      · have h9b : ((atIr c.body k).op == 9) = false := by simpa using h9
        have HS := Aside0.mk (show labR c.body (k + 1) = labR c.body k from by rw [labR, if_neg h9])
        have HP2 := Aside0.mk (HP.out.below (below_alloc (Below.refl _ _) (.cells (atIr c.body k).vals 38)))
        clear h9
        go_wp2_with fail
        go_roundw
        case rel => exact ⟨k + 1, by omega, by go_num, by rw [HS.out]; exact HP2⟩
        case measure => simp [intOf]; omega
    · have HK := Aside0.mk (show k = c.body.length by omega)
      go_wp2_with fail
      go_ret
      exact ⟨rfl, by rw [← HK.out]; exact HP.out⟩
end Go.Proofs.Ytdcmeefeinppnaa.Rsem
