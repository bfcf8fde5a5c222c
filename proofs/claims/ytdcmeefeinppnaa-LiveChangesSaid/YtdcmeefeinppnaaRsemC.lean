/- rsem: the run of code that is carried out alone (Exec's function literal): its walk. -/
import Derived.Test.YtdcmeefeinppnaaRsemB
namespace Go.Proofs.Ytdcmeefeinppnaa.Rsem
open Go.RowKit Go.Proofs.YtdcmeefeinppnaaW.PrintWords Go.Proofs.YtdcmeefeinppnaaW.PrintLast Go.Proofs.YtdcmeefeinppnaaW.PrintMore Go.Proofs.Ytdcmeefeinppnaa.Mem Go.Proofs.Ytdcmeefeinppnaa.Ir Go.Proofs.Ytdcmeefeinppnaa.Live
open MapOf (get put)
set_option linter.unusedVariables false
set_option linter.unusedSimpArgs false

/-- where all lies while code is carried out: w0 the world at Exec's call -/
structure Xs (w0 W : World) (c : Cod) (A : Option Addr) (cap b3 kb mb base : Nat) (M : List (Int × Int)) (v : Value) (cs : List Int) (r : Int) : Prop where
  bel : Below w0.heap.size w0 W
  box : W.heap[w0.heap.size]? = some (.cells (c.vals A cap) 24 (0, 0))
  bo : W.heap[w0.heap.size + 1]? = some (.cells #[v] 26 (0, 0))
  bv : W.heap[w0.heap.size + 2]? = some (.cells #[.int .i64 r] 3 (0, 0))
  bk : W.heap[b3]? = some (.cells #[.pointer (some ⟨kb, 0, none⟩)] 81 (0, 0))
  kc : W.heap[kb]? = some (.cells #[.int .i64 c.cells, .int .i64 c.params, .slice A c.body.length cap, .int .i64 c.labels, .map (some mb)] 101 (0, 0))
  m : MapOf.Is encI W mb M
  row : (Kd.int .i64).R 3 W base (fun _ => True) v cs
  lt : w0.heap.size + 3 ≤ base
section
variable {w0 W W1 : World} {c : Cod} {A : Option Addr} {cap b3 kb mb base : Nat} {M : List (Int × Int)} {v : Value} {cs cs1 : List Int} {r : Int}
theorem Xs.below (h : Xs w0 W c A cap b3 kb mb base M v cs r) (hb : Below W.heap.size W W1) : Xs w0 W1 c A cap b3 kb mb base M v cs r :=
  ⟨h.bel.trans (hb.mono h.bel.size), blk_below h.box hb, blk_below h.bo hb, blk_below h.bv hb, blk_below h.bk hb, blk_below h.kc hb, h.m.below hb, Kd.R_below h.row hb, h.lt⟩
theorem Xs.own (h : Xs w0 W c A cap b3 kb mb base M v cs r) : ∀ k, some k = v.ownBlock → base ≤ k := fun k hk => Kd.R_base h.row k hk.symm
theorem Xs.pl (h : Xs w0 W c A cap b3 kb mb base M v cs r) : Pl W kb mb base M v cs := ⟨blk_cell h.kc 4, h.m, h.row⟩
/-- another row of cells has been laid in place of the elder -/
theorem Xs.put (h : Xs w0 W c A cap b3 kb mb base M v cs r) (hr : (Kd.int .i64).R 3 W1 base (fun _ => True) v cs1) (hc : Ch W W1 (fun k => some k = v.ownBlock)) : Xs w0 W1 c A cap b3 kb mb base M v cs1 r := by
  have ho := h.own
  have hk : ∀ {i : Nat} {cells : Array Value} {t : TypeId}, W.heap[i]? = some (.cells cells t (0, 0)) → ¬ some i = v.ownBlock → W1.heap[i]? = some (.cells cells t (0, 0)) := fun {i cells t} hb hn => (hc.block i (blk_lt hb) hn).trans hb
  have hlow : ∀ i, i < base → ¬ some i = v.ownBlock := fun i hi e => by have := ho i e; omega
  have hl := h.lt
  refine ⟨⟨hc.os.trans h.bel.os, hc.tape.trans h.bel.tape, hc.output.trans h.bel.output, Nat.le_trans h.bel.size hc.size, fun i hi => (hc.block i (Nat.lt_of_lt_of_le hi h.bel.size) (hlow i (by omega))).trans (h.bel.block i hi)⟩,
    hk h.box (hlow _ (by omega)), hk h.bo (hlow _ (by omega)), hk h.bv (hlow _ (by omega)), hk h.bk (Kd.R_ne h.row h.bk (by decide)), hk h.kc (Kd.R_ne h.row h.kc (by decide)), h.m.same (hc.block mb h.m.lt ?_), hr, h.lt⟩
  intro e
  rcases Nat.eq_zero_or_pos cs.length with h0 | h0
  · obtain ⟨_, _, hcl⟩ := h.m
    obtain ⟨cells, hcc⟩ := own_typed (Kd.R_own h.row).choose_spec mb e.symm
    exact h.m.ne_cells hcc rfl
  · obtain ⟨cells, hcc⟩ := own_typed (Kd.R_own h.row).choose_spec mb e.symm
    exact h.m.ne_cells hcc rfl
/-- the value has been laid -/
theorem Xs.val (h : Xs w0 W c A cap b3 kb mb base M v cs r) (u : Int) : Xs w0 (W.setCell ⟨w0.heap.size + 2, 0, none⟩ (.int .i64 u)) c A cap b3 kb mb base M v cs u := by
  have hl := h.lt
  refine ⟨h.bel.setCell (by simp) _, blk_far h.box (by simp) _, blk_far h.bo (by simp) _, by simpa using blk_set h.bv 0 (.int .i64 u), blk_far h.bk (fun e => ?_) _, blk_far h.kc (fun e => ?_) _, h.m.far (fun e => ?_) _, Kd.R_mono (Kd.R_far (Kd.R_bound h.row) (fun k hk => by have := hk.2.1; show k ≠ w0.heap.size + 2; omega) _) (fun _ _ => trivial), h.lt⟩
  · have h1 := h.bk
    rw [e, h.bv] at h1; cases h1
  · have h1 := h.kc
    rw [e, h.bv] at h1; cases h1
  · exact h.m.ne_cells h.bv e
end
theorem ch_set {a b : World} {S : Nat → Prop} (h : Ch a b S) (p : Addr) (u : Value) (hp : S p.block) : Ch a (b.setCell p u) S :=
  ⟨h.os, h.tape, h.output, by simpa using h.size, fun i hi hn => (Below.heap_setCell b p u i (fun e => hn (e ▸ hp))).trans (h.block i hi hn)⟩
/-- what the function literal leaves -/
def ExOut (w0 W : World) (c : Cod) (A : Option Addr) (cap b3 kb mb base : Nat) (M : List (Int × Int)) (v : Value) (R : List Int × Int × Int) (e : Ending) (W1 : World) : Prop :=
  (e = .returned (.tuple #[]) ∧ R.2.2 = 0 ∨ e = .panicked (trapOf R.2.2)) ∧ Xs w0 W1 c A cap b3 kb mb base M v R.1 R.2.1 ∧ Ch W W1 (fun k => k = w0.heap.size + 2 ∨ some k = v.ownBlock)
set_option maxHeartbeats 8000000 in
set_option maxRecDepth 100000 in
theorem lit_calls {w0 W : World} {c : Cod} {A : Option Addr} {cap b3 kb mb base : Nat} {M : List (Int × Int)} {v : Value} {cs : List Int} (H : Xs w0 W c A cap b3 kb mb base M v cs 0) (hcode : CodeAt w0 c A cap)
    (hM : Pos M) (hg : ∀ i : Nat, i < c.body.length → Good (atIr c.body i) cs.length) (hc : CanL cs) :
    Calls Try.prog 62 #[.pointer (some ⟨w0.heap.size, 0, none⟩), .pointer (some ⟨w0.heap.size + 1, 0, none⟩), .pointer (some ⟨w0.heap.size + 2, 0, none⟩), .pointer (some ⟨b3, 0, none⟩)] W (ExOut w0 W c A cap b3 kb mb base M v (runS c.body M 10000 0 cs)) := by
  have HP := Aside0.mk (And.intro H (And.intro (Ch.refl W (fun k => k = w0.heap.size + 2 ∨ some k = v.ownBlock)) hc))
  have HG := Aside0.mk hg
  have HCODE := Aside0.mk hcode
  have HPOS := Aside0.mk hM
  have hsm := hcode.small
  have HLEN := Aside0.mk (show cs.length = cs.length from rfl)
  obtain ⟨N, hN⟩ : ∃ N, cs.length = N := ⟨_, rfl⟩
  obtain ⟨R, hR⟩ : ∃ R, runS c.body M 10000 0 cs = R := ⟨_, rfl⟩
  have HR0 := Aside0.mk hR
  have HN0 := Aside0.mk hN
  rw [hN] at HG
  rw [hR]
  clear H hc hg hcode hM hR hN HLEN
  go_enter Try.func62, Try.ntmps62
  go_wp2_with fail
  go_loopw [4, 5] (fun av nv wr => ∃ (a : Nat) (k f : Nat) (ds : List Int), av = .int .i64 a ∧ nv = .int .i64 k ∧ k + f = 10000 ∧ Aside0 (ds.length = N ∧ runS c.body M f a ds = R) ∧ Aside0 (Xs w0 wr c A cap b3 kb mb base M v ds 0 ∧ Ch W wr (fun k => k = w0.heap.size + 2 ∨ some k = v.ownBlock) ∧ CanL ds)) (fun _ nv _ => 10001 - (intOf nv).toNat)
  case atStart => exact ⟨0, 0, 10000, cs, rfl, rfl, rfl, ⟨HN0.out, HR0.out⟩, HP⟩
  case round =>
    obtain ⟨a, k, f, ds, rfl, rfl, hf, HR, HQ⟩ := hrel
    clear HP HR0 HN0
    have hb2 := blk_cell HQ.out.1.box 2
    by_cases hlt : a < c.body.length
    · rcases Nat.eq_zero_or_pos f with h0 | hpos
      · subst h0
        have hhi : decide ((k : Int) < 10000) = false := decide_eq_false (by omega)
        have HRE := Aside0.mk (show (ds, (0 : Int), (7 : Int)) = R from by have h := HR.out.2; unfold runS at h; rw [if_pos (by omega)] at h; exact h)
        go_wp2_with fail
        refine (must_no 7 _).mono ?_
        rintro e w1 ⟨rfl, rfl⟩
        refine ⟨rfl, ?_⟩
        rw [← HRE.out]
        exact ⟨.inr rfl, HQ.out.1, HQ.out.2.1⟩
      · obtain ⟨f, rfl⟩ : ∃ g, f = g + 1 := ⟨f - 1, by omega⟩
        obtain ⟨ad, e, hx0, hx1, hx2, hx3, hx4, hx5, hx6⟩ := at_ir (Kd.C_below HCODE.out.row HQ.out.1.bel) a hlt
        subst e
        have hlo : decide ((k : Int) < 10000) = true := decide_eq_true (by omega)
        go_wp2_with fail
        refine (must_yes 7 _).mono ?_
        rintro e w1 ⟨rfl, rfl⟩
        have HGX := Aside0.mk (HG.out a hlt)
        have HRX := Aside0.mk (show (if (atIr c.body a).op = 15 then (ds, if 0 ≤ (atIr c.body a).a then rd ds (atIr c.body a).a else 0, 0) else if (atIr c.body a).op = 16 then (ds, 0, (atIr c.body a).n) else match plainS M (atIr c.body a) ds ((a : Int) + 1) with | .error t => (ds, 0, t) | .ok r => runS c.body M f r.1 r.2) = R from by have h := HR.out.2; unfold runS at h; rw [if_pos (by omega), Int.toNat_natCast] at h; exact h)
        by_cases h15 : (atIr c.body a).op = 15
        · rw [if_pos h15] at HRX
          have hop : ((atIr c.body a).op == 15) = true := by simpa using h15
          rw [h15] at hx0
          by_cases ha : 0 ≤ (atIr c.body a).a
          · have hab : decide (0 ≤ (atIr c.body a).a) = true := decide_eq_true ha
            have hal : (atIr c.body a).a < ds.length := by rw [HR.out.1]; exact HGX.out.ret h15 ha
            rw [if_pos ha] at HRX
            have hbo := blk_cell HQ.out.1.bo 0
            have hbv := blk_cell HQ.out.1.bv 0
            have hfv := blk_frozen HQ.out.1.bv 0
            obtain ⟨g, cap', e, hgb, hgl, cells, hcl⟩ := Kd.R_form HQ.out.1.row (by omega)
            subst e
            clear hcl
            obtain ⟨qa, za⟩ := Kd.R_cell (0 : Int) HQ.out.1.row _ ha hal
            replace qa : World.cell? _ ⟨g, (atIr c.body a).a.toNat, none⟩ = some (.int .i64 (rd ds (atIr c.body a).a)) := qa
            have hbo2 := fun o => cell_al hbo o
            have hbv2 := fun o => cell_al hbv o
            have hfv2 := fun o => froz_al hbv hfv o
            have qa2 := fun o => cell_al qa o
            clear h15 hop hbo hbv hfv qa
            go_wp2_with fail
            refine bodyPost_ret (results_none rfl _ _ _) rfl ?_
            rw [← HRX.out]
            have hch := HQ.out.2.1.then_below (below_alloc (Below.refl _ _) (.cells #[.int .i64 15, .int .i64 (atIr c.body a).dst, .int .i64 (atIr c.body a).a, .int .i64 (atIr c.body a).b, .int .i64 (atIr c.body a).c, .int .i64 (atIr c.body a).n, .int .i64 (atIr c.body a).m] 38))
            exact ⟨.inl ⟨rfl, rfl⟩, (HQ.out.1.below (below_alloc (Below.refl _ _) _)).val _, ch_set hch ⟨w0.heap.size + 2, 0, none⟩ _ (.inl rfl)⟩
          · have hab : decide (0 ≤ (atIr c.body a).a) = false := decide_eq_false ha
            rw [if_neg ha] at HRX
            clear h15 ha hop
            go_wp2_with fail
            refine bodyPost_ret (results_none rfl _ _ _) rfl ?_
            rw [← HRX.out]
            exact ⟨.inl ⟨rfl, rfl⟩, HQ.out.1.below (below_alloc (Below.refl _ _) _), HQ.out.2.1.then_below (below_alloc (Below.refl _ _) _)⟩
        · rw [if_neg h15] at HRX
          have hop : ((atIr c.body a).op == 15) = false := by simpa using h15
          by_cases h16 : (atIr c.body a).op = 16
          · rw [if_pos h16] at HRX
            rw [h16] at hx0
            clear h15 h16 hop
            go_wp2_with fail
            refine (must_no _ _).mono ?_
            rintro e w1 ⟨rfl, rfl⟩
            refine ⟨rfl, ?_⟩
            rw [← HRX.out]
            exact ⟨.inr rfl, HQ.out.1.below (below_alloc (Below.refl _ _) _), HQ.out.2.1.then_below (below_alloc (Below.refl _ _) _)⟩
          · rw [if_neg h16] at HRX
            have hop2 : ((atIr c.body a).op == 16) = false := by simpa using h16
            have hbo := fun o => cell_al (blk_cell HQ.out.1.bo 0) o
            have hbk := fun o => cell_al (blk_cell HQ.out.1.bk 0) o
            clear h15 h16
            go_wp2_with fail
            have HQ1 := Aside0.mk (HQ.out.1.below (below_alloc (Below.refl _ _) (.cells (atIr c.body a).vals 38)))
            have HC1 := Aside0.mk (HQ.out.2.1.then_below (below_alloc (Below.refl _ _) (.cells (atIr c.body a).vals 38)))
            have HGX2 := Aside0.mk (show Good (atIr c.body a) ds.length by rw [HR.out.1]; exact HGX.out)
            have HPC := Aside0.mk (plain_calls kb mb base M v ds (atIr c.body a) ((a : Int) + 1) _ HQ1.out.pl HGX2.out HQ.out.2.2)
            clear hx0 hx1 hx2 hx3 hx4 hx5 hx6 hbo hbk hb2 hop hop2
            cases hps : plainS M (atIr c.body a) ds ((a : Int) + 1) with
            | error t =>
              rw [hps] at HPC HRX
              refine HPC.out.mono ?_
              rintro e w2 ⟨rfl, hb⟩
              refine ⟨rfl, ?_⟩
              rw [← HRX.out]
              exact ⟨.inr rfl, HQ1.out.below hb, HC1.out.then_below hb⟩
            | ok r =>
              have hpg := plain_good HPOS.out HGX2.out HQ.out.2.2 (by omega) hps
              rw [hps] at HPC HRX
              obtain ⟨r1, r2⟩ := r
              obtain ⟨a', rfl⟩ : ∃ a' : Nat, r1 = (a' : Int) := ⟨r1.toNat, by have := hpg.1; omega⟩
              have HPG := Aside0.mk hpg
              clear hps hpg
              refine HPC.out.mono ?_
              rintro e w2 ⟨rfl, hr, hch⟩
              have HQ2 := Aside0.mk (And.intro (HQ1.out.put hr hch) (HC1.out.trans hch (fun j hj => .inl (.inr hj))))
              clear hr hch
              go_wp2_with fail
              go_roundw
              case rel => exact ⟨a', k + 1, f, r2, rfl, by go_num, by omega, ⟨HPG.out.2.1.trans HR.out.1, HRX.out⟩, ⟨HQ2.out.1, HQ2.out.2, HPG.out.2.2⟩⟩
              case measure => simp [intOf]; omega
    · have HRE := Aside0.mk (show (ds, (0 : Int), (0 : Int)) = R from by
        have h := HR.out.2
        cases f with
        | zero => unfold runS at h; rw [if_neg (by omega)] at h; exact h
        | succ f => unfold runS at h; rw [if_neg (by omega)] at h; exact h)
      go_wp2_with fail
      go_end0
      rw [← HRE.out]
      exact ⟨.inl ⟨rfl, rfl⟩, HQ.out.1, HQ.out.2.1⟩
end Go.Proofs.Ytdcmeefeinppnaa.Rsem
