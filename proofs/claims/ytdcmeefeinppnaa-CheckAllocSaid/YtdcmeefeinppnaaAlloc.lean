/- alloc.Alloc: the place of each cell. -/
import Derived.Test.YtdcmeefeinppnaaPlace
import Derived.Maps.OwnIn
import Derived.Laws.EntriesVeiled
namespace Go.Proofs.Ytdcmeefeinppnaa.Live
open Go.RowKit Go.Shelf Go.Proofs.YtdcmeefeinppnaaW.PrintWords Go.Proofs.YtdcmeefeinppnaaW.PrintLast Go.Proofs.YtdcmeefeinppnaaW.PrintMore Go.Proofs.Ytdcmeefeinppnaa.Mem Go.Proofs.Ytdcmeefeinppnaa.Ir
open MapOf (get put)
set_option linter.unusedVariables false
set_option linter.unusedSimpArgs false
attribute [local go_sem] Oper.semAt_some

def allocL (c : Cod) (ah af : List Int) (nn : Nat) : List Int := alL (nn := nn) (meetM c ah af nn) (crossS c af c.body.length) (memF (namedN c c.body.length) nn nn)
def AllocOut (w : World) (l : List Int) (er : Int) (e : Ending) (w' : World) : Prop := ∃ v, e = .returned (.tuple #[v, .int .i64 er]) ∧ (Kd.int .i64).R 3 w' w.heap.size (fun _ => True) v l ∧ Below w.heap.size w w'
theorem R_ints {W : World} {base g : Nat} {xs : List Int} (h : W.heap[g]? = some (.cells (ints xs) 3 (0, 0))) (hb : base ≤ g) (hn : xs.length ≤ 90000) : (Kd.int .i64).R 3 W base (fun _ => True) (.slice (some ⟨g, 0, none⟩) xs.length xs.length) xs := by
  refine ⟨fun _ _ => trivial, xs.map (Value.int .i64), ⟨by rw [List.length_map]; exact (Nat.mul_one _).symm, .inr ⟨g, xs.length, _, rfl, hb, h, Nat.le_refl _, by simp only [maxLen]; omega, by show (ints xs).size = xs.length * 1; simp, ?_⟩⟩, ?_⟩
  · show ((ints xs).toList).take (xs.length * 1) = _
    rw [Nat.mul_one]
    simp only [List.toList_toArray]
    exact List.take_of_length_le (by simp)
  · exact Kd.reps_scalar xs
/-- before the places are made -/
structure Av (w V : World) (c : Cod) (A : Option Addr) (cap bm gm : Nat) (ms : List Int) : Prop where
  f : Rf w V c A cap
  vm : V.heap[bm]? = some (.cells #[.slice (some ⟨gm, 0, none⟩) ms.length ms.length] 26 (0, 0))
  vg : V.heap[gm]? = some (.cells (ints ms) 3 (0, 0))
theorem Av.below {w V W : World} {c : Cod} {A : Option Addr} {cap bm gm : Nat} {ms : List Int} (h : Av w V c A cap bm gm ms) (hb : Below V.heap.size V W) : Av w W c A cap bm gm ms := ⟨h.f.below hb, blk_below h.vm hb, blk_below h.vg hb⟩

def fillN (nn k : Nat) : List Int := List.replicate k (-1) ++ List.replicate (nn - k) 0
theorem fillN_len {nn k : Nat} (h : k ≤ nn) : (fillN nn k).length = nn := by simp [fillN]; omega
theorem fillN_set {nn k : Nat} (h : k < nn) : (fillN nn k).set k (-1) = fillN nn (k + 1) := by
  unfold fillN
  rw [List.set_append_right _ _ (by simp), List.length_replicate, Nat.sub_self]
  obtain ⟨m, hm⟩ : ∃ m, nn - k = m + 1 := ⟨nn - k - 1, by omega⟩
  rw [hm, List.replicate_succ, List.set_cons_zero, List.replicate_succ', show nn - (k + 1) = m by omega]
  simp
theorem fillN_all (nn : Nat) : fillN nn nn = List.replicate nn (-1) := by simp [fillN]
/-- the world in which the places are made, V, and behind it -/
structure Al (w V W : World) (c : Cod) (A : Option Addr) (cap bm gm bcr bcl bo g nn : Nat) (ms : List Int) (cr : Int) (out : List Int) : Prop where
  av : Av w V c A cap bm gm ms
  vcr : V.heap[bcr]? = some (.cells #[.int .i64 cr] 3 (0, 0))
  vcl : V.heap[bcl]? = some (.cells #[.func (.func 74) #[] #[.pointer (some ⟨bm, 0, none⟩)]] 74 (0, 0))
  vo : V.heap[bo]? = some (.cells #[.slice (some ⟨g, 0, none⟩) nn nn] 26 (0, 0))
  ch : Ch V W (fun k => k = g)
  row : W.heap[g]? = some (.cells (ints out) 3 (0, 0))
  len : out.length = nn
  wg : w.heap.size < g
  gV : g < V.heap.size
  n1 : bm < g ∧ gm < g ∧ bcr < g ∧ bcl < g ∧ g < bo
section
variable {w V W W1 : World} {c : Cod} {A : Option Addr} {cap bm gm bcr bcl bo g nn : Nat} {ms : List Int} {cr : Int} {out out1 : List Int}
theorem Al.same (h : Al w V W c A cap bm gm bcr bcl bo g nn ms cr out) {k : Nat} {o : Obj} (hk : V.heap[k]? = some o) (hn : k ≠ g) : W.heap[k]? = some o := (h.ch.block k (blk_lt hk) hn).trans hk
theorem Al.cm (h : Al w V W c A cap bm gm bcr bcl bo g nn ms cr out) : W.heap[bm]? = some (.cells #[.slice (some ⟨gm, 0, none⟩) ms.length ms.length] 26 (0, 0)) := h.same h.av.vm (by have := h.n1; omega)
theorem Al.cg (h : Al w V W c A cap bm gm bcr bcl bo g nn ms cr out) : W.heap[gm]? = some (.cells (ints ms) 3 (0, 0)) := h.same h.av.vg (by have := h.n1; omega)
theorem Al.ccr (h : Al w V W c A cap bm gm bcr bcl bo g nn ms cr out) : W.heap[bcr]? = some (.cells #[.int .i64 cr] 3 (0, 0)) := h.same h.vcr (by have := h.n1; omega)
theorem Al.ccl (h : Al w V W c A cap bm gm bcr bcl bo g nn ms cr out) : W.heap[bcl]? = some (.cells #[.func (.func 74) #[] #[.pointer (some ⟨bm, 0, none⟩)]] 74 (0, 0)) := h.same h.vcl (by have := h.n1; omega)
theorem Al.co (h : Al w V W c A cap bm gm bcr bcl bo g nn ms cr out) : W.heap[bo]? = some (.cells #[.slice (some ⟨g, 0, none⟩) nn nn] 26 (0, 0)) := h.same h.vo (by have := h.n1; omega)
theorem Al.cc (h : Al w V W c A cap bm gm bcr bcl bo g nn ms cr out) : W.heap[w.heap.size]? = some (.cells (c.vals A cap) 24 (0, 0)) := h.same h.av.f.box (by have := h.wg; omega)
theorem Al.put (h : Al w V W c A cap bm gm bcr bcl bo g nn ms cr out) (j : Nat) (u : Int) : Al w V (W.setCell ⟨g, j, none⟩ (.int .i64 u)) c A cap bm gm bcr bcl bo g nn ms cr (out.set j u) :=
  ⟨h.av, h.vcr, h.vcl, h.vo, ch_set h.ch (p := ⟨g, j, none⟩) (.inl rfl) _, row_set h.row j u, by rw [List.length_set]; exact h.len, h.wg, h.gV, h.n1⟩
theorem Al.below (h : Al w V W c A cap bm gm bcr bcl bo g nn ms cr out) (hb : Below W.heap.size W W1) : Al w V W1 c A cap bm gm bcr bcl bo g nn ms cr out := ⟨h.av, h.vcr, h.vcl, h.vo, h.ch.then_below hb, blk_below h.row hb, h.len, h.wg, h.gV, h.n1⟩
theorem Al.bel (h : Al w V W c A cap bm gm bcr bcl bo g nn ms cr out) : Below w.heap.size w W := h.av.f.bel.trans (by
  have hc := h.ch
  exact ⟨hc.os, hc.tape, hc.output, hc.size, fun i hi => hc.block i (Nat.lt_of_lt_of_le hi h.av.f.bel.size) (fun e => by have := h.wg; omega)⟩)
end
theorem Al.grown {w V W W1 : World} {c : Cod} {A : Option Addr} {cap bm gm bcr bcl bo g nn : Nat} {ms : List Int} {cr : Int} {out : List Int} (h : Al w V W c A cap bm gm bcr bcl bo g nn ms cr out) {row : Option Nat} (hg : W.grownBy W1 row) (hr : ∀ k, row = some k → V.heap.size ≤ k) : Al w V W1 c A cap bm gm bcr bcl bo g nn ms cr out :=
  ⟨h.av, h.vcr, h.vcl, h.vo, h.ch.grown hg (fun k e => .inr (hr k e)), blk_grown h.row hg (fun e => by have := hr _ e.symm; have := h.gV; omega), h.len, h.wg, h.gV, h.n1⟩
theorem freeF_yes {M : List (Int × Bool)} {f : Nat} {p : Int} (h : (get M p).getD false = true) : freeF M (f + 1) p = freeF M f (p + 1) := if_pos h
theorem freeF_no {M : List (Int × Bool)} {f : Nat} {p : Int} (h : (get M p).getD false = false) : freeF M (f + 1) p = p := if_neg (by rw [h]; simp)
/-- a round's end: one place is laid -/
theorem al_end {w V W W1 : World} {c : Cod} {A : Option Addr} {cap bm gm bcr bcl bo g nn b2 N : Nat} {ms : List Int} {cr : Int} {o o1 : List Int} {j : Nat} {u : Int} (h : Al w V W c A cap bm gm bcr bcl bo g nn ms cr o) (hb : Below W.heap.size W W1)
    (hn : Al w V (W1.setCell ⟨g, j, none⟩ (.int .i64 u)) c A cap bm gm bcr bcl bo g nn ms cr o1) (hv : V.heap.size ≤ b2) (hN : N = b2 + 1 + 1) (hW : N ≤ W.heap.size) :
    KeepsFrom N W (W1.setCell ⟨g, j, none⟩ (.int .i64 u)) ∧ KpB (b2 + 1) b2 W (W1.setCell ⟨g, j, none⟩ (.int .i64 u)) ∧ Al w V (W1.setCell ⟨g, j, none⟩ (.int .i64 u)) c A cap bm gm bcr bcl bo g nn ms cr o1 ∧ N ≤ (W1.setCell ⟨g, j, none⟩ (.int .i64 u)).heap.size := by
  have hgV := h.gV
  refine ⟨⟨by rw [World.size_setCell]; exact hb.size, fun k ob hk hko hc => ?_⟩, ⟨?_, ?_⟩, hn, by rw [World.size_setCell]; exact Nat.le_trans hW hb.size⟩
  · rw [Below.heap_setCell W1 ⟨g, j, none⟩ _ k (by simp; omega)]
    exact blk_below hko hb
  · exact World.cell?_of_block ((Below.heap_setCell W1 ⟨g, j, none⟩ _ (b2 + 1) (by simp; omega)).trans (hb.block (b2 + 1) (by omega)))
  · exact World.cell?_of_block ((Below.heap_setCell W1 ⟨g, j, none⟩ _ b2 (by simp; omega)).trans (hb.block b2 (by omega)))
set_option maxHeartbeats 8000000 in
set_option maxRecDepth 100000 in
theorem alloc_yes (n : Nat) (hn : 4 ≤ n) (c : Cod) (A : Option Addr) (cap : Nat) (w : World) (hC : CodeAt w c A cap) {ah af : List Int} (hS : SetsIs c ah af 0) (hf : fits c = true) (hl : LiveIs c ah af) (nn : Nat) (hcn : c.cells = (nn : Int)) :
    CallsIn Fence.wide n Try.prog 26 #[.agg (c.vals A cap)] w (AllocOut w (allocL c ah af nn) 0) := by
  have h1 : 1 ≤ n := by omega
  have HP := Aside0.mk (Rf.init hC)
  have hs := hC.small
  have hh := fits_head hf
  have HF := Aside0.mk hf
  have HL := Aside0.mk hl
  have HCN := Aside0.mk hcn
  have hnn : nn ≤ 60 := by omega
  have HCR := Aside0.mk (fun w (hC : CodeAt w c A cap) => cross_calls c A cap w hC hS (.inl ⟨rfl, hf, hl⟩))
  have HNM := Aside0.mk (fun w (hC : CodeAt w c A cap) => named_calls c A cap w hC)
  have HCL := Aside0.mk (fun w (hC : CodeAt w c A cap) => clashes_calls c A cap w hC hS hf hl nn hcn)
  unfold CrossOut at HCR
  unfold NamedOut at HNM
  rw [hf] at HCR HNM
  simp only [if_true] at HCR HNM
  clear hC hf hl hcn hh hS
  refine callsIn_of_wp_marks Try.func26 rfl trivial ?_ rfl
  simp only [Try.ntmps26, List.size_toArray, List.length_cons, List.length_nil, Nat.reduceAdd, Nat.reduceSub, Array.replicate_succ, Array.replicate_zero, List.push_toArray, List.append_toArray, List.nil_append, List.cons_append]
  gi_wp2
  refine ⟨trivial, ?_⟩
  refine (callsIn_wide.2 (HCR.out _ HP.out.code)).mono ?_
  rintro e w1 ⟨rfl, hb⟩
  have HQ := Aside0.mk (HP.out.below hb)
  have HX := Aside0.mk (blk_new w1 (.cells #[.int .i64 (crossS c af c.body.length)] 3))
  have HQ1 := Aside0.mk (HQ.out.below ((Below.refl _ _).alloc (Nat.le_refl _) (.cells #[.int .i64 (crossS c af c.body.length)] 3)))
  have hq0 := blk_cell HQ1.out.box 0
  have hq1 := blk_cell HQ1.out.box 1
  have hq2 := blk_cell HQ1.out.box 2
  have hq3 := blk_cell HQ1.out.box 3
  have hw1 : w.heap.size < w1.heap.size := blk_lt HQ.out.box
  obtain ⟨cr, hcr⟩ : ∃ cr, crossS c af c.body.length = cr := ⟨_, rfl⟩
  rw [hcr] at hq0 hq1 hq2 hq3 HX HQ1 ⊢
  clear hb HP HCR HQ
  gi_wp2
  refine ⟨trivial, ?_⟩
  refine (callsIn_wide.2 (HNM.out _ HQ1.out.code)).mono ?_
  rintro e w2 ⟨rfl, hb⟩
  have HQ2 := Aside0.mk (HQ1.out.below hb)
  have HX2 := Aside0.mk (blk_below HX.out hb)
  clear hq0 hq1 hq2 hq3 hb HQ1 HX HNM
  have hq0 := blk_cell HQ2.out.box 0
  have hq1 := blk_cell HQ2.out.box 1
  have hq2 := blk_cell HQ2.out.box 2
  have hq3 := blk_cell HQ2.out.box 3
  gi_wp2
  refine ⟨trivial, ?_⟩
  refine (callsIn_wide.2 (HCL.out _ HQ2.out.code)).mono ?_
  rintro e w3 ⟨bm, gm, rfl, hvm, hvg, hbm, hgm, hb⟩
  have HQ3 := Aside0.mk (show Av w w3 c A cap bm gm (meetM c ah af nn) from ⟨HQ2.out.below hb, hvm, hvg⟩)
  have HX3 := Aside0.mk (blk_below HX2.out hb)
  have hlm := blk_lt hvm
  have hlg := blk_lt hvg
  clear hq0 hq1 hq2 hq3 hb HQ2 HX2 HCL hvm hvg
  obtain ⟨ms, hms⟩ : ∃ ms, meetM c ah af nn = ms := ⟨_, rfl⟩
  rw [hms] at HQ3
  have HMS := Aside0.mk hms
  clear hms
  have hmk := make_ints nn (by omega)
  have hlx := blk_lt HX3.out
  have hz1 := blk_cell (blk_new w3 (.cells #[.nilFunc] 74)) 0
  have hz2 := blk_frozen (blk_new w3 (.cells #[.nilFunc] 74)) 0
  have hq0 : (w3.alloc (.cells #[.func (.func 74) #[] #[.pointer (some ⟨bm, 0, none⟩)]] 74)).cell? ⟨w.heap.size, 0, none⟩ = some (.int .i64 (nn : Int)) := by
    rw [blk_cell (blk_alloc HQ3.out.f.box _) 0, ← HCN.out]; rfl
  have HA : Aside0 (Al w (((w3.alloc (.cells #[.func (.func 74) #[] #[.pointer (some ⟨bm, 0, none⟩)]] 74)).alloc (.cells (Array.replicate nn (.int .i64 0)) 3)).alloc (.cells #[.slice (some ⟨w3.heap.size + 1, 0, none⟩) nn nn] 26)) (((w3.alloc (.cells #[.func (.func 74) #[] #[.pointer (some ⟨bm, 0, none⟩)]] 74)).alloc (.cells (Array.replicate nn (.int .i64 0)) 3)).alloc (.cells #[.slice (some ⟨w3.heap.size + 1, 0, none⟩) nn nn] 26)) c A cap bm gm w1.heap.size w3.heap.size (w3.heap.size + 1 + 1) (w3.heap.size + 1) nn ms cr (fillN nn 0)) := by
    have g0 := blk_new w3 (.cells #[.func (.func 74) #[] #[.pointer (some ⟨bm, 0, none⟩)]] 74)
    have g1 := blk_new (w3.alloc (.cells #[.func (.func 74) #[] #[.pointer (some ⟨bm, 0, none⟩)]] 74)) (.cells (Array.replicate nn (.int .i64 0)) 3)
    have g2 := blk_new ((w3.alloc (.cells #[.func (.func 74) #[] #[.pointer (some ⟨bm, 0, none⟩)]] 74)).alloc (.cells (Array.replicate nn (.int .i64 0)) 3)) (.cells #[.slice (some ⟨w3.heap.size + 1, 0, none⟩) nn nn] 26)
    simp only [World.size_alloc] at g1 g2
    have g3 : (ints (fillN nn 0)) = Array.replicate nn (.int .i64 0) := by rw [← zeros_map]; unfold fillN; simp only [List.replicate_zero, List.nil_append, Nat.sub_zero]
    refine ⟨HQ3.out.below (((Below.refl _ _).alloc (Nat.le_refl _) _).alloc (by simp) _ |>.alloc (by simp; omega) _), blk_alloc (blk_alloc (blk_alloc HX3.out _) _) _, blk_alloc (blk_alloc g0 _) _, g2, Ch.refl _ _, by rw [g3]; exact blk_alloc g1 _, fillN_len (Nat.zero_le _), ?_, by simp, ?_⟩
    · have := blk_lt HQ3.out.f.box; omega
    · omega
  gi_wp2
  clear hz1 hz2 hmk hq0
  have hl3 : w3.heap.size < (((w3.alloc (.cells #[.func (.func 74) #[] #[.pointer (some ⟨bm, 0, none⟩)]] 74)).alloc (.cells (Array.replicate nn (.int .i64 0)) 3)).alloc (.cells #[.slice (some ⟨w3.heap.size + 1, 0, none⟩) nn nn] 26)).heap.size := by simp; omega
  obtain ⟨V, hV⟩ : ∃ V, (((w3.alloc (.cells #[.func (.func 74) #[] #[.pointer (some ⟨bm, 0, none⟩)]] 74)).alloc (.cells (Array.replicate nn (.int .i64 0)) 3)).alloc (.cells #[.slice (some ⟨w3.heap.size + 1, 0, none⟩) nn nn] 26)) = V := ⟨_, rfl⟩
  rw [hV] at HA ⊢
  obtain ⟨bcl, hbcl⟩ : ∃ bcl, w3.heap.size = bcl := ⟨_, rfl⟩
  obtain ⟨bcr, hbcr⟩ : ∃ bcr, w1.heap.size = bcr := ⟨_, rfl⟩
  obtain ⟨g, hg⟩ : ∃ g, bcl + 1 = g := ⟨_, rfl⟩
  obtain ⟨bo, hbo⟩ : ∃ bo, g + 1 = bo := ⟨_, rfl⟩
  rw [hbcl, hbcr, hg, hbo] at HA
  rw [hbcl, hbcr, hg, hbo]
  clear hV hl3 hbcl hbcr hg hbo hlx hlm hlg hbm hgm hw1 HX3 HQ3
  gi_loopw [10, 35] (fun _ jv wr => ∃ k : Nat, k ≤ nn ∧ jv = .int .i64 k ∧ Aside0 (Al w V wr c A cap bm gm bcr bcl bo g nn ms cr (fillN nn k))) (fun _ jv _ => nn - (intOf jv).toNat)
  case atStart => exact ⟨0, Nat.zero_le _, rfl, HA⟩
  case round =>
    obtain ⟨k, hk, rfl, HA1⟩ := hrel
    clear HA
    by_cases hlt : k < nn
    · have hc1 := blk_cell HA1.out.co 0
      have hc2 := row_cell HA1.out.row (j := k) (by rw [HA1.out.len]; exact hlt)
      have hf2 := blk_frozen HA1.out.row k
      have HA2 : Aside0 (Al w V (wr.setCell ⟨g, k, none⟩ (.int .i64 (-1))) c A cap bm gm bcr bcl bo g nn ms cr (fillN nn (k + 1))) := ⟨by have h := HA1.out.put k (-1); rwa [fillN_set hlt] at h⟩
      have hx1 : (k : Int) < (nn : Int) := by omega
      gi_wp2
      go_roundw
      case rel => exact ⟨k + 1, by omega, by go_num, HA2⟩
      case measure => simp [intOf]; omega
    · have hke : k = nn := by omega
      have HA2 : Aside0 (Al w V wr c A cap bm gm bcr bcl bo g nn ms cr (alL (nn := nn) ms cr [])) := by rw [hke, fillN_all] at HA1; exact HA1
      have hq0 : wr.cell? ⟨w.heap.size, 0, none⟩ = some (.int .i64 (nn : Int)) := by rw [blk_cell HA1.out.cc 0, ← HCN.out]; rfl
      clear HA1 hke
      gi_wp2
      refine ⟨trivial, ?_⟩
      refine (cells_in Fence.wide (n - 1) trivial rfl _ _ _).mono ?_
      rintro e w' ⟨rfl, rfl⟩
      gi_wp2
      clear hq0
      have hsz : ((wr.alloc (.cells #[.int .i64 (namedN c c.body.length)] 3)).alloc (.cells #[.int .i64 (nn : Int)] 3)).heap.size = wr.heap.size + 1 + 1 := by simp
      have hb2 := blk_alloc (blk_new wr (.cells #[.int .i64 (namedN c c.body.length)] 3)) (.cells #[.int .i64 (nn : Int)] 3)
      have hb1 := blk_new (wr.alloc (.cells #[.int .i64 (namedN c c.body.length)] 3)) (.cells #[.int .i64 (nn : Int)] 3)
      simp only [World.size_alloc] at hb1
      have HA3 := Aside0.mk ((HA2.out.below ((Below.refl _ _).alloc (Nat.le_refl _) (.cells #[.int .i64 (namedN c c.body.length)] 3))).below ((Below.refl _ _).alloc (Nat.le_refl _) (.cells #[.int .i64 (nn : Int)] 3)))
      have hvw : V.heap.size ≤ wr.heap.size := HA2.out.ch.size
      obtain ⟨W2, hW2⟩ : ∃ W2, ((wr.alloc (.cells #[.int .i64 (namedN c c.body.length)] 3)).alloc (.cells #[.int .i64 (nn : Int)] 3)) = W2 := ⟨_, rfl⟩
      rw [hW2] at hsz hb1 hb2 HA3 ⊢
      clear hW2 HA2
      obtain ⟨b2, hb2e⟩ : ∃ b2, wr.heap.size = b2 := ⟨_, rfl⟩
      rw [hb2e] at hsz hb1 hb2 hvw ⊢
      clear hb2e
      have hI : OwnFrom W2.heap.size (fun (pre : List (Fin nn)) W => Al w V W c A cap bm gm bcr bcl bo g nn ms cr (alL ms cr pre) ∧ W2.heap.size ≤ W.heap.size) := fun s A B row hs hg hr => ⟨hs.1.grown hg (fun k e => by have := (hr k e).1; omega), Nat.le_trans hs.2 hg.size⟩
      refine wpIn_rangeFunc_ownG rfl h1 (gf := 75) (lb := #[.pointer (some ⟨b2 + 1, 0, none⟩), .pointer (some ⟨b2, 0, none⟩)]) rfl trivial (enters_of Try.func75 (by kernel_rfl) rfl)
        (cells_stops Fence.wide (n - 1) trivial rfl (by omega) (b2 + 1) b2 nn (namedN c c.body.length) hnn W2 (by omega) (by omega) (blk_cell hb1 0) (blk_cell hb2 0)) (fun h k => KpB.trans h k) (kpB_b (by omega) (by omega)) (Below.refl _ _) (fun _ => rfl)
        (fun pre W => Al w V W c A cap bm gm bcr bcl bo g nn ms cr (alL ms cr pre) ∧ W2.heap.size ≤ W.heap.size)
        (fun _ _ _ => False) hI (fun _ _ _ _ _ hs _ _ => hs) ⟨HA3.out, Nat.le_refl _⟩
        (fun x => { tmps := #[.agg (c.vals A cap), .pointer (some ⟨w.heap.size, 0, none⟩), .slice none 0 0, .int .i64 0, .pointer (some ⟨bcr, 0, none⟩), .int .i64 0, .int .i64 (namedN c c.body.length), .int .i64 0, .pointer (some ⟨bcl, 0, none⟩), .pointer (some ⟨bo, 0, none⟩), u10, .int .i64 (x.val : Int), undef, undef, undef, .tuple #[.int .i64 cr, .int .i64 0], .agg #[.int .i64 c.cells, .int .i64 c.params, .slice A c.body.length cap, .int .i64 c.labels], .tuple #[.int .i64 cr, .int .i64 0], .int .i64 cr, .int .i64 0, .int .i64 0, .bool false, undef, .tuple #[.int .i64 (namedN c c.body.length), .int .i64 0], .agg #[.int .i64 c.cells, .int .i64 c.params, .slice A c.body.length cap, .int .i64 c.labels], .tuple #[.int .i64 (namedN c c.body.length), .int .i64 0], .int .i64 (namedN c c.body.length), .int .i64 0, .agg #[.int .i64 c.cells, .int .i64 c.params, .slice A c.body.length cap, .int .i64 c.labels], .func (.func 74) #[] #[.pointer (some ⟨bm, 0, none⟩)], .pointer (some ⟨w.heap.size, 0, none⟩), .int .i64 (nn : Int), .slice (some ⟨g, 0, none⟩) nn nn, .slice (some ⟨g, 0, none⟩) nn nn, .int .i64 (nn : Int), .int .i64 (k : Int), .bool false, u37, u38, u39, u40, u41, .int .i64 (namedN c c.body.length), .pointer (some ⟨w.heap.size, 0, none⟩), .int .i64 (nn : Int), .func (.func 75) #[] #[.pointer (some ⟨b2 + 1, 0, none⟩), .pointer (some ⟨b2, 0, none⟩)], .int .i64 (x.val : Int), undef, undef, undef, undef, undef, undef, undef, undef, undef, undef, undef, undef, undef, undef, undef, undef, undef, undef, undef, undef, undef, undef, undef, undef, undef, undef, undef, undef, undef, undef], defers := [] }) ?assign ?body ?done ?stop
      case assign =>
        intro l x W K hK
        gi_wp2
        exact hK
      case body =>
        intro l pre x W HW _
        have HI := Aside0.mk HW.1
        have hWs := HW.2
        have hsn := Aside0.mk (alL_snoc ms cr pre x)
        have hxn : x.val < nn := x.isLt
        obtain ⟨xv, hxv⟩ : ∃ xv, x.val = xv := ⟨_, rfl⟩
        rw [hxv] at hsn hxn ⊢
        have hbd := alL_bd ms cr pre
        obtain ⟨o, ho⟩ : ∃ o, alL ms cr pre = o := ⟨_, rfl⟩
        rw [ho] at hsn hbd HI
        have hol := HI.out.len
        clear HW ho hxv
        have hmm := @run_makeMap Try.prog
        gi_wp2
        clear hmm
        have HMP := Aside0.mk (MapOf.Is.made Value.bool W)
        have HB0 := Aside0.mk ((Below.refl W.heap.size W).alloc (Nat.le_refl _) (.map #[] 0))
        gi_loopw [13, 49] (fun _ jv wq => ∃ i : Nat, i ≤ xv ∧ jv = .int .i64 i ∧ Aside0 (MapOf.Is Value.bool wq W.heap.size (tkM ms o (xv : Int) i) ∧ Below W.heap.size W wq)) (fun _ jv _ => xv - (intOf jv).toNat)
        case atStart => exact ⟨0, Nat.zero_le _, rfl, HMP.out, HB0.out⟩
        case round =>
          obtain ⟨i, hi, rfl, HQ⟩ := hrel
          clear HMP HB0
          have HI2 := Aside0.mk (HI.out.below HQ.out.2)
          by_cases hix : i < xv
          · have hc1 := blk_cell HI2.out.ccl 0
            have hin : (i : Int) < (ms.length : Int) := by rw [← HMS.out]; unfold meetM; rw [pM_len c ah nn (dM_len c af nn _)]; omega
            cases hcl : clM ms (i : Int) (xv : Int) with
            | true =>
              have HTK := Aside0.mk (show tkM ms o (xv : Int) (i + 1) = put (tkM ms o (xv : Int) i) (rd o (i : Int)) true from if_pos hcl)
              have HCLL := Aside0.mk hcl
              clear hcl
              have hc2 := blk_cell HI2.out.co 0
              have hc3 := row_cell HI2.out.row (j := i) (by rw [hol]; omega)
              have hx1 : (i : Int) < (nn : Int) := by omega
              gi_wp2
              refine ⟨trivial, ?_⟩
              refine ⟨fun _ => by omega, ?_⟩
              refine (CallsIn.inRound l (clash2_in Fence.wide _ trivial rfl ms bm gm (i : Int) (xv : Int) _ HI2.out.cm HI2.out.cg (by omega) hin (by omega) (by omega))).mono ?_
              rw [HCLL.out]
              rintro e w' ⟨rfl, rfl⟩
              gi_wp2_with (gi_at_mapUpdate; refine MapOf.wpIn_update _ rfl _ _ _ 79 rfl 3 4 Try.underlying79 Try.underlying3 W.heap.size _ rfl HQ.out.1 (rd o (i : Int)) true rfl rfl ?_; intro w5 hIs hg5 hsz5; have HQ5 := Aside0.mk (And.intro hIs (HQ.out.2.grown hg5 HQ.out.2.size (fun k e => by cases e; exact Nat.le_refl _))); clear hIs hg5 hsz5)
              go_roundw
              case rel => exact ⟨i + 1, by omega, by go_num, by rw [HTK.out]; exact HQ5⟩
              case measure => simp [intOf]; omega
            | false =>
              have HTK := Aside0.mk (show tkM ms o (xv : Int) (i + 1) = tkM ms o (xv : Int) i from if_neg (by rw [hcl]; simp))
              have HCLL := Aside0.mk hcl
              clear hcl
              gi_wp2
              refine ⟨trivial, ?_⟩
              refine ⟨fun _ => by omega, ?_⟩
              refine (CallsIn.inRound l (clash2_in Fence.wide _ trivial rfl ms bm gm (i : Int) (xv : Int) _ HI2.out.cm HI2.out.cg (by omega) hin (by omega) (by omega))).mono ?_
              rw [HCLL.out]
              rintro e w' ⟨rfl, rfl⟩
              gi_wp2
              go_roundw
              case rel => exact ⟨i + 1, by omega, by go_num, by rw [HTK.out]; exact HQ⟩
              case measure => simp [intOf]; omega
          · have hie : i = xv := by omega
            subst hie
            clear hix hi
            have hc1 := blk_cell HI2.out.ccr 0
            obtain ⟨R, hRr⟩ : ∃ R, freeF (tkM ms o (i : Int) i) 100 (if inB cr (i : Int) = true then 6 else 0) = R := ⟨_, rfl⟩
            have hR0 := Aside0.mk hRr
            cases hbt : inB cr (i : Int) with
            | true =>
              have hbit : (Go.bits .and .i64 (cr / 2 ^ i) 1 != 0) = true := by have h := hbt; unfold inB at h; rwa [Int.toNat_natCast] at h
              have HR := Aside0.mk (show freeF (tkM ms o (i : Int) i) 100 ((6 : Nat) : Int) = R by rw [← hRr, if_pos hbt]; rfl)
              have h60 : (i : Int) ≤ 60 := by omega
              clear hRr hbt
              gi_wp2
              gi_loopw [14] (fun pv wq => ∃ (p f : Nat), pv = .int .i64 p ∧ p ≤ 6 + i ∧ 100 ≤ f + p ∧ freeF (tkM ms o (i : Int) i) f (p : Int) = R ∧ Aside0 (MapOf.Is Value.bool wq W.heap.size (tkM ms o (i : Int) i) ∧ Below W.heap.size W wq)) (fun pv _ => 100 - (intOf pv).toNat)
              case atStart => exact ⟨6, 100, rfl, by omega, by omega, HR.out, HQ⟩
              case round =>
                obtain ⟨p, f, rfl, hp, hfp, hR, HQ2⟩ := hrel
                obtain ⟨f', rfl⟩ : ∃ f', f = f' + 1 := ⟨f - 1, by omega⟩
                have hz : (zeroValue 4).run Try.prog wr = .ok (.bool false) wr := by kernel_rfl
                cases ht : (get (tkM ms o (i : Int) i) (p : Int)).getD false with
                | true =>
                  have hp2 : p ≤ 5 + i := by
                    obtain ⟨j, h1, _, h3⟩ := (tkM_get i).1 ht
                    have := hbd j (by rw [hol]; omega)
                    omega
                  have HR2 := Aside0.mk (show freeF (tkM ms o (i : Int) i) f' ((p : Int) + 1) = R from by rw [← freeF_yes ht]; exact hR)
                  have HT := Aside0.mk ht
                  clear ht hR
                  gi_wp2_with (gi_at_lookup; refine MapOf.wpIn_look _ rfl _ _ 79 rfl 3 4 Try.underlying79 Try.underlying3 false hz W.heap.size _ rfl HQ2.out.1 (p : Int) rfl true HT.out ?_)
                  go_roundw
                  case rel => exact ⟨p + 1, f', by go_num, by omega, by omega, by simpa using HR2.out, HQ2⟩
                  case measure => simp [intOf]; omega
                | false =>
                  have HR2 := Aside0.mk (show (p : Int) = R from by rw [← freeF_no (f := f') ht]; exact hR)
                  have HT := Aside0.mk ht
                  have HI3 := Aside0.mk (HI.out.below HQ2.out.2)
                  have hd1 := blk_cell HI3.out.co 0
                  have hd2 := row_cell HI3.out.row (j := i) (by rw [hol]; omega)
                  have hd3 := blk_frozen HI3.out.row i
                  have hx1 : (i : Int) < (nn : Int) := by omega
                  have HN : Aside0 (Al w V (wr.setCell ⟨g, i, none⟩ (.int .i64 (p : Int))) c A cap bm gm bcr bcl bo g nn ms cr (alL ms cr (pre ++ [x]))) := ⟨by rw [hsn.out]; unfold putAt placeOf; rw [hR0.out, ← HR2.out]; exact HI3.out.put i _⟩
                  clear ht hR
                  gi_wp2_with (gi_at_lookup; refine MapOf.wpIn_look _ rfl _ _ 79 rfl 3 4 Try.underlying79 Try.underlying3 false hz W.heap.size _ rfl HQ2.out.1 (p : Int) rfl false HT.out ?_)
                  exact al_end HI.out HQ2.out.2 HN.out hvw hsz hWs
            | false =>
              have hbit : (Go.bits .and .i64 (cr / 2 ^ i) 1 != 0) = false := by have h := hbt; unfold inB at h; rwa [Int.toNat_natCast] at h
              have HR := Aside0.mk (show freeF (tkM ms o (i : Int) i) 100 ((0 : Nat) : Int) = R by rw [← hRr, if_neg (by rw [hbt]; simp)]; rfl)
              have h60 : (i : Int) ≤ 60 := by omega
              clear hRr hbt
              gi_wp2
              gi_loopw [14] (fun pv wq => ∃ (p f : Nat), pv = .int .i64 p ∧ p ≤ 6 + i ∧ 100 ≤ f + p ∧ freeF (tkM ms o (i : Int) i) f (p : Int) = R ∧ Aside0 (MapOf.Is Value.bool wq W.heap.size (tkM ms o (i : Int) i) ∧ Below W.heap.size W wq)) (fun pv _ => 100 - (intOf pv).toNat)
              case atStart => exact ⟨0, 100, rfl, by omega, by omega, HR.out, HQ⟩
              case round =>
                obtain ⟨p, f, rfl, hp, hfp, hR, HQ2⟩ := hrel
                obtain ⟨f', rfl⟩ : ∃ f', f = f' + 1 := ⟨f - 1, by omega⟩
                have hz : (zeroValue 4).run Try.prog wr = .ok (.bool false) wr := by kernel_rfl
                cases ht : (get (tkM ms o (i : Int) i) (p : Int)).getD false with
                | true =>
                  have hp2 : p ≤ 5 + i := by
                    obtain ⟨j, h1, _, h3⟩ := (tkM_get i).1 ht
                    have := hbd j (by rw [hol]; omega)
                    omega
                  have HR2 := Aside0.mk (show freeF (tkM ms o (i : Int) i) f' ((p : Int) + 1) = R from by rw [← freeF_yes ht]; exact hR)
                  have HT := Aside0.mk ht
                  clear ht hR
                  gi_wp2_with (gi_at_lookup; refine MapOf.wpIn_look _ rfl _ _ 79 rfl 3 4 Try.underlying79 Try.underlying3 false hz W.heap.size _ rfl HQ2.out.1 (p : Int) rfl true HT.out ?_)
                  go_roundw
                  case rel => exact ⟨p + 1, f', by go_num, by omega, by omega, by simpa using HR2.out, HQ2⟩
                  case measure => simp [intOf]; omega
                | false =>
                  have HR2 := Aside0.mk (show (p : Int) = R from by rw [← freeF_no (f := f') ht]; exact hR)
                  have HT := Aside0.mk ht
                  have HI3 := Aside0.mk (HI.out.below HQ2.out.2)
                  have hd1 := blk_cell HI3.out.co 0
                  have hd2 := row_cell HI3.out.row (j := i) (by rw [hol]; omega)
                  have hd3 := blk_frozen HI3.out.row i
                  have hx1 : (i : Int) < (nn : Int) := by omega
                  have HN : Aside0 (Al w V (wr.setCell ⟨g, i, none⟩ (.int .i64 (p : Int))) c A cap bm gm bcr bcl bo g nn ms cr (alL ms cr (pre ++ [x]))) := ⟨by rw [hsn.out]; unfold putAt placeOf; rw [hR0.out, ← HR2.out]; exact HI3.out.put i _⟩
                  clear ht hR
                  gi_wp2_with (gi_at_lookup; refine MapOf.wpIn_look _ rfl _ _ 79 rfl 3 4 Try.underlying79 Try.underlying3 false hz W.heap.size _ rfl HQ2.out.1 (p : Int) rfl false HT.out ?_)
                  exact al_end HI.out HQ2.out.2 HN.out hvw hsz hWs
      case done =>
        rintro D ys W hD rfl hIW hK
        have hI2 := hI.putObj (.deferred none) hIW hD hK rfl
        have ho1 := blk_cell hIW.1.co 0
        gi_wp2
        refine ⟨by simp, .inl ⟨_, _, rfl, run_takeDeferred hK, ?_⟩⟩
        have hRR := R_ints (base := w.heap.size) hI2.1.row (by have := hI2.1.wg; omega) (by rw [hI2.1.len]; omega)
        rw [hI2.1.len] at hRR
        refine ⟨.tuple #[.slice (some ⟨g, 0, none⟩) nn nn, .int .i64 0], by simp [results, Try.results26, go_sem], _, rfl, ?_, hI2.1.bel⟩
        unfold allocL
        rw [hcr, HMS.out]
        exact hRR
      case stop =>
        rintro D c pre W _ _ h _
        exact h.elim
end Go.Proofs.Ytdcmeefeinppnaa.Live
