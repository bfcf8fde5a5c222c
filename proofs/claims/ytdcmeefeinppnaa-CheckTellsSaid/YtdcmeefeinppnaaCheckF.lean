/- check.Exec: code carried out over places that are right. -/
import Derived.Test.YtdcmeefeinppnaaCheckE
namespace Go.Proofs.Ytdcmeefeinppnaa.Check
open Go.RowKit Go.Proofs.YtdcmeefeinppnaaW.PrintWords Go.Proofs.YtdcmeefeinppnaaW.PrintLast Go.Proofs.YtdcmeefeinppnaaW.PrintMore Go.Proofs.Ytdcmeefeinppnaa.Mem Go.Proofs.Ytdcmeefeinppnaa.Ir Go.Proofs.Ytdcmeefeinppnaa.Live Go.Proofs.Ytdcmeefeinppnaa.Rsem
open MapOf (get put)
open Uses (uses uses_calls infoInt)
set_option linter.unusedVariables false
set_option linter.unusedSimpArgs false
/-! ### places that are right -/
theorem infoIr : (Try.prog.info? 38).map (fun i => (i.zero, i.size, i.bytes)) = some (some (.agg zIr.vals), 7, 56) := by kernel_rfl
theorem row_addr {w : World} {B : Option Addr} {l : List Int} (h : (Kd.int .i64).C w B l.length l) (hp : 0 < l.length) : ∃ b o, B = some ⟨b, o, none⟩ ∧ b < w.heap.size ∧ ∀ i : Int, 0 ≤ i → i < l.length → w.cell? ⟨b, o + i.toNat, none⟩ = some (.int .i64 (rd l i)) := by
  obtain ⟨ad, e, hx⟩ := Kd.at_int h 0 (by omega) (by omega)
  have h0 : w.cell? ad = some (.int .i64 (rd l 0)) := hx
  have hsp := cell_spot h0
  obtain ⟨b, o, s⟩ := ad
  obtain rfl : s = none := by injection hsp
  refine ⟨b, o, e, World.block_lt_of_cell? _ _ h0, fun i hi0 hi => ?_⟩
  obtain ⟨ad2, e2, hx2⟩ := Kd.at_int h i hi0 hi
  rw [e] at e2
  injection e2 with e2
  subst e2
  have e3 : (Addr.mk b o none).add i.toNat = ⟨b, o + i.toNat, none⟩ := by
    unfold Addr.add
    split
    · rename_i h; rw [h]; rfl
    · rfl
  rw [e3] at hx2
  exact hx2
/-- the code over places, as it is made -/
structure Ov (w W : World) (c : Cod) (A : Option Addr) (cap bo : Nat) (v : Value) (L : List Ir) : Prop where
  bel : Below w.heap.size w W
  box : W.heap[w.heap.size]? = some (.cells (c.vals A cap) 24 (0, 0))
  ov : W.heap[bo]? = some (.cells #[.int .i64 66, .int .i64 c.params, v, .int .i64 c.labels] 24 (0, 0))
  row : kIr.R 38 W (bo + 1) (fun _ => True) v L
  lt : w.heap.size < bo
section
variable {w W W1 : World} {c : Cod} {A : Option Addr} {cap bo : Nat} {v v1 : Value} {L L1 : List Ir}
theorem Ov.below (h : Ov w W c A cap bo v L) (hb : Below W.heap.size W W1) : Ov w W1 c A cap bo v L :=
  ⟨h.bel.trans (hb.mono h.bel.size), blk_below h.box hb, blk_below h.ov hb, Kd.R_below h.row hb, h.lt⟩
theorem Ov.push (h : Ov w W c A cap bo v L) (hg : W.grownBy W1 v.ownBlock) (hr : kIr.R 38 W1 (bo + 1) (fun _ => True) v1 L1) : Ov w (W1.setCell ⟨bo, 2, none⟩ v1) c A cap bo v1 L1 := by
  have hb : ∀ k, v.ownBlock = some k → bo + 1 ≤ k := fun k hk => Kd.R_base h.row k hk
  have hl := h.lt
  refine ⟨(h.bel.grown hg h.bel.size (fun k hk => by have := hb k hk; omega)).setCell (by show w.heap.size ≤ bo; omega) _, blk_far (blk_grown h.box hg (fun e => by have := hb _ e.symm; omega)) (by show w.heap.size ≠ bo; omega) _, ?_, ?_, hl⟩
  · have := blk_set (blk_grown h.ov hg (fun e => by have := hb _ e.symm; omega)) 2 v1
    simpa using this
  · exact Kd.R_mono (Kd.R_far (p := ⟨bo, 2, none⟩) (Kd.R_bound hr) (fun k hk => by have := hk.2.1; show k ≠ bo; omega) v1) (fun _ _ => trivial)
theorem ov_init {w w2 : World} (hb : Below w.heap.size w w2) (hx : w2.heap[w.heap.size]? = some (.cells (c.vals A cap) 24 (0, 0))) : Ov w (w2.alloc (.cells #[.int .i64 66, .int .i64 c.params, .slice none 0 0, .int .i64 c.labels] 24)) c A cap w2.heap.size (.slice none 0 0) [] :=
  ⟨hb.trans ((below_alloc (Below.refl _ _) _).mono hb.size), blk_alloc hx _, blk_new _ _, Kd.R_nil _ _ _ _ _, blk_lt hx⟩
end
theorem ir_M {W : World} {base : Nat} {okp : Nat → Prop} (x : Ir) : kIr.M W base okp x x.vals.toList :=
  ⟨[.int .i64 x.op], _, rfl, rfl, [.int .i64 x.dst], _, rfl, rfl, [.int .i64 x.a], _, rfl, rfl, [.int .i64 x.b], _, rfl, rfl, [.int .i64 x.c], _, rfl, rfl, [.int .i64 x.n], [.int .i64 x.m], rfl, rfl, rfl⟩
theorem take_succ {L : List Ir} {k : Nat} (h : k < L.length) (g : Int → Int) : (L.take (k + 1)).map (ren g) = (L.take k).map (ren g) ++ [ren g (atIr L k)] := by
  rw [List.take_succ_eq_append_getElem h, List.map_append]
  unfold atIr
  rw [List.getD_eq_getElem?_getD, List.getElem?_eq_getElem h]
  rfl
theorem uses_pos {op a b c : Int} (h : Uses.raw op a b c ≠ []) : 0 < (uses op a b c).length := by
  cases hr : Uses.raw op a b c with
  | nil => exact absurd hr h
  | cons k t =>
    have : k ∈ uses op a b c := uses_mem (by rw [hr]; simp)
    exact List.length_pos_of_mem this
theorem uses_nil {op a b c : Int} (h : Uses.raw op a b c = []) : uses op a b c = [] := by
  unfold uses
  rw [h, show Uses.sorted [] = [] from by simp [Uses.sorted]]
  rfl

abbrev intsC (ms : List Int) : Array Value := (ms.map (Value.int .i64)).toArray
theorem R_intsC {W : World} {base g : Nat} {xs : List Int} (h : W.heap[g]? = some (.cells (intsC xs) 3 (0, 0))) (hb : base ≤ g) (hn : xs.length ≤ 90000) : (Kd.int .i64).R 3 W base (fun _ => True) (.slice (some ⟨g, 0, none⟩) xs.length xs.length) xs := by
  refine ⟨fun _ _ => trivial, xs.map (Value.int .i64), ⟨by rw [List.length_map]; exact (Nat.mul_one _).symm, .inr ⟨g, xs.length, _, rfl, hb, h, Nat.le_refl _, by simp only [maxLen]; omega, by show (intsC xs).size = xs.length * 1; simp, ?_⟩⟩, ?_⟩
  · show ((intsC xs).toList).take (xs.length * 1) = _
    rw [Nat.mul_one]
    simp only [List.toList_toArray]
    exact List.take_of_length_le (by simp)
  · exact Kd.reps_scalar xs
/-- the places, beside the code over them -/
structure Ps (w W : World) (c : Cod) (A : Option Addr) (cap bo : Nat) (v : Value) (L : List Ir) (g : Nat) (q : List Int) : Prop where
  o : Ov w W c A cap bo v L
  row : (Kd.int .i64).R 3 W (bo + 1) (fun _ => True) (.slice (some ⟨g, 0, none⟩) 66 66) q
  len : q.length = 66
  gt : bo < g
section
variable {w W W1 : World} {c : Cod} {A : Option Addr} {cap bo g : Nat} {v : Value} {L : List Ir} {q : List Int}
theorem Ps.below (h : Ps w W c A cap bo v L g q) (hb : Below W.heap.size W W1) : Ps w W1 c A cap bo v L g q := ⟨h.o.below hb, Kd.R_below h.row hb, h.len, h.gt⟩
theorem Ps.cell (h : Ps w W c A cap bo v L g q) (i : Int) (h0 : 0 ≤ i) (h1 : i < 66) : W.cell? ⟨g, i.toNat, none⟩ = some (.int .i64 (rd q i)) ∧ W.frozen? ⟨g, i.toNat, none⟩ = false :=
  Kd.R_celln (0 : Int) h.row i h0 h1
theorem Ps.put (h : Ps w W c A cap bo v L g q) (i u : Int) : Ps w (W.setCell ⟨g, i.toNat, none⟩ (.int .i64 u)) c A cap bo v L g (setI q i u) := by
  obtain ⟨cells, hc⟩ := own_typed (Kd.R_own h.row).choose_spec g rfl
  have hl := h.o.lt
  have hg := h.gt
  refine ⟨⟨h.o.bel.setCell (by show w.heap.size ≤ g; omega) _, blk_far h.o.box (by show w.heap.size ≠ g; omega) _, blk_far h.o.ov (by show bo ≠ g; omega) _, Kd.R_set h.o.row hc (by decide) _ _, hl⟩, Kd.R_putn h.row i u, by rw [setI_len]; exact h.len, hg⟩
theorem ps_init (h : Ov w W c A cap bo v L) : Ps w (W.alloc (.cells (Array.replicate 66 (.int .i64 0)) 3)) c A cap bo v L W.heap.size (List.replicate 66 0) := by
  have hb := blk_lt h.ov
  refine ⟨h.below (below_alloc (Below.refl _ _) _), ?_, by simp, hb⟩
  have h1 := R_intsC (W := W.alloc (.cells (Array.replicate 66 (.int .i64 0)) 3)) (base := bo + 1) (g := W.heap.size) (xs := List.replicate 66 0) (by
    have h2 := blk_new W (.cells (Array.replicate 66 (.int .i64 0)) 3)
    rw [show intsC (List.replicate 66 0) = Array.replicate 66 (.int .i64 0) from zeros_map 66]
    exact h2) (by omega) (by simp)
  simpa using h1
end
def fillP : Nat → List Int
  | 0 => List.replicate 66 0
  | k + 1 => setI (fillP k) (k : Int) 77
theorem fillP_all : fillP 66 = List.replicate 66 77 := by kernel_rfl
theorem exec_over {w W : World} {c : Cod} {A : Option Addr} {cap bo g n6 c6 : Nat} {A6 : Option Addr} {l ps : List Int} (H : Ps w W c A cap bo (.slice A6 n6 c6) (c.body.map (ren (fun j => rd l j))) g (places0 l ps)) (hsm : c.body.length ≤ 90000) (hcan : CanL (places0 l ps)) (hlit : ∀ i : Nat, i < c.body.length → Live.Can (atIr c.body i).n) (hof : fitsR (overC c l) 66 = true) :
    Calls Try.prog 35 #[.agg #[.int .i64 66, .int .i64 c.params, .slice A6 n6 c6, .int .i64 c.labels], .slice (some ⟨g, 0, none⟩) 66 66] W fun e w' => ∃ (a : Option Addr) (n k : Nat), e = .returned (.tuple #[.slice a n k, .int .i64 (execS (overC c l) (places0 l ps)).2.1, .int .i64 (execS (overC c l) (places0 l ps)).2.2, .int .i64 0]) ∧ Below W.heap.size W w' := by
  obtain ⟨hn, hcap, hC⟩ := Kd.R_reads' H.o.row
  obtain ⟨hn2, _, hC2⟩ := Kd.R_reads' H.row
  have hl := places0_len l ps
  subst hn
  have h := exec_calls (overC c l) A6 c6 (some ⟨g, 0, none⟩) 66 (places0 l ps) W ⟨hC, hcap, by show (c.body.map (ren (fun j => rd l j))).length ≤ 90000; rw [List.length_map]; exact hsm⟩ hC2 (by rw [hl]; decide) hcan (fun i hi => by
    show Live.Can (atIr (c.body.map (ren (fun j => rd l j))) i).n
    rw [atIr_map]
    exact hlit i (by have h3 : i < (c.body.map (ren (fun j => rd l j))).length := hi; rw [List.length_map] at h3; exact h3))
  rw [hl] at h
  refine h.mono fun e w' hx => ?_
  obtain ⟨v, he, hR, hb⟩ := exec_fits hx (by rw [hl]; exact hof)
  obtain ⟨a, k, rfl⟩ := Kd.R_slice hR
  exact ⟨_, _, _, he, hb⟩
set_option maxHeartbeats 16000000 in
set_option maxRecDepth 100000 in
theorem check_yes (c : Cod) (A : Option Addr) (cap : Nat) (l : List Int) (B : Option Addr) (capB : Nat) (ps : List Int) (D : Option Addr) (capD : Nat) (w : World) (hC : CodeAt w c A cap) (hlit : ∀ i : Nat, i < c.body.length → Live.Can (atIr c.body i).n) (hB : (Kd.int .i64).C w B l.length l) (hcapB : l.length ≤ capB) (hD : (Kd.int .i64).C w D ps.length ps) (hpc : CanL ps) {ah af : List Int} (hS : SetsIs c ah af 0) (hL : LiveIs c ah af) (hr : rightB c ah af l = true) (hp : (ps.length : Int) = c.params) (hR : fitsR c c.cells = true) :
    Calls Try.prog 37 #[.agg (c.vals A cap), .slice B l.length capB, .slice D ps.length capD] w (ExOut2 w ((execS (overC c l) (places0 l ps)).2.1, (execS (overC c l) (places0 l ps)).2.2, 0)) := by
  have HP := Aside0.mk (Rf.init hC)
  have HRI := Aside0.mk (right_is hr)
  have HLIT := Aside0.mk hlit
  have HC := Aside0.mk hC
  have HRB := Aside0.mk hB
  have HRD := Aside0.mk hD
  have HPC := Aside0.mk hpc
  have hsm := hC.small
  have HRT := Aside0.mk (fun W hb => right_calls c A cap l B capB W (hC.below hb) (Kd.C_below hB hb) hcapB hS (.inl ⟨rfl, HRI.out.fit, hL⟩))
  rw [hr] at HRT
  have hne : ((ps.length : Int) != c.params) = false := by simpa using hp
  have hh := fits_head HRI.out.fit
  obtain ⟨nn, hnn⟩ : ∃ nn : Nat, c.cells = (nn : Int) := ⟨c.cells.toNat, by omega⟩
  have hn60 : nn ≤ 60 := by omega
  have hl60 : l.length ≤ 60 := by have := HRI.out.len; omega
  have hps60 : ps.length ≤ 60 := by omega
  have HPL := Aside0.mk hp
  have hmk : ∀ W : World, (Instr.makeSlice 26 (.int .i64 c.cells) (.int .i64 c.cells)).run Try.prog W = .ok (.slice (some ⟨W.heap.size, 0, none⟩) nn nn) (W.alloc (.cells (Array.replicate nn (.int .i64 0)) 3)) := by rw [hnn]; exact make_ints nn (by omega)
  have HEX := Aside0.mk (zero_yes c A cap nn (by omega) hC hlit (by rw [← hnn]; exact hR))
  have HR := Aside0.mk hR
  have HOF := Aside0.mk (over_fits HRI.out hR)
  clear hC hB hS hL hr hp hh hlit hR hnn hD hpc
  go_enter Try.func37, Try.ntmps37
  go_wp2_with (go_at_call 39; refine (HRT.out _ HP.out.bel).mono ?_; rintro e w1 ⟨rfl, hb⟩; have H1 := Aside0.mk (HP.out.below hb); have hb0 := blk_cell H1.out.box 0; have hb1 := blk_cell H1.out.box 1; have hb2 := blk_cell H1.out.box 2; have hb3 := blk_cell H1.out.box 3; clear hb HP)
  go_region_held3 (fun w' => w'.cell? ⟨w.heap.size, 0, none⟩ = some (.int .i64 c.cells) ∧ w'.cell? ⟨w.heap.size, 1, none⟩ = some (.int .i64 c.params) ∧ w'.cell? ⟨w.heap.size, 2, none⟩ = some (.slice A c.body.length cap) ∧ w'.cell? ⟨w.heap.size, 3, none⟩ = some (.int .i64 c.labels)) (go_keep)
    (first | (go_at_call 35; refine (HEX.out _ _ (H1.out.bel.trans (((drew_below _).trans ((below_alloc (Below.refl _ _) _).mono (drew_below _).size)).mono H1.out.bel.size)) (blk_new _ _)).mono ?_; rintro e w2 ⟨a0, n0, k0, u0, t0, rfl, hb⟩; have H2 := Aside0.mk (H1.out.below (((drew_below _).trans ((below_alloc (Below.refl _ _) _).mono (drew_below _).size)).trans (hb.mono (by simp)))); have hg0 := blk_cell H2.out.box 0; have hg1 := blk_cell H2.out.box 1; have hg2 := blk_cell H2.out.box 2; have hg3 := blk_cell H2.out.box 3; clear hb))
  clear hb0 hb1 hb2 hb3 hmk H1
  have HO := Aside0.mk (ov_init (c := c) (A := A) (cap := cap) H2.out.bel H2.out.box)
  have hg2' := fun o => cell_al hg2 o
  go_wp2_with fail
  clear hg0 hg1 hg2 hg3 hg2' H2

  go_loopw [51] (fun iv wr => ∃ k : Nat, k ≤ c.body.length ∧ iv = .int .i64 k ∧ Aside0 (∃ v, Ov w wr c A cap w2.heap.size v ((c.body.take k).map (ren (fun j => rd l j))))) (fun iv _ => c.body.length - (intOf iv).toNat)
  case atStart => exact ⟨0, Nat.zero_le _, rfl, ⟨⟨_, HO.out⟩⟩⟩
  case round =>
    obtain ⟨k, hk, rfl, HQ0⟩ := hrel
    clear HO
    by_cases hlt : k < c.body.length
    · obtain ⟨v0, hv0⟩ := HQ0.out
      clear HQ0
      obtain ⟨A0, c0, e0⟩ := Kd.R_slice hv0.row
      subst e0
      have HQ := Aside0.mk hv0
      clear hv0
      obtain ⟨adc, ec, hx0, hx1, hx2, hx3, hx4, hx5, hx6⟩ := at_ir (Kd.C_below HC.out.row HQ.out.bel) k hlt
      subst ec
      have HOK := Aside0.mk (okR_at HR.out hlt)
      have HU := Aside0.mk (fun k hk => HRI.out.use hlt (k := k) hk)
      have HDS := Aside0.mk (fun h0 => HRI.out.dst hlt h0)
      have HDR := Aside0.mk (okR_dst HOK.out)
      have HTS := Aside0.mk (take_succ hlt (fun j => rd l j))
      obtain ⟨x, hx⟩ : ∃ x, atIr c.body k = x := ⟨_, rfl⟩
      rw [hx] at hx0 hx1 hx2 hx3 hx4 hx5 hx6 HOK HU HDS HDR HTS
      clear hx
      obtain ⟨op, dst, a, b, cc, n, m⟩ := x
      have hkinds := kinds_of HOK.out
      have hwl : w.heap.size ≤ wr.heap.size := HQ.out.bel.size
      have hbl : w2.heap.size < wr.heap.size := blk_lt HQ.out.ov
      have hsz : ((c.body.take k).map (ren (fun j => rd l j))).length ≤ 90000 := by rw [List.length_map, List.length_take]; omega
      obtain ⟨L0, hL0⟩ : ∃ L0, (c.body.take k).map (ren (fun j => rd l j)) = L0 := ⟨_, rfl⟩
      rw [hL0] at hsz HQ HTS
      clear hL0
      simp only at hkinds
      rcases hkinds with rfl | rfl | rfl | rfl | rfl | rfl | rfl | rfl | rfl | rfl
      · have hraw : Uses.raw 1 a b cc = [] := by simp [Uses.raw]
        have hus := uses_nil (op := 1) (a := a) (b := b) (c := cc) hraw
        have hD := Aside0.mk (show defs ⟨1, dst, a, b, cc, n, m⟩ = dst from by simp [defs])
        have hd0 : 0 ≤ dst := (HDR.out (by simp)).1
        have hdl : dst < l.length := by have h := HDS.out (by show 0 ≤ defs ⟨1, dst, a, b, cc, n, m⟩; rw [hD.out]; exact hd0); rw [show defs (Ir.mk 1 dst a b cc n m) = dst from hD.out] at h; exact h.1
        obtain ⟨bB, oB, eB, hbB, hcB⟩ := row_addr HRB.out (by omega)
        subst eB
        have hbW : bB < wr.heap.size := by omega
        have HCB := Aside0.mk hcB
        clear hcB
        have HRN := Aside0.mk (show ren (fun j => rd l j) ⟨1, dst, a, b, cc, n, m⟩ = ⟨1, rd l dst, a, b, cc, n, m⟩ from by simp [ren, defs, Uses.raw, hd0])
        obtain ⟨us, hu⟩ : ∃ us, uses 1 a b cc = us := ⟨_, rfl⟩
        rw [hu] at hus
        have HUS := Aside0.mk hu
        subst hus
        clear hu hraw
        go_wp2_with (first
          | (go_at_call 23; refine (uses_calls _ _ _ _ _ _ _ _).mono ?_; rw [HUS.out]; rintro e w3 ⟨v3, rfl, hR, hb⟩; obtain ⟨A3, c3, e3⟩ := Kd.R_slice hR; subst e3; have HB3 := Aside0.mk ((below_alloc (Below.refl wr.heap.size wr) (.cells (Ir.vals ⟨1, dst, a, b, cc, n, m⟩) 38)).trans (hb.mono (by simp))); have hxb := blk_below (blk_new wr (.cells (Ir.vals ⟨1, dst, a, b, cc, n, m⟩) 38)) hb; have HX3 := Aside0.mk hxb; have hy0 := blk_cell hxb 0; have hy1 := blk_cell hxb 1; have hy2 := blk_cell hxb 2; have hy3 := blk_cell hxb 3; have hy4 := blk_cell hxb 4; have hy5 := blk_cell hxb 5; have hy6 := blk_cell hxb 6; clear hR hb hxb)
          | (go_at_call 22; refine (defs_calls' hD.out _).mono ?_; rintro e w4 ⟨rfl, hb⟩; have HB4 := Aside0.mk (HB3.out.trans (hb.mono HB3.out.size)); have hxb := blk_below HX3.out hb; have hz0 := blk_cell hxb 0; have hz1 := blk_cell hxb 1; have hz2 := blk_cell hxb 2; have hz3 := blk_cell hxb 3; have hz4 := blk_cell hxb 4; have hz5 := blk_cell hxb 5; have hz6 := blk_cell hxb 6; have hf1 := blk_frozen hxb 1; have hf2 := blk_frozen hxb 2; have hf3 := blk_frozen hxb 3; have hf4 := blk_frozen hxb 4; have hldst := (HB4.out.cell (p := ⟨bB, oB + dst.toNat, none⟩) hbW).trans ((HQ.out.bel.cell (p := ⟨bB, oB + dst.toNat, none⟩) hbB).trans (HCB.out dst (by omega) (by omega))); have H5 := Aside0.mk (HQ.out.below (show Below wr.heap.size wr (World.setCell w4 ⟨wr.heap.size, 1, none⟩ (.int .i64 (rd l dst))) from (Below.setCell (p := ⟨wr.heap.size, 1, none⟩) HB4.out (Nat.le_refl _) (.int .i64 (rd l dst))))); have HSZW := Aside0.mk (show (World.setCell w4 ⟨wr.heap.size, 1, none⟩ (.int .i64 (rd l dst))).heap.size = w4.heap.size from by simp); have hq0 := blk_cell H5.out.ov 2; have hq1 := blk_frozen H5.out.ov 2; clear hb hxb hy0 hy1 hy2 hy3 hy4 hy5 hy6 hx0 hx1 hx2 hx3 hx4 hx5 hx6)
          | ((with_reducible refine gate_builtin (b := .append) (xs := #[.tmp 94, .tmp 96]) rfl ?_); at_builtin; refine Kd.R_append kIr (w0 := (World.setCell w4 ⟨wr.heap.size, 1, none⟩ (.int .i64 (rd l dst)))) (w2.heap.size + 1) rfl (.tmp 94) (.tmp 96) 22 38 (.agg (zIr.vals)) 56 rfl Try.underlying22 infoIr rfl (by decide) (by omega) (.slice A0 L0.length c0) L0 (Ir.mk (1) (rd l dst) (a) (b) (cc) (n) (m)) [.int .i64 (1), .int .i64 (rd l dst), .int .i64 (a), .int .i64 (b), .int .i64 (cc), .int .i64 (n), .int .i64 (m)] (fun _ => True) (fun _ => False) rfl (by first | rfl | (rw [HSZW.out]; rfl)) (ir_M (Ir.mk (1) (rd l dst) (a) (b) (cc) (n) (m))) (fun _ h => h.elim) (fun _ _ => trivial) H5.out.row (Below.refl _ _) (by have := blk_lt H5.out.ov; omega) (by omega) ?_; intro v6 w6 hO hB hg hat; obtain ⟨A6, c6, e6⟩ := Kd.R_slice hO; subst e6; have H6 := Aside0.mk (H5.out.push hg hO); have hq2 := blk_cell (blk_grown H5.out.ov hg (fun e => by have := Kd.R_base H5.out.row _ e.symm; omega)) 2; have hqf := blk_frozen (blk_grown H5.out.ov hg (fun e => by have := Kd.R_base H5.out.row _ e.symm; omega)) 2; clear hO hB hg hat))
        go_roundw
        case rel => exact ⟨k + 1, by omega, by go_num, ⟨⟨_, by rw [HTS.out, HRN.out]; have h := H6.out; simp only [List.length_append, List.length_singleton] at h; exact h⟩⟩⟩
        case measure => simp [intOf]; omega
      · have hraw : Uses.raw 2 a b cc = [a] := by simp [Uses.raw]
        have hus := uses_pos (op := 2) (a := a) (b := b) (c := cc) (by rw [hraw]; simp)
        have hur : ∀ j, j ∈ [a] → 0 ≤ j ∧ j < l.length ∧ 0 ≤ rd l j ∧ rd l j < 66 := fun j hj => HU.out j (by show j ∈ Uses.raw 2 a b cc; rw [hraw]; exact hj)
        have hD := Aside0.mk (show defs ⟨2, dst, a, b, cc, n, m⟩ = dst from by simp [defs])
        have hd0 : 0 ≤ dst := (HDR.out (by simp)).1
        have hdl : dst < l.length := by have h := HDS.out (by show 0 ≤ defs ⟨2, dst, a, b, cc, n, m⟩; rw [hD.out]; exact hd0); rw [show defs (Ir.mk 2 dst a b cc n m) = dst from hD.out] at h; exact h.1
        have ha0 : 0 ≤ a := (hur a (by simp)).1
        have hal : a < l.length := (hur a (by simp)).2.1
        obtain ⟨bB, oB, eB, hbB, hcB⟩ := row_addr HRB.out (by omega)
        subst eB
        have hbW : bB < wr.heap.size := by omega
        have HCB := Aside0.mk hcB
        clear hcB
        have HRN := Aside0.mk (show ren (fun j => rd l j) ⟨2, dst, a, b, cc, n, m⟩ = ⟨2, rd l dst, rd l a, b, cc, n, m⟩ from by simp [ren, defs, Uses.raw, hd0])
        obtain ⟨us, hu⟩ : ∃ us, uses 2 a b cc = us := ⟨_, rfl⟩
        rw [hu] at hus
        have HUS := Aside0.mk hu
        have husI : (0 : Int) < (us.length : Int) := by omega
        clear hu hraw hur
        go_wp2_with (first
          | (go_at_call 23; refine (uses_calls _ _ _ _ _ _ _ _).mono ?_; rw [HUS.out]; rintro e w3 ⟨v3, rfl, hR, hb⟩; obtain ⟨A3, c3, e3⟩ := Kd.R_slice hR; subst e3; have HB3 := Aside0.mk ((below_alloc (Below.refl wr.heap.size wr) (.cells (Ir.vals ⟨2, dst, a, b, cc, n, m⟩) 38)).trans (hb.mono (by simp))); have hxb := blk_below (blk_new wr (.cells (Ir.vals ⟨2, dst, a, b, cc, n, m⟩) 38)) hb; have HX3 := Aside0.mk hxb; have hy0 := blk_cell hxb 0; have hy1 := blk_cell hxb 1; have hy2 := blk_cell hxb 2; have hy3 := blk_cell hxb 3; have hy4 := blk_cell hxb 4; have hy5 := blk_cell hxb 5; have hy6 := blk_cell hxb 6; clear hR hb hxb)
          | (go_at_call 22; refine (defs_calls' hD.out _).mono ?_; rintro e w4 ⟨rfl, hb⟩; have HB4 := Aside0.mk (HB3.out.trans (hb.mono HB3.out.size)); have hxb := blk_below HX3.out hb; have hz0 := blk_cell hxb 0; have hz1 := blk_cell hxb 1; have hz2 := blk_cell hxb 2; have hz3 := blk_cell hxb 3; have hz4 := blk_cell hxb 4; have hz5 := blk_cell hxb 5; have hz6 := blk_cell hxb 6; have hf1 := blk_frozen hxb 1; have hf2 := blk_frozen hxb 2; have hf3 := blk_frozen hxb 3; have hf4 := blk_frozen hxb 4; have hldst := (HB4.out.cell (p := ⟨bB, oB + dst.toNat, none⟩) hbW).trans ((HQ.out.bel.cell (p := ⟨bB, oB + dst.toNat, none⟩) hbB).trans (HCB.out dst (by omega) (by omega))); have hla := (HB4.out.cell (p := ⟨bB, oB + a.toNat, none⟩) hbW).trans ((HQ.out.bel.cell (p := ⟨bB, oB + a.toNat, none⟩) hbB).trans (HCB.out a (by omega) (by omega))); have H5 := Aside0.mk (HQ.out.below (show Below wr.heap.size wr (World.setCell (World.setCell w4 ⟨wr.heap.size, 1, none⟩ (.int .i64 (rd l dst))) ⟨wr.heap.size, 2, none⟩ (.int .i64 (rd l a))) from (Below.setCell (p := ⟨wr.heap.size, 2, none⟩) (Below.setCell (p := ⟨wr.heap.size, 1, none⟩) HB4.out (Nat.le_refl _) (.int .i64 (rd l dst))) (Nat.le_refl _) (.int .i64 (rd l a))))); have HSZW := Aside0.mk (show (World.setCell (World.setCell w4 ⟨wr.heap.size, 1, none⟩ (.int .i64 (rd l dst))) ⟨wr.heap.size, 2, none⟩ (.int .i64 (rd l a))).heap.size = w4.heap.size from by simp); have hq0 := blk_cell H5.out.ov 2; have hq1 := blk_frozen H5.out.ov 2; clear hb hxb hy0 hy1 hy2 hy3 hy4 hy5 hy6 hx0 hx1 hx2 hx3 hx4 hx5 hx6)
          | ((with_reducible refine gate_builtin (b := .append) (xs := #[.tmp 94, .tmp 96]) rfl ?_); at_builtin; refine Kd.R_append kIr (w0 := (World.setCell (World.setCell w4 ⟨wr.heap.size, 1, none⟩ (.int .i64 (rd l dst))) ⟨wr.heap.size, 2, none⟩ (.int .i64 (rd l a)))) (w2.heap.size + 1) rfl (.tmp 94) (.tmp 96) 22 38 (.agg (zIr.vals)) 56 rfl Try.underlying22 infoIr rfl (by decide) (by omega) (.slice A0 L0.length c0) L0 (Ir.mk (2) (rd l dst) (rd l a) (b) (cc) (n) (m)) [.int .i64 (2), .int .i64 (rd l dst), .int .i64 (rd l a), .int .i64 (b), .int .i64 (cc), .int .i64 (n), .int .i64 (m)] (fun _ => True) (fun _ => False) rfl (by first | rfl | (rw [HSZW.out]; rfl)) (ir_M (Ir.mk (2) (rd l dst) (rd l a) (b) (cc) (n) (m))) (fun _ h => h.elim) (fun _ _ => trivial) H5.out.row (Below.refl _ _) (by have := blk_lt H5.out.ov; omega) (by omega) ?_; intro v6 w6 hO hB hg hat; obtain ⟨A6, c6, e6⟩ := Kd.R_slice hO; subst e6; have H6 := Aside0.mk (H5.out.push hg hO); have hq2 := blk_cell (blk_grown H5.out.ov hg (fun e => by have := Kd.R_base H5.out.row _ e.symm; omega)) 2; have hqf := blk_frozen (blk_grown H5.out.ov hg (fun e => by have := Kd.R_base H5.out.row _ e.symm; omega)) 2; clear hO hB hg hat))
        go_roundw
        case rel => exact ⟨k + 1, by omega, by go_num, ⟨⟨_, by rw [HTS.out, HRN.out]; have h := H6.out; simp only [List.length_append, List.length_singleton] at h; exact h⟩⟩⟩
        case measure => simp [intOf]; omega
      · have hraw : Uses.raw 3 a b cc = [b, a] := by simp [Uses.raw]
        have hus := uses_pos (op := 3) (a := a) (b := b) (c := cc) (by rw [hraw]; simp)
        have hur : ∀ j, j ∈ [b, a] → 0 ≤ j ∧ j < l.length ∧ 0 ≤ rd l j ∧ rd l j < 66 := fun j hj => HU.out j (by show j ∈ Uses.raw 3 a b cc; rw [hraw]; exact hj)
        have hD := Aside0.mk (show defs ⟨3, dst, a, b, cc, n, m⟩ = dst from by simp [defs])
        have hd0 : 0 ≤ dst := (HDR.out (by simp)).1
        have hdl : dst < l.length := by have h := HDS.out (by show 0 ≤ defs ⟨3, dst, a, b, cc, n, m⟩; rw [hD.out]; exact hd0); rw [show defs (Ir.mk 3 dst a b cc n m) = dst from hD.out] at h; exact h.1
        have ha0 : 0 ≤ a := (hur a (by simp)).1
        have hal : a < l.length := (hur a (by simp)).2.1
        have hb0 : 0 ≤ b := (hur b (by simp)).1
        have hbl : b < l.length := (hur b (by simp)).2.1
        obtain ⟨bB, oB, eB, hbB, hcB⟩ := row_addr HRB.out (by omega)
        subst eB
        have hbW : bB < wr.heap.size := by omega
        have HCB := Aside0.mk hcB
        clear hcB
        have HRN := Aside0.mk (show ren (fun j => rd l j) ⟨3, dst, a, b, cc, n, m⟩ = ⟨3, rd l dst, rd l a, rd l b, cc, n, m⟩ from by simp [ren, defs, Uses.raw, hd0])
        obtain ⟨us, hu⟩ : ∃ us, uses 3 a b cc = us := ⟨_, rfl⟩
        rw [hu] at hus
        have HUS := Aside0.mk hu
        have husI : (0 : Int) < (us.length : Int) := by omega
        clear hu hraw hur
        go_wp2_with (first
          | (go_at_call 23; refine (uses_calls _ _ _ _ _ _ _ _).mono ?_; rw [HUS.out]; rintro e w3 ⟨v3, rfl, hR, hb⟩; obtain ⟨A3, c3, e3⟩ := Kd.R_slice hR; subst e3; have HB3 := Aside0.mk ((below_alloc (Below.refl wr.heap.size wr) (.cells (Ir.vals ⟨3, dst, a, b, cc, n, m⟩) 38)).trans (hb.mono (by simp))); have hxb := blk_below (blk_new wr (.cells (Ir.vals ⟨3, dst, a, b, cc, n, m⟩) 38)) hb; have HX3 := Aside0.mk hxb; have hy0 := blk_cell hxb 0; have hy1 := blk_cell hxb 1; have hy2 := blk_cell hxb 2; have hy3 := blk_cell hxb 3; have hy4 := blk_cell hxb 4; have hy5 := blk_cell hxb 5; have hy6 := blk_cell hxb 6; clear hR hb hxb)
          | (go_at_call 22; refine (defs_calls' hD.out _).mono ?_; rintro e w4 ⟨rfl, hb⟩; have HB4 := Aside0.mk (HB3.out.trans (hb.mono HB3.out.size)); have hxb := blk_below HX3.out hb; have hz0 := blk_cell hxb 0; have hz1 := blk_cell hxb 1; have hz2 := blk_cell hxb 2; have hz3 := blk_cell hxb 3; have hz4 := blk_cell hxb 4; have hz5 := blk_cell hxb 5; have hz6 := blk_cell hxb 6; have hf1 := blk_frozen hxb 1; have hf2 := blk_frozen hxb 2; have hf3 := blk_frozen hxb 3; have hf4 := blk_frozen hxb 4; have hldst := (HB4.out.cell (p := ⟨bB, oB + dst.toNat, none⟩) hbW).trans ((HQ.out.bel.cell (p := ⟨bB, oB + dst.toNat, none⟩) hbB).trans (HCB.out dst (by omega) (by omega))); have hla := (HB4.out.cell (p := ⟨bB, oB + a.toNat, none⟩) hbW).trans ((HQ.out.bel.cell (p := ⟨bB, oB + a.toNat, none⟩) hbB).trans (HCB.out a (by omega) (by omega))); have hlb := (HB4.out.cell (p := ⟨bB, oB + b.toNat, none⟩) hbW).trans ((HQ.out.bel.cell (p := ⟨bB, oB + b.toNat, none⟩) hbB).trans (HCB.out b (by omega) (by omega))); have H5 := Aside0.mk (HQ.out.below (show Below wr.heap.size wr (World.setCell (World.setCell (World.setCell w4 ⟨wr.heap.size, 1, none⟩ (.int .i64 (rd l dst))) ⟨wr.heap.size, 3, none⟩ (.int .i64 (rd l b))) ⟨wr.heap.size, 2, none⟩ (.int .i64 (rd l a))) from (Below.setCell (p := ⟨wr.heap.size, 2, none⟩) (Below.setCell (p := ⟨wr.heap.size, 3, none⟩) (Below.setCell (p := ⟨wr.heap.size, 1, none⟩) HB4.out (Nat.le_refl _) (.int .i64 (rd l dst))) (Nat.le_refl _) (.int .i64 (rd l b))) (Nat.le_refl _) (.int .i64 (rd l a))))); have HSZW := Aside0.mk (show (World.setCell (World.setCell (World.setCell w4 ⟨wr.heap.size, 1, none⟩ (.int .i64 (rd l dst))) ⟨wr.heap.size, 3, none⟩ (.int .i64 (rd l b))) ⟨wr.heap.size, 2, none⟩ (.int .i64 (rd l a))).heap.size = w4.heap.size from by simp); have hq0 := blk_cell H5.out.ov 2; have hq1 := blk_frozen H5.out.ov 2; clear hb hxb hy0 hy1 hy2 hy3 hy4 hy5 hy6 hx0 hx1 hx2 hx3 hx4 hx5 hx6)
          | ((with_reducible refine gate_builtin (b := .append) (xs := #[.tmp 94, .tmp 96]) rfl ?_); at_builtin; refine Kd.R_append kIr (w0 := (World.setCell (World.setCell (World.setCell w4 ⟨wr.heap.size, 1, none⟩ (.int .i64 (rd l dst))) ⟨wr.heap.size, 3, none⟩ (.int .i64 (rd l b))) ⟨wr.heap.size, 2, none⟩ (.int .i64 (rd l a)))) (w2.heap.size + 1) rfl (.tmp 94) (.tmp 96) 22 38 (.agg (zIr.vals)) 56 rfl Try.underlying22 infoIr rfl (by decide) (by omega) (.slice A0 L0.length c0) L0 (Ir.mk (3) (rd l dst) (rd l a) (rd l b) (cc) (n) (m)) [.int .i64 (3), .int .i64 (rd l dst), .int .i64 (rd l a), .int .i64 (rd l b), .int .i64 (cc), .int .i64 (n), .int .i64 (m)] (fun _ => True) (fun _ => False) rfl (by first | rfl | (rw [HSZW.out]; rfl)) (ir_M (Ir.mk (3) (rd l dst) (rd l a) (rd l b) (cc) (n) (m))) (fun _ h => h.elim) (fun _ _ => trivial) H5.out.row (Below.refl _ _) (by have := blk_lt H5.out.ov; omega) (by omega) ?_; intro v6 w6 hO hB hg hat; obtain ⟨A6, c6, e6⟩ := Kd.R_slice hO; subst e6; have H6 := Aside0.mk (H5.out.push hg hO); have hq2 := blk_cell (blk_grown H5.out.ov hg (fun e => by have := Kd.R_base H5.out.row _ e.symm; omega)) 2; have hqf := blk_frozen (blk_grown H5.out.ov hg (fun e => by have := Kd.R_base H5.out.row _ e.symm; omega)) 2; clear hO hB hg hat))
        go_roundw
        case rel => exact ⟨k + 1, by omega, by go_num, ⟨⟨_, by rw [HTS.out, HRN.out]; have h := H6.out; simp only [List.length_append, List.length_singleton] at h; exact h⟩⟩⟩
        case measure => simp [intOf]; omega
      · have hraw : Uses.raw 4 a b cc = [cc, b, a] := by simp [Uses.raw]
        have hus := uses_pos (op := 4) (a := a) (b := b) (c := cc) (by rw [hraw]; simp)
        have hur : ∀ j, j ∈ [cc, b, a] → 0 ≤ j ∧ j < l.length ∧ 0 ≤ rd l j ∧ rd l j < 66 := fun j hj => HU.out j (by show j ∈ Uses.raw 4 a b cc; rw [hraw]; exact hj)
        have hD := Aside0.mk (show defs ⟨4, dst, a, b, cc, n, m⟩ = dst from by simp [defs])
        have hd0 : 0 ≤ dst := (HDR.out (by simp)).1
        have hdl : dst < l.length := by have h := HDS.out (by show 0 ≤ defs ⟨4, dst, a, b, cc, n, m⟩; rw [hD.out]; exact hd0); rw [show defs (Ir.mk 4 dst a b cc n m) = dst from hD.out] at h; exact h.1
        have ha0 : 0 ≤ a := (hur a (by simp)).1
        have hal : a < l.length := (hur a (by simp)).2.1
        have hb0 : 0 ≤ b := (hur b (by simp)).1
        have hbl : b < l.length := (hur b (by simp)).2.1
        have hcc0 : 0 ≤ cc := (hur cc (by simp)).1
        have hccl : cc < l.length := (hur cc (by simp)).2.1
        obtain ⟨bB, oB, eB, hbB, hcB⟩ := row_addr HRB.out (by omega)
        subst eB
        have hbW : bB < wr.heap.size := by omega
        have HCB := Aside0.mk hcB
        clear hcB
        have HRN := Aside0.mk (show ren (fun j => rd l j) ⟨4, dst, a, b, cc, n, m⟩ = ⟨4, rd l dst, rd l a, rd l b, rd l cc, n, m⟩ from by simp [ren, defs, Uses.raw, hd0])
        obtain ⟨us, hu⟩ : ∃ us, uses 4 a b cc = us := ⟨_, rfl⟩
        rw [hu] at hus
        have HUS := Aside0.mk hu
        have husI : (0 : Int) < (us.length : Int) := by omega
        clear hu hraw hur
        go_wp2_with (first
          | (go_at_call 23; refine (uses_calls _ _ _ _ _ _ _ _).mono ?_; rw [HUS.out]; rintro e w3 ⟨v3, rfl, hR, hb⟩; obtain ⟨A3, c3, e3⟩ := Kd.R_slice hR; subst e3; have HB3 := Aside0.mk ((below_alloc (Below.refl wr.heap.size wr) (.cells (Ir.vals ⟨4, dst, a, b, cc, n, m⟩) 38)).trans (hb.mono (by simp))); have hxb := blk_below (blk_new wr (.cells (Ir.vals ⟨4, dst, a, b, cc, n, m⟩) 38)) hb; have HX3 := Aside0.mk hxb; have hy0 := blk_cell hxb 0; have hy1 := blk_cell hxb 1; have hy2 := blk_cell hxb 2; have hy3 := blk_cell hxb 3; have hy4 := blk_cell hxb 4; have hy5 := blk_cell hxb 5; have hy6 := blk_cell hxb 6; clear hR hb hxb)
          | (go_at_call 22; refine (defs_calls' hD.out _).mono ?_; rintro e w4 ⟨rfl, hb⟩; have HB4 := Aside0.mk (HB3.out.trans (hb.mono HB3.out.size)); have hxb := blk_below HX3.out hb; have hz0 := blk_cell hxb 0; have hz1 := blk_cell hxb 1; have hz2 := blk_cell hxb 2; have hz3 := blk_cell hxb 3; have hz4 := blk_cell hxb 4; have hz5 := blk_cell hxb 5; have hz6 := blk_cell hxb 6; have hf1 := blk_frozen hxb 1; have hf2 := blk_frozen hxb 2; have hf3 := blk_frozen hxb 3; have hf4 := blk_frozen hxb 4; have hldst := (HB4.out.cell (p := ⟨bB, oB + dst.toNat, none⟩) hbW).trans ((HQ.out.bel.cell (p := ⟨bB, oB + dst.toNat, none⟩) hbB).trans (HCB.out dst (by omega) (by omega))); have hla := (HB4.out.cell (p := ⟨bB, oB + a.toNat, none⟩) hbW).trans ((HQ.out.bel.cell (p := ⟨bB, oB + a.toNat, none⟩) hbB).trans (HCB.out a (by omega) (by omega))); have hlb := (HB4.out.cell (p := ⟨bB, oB + b.toNat, none⟩) hbW).trans ((HQ.out.bel.cell (p := ⟨bB, oB + b.toNat, none⟩) hbB).trans (HCB.out b (by omega) (by omega))); have hlcc := (HB4.out.cell (p := ⟨bB, oB + cc.toNat, none⟩) hbW).trans ((HQ.out.bel.cell (p := ⟨bB, oB + cc.toNat, none⟩) hbB).trans (HCB.out cc (by omega) (by omega))); have H5 := Aside0.mk (HQ.out.below (show Below wr.heap.size wr (World.setCell (World.setCell (World.setCell (World.setCell w4 ⟨wr.heap.size, 1, none⟩ (.int .i64 (rd l dst))) ⟨wr.heap.size, 4, none⟩ (.int .i64 (rd l cc))) ⟨wr.heap.size, 3, none⟩ (.int .i64 (rd l b))) ⟨wr.heap.size, 2, none⟩ (.int .i64 (rd l a))) from (Below.setCell (p := ⟨wr.heap.size, 2, none⟩) (Below.setCell (p := ⟨wr.heap.size, 3, none⟩) (Below.setCell (p := ⟨wr.heap.size, 4, none⟩) (Below.setCell (p := ⟨wr.heap.size, 1, none⟩) HB4.out (Nat.le_refl _) (.int .i64 (rd l dst))) (Nat.le_refl _) (.int .i64 (rd l cc))) (Nat.le_refl _) (.int .i64 (rd l b))) (Nat.le_refl _) (.int .i64 (rd l a))))); have HSZW := Aside0.mk (show (World.setCell (World.setCell (World.setCell (World.setCell w4 ⟨wr.heap.size, 1, none⟩ (.int .i64 (rd l dst))) ⟨wr.heap.size, 4, none⟩ (.int .i64 (rd l cc))) ⟨wr.heap.size, 3, none⟩ (.int .i64 (rd l b))) ⟨wr.heap.size, 2, none⟩ (.int .i64 (rd l a))).heap.size = w4.heap.size from by simp); have hq0 := blk_cell H5.out.ov 2; have hq1 := blk_frozen H5.out.ov 2; clear hb hxb hy0 hy1 hy2 hy3 hy4 hy5 hy6 hx0 hx1 hx2 hx3 hx4 hx5 hx6)
          | ((with_reducible refine gate_builtin (b := .append) (xs := #[.tmp 94, .tmp 96]) rfl ?_); at_builtin; refine Kd.R_append kIr (w0 := (World.setCell (World.setCell (World.setCell (World.setCell w4 ⟨wr.heap.size, 1, none⟩ (.int .i64 (rd l dst))) ⟨wr.heap.size, 4, none⟩ (.int .i64 (rd l cc))) ⟨wr.heap.size, 3, none⟩ (.int .i64 (rd l b))) ⟨wr.heap.size, 2, none⟩ (.int .i64 (rd l a)))) (w2.heap.size + 1) rfl (.tmp 94) (.tmp 96) 22 38 (.agg (zIr.vals)) 56 rfl Try.underlying22 infoIr rfl (by decide) (by omega) (.slice A0 L0.length c0) L0 (Ir.mk (4) (rd l dst) (rd l a) (rd l b) (rd l cc) (n) (m)) [.int .i64 (4), .int .i64 (rd l dst), .int .i64 (rd l a), .int .i64 (rd l b), .int .i64 (rd l cc), .int .i64 (n), .int .i64 (m)] (fun _ => True) (fun _ => False) rfl (by first | rfl | (rw [HSZW.out]; rfl)) (ir_M (Ir.mk (4) (rd l dst) (rd l a) (rd l b) (rd l cc) (n) (m))) (fun _ h => h.elim) (fun _ _ => trivial) H5.out.row (Below.refl _ _) (by have := blk_lt H5.out.ov; omega) (by omega) ?_; intro v6 w6 hO hB hg hat; obtain ⟨A6, c6, e6⟩ := Kd.R_slice hO; subst e6; have H6 := Aside0.mk (H5.out.push hg hO); have hq2 := blk_cell (blk_grown H5.out.ov hg (fun e => by have := Kd.R_base H5.out.row _ e.symm; omega)) 2; have hqf := blk_frozen (blk_grown H5.out.ov hg (fun e => by have := Kd.R_base H5.out.row _ e.symm; omega)) 2; clear hO hB hg hat))
        go_roundw
        case rel => exact ⟨k + 1, by omega, by go_num, ⟨⟨_, by rw [HTS.out, HRN.out]; have h := H6.out; simp only [List.length_append, List.length_singleton] at h; exact h⟩⟩⟩
        case measure => simp [intOf]; omega
      · have hraw : Uses.raw 9 a b cc = [] := by simp [Uses.raw]
        have hus := uses_nil (op := 9) (a := a) (b := b) (c := cc) hraw
        have hD := Aside0.mk (show defs ⟨9, dst, a, b, cc, n, m⟩ = -1 from by simp [defs])
        have HRN := Aside0.mk (show ren (fun j => rd l j) ⟨9, dst, a, b, cc, n, m⟩ = ⟨9, dst, a, b, cc, n, m⟩ from by simp [ren, defs, Uses.raw])
        obtain ⟨us, hu⟩ : ∃ us, uses 9 a b cc = us := ⟨_, rfl⟩
        rw [hu] at hus
        have HUS := Aside0.mk hu
        subst hus
        clear hu hraw
        go_wp2_with (first
          | (go_at_call 23; refine (uses_calls _ _ _ _ _ _ _ _).mono ?_; rw [HUS.out]; rintro e w3 ⟨v3, rfl, hR, hb⟩; obtain ⟨A3, c3, e3⟩ := Kd.R_slice hR; subst e3; have HB3 := Aside0.mk ((below_alloc (Below.refl wr.heap.size wr) (.cells (Ir.vals ⟨9, dst, a, b, cc, n, m⟩) 38)).trans (hb.mono (by simp))); have hxb := blk_below (blk_new wr (.cells (Ir.vals ⟨9, dst, a, b, cc, n, m⟩) 38)) hb; have HX3 := Aside0.mk hxb; have hy0 := blk_cell hxb 0; have hy1 := blk_cell hxb 1; have hy2 := blk_cell hxb 2; have hy3 := blk_cell hxb 3; have hy4 := blk_cell hxb 4; have hy5 := blk_cell hxb 5; have hy6 := blk_cell hxb 6; clear hR hb hxb)
          | (go_at_call 22; refine (defs_calls' hD.out _).mono ?_; rintro e w4 ⟨rfl, hb⟩; have HB4 := Aside0.mk (HB3.out.trans (hb.mono HB3.out.size)); have hxb := blk_below HX3.out hb; have hz0 := blk_cell hxb 0; have hz1 := blk_cell hxb 1; have hz2 := blk_cell hxb 2; have hz3 := blk_cell hxb 3; have hz4 := blk_cell hxb 4; have hz5 := blk_cell hxb 5; have hz6 := blk_cell hxb 6; have hf1 := blk_frozen hxb 1; have hf2 := blk_frozen hxb 2; have hf3 := blk_frozen hxb 3; have hf4 := blk_frozen hxb 4; have H5 := Aside0.mk (HQ.out.below (show Below wr.heap.size wr w4 from HB4.out)); have HSZW := Aside0.mk (show w4.heap.size = w4.heap.size from by simp); have hq0 := blk_cell H5.out.ov 2; have hq1 := blk_frozen H5.out.ov 2; clear hb hxb hy0 hy1 hy2 hy3 hy4 hy5 hy6 hx0 hx1 hx2 hx3 hx4 hx5 hx6)
          | ((with_reducible refine gate_builtin (b := .append) (xs := #[.tmp 94, .tmp 96]) rfl ?_); at_builtin; refine Kd.R_append kIr (w0 := w4) (w2.heap.size + 1) rfl (.tmp 94) (.tmp 96) 22 38 (.agg (zIr.vals)) 56 rfl Try.underlying22 infoIr rfl (by decide) (by omega) (.slice A0 L0.length c0) L0 (Ir.mk (9) (dst) (a) (b) (cc) (n) (m)) [.int .i64 (9), .int .i64 (dst), .int .i64 (a), .int .i64 (b), .int .i64 (cc), .int .i64 (n), .int .i64 (m)] (fun _ => True) (fun _ => False) rfl (by first | rfl | (rw [HSZW.out]; rfl)) (ir_M (Ir.mk (9) (dst) (a) (b) (cc) (n) (m))) (fun _ h => h.elim) (fun _ _ => trivial) H5.out.row (Below.refl _ _) (by have := blk_lt H5.out.ov; omega) (by omega) ?_; intro v6 w6 hO hB hg hat; obtain ⟨A6, c6, e6⟩ := Kd.R_slice hO; subst e6; have H6 := Aside0.mk (H5.out.push hg hO); have hq2 := blk_cell (blk_grown H5.out.ov hg (fun e => by have := Kd.R_base H5.out.row _ e.symm; omega)) 2; have hqf := blk_frozen (blk_grown H5.out.ov hg (fun e => by have := Kd.R_base H5.out.row _ e.symm; omega)) 2; clear hO hB hg hat))
        go_roundw
        case rel => exact ⟨k + 1, by omega, by go_num, ⟨⟨_, by rw [HTS.out, HRN.out]; have h := H6.out; simp only [List.length_append, List.length_singleton] at h; exact h⟩⟩⟩
        case measure => simp [intOf]; omega
      · have hraw : Uses.raw 10 a b cc = [] := by simp [Uses.raw]
        have hus := uses_nil (op := 10) (a := a) (b := b) (c := cc) hraw
        have hD := Aside0.mk (show defs ⟨10, dst, a, b, cc, n, m⟩ = -1 from by simp [defs])
        have HRN := Aside0.mk (show ren (fun j => rd l j) ⟨10, dst, a, b, cc, n, m⟩ = ⟨10, dst, a, b, cc, n, m⟩ from by simp [ren, defs, Uses.raw])
        obtain ⟨us, hu⟩ : ∃ us, uses 10 a b cc = us := ⟨_, rfl⟩
        rw [hu] at hus
        have HUS := Aside0.mk hu
        subst hus
        clear hu hraw
        go_wp2_with (first
          | (go_at_call 23; refine (uses_calls _ _ _ _ _ _ _ _).mono ?_; rw [HUS.out]; rintro e w3 ⟨v3, rfl, hR, hb⟩; obtain ⟨A3, c3, e3⟩ := Kd.R_slice hR; subst e3; have HB3 := Aside0.mk ((below_alloc (Below.refl wr.heap.size wr) (.cells (Ir.vals ⟨10, dst, a, b, cc, n, m⟩) 38)).trans (hb.mono (by simp))); have hxb := blk_below (blk_new wr (.cells (Ir.vals ⟨10, dst, a, b, cc, n, m⟩) 38)) hb; have HX3 := Aside0.mk hxb; have hy0 := blk_cell hxb 0; have hy1 := blk_cell hxb 1; have hy2 := blk_cell hxb 2; have hy3 := blk_cell hxb 3; have hy4 := blk_cell hxb 4; have hy5 := blk_cell hxb 5; have hy6 := blk_cell hxb 6; clear hR hb hxb)
          | (go_at_call 22; refine (defs_calls' hD.out _).mono ?_; rintro e w4 ⟨rfl, hb⟩; have HB4 := Aside0.mk (HB3.out.trans (hb.mono HB3.out.size)); have hxb := blk_below HX3.out hb; have hz0 := blk_cell hxb 0; have hz1 := blk_cell hxb 1; have hz2 := blk_cell hxb 2; have hz3 := blk_cell hxb 3; have hz4 := blk_cell hxb 4; have hz5 := blk_cell hxb 5; have hz6 := blk_cell hxb 6; have hf1 := blk_frozen hxb 1; have hf2 := blk_frozen hxb 2; have hf3 := blk_frozen hxb 3; have hf4 := blk_frozen hxb 4; have H5 := Aside0.mk (HQ.out.below (show Below wr.heap.size wr w4 from HB4.out)); have HSZW := Aside0.mk (show w4.heap.size = w4.heap.size from by simp); have hq0 := blk_cell H5.out.ov 2; have hq1 := blk_frozen H5.out.ov 2; clear hb hxb hy0 hy1 hy2 hy3 hy4 hy5 hy6 hx0 hx1 hx2 hx3 hx4 hx5 hx6)
          | ((with_reducible refine gate_builtin (b := .append) (xs := #[.tmp 94, .tmp 96]) rfl ?_); at_builtin; refine Kd.R_append kIr (w0 := w4) (w2.heap.size + 1) rfl (.tmp 94) (.tmp 96) 22 38 (.agg (zIr.vals)) 56 rfl Try.underlying22 infoIr rfl (by decide) (by omega) (.slice A0 L0.length c0) L0 (Ir.mk (10) (dst) (a) (b) (cc) (n) (m)) [.int .i64 (10), .int .i64 (dst), .int .i64 (a), .int .i64 (b), .int .i64 (cc), .int .i64 (n), .int .i64 (m)] (fun _ => True) (fun _ => False) rfl (by first | rfl | (rw [HSZW.out]; rfl)) (ir_M (Ir.mk (10) (dst) (a) (b) (cc) (n) (m))) (fun _ h => h.elim) (fun _ _ => trivial) H5.out.row (Below.refl _ _) (by have := blk_lt H5.out.ov; omega) (by omega) ?_; intro v6 w6 hO hB hg hat; obtain ⟨A6, c6, e6⟩ := Kd.R_slice hO; subst e6; have H6 := Aside0.mk (H5.out.push hg hO); have hq2 := blk_cell (blk_grown H5.out.ov hg (fun e => by have := Kd.R_base H5.out.row _ e.symm; omega)) 2; have hqf := blk_frozen (blk_grown H5.out.ov hg (fun e => by have := Kd.R_base H5.out.row _ e.symm; omega)) 2; clear hO hB hg hat))
        go_roundw
        case rel => exact ⟨k + 1, by omega, by go_num, ⟨⟨_, by rw [HTS.out, HRN.out]; have h := H6.out; simp only [List.length_append, List.length_singleton] at h; exact h⟩⟩⟩
        case measure => simp [intOf]; omega
      · have hraw : Uses.raw 11 a b cc = [a] := by simp [Uses.raw]
        have hus := uses_pos (op := 11) (a := a) (b := b) (c := cc) (by rw [hraw]; simp)
        have hur : ∀ j, j ∈ [a] → 0 ≤ j ∧ j < l.length ∧ 0 ≤ rd l j ∧ rd l j < 66 := fun j hj => HU.out j (by show j ∈ Uses.raw 11 a b cc; rw [hraw]; exact hj)
        have hD := Aside0.mk (show defs ⟨11, dst, a, b, cc, n, m⟩ = -1 from by simp [defs])
        have ha0 : 0 ≤ a := (hur a (by simp)).1
        have hal : a < l.length := (hur a (by simp)).2.1
        obtain ⟨bB, oB, eB, hbB, hcB⟩ := row_addr HRB.out (by omega)
        subst eB
        have hbW : bB < wr.heap.size := by omega
        have HCB := Aside0.mk hcB
        clear hcB
        have HRN := Aside0.mk (show ren (fun j => rd l j) ⟨11, dst, a, b, cc, n, m⟩ = ⟨11, dst, rd l a, b, cc, n, m⟩ from by simp [ren, defs, Uses.raw])
        obtain ⟨us, hu⟩ : ∃ us, uses 11 a b cc = us := ⟨_, rfl⟩
        rw [hu] at hus
        have HUS := Aside0.mk hu
        have husI : (0 : Int) < (us.length : Int) := by omega
        clear hu hraw hur
        go_wp2_with (first
          | (go_at_call 23; refine (uses_calls _ _ _ _ _ _ _ _).mono ?_; rw [HUS.out]; rintro e w3 ⟨v3, rfl, hR, hb⟩; obtain ⟨A3, c3, e3⟩ := Kd.R_slice hR; subst e3; have HB3 := Aside0.mk ((below_alloc (Below.refl wr.heap.size wr) (.cells (Ir.vals ⟨11, dst, a, b, cc, n, m⟩) 38)).trans (hb.mono (by simp))); have hxb := blk_below (blk_new wr (.cells (Ir.vals ⟨11, dst, a, b, cc, n, m⟩) 38)) hb; have HX3 := Aside0.mk hxb; have hy0 := blk_cell hxb 0; have hy1 := blk_cell hxb 1; have hy2 := blk_cell hxb 2; have hy3 := blk_cell hxb 3; have hy4 := blk_cell hxb 4; have hy5 := blk_cell hxb 5; have hy6 := blk_cell hxb 6; clear hR hb hxb)
          | (go_at_call 22; refine (defs_calls' hD.out _).mono ?_; rintro e w4 ⟨rfl, hb⟩; have HB4 := Aside0.mk (HB3.out.trans (hb.mono HB3.out.size)); have hxb := blk_below HX3.out hb; have hz0 := blk_cell hxb 0; have hz1 := blk_cell hxb 1; have hz2 := blk_cell hxb 2; have hz3 := blk_cell hxb 3; have hz4 := blk_cell hxb 4; have hz5 := blk_cell hxb 5; have hz6 := blk_cell hxb 6; have hf1 := blk_frozen hxb 1; have hf2 := blk_frozen hxb 2; have hf3 := blk_frozen hxb 3; have hf4 := blk_frozen hxb 4; have hla := (HB4.out.cell (p := ⟨bB, oB + a.toNat, none⟩) hbW).trans ((HQ.out.bel.cell (p := ⟨bB, oB + a.toNat, none⟩) hbB).trans (HCB.out a (by omega) (by omega))); have H5 := Aside0.mk (HQ.out.below (show Below wr.heap.size wr (World.setCell w4 ⟨wr.heap.size, 2, none⟩ (.int .i64 (rd l a))) from (Below.setCell (p := ⟨wr.heap.size, 2, none⟩) HB4.out (Nat.le_refl _) (.int .i64 (rd l a))))); have HSZW := Aside0.mk (show (World.setCell w4 ⟨wr.heap.size, 2, none⟩ (.int .i64 (rd l a))).heap.size = w4.heap.size from by simp); have hq0 := blk_cell H5.out.ov 2; have hq1 := blk_frozen H5.out.ov 2; clear hb hxb hy0 hy1 hy2 hy3 hy4 hy5 hy6 hx0 hx1 hx2 hx3 hx4 hx5 hx6)
          | ((with_reducible refine gate_builtin (b := .append) (xs := #[.tmp 94, .tmp 96]) rfl ?_); at_builtin; refine Kd.R_append kIr (w0 := (World.setCell w4 ⟨wr.heap.size, 2, none⟩ (.int .i64 (rd l a)))) (w2.heap.size + 1) rfl (.tmp 94) (.tmp 96) 22 38 (.agg (zIr.vals)) 56 rfl Try.underlying22 infoIr rfl (by decide) (by omega) (.slice A0 L0.length c0) L0 (Ir.mk (11) (dst) (rd l a) (b) (cc) (n) (m)) [.int .i64 (11), .int .i64 (dst), .int .i64 (rd l a), .int .i64 (b), .int .i64 (cc), .int .i64 (n), .int .i64 (m)] (fun _ => True) (fun _ => False) rfl (by first | rfl | (rw [HSZW.out]; rfl)) (ir_M (Ir.mk (11) (dst) (rd l a) (b) (cc) (n) (m))) (fun _ h => h.elim) (fun _ _ => trivial) H5.out.row (Below.refl _ _) (by have := blk_lt H5.out.ov; omega) (by omega) ?_; intro v6 w6 hO hB hg hat; obtain ⟨A6, c6, e6⟩ := Kd.R_slice hO; subst e6; have H6 := Aside0.mk (H5.out.push hg hO); have hq2 := blk_cell (blk_grown H5.out.ov hg (fun e => by have := Kd.R_base H5.out.row _ e.symm; omega)) 2; have hqf := blk_frozen (blk_grown H5.out.ov hg (fun e => by have := Kd.R_base H5.out.row _ e.symm; omega)) 2; clear hO hB hg hat))
        go_roundw
        case rel => exact ⟨k + 1, by omega, by go_num, ⟨⟨_, by rw [HTS.out, HRN.out]; have h := H6.out; simp only [List.length_append, List.length_singleton] at h; exact h⟩⟩⟩
        case measure => simp [intOf]; omega
      · have hraw : Uses.raw 12 a b cc = [a] := by simp [Uses.raw]
        have hus := uses_pos (op := 12) (a := a) (b := b) (c := cc) (by rw [hraw]; simp)
        have hur : ∀ j, j ∈ [a] → 0 ≤ j ∧ j < l.length ∧ 0 ≤ rd l j ∧ rd l j < 66 := fun j hj => HU.out j (by show j ∈ Uses.raw 12 a b cc; rw [hraw]; exact hj)
        have hD := Aside0.mk (show defs ⟨12, dst, a, b, cc, n, m⟩ = -1 from by simp [defs])
        have ha0 : 0 ≤ a := (hur a (by simp)).1
        have hal : a < l.length := (hur a (by simp)).2.1
        obtain ⟨bB, oB, eB, hbB, hcB⟩ := row_addr HRB.out (by omega)
        subst eB
        have hbW : bB < wr.heap.size := by omega
        have HCB := Aside0.mk hcB
        clear hcB
        have HRN := Aside0.mk (show ren (fun j => rd l j) ⟨12, dst, a, b, cc, n, m⟩ = ⟨12, dst, rd l a, b, cc, n, m⟩ from by simp [ren, defs, Uses.raw])
        obtain ⟨us, hu⟩ : ∃ us, uses 12 a b cc = us := ⟨_, rfl⟩
        rw [hu] at hus
        have HUS := Aside0.mk hu
        have husI : (0 : Int) < (us.length : Int) := by omega
        clear hu hraw hur
        go_wp2_with (first
          | (go_at_call 23; refine (uses_calls _ _ _ _ _ _ _ _).mono ?_; rw [HUS.out]; rintro e w3 ⟨v3, rfl, hR, hb⟩; obtain ⟨A3, c3, e3⟩ := Kd.R_slice hR; subst e3; have HB3 := Aside0.mk ((below_alloc (Below.refl wr.heap.size wr) (.cells (Ir.vals ⟨12, dst, a, b, cc, n, m⟩) 38)).trans (hb.mono (by simp))); have hxb := blk_below (blk_new wr (.cells (Ir.vals ⟨12, dst, a, b, cc, n, m⟩) 38)) hb; have HX3 := Aside0.mk hxb; have hy0 := blk_cell hxb 0; have hy1 := blk_cell hxb 1; have hy2 := blk_cell hxb 2; have hy3 := blk_cell hxb 3; have hy4 := blk_cell hxb 4; have hy5 := blk_cell hxb 5; have hy6 := blk_cell hxb 6; clear hR hb hxb)
          | (go_at_call 22; refine (defs_calls' hD.out _).mono ?_; rintro e w4 ⟨rfl, hb⟩; have HB4 := Aside0.mk (HB3.out.trans (hb.mono HB3.out.size)); have hxb := blk_below HX3.out hb; have hz0 := blk_cell hxb 0; have hz1 := blk_cell hxb 1; have hz2 := blk_cell hxb 2; have hz3 := blk_cell hxb 3; have hz4 := blk_cell hxb 4; have hz5 := blk_cell hxb 5; have hz6 := blk_cell hxb 6; have hf1 := blk_frozen hxb 1; have hf2 := blk_frozen hxb 2; have hf3 := blk_frozen hxb 3; have hf4 := blk_frozen hxb 4; have hla := (HB4.out.cell (p := ⟨bB, oB + a.toNat, none⟩) hbW).trans ((HQ.out.bel.cell (p := ⟨bB, oB + a.toNat, none⟩) hbB).trans (HCB.out a (by omega) (by omega))); have H5 := Aside0.mk (HQ.out.below (show Below wr.heap.size wr (World.setCell w4 ⟨wr.heap.size, 2, none⟩ (.int .i64 (rd l a))) from (Below.setCell (p := ⟨wr.heap.size, 2, none⟩) HB4.out (Nat.le_refl _) (.int .i64 (rd l a))))); have HSZW := Aside0.mk (show (World.setCell w4 ⟨wr.heap.size, 2, none⟩ (.int .i64 (rd l a))).heap.size = w4.heap.size from by simp); have hq0 := blk_cell H5.out.ov 2; have hq1 := blk_frozen H5.out.ov 2; clear hb hxb hy0 hy1 hy2 hy3 hy4 hy5 hy6 hx0 hx1 hx2 hx3 hx4 hx5 hx6)
          | ((with_reducible refine gate_builtin (b := .append) (xs := #[.tmp 94, .tmp 96]) rfl ?_); at_builtin; refine Kd.R_append kIr (w0 := (World.setCell w4 ⟨wr.heap.size, 2, none⟩ (.int .i64 (rd l a)))) (w2.heap.size + 1) rfl (.tmp 94) (.tmp 96) 22 38 (.agg (zIr.vals)) 56 rfl Try.underlying22 infoIr rfl (by decide) (by omega) (.slice A0 L0.length c0) L0 (Ir.mk (12) (dst) (rd l a) (b) (cc) (n) (m)) [.int .i64 (12), .int .i64 (dst), .int .i64 (rd l a), .int .i64 (b), .int .i64 (cc), .int .i64 (n), .int .i64 (m)] (fun _ => True) (fun _ => False) rfl (by first | rfl | (rw [HSZW.out]; rfl)) (ir_M (Ir.mk (12) (dst) (rd l a) (b) (cc) (n) (m))) (fun _ h => h.elim) (fun _ _ => trivial) H5.out.row (Below.refl _ _) (by have := blk_lt H5.out.ov; omega) (by omega) ?_; intro v6 w6 hO hB hg hat; obtain ⟨A6, c6, e6⟩ := Kd.R_slice hO; subst e6; have H6 := Aside0.mk (H5.out.push hg hO); have hq2 := blk_cell (blk_grown H5.out.ov hg (fun e => by have := Kd.R_base H5.out.row _ e.symm; omega)) 2; have hqf := blk_frozen (blk_grown H5.out.ov hg (fun e => by have := Kd.R_base H5.out.row _ e.symm; omega)) 2; clear hO hB hg hat))
        go_roundw
        case rel => exact ⟨k + 1, by omega, by go_num, ⟨⟨_, by rw [HTS.out, HRN.out]; have h := H6.out; simp only [List.length_append, List.length_singleton] at h; exact h⟩⟩⟩
        case measure => simp [intOf]; omega
      · by_cases ha : 0 ≤ a
        · have hraw : Uses.raw 15 a b cc = [a] := by simp [Uses.raw, ha]
          have hus := uses_pos (op := 15) (a := a) (b := b) (c := cc) (by rw [hraw]; simp)
          have hur : ∀ j, j ∈ [a] → 0 ≤ j ∧ j < l.length ∧ 0 ≤ rd l j ∧ rd l j < 66 := fun j hj => HU.out j (by show j ∈ Uses.raw 15 a b cc; rw [hraw]; exact hj)
          have hD := Aside0.mk (show defs ⟨15, dst, a, b, cc, n, m⟩ = -1 from by simp [defs])
          have ha0 : 0 ≤ a := (hur a (by simp)).1
          have hal : a < l.length := (hur a (by simp)).2.1
          obtain ⟨bB, oB, eB, hbB, hcB⟩ := row_addr HRB.out (by omega)
          subst eB
          have hbW : bB < wr.heap.size := by omega
          have HCB := Aside0.mk hcB
          clear hcB
          have HRN := Aside0.mk (show ren (fun j => rd l j) ⟨15, dst, a, b, cc, n, m⟩ = ⟨15, dst, rd l a, b, cc, n, m⟩ from by simp [ren, defs, Uses.raw, ha])
          obtain ⟨us, hu⟩ : ∃ us, uses 15 a b cc = us := ⟨_, rfl⟩
          rw [hu] at hus
          have HUS := Aside0.mk hu
          have husI : (0 : Int) < (us.length : Int) := by omega
          clear hu hraw hur
          go_wp2_with (first
            | (go_at_call 23; refine (uses_calls _ _ _ _ _ _ _ _).mono ?_; rw [HUS.out]; rintro e w3 ⟨v3, rfl, hR, hb⟩; obtain ⟨A3, c3, e3⟩ := Kd.R_slice hR; subst e3; have HB3 := Aside0.mk ((below_alloc (Below.refl wr.heap.size wr) (.cells (Ir.vals ⟨15, dst, a, b, cc, n, m⟩) 38)).trans (hb.mono (by simp))); have hxb := blk_below (blk_new wr (.cells (Ir.vals ⟨15, dst, a, b, cc, n, m⟩) 38)) hb; have HX3 := Aside0.mk hxb; have hy0 := blk_cell hxb 0; have hy1 := blk_cell hxb 1; have hy2 := blk_cell hxb 2; have hy3 := blk_cell hxb 3; have hy4 := blk_cell hxb 4; have hy5 := blk_cell hxb 5; have hy6 := blk_cell hxb 6; clear hR hb hxb)
            | (go_at_call 22; refine (defs_calls' hD.out _).mono ?_; rintro e w4 ⟨rfl, hb⟩; have HB4 := Aside0.mk (HB3.out.trans (hb.mono HB3.out.size)); have hxb := blk_below HX3.out hb; have hz0 := blk_cell hxb 0; have hz1 := blk_cell hxb 1; have hz2 := blk_cell hxb 2; have hz3 := blk_cell hxb 3; have hz4 := blk_cell hxb 4; have hz5 := blk_cell hxb 5; have hz6 := blk_cell hxb 6; have hf1 := blk_frozen hxb 1; have hf2 := blk_frozen hxb 2; have hf3 := blk_frozen hxb 3; have hf4 := blk_frozen hxb 4; have hla := (HB4.out.cell (p := ⟨bB, oB + a.toNat, none⟩) hbW).trans ((HQ.out.bel.cell (p := ⟨bB, oB + a.toNat, none⟩) hbB).trans (HCB.out a (by omega) (by omega))); have H5 := Aside0.mk (HQ.out.below (show Below wr.heap.size wr (World.setCell w4 ⟨wr.heap.size, 2, none⟩ (.int .i64 (rd l a))) from (Below.setCell (p := ⟨wr.heap.size, 2, none⟩) HB4.out (Nat.le_refl _) (.int .i64 (rd l a))))); have HSZW := Aside0.mk (show (World.setCell w4 ⟨wr.heap.size, 2, none⟩ (.int .i64 (rd l a))).heap.size = w4.heap.size from by simp); have hq0 := blk_cell H5.out.ov 2; have hq1 := blk_frozen H5.out.ov 2; clear hb hxb hy0 hy1 hy2 hy3 hy4 hy5 hy6 hx0 hx1 hx2 hx3 hx4 hx5 hx6)
            | ((with_reducible refine gate_builtin (b := .append) (xs := #[.tmp 94, .tmp 96]) rfl ?_); at_builtin; refine Kd.R_append kIr (w0 := (World.setCell w4 ⟨wr.heap.size, 2, none⟩ (.int .i64 (rd l a)))) (w2.heap.size + 1) rfl (.tmp 94) (.tmp 96) 22 38 (.agg (zIr.vals)) 56 rfl Try.underlying22 infoIr rfl (by decide) (by omega) (.slice A0 L0.length c0) L0 (Ir.mk (15) (dst) (rd l a) (b) (cc) (n) (m)) [.int .i64 (15), .int .i64 (dst), .int .i64 (rd l a), .int .i64 (b), .int .i64 (cc), .int .i64 (n), .int .i64 (m)] (fun _ => True) (fun _ => False) rfl (by first | rfl | (rw [HSZW.out]; rfl)) (ir_M (Ir.mk (15) (dst) (rd l a) (b) (cc) (n) (m))) (fun _ h => h.elim) (fun _ _ => trivial) H5.out.row (Below.refl _ _) (by have := blk_lt H5.out.ov; omega) (by omega) ?_; intro v6 w6 hO hB hg hat; obtain ⟨A6, c6, e6⟩ := Kd.R_slice hO; subst e6; have H6 := Aside0.mk (H5.out.push hg hO); have hq2 := blk_cell (blk_grown H5.out.ov hg (fun e => by have := Kd.R_base H5.out.row _ e.symm; omega)) 2; have hqf := blk_frozen (blk_grown H5.out.ov hg (fun e => by have := Kd.R_base H5.out.row _ e.symm; omega)) 2; clear hO hB hg hat))
          go_roundw
          case rel => exact ⟨k + 1, by omega, by go_num, ⟨⟨_, by rw [HTS.out, HRN.out]; have h := H6.out; simp only [List.length_append, List.length_singleton] at h; exact h⟩⟩⟩
          case measure => simp [intOf]; omega
        · have hraw : Uses.raw 15 a b cc = [] := by simp [Uses.raw, ha]
          have hus := uses_nil (op := 15) (a := a) (b := b) (c := cc) hraw
          have hD := Aside0.mk (show defs ⟨15, dst, a, b, cc, n, m⟩ = -1 from by simp [defs])
          have HRN := Aside0.mk (show ren (fun j => rd l j) ⟨15, dst, a, b, cc, n, m⟩ = ⟨15, dst, a, b, cc, n, m⟩ from by simp [ren, defs, Uses.raw, ha])
          obtain ⟨us, hu⟩ : ∃ us, uses 15 a b cc = us := ⟨_, rfl⟩
          rw [hu] at hus
          have HUS := Aside0.mk hu
          subst hus
          clear hu hraw
          go_wp2_with (first
            | (go_at_call 23; refine (uses_calls _ _ _ _ _ _ _ _).mono ?_; rw [HUS.out]; rintro e w3 ⟨v3, rfl, hR, hb⟩; obtain ⟨A3, c3, e3⟩ := Kd.R_slice hR; subst e3; have HB3 := Aside0.mk ((below_alloc (Below.refl wr.heap.size wr) (.cells (Ir.vals ⟨15, dst, a, b, cc, n, m⟩) 38)).trans (hb.mono (by simp))); have hxb := blk_below (blk_new wr (.cells (Ir.vals ⟨15, dst, a, b, cc, n, m⟩) 38)) hb; have HX3 := Aside0.mk hxb; have hy0 := blk_cell hxb 0; have hy1 := blk_cell hxb 1; have hy2 := blk_cell hxb 2; have hy3 := blk_cell hxb 3; have hy4 := blk_cell hxb 4; have hy5 := blk_cell hxb 5; have hy6 := blk_cell hxb 6; clear hR hb hxb)
            | (go_at_call 22; refine (defs_calls' hD.out _).mono ?_; rintro e w4 ⟨rfl, hb⟩; have HB4 := Aside0.mk (HB3.out.trans (hb.mono HB3.out.size)); have hxb := blk_below HX3.out hb; have hz0 := blk_cell hxb 0; have hz1 := blk_cell hxb 1; have hz2 := blk_cell hxb 2; have hz3 := blk_cell hxb 3; have hz4 := blk_cell hxb 4; have hz5 := blk_cell hxb 5; have hz6 := blk_cell hxb 6; have hf1 := blk_frozen hxb 1; have hf2 := blk_frozen hxb 2; have hf3 := blk_frozen hxb 3; have hf4 := blk_frozen hxb 4; have H5 := Aside0.mk (HQ.out.below (show Below wr.heap.size wr w4 from HB4.out)); have HSZW := Aside0.mk (show w4.heap.size = w4.heap.size from by simp); have hq0 := blk_cell H5.out.ov 2; have hq1 := blk_frozen H5.out.ov 2; clear hb hxb hy0 hy1 hy2 hy3 hy4 hy5 hy6 hx0 hx1 hx2 hx3 hx4 hx5 hx6)
            | ((with_reducible refine gate_builtin (b := .append) (xs := #[.tmp 94, .tmp 96]) rfl ?_); at_builtin; refine Kd.R_append kIr (w0 := w4) (w2.heap.size + 1) rfl (.tmp 94) (.tmp 96) 22 38 (.agg (zIr.vals)) 56 rfl Try.underlying22 infoIr rfl (by decide) (by omega) (.slice A0 L0.length c0) L0 (Ir.mk (15) (dst) (a) (b) (cc) (n) (m)) [.int .i64 (15), .int .i64 (dst), .int .i64 (a), .int .i64 (b), .int .i64 (cc), .int .i64 (n), .int .i64 (m)] (fun _ => True) (fun _ => False) rfl (by first | rfl | (rw [HSZW.out]; rfl)) (ir_M (Ir.mk (15) (dst) (a) (b) (cc) (n) (m))) (fun _ h => h.elim) (fun _ _ => trivial) H5.out.row (Below.refl _ _) (by have := blk_lt H5.out.ov; omega) (by omega) ?_; intro v6 w6 hO hB hg hat; obtain ⟨A6, c6, e6⟩ := Kd.R_slice hO; subst e6; have H6 := Aside0.mk (H5.out.push hg hO); have hq2 := blk_cell (blk_grown H5.out.ov hg (fun e => by have := Kd.R_base H5.out.row _ e.symm; omega)) 2; have hqf := blk_frozen (blk_grown H5.out.ov hg (fun e => by have := Kd.R_base H5.out.row _ e.symm; omega)) 2; clear hO hB hg hat))
          go_roundw
          case rel => exact ⟨k + 1, by omega, by go_num, ⟨⟨_, by rw [HTS.out, HRN.out]; have h := H6.out; simp only [List.length_append, List.length_singleton] at h; exact h⟩⟩⟩
          case measure => simp [intOf]; omega
      · have hraw : Uses.raw 16 a b cc = [] := by simp [Uses.raw]
        have hus := uses_nil (op := 16) (a := a) (b := b) (c := cc) hraw
        have hD := Aside0.mk (show defs ⟨16, dst, a, b, cc, n, m⟩ = -1 from by simp [defs])
        have HRN := Aside0.mk (show ren (fun j => rd l j) ⟨16, dst, a, b, cc, n, m⟩ = ⟨16, dst, a, b, cc, n, m⟩ from by simp [ren, defs, Uses.raw])
        obtain ⟨us, hu⟩ : ∃ us, uses 16 a b cc = us := ⟨_, rfl⟩
        rw [hu] at hus
        have HUS := Aside0.mk hu
        subst hus
        clear hu hraw
        go_wp2_with (first
          | (go_at_call 23; refine (uses_calls _ _ _ _ _ _ _ _).mono ?_; rw [HUS.out]; rintro e w3 ⟨v3, rfl, hR, hb⟩; obtain ⟨A3, c3, e3⟩ := Kd.R_slice hR; subst e3; have HB3 := Aside0.mk ((below_alloc (Below.refl wr.heap.size wr) (.cells (Ir.vals ⟨16, dst, a, b, cc, n, m⟩) 38)).trans (hb.mono (by simp))); have hxb := blk_below (blk_new wr (.cells (Ir.vals ⟨16, dst, a, b, cc, n, m⟩) 38)) hb; have HX3 := Aside0.mk hxb; have hy0 := blk_cell hxb 0; have hy1 := blk_cell hxb 1; have hy2 := blk_cell hxb 2; have hy3 := blk_cell hxb 3; have hy4 := blk_cell hxb 4; have hy5 := blk_cell hxb 5; have hy6 := blk_cell hxb 6; clear hR hb hxb)
          | (go_at_call 22; refine (defs_calls' hD.out _).mono ?_; rintro e w4 ⟨rfl, hb⟩; have HB4 := Aside0.mk (HB3.out.trans (hb.mono HB3.out.size)); have hxb := blk_below HX3.out hb; have hz0 := blk_cell hxb 0; have hz1 := blk_cell hxb 1; have hz2 := blk_cell hxb 2; have hz3 := blk_cell hxb 3; have hz4 := blk_cell hxb 4; have hz5 := blk_cell hxb 5; have hz6 := blk_cell hxb 6; have hf1 := blk_frozen hxb 1; have hf2 := blk_frozen hxb 2; have hf3 := blk_frozen hxb 3; have hf4 := blk_frozen hxb 4; have H5 := Aside0.mk (HQ.out.below (show Below wr.heap.size wr w4 from HB4.out)); have HSZW := Aside0.mk (show w4.heap.size = w4.heap.size from by simp); have hq0 := blk_cell H5.out.ov 2; have hq1 := blk_frozen H5.out.ov 2; clear hb hxb hy0 hy1 hy2 hy3 hy4 hy5 hy6 hx0 hx1 hx2 hx3 hx4 hx5 hx6)
          | ((with_reducible refine gate_builtin (b := .append) (xs := #[.tmp 94, .tmp 96]) rfl ?_); at_builtin; refine Kd.R_append kIr (w0 := w4) (w2.heap.size + 1) rfl (.tmp 94) (.tmp 96) 22 38 (.agg (zIr.vals)) 56 rfl Try.underlying22 infoIr rfl (by decide) (by omega) (.slice A0 L0.length c0) L0 (Ir.mk (16) (dst) (a) (b) (cc) (n) (m)) [.int .i64 (16), .int .i64 (dst), .int .i64 (a), .int .i64 (b), .int .i64 (cc), .int .i64 (n), .int .i64 (m)] (fun _ => True) (fun _ => False) rfl (by first | rfl | (rw [HSZW.out]; rfl)) (ir_M (Ir.mk (16) (dst) (a) (b) (cc) (n) (m))) (fun _ h => h.elim) (fun _ _ => trivial) H5.out.row (Below.refl _ _) (by have := blk_lt H5.out.ov; omega) (by omega) ?_; intro v6 w6 hO hB hg hat; obtain ⟨A6, c6, e6⟩ := Kd.R_slice hO; subst e6; have H6 := Aside0.mk (H5.out.push hg hO); have hq2 := blk_cell (blk_grown H5.out.ov hg (fun e => by have := Kd.R_base H5.out.row _ e.symm; omega)) 2; have hqf := blk_frozen (blk_grown H5.out.ov hg (fun e => by have := Kd.R_base H5.out.row _ e.symm; omega)) 2; clear hO hB hg hat))
        go_roundw
        case rel => exact ⟨k + 1, by omega, by go_num, ⟨⟨_, by rw [HTS.out, HRN.out]; have h := H6.out; simp only [List.length_append, List.length_singleton] at h; exact h⟩⟩⟩
        case measure => simp [intOf]; omega
    · have hke : k = c.body.length := by omega
      subst hke
      obtain ⟨v0, hv0⟩ := HQ0.out
      rw [List.take_length] at hv0
      obtain ⟨A0, c0, e0⟩ := Kd.R_slice hv0.row
      subst e0
      have HPS := Aside0.mk (ps_init hv0)
      have hq0 := blk_cell hv0.ov 0
      have hmk : ∀ W : World, (Instr.makeSlice 26 (.int .i64 66) (.int .i64 66)).run Try.prog W = .ok (.slice (some ⟨W.heap.size, 0, none⟩) 66 66) (W.alloc (.cells (Array.replicate 66 (.int .i64 0)) 3)) := fun W => make_ints 66 (by omega) W
      clear hv0 HQ0
      go_wp2_with fail
      clear hmk hq0
      obtain ⟨g, hg⟩ : ∃ g, wr.heap.size = g := ⟨_, rfl⟩
      rw [hg] at HPS ⊢
      clear hg
      go_loopw [105] (fun iv wl => ∃ k : Nat, k ≤ 66 ∧ iv = .int .i64 k ∧ Aside0 (Ps w wl c A cap w2.heap.size (.slice A0 (c.body.map (ren (fun j => rd l j))).length c0) (c.body.map (ren (fun j => rd l j))) g (fillP k))) (fun iv _ => 66 - (intOf iv).toNat)
      case atStart => exact ⟨0, Nat.zero_le _, rfl, HPS⟩
      case round =>
        obtain ⟨k, hk2, rfl, HP1⟩ := hrel
        clear HPS
        by_cases hlk : k < 66
        · obtain ⟨qd, zd⟩ := HP1.out.cell (k : Int) (by omega) (by omega)
          rw [Int.toNat_natCast] at qd zd
          have HP2 := Aside0.mk (HP1.out.put (k : Int) 77)
          rw [Int.toNat_natCast] at HP2
          have hlk' : (k : Int) < 66 := by omega
          go_wp2_with fail
          go_roundw
          case rel => exact ⟨k + 1, by omega, by go_num, HP2⟩
          case measure => simp [intOf]; omega
        · have hke : k = 66 := by omega
          subst hke
          have HP2 := Aside0.mk (show Ps w _ c A cap w2.heap.size (.slice A0 (c.body.map (ren (fun j => rd l j))).length c0) (c.body.map (ren (fun j => rd l j))) g (putP l ps (List.replicate 66 77) 0) from by have h := HP1.out; rw [fillP_all] at h; exact h)
          clear HP1
          go_wp2_with fail
          go_loopw [114] (fun iv wl => ∃ k : Nat, k ≤ ps.length ∧ iv = .int .i64 k ∧ Aside0 (Ps w wl c A cap w2.heap.size (.slice A0 (c.body.map (ren (fun j => rd l j))).length c0) (c.body.map (ren (fun j => rd l j))) g (putP l ps (List.replicate 66 77) k))) (fun iv _ => ps.length - (intOf iv).toNat)
          case atStart => exact ⟨0, Nat.zero_le _, rfl, HP2⟩
          case round =>
            obtain ⟨k, hk3, rfl, HP3⟩ := hrel
            clear HP2
            by_cases hlp : k < ps.length
            · have hpk := HRI.out.params (k := k) (by have := HPL.out; omega)
              obtain ⟨bB, oB, eB, hbB, hcB⟩ := row_addr HRB.out (by omega)
              subst eB
              obtain ⟨adp, ep, hxp⟩ := Kd.at_int (Kd.C_below HRD.out HP3.out.o.bel) (k : Int) (by omega) (by omega)
              subst ep
              rw [Int.toNat_natCast] at hxp
              have hxl0 := hcB (k : Int) (by omega) (by omega)
              rw [Int.toNat_natCast] at hxl0
              have hxl := (HP3.out.o.bel.cell (p := ⟨bB, oB + k, none⟩) hbB).trans hxl0
              clear hxl0
              obtain ⟨t, ht⟩ : ∃ t, rd l (k : Int) = t := ⟨_, rfl⟩
              rw [ht] at hxl
              have ht0 : 0 ≤ t := by omega
              have ht1 : t < 66 := by omega
              have hkl : k < l.length := hpk.2.2
              obtain ⟨qd, zd⟩ := HP3.out.cell t ht0 ht1
              have HP4 := Aside0.mk (HP3.out.put t (rd ps (k : Int)))
              have HTT := Aside0.mk ht
              clear hpk ht hcB
              go_wp2_with fail
              go_roundw
              case rel => exact ⟨k + 1, by omega, by go_num, ⟨by rw [show putP l ps (List.replicate 66 77) (k + 1) = setI (putP l ps (List.replicate 66 77) k) t (rd ps (k : Int)) from by rw [← HTT.out]; rfl]; exact HP4.out⟩⟩
              case measure => simp [intOf]; omega
            · have hke : k = ps.length := by omega
              subst hke
              have hq0 := blk_cell HP3.out.o.ov 0
              have hq1 := blk_cell HP3.out.o.ov 1
              have hq2 := blk_cell HP3.out.o.ov 2
              have hq3 := blk_cell HP3.out.o.ov 3
              have HPC2 := Aside0.mk (show CanL (places0 l ps) from putP_can HPC.out (canL_rep _ _ ⟨by decide, by decide⟩) (fun k hk => by have h := HRI.out.params (k := k) (by have := HPL.out; omega); exact ⟨h.1, by simp; omega⟩) ps.length (Nat.le_refl _))
              have HEO := Aside0.mk (exec_over (l := l) (ps := ps) HP3.out hsm HPC2.out HLIT.out HOF.out)
              rw [List.length_map] at HEO
              go_wp2_with fail
              refine HEO.out.mono ?_
              rintro e w7 ⟨a7, n7, k7, rfl, hb⟩
              have HD := Aside0.mk (HP3.out.o.below hb).bel
              clear hb hq0 hq1 hq2 hq3 HEO HP3
              go_wp2_with fail
              go_ret3
              exact ⟨rfl, HD.out⟩
theorem check_calls (c : Cod) (A : Option Addr) (cap : Nat) (l : List Int) (B : Option Addr) (capB : Nat) (ps : List Int) (D : Option Addr) (capD : Nat) (w : World) (hC : CodeAt w c A cap) (hlit : ∀ i : Nat, i < c.body.length → Live.Can (atIr c.body i).n) (hB : (Kd.int .i64).C w B l.length l) (hcapB : l.length ≤ capB) (hD : (Kd.int .i64).C w D ps.length ps) (hpc : CanL ps) {ah af : List Int} {er : Int} (hS : SetsIs c ah af er) (hE : er = 0 ∧ fits c = true ∧ LiveIs c ah af ∨ er = 4 ∧ fits c = false ∧ ah = [] ∧ af = []) :
    Calls Try.prog 37 #[.agg (c.vals A cap), .slice B l.length capB, .slice D ps.length capD] w (ExOut2 w (checkS c ah af l ps)) := by
  unfold checkS
  by_cases h : rightB c ah af l = true ∧ (ps.length : Int) = c.params
  · rcases hE with ⟨rfl, hf, hL⟩ | ⟨rfl, hf, rfl, rfl⟩
    · by_cases hR : fitsR c c.cells = true
      · rw [if_pos ⟨h.1, h.2, hR⟩]
        exact check_yes c A cap l B capB ps D capD w hC hlit hB hcapB hD hpc hS hL h.1 h.2 hR
      · rw [if_neg (fun e => hR e.2.2)]
        exact check_no2 c A cap l B capB ps D capD w hC hlit hB hcapB hS hL h.1 h.2 (by simpa using hR)
    · have h1 := (right_is h.1).fit
      rw [hf] at h1; cases h1
  · rw [if_neg (fun e => h ⟨e.1, e.2.1⟩)]
    exact check_no1 c A cap l B capB ps D capD w hC hB hcapB hS hE h
end Go.Proofs.Ytdcmeefeinppnaa.Check
