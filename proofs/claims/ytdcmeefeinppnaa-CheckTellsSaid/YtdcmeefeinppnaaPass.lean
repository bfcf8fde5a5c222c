/- live.sets: one walk over a code, backwards (the function literal in it). -/
import Derived.Test.YtdcmeefeinppnaaNext
import Derived.RegionTactic
import Derived.Outline
namespace Go.Proofs.Ytdcmeefeinppnaa.Live
open Go.RowKit Go.Proofs.YtdcmeefeinppnaaW.PrintWords Go.Proofs.YtdcmeefeinppnaaW.PrintLast Go.Proofs.YtdcmeefeinppnaaW.PrintMore Go.Proofs.Ytdcmeefeinppnaa.Mem Go.Proofs.Ytdcmeefeinppnaa.Ir
open MapOf (get put wp_lookup wp_look wp_update)
open Uses (uses uses_calls sorted sort_calls compact_calls infoInt sorted_length)
set_option linter.unusedVariables false
set_option linter.unusedSimpArgs false

theorem cell_al {W : World} {p : Addr} {v : Value} (h : W.cell? p = some v) (o : Obj) : (W.alloc o).cell? p = some v := by
  rw [World.cell?_alloc_some _ _ _ (by rw [h]; rfl)]; exact h
theorem froz_al {W : World} {p : Addr} {v : Value} (hc : W.cell? p = some v) (h : W.frozen? p = false) (o : Obj) : (W.alloc o).frozen? p = false := by
  have hb := Below.heap_alloc W o p.block (World.block_lt_of_cell? W p hc)
  unfold World.frozen? at h ⊢
  rw [hb]; exact h
theorem blk_new_set (w : World) (p : Addr) (v : Value) (o : Obj) : ((w.setCell p v).alloc o).heap[w.heap.size]? = some o := by
  have h := blk_new (w.setCell p v) o
  rwa [World.size_setCell] at h
theorem shl_bit {d : Int} (h : d ≤ 64) : shl .i64 1 d = wrap64 (2 ^ d.toNat) := by
  unfold shl
  rw [Nat.min_eq_left (show d.toNat ≤ IntKind.i64.bits by show d.toNat ≤ 64; omega), Int.one_mul, IntKind.wrap_i64]
  unfold wrap64
  exact Eq.refl _
def orL (ah : List Int) : List Int → Int → Int
  | [], s => s
  | k :: l, s => orL ah l (Go.bits .or .i64 s (rd ah k))
def bitL : List Int → Int → Int
  | [], s => s
  | k :: l, s => bitL l (Go.bits .or .i64 s (shl .i64 1 k))
theorem orL_snoc (ah : List Int) (l : List Int) (k : Int) : ∀ s, orL ah (l ++ [k]) s = Go.bits .or .i64 (orL ah l s) (rd ah k) := by
  induction l with
  | nil => intro s; rfl
  | cons x l ih => intro s; exact ih _
theorem bitL_snoc (l : List Int) (k : Int) : ∀ s, bitL (l ++ [k]) s = Go.bits .or .i64 (bitL l s) (shl .i64 1 k) := by
  induction l with
  | nil => intro s; rfl
  | cons x l ih => intro s; exact ih _
def clr (s d : Int) : Int := if 0 ≤ d then Go.bits .andNot .i64 s (shl .i64 1 d) else s
def stepS (ws : List (List Int)) (ah : List Int) (j : Nat) : Int := orL ah (ws.getD j []) 0
def stepT (c : Cod) (ws : List (List Int)) (ah : List Int) (j : Nat) : Int :=
  let x := atIr c.body j
  bitL (uses x.op x.a x.b x.c) (clr (stepS ws ah j) (defs x))
/-- one walk, from instruction k - 1 down to the first -/
def passN (c : Cod) (ws : List (List Int)) : Nat → List Int → List Int → Bool → List Int × List Int × Bool
  | 0, ah, af, ch => (ah, af, ch)
  | j + 1, ah, af, ch => passN c ws j (ah.set j (stepT c ws ah j)) (af.set j (stepS ws ah j)) (ch || stepT c ws ah j != rd ah j)

/-- in sets, behind the makes: where all lies -/
structure Lie (w : World) (bn ga gf lo : Nat) : Prop where
  n : w.heap.size + 3 ≤ bn
  a : w.heap.size + 3 ≤ ga
  f : w.heap.size + 3 ≤ gf
  af : ga ≠ gf
  an : ga ≠ bn
  fn : gf ≠ bn
  ln : bn < lo
  la : ga < lo
  lf : gf < lo
structure Sx (w W : World) (c : Cod) (A : Option Addr) (cap bn ga gf lo : Nat) (ah af : List Int) : Prop where
  lie : Lie w bn ga gf lo
  bel : Below w.heap.size w W
  sz : lo ≤ W.heap.size
  box : W.heap[w.heap.size]? = some (.cells (c.vals A cap) 24 (0, 0))
  na : W.heap[w.heap.size + 1]? = some (.cells #[.slice (some ⟨ga, 0, none⟩) c.body.length c.body.length] 26 (0, 0))
  nf : W.heap[w.heap.size + 1 + 1]? = some (.cells #[.slice (some ⟨gf, 0, none⟩) c.body.length c.body.length] 26 (0, 0))
  nn : W.heap[bn]? = some (.cells #[.int .i64 (c.body.length : Int)] 3 (0, 0))
  ra : W.heap[ga]? = some (.cells (ah.map (Value.int .i64)).toArray 3 (0, 0))
  rf : W.heap[gf]? = some (.cells (af.map (Value.int .i64)).toArray 3 (0, 0))
  la : ah.length = c.body.length
  lf : af.length = c.body.length
structure Wy (W : World) (n bw gw lo : Nat) (ws : List (List Int)) : Prop where
  wc : W.heap[bw]? = some (.cells #[.slice (some ⟨gw, 0, none⟩) n n] 63 (0, 0))
  rows : (Kd.slice 3 (Kd.int .i64)).R 26 W lo (fun _ => True) (.slice (some ⟨gw, 0, none⟩) n n) ws
  lb : lo ≤ bw
  lw : ws.length = n
section
variable {w W W1 : World} {c : Cod} {A : Option Addr} {cap bn ga gf lo n bw gw : Nat} {ah af : List Int} {ws : List (List Int)}
theorem Sx.below (h : Sx w W c A cap bn ga gf lo ah af) (hb : Below W.heap.size W W1) : Sx w W1 c A cap bn ga gf lo ah af :=
  ⟨h.lie, h.bel.trans (hb.mono (by have := h.sz; have := h.lie.n; have := h.lie.ln; omega)), Nat.le_trans h.sz hb.size, blk_below h.box hb, blk_below h.na hb, blk_below h.nf hb, blk_below h.nn hb, blk_below h.ra hb, blk_below h.rf hb, h.la, h.lf⟩
theorem Wy.below (h : Wy W n bw gw lo ws) (hb : Below W.heap.size W W1) : Wy W1 n bw gw lo ws := ⟨blk_below h.wc hb, Kd.R_below h.rows hb, h.lb, h.lw⟩
theorem map_set (l : List Int) (i : Nat) (v : Int) : (l.map (Value.int .i64)).toArray.setIfInBounds i (.int .i64 v) = ((l.set i v).map (Value.int .i64)).toArray := by
  simp [List.map_set]
theorem Sx.setA (h : Sx w W c A cap bn ga gf lo ah af) (i : Nat) (v : Int) : Sx w (W.setCell ⟨ga, i, none⟩ (.int .i64 v)) c A cap bn ga gf lo (ah.set i v) af := by
  have hl := h.lie
  have h1 := hl.a; have h2 := hl.af; have h3 := hl.an
  refine ⟨hl, h.bel.setCell (by simp; omega) _, by simpa using h.sz, blk_far h.box (by simp; omega) _, blk_far h.na (by simp; omega) _, blk_far h.nf (by simp; omega) _, blk_far h.nn (by simp; omega) _, ?_, blk_far h.rf (by simp; omega) _, by simpa using h.la, h.lf⟩
  have := blk_set h.ra i (.int .i64 v)
  rwa [map_set] at this
theorem Sx.setF (h : Sx w W c A cap bn ga gf lo ah af) (i : Nat) (v : Int) : Sx w (W.setCell ⟨gf, i, none⟩ (.int .i64 v)) c A cap bn ga gf lo ah (af.set i v) := by
  have hl := h.lie
  have h1 := hl.f; have h2 := hl.af; have h3 := hl.fn
  refine ⟨hl, h.bel.setCell (by simp; omega) _, by simpa using h.sz, blk_far h.box (by simp; omega) _, blk_far h.na (by simp; omega) _, blk_far h.nf (by simp; omega) _, blk_far h.nn (by simp; omega) _, blk_far h.ra (by simp; omega) _, ?_, h.la, by simpa using h.lf⟩
  have := blk_set h.rf i (.int .i64 v)
  rwa [map_set] at this
theorem Wy.far (h : Wy W n bw gw lo ws) {p : Addr} (hp : p.block < lo) (v : Value) : Wy (W.setCell p v) n bw gw lo ws :=
  ⟨blk_far h.wc (by have := h.lb; omega) v, Kd.R_mono (Kd.R_far (Kd.R_bound h.rows) (fun k hk => by have := hk.2.1; omega) v) (fun _ _ => trivial), h.lb, h.lw⟩
theorem cell_row {g : Nat} {l : List Int} (h : W.heap[g]? = some (.cells (l.map (Value.int .i64)).toArray 3 (0, 0))) (i : Nat) (hi : i < l.length) : W.cell? ⟨g, i, none⟩ = some (.int .i64 (rd l (i : Int))) := by
  rw [blk_cell h i]
  unfold rd
  rw [Int.toNat_natCast, List.getD_eq_getElem?_getD, List.getElem?_eq_getElem hi]
  simp [hi]
theorem Wy.at_ (h : Wy W n bw gw lo ws) (j : Nat) (hj : j < n) : ∃ A' c', W.cell? ⟨gw, j, none⟩ = some (.slice A' (ws.getD j []).length c') ∧ (Kd.int .i64).C W A' (ws.getD j []).length (ws.getD j []) := by
  obtain ⟨A1, c1, e, _, hC⟩ := Kd.R_reads h.rows
  rw [h.lw] at e hC
  injection e with e1 e2 e3
  obtain ⟨ad, cs, ea, _, ⟨A', c', rfl, hl, hCi⟩, hc⟩ := Kd.C_get hC ([] : List Int) (j : Int) (by omega) (by omega)
  rw [← e1] at ea
  injection ea with ea
  subst ea
  rw [Int.toNat_natCast] at hCi hc
  have := hc 0 _ rfl
  refine ⟨A', c', ?_, hCi⟩
  have hsz : (Kd.slice 3 (Kd.int .i64)).sz = 1 := rfl
  rw [hsz, Nat.mul_one, Nat.add_zero] at this
  unfold Addr.add at this
  split at this
  · rename_i h0; subst h0; exact this
  · simpa using this
end

theorem take_snoc {l : List Int} {q : Nat} (h : q < l.length) : l.take (q + 1) = l.take q ++ [rd l (q : Int)] := by
  rw [List.take_succ_eq_append_getElem h]
  unfold rd
  rw [Int.toNat_natCast, List.getD_eq_getElem?_getD, List.getElem?_eq_getElem h]
  rfl
theorem rd_mem {l : List Int} {q : Nat} (h : q < l.length) : rd l (q : Int) ∈ l := by
  unfold rd
  rw [Int.toNat_natCast, List.getD_eq_getElem?_getD, List.getElem?_eq_getElem h]
  exact List.getElem_mem h
/-- what is known of the code and of the ways: so that nothing panics -/
structure Fine (c : Cod) (ws : List (List Int)) : Prop where
  way : ∀ j, j < c.body.length → ∀ k ∈ ws.getD j [], 0 ≤ k ∧ k < c.body.length
  len : ∀ j, j < c.body.length → (ws.getD j []).length ≤ 3
  use : ∀ j, j < c.body.length → ∀ k ∈ uses (atIr c.body j).op (atIr c.body j).a (atIr c.body j).b (atIr c.body j).c, 0 ≤ k ∧ k < 60
  dfs : ∀ j, j < c.body.length → defs (atIr c.body j) < 60
def PassOut (w : World) (c : Cod) (A : Option Addr) (cap bn ga gf lo bw gw : Nat) (ws : List (List Int)) (r : List Int × List Int × Bool) (e : Ending) (W' : World) : Prop :=
  e = .returned (.bool r.2.2) ∧ Sx w W' c A cap bn ga gf lo r.1 r.2.1 ∧ Wy W' c.body.length bw gw lo ws

set_option maxHeartbeats 4000000 in
set_option maxRecDepth 100000 in
theorem pass_calls {w W : World} {c : Cod} {A : Option Addr} {cap bn ga gf lo bw gw : Nat} {ah af : List Int} {ws : List (List Int)} (hC : CodeAt w c A cap) (hn : c.body.length ≤ 1000) (hF : Fine c ws)
    (HX : Sx w W c A cap bn ga gf lo ah af) (HY : Wy W c.body.length bw gw lo ws) :
    Calls Try.prog 68 #[.pointer (some ⟨bn, 0, none⟩), .pointer (some ⟨w.heap.size, 0, none⟩), .pointer (some ⟨bw, 0, none⟩), .pointer (some ⟨w.heap.size + 1, 0, none⟩), .pointer (some ⟨w.heap.size + 1 + 1, 0, none⟩)] W (PassOut w c A cap bn ga gf lo bw gw ws (passN c ws c.body.length ah af false)) := by
  have HC := Aside0.mk hC
  have HFI := Aside0.mk hF
  have HP := Aside0.mk HX
  have HQ := Aside0.mk HY
  have hc0 := blk_cell HX.nn 0
  obtain ⟨R, hR⟩ : ∃ R, passN c ws c.body.length ah af false = R := ⟨_, rfl⟩
  rw [hR]
  have HR := Aside0.mk hR
  clear hC hF HX HY hR
  go_enter Try.func68, Try.ntmps68
  go_wp2_with fail
  clear hc0
  go_loopw [5, 6] (fun cv iv wr => ∃ (z : Int) (ah1 af1 : List Int) (ch : Bool), cv = .bool ch ∧ iv = .int .i64 z ∧ -1 ≤ z ∧ z < c.body.length ∧ Aside0 (passN c ws (z + 1).toNat ah1 af1 ch = R) ∧ Aside0 (Sx w wr c A cap bn ga gf lo ah1 af1) ∧ Aside0 (Wy wr c.body.length bw gw lo ws)) (fun _ iv _ => (intOf iv + 1).toNat)
  case atStart => exact ⟨_, ah, af, false, rfl, rfl, by omega, by omega, ⟨by have := HR.out; simpa using this⟩, HP, HQ⟩
  case round =>
    obtain ⟨z, ah1, af1, ch, rfl, rfl, hz0, hz1, HR1, HP1, HQ1⟩ := hrel
    clear HP HQ HR
    by_cases hz : 0 ≤ z
    · obtain ⟨j, rfl⟩ := Int.eq_ofNat_of_zero_le hz
      have hj : j < c.body.length := by omega
      obtain ⟨ad, e, hx0, hx1, hx2, hx3, hx4, hx5, hx6⟩ := at_ir (Kd.C_below HC.out.row HP1.out.bel) j hj
      subst e
      have hway := HFI.out.way j hj
      have hlen := HFI.out.len j hj
      have huse := HFI.out.use j hj
      have hdfs := HFI.out.dfs j hj
      have hrr : passN c ws j (ah1.set j (stepT c ws ah1 j)) (af1.set j (stepS ws ah1 j)) (ch || stepT c ws ah1 j != rd ah1 j) = R := by
        have h := HR1.out
        rw [show ((j : Int) + 1).toNat = j + 1 by omega] at h
        exact h
      have HT : Aside0 (stepT c ws ah1 j = bitL (uses (atIr c.body j).op (atIr c.body j).a (atIr c.body j).b (atIr c.body j).c) (clr (stepS ws ah1 j) (defs (atIr c.body j)))) := ⟨rfl⟩
      have HS : Aside0 (stepS ws ah1 j = orL ah1 (ws.getD j []) 0) := ⟨rfl⟩
      obtain ⟨T, hT⟩ : ∃ T, stepT c ws ah1 j = T := ⟨_, rfl⟩
      obtain ⟨S, hS⟩ : ∃ S, stepS ws ah1 j = S := ⟨_, rfl⟩
      rw [hT, hS] at hrr HT
      rw [hS] at HS
      have HRR := Aside0.mk hrr
      clear hrr hT hS HR1
      obtain ⟨x, hx⟩ : ∃ x, atIr c.body j = x := ⟨_, rfl⟩
      rw [hx] at hx0 hx1 hx2 hx3 hx4 hx5 hx6 HT huse hdfs
      clear hx
      obtain ⟨A', c', hwj, hCi⟩ := HQ1.out.at_ j hj
      obtain ⟨wj, hwjl⟩ : ∃ wj, ws.getD j [] = wj := ⟨_, rfl⟩
      rw [hwjl] at hwj hCi hway hlen HS
      clear hwjl
      have HWC := Aside0.mk hCi
      have HWAY := Aside0.mk hway
      have HUSE := Aside0.mk huse
      obtain ⟨d, hd⟩ : ∃ d, defs x = d := ⟨_, rfl⟩
      rw [hd] at HT hdfs
      have HD := Aside0.mk hd
      clear hway huse hd hCi
      have hb2 := blk_cell HP1.out.box 2
      have hwc := blk_cell HQ1.out.wc 0
      have hna := blk_cell HP1.out.na 0
      have hnf := blk_cell HP1.out.nf 0
      have hfj := cell_row HP1.out.rf j (by rw [HP1.out.lf]; exact hj)
      have hff := blk_frozen HP1.out.rf j
      have hl1 := blk_lt HQ1.out.wc
      have hl2 := blk_lt HP1.out.box
      have hl3 := blk_lt HP1.out.na
      have hl4 := blk_lt HP1.out.nf
      have hl5 := blk_lt HP1.out.ra
      have hl6 := blk_lt HP1.out.rf
      have hl7 := World.block_lt_of_cell? _ _ hwj
      obtain ⟨op, dst, a, b, cc, n, m⟩ := x
      go_wp2_with fail
      clear hwc hwj hx0 hx1 hx2 hx3 hx4 hx5 hx6 hb2 hl7
      go_loop [8, 30] (fun sv iv => ∃ q : Nat, q ≤ wj.length ∧ iv = .int .i64 q ∧ sv = .int .i64 (orL ah1 (wj.take q) 0)) (fun _ iv => wj.length - (intOf iv).toNat)
      case atStart => exact ⟨0, Nat.zero_le _, rfl, rfl⟩
      case round =>
        obtain ⟨q, hq, rfl, rfl⟩ := hrel
        by_cases hql : q < wj.length
        · obtain ⟨adw, e, hqc⟩ := Kd.at_int HWC.out (q : Int) (by omega) (by omega)
          subst e
          rw [Int.toNat_natCast] at hqc
          have hq2 := fun o => cell_al hqc o
          obtain ⟨h0, h1⟩ := HWAY.out _ (rd_mem hql)
          obtain ⟨kn, hkn⟩ := Int.eq_ofNat_of_zero_le h0
          have HSN := Aside0.mk (show orL ah1 (wj.take (q + 1)) 0 = Go.bits .or .i64 (orL ah1 (wj.take q) 0) (rd ah1 (kn : Int)) by rw [take_snoc hql, orL_snoc, hkn])
          rw [hkn] at hq2 h1
          have hak := cell_row HP1.out.ra kn (by rw [HP1.out.la]; omega)
          clear h0 hkn hqc
          go_wp2_with fail
          go_round
          case rel => exact ⟨q + 1, by omega, by go_num, by rw [HSN.out]⟩
          case measure => simp [intOf]; omega
        · have hqq : q = wj.length := by omega
          have hlt2 : decide ((q : Int) < (wj.length : Int)) = false := decide_eq_false (by omega)
          have hse : orL ah1 (wj.take q) 0 = S := by rw [hqq, List.take_length]; exact HS.out.symm
          rw [hse]
          clear hse
          go_wp2_with fail
          refine (defs_calls' HD.out _).mono ?_
          rintro e w1 ⟨rfl, hb⟩
          have HX1 := Aside0.mk (((HP1.out.setF j S).below ((Below.refl _ _).alloc (Nat.le_refl _) _)).below hb)
          have HY1 := Aside0.mk (((HQ1.out.far (p := ⟨gf, j, none⟩) HP1.out.lie.lf _).below ((Below.refl _ _).alloc (Nat.le_refl _) _)).below hb)
          have hxb := blk_below (blk_new_set wr ⟨gf, j, none⟩ (.int .i64 S) (.cells #[.int .i64 op, .int .i64 dst, .int .i64 a, .int .i64 b, .int .i64 cc, .int .i64 n, .int .i64 m] 38)) hb
          clear hb hna hnf hfj hff hl1 hl2 hl3 hl4 hl5 hl6 hlt2 HP1 HQ1
          have hy0 := blk_cell hxb 0
          have hy1 := blk_cell hxb 1
          have hy2 := blk_cell hxb 2
          have hy3 := blk_cell hxb 3
          have hy4 := blk_cell hxb 4
          have hy5 := blk_cell hxb 5
          have hy6 := blk_cell hxb 6
          have hul := uses_len op a b cc
          obtain ⟨s0, hs0⟩ : ∃ s0, s0 = clr S d := ⟨_, rfl⟩
          have HS0 := Aside0.mk hs0.symm
          by_cases hd : 0 ≤ d
          · have hdb : decide (0 ≤ d) = true := decide_eq_true hd
            have hsd : Go.bits .andNot .i64 S (wrap64 (2 ^ d.toNat)) = s0 := by rw [hs0]; unfold clr; rw [if_pos hd, shl_bit (by omega)]
            have HSD := Aside0.mk hsd
            clear hs0 hsd
            go_wp2_with (go_at_call 23; refine (uses_calls _ _ _ _ _ _ _ _).mono ?_; rintro e w3 ⟨v3, rfl, hR, hb⟩; have HX2 := Aside0.mk (HX1.out.below hb); have HY2 := Aside0.mk (HY1.out.below hb); obtain ⟨A3, c3, rfl, hc3, hC3⟩ := Kd.R_reads hR; have HC3 := Aside0.mk hC3; clear hb hR hC3 hy0 hy1 hy2 hy3 hy4 hy5 hy6 hxb)
            rw [HSD.out]
            go_loop [8, 56] (fun sv iv => ∃ q : Nat, q ≤ (uses op a b cc).length ∧ iv = .int .i64 q ∧ sv = .int .i64 (bitL ((uses op a b cc).take q) s0)) (fun _ iv => (uses op a b cc).length - (intOf iv).toNat)
            case atStart => exact ⟨0, Nat.zero_le _, rfl, rfl⟩
            case round =>
              obtain ⟨q3, hq3, rfl, rfl⟩ := hrel
              by_cases hql3 : q3 < (uses op a b cc).length
              · obtain ⟨adw, e, hqc⟩ := Kd.at_int HC3.out (q3 : Int) (by omega) (by omega)
                subst e
                rw [Int.toNat_natCast] at hqc
                obtain ⟨h0, h1⟩ := HUSE.out _ (rd_mem hql3)
                have HSN := Aside0.mk (show bitL ((uses op a b cc).take (q3 + 1)) s0 = Go.bits .or .i64 (bitL ((uses op a b cc).take q3) s0) (wrap64 (2 ^ (rd (uses op a b cc) (q3 : Int)).toNat)) by rw [take_snoc hql3, bitL_snoc, shl_bit (by omega)])
                go_wp2_with fail
                go_round
                case rel => exact ⟨q3 + 1, by omega, by go_num, by rw [HSN.out]⟩
                case measure => simp [intOf]; omega
              · have hse : bitL ((uses op a b cc).take q3) s0 = T := by rw [show q3 = (uses op a b cc).length by omega, List.take_length, HT.out, HS0.out]
                rw [hse]
                clear hse
                have hna := blk_cell HX2.out.na 0
                have haj := cell_row HX2.out.ra j (by rw [HX2.out.la]; exact hj)
                have haf := blk_frozen HX2.out.ra j
                cases ch with
                | true =>
                  go_wp2_with fail
                  go_roundw
                  case rel => exact ⟨(j : Int) - 1, ah1.set j T, af1.set j S, true, rfl, rfl, by omega, by omega, ⟨by rw [show ((j : Int) - 1 + 1).toNat = j by omega]; exact HRR.out⟩, ⟨HX2.out.setA j T⟩, ⟨HY2.out.far (p := ⟨ga, j, none⟩) HX2.out.lie.la _⟩⟩
                  case measure => first | (simp [intOf]; done) | (simp [intOf]; omega)
                | false =>
                  go_wp2_with fail
                  go_roundw
                  case rel => exact ⟨(j : Int) - 1, ah1.set j T, af1.set j S, T != rd ah1 j, rfl, rfl, by omega, by omega, ⟨by rw [show ((j : Int) - 1 + 1).toNat = j by omega]; exact HRR.out⟩, ⟨HX2.out.setA j T⟩, ⟨HY2.out.far (p := ⟨ga, j, none⟩) HX2.out.lie.la _⟩⟩
                  case measure => first | (simp [intOf]; done) | (simp [intOf]; omega)
          · have hdb : decide (0 ≤ d) = false := decide_eq_false hd
            have hsd : S = s0 := by rw [hs0]; unfold clr; rw [if_neg hd]
            clear hs0
            subst hsd
            go_wp2_with (go_at_call 23; refine (uses_calls _ _ _ _ _ _ _ _).mono ?_; rintro e w3 ⟨v3, rfl, hR, hb⟩; have HX2 := Aside0.mk (HX1.out.below hb); have HY2 := Aside0.mk (HY1.out.below hb); obtain ⟨A3, c3, rfl, hc3, hC3⟩ := Kd.R_reads hR; have HC3 := Aside0.mk hC3; clear hb hR hC3 hy0 hy1 hy2 hy3 hy4 hy5 hy6 hxb)
            go_loop [8, 56] (fun sv iv => ∃ q : Nat, q ≤ (uses op a b cc).length ∧ iv = .int .i64 q ∧ sv = .int .i64 (bitL ((uses op a b cc).take q) S)) (fun _ iv => (uses op a b cc).length - (intOf iv).toNat)
            case atStart => exact ⟨0, Nat.zero_le _, rfl, rfl⟩
            case round =>
              obtain ⟨q3, hq3, rfl, rfl⟩ := hrel
              by_cases hql3 : q3 < (uses op a b cc).length
              · obtain ⟨adw, e, hqc⟩ := Kd.at_int HC3.out (q3 : Int) (by omega) (by omega)
                subst e
                rw [Int.toNat_natCast] at hqc
                obtain ⟨h0, h1⟩ := HUSE.out _ (rd_mem hql3)
                have HSN := Aside0.mk (show bitL ((uses op a b cc).take (q3 + 1)) S = Go.bits .or .i64 (bitL ((uses op a b cc).take q3) S) (wrap64 (2 ^ (rd (uses op a b cc) (q3 : Int)).toNat)) by rw [take_snoc hql3, bitL_snoc, shl_bit (by omega)])
                go_wp2_with fail
                go_round
                case rel => exact ⟨q3 + 1, by omega, by go_num, by rw [HSN.out]⟩
                case measure => first | (simp [intOf]; done) | (simp [intOf]; omega)
              · have hse : bitL ((uses op a b cc).take q3) S = T := by rw [show q3 = (uses op a b cc).length by omega, List.take_length, HT.out, HS0.out]
                rw [hse]
                clear hse
                have hna := blk_cell HX2.out.na 0
                have haj := cell_row HX2.out.ra j (by rw [HX2.out.la]; exact hj)
                have haf := blk_frozen HX2.out.ra j
                cases ch with
                | true =>
                  go_wp2_with fail
                  go_roundw
                  case rel => exact ⟨(j : Int) - 1, ah1.set j T, af1.set j S, true, rfl, rfl, by omega, by omega, ⟨by rw [show ((j : Int) - 1 + 1).toNat = j by omega]; exact HRR.out⟩, ⟨HX2.out.setA j T⟩, ⟨HY2.out.far (p := ⟨ga, j, none⟩) HX2.out.lie.la _⟩⟩
                  case measure => first | (simp [intOf]; done) | (simp [intOf]; omega)
                | false =>
                  go_wp2_with fail
                  go_roundw
                  case rel => exact ⟨(j : Int) - 1, ah1.set j T, af1.set j S, T != rd ah1 j, rfl, rfl, by omega, by omega, ⟨by rw [show ((j : Int) - 1 + 1).toNat = j by omega]; exact HRR.out⟩, ⟨HX2.out.setA j T⟩, ⟨HY2.out.far (p := ⟨ga, j, none⟩) HX2.out.lie.la _⟩⟩
                  case measure => first | (simp [intOf]; done) | (simp [intOf]; omega)
    · have hzz : z = -1 := by omega
      subst hzz
      go_wp2_with fail
      go_ret
      have h := HR1.out
      rw [show ((-1 : Int) + 1).toNat = 0 by rfl] at h
      have h2 : (ah1, af1, ch) = R := h
      subst h2
      exact ⟨rfl, HP1.out, HQ1.out⟩
end Go.Proofs.Ytdcmeefeinppnaa.Live
