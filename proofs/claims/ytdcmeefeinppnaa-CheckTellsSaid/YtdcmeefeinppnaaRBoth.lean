/- The reference's Both: what is live ahead and behind, by walks till nothing changes. -/
import Derived.Test.YtdcmeefeinppnaaRNext
namespace Go.Proofs.Ytdcmeefeinppnaa.Live
open Go.RowKit Go.Proofs.YtdcmeefeinppnaaW.PrintWords Go.Proofs.YtdcmeefeinppnaaW.PrintLast Go.Proofs.YtdcmeefeinppnaaW.PrintMore Go.Proofs.Ytdcmeefeinppnaa.Mem Go.Proofs.Ytdcmeefeinppnaa.Ir
open Uses (uses)
set_option linter.unusedVariables false
set_option linter.unusedSimpArgs false

/-! ### plain -/
def rpassN (c : Cod) (ws : List (List Int)) : Nat → List Int → List Int → Bool → List Int × List Int × Bool
  | 0, ah, af, ch => (ah, af, ch)
  | j + 1, ah, af, ch => rpassN c ws j (ah.set j (stepT c ws ah j)) (af.set j (stepS ws ah j)) (ch || (stepS ws ah j != rd af j || stepT c ws ah j != rd ah j))
theorem rp_same (c : Cod) (ws : List (List Int)) : ∀ (k : Nat) (ah af : List Int) (c1 c2 : Bool), (rpassN c ws k ah af c1).1 = (passN c ws k ah af c2).1 ∧ (rpassN c ws k ah af c1).2.1 = (passN c ws k ah af c2).2.1
  | 0, _, _, _, _ => ⟨rfl, rfl⟩
  | k + 1, ah, af, _, _ => rp_same c ws k _ _ _ _
theorem rp_flag (c : Cod) (ws : List (List Int)) : ∀ (k : Nat) (ah af : List Int) (c1 c2 : Bool), (c2 = true → c1 = true) → (passN c ws k ah af c2).2.2 = true → (rpassN c ws k ah af c1).2.2 = true
  | 0, _, _, _, _, h, h2 => h h2
  | k + 1, ah, af, c1, c2, h, h2 => rp_flag c ws k _ _ _ _ (fun e => by
      rcases Bool.or_eq_true _ _ ▸ e with e | e
      · rw [h e]; rfl
      · rw [e]; simp) h2
theorem set_rd {l : List Int} {j : Nat} (h : j < l.length) : l.set j (rd l (j : Int)) = l := by
  rw [Ins.rd_get l j h]
  exact List.set_getElem_self h
theorem rp_fix {c : Cod} {ah af : List Int} (h : LiveIs c ah af) : ∀ (k : Nat) (ch : Bool), k ≤ c.body.length → rpassN c (waysOf c) k ah af ch = (ah, af, ch)
  | 0, _, _ => rfl
  | k + 1, ch, hk => by
    unfold rpassN
    have h1 := h.fa k (by omega)
    have h2 := h.ff k (by omega)
    rw [← h1, ← h2, set_rd (by rw [h.la]; omega), set_rd (by rw [h.lf]; omega)]
    have : (ch || (rd af (k : Int) != rd af (k : Int) || rd ah (k : Int) != rd ah (k : Int))) = ch := by simp
    rw [this]
    exact rp_fix h k ch (by omega)
def St (c : Cod) (rh rf : List Int) : Nat → List Int → List Int → Bool → Prop
  | 0, X, Y, ch => ch = false ∧ X = rh ∧ Y = rf
  | 1, X, Y, ch => ch = true ∧ X = rh ∧ Y = rf
  | k + 2, X, Y, ch => ch = true ∧ iterS c (waysOf c) k X Y = some (rh, rf)
theorem St.pass {c : Cod} {rh rf X Y : List Int} {ch : Bool} {g : Nat} (hl : LiveIs c rh rf) (h : St c rh rf (g + 1) X Y ch) : ch = true ∧ ∃ X' Y' fl, rpassN c (waysOf c) c.body.length X Y false = (X', Y', fl) ∧ ∃ g', g' ≤ g ∧ St c rh rf g' X' Y' fl := by
  cases g with
  | zero =>
    obtain ⟨h1, rfl, rfl⟩ := h
    exact ⟨h1, _, _, _, rp_fix hl _ _ (Nat.le_refl _), 0, Nat.le_refl _, rfl, rfl, rfl⟩
  | succ k =>
    obtain ⟨h1, h2⟩ := h
    cases k with
    | zero => simp [iterS] at h2
    | succ k =>
      refine ⟨h1, _, _, _, rfl, ?_⟩
      obtain ⟨s1, s2⟩ := rp_same c (waysOf c) c.body.length X Y false false
      have s3 := rp_flag c (waysOf c) c.body.length X Y false false (fun e => e)
      unfold iterS at h2
      by_cases hf : (passN c (waysOf c) c.body.length X Y false).2.2 = true
      · rw [if_pos hf, ← s1, ← s2] at h2
        exact ⟨k + 2, Nat.le_refl _, s3 hf, h2⟩
      · rw [if_neg hf, ← s1, ← s2] at h2
        injection h2 with h2
        injection h2 with h2 h3
        cases hr : (rpassN c (waysOf c) c.body.length X Y false).2.2 with
        | true => exact ⟨1, by omega, rfl, h2, h3⟩
        | false => exact ⟨0, by omega, rfl, h2, h3⟩

theorem bv_bitL (l : List Int) : ∀ s : Int, bv (bitL l s) = bv s ||| bv (bitL l 0) := by
  induction l with
  | nil => intro s; show bv s = bv s ||| bv 0; simp [bv]
  | cons k l ih =>
    intro s
    show bv (bitL l (Go.bits .or .i64 s (shl .i64 1 k))) = bv s ||| bv (bitL l (Go.bits .or .i64 0 (shl .i64 1 k)))
    rw [ih, ih (Go.bits .or .i64 0 (shl .i64 1 k)), bv_or, bv_or]
    have : bv 0 = 0 := rfl
    rw [this]
    simp [BitVec.or_assoc]
theorem can_bitL (l : List Int) : ∀ s : Int, Can s → Can (bitL l s) := by
  induction l with
  | nil => intro s h; exact h
  | cons k l ih => intro s _; exact ih _ (can_bits _ _ _)
theorem or_set {s : Int} (h : Can s) (l : List Int) : Go.bits .or .i64 s (bitL l 0) = bitL l s :=
  bv_inj (can_bits _ _ _) (can_bitL l s h) (by rw [bv_or, ← bv_bitL])
theorem can_clr {s : Int} (h : Can s) (d : Int) : Can (clr s d) := by
  unfold clr; split
  · exact can_bits _ _ _
  · exact h

/-! ### where all lies -/
structure Bo (w W : World) (c : Cod) (A : Option Addr) (cap ga gh lo : Nat) (ah af : List Int) : Prop where
  bel : Below w.heap.size w W
  sz : lo ≤ W.heap.size
  box : W.heap[w.heap.size]? = some (.cells (c.vals A cap) 24 (0, 0))
  ia : w.heap.size < ga
  ih : w.heap.size < gh
  ne : ga ≠ gh
  la : ga < lo
  lh : gh < lo
  rh : W.heap[gh]? = some (.cells (ah.map (Value.int .i64)).toArray 3 (0, 0))
  rf : W.heap[ga]? = some (.cells (af.map (Value.int .i64)).toArray 3 (0, 0))
  nh : ah.length = c.body.length
  nf : af.length = c.body.length
structure Wz (W : World) (n gw lo : Nat) (ws : List (List Int)) : Prop where
  rows : (Kd.slice 3 (Kd.int .i64)).R 26 W lo (fun _ => True) (.slice (some ⟨gw, 0, none⟩) n n) ws
  lw : ws.length = n
section
variable {w W W1 : World} {c : Cod} {A : Option Addr} {cap ga gh lo n gw : Nat} {ah af : List Int} {ws : List (List Int)}
theorem Bo.below (h : Bo w W c A cap ga gh lo ah af) (hb : Below W.heap.size W W1) : Bo w W1 c A cap ga gh lo ah af :=
  ⟨h.bel.trans (hb.mono (by have := h.sz; have := h.ia; have := h.la; omega)), Nat.le_trans h.sz hb.size, blk_below h.box hb, h.ia, h.ih, h.ne, h.la, h.lh, blk_below h.rh hb, blk_below h.rf hb, h.nh, h.nf⟩
theorem Bo.setH (h : Bo w W c A cap ga gh lo ah af) (i : Nat) (v : Int) : Bo w (W.setCell ⟨gh, i, none⟩ (.int .i64 v)) c A cap ga gh lo (ah.set i v) af := by
  have h1 := h.ih; have h2 := h.ne
  refine ⟨h.bel.setCell (by simp; omega) _, by simpa using h.sz, blk_far h.box (by simp; omega) _, h.ia, h.ih, h.ne, h.la, h.lh, ?_, blk_far h.rf (by simp; omega) _, by simpa using h.nh, h.nf⟩
  have := blk_set h.rh i (.int .i64 v)
  rwa [map_set] at this
theorem Bo.setA (h : Bo w W c A cap ga gh lo ah af) (i : Nat) (v : Int) : Bo w (W.setCell ⟨ga, i, none⟩ (.int .i64 v)) c A cap ga gh lo ah (af.set i v) := by
  have h1 := h.ia; have h2 := h.ne
  refine ⟨h.bel.setCell (by simp; omega) _, by simpa using h.sz, blk_far h.box (by simp; omega) _, h.ia, h.ih, h.ne, h.la, h.lh, blk_far h.rh (by simp; omega) _, ?_, h.nh, by simpa using h.nf⟩
  have := blk_set h.rf i (.int .i64 v)
  rwa [map_set] at this
theorem Bo.up (h : Bo w W c A cap ga gh lo ah af) {p : Addr} (hp : lo ≤ p.block) (v : Value) : Bo w (W.setCell p v) c A cap ga gh lo ah af := by
  have h1 := h.ia; have h2 := h.ih; have h3 := h.la; have h4 := h.lh
  exact ⟨h.bel.setCell (by omega) _, by simpa using h.sz, blk_far h.box (by omega) _, h.ia, h.ih, h.ne, h.la, h.lh, blk_far h.rh (by omega) _, blk_far h.rf (by omega) _, h.nh, h.nf⟩
theorem Wz.below (h : Wz W n gw lo ws) (hb : Below W.heap.size W W1) : Wz W1 n gw lo ws := ⟨Kd.R_below h.rows hb, h.lw⟩
theorem Wz.far (h : Wz W n gw lo ws) {p : Addr} (hp : p.block < lo) (v : Value) : Wz (W.setCell p v) n gw lo ws :=
  ⟨Kd.R_mono (Kd.R_far (Kd.R_bound h.rows) (fun k hk => by have := hk.2.1; omega) v) (fun _ _ => trivial), h.lw⟩
theorem Wz.at_ (h : Wz W n gw lo ws) (j : Nat) (hj : j < n) : ∃ A' c', W.cell? ⟨gw, j, none⟩ = some (.slice A' (ws.getD j []).length c') ∧ (Kd.int .i64).C W A' (ws.getD j []).length (ws.getD j []) := by
  obtain ⟨A1, c1, e, _, hC⟩ := Kd.R_reads h.rows
  rw [h.lw] at e hC
  injection e with e1 e2 e3
  obtain ⟨ad, cs, ea, _, ⟨A', c', rfl, hl, hCi⟩, hc⟩ := Kd.C_get hC ([] : List Int) (j : Int) (by omega) (by omega)
  rw [← e1] at ea
  injection ea with ea
  subst ea
  rw [Int.toNat_natCast] at hCi hc
  have := hc 0 _ rfl
  refine ⟨A', c', ?_, hCi⟩
  have hsz : (Kd.slice 3 (Kd.int .i64)).sz = 1 := rfl
  rw [hsz, Nat.mul_one, Nat.add_zero] at this
  unfold Addr.add at this
  split at this
  · rename_i h0; subst h0; exact this
  · simpa using this
theorem Wz.free {k : Nat} (h : Wz W n gw lo ws) (hk : k < n) : W.frozen? ⟨gw, k, none⟩ = false := by
  obtain ⟨g, cap, e, hbg, hgs, cells, hgc⟩ := Kd.R_form h.rows (by rw [h.lw]; omega)
  injection e with e1 e2 e3
  injection e1 with e1
  injection e1 with e1
  subst e1
  exact blk_frozen hgc k
theorem Wz.set {k : Nat} {v : Value} {l : List Int} (h : Wz W n gw lo ws) (hk : k < n) (hv : (Kd.int .i64).R 3 W lo (fun _ => True) v l) : Wz (W.setCell ⟨gw, k, none⟩ v) n gw lo (ws.set k l) := by
  obtain ⟨g, cap, e, hbg, hgs, cells, hgc⟩ := Kd.R_form h.rows (by rw [h.lw]; omega)
  injection e with e1 e2 e3
  injection e1 with e1
  injection e1 with e1
  subst e1
  obtain ⟨ce, hcl, hM, hcc, hfr⟩ := Kd.R_elem h.rows ([] : List Int) (k : Int) (by omega) (by omega)
  have hsz : (Kd.slice 3 (Kd.int .i64)).sz = 1 := rfl
  rw [Int.toNat_natCast] at hM hcc
  have h2 := Kd.R_seg h.rows (k : Int) (by omega) (by omega) (c := ce) (seg := [v]) (j := 0) (x' := l) (okp := fun q => q ≠ gw) hcl (by rw [Int.toNat_natCast]; exact hcc) (by rw [hsz]; simp) (by
      have hce : ce.length = 1 := hcl
      have e0 : ce.take 0 ++ [v] ++ ce.drop (0 + [v].length) = [v] := by
        rw [List.drop_eq_nil_of_le (by simp [hce])]; simp
      rw [e0]
      exact ⟨v, rfl, Kd.R_mono (Kd.R_types hv hgc (by decide)) (fun _ hk => hk.2)⟩) (fun _ hk => ⟨trivial, hk⟩)
  obtain ⟨h3, h4⟩ := h2
  rw [hsz, Int.toNat_natCast] at h3 h4
  have e5 : W.setCells gw (k * 1 + 0) [v] = W.setCell ⟨gw, k, none⟩ v := by
    rw [Nat.mul_one, Nat.add_zero]; rfl
  rw [e5] at h3
  exact ⟨h3, by rw [List.length_set]; exact h.lw⟩
end
theorem bo_make {w W : World} {c : Cod} {A : Option Addr} {cap : Nat} (h : Rf w W c A cap) (o : Obj) :
    Bo w (((W.alloc (.cells (Array.replicate c.body.length (.int .i64 0)) 3)).alloc (.cells (Array.replicate c.body.length (.int .i64 0)) 3)).alloc o) c A cap W.heap.size (W.heap.size + 1) (W.heap.size + 1 + 1) (List.replicate c.body.length 0) (List.replicate c.body.length 0) := by
  have hz := h.sz
  have h1 := blk_new W (.cells (Array.replicate c.body.length (.int .i64 0)) 3)
  have h2 := blk_new (W.alloc (.cells (Array.replicate c.body.length (.int .i64 0)) 3)) (.cells (Array.replicate c.body.length (.int .i64 0)) 3)
  rw [World.size_alloc] at h2
  refine ⟨((h.bel.alloc h.bel.size _).alloc (by have := h.bel.size; simp; omega) _).alloc (by have := h.bel.size; simp; omega) _, by simp, blk_alloc (blk_alloc (blk_alloc h.box _) _) _, by omega, by omega, by omega, by omega, by omega, ?_, ?_, by simp, by simp⟩
  · rw [zeros_map]; exact blk_alloc h2 _
  · rw [zeros_map]; exact blk_alloc (blk_alloc h1 _) _
theorem wz_make (w2 : World) (n : Nat) (hn : n ≤ 100000) : Wz (w2.alloc (.cells (Array.replicate n (.slice none 0 0)) 26)) n w2.heap.size w2.heap.size (List.replicate n []) := by
  have h1 := blk_new w2 (.cells (Array.replicate n (.slice none 0 0)) 26)
  have hsz : (Kd.slice 3 (Kd.int .i64)).sz = 1 := rfl
  refine ⟨⟨fun k hk => trivial, List.replicate n (.slice none 0 0), ⟨by rw [List.length_replicate, List.length_replicate]; exact (Nat.mul_one _).symm, .inr ⟨w2.heap.size, n, _, by rw [List.length_replicate], Nat.le_refl _, h1, by simp, by simp only [maxLen]; omega, by rw [hsz, Nat.mul_one]; simp, ?_⟩⟩, ?_⟩, by simp⟩
  · rw [hsz, Nat.mul_one, List.take_of_length_le (by simp)]; simp
  · refine ⟨by rw [List.length_replicate, List.length_replicate]; exact (Nat.mul_one _).symm, fun j p hj => ?_⟩
    rw [hsz, Nat.mul_one]
    obtain ⟨hjl, hp⟩ := List.getElem?_eq_some_iff.1 hj
    have hjn : j < n := by simpa using hjl
    have hp' : [] = p := by simpa using hp
    subst hp'
    have e : ((List.replicate n (Value.slice none 0 0)).drop j).take 1 = [.slice none 0 0] := by
      rw [List.drop_eq_getElem_cons (by simpa using hjn)]; simp
    rw [e]
    exact ⟨_, rfl, Kd.R_nil _ _ _ _ _⟩
end Go.Proofs.Ytdcmeefeinppnaa.Live
