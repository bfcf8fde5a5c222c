/- live.sets: what is live ahead of each instruction and behind it. -/
import Derived.Test.YtdcmeefeinppnaaPass
import Derived.RegionTactic
import Derived.Outline
import Derived.Deep.RegionHeld3
namespace Go.Proofs.Ytdcmeefeinppnaa.Live
open Go.RowKit Go.Proofs.YtdcmeefeinppnaaW.PrintWords Go.Proofs.YtdcmeefeinppnaaW.PrintLast Go.Proofs.Ytdcmeefeinppnaa.Mem Go.Proofs.Ytdcmeefeinppnaa.Ir
open MapOf (get put wp_lookup wp_look wp_update)
open Uses (uses uses_calls sorted sort_calls compact_calls infoInt sorted_length)
set_option linter.unusedVariables false
set_option linter.unusedSimpArgs false

def nextTop (c : Cod) (at_ : Int) : List Int := if at_ < 0 ∨ at_ ≥ c.body.length then [] else nextOf c (labs c.body c.body.length).1 at_.toNat
theorem nextTop_calls (c : Cod) (A : Option Addr) (cap : Nat) (at_ : Int) (w : World) (hC : CodeAt w c A cap) : Calls Try.prog 18 #[.agg (c.vals A cap), .int .i64 at_] w (NextOut w (nextTop c at_)) := by
  have HC := Aside0.mk hC
  have HB := Aside0.mk ((Below.refl w.heap.size w).alloc (Nat.le_refl _) (.cells (c.vals A cap) 24))
  clear hC
  by_cases h1 : at_ < 0
  · have g1 := decide_eq_true h1
    have he : nextTop c at_ = [] := by unfold nextTop; rw [if_pos (.inl h1)]
    rw [he]; clear he h1
    go_enter Try.func18, Try.ntmps18
    go_wp2_with fail
    go_ret
    exact ⟨_, rfl, Kd.R_nil _ _ _ _ _, HB.out⟩
  by_cases h2 : at_ ≥ c.body.length
  · have g1 := decide_eq_false h1
    have g2 : decide ((c.body.length : Int) ≤ at_) = true := decide_eq_true h2
    have he : nextTop c at_ = [] := by unfold nextTop; rw [if_pos (.inr h2)]
    rw [he]; clear he h1 h2
    go_enter Try.func18, Try.ntmps18
    go_wp2_with fail
    go_ret
    exact ⟨_, rfl, Kd.R_nil _ _ _ _ _, HB.out⟩
  have g1 := decide_eq_false h1
  have g2 : decide ((c.body.length : Int) ≤ at_) = false := decide_eq_false h2
  obtain ⟨k, rfl⟩ := Int.eq_ofNat_of_zero_le (show 0 ≤ at_ by omega)
  have he : nextTop c (k : Int) = nextOf c (labs c.body c.body.length).1 k := by unfold nextTop; rw [if_neg (by omega)]; rfl
  have hk : k < c.body.length := by omega
  rw [he]; clear he h1 h2
  go_enter Try.func18, Try.ntmps18
  go_wp2_with (first
    | (go_at_call 45; refine (labels_calls c A cap _ (HC.out.below HB.out)).mono ?_; rintro e w0 ⟨b1, b2, rfl, hb1, hb2, hm, hb⟩; have hbx := blk_below (blk_new w (.cells (c.vals A cap) 24)) hb; have HM := Aside0.mk hm; have HB2 := Aside0.mk (HB.out.trans (hb.mono (by simp))); have hz0 := blk_cell hbx 0; have hz1 := blk_cell hbx 1; have hz2 := blk_cell hbx 2; have hz3 := blk_cell hbx 3; clear hb1 hb2 hm hb hbx HB)
    | (go_at_call 46; refine (next_calls c A cap b1 _ k _ (HC.out.below HB2.out) HM.out.m1 hk).mono ?_; rintro e w1 ⟨v1, rfl, hR, hb⟩; have HD := Aside0.mk (And.intro (Kd.R_lower hR HB2.out.size) (HB2.out.trans (hb.mono HB2.out.size))); clear hR hb))
  go_ret
  exact ⟨_, rfl, HD.out.1, HD.out.2⟩


theorem infoRow : (Try.prog.info? 26).map (fun i => (i.zero, i.size, i.bytes)) = some (some (.slice none 0 0), 1, 24) := by kernel_rfl
theorem made_one (z : Value) (n : Nat) : madeCells #[z] n = Array.replicate n z := by
  apply Array.ext
  · simp [madeCells]
  · intro i h1 h2
    have : i % 1 = 0 := Nat.mod_one i
    simp [madeCells, this]
theorem make_ints (n : Nat) (hn : n ≤ 90000) (W : World) : (Instr.makeSlice 26 (.int .i64 n) (.int .i64 n)).run Try.prog W = .ok (.slice (some ⟨W.heap.size, 0, none⟩) n n) (W.alloc (.cells (Array.replicate n (.int .i64 0)) 3)) := by
  obtain ⟨i0, hi, hzz⟩ := Option.map_eq_some_iff.1 infoInt
  simp only [Prod.mk.injEq] at hzz
  obtain ⟨hz0, hz1, hz2⟩ := hzz
  have hr := run_make (P := Try.prog) W 26 3 i0 (.int .i64 0) Try.underlying26 hi hz0 .i64 .i64 (n : Int) (n : Int) (by omega) (by omega) (by rw [hz2]; omega) (by omega)
  simp only [Int.toNat_natCast, hz1, Nat.mul_one] at hr
  rw [hr, show madeCells (Value.int .i64 0).cells n = Array.replicate n (.int .i64 0) from made_one _ _]
theorem make_rows (n : Nat) (hn : n ≤ 90000) (W : World) : (Instr.makeSlice 63 (.int .i64 n) (.int .i64 n)).run Try.prog W = .ok (.slice (some ⟨W.heap.size, 0, none⟩) n n) (W.alloc (.cells (Array.replicate n (.slice none 0 0)) 26)) := by
  obtain ⟨i0, hi, hzz⟩ := Option.map_eq_some_iff.1 infoRow
  simp only [Prod.mk.injEq] at hzz
  obtain ⟨hz0, hz1, hz2⟩ := hzz
  have hr := run_make (P := Try.prog) W 63 26 i0 (.slice none 0 0) Try.underlying63 hi hz0 .i64 .i64 (n : Int) (n : Int) (by omega) (by omega) (by rw [hz2]; omega) (by omega)
  simp only [Int.toNat_natCast, hz1, Nat.mul_one] at hr
  rw [hr, show madeCells (Value.slice none 0 0).cells n = Array.replicate n (.slice none 0 0) from made_one _ _]

/-- in sets: the code's box, the results' cells -/
structure S0 (w W : World) (c : Cod) (A : Option Addr) (cap : Nat) : Prop where
  bel : Below w.heap.size w W
  sz : w.heap.size + 3 ≤ W.heap.size
  box : W.heap[w.heap.size]? = some (.cells (c.vals A cap) 24 (0, 0))
  na : W.heap[w.heap.size + 1]? = some (.cells #[.slice none 0 0] 26 (0, 0))
  nf : W.heap[w.heap.size + 1 + 1]? = some (.cells #[.slice none 0 0] 26 (0, 0))
abbrev S0.world (w : World) (c : Cod) (A : Option Addr) (cap : Nat) : World := ((w.alloc (.cells (c.vals A cap) 24)).alloc (.cells #[.slice none 0 0] 26)).alloc (.cells #[.slice none 0 0] 26)
theorem S0.init (w : World) (c : Cod) (A : Option Addr) (cap : Nat) {W : World} (hb : Below (S0.world w c A cap).heap.size (S0.world w c A cap) W) : S0 w W c A cap := by
  have h1 := blk_new (w.alloc (.cells (c.vals A cap) 24)) (.cells #[.slice none 0 0] 26)
  have h2 := blk_new ((w.alloc (.cells (c.vals A cap) 24)).alloc (.cells #[.slice none 0 0] 26)) (.cells #[.slice none 0 0] 26)
  simp only [World.size_alloc] at h1 h2
  have h0 : Below w.heap.size w (S0.world w c A cap) := (((Below.refl _ _).alloc (Nat.le_refl _) _).alloc (by simp) _).alloc (by simp; omega) _
  have hs := hb.size
  simp only [S0.world, World.size_alloc] at hs
  exact ⟨h0.trans (hb.mono h0.size), by omega, blk_below (blk_alloc (blk_alloc (blk_new _ _) _) _) hb, blk_below (blk_alloc h1 _) hb, blk_below h2 hb⟩


theorem zeros_map (n : Nat) : ((List.replicate n (0 : Int)).map (Value.int .i64)).toArray = Array.replicate n (.int .i64 0) := by simp
theorem Sx.raise {w W : World} {c : Cod} {A : Option Addr} {cap bn ga gf lo : Nat} {ah af : List Int} (h : Sx w W c A cap bn ga gf lo ah af) : Sx w W c A cap bn ga gf W.heap.size ah af :=
  ⟨⟨h.lie.n, h.lie.a, h.lie.f, h.lie.af, h.lie.an, h.lie.fn, Nat.lt_of_lt_of_le h.lie.ln h.sz, Nat.lt_of_lt_of_le h.lie.la h.sz, Nat.lt_of_lt_of_le h.lie.lf h.sz⟩, h.bel, Nat.le_refl _, h.box, h.na, h.nf, h.nn, h.ra, h.rf, h.la, h.lf⟩
theorem sx_make {w w0 : World} {c : Cod} {A : Option Addr} {cap : Nat} (H : S0 w w0 c A cap) (ga gf : Nat) (hh : (ga = w0.heap.size + 1 ∧ gf = w0.heap.size + 1 + 1) ∨ (ga = w0.heap.size + 1 + 1 ∧ gf = w0.heap.size + 1)) :
    Sx w (((((w0.setCell ⟨w.heap.size + 1, 0, none⟩ (.slice (some ⟨ga, 0, none⟩) c.body.length c.body.length)).setCell ⟨w.heap.size + 1 + 1, 0, none⟩ (.slice (some ⟨gf, 0, none⟩) c.body.length c.body.length)).alloc (.cells #[.int .i64 (c.body.length : Int)] 3)).alloc
      (.cells (Array.replicate c.body.length (.int .i64 0)) 3)).alloc (.cells (Array.replicate c.body.length (.int .i64 0)) 3)).drew c A cap w0.heap.size ga gf (w0.heap.size + 3) (List.replicate c.body.length 0) (List.replicate c.body.length 0) := by
  have hs := H.sz
  obtain ⟨V, hV⟩ : ∃ V, V = (w0.setCell ⟨w.heap.size + 1, 0, none⟩ (.slice (some ⟨ga, 0, none⟩) c.body.length c.body.length)).setCell ⟨w.heap.size + 1 + 1, 0, none⟩ (.slice (some ⟨gf, 0, none⟩) c.body.length c.body.length) := ⟨_, rfl⟩
  have hVs : V.heap.size = w0.heap.size := by rw [hV]; simp
  have hVb : Below w.heap.size w V := by rw [hV]; exact (H.bel.setCell (by simp) _).setCell (by simp; omega) _
  have hV0 : V.heap[w.heap.size]? = some (.cells (c.vals A cap) 24 (0, 0)) := by rw [hV]; exact blk_far (blk_far H.box (by simp) _) (by simp; omega) _
  have hV1 : V.heap[w.heap.size + 1]? = some (.cells #[.slice (some ⟨ga, 0, none⟩) c.body.length c.body.length] 26 (0, 0)) := by rw [hV]; exact blk_far (by simpa using blk_set H.na 0 _) (by simp) _
  have hV2 : V.heap[w.heap.size + 1 + 1]? = some (.cells #[.slice (some ⟨gf, 0, none⟩) c.body.length c.body.length] 26 (0, 0)) := by rw [hV]; simpa using blk_set (blk_far H.nf (by simp) _) 0 (.slice (some ⟨gf, 0, none⟩) c.body.length c.body.length)
  rw [← hV]
  clear hV
  have h1 := blk_new V (.cells #[.int .i64 (c.body.length : Int)] 3)
  have h2 := blk_new (V.alloc (.cells #[.int .i64 (c.body.length : Int)] 3)) (.cells (Array.replicate c.body.length (.int .i64 0)) 3)
  have h3 := blk_new ((V.alloc (.cells #[.int .i64 (c.body.length : Int)] 3)).alloc (.cells (Array.replicate c.body.length (.int .i64 0)) 3)) (.cells (Array.replicate c.body.length (.int .i64 0)) 3)
  simp only [World.size_alloc, hVs] at h1 h2 h3
  have h2' := blk_alloc h2 (.cells (Array.replicate c.body.length (.int .i64 0)) 3)
  refine ⟨⟨by omega, by omega, by omega, by omega, by omega, by omega, by omega, by omega, by omega⟩, below_drew (((hVb.alloc (by omega) _).alloc (by simp; omega) _).alloc (by simp; omega) _), by show w0.heap.size + 3 ≤ _; simp [hVs], ?_, ?_, ?_, ?_, ?_, ?_, by simp, by simp⟩
  · exact blk_alloc (blk_alloc (blk_alloc hV0 _) _) _
  · exact blk_alloc (blk_alloc (blk_alloc hV1 _) _) _
  · exact blk_alloc (blk_alloc (blk_alloc hV2 _) _) _
  · exact blk_alloc (blk_alloc h1 _) _
  · rw [zeros_map]
    rcases hh with ⟨rfl, _⟩ | ⟨rfl, _⟩
    · exact h2'
    · exact h3
  · rw [zeros_map]
    rcases hh with ⟨_, rfl⟩ | ⟨_, rfl⟩
    · exact h3
    · exact h2'

theorem Sx.up {w W : World} {c : Cod} {A : Option Addr} {cap bn ga gf lo : Nat} {ah af : List Int} (h : Sx w W c A cap bn ga gf lo ah af) {p : Addr} (hp : lo ≤ p.block) (v : Value) : Sx w (W.setCell p v) c A cap bn ga gf lo ah af := by
  have h1 := h.lie.n; have h2 := h.lie.ln; have h3 := h.lie.la; have h4 := h.lie.lf
  exact ⟨h.lie, h.bel.setCell (by omega) _, by simpa using h.sz, blk_far h.box (by omega) _, blk_far h.na (by omega) _, blk_far h.nf (by omega) _, blk_far h.nn (by omega) _, blk_far h.ra (by omega) _, blk_far h.rf (by omega) _, h.la, h.lf⟩
theorem Sx.setNA {w W : World} {c : Cod} {A : Option Addr} {cap bn ga gf lo : Nat} {ah af : List Int} (h : Sx w W c A cap bn ga gf lo ah af) : Sx w (W.setCell ⟨w.heap.size + 1, 0, none⟩ (.slice (some ⟨ga, 0, none⟩) c.body.length c.body.length)) c A cap bn ga gf lo ah af := by
  have h1 := h.lie.n; have h2 := h.lie.a; have h3 := h.lie.f
  exact ⟨h.lie, h.bel.setCell (by simp) _, by simpa using h.sz, blk_far h.box (by simp) _, by simpa using blk_set h.na 0 _, blk_far h.nf (by simp) _, blk_far h.nn (by simp; omega) _, blk_far h.ra (by simp; omega) _, blk_far h.rf (by simp; omega) _, h.la, h.lf⟩
theorem Sx.setNF {w W : World} {c : Cod} {A : Option Addr} {cap bn ga gf lo : Nat} {ah af : List Int} (h : Sx w W c A cap bn ga gf lo ah af) : Sx w (W.setCell ⟨w.heap.size + 1 + 1, 0, none⟩ (.slice (some ⟨gf, 0, none⟩) c.body.length c.body.length)) c A cap bn ga gf lo ah af := by
  have h1 := h.lie.n; have h2 := h.lie.a; have h3 := h.lie.f
  exact ⟨h.lie, h.bel.setCell (by simp; omega) _, by simpa using h.sz, blk_far h.box (by simp; omega) _, blk_far h.na (by simp) _, by simpa using blk_set h.nf 0 (.slice (some ⟨gf, 0, none⟩) c.body.length c.body.length), blk_far h.nn (by simp; omega) _, blk_far h.ra (by simp; omega) _, blk_far h.rf (by simp; omega) _, h.la, h.lf⟩
def fillW (c : Cod) (p : List (Int × Int)) (k : Nat) : List (List Int) := (List.range c.body.length).map (fun j => if j < k then nextOf c p j else [])
def waysOf (c : Cod) : List (List Int) := (List.range c.body.length).map (nextOf c (labs c.body c.body.length).1)
theorem fillW_zero (c : Cod) (p : List (Int × Int)) : fillW c p 0 = List.replicate c.body.length [] := by
  apply List.ext_getElem
  · simp [fillW]
  · intro i h1 h2; simp [fillW]
theorem fillW_succ (c : Cod) (p : List (Int × Int)) (k : Nat) : (fillW c p k).set k (nextOf c p k) = fillW c p (k + 1) := by
  apply List.ext_getElem
  · simp [fillW]
  · intro i h1 h2
    rw [List.getElem_set]
    by_cases hk : k = i
    · subst hk; rw [if_pos rfl]; simp [fillW]
    · rw [if_neg hk]
      simp only [fillW, List.getElem_map, List.getElem_range]
      by_cases h : i < k
      · rw [if_pos h, if_pos (by omega)]
      · rw [if_neg h, if_neg (by omega)]
theorem fillW_all (c : Cod) : fillW c (labs c.body c.body.length).1 c.body.length = waysOf c := by
  unfold fillW waysOf
  apply List.map_congr_left
  intro j hj
  rw [if_pos (List.mem_range.1 hj)]

theorem Wy.free {W : World} {n bw gw lo k : Nat} {ws : List (List Int)} (h : Wy W n bw gw lo ws) (hk : k < n) : W.frozen? ⟨gw, k, none⟩ = false := by
  obtain ⟨g, cap, e, hbg, hgs, cells, hgc⟩ := Kd.R_form h.rows (by rw [h.lw]; omega)
  injection e with e1 e2 e3
  injection e1 with e1
  injection e1 with e1
  subst e1
  exact blk_frozen hgc k
theorem Wy.ne {W : World} {n bw gw lo : Nat} {ws : List (List Int)} (h : Wy W n bw gw lo ws) (hn : 0 < n) : gw ≠ bw := by
  obtain ⟨g, cap, e, hbg, hgs, cells, hgc⟩ := Kd.R_form h.rows (by rw [h.lw]; omega)
  injection e with e1 e2 e3
  injection e1 with e1
  injection e1 with e1
  subst e1
  exact blk_ne hgc h.wc (by decide)
/-- a row's element is laid anew -/
theorem Wy.set {W : World} {n bw gw lo k : Nat} {ws : List (List Int)} {v : Value} {l : List Int} (h : Wy W n bw gw lo ws) (hk : k < n) (hv : (Kd.int .i64).R 3 W lo (fun _ => True) v l) : Wy (W.setCell ⟨gw, k, none⟩ v) n bw gw lo (ws.set k l) := by
  have hc1 := blk_cell h.wc 0
  obtain ⟨g, cap, e, hbg, hgs, cells, hgc⟩ := Kd.R_form h.rows (by rw [h.lw]; omega)
  injection e with e1 e2 e3
  injection e1 with e1
  injection e1 with e1
  subst e1
  obtain ⟨ce, hcl, hM, hcc, hfr⟩ := Kd.R_elem h.rows ([] : List Int) (k : Int) (by omega) (by omega)
  have hsz : (Kd.slice 3 (Kd.int .i64)).sz = 1 := rfl
  rw [Int.toNat_natCast] at hM hcc
  have hne : gw ≠ bw := blk_ne hgc h.wc (by decide)
  have h2 := Kd.R_seg h.rows (k : Int) (by omega) (by omega) (c := ce) (seg := [v]) (j := 0) (x' := l) (okp := fun q => q ≠ gw) hcl (by rw [Int.toNat_natCast]; exact hcc) (by rw [hsz]; simp) (by
      have hce : ce.length = 1 := hcl
      have e0 : ce.take 0 ++ [v] ++ ce.drop (0 + [v].length) = [v] := by
        rw [List.drop_eq_nil_of_le (by simp [hce])]; simp
      rw [e0]
      exact ⟨v, rfl, Kd.R_mono (Kd.R_types hv hgc (by decide)) (fun _ hk => hk.2)⟩) (fun _ hk => ⟨trivial, hk⟩)
  obtain ⟨h3, h4⟩ := h2
  rw [hsz, Int.toNat_natCast] at h3 h4
  have e5 : W.setCells gw (k * 1 + 0) [v] = W.setCell ⟨gw, k, none⟩ v := by
    rw [Nat.mul_one, Nat.add_zero]; rfl
  rw [e5] at h3
  exact ⟨blk_far h.wc (fun e => hne e.symm) v, h3, h.lb, by rw [List.length_set]; exact h.lw⟩

def iterS (c : Cod) (ws : List (List Int)) : Nat → List Int → List Int → Option (List Int × List Int)
  | 0, _, _ => none
  | k + 1, ah, af => if (passN c ws c.body.length ah af false).2.2 = true then iterS c ws k (passN c ws c.body.length ah af false).1 (passN c ws c.body.length ah af false).2.1 else some ((passN c ws c.body.length ah af false).1, (passN c ws c.body.length ah af false).2.1)

/-- a raw row as a row of one's own -/
theorem R_raw {W : World} {base g n : Nat} {ok : Nat → Prop} {xs : List Int} (h : W.heap[g]? = some (.cells (xs.map (Value.int .i64)).toArray 3 (0, 0))) (hb : base ≤ g) (hok : ok g) (hl : xs.length = n) (hn : n ≤ 100000) :
    (Kd.int .i64).R 3 W base ok (.slice (some ⟨g, 0, none⟩) n n) xs := by
  subst hl
  have hsz : (Kd.int .i64).sz = 1 := rfl
  refine ⟨fun k hk => ?_, xs.map (Value.int .i64), ⟨(by rw [List.length_map]; exact (Nat.mul_one _).symm), ?_⟩, ?_⟩
  · have : g = k := by simpa [Value.ownBlock] using hk
    exact this ▸ hok
  · right
    refine ⟨g, xs.length, _, rfl, hb, h, Nat.le_refl _, by simp only [maxLen]; omega, by rw [hsz, Nat.mul_one]; simp, ?_⟩
    rw [hsz, Nat.mul_one, List.take_of_length_le (by simp)]
  · refine ⟨(by rw [List.length_map]; exact (Nat.mul_one _).symm), fun j p hj => ?_⟩
    rw [hsz, Nat.mul_one]
    have hjl : j < xs.length := by
      by_cases h : j < xs.length
      · exact h
      · rw [List.getElem?_eq_none (by omega)] at hj; cases hj
    show ((xs.map (Value.int .i64)).drop j).take 1 = [Value.int .i64 p]
    rw [List.getElem?_eq_getElem hjl] at hj
    injection hj with hj
    rw [List.drop_eq_getElem_cons (by simpa using hjl)]
    simp [hj]

def SetsOut (w : World) (ah af : List Int) (er : Int) (e : Ending) (w' : World) : Prop :=
  ∃ va vf : Value, e = .returned (.tuple #[va, vf, .int .i64 er]) ∧ (Kd.int .i64).R 3 w' w.heap.size (fun k => some k ≠ vf.ownBlock) va ah ∧ (Kd.int .i64).R 3 w' w.heap.size (fun k => some k ≠ va.ownBlock) vf af ∧ Below w.heap.size w w'
theorem Sx.out {w W : World} {c : Cod} {A : Option Addr} {cap bn ga gf lo : Nat} {ah af : List Int} (h : Sx w W c A cap bn ga gf lo ah af) (hn : c.body.length ≤ 1000) :
    SetsOut w ah af 0 (.returned (.tuple #[.slice (some ⟨ga, 0, none⟩) c.body.length c.body.length, .slice (some ⟨gf, 0, none⟩) c.body.length c.body.length, .int .i64 0])) W := by
  have h1 := h.lie.a; have h2 := h.lie.f; have h3 := h.lie.af
  exact ⟨_, _, rfl, R_raw h.ra (by omega) (by simp [Value.ownBlock]; exact h3) h.la (by omega), R_raw h.rf (by omega) (by simp [Value.ownBlock]; exact fun e => h3 e.symm) h.lf (by omega), h.bel⟩

theorem sets_no (c : Cod) (A : Option Addr) (cap : Nat) (w : World) (hC : CodeAt w c A cap) (hf : fits c = false) : Calls Try.prog 41 #[.agg (c.vals A cap)] w (SetsOut w [] [] 4) := by
  have HC := Aside0.mk hC
  have hn := hC.small
  have HB := Aside0.mk ((Below.refl w.heap.size w).alloc (Nat.le_refl _) (.cells (c.vals A cap) 24))
  clear hC
  go_enter Try.func41, Try.ntmps41
  go_wp2_with ((go_at_call 20; refine (fits_calls c A cap _ (HC.out.below ((HB.out.alloc (by simp) _).alloc (by simp; omega) _))).mono ?_; rintro e w0 ⟨rfl, hb⟩; have HS0 := Aside0.mk (S0.init w c A cap hb); have hy1 := blk_cell HS0.out.na 0; have hf1 := blk_frozen HS0.out.na 0; have hy2 := blk_cell HS0.out.nf 0; have hf2 := blk_frozen HS0.out.nf 0; clear hb))
  exact bodyPost_ret (v := .tuple #[.slice none 0 0, .slice none 0 0, .int .i64 4]) (by simp [results, Try.results41, go_sem, hy1, hy2]) rfl ⟨_, _, rfl, Kd.R_nil _ _ _ _ _, Kd.R_nil _ _ _ _ _, (HS0.out.bel.setCell (by simp) _).setCell (by simp; omega) _⟩

theorem wy_init (w2 : World) (n : Nat) (hn : n ≤ 100000) : Wy ((w2.alloc (.cells (Array.replicate n (.slice none 0 0)) 26)).alloc (.cells #[.slice (some ⟨w2.heap.size, 0, none⟩) n n] 63)) n (w2.heap.size + 1) w2.heap.size w2.heap.size (List.replicate n []) := by
  have h1 := blk_alloc (blk_new w2 (.cells (Array.replicate n (.slice none 0 0)) 26)) (.cells #[.slice (some ⟨w2.heap.size, 0, none⟩) n n] 63)
  have h2 := blk_new (w2.alloc (.cells (Array.replicate n (.slice none 0 0)) 26)) (.cells #[.slice (some ⟨w2.heap.size, 0, none⟩) n n] 63)
  rw [World.size_alloc] at h2
  have hsz : (Kd.slice 3 (Kd.int .i64)).sz = 1 := rfl
  refine ⟨h2, ⟨fun k hk => trivial, List.replicate n (.slice none 0 0), ⟨by rw [List.length_replicate, List.length_replicate]; exact (Nat.mul_one _).symm, .inr ⟨w2.heap.size, n, _, by rw [List.length_replicate], Nat.le_refl _, h1, by simp, by simp only [maxLen]; omega, by rw [hsz, Nat.mul_one]; simp, ?_⟩⟩, ?_⟩, Nat.le_succ _, by simp⟩
  · rw [hsz, Nat.mul_one, List.take_of_length_le (by simp)]; simp
  · refine ⟨by rw [List.length_replicate, List.length_replicate]; exact (Nat.mul_one _).symm, fun j p hj => ?_⟩
    rw [hsz, Nat.mul_one]
    obtain ⟨hjl, hp⟩ := List.getElem?_eq_some_iff.1 hj
    have hjn : j < n := by simpa using hjl
    have hp' : [] = p := by simpa using hp
    subst hp'
    have e : ((List.replicate n (Value.slice none 0 0)).drop j).take 1 = [.slice none 0 0] := by
      rw [List.drop_eq_getElem_cons (by simpa using hjn)]; simp
    rw [e]
    exact ⟨_, rfl, Kd.R_nil _ _ _ _ _⟩
abbrev mkW (w w0 : World) (c : Cod) (ga gf : Nat) : World := (((((w0.setCell ⟨w.heap.size + 1, 0, none⟩ (.slice (some ⟨ga, 0, none⟩) c.body.length c.body.length)).setCell ⟨w.heap.size + 1 + 1, 0, none⟩ (.slice (some ⟨gf, 0, none⟩) c.body.length c.body.length)).alloc (.cells #[.int .i64 (c.body.length : Int)] 3)).alloc
      (.cells (Array.replicate c.body.length (.int .i64 0)) 3)).alloc (.cells (Array.replicate c.body.length (.int .i64 0)) 3)).drew
theorem drew_below (W : World) : Below W.heap.size W W.drew := below_drew (Below.refl _ _)

set_option maxHeartbeats 4000000 in
set_option maxRecDepth 100000 in
theorem sets_yes (c : Cod) (A : Option Addr) (cap : Nat) (w : World) (hC : CodeAt w c A cap) (hf : fits c = true) (hF : Fine c (waysOf c)) (k : Nat) (rh rf : List Int) (hk : iterS c (waysOf c) k (List.replicate c.body.length 0) (List.replicate c.body.length 0) = some (rh, rf)) :
    Calls Try.prog 41 #[.agg (c.vals A cap)] w (SetsOut w rh rf 0) := by
  have hn1 : c.body.length ≤ 1000 := by
    have h : headOk c = true := by unfold fits at hf; exact (Bool.and_eq_true _ _ ▸ hf).1
    simp [headOk] at h; omega
  have HC := Aside0.mk hC
  have HF := Aside0.mk hF
  have HK := Aside0.mk hk
  have hn : c.body.length ≤ 90000 := by omega
  have HB := Aside0.mk ((Below.refl w.heap.size w).alloc (Nat.le_refl _) (.cells (c.vals A cap) 24))
  clear hC hF hk
  go_enter Try.func41, Try.ntmps41
  go_wp2_with ((go_at_call 20; refine (fits_calls c A cap _ (HC.out.below ((HB.out.alloc (by simp) _).alloc (by simp; omega) _))).mono ?_; rintro e w0 ⟨rfl, hb⟩; have HS0 := Aside0.mk (S0.init w c A cap hb); have hz2 := blk_cell HS0.out.box 2; have hl0 : w.heap.size < w0.heap.size := Nat.lt_of_lt_of_le (by omega) HS0.out.sz; have hy1 := blk_cell HS0.out.na 0; have hf1 := blk_frozen HS0.out.na 0; have hy2 := blk_cell HS0.out.nf 0; have hf2 := blk_frozen HS0.out.nf 0; clear hb))
  have hl1 : w.heap.size + 1 < w0.heap.size := Nat.lt_of_lt_of_le (by omega) HS0.out.sz
  have hl2 : w.heap.size + 1 + 1 < w0.heap.size := Nat.lt_of_lt_of_le (by omega) HS0.out.sz
  have hmk := make_ints c.body.length hn
  have hmr := make_rows c.body.length hn
  go_region
  all_goals
    first
      | (have HS1 := Aside0.mk (sx_make HS0.out (w0.heap.size + 1) (w0.heap.size + 1 + 1) (.inl ⟨rfl, rfl⟩)); obtain ⟨W1, hW⟩ : ∃ W1, W1 = mkW w w0 c (w0.heap.size + 1) (w0.heap.size + 1 + 1) := ⟨_, rfl⟩; unfold mkW at hW; rw [← hW] at HS1 ⊢)
      | (have HS1 := Aside0.mk (sx_make HS0.out (w0.heap.size + 1 + 1) (w0.heap.size + 1) (.inr ⟨rfl, rfl⟩)); obtain ⟨W1, hW⟩ : ∃ W1, W1 = mkW w w0 c (w0.heap.size + 1 + 1) (w0.heap.size + 1) := ⟨_, rfl⟩; unfold mkW at hW; rw [← hW] at HS1 ⊢)
    clear hW hz2 hl0 hl1 hl2 hy1 hf1 hy2 hf2
    obtain ⟨bn, ga, gf, lo, ebn, HS1⟩ : ∃ bn ga gf lo, w0.heap.size = bn ∧ Aside0 (Sx w W1 c A cap bn ga gf lo (List.replicate c.body.length 0) (List.replicate c.body.length 0)) := ⟨_, _, _, _, rfl, HS1⟩
    have hb0 := blk_cell HS1.out.box 0
    have hb1 := blk_cell HS1.out.box 1
    have hb2 := blk_cell HS1.out.box 2
    have hb3 := blk_cell HS1.out.box 3
    rw [ebn]
    clear ebn
    go_wp2_with ((go_at_call 45; refine (labels_calls c A cap _ (HC.out.below HS1.out.bel)).mono ?_; rintro e w2 ⟨l1, l2, rfl, hl1, hl2, hm, hb⟩; have HS2 := Aside0.mk (HS1.out.below hb).raise; have HM := Aside0.mk hm.m1; have hn2 := blk_cell HS2.out.nn 0; have hn3 := blk_lt HS2.out.nn; clear hl1 hl2 hm hb hb0 hb1 hb2 hb3))
    have HX0 := Aside0.mk ((HS2.out.below ((Below.refl _ _).alloc (Nat.le_refl _) (.cells (Array.replicate c.body.length (.slice none 0 0)) 26))).below ((Below.refl _ _).alloc (Nat.le_refl _) (.cells #[.slice (some ⟨w2.heap.size, 0, none⟩) c.body.length c.body.length] 63)))
    have HY0 := Aside0.mk (wy_init w2 c.body.length (by omega))
    have HM0 := Aside0.mk ((HM.out.below ((Below.refl _ _).alloc (Nat.le_refl _) (.cells (Array.replicate c.body.length (.slice none 0 0)) 26))).below ((Below.refl _ _).alloc (Nat.le_refl _) (.cells #[.slice (some ⟨w2.heap.size, 0, none⟩) c.body.length c.body.length] 63)))
    have hlm := HM.out.lt
    obtain ⟨bw, ebw⟩ : ∃ bw, bw = w2.heap.size + 1 := ⟨_, rfl⟩
    obtain ⟨gw, egw⟩ : ∃ gw, gw = w2.heap.size := ⟨_, rfl⟩
    rw [← ebw, ← egw] at HY0
    rw [← egw] at HX0 HM0 hlm
    rw [← ebw, ← egw]
    clear ebw egw hn2 hn3 hmk hmr HS1 HS2 HM HS0 HB
    go_loopw [30] (fun iv wr => ∃ q : Nat, q ≤ c.body.length ∧ iv = .int .i64 q ∧ Aside0 (Sx w wr c A cap bn ga gf gw (List.replicate c.body.length 0) (List.replicate c.body.length 0)) ∧ Aside0 (Wy wr c.body.length bw gw gw (fillW c (labs c.body c.body.length).1 q)) ∧ Aside0 (MapOf.Is encI wr l1 (labs c.body c.body.length).1)) (fun iv _ => c.body.length - (intOf iv).toNat)
    case atStart => exact ⟨0, Nat.zero_le _, rfl, HX0, ⟨by rw [fillW_zero]; exact HY0.out⟩, HM0⟩
    case round =>
      obtain ⟨q, hq, rfl, HX, HY, HMr⟩ := hrel
      clear HX0 HY0 HM0
      by_cases hlt : q < c.body.length
      · have hb0 := blk_cell HX.out.box 0
        have hb1 := blk_cell HX.out.box 1
        have hb2 := blk_cell HX.out.box 2
        have hb3 := blk_cell HX.out.box 3
        have hwc := blk_cell HY.out.wc 0
        have hne1 : gw ≠ w.heap.size := by have := HX.out.lie.n; have := HX.out.lie.ln; omega
        have hne2 : gw ≠ bw := HY.out.ne (by omega)
        have hne3 := hne1.symm
        have hne4 := hne2.symm
        go_wp2_with fail
        go_region_held3 (fun w' => w'.cell? ⟨w.heap.size, 0, none⟩ = some (.int .i64 c.cells) ∧ w'.cell? ⟨w.heap.size, 1, none⟩ = some (.int .i64 c.params) ∧ w'.cell? ⟨w.heap.size, 2, none⟩ = some (.slice A c.body.length cap) ∧ w'.cell? ⟨w.heap.size, 3, none⟩ = some (.int .i64 c.labels) ∧ w'.cell? ⟨bw, 0, none⟩ = some (.slice (some ⟨gw, 0, none⟩) c.body.length c.body.length)) (go_keep)
          (first | (go_at_call 46; refine (next_calls c A cap l1 _ q _ ((HC.out.below HX.out.bel).below (drew_below _)) (HMr.out.below (drew_below _)) hlt).mono ?_; rintro e w4 ⟨v4, rfl, hR, hb⟩; obtain ⟨A5, c5, e5⟩ := Kd.R_slice hR; subst e5; have hX4 := (HX.out.below (drew_below _)).below hb; have hY4 := (HY.out.below (drew_below _)).below hb; have hg0 := blk_cell hX4.box 0; have hg1 := blk_cell hX4.box 1; have hg2 := blk_cell hX4.box 2; have hg3 := blk_cell hX4.box 3; have hgw := blk_cell hY4.wc 0; have hgf := hY4.free hlt; obtain ⟨A4, c4, hgq, _⟩ := hY4.at_ q hlt; have HX4 := Aside0.mk hX4; have HY4 := Aside0.mk hY4; have HM4 := Aside0.mk ((HMr.out.below (drew_below _)).below hb); have HR4 := Aside0.mk hR; clear hX4 hY4 hR hb))
        go_wp2_with fail
        go_roundw
        case rel => exact ⟨q + 1, by omega, by go_num, ⟨HX4.out.up (Nat.le_refl _) _⟩, ⟨by rw [← fillW_succ]; exact HY4.out.set hlt (Kd.R_lower HR4.out HX.out.sz)⟩, ⟨HM4.out.far (by show l1 ≠ gw; omega) _⟩⟩
        case measure => simp [intOf]; omega
      · have hqq : q = c.body.length := by omega
        have HY1 := Aside0.mk (show Wy wr c.body.length bw gw gw (waysOf c) by have h := HY.out; rw [hqq, fillW_all] at h; exact h)
        clear HY HMr hlm hqq
        go_wp2_with fail
        go_loopg [43] k (fun kq _ wl => ∃ (ah af : List Int), Aside0 (iterS c (waysOf c) kq ah af = some (rh, rf)) ∧ Aside0 (Sx w wl c A cap bn ga gf gw ah af) ∧ Aside0 (Wy wl c.body.length bw gw gw (waysOf c)))
        case atStart => exact ⟨_, _, HK, HX, HY1⟩
        case round =>
          obtain ⟨ah, af, HI, HX2, HY2⟩ := hrel
          clear HX HY1
          cases gk with
          | zero => exact absurd HI.out (by simp [iterS])
          | succ kq =>
            obtain ⟨r, hr⟩ : ∃ r, passN c (waysOf c) c.body.length ah af false = r := ⟨_, rfl⟩
            have HI2 : Aside0 ((if r.2.2 = true then iterS c (waysOf c) kq r.1 r.2.1 else some (r.1, r.2.1)) = some (rh, rf)) := ⟨by have h := HI.out; unfold iterS at h; rw [hr] at h; exact h⟩
            have HR := Aside0.mk hr
            clear HI hr
            obtain ⟨r1, r2, r3⟩ := r
            cases r3 with
            | true =>
              have HI3 : Aside0 (iterS c (waysOf c) kq r1 r2 = some (rh, rf)) := ⟨by have h := HI2.out; simpa using h⟩
              go_wp2_with (go_at_call 68; refine (pass_calls HC.out hn1 HF.out HX2.out HY2.out).mono ?_; rw [HR.out]; rintro e w5 ⟨rfl, hX5, hY5⟩; have HX5 := Aside0.mk hX5; have HY5 := Aside0.mk hY5; clear hX5 hY5)
              go_roundg kq
              case measure => omega
              case rel => exact ⟨r1, r2, HI3, HX5, HY5⟩
            | false =>
              have HI3 : Aside0 (r1 = rh ∧ r2 = rf) := ⟨by have h := HI2.out; simpa using h⟩
              go_wp2_with (go_at_call 68; refine (pass_calls HC.out hn1 HF.out HX2.out HY2.out).mono ?_; rw [HR.out]; rintro e w5 ⟨rfl, hX5, hY5⟩; have HX5 := Aside0.mk hX5; have HY5 := Aside0.mk hY5; have hg1 := blk_cell hX5.na 0; have hg2 := blk_cell hX5.nf 0; have hf1 := blk_frozen hX5.na 0; have hf2 := blk_frozen hX5.nf 0; clear hX5 hY5)
              go_region
              obtain ⟨rfl, rfl⟩ := HI3.out
              have HZ := ((HX5.out.setNA).setNF).below (drew_below _)
              have HE := HZ.out hn1
              have hv1 := blk_cell HZ.na 0
              have hv2 := blk_cell HZ.nf 0
              clear HR HI2 HI3 HZ
              go_wp2_with fail
              exact bodyPost_ret (v := .tuple #[.slice (some ⟨ga, 0, none⟩) c.body.length c.body.length, .slice (some ⟨gf, 0, none⟩) c.body.length c.body.length, .int .i64 0]) (by simp [results, Try.results41, go_sem, hv1, hv2]) rfl HE
end Go.Proofs.Ytdcmeefeinppnaa.Live
