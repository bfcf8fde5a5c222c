/- The walk of package nest: nest.walk, with what is handed in. -/
import Derived.Test.YtjjhhmchomabeaaDoorMem
namespace Go.Proofs.YtjjhhmchomabeaaDoor.Nest
open Go.RowKit Go.Proofs.YtjjhhmchomabeaaDoorW.PrintWords Go.Proofs.YtjjhhmchomabeaaDoorW.PrintLast Go.Proofs.YtjjhhmchomabeaaDoor.Mem
set_option linter.unusedVariables false
set_option linter.unusedSimpArgs false

/-- three numbers side by side: an instruction (first byte, N, M), or a span (Begin, Else, End) -/
abbrev T3 := Int × Int × Int
def k3 : Kd T3 := Kd.pair (Kd.int .i64) (Kd.pair (Kd.int .i64) (Kd.int .i64))
def z3 : T3 := (0, 0, 0)
def at3 (xs : List T3) (i : Int) : T3 := xs.getD i.toNat z3
theorem k3_open {w : World} {x : T3} {cs : List Value} (h : k3.K w x cs) : cs = [.int .i64 x.1, .int .i64 x.2.1, .int .i64 x.2.2] := by
  obtain ⟨_, _, rfl, rfl, ⟨_, _, rfl, rfl, rfl⟩⟩ := h
  rfl
theorem k3_openM {w : World} {base : Nat} {ok : Nat → Prop} {x : T3} {cs : List Value} (h : k3.M w base ok x cs) : cs = [.int .i64 x.1, .int .i64 x.2.1, .int .i64 x.2.2] := by
  obtain ⟨_, _, rfl, rfl, ⟨_, _, rfl, rfl, rfl⟩⟩ := h
  rfl
theorem k3_mkM (w : World) (base : Nat) (ok : Nat → Prop) (x : T3) : k3.M w base ok x [.int .i64 x.1, .int .i64 x.2.1, .int .i64 x.2.2] :=
  ⟨[.int .i64 x.1], [.int .i64 x.2.1, .int .i64 x.2.2], rfl, rfl, ⟨[.int .i64 x.2.1], [.int .i64 x.2.2], rfl, rfl, rfl⟩⟩
theorem at_k3 {w : World} {A : Option Addr} {n : Nat} {xs : List T3} (h : k3.C w A n xs) (i : Int) (h0 : 0 ≤ i) (h1 : i < n) :
    ∃ ad, A = some ad ∧ w.cell? (ad.add (i.toNat * 3)) = some (.int .i64 (at3 xs i).1) ∧ w.cell? ⟨(ad.add (i.toNat * 3)).block, (ad.add (i.toNat * 3)).off + 1, none⟩ = some (.int .i64 (at3 xs i).2.1) ∧ w.cell? ⟨(ad.add (i.toNat * 3)).block, (ad.add (i.toNat * 3)).off + 2, none⟩ = some (.int .i64 (at3 xs i).2.2) := by
  obtain ⟨ad, c, e, _, hK, hc0⟩ := Kd.C_get h z3 i h0 h1
  have hc : ∀ j u, c[j]? = some u → w.cell? (ad.add (i.toNat * 3 + j)) = some u := hc0
  obtain rfl := k3_open hK
  exact ⟨ad, e, hc 0 _ rfl, by rw [← add_field _ _ 1 (by omega)]; exact hc 1 _ rfl, by rw [← add_field _ _ 2 (by omega)]; exact hc 2 _ rfl⟩

theorem infoInt : (Tryd.prog.info? 3).map (fun i => (i.zero, i.size, i.bytes)) = some (some (.int .i64 0), 1, 8) := by kernel_rfl
theorem infoSpan : (Tryd.prog.info? 140).map (fun i => (i.zero, i.size, i.bytes)) = some (some (.agg #[(.int .i64 0), (.int .i64 0), (.int .i64 0)]), 3, 24) := by kernel_rfl

def opens (op : Int) : Bool := op == 2 || op == 3 || op == 4

/-- What a body's instructions come to, from place 'at' on (r of them left): the spans, the error; what is seen on the way: each place, and which spans are open there. -/
def wk (L : List T3) : Nat → Nat → List T3 → List Int → Bool → List T3 × Int × List (Int × List Int)
  | 0, _, _, _, _ => ([], 3, [])
  | r + 1, at_, sp, op, deep =>
    let x := (at3 L at_).1
    if opens x then
      let q := wk L r (at_ + 1) (sp ++ [((at_ : Int), -1, -1)]) (op ++ [(sp.length : Int)]) (deep || decide (op.length + 1 > 8))
      (q.1, q.2.1, ((at_ : Int), op) :: q.2.2)
    else if x = 5 then
      if op = [] then ([], 3, [])
      else
        let j := rd op ((op.length : Int) - 1)
        let s := at3 sp j
        if (at3 L s.1).1 ≠ 4 ∨ s.2.1 ≥ 0 then ([], 3, [])
        else
          let q := wk L r (at_ + 1) (sp.set j.toNat (s.1, (at_ : Int), s.2.2)) op deep
          (q.1, q.2.1, ((at_ : Int), op.dropLast) :: q.2.2)
    else if x = 11 then
      if op = [] then
        if at_ + 1 ≠ L.length then ([], 3, [((at_ : Int), [])])
        else if deep then ([], 1, [((at_ : Int), [])])
        else (sp ++ [(-1, -1, (at_ : Int))], 0, [((at_ : Int), [])])
      else
        let j := rd op ((op.length : Int) - 1)
        let s := at3 sp j
        let q := wk L r (at_ + 1) (sp.set j.toNat (s.1, s.2.1, (at_ : Int))) op.dropLast deep
        (q.1, q.2.1, ((at_ : Int), op.dropLast) :: q.2.2)
    else
      let q := wk L r (at_ + 1) sp op deep
      (q.1, q.2.1, ((at_ : Int), op) :: q.2.2)

section
variable {f : FuncId} {cap : Array Value} {σ : Type} {Inv : σ → (Nat → Prop) → World → Prop} {upd : Int → List Int → σ → σ} {cnt : σ → Nat}

/-- what holds at each place of the walk -/
structure Lp (Inv : σ → (Nat → Prop) → World → Prop) (w0 : World) (FP0 : Nat → Prop) (w : World) (s : σ) (FP : Nat → Prop) (vS vO : Value) (sp : List T3) (op : List Int) : Prop where
  inv : Inv s FP w
  fp : ∀ k, FP k → FP0 k ∨ w0.heap.size ≤ k
  ch : Ch w0 w FP0
  rs : k3.R 140 w w0.heap.size (fun k => ¬ FP k) vS sp
  ro : (Kd.int .i64).R 3 w w0.heap.size (fun k => ¬ FP k) vO op

section
variable {w0 w w' : World} {FP0 FP FP' : Nat → Prop} {s s' : σ} {vS vO vS' vO' : Value} {sp sp' : List T3} {op op' : List Int}
theorem Lp.below (hS : Seer Tryd.prog f cap Inv upd cnt) (h : Lp Inv w0 FP0 w s FP vS vO sp op) (hb : Below w.heap.size w w') : Lp Inv w0 FP0 w' s FP vS vO sp op :=
  ⟨hS.keep h.inv (fun k hk => hb.block k (hS.lt h.inv hk)), h.fp, h.ch.then_below hb, Kd.R_below h.rs hb, Kd.R_below h.ro hb⟩
theorem Lp.call (h : Lp Inv w0 FP0 w s FP vS vO sp op) (hI : Inv s' FP' w') (hsub : ∀ k, FP' k → FP k ∨ w.heap.size ≤ k) (hc : Ch w w' FP) : Lp Inv w0 FP0 w' s' FP' vS vO sp op :=
  ⟨hI, fun k hk => (hsub k hk).elim (h.fp k) (fun h1 => .inr (Nat.le_trans h.ch.size h1)), h.ch.trans hc h.fp, R_call h.rs hc hsub, R_call h.ro hc hsub⟩
theorem Lp.growO (hS : Seer Tryd.prog f cap Inv upd cnt) (h : Lp Inv w0 FP0 w s FP vS vO sp op) (hg : w.grownBy w' vO.ownBlock) (ho : (Kd.int .i64).R 3 w' w0.heap.size (fun k => ¬ FP k) vO' op') : Lp Inv w0 FP0 w' s FP vS vO' sp op' :=
  ⟨hS.keep h.inv (fun k hk => hg.block k (hS.lt h.inv hk) (fun he => h.ro.1 k he.symm hk)), h.fp, h.ch.grown hg (fun k hk => .inr (Kd.R_base h.ro k hk)), Kd.R_over' h.rs (Kd.R_typed h.ro) (by decide) hg, ho⟩
theorem Lp.growS (hS : Seer Tryd.prog f cap Inv upd cnt) (h : Lp Inv w0 FP0 w s FP vS vO sp op) (hg : w.grownBy w' vS.ownBlock) (hs : k3.R 140 w' w0.heap.size (fun k => ¬ FP k) vS' sp') : Lp Inv w0 FP0 w' s FP vS' vO sp' op :=
  ⟨hS.keep h.inv (fun k hk => hg.block k (hS.lt h.inv hk) (fun he => h.rs.1 k he.symm hk)), h.fp, h.ch.grown hg (fun k hk => .inr (Kd.R_base h.rs k hk)), hs, Kd.R_over' h.ro (Kd.R_typed h.rs) (by decide) hg⟩
theorem Lp.viewFar {Ao : Option Addr} {m c : Nat} (h : Lp Inv w0 FP0 w s FP vS (.slice Ao m c) sp op) (ad : Addr) (ha : Ao = some ad) (h0 : 0 < op.length) : ¬ FP ad.block := by
  obtain ⟨g, cap, e, _⟩ := Kd.R_form h.ro h0
  injection e with e1 e2 e3
  rw [ha] at e1
  injection e1 with e1
  subst e1
  refine h.ro.1 g ?_
  rw [ha]; rfl
theorem Lp.viewFar' {Ao : Option Addr} {m c : Nat} (h : Lp Inv w0 FP0 w s FP vS (.slice Ao m c) sp op) (ad : Addr) (ha : Ao = some ad) (h0 : 0 < op.dropLast.length) : ¬ FP ad.block :=
  h.viewFar ad ha (by rw [List.length_dropLast] at h0; omega)
theorem Lp.see (hS : Seer Tryd.prog f cap Inv upd cnt) (a : Int) (A : Option Addr) (xs : List Int) (m c : Nat) (sv : Value) (hm : xs.length = m) (h : Lp Inv w0 FP0 w s FP vS vO sp op) (hv : (Kd.int .i64).C w A xs.length xs) (hA : ∀ ad, A = some ad → 0 < xs.length → ¬ FP ad.block) (hc : m ≤ c) (hl : m ≤ 100000) (hn : cnt s ≤ 100000) :
    Calls Tryd.prog f (#[.int .i64 a, .slice A m c, sv] ++ cap) w fun e w' => e = .returned (.tuple #[]) ∧ ∃ FP', Lp Inv w0 FP0 w' (upd a xs s) FP' vS vO sp op := by
  subst hm
  exact (hS.call a A xs c sv h.inv hv hA hc hl hn).mono fun e w' ⟨he, FP', hI, hsub, hch⟩ => ⟨he, FP', h.call hI hsub hch⟩
end

/-- the innermost open span: where it stands, what it is, what may be stored there -/
theorem Lp.top {w0 w : World} {FP0 FP : Nat → Prop} {s : σ} {sp : List T3} {op : List Int} {As Ao : Option Addr} {cs co : Nat} {L : List T3} {ad : Addr}
    (h : Lp Inv w0 FP0 w s FP (.slice As sp.length cs) (.slice Ao op.length co) sp op) (hop : op ≠ []) (HJ : ∀ j ∈ op, 0 ≤ j ∧ j < (sp.length : Int)) (HX : ∀ x ∈ sp, 0 ≤ x.1 ∧ x.1 < (L.length : Int)) (hL : k3.C w (some ad) L.length L) :
    ∃ (ao : Addr) (g jn bn : Nat) (e n : Int), Ao = some ao ∧ As = some ⟨g, 0, none⟩ ∧ rd op ((op.length : Int) - 1) = (jn : Int) ∧ at3 sp (jn : Int) = ((bn : Int), e, n) ∧ jn < sp.length ∧ bn < L.length ∧
      w.cell? (ao.add (op.length - 1)) = some (.int .i64 (jn : Int)) ∧ w.cell? ⟨g, jn * 3, none⟩ = some (.int .i64 (bn : Int)) ∧ w.cell? ⟨g, jn * 3 + 1, none⟩ = some (.int .i64 e) ∧ w.cell? ⟨g, jn * 3 + 2, none⟩ = some (.int .i64 n) ∧ w.frozen? ⟨g, jn * 3 + 1, none⟩ = false ∧ w.frozen? ⟨g, jn * 3 + 2, none⟩ = false ∧
      w.cell? (ad.add (bn * 3)) = some (.int .i64 (at3 L (bn : Int)).1) ∧ g < w.heap.size := by
  have hl1 : 1 ≤ op.length := by cases op with | nil => exact absurd rfl hop | cons _ _ => simp
  obtain ⟨ao, e, hy0⟩ := Kd.at_int (Kd.R_reads' h.ro).2.2 ((op.length : Int) - 1) (by omega) (by omega)
  have ei : ((op.length : Int) - 1).toNat = op.length - 1 := by omega
  rw [ei] at hy0
  have hjm : rd op ((op.length : Int) - 1) ∈ op := by
    unfold rd
    rw [ei, List.getD_eq_getElem?_getD, List.getElem?_eq_getElem (by omega)]
    exact List.getElem_mem _
  obtain ⟨hj0, hj1⟩ := HJ _ hjm
  obtain ⟨jn, hj⟩ := Int.eq_ofNat_of_zero_le hj0
  rw [hj] at hy0 hj1
  have hsp : at3 sp (jn : Int) ∈ sp := by
    unfold at3
    rw [Int.toNat_natCast, List.getD_eq_getElem?_getD, List.getElem?_eq_getElem (by omega)]
    exact List.getElem_mem _
  obtain ⟨hb0, hb1⟩ := HX _ hsp
  obtain ⟨bn, hb⟩ := Int.eq_ofNat_of_zero_le hb0
  obtain ⟨g, cs', e1, hgb, hgs, hgc⟩ := Kd.R_form h.rs (by omega)
  injection e1 with e1 e2 e3
  subst e1
  obtain ⟨ce, hcl, hM, hcc, hfr⟩ := Kd.R_elem h.rs z3 (jn : Int) (by omega) (by omega)
  obtain rfl := k3_openM hM
  have hz0 : w.cell? ⟨g, jn * 3, none⟩ = some (.int .i64 (at3 sp (jn : Int)).1) := hcc 0 _ rfl
  have hz1 : w.cell? ⟨g, jn * 3 + 1, none⟩ = some (.int .i64 (at3 sp (jn : Int)).2.1) := hcc 1 _ rfl
  have hz2 : w.cell? ⟨g, jn * 3 + 2, none⟩ = some (.int .i64 (at3 sp (jn : Int)).2.2) := hcc 2 _ rfl
  obtain ⟨ad', e4, hw0, _, _⟩ := at_k3 hL (at3 sp (jn : Int)).1 hb0 hb1
  injection e4 with e4
  subst e4
  rw [hb] at hz0 hw0 hb1
  exact ⟨ao, g, jn, bn, (at3 sp (jn : Int)).2.1, (at3 sp (jn : Int)).2.2, e, rfl, hj, by rw [← hb], by omega, by omega, hy0, hz0, hz1, hz2, hfr 1, hfr 2, by simpa using hw0, hgs⟩
theorem Lp.setElse {w0 w : World} {FP0 FP : Nat → Prop} {s : σ} {sp : List T3} {op : List Int} {vO : Value} {cs g jn : Nat} {b e n : Int} (hS : Seer Tryd.prog f cap Inv upd cnt)
    (h : Lp Inv w0 FP0 w s FP (.slice (some ⟨g, 0, none⟩) sp.length cs) vO sp op) (hj : jn < sp.length) (he : at3 sp (jn : Int) = (b, e, n)) (x : Int) :
    Lp Inv w0 FP0 (w.setCell ⟨g, jn * 3 + 1, none⟩ (.int .i64 x)) s FP (.slice (some ⟨g, 0, none⟩) sp.length cs) vO (sp.set jn (b, x, n)) op := by
  obtain ⟨ce, hcl, hM, hcc, hfr⟩ := Kd.R_elem h.rs z3 (jn : Int) (by omega) (by omega)
  obtain rfl := k3_openM hM
  have he' : sp.getD ((jn : Int)).toNat z3 = (b, e, n) := he
  have hR := Kd.R_seg h.rs (jn : Int) (by omega) (by omega) (seg := [.int .i64 x]) (j := 1) hcl hcc (show 2 ≤ 3 from by decide) (x' := (b, x, n)) (okp := fun k => ¬ FP k ∧ k ≠ g) (by rw [he']; exact k3_mkM _ _ _ (b, x, n)) (fun _ hk => hk)
  have hr := h.growS hS (vS' := .slice (some ⟨g, 0, none⟩) sp.length cs) hR.2 hR.1
  rw [Int.toNat_natCast] at hr
  exact hr
theorem Lp.setEnd {w0 w : World} {FP0 FP : Nat → Prop} {s : σ} {sp : List T3} {op : List Int} {vO : Value} {cs g jn : Nat} {b e n : Int} (hS : Seer Tryd.prog f cap Inv upd cnt)
    (h : Lp Inv w0 FP0 w s FP (.slice (some ⟨g, 0, none⟩) sp.length cs) vO sp op) (hj : jn < sp.length) (he : at3 sp (jn : Int) = (b, e, n)) (x : Int) :
    Lp Inv w0 FP0 (w.setCell ⟨g, jn * 3 + 2, none⟩ (.int .i64 x)) s FP (.slice (some ⟨g, 0, none⟩) sp.length cs) vO (sp.set jn (b, e, x)) op := by
  obtain ⟨ce, hcl, hM, hcc, hfr⟩ := Kd.R_elem h.rs z3 (jn : Int) (by omega) (by omega)
  obtain rfl := k3_openM hM
  have he' : sp.getD ((jn : Int)).toNat z3 = (b, e, n) := he
  have hR := Kd.R_seg h.rs (jn : Int) (by omega) (by omega) (seg := [.int .i64 x]) (j := 2) hcl hcc (show 3 ≤ 3 from by decide) (x' := (b, e, x)) (okp := fun k => ¬ FP k ∧ k ≠ g) (by rw [he']; exact k3_mkM _ _ _ (b, e, x)) (fun _ hk => hk)
  have hr := h.growS hS (vS' := .slice (some ⟨g, 0, none⟩) sp.length cs) hR.2 hR.1
  rw [Int.toNat_natCast] at hr
  exact hr
theorem Lp.take {w0 w : World} {FP0 FP : Nat → Prop} {s : σ} {vS : Value} {sp : List T3} {op : List Int} {Ao : Option Addr} {m c : Nat} (h : Lp Inv w0 FP0 w s FP vS (.slice Ao m c) sp op) (k : Nat) (hk : k ≤ op.length) : Lp Inv w0 FP0 w s FP vS (.slice Ao k c) sp (op.take k) :=
  ⟨h.inv, h.fp, h.ch, h.rs, Kd.R_take h.ro hk⟩
theorem Lp.viewLast {w0 w : World} {FP0 FP : Nat → Prop} {s : σ} {vS : Value} {sp : List T3} {op : List Int} {Ao : Option Addr} {m c : Nat} (h : Lp Inv w0 FP0 w s FP vS (.slice Ao m c) sp op) : (Kd.int .i64).C w Ao op.dropLast.length op.dropLast := by
  have h := (Kd.R_reads' (Kd.R_take h.ro (m := op.length - 1) (by omega))).2.2
  rw [← List.dropLast_eq_take] at h
  exact h
def Done (Inv : σ → (Nat → Prop) → World → Prop) (w : World) (FP0 : Nat → Prop) (R : List T3) (E : Int) (sF : σ) (e : Ending) (w' : World) : Prop :=
  ∃ v FP', e = .returned (.tuple #[v, .int .i64 E]) ∧ k3.R 140 w' w.heap.size (fun k => ¬ FP' k) v R ∧ Inv sF FP' w' ∧ (∀ k, FP' k → FP0 k ∨ w.heap.size ≤ k) ∧ Ch w w' FP0
theorem Done.of {w w' : World} {FP0 FP : Nat → Prop} {s sF : σ} {vS vO : Value} {sp : List T3} {op : List Int} {E E' : Int} (h : Lp Inv w FP0 w' s FP vS vO sp op) (hs : s = sF) (he : E' = E) : Done Inv w FP0 sp E sF (.returned (.tuple #[vS, .int .i64 E'])) w' :=
  ⟨vS, FP, by rw [he], h.rs, hs ▸ h.inv, h.fp, h.ch⟩
theorem Done.none {w w' : World} {FP0 FP : Nat → Prop} {s sF : σ} {vS vO : Value} {sp : List T3} {op : List Int} {E E' : Int} {R : List T3} (h : Lp Inv w FP0 w' s FP vS vO sp op) (hs : s = sF) (hr : R = []) (he : E' = E) : Done Inv w FP0 R E sF (.returned (.tuple #[.slice none 0 0, .int .i64 E'])) w' :=
  ⟨_, FP, by rw [he], by rw [hr]; exact Kd.R_nil _ _ _ _ _, hs ▸ h.inv, h.fp, h.ch⟩
theorem wk_else {L : List T3} {r a jn bn : Nat} {e n : Int} {sp : List T3} {op : List Int} {deep : Bool} {R : List T3} {E : Int} {lg : List (Int × List Int)} (h : wk L (r + 1) a sp op deep = (R, E, lg)) (h1 : (at3 L a).1 = 5) (h2 : op ≠ []) (hj : rd op ((op.length : Int) - 1) = (jn : Int)) (hx : at3 sp (jn : Int) = ((bn : Int), e, n)) (hb : (at3 L (bn : Int)).1 = 4) (he : e < 0) :
    ∃ lg1, lg = ((a : Int), op.dropLast) :: lg1 ∧ wk L r (a + 1) (sp.set jn ((bn : Int), (a : Int), n)) op deep = (R, E, lg1) := by
  have ho : ¬ opens (at3 L a).1 = true := by rw [h1]; decide
  have hc : ¬ ((at3 L (bn : Int)).1 ≠ 4 ∨ e ≥ 0) := by omega
  simp only [wk] at h
  rw [if_neg ho, if_pos h1, if_neg h2, hj, hx] at h
  simp only [Int.toNat_natCast] at h
  rw [if_neg hc] at h
  exact ⟨_, by injection h with _ h; injection h with _ h; exact h.symm, by injection h with e1 h; injection h with e2 h; rw [← e1, ← e2]⟩
theorem wk_else_no {L : List T3} {r a : Nat} {sp : List T3} {op : List Int} {deep : Bool} {R : List T3} {E : Int} {lg : List (Int × List Int)} (h : wk L (r + 1) a sp op deep = (R, E, lg)) (h1 : (at3 L a).1 = 5)
    (h2 : op = [] ∨ op ≠ [] ∧ ∃ (jn bn : Nat) (e n : Int), rd op ((op.length : Int) - 1) = (jn : Int) ∧ at3 sp (jn : Int) = ((bn : Int), e, n) ∧ ((at3 L (bn : Int)).1 ≠ 4 ∨ e ≥ 0)) : R = [] ∧ 3 = E ∧ lg = [] := by
  have ho : ¬ opens (at3 L a).1 = true := by rw [h1]; decide
  simp only [wk] at h
  rw [if_neg ho, if_pos h1] at h
  rcases h2 with h2 | ⟨h2, jn, bn, e, n, hj, hx, hc⟩
  · rw [if_pos h2] at h
    injection h with e1 h; injection h with e2 h
    exact ⟨e1.symm, e2, h.symm⟩
  · rw [if_neg h2, hj, hx] at h
    simp only at h
    rw [if_pos hc] at h
    injection h with e1 h; injection h with e2 h
    exact ⟨e1.symm, e2, h.symm⟩
theorem wk_end {L : List T3} {r a jn bn : Nat} {e n : Int} {sp : List T3} {op : List Int} {deep : Bool} {R : List T3} {E : Int} {lg : List (Int × List Int)} (h : wk L (r + 1) a sp op deep = (R, E, lg)) (h1 : (at3 L a).1 = 11) (h2 : op ≠ []) (hj : rd op ((op.length : Int) - 1) = (jn : Int)) (hx : at3 sp (jn : Int) = ((bn : Int), e, n)) :
    ∃ lg1, lg = ((a : Int), op.dropLast) :: lg1 ∧ wk L r (a + 1) (sp.set jn ((bn : Int), e, (a : Int))) op.dropLast deep = (R, E, lg1) := by
  have ho : ¬ opens (at3 L a).1 = true := by rw [h1]; decide
  have h5 : ¬ (at3 L a).1 = 5 := by rw [h1]; decide
  simp only [wk] at h
  rw [if_neg ho, if_neg h5, if_pos h1, if_neg h2, hj, hx] at h
  simp only [Int.toNat_natCast] at h
  exact ⟨_, by injection h with _ h; injection h with _ h; exact h.symm, by injection h with e1 h; injection h with e2 h; rw [← e1, ← e2]⟩
theorem wk_last {L : List T3} {r a : Nat} {sp : List T3} {deep : Bool} {R : List T3} {E : Int} {lg : List (Int × List Int)} (h : wk L (r + 1) a sp [] deep = (R, E, lg)) (h1 : (at3 L a).1 = 11) :
    lg = [((a : Int), [])] ∧ (a + 1 ≠ L.length → R = [] ∧ 3 = E) ∧ (a + 1 = L.length → deep = true → R = [] ∧ 1 = E) ∧ (a + 1 = L.length → deep = false → R = sp ++ [(-1, -1, (a : Int))] ∧ 0 = E) := by
  have ho : ¬ opens (at3 L a).1 = true := by rw [h1]; decide
  have h5 : ¬ (at3 L a).1 = 5 := by rw [h1]; decide
  simp only [wk] at h
  rw [if_neg ho, if_neg h5, if_pos h1, if_pos True.intro] at h
  by_cases hl : a + 1 = L.length
  · rw [if_neg (by omega)] at h
    cases deep
    · rw [if_neg (by simp)] at h
      injection h with e1 h; injection h with e2 h
      exact ⟨h.symm, fun h => absurd hl h, fun _ h => (by cases h), fun _ _ => ⟨e1.symm, e2⟩⟩
    · rw [if_pos rfl] at h
      injection h with e1 h; injection h with e2 h
      exact ⟨h.symm, fun h => absurd hl h, fun _ _ => ⟨e1.symm, e2⟩, fun _ h => (by cases h)⟩
  · rw [if_pos hl] at h
    injection h with e1 h; injection h with e2 h
    exact ⟨h.symm, fun _ => ⟨e1.symm, e2⟩, fun h => absurd h hl, fun h => absurd h hl⟩
theorem wk_opens {L : List T3} {r a : Nat} {sp : List T3} {op : List Int} {deep : Bool} {R : List T3} {E : Int} {lg : List (Int × List Int)} (h : wk L (r + 1) a sp op deep = (R, E, lg)) (h1 : opens (at3 L a).1 = true) :
    ∃ lg1, lg = ((a : Int), op) :: lg1 ∧ wk L r (a + 1) (sp ++ [((a : Int), -1, -1)]) (op ++ [(sp.length : Int)]) (deep || decide (op.length + 1 > 8)) = (R, E, lg1) := by
  simp only [wk] at h
  rw [if_pos h1] at h
  exact ⟨_, by injection h with _ h; injection h with _ h; exact h.symm, by injection h with e1 h; injection h with e2 h; rw [← e1, ← e2]⟩
theorem wk_other {L : List T3} {r a : Nat} {sp : List T3} {op : List Int} {deep : Bool} {R : List T3} {E : Int} {lg : List (Int × List Int)} (h : wk L (r + 1) a sp op deep = (R, E, lg)) (h1 : ¬ opens (at3 L a).1 = true) (h2 : ¬ (at3 L a).1 = 5) (h3 : ¬ (at3 L a).1 = 11) :
    ∃ lg1, lg = ((a : Int), op) :: lg1 ∧ wk L r (a + 1) sp op deep = (R, E, lg1) := by
  simp only [wk] at h
  rw [if_neg h1, if_neg h2, if_neg h3] at h
  exact ⟨_, by injection h with _ h; injection h with _ h; exact h.symm, by injection h with e1 h; injection h with e2 h; rw [← e1, ← e2]⟩

set_option maxHeartbeats 4000000 in
set_option maxRecDepth 100000 in
theorem walk_calls (hS : Seer Tryd.prog f cap Inv upd cnt) (A0 : Option Addr) (c0 : Nat) (L : List T3) (s0 : σ) (FP0 : Nat → Prop) (w : World)
    (hL : ∀ W, Ch w W FP0 → k3.C W A0 L.length L) (hc0 : L.length ≤ c0) (hn : L.length ≤ 90000) (hI : Inv s0 FP0 w) (hcnt : cnt s0 ≤ 1000)
    (R : List T3) (E : Int) (lg : List (Int × List Int)) (hr : wk L L.length 0 [] [] false = (R, E, lg)) :
    Calls Tryd.prog 49 #[.slice A0 L.length c0, .func (.func f) #[] cap] w fun e w' => Done Inv w FP0 R E (lg.foldl (fun s p => upd p.1 p.2 s) s0) e w' := by
  have hfn := hS.fn
  have huI := Tryd.underlying45
  have huS := Tryd.underlying140
  have HL := Aside0.mk hL
  have HI := Aside0.mk hI
  have HR := Aside0.mk hr
  clear hL hI hr
  go_enter Tryd.func49, Tryd.ntmps49
  go_wp2
  go_loopw [6, 7, 8, 14] (fun v6 v7 v8 v14 w' => ∃ (at_ : Nat) (sp : List T3) (op : List Int) (deep : Bool) (s : σ) (FP : Nat → Prop) (lg1 : List (Int × List Int)), v14 = .int .i64 (at_ : Int) ∧ v8 = .bool deep ∧ at_ ≤ L.length ∧
      Aside0 (wk L (L.length - at_) at_ sp op deep = (R, E, lg1)) ∧ Aside0 (lg1.foldl (fun s p => upd p.1 p.2 s) s = lg.foldl (fun s p => upd p.1 p.2 s) s0) ∧ Aside0 (Lp Inv w FP0 w' s FP v6 v7 sp op) ∧
      Aside0 (∀ j ∈ op, 0 ≤ j ∧ j < (sp.length : Int)) ∧ Aside0 (∀ x ∈ sp, 0 ≤ x.1 ∧ x.1 < (L.length : Int)) ∧ Aside0 (sp.length ≤ at_ ∧ op.length ≤ at_ ∧ cnt s ≤ 1000 + at_))
      (fun _ _ _ v14 _ => L.length - (intOf v14).toNat)
  case atStart => exact ⟨0, [], [], false, s0, FP0, lg, rfl, rfl, by omega, ⟨by simpa using HR.out⟩, ⟨rfl⟩, ⟨⟨HI.out, fun _ h => .inl h, Ch.refl _ _, Kd.R_nil _ _ _ _ _, Kd.R_nil _ _ _ _ _⟩⟩, ⟨fun _ h => by simp at h⟩, ⟨fun _ h => by simp at h⟩, ⟨by simp; omega⟩⟩
  case round =>
    obtain ⟨at_, sp, op, deep, s, FP, lg1, rfl, rfl, hle, HR, HF, HP, HJ, HX, HN⟩ := hrel
    obtain ⟨As, cs, es⟩ := Kd.R_slice HP.out.rs
    obtain ⟨Ao, co, eo⟩ := Kd.R_slice HP.out.ro
    subst es eo
    by_cases hlt : at_ < L.length
    · have hC := HL.out wr HP.out.ch
      obtain ⟨ad, e, hx0, hx1, hx2⟩ := at_k3 hC (at_ : Int) (by omega) (by omega)
      subst e
      clear hC
      rw [Int.toNat_natCast] at hx0 hx1 hx2
      have hr1 : wk L (L.length - at_ - 1 + 1) at_ sp op deep = (R, E, lg1) := by
        have e : L.length - at_ - 1 + 1 = L.length - at_ := by omega
        rw [e]; exact HR.out
      have HR1 := Aside0.mk hr1
      have hrr : ∀ {sp' op' deep' lg2}, wk L (L.length - at_ - 1) (at_ + 1) sp' op' deep' = (R, E, lg2) → wk L (L.length - (at_ + 1)) (at_ + 1) sp' op' deep' = (R, E, lg2) := fun h => by
        have e : L.length - (at_ + 1) = L.length - at_ - 1 := by omega
        rw [e]; exact h
      have HRR := Aside0.mk (@hrr)
      clear hr1 HR hrr
      by_cases ho : opens (at3 L at_).1 = true
      · obtain ⟨lg2, el, hr2⟩ := wk_opens HR1.out ho
        have hq : ((at3 L (at_ : Int)).1 == 2) = true ∨ (((at3 L (at_ : Int)).1 == 2) = false ∧ ((at3 L (at_ : Int)).1 == 3) = true) ∨ (((at3 L (at_ : Int)).1 == 2) = false ∧ ((at3 L (at_ : Int)).1 == 3) = false ∧ ((at3 L (at_ : Int)).1 == 4) = true) := by
          simp only [beq_iff_eq, beq_eq_false_iff_ne]; simp [opens] at ho; omega
        have h8 : ∃ d2 : Bool, (deep || decide (op.length + 1 > 8)) = d2 ∧ (deep = true ∧ d2 = true ∨ deep = false ∧ decide (8 < (op.length : Int) + 1) = d2) := by
          refine ⟨_, rfl, ?_⟩
          cases deep
          · right; refine ⟨rfl, ?_⟩
            simp only [Bool.false_or]
            by_cases h : op.length + 1 > 8
            · rw [decide_eq_true h]; exact decide_eq_true (by omega)
            · rw [decide_eq_false h]; exact decide_eq_false (by omega)
          · left; exact ⟨rfl, by simp⟩
        obtain ⟨d2, hd, h8⟩ := h8
        rw [hd] at hr2
        have HR2 := Aside0.mk hr2
        have HF2 := HF.out
        rw [el] at HF2
        have HF3 := Aside0.mk (show List.foldl (fun s p => upd p.1 p.2 s) (upd (at_ : Int) op s) lg2 = _ from HF2)
        have HJ2 := Aside0.mk (show ∀ j ∈ op ++ [(sp.length : Int)], 0 ≤ j ∧ j < ((sp ++ [((at_ : Int), (-1 : Int), (-1 : Int))]).length : Int) from fun j hj => by
          rcases List.mem_append.1 hj with hj | hj
          · have := HJ.out j hj; simp; omega
          · simp at hj; simp; omega)
        have HX2 := Aside0.mk (show ∀ x ∈ sp ++ [((at_ : Int), (-1 : Int), (-1 : Int))], 0 ≤ x.1 ∧ x.1 < (L.length : Int) from fun x hx => by
          rcases List.mem_append.1 hx with hx | hx
          · exact HX.out x hx
          · simp at hx; subst hx; simp; omega)
        have HN2 := Aside0.mk (show (sp ++ [((at_ : Int), (-1 : Int), (-1 : Int))]).length ≤ at_ + 1 ∧ (op ++ [(sp.length : Int)]).length ≤ at_ + 1 ∧ cnt (upd (at_ : Int) op s) ≤ 1000 + (at_ + 1) by
          have := HN.out; have := hS.cnt_upd (at_ : Int) op s; simp; omega)
        clear hd el hr2 HF2 HF HJ HX ho
        rcases h8 with ⟨rfl, rfl⟩ | ⟨rfl, h8⟩ <;> rcases hq with hq1 | ⟨hq1, hq2⟩ | ⟨hq1, hq2, hq3⟩
        all_goals
          go_wp2_with (fail)
          refine (Lp.see hS (at_ : Int) Ao op _ co _ rfl (by exact HP.out.below hS (below_alloc (Below.refl _ _) _)) (by exact (Kd.R_reads' (HP.out.below hS (below_alloc (Below.refl _ _) _)).ro).2.2) HP.out.viewFar (Kd.R_reads' HP.out.ro).2.1 (by have := HN.out.2; omega) (by have := HN.out.2; omega)).mono ?_
          rintro e w2 ⟨rfl, FP', hP2⟩
          have HP2 := Aside0.mk hP2
          clear hP2 HP
          go_wp2_with (first
            | ((with_reducible refine gate_builtin (b := .append) (xs := #[.tmp 33, .tmp 36]) rfl ?_); at_builtin; refine Kd.R_append (Kd.int .i64) (w0 := _) w.heap.size rfl (.tmp 33) (.tmp 36) 23 3 (.int .i64 0) 8 rfl Tryd.underlying23 infoInt rfl (by decide) (by omega) (.slice Ao op.length co) op (sp.length : Int) [.int .i64 (sp.length : Int)] (fun k => ¬ FP' k) (fun _ => False) rfl rfl ?aP (fun _ hk => hk.elim) ?aF ?aO (Below.refl _ _) ?aS ?aL ?_; (case aP => exact rfl); (case aF => exact (fun k hk hF => by have := hS.lt HP2.out.inv hF; omega)); (case aO => exact HP2.out.ro); (case aS => exact HP2.out.ch.size); (case aL => have := HN.out.2; omega); intro v1 w3 hO hB hg hat; have HP3 := Aside0.mk (HP2.out.growO hS hg hO); clear hO hB hg hat HP2; obtain ⟨A1, c1, e1⟩ := Kd.R_slice HP3.out.ro; subst e1)
            | ((with_reducible refine gate_builtin (b := .append) (xs := #[.tmp 38, .tmp 41]) rfl ?_); at_builtin; refine Kd.R_append k3 (w0 := _) w.heap.size rfl (.tmp 38) (.tmp 41) 79 140 (.agg #[(.int .i64 0), (.int .i64 0), (.int .i64 0)]) 24 rfl Tryd.underlying79 infoSpan rfl (by decide) (by omega) (.slice As sp.length cs) sp ((at_ : Int), (-1 : Int), (-1 : Int)) [.int .i64 (at_ : Int), .int .i64 (-1), .int .i64 (-1)] (fun k => ¬ FP' k) (fun _ => False) rfl rfl ?bP (fun _ hk => hk.elim) ?bF ?bO (Below.refl _ _) ?bS ?bL ?_; (case bP => exact k3_mkM _ _ _ _); (case bF => exact (fun k hk hF => by have := hS.lt HP3.out.inv hF; omega)); (case bO => exact HP3.out.rs); (case bS => exact HP3.out.ch.size); (case bL => have := HN.out; omega); intro v2 w4 hO hB hg hat; have HP4 := Aside0.mk (HP3.out.growS hS hg hO); clear hO hB hg hat HP3; obtain ⟨A2, c2, e2⟩ := Kd.R_slice HP4.out.rs; subst e2))
          go_roundw
          case rel => exact ⟨at_ + 1, _, _, _, _, FP', lg2, by go_num, by first | rfl | (rw [← h8]; simp), by omega, ⟨HRR.out HR2.out⟩, HF3, ⟨by have h_ := HP4.out; simp only [List.length_append, List.length_cons, List.length_nil, Nat.zero_add] at h_; exact h_⟩, HJ2, HX2, HN2⟩
          case measure => simp [intOf]; omega
      · have ho2 : ((at3 L (at_ : Int)).1 == 2) = false := by simp [opens] at ho; simpa using ho.1.1
        have ho3 : ((at3 L (at_ : Int)).1 == 3) = false := by simp [opens] at ho; simpa using ho.1.2
        have ho4 : ((at3 L (at_ : Int)).1 == 4) = false := by simp [opens] at ho; simpa using ho.2
        by_cases h5 : (at3 L at_).1 = 5
        · have h5b : ((at3 L (at_ : Int)).1 == 5) = true := beq_iff_eq.2 h5
          by_cases hop : op = []
          · obtain ⟨r1, r2, r3⟩ := wk_else_no HR1.out h5 (.inl hop)
            have HA := Aside0.mk (And.intro r1 (And.intro r2 (show s = lg.foldl (fun s p => upd p.1 p.2 s) s0 from by have h := HF.out; rw [r3] at h; exact h)))
            clear r1 r2 r3 HF h5 ho
            subst hop
            go_wp2
            go_ret2
            exact Done.none (HP.out.below hS (below_alloc (Below.refl _ _) _)) HA.out.2.2 HA.out.1 HA.out.2.1
          · obtain ⟨ao, g, jn, bn, e, n, ea, es, hj, hx, hjl, hbl, cj, c0', c1', c2', f1, f2, cL, hg⟩ := HP.out.top hop HJ.out HX.out (HL.out wr HP.out.ch)
            subst ea es
            have hl1 : 1 ≤ op.length := by cases op with | nil => exact absurd rfl hop | cons _ _ => simp
            have hlo : op.length ≤ 90000 := by have := HN.out.2.1; omega
            have hls : sp.length ≤ 90000 := by have := HN.out.1; omega
            have cj' : ∀ o, (wr.alloc o).cell? (ao.add (op.length - 1)) = some (.int .i64 (jn : Int)) := fun o => pw_cell_below (below_alloc (Below.refl _ _) o) cj
            have c0a : ∀ o, (wr.alloc o).cell? ⟨g, jn * 3, none⟩ = some (.int .i64 (bn : Int)) := fun o => (World.cell?_alloc_past _ _ _ hg).trans c0'
            have c1a : ∀ o, (wr.alloc o).cell? ⟨g, jn * 3 + 1, none⟩ = some (.int .i64 e) := fun o => (World.cell?_alloc_past _ _ _ hg).trans c1'
            have c2a : ∀ o, (wr.alloc o).cell? ⟨g, jn * 3 + 2, none⟩ = some (.int .i64 n) := fun o => (World.cell?_alloc_past _ _ _ hg).trans c2'
            have cLa : ∀ o, (wr.alloc o).cell? (ad.add (bn * 3)) = some (.int .i64 (at3 L (bn : Int)).1) := fun o => pw_cell_below (below_alloc (Below.refl _ _) o) cL
            have f1a : ∀ o, (wr.alloc o).frozen? ⟨g, jn * 3 + 1, none⟩ = false := fun o => (World.frozen?_alloc_past _ _ _ hg).trans f1
            have f2a : ∀ o, (wr.alloc o).frozen? ⟨g, jn * 3 + 2, none⟩ = false := fun o => (World.frozen?_alloc_past _ _ _ hg).trans f2
            clear cj c0' c1' c2' cL f1 f2
            by_cases hb : (at3 L (bn : Int)).1 = 4
            · have hbb : ((at3 L (bn : Int)).1 != 4) = false := by simp [hb]
              by_cases he : 0 ≤ e
              · obtain ⟨r1, r2, r3⟩ := wk_else_no HR1.out h5 (.inr ⟨hop, jn, bn, e, n, hj, hx, .inr he⟩)
                have HA := Aside0.mk (And.intro r1 (And.intro r2 (show s = lg.foldl (fun s p => upd p.1 p.2 s) s0 from by have h := HF.out; rw [r3] at h; exact h)))
                clear r1 r2 r3 HF h5 ho hb hj hx
                go_wp2
                go_ret2
                exact Done.none (HP.out.below hS (below_alloc (Below.refl _ _) _)) HA.out.2.2 HA.out.1 HA.out.2.1
              · have HA := Aside0.mk (And.intro h5 (And.intro hb (And.intro hj hx)))
                have he' : e < 0 := by omega
                obtain ⟨lg2, el, hr2⟩ := wk_else HR1.out h5 hop hj hx hb he'
                have HR2 := Aside0.mk hr2
                have HF2 := HF.out
                rw [el] at HF2
                have HF3 := Aside0.mk (show List.foldl (fun s p => upd p.1 p.2 s) (upd (at_ : Int) op.dropLast s) lg2 = _ from HF2)
                clear hr2 el HF2 HF h5 hb ho hj hx he
                have hco := (Kd.R_reads' HP.out.ro).2.1
                go_wp2_with (fail)
                have HP1 := HP.out.setElse hS hjl HA.out.2.2.2 (at_ : Int)
                have HP1' := fun o => HP1.below hS (below_alloc (Below.refl _ _) o)
                refine (Lp.see hS (at_ : Int) (some ao) op.dropLast _ co _ List.length_dropLast (by exact HP1' _) (by exact (HP1' _).viewLast) HP.out.viewFar' (by omega) (by omega) (by have := HN.out.2; omega)).mono ?_
                rintro e' w2 ⟨rfl, FP', hP2⟩
                have HP2 := Aside0.mk hP2
                clear hP2 HP HP1 HP1'
                go_wp2
                go_roundw
                case rel => exact ⟨at_ + 1, _, op, deep, _, FP', lg2, by go_num, rfl, by omega, ⟨HRR.out HR2.out⟩, HF3, HP2, ⟨fun j hj => by rw [List.length_set]; exact HJ.out j hj⟩, ⟨fun x hx => by
                  rcases List.mem_or_eq_of_mem_set hx with hx | rfl
                  · exact HX.out x hx
                  · simp only; omega⟩, ⟨by have := HN.out; have := hS.cnt_upd (at_ : Int) op.dropLast s; rw [List.length_set]; omega⟩⟩
                case measure => simp [intOf]; omega
            · have hbb : ((at3 L (bn : Int)).1 != 4) = true := by simp [hb]
              obtain ⟨r1, r2, r3⟩ := wk_else_no HR1.out h5 (.inr ⟨hop, jn, bn, e, n, hj, hx, .inl hb⟩)
              have HA := Aside0.mk (And.intro r1 (And.intro r2 (show s = lg.foldl (fun s p => upd p.1 p.2 s) s0 from by have h := HF.out; rw [r3] at h; exact h)))
              clear r1 r2 r3 HF h5 ho hb hj hx
              go_wp2
              go_ret2
              exact Done.none (HP.out.below hS (below_alloc (Below.refl _ _) _)) HA.out.2.2 HA.out.1 HA.out.2.1
        · by_cases h11 : (at3 L at_).1 = 11
          · have h5b : ((at3 L (at_ : Int)).1 == 5) = false := beq_eq_false_iff_ne.2 h5
            have h11b : ((at3 L (at_ : Int)).1 == 11) = true := beq_iff_eq.2 h11
            by_cases hop : op = []
            · subst hop
              obtain ⟨rl, r1, r2, r3⟩ := wk_last HR1.out h11
              have hs : upd (at_ : Int) [] s = lg.foldl (fun s p => upd p.1 p.2 s) s0 := by have h := HF.out; rw [rl] at h; exact h
              have HA := Aside0.mk (And.intro hs (And.intro r1 (And.intro r2 r3)))
              clear rl r1 r2 r3 hs HF h5 ho h11
              have hln : L.length ≤ 90000 := hn
              by_cases hlast : at_ + 1 = L.length
              · have HLA := Aside0.mk hlast
                have hlb : ((at_ : Int) != (L.length : Int) - 1) = false := by rw [bne_eq_false_iff_eq]; omega
                clear hlast
                cases deep
                all_goals
                  go_wp2_with (fail)
                  refine (Lp.see hS (at_ : Int) none [] 0 0 _ rfl (by exact HP.out.below hS (below_alloc (Below.refl _ _) _)) (by exact Kd.C_nil _ _) (fun _ h => by cases h) (by omega) (by omega) (by have := HN.out.2; omega)).mono ?_
                  rintro e' w2 ⟨rfl, FP', hP2⟩
                  have HP2 := Aside0.mk hP2
                  clear hP2 HP
                  go_wp2_with ((with_reducible refine gate_builtin (b := .append) (xs := #[.tmp 108, .tmp 111]) rfl ?_); at_builtin; refine Kd.R_append k3 (w0 := _) w.heap.size rfl (.tmp 108) (.tmp 111) 79 140 (.agg #[(.int .i64 0), (.int .i64 0), (.int .i64 0)]) 24 rfl Tryd.underlying79 infoSpan rfl (by decide) (by omega) (.slice As sp.length cs) sp ((-1 : Int), (-1 : Int), (at_ : Int)) [.int .i64 (-1), .int .i64 (-1), .int .i64 (at_ : Int)] (fun k => ¬ FP' k) (fun _ => False) rfl rfl ?bP (fun _ hk => hk.elim) ?bF ?bO (Below.refl _ _) ?bS ?bL ?_; (case bP => exact k3_mkM _ _ _ _); (case bF => exact (fun k hk hF => by have := hS.lt HP2.out.inv hF; omega)); (case bO => exact HP2.out.rs); (case bS => exact HP2.out.ch.size); (case bL => have := HN.out; omega); intro v2 w4 hO hB hg hat; have HP4 := Aside0.mk (HP2.out.growS hS hg hO); clear hO hB hg hat HP2; obtain ⟨A2, c2, e2⟩ := Kd.R_slice HP4.out.rs; subst e2)
                  go_ret2
                · obtain ⟨rR, rE⟩ := HA.out.2.2.2 HLA.out (by first | rfl | trivial)
                  rw [rR]
                  have h_ := HP4.out
                  simp only [List.length_append, List.length_cons, List.length_nil, Nat.zero_add] at h_
                  exact Done.of h_ HA.out.1 rE
                · obtain ⟨rR, rE⟩ := HA.out.2.2.1 HLA.out (by first | rfl | trivial)
                  exact Done.none HP2.out HA.out.1 rR rE
              · have HLA := Aside0.mk hlast
                have hlb : ((at_ : Int) != (L.length : Int) - 1) = true := by rw [bne_iff_ne]; omega
                clear hlast
                go_wp2_with (fail)
                refine (Lp.see hS (at_ : Int) none [] 0 0 _ rfl (by exact HP.out.below hS (below_alloc (Below.refl _ _) _)) (by exact Kd.C_nil _ _) (fun _ h => by cases h) (by omega) (by omega) (by have := HN.out.2; omega)).mono ?_
                rintro e' w2 ⟨rfl, FP', hP2⟩
                have HP2 := Aside0.mk hP2
                clear hP2 HP
                go_wp2
                go_ret2
                obtain ⟨rR, rE⟩ := HA.out.2.1 HLA.out
                exact Done.none HP2.out HA.out.1 rR rE
            · obtain ⟨ao, g, jn, bn, e, n, ea, es, hj, hx, hjl, hbl, cj, c0', c1', c2', f1, f2, cL, hg⟩ := HP.out.top hop HJ.out HX.out (HL.out wr HP.out.ch)
              subst ea es
              have hl1 : 1 ≤ op.length := by cases op with | nil => exact absurd rfl hop | cons _ _ => simp
              have hlo : op.length ≤ 90000 := by have := HN.out.2.1; omega
              have hls : sp.length ≤ 90000 := by have := HN.out.1; omega
              have cj' : ∀ o, (wr.alloc o).cell? (ao.add (op.length - 1)) = some (.int .i64 (jn : Int)) := fun o => pw_cell_below (below_alloc (Below.refl _ _) o) cj
              have c2a : ∀ o, (wr.alloc o).cell? ⟨g, jn * 3 + 2, none⟩ = some (.int .i64 n) := fun o => (World.cell?_alloc_past _ _ _ hg).trans c2'
              have f2a : ∀ o, (wr.alloc o).frozen? ⟨g, jn * 3 + 2, none⟩ = false := fun o => (World.frozen?_alloc_past _ _ _ hg).trans f2
              obtain ⟨lg2, el, hr2⟩ := wk_end HR1.out h11 hop hj hx
              have HA := Aside0.mk hx
              have HR2 := Aside0.mk hr2
              have HF2 := HF.out
              rw [el] at HF2
              have HF3 := Aside0.mk (show List.foldl (fun s p => upd p.1 p.2 s) (upd (at_ : Int) op.dropLast s) lg2 = _ from HF2)
              clear hr2 el HF2 HF h5 h11 ho hj hx cj c0' c1' c2' cL f1 f2
              have hco := (Kd.R_reads' HP.out.ro).2.1
              go_wp2_with (fail)
              have HP1 := HP.out.setEnd hS hjl HA.out (at_ : Int)
              have HP1' := fun o => (HP1.take (op.length - 1) (by omega)).below hS (below_alloc (Below.refl _ _) o)
              refine (Lp.see hS (at_ : Int) (some ao) op.dropLast _ co _ List.length_dropLast (by exact HP1' _) (by exact (HP1.below hS (below_alloc (Below.refl _ _) _)).viewLast) HP.out.viewFar' (by omega) (by omega) (by have := HN.out.2; omega)).mono ?_
              rintro e' w2 ⟨rfl, FP', hP2⟩
              rw [← List.dropLast_eq_take] at hP2
              have HP2 := Aside0.mk hP2
              clear hP2 HP HP1 HP1'
              go_wp2
              go_roundw
              case rel => exact ⟨at_ + 1, _, op.dropLast, deep, _, FP', lg2, by go_num, rfl, by omega, ⟨HRR.out HR2.out⟩, HF3, HP2, ⟨fun j hj => by rw [List.length_set]; exact HJ.out j (List.dropLast_subset _ hj)⟩, ⟨fun x hx => by
                rcases List.mem_or_eq_of_mem_set hx with hx | rfl
                · exact HX.out x hx
                · simp only; omega⟩, ⟨by have := HN.out; have := hS.cnt_upd (at_ : Int) op.dropLast s; rw [List.length_set, List.length_dropLast]; omega⟩⟩
              case measure => simp [intOf]; omega
          · have h5b : ((at3 L (at_ : Int)).1 == 5) = false := beq_eq_false_iff_ne.2 h5
            have h11b : ((at3 L (at_ : Int)).1 == 11) = false := beq_eq_false_iff_ne.2 h11
            have HA := Aside0.mk (And.intro ho (And.intro h5 h11))
            clear h5 h11 ho
            go_wp2_with (fail)
            refine (Lp.see hS (at_ : Int) Ao op _ co _ rfl (by exact HP.out.below hS (below_alloc (Below.refl _ _) _)) (by exact (Kd.R_reads' (HP.out.below hS (below_alloc (Below.refl _ _) _)).ro).2.2) HP.out.viewFar (Kd.R_reads' HP.out.ro).2.1 (by have := HN.out.2; omega) (by have := HN.out.2; omega)).mono ?_
            rintro e w2 ⟨rfl, FP', hP2⟩
            have HP2 := Aside0.mk hP2
            clear hP2 HP
            obtain ⟨lg2, el, hr2⟩ := wk_other HR1.out HA.out.1 HA.out.2.1 HA.out.2.2
            have HR2 := Aside0.mk hr2
            have HF2 := HF.out
            rw [el] at HF2
            have HF3 := Aside0.mk (show List.foldl (fun s p => upd p.1 p.2 s) (upd (at_ : Int) op s) lg2 = _ from HF2)
            clear HF2
            clear hr2 el
            go_wp2
            go_roundw
            case rel => exact ⟨at_ + 1, sp, op, deep, _, FP', lg2, by go_num, rfl, by omega, ⟨HRR.out HR2.out⟩, HF3, HP2, HJ, HX, ⟨by have := HN.out; have := hS.cnt_upd (at_ : Int) op s; omega⟩⟩
            case measure => simp [intOf]; omega
    · have he : L.length - at_ = 0 := by omega
      have hr := HR.out
      rw [he] at hr
      simp only [wk] at hr
      injection hr with r1 hr
      injection hr with r2 r3
      have HA := Aside0.mk (And.intro r1.symm (And.intro r2 (show s = lg.foldl (fun s p => upd p.1 p.2 s) s0 from by have h := HF.out; rw [← r3] at h; exact h)))
      clear r1 r2 r3 HF he HR
      go_wp2
      go_ret2
      exact Done.none HP.out HA.out.2.2 HA.out.1 HA.out.2.1
end

end Go.Proofs.YtjjhhmchomabeaaDoor.Nest
