/- One instruction: what it does to the stack and to the blocks that are open (part D). -/
import Derived.Test.YtjjhhmchomabeaaDoorValMod
import Derived.Maps.AppendAt
import Derived.Deep.DeepAppendRoom
import Derived.Laws.AppendOwn
import Derived.Deep.RegionHeld3
import Derived.Test.YtjjhhmchomabeaaDoorValFA
namespace Go.Proofs.YtjjhhmchomabeaaDoor.Valid
open Go.RowKit Go.Proofs.YtjjhhmchomabeaaDoorW.PrintWords Go.Proofs.YtjjhhmchomabeaaDoorW.PrintLast Go.Proofs.YtjjhhmchomabeaaDoor.Mem Go.Proofs.YtjjhhmchomabeaaDoor.Nest
set_option linter.unusedVariables false
set_option linter.unusedSimpArgs false

theorem cell_al {W : World} {p : Addr} {v : Value} (h : W.cell? p = some v) (o : Obj) : (W.alloc o).cell? p = some v := by
  rw [World.cell?_alloc_some _ _ _ (by rw [h]; rfl)]; exact h
theorem append_keep {P : Program} (w : World) (base : Nat) (t ty e : TypeId) (i : TypeInfo) (z : Value) (size bytes : Nat) (ht : P.underlying t = some (.slice e)) (hi : P.info? e = some i) (hz : i.zero = some z)
    (hsize : i.size = size) (hby : i.bytes = bytes) (hzs : z.cells.size = size) (hsz : 0 < size)
    (g n cap : Nat) (xs : List Value) (hown : w.ownsRow base e size (.slice (some ⟨g, 0, none⟩) n cap) n xs)
    (a : Addr) (m c : Nat) (news : List Value) (hl : news.length = m * size) (hnews : ∀ j u, news[j]? = some u → w.cell? (a.add j) = some u) (h1 : ∀ u ∈ news, u.oneCell' = true)
    (h63 : n + m ≤ maxLen) (hbytes : (n + m) * bytes ≤ 140737488355328) (hg : g < w.heap.size)
    (v' : Value) (w' : World) (hr : (Builtin.append_ #[t, t] ty #[.slice (some ⟨g, 0, none⟩) n cap, .slice (some a) m c]).run P w = .ok v' w') :
    ∀ j u, xs[j]? = some u → w'.cell? ((⟨g, 0, none⟩ : Addr).add j) = some u := by
  intro j u hj
  by_cases hroom : n + m ≤ cap
  · obtain ⟨w2, hr2, hown2, _⟩ := run_append_own_spare (P := P) w base t ty e i size ht hi hsize g n cap xs hown a m c news hl hnews h1 hroom
    have he := hr.symm.trans hr2
    injection he with he1 he2
    subst he1 he2
    refine hown2.cells (g := g) rfl j u ?_
    have : j < xs.length := (List.getElem?_eq_some_iff.1 hj).1
    rw [List.getElem?_append_left this]
    exact hj
  · subst hsize
    subst hby
    have hsmall : n + m ≤ 9223372036854775807 := by simp only [maxLen] at h63; omega
    have holds : ∀ j u, xs[j]? = some u → w.cell? ((⟨g, 0, none⟩ : Addr).add j) = some u := hown.cells (g := g) rfl
    have hr2 := run_append_grow (P := P) w t ty e i z ht hi hz ⟨g, 0, none⟩ n cap xs hown.1 holds a m c news hl hnews (by omega) (by omega) (growslice_fits (by omega) hbytes)
    have he := hr.symm.trans hr2
    injection he with he1 he2
    subst he1 he2
    have h0 := holds j u hj
    rw [World.cell?_alloc_lt _ _ _ (by have := World.block_lt_of_cell? _ _ h0; simpa using this)]
    exact h0
section
variable {P : Program} {ops : Array Oper} {o : Oper} {a : Act} {Q : Exit → Act → World → Prop} {Kc : Act → World → Prop}
theorem R_append_keep_step (d : Kd Fr) {W : World} (base : Nat) (hw : Region.wanted o (yielded ops a.tmps) = true) (s x : Operand) (t e : TypeId) (z : Value) (bytes : Nat)
    (ho : o.op = .call { callee := .builtin .append, args := #[s, x], argTypes := #[t, t] })
    (ht : P.underlying t = some (.slice e)) (hinfo : (P.info? e).map (fun i => (i.zero, i.size, i.bytes)) = some (some z, d.sz, bytes)) (hz : z.cells.size = d.sz) (hs0 : 0 < d.sz) (hb0 : 0 < bytes)
    (g cap n : Nat) (xs : List Fr) (p : Fr) (cs : List Value) (hs : a.eval s = .slice (some ⟨g, 0, none⟩) n cap) (hx : a.eval x = .slice (some ⟨W.heap.size, 0, none⟩) 1 1) (hp : d.M W base (fun _ => False) p cs) (hn : xs.length = n)
    (HO : d.R e W base (fun _ => True) (.slice (some ⟨g, 0, none⟩) n cap) xs) (hbase : base ≤ W.heap.size) (hl : (n + 1) * bytes ≤ 140737488355328)
    (h : ∀ v1 w1, d.R e w1 base (fun _ => True) v1 (xs ++ [p]) → W.grownBy w1 (some g) → (v1.ownBlock = some g ∨ ∃ b, v1.ownBlock = some b ∧ W.heap.size ≤ b) → (∀ j u, j < n * d.sz → W.cell? ⟨g, j, none⟩ = some u → w1.cell? ⟨g, j, none⟩ = some u) → Kc (a.put o.dst v1) w1) :
    if Region.wanted o (yielded ops a.tmps) = true then Oper.wp P o a (W.alloc (.cells cs.toArray e)) Kc Q else Kc (a.put o.dst undef) (W.alloc (.cells cs.toArray e)) := by
  obtain ⟨h0, inner, hown, hr⟩ := HO
  rw [hn] at hown
  have hgl : g < W.heap.size := by
    rcases hown.2 with ⟨hc, _⟩ | ⟨g', _, _, hv, _, hg', _⟩
    · cases hc
    · injection hv with hv
      injection hv with hv
      injection hv with hv
      subst hv
      exact (Array.getElem?_eq_some_iff.1 hg').1
  obtain ⟨i0, hi, hzz⟩ := Option.map_eq_some_iff.1 hinfo
  simp only [Prod.mk.injEq] at hzz
  obtain ⟨hz0, hz1, hz2⟩ := hzz
  have hlen : n + 1 ≤ 140737488355328 := Nat.le_trans (Nat.le_mul_of_pos_right _ hb0) hl
  have hys : cs.length = d.sz := d.K_len (d.K_of_M hp)
  have hone := d.K_one (d.K_of_M hp)
  have hnews : ∀ j u, cs[j]? = some u → (W.alloc (.cells cs.toArray e)).cell? ((⟨W.heap.size, 0, none⟩ : Addr).add j) = some u := by simpa using World.news_of_block (cs := cs.toArray) (t := e) (fr := (0, 0)) (heap_alloc_new W (.cells cs.toArray e))
  rw [if_pos hw]
  obtain ⟨v1, w1, hrun, hown1, hg1, _, hat⟩ := run_append_own_at (P := P) (W.alloc (.cells cs.toArray e)) base t o.type e i0 z d.sz bytes ht hi hz0 hz1 hz2 hz hs0 (.slice (some ⟨g, 0, none⟩) n cap) n inner (hown.alloc _) ⟨W.heap.size, 0, none⟩ 1 1 cs (by rw [hys]; simp)
    hnews hone (by simp only [maxLen]; omega) hl (by simp; omega)
  have hk := append_keep (P := P) (W.alloc (.cells cs.toArray e)) base t o.type e i0 z d.sz bytes ht hi hz0 hz1 hz2 hz hs0 g n cap inner (hown.alloc _) ⟨W.heap.size, 0, none⟩ 1 1 cs (by rw [hys]; simp) hnews hone (by simp only [maxLen]; omega) hl (by simp; omega) v1 w1 hrun
  unfold Oper.wp execOp
  simp only [ho, resolve, invoke, builtin, Sem.run_bind, Sem.run_pure, Result.andThen_ok, List.map_toArray, List.map_cons, List.map_nil, hs, hx, hrun]
  have hgb : W.grownBy w1 (some g) := World.grownBy.trans (World.grownBy_alloc W _ _) hg1
  have hat2 : v1.ownBlock = some g ∨ ∃ b, v1.ownBlock = some b ∧ W.heap.size ≤ b := by
    rcases hat with hat | hat
    · exact .inl hat
    · exact .inr ⟨_, hat, by simp⟩
  refine h v1 w1 (Kd.R_appended h0 hr hp (fun _ hk => hk.elim) (fun _ _ => trivial) (by rw [hn]; exact hown1) hgb hat2) hgb hat2 (fun j u hj hu => ?_)
  have hil : inner.length = n * d.sz := hown.1
  have hadd : ∀ q, (⟨g, 0, none⟩ : Addr).add q = ⟨g, q, none⟩ := fun q => by unfold Addr.add; split <;> simp_all
  have h2 := hk j (inner[j]'(by omega)) (List.getElem?_eq_getElem (by omega))
  have h3 := hown.cells (g := g) rfl j (inner[j]'(by omega)) (List.getElem?_eq_getElem (by omega))
  rw [hadd] at h2 h3
  rw [hu] at h3
  injection h3 with h3
  rw [h2, h3]
end
end Go.Proofs.YtjjhhmchomabeaaDoor.Valid
namespace Go.Proofs.YtjjhhmchomabeaaDoor.Valid
open Go.RowKit Go.Proofs.YtjjhhmchomabeaaDoorW.PrintWords Go.Proofs.YtjjhhmchomabeaaDoorW.PrintLast Go.Proofs.YtjjhhmchomabeaaDoor.Mem Go.Proofs.YtjjhhmchomabeaaDoor.Nest
set_option linter.unusedVariables false
set_option linter.unusedSimpArgs false

section
variable {P : Program} {md : Region.Mode} {ops : Array Oper} {Q : Exit → Act → World → Prop} {S : World → Prop} {fuel : Nat} {listed : Array Bool} {a : Act} {w : World} {oi : Oper}
/-- number i is taken first -/
theorem tk (i : Nat) (v : Value) (hi : ops[i]? = some oi) (h : wpAnyH P md ops Q S fuel (listed.setIfInBounds i true) (a.put oi.dst v) w) (hs : Region.noSelect ops = true := by kernel_rfl) (hf : Region.free md ops listed i = true := by kernel_rfl) (hr : (Region.ready md ops listed).contains i = true := by kernel_rfl)
    (hQ : ∀ c a w, Q (.panic c) (a.put oi.dst v) w → Q (.panic c) a w := by exact fun _ _ _ h => h) (hy : YieldsIf P ops S oi v a := by exact Or.inl ⟨by rfl, fun _ _ => rfl⟩) (hS : S w := by assumption) : wpAnyH P md ops Q S (fuel + 1) listed a w :=
  wpAnyH_take hi hs hf hr hQ hy hS h
/-- number i is taken first: what it yields is to be shown -/
theorem tv (i : Nat) (v : Value) (hi : ops[i]? = some oi) (hy : ∀ w, S w → (execOp a.eval oi).run P w = .ok (.value v) w) (h : wpAnyH P md ops Q S fuel (listed.setIfInBounds i true) (a.put oi.dst v) w) (hs : Region.noSelect ops = true := by kernel_rfl) (hf : Region.free md ops listed i = true := by kernel_rfl) (hr : (Region.ready md ops listed).contains i = true := by kernel_rfl)
    (hQ : ∀ c a w, Q (.panic c) (a.put oi.dst v) w → Q (.panic c) a w := by exact fun _ _ _ h => h) (hg : Region.wanted oi (yielded ops a.tmps) = true := by rfl) (hS : S w := by assumption) : wpAnyH P md ops Q S (fuel + 1) listed a w :=
  wpAnyH_take hi hs hf hr hQ (Or.inl ⟨hg, hy⟩) hS h
end
section
variable {w00 w0 W : World} {wr : Rf} {Z : Nat → Prop} {kb : Nat} {p : P13} {E : Env} {h : Hd} {vs vf : Value} {s : Ck}
set_option maxHeartbeats 4000000 in
set_option maxRecDepth 100000 in
theorem see_open_23 {op : Int} (ho : op = 2 ∨ op = 3) (S : Stat w00 w0 Z kb p E h) (F : EFine E) (n m : Int) (hcn : Can n) (hm0 : 0 ≤ m) (hm4 : m ≤ 4) (hfl : s.fr.length ≤ 1000) (H : Cs w0 wr W kb p vs vf s) (wf : Wf s) (hz : wr.Z = Z := by rfl) :
    Calls Tryd.prog 40 #[.pointer (some ⟨kb, 0, none⟩), .agg #[.int .i64 op, .int .i64 n, .int .i64 m]] W (OutS w0 wr kb p (see E (op, n, m) s)) := by
  subst hz
  have HB := Aside0.mk (blk_new W (.cells #[.int .i64 op, .int .i64 n, .int .i64 m] 45))
  have HS := Aside0.mk S
  have HF := Aside0.mk F
  have HW0 := Aside0.mk wf
  have HC0 := Aside0.mk (H.alloc (.cells #[.int .i64 op, .int .i64 n, .int .i64 m] 45)).rebase
  have HK := Aside0.mk (H.alloc (.cells #[.int .i64 op, .int .i64 n, .int .i64 m] 45)).kp
  have HE0 := Aside0.mk (show see E (op, n, m) s = .ok (openT (op, n, m) s) from by rcases ho with rfl | rfl <;> rfl)
  have e1 : (op == 1) = false := by rcases ho with rfl | rfl <;> rfl
  have e0 : (op == 0) = false := by rcases ho with rfl | rfl <;> rfl
  have e4 : (op == 4) = false := by rcases ho with rfl | rfl <;> rfl
  have e23 : (op == 2) = true ∨ ((op == 2) = false ∧ (op == 3) = true) := by rcases ho with rfl | rfl <;> decide
  clear H wf S F ho
  rcases e23 with e2 | ⟨e2, e3⟩
  all_goals
    go_enter Tryd.func40, Tryd.ntmps40
    try dsimp only
    repeat (first | ((with_reducible refine inBlock_ne ?hne ?_); (case hne => rfl)) | (with_reducible refine inBlock_eq ?_) | (with_reducible refine then_exit ?_) | (with_reducible refine then_normal ?_) | (with_reducible refine inBlock_normal ?_) | (with_reducible refine then_ret ?_) | (with_reducible refine inBlock_ret ?_) | go_skip | go_guarded | go_step | go_upon)
    generalize W.alloc _ = W1 at *
    have hfl1 := hfl
    obtain ⟨q, hn1⟩ : ∃ q, s.fr.length = q + 1 := ⟨s.fr.length - 1, by have := HW0.out.pos; omega⟩
    obtain ⟨g, cap, hvf, hg1, hg2⟩ := HC0.out.form HW0.out.pos
    obtain ⟨Av, cv, hvs⟩ := Kd.R_slice HC0.out.st
    rw [hn1] at hvf hfl1
    rw [hvf] at HC0 HK
    rw [hvs] at HC0
    first | rw [hvs] at HK | skip
    have HT := Aside0.mk (top_calls HC0.out hn1)
    have HN1 := Aside0.mk hn1
    clear hvf hvs hfl hn1
    refine HT.out.mono ?_
    rintro e wt ⟨rfl, hbt⟩
    have HC9 := HC0.out.below hbt
    have hbK := HC9.kp.kp _ _ _ (by decide) (by decide) (by decide) HB.out
    have hq0 := blk_cell hbK 0
    have hq2 := blk_cell hbK 2
    have h13 := blk_cell HC9.box 13
    have h14 := blk_cell HC9.box 14
    obtain ⟨_, _, _, f3, f4, _, _⟩ := HC9.last HN1.out
    have HNB := Aside0.mk (show some kb ≠ (Value.slice (some ⟨g, 0, none⟩) (q + 1) cap).ownBlock from fun e => by have := Kd.R_base HC9.fr kb e.symm; have := HC9.klt; omega)
    have HQ := Aside0.mk HC9.drew
    have HOP := Aside0.mk (show openT (op, n, m) s = ⟨s.st, s.fr ++ [⟨op, m - 1, s.st.length, false, s.top.dead || s.top.asleep, false⟩]⟩ from rfl)
    clear hbt HC9 hbK HT HC0 hg1 hg2
    obtain ⟨s9, hs⟩ : ∃ x, s = x := ⟨_, rfl⟩
    have HSS := Aside0.mk hs
    rw [hs] at h13 f3 f4 HQ HOP HN1
    first | rw [hs] at HK | skip
    clear hs
    have hsl := HQ.out.slen
    have hmw : wrap64 (m - 1) = m - 1 := by unfold wrap64; omega
    have hmw2 : IntKind.i64.wrap (m - 1) = m - 1 := by rw [IntWalk.i64_left]; exact hmw
    have HLQ := Aside0.mk HN1.out
    clear HN1
    cases hd : s9.top.dead
    · rw [hd] at f3
      have HOQ := Aside0.mk (show openT (op, n, m) s9 = ⟨s9.st, s9.fr ++ [⟨op, m - 1, s9.st.length, false, s9.top.asleep, false⟩]⟩ by rw [HOP.out, hd]; rfl)
      clear HOP hd
      try dsimp only
      repeat (first | ((with_reducible refine inBlock_ne ?hne ?_); (case hne => rfl)) | (with_reducible refine inBlock_eq ?_) | (with_reducible refine then_exit ?_) | (with_reducible refine then_normal ?_) | (with_reducible refine inBlock_normal ?_) | (with_reducible refine then_ret ?_) | (with_reducible refine inBlock_ret ?_) | go_skip | go_guarded | go_step | go_upon)
      have HS0 := Aside0.mk (show (fun w' => w'.cell? ⟨W.heap.size, 0, none⟩ = some (.int .i64 op) ∧ w'.cell? ⟨W.heap.size, 2, none⟩ = some (.int .i64 m) ∧ w'.cell? ⟨kb, 13, none⟩ = some (.slice Av s9.st.length cv) ∧ w'.cell? ⟨g, q * 6 + 3, none⟩ = some (.bool false) ∧ w'.cell? ⟨g, q * 6 + 4, none⟩ = some (.bool s9.top.asleep)) wt.drew from ⟨hq0, hq2, h13, f3, f4⟩)
      refine wp_region_held_drew (S := (fun w' => w'.cell? ⟨W.heap.size, 0, none⟩ = some (.int .i64 op) ∧ w'.cell? ⟨W.heap.size, 2, none⟩ = some (.int .i64 m) ∧ w'.cell? ⟨kb, 13, none⟩ = some (.slice Av s9.st.length cv) ∧ w'.cell? ⟨g, q * 6 + 3, none⟩ = some (.bool false) ∧ w'.cell? ⟨g, q * 6 + 4, none⟩ = some (.bool s9.top.asleep))) (by kernel_rfl) HS0.out (fun hHeld => ?_)
      refine tk 0 (.pointer (some ⟨kb, 0, none⟩)) rfl (tk 1 (.pointer (some ⟨kb, 0, none⟩)) rfl (tk 2 (.pointer (some ⟨kb, 0, none⟩)) rfl ?_))
      try simp only [Act.put, List.getElem_toArray, List.getElem_cons_succ, List.getElem_cons_zero, List.setIfInBounds_toArray, List.set_cons_zero, List.set_cons_succ]
      refine tk 3 (.pointer (some ⟨kb, 14, none⟩)) rfl (tk 5 (.pointer (some ⟨W.heap.size, 0, none⟩)) rfl ?_)
      try simp only [Act.put, List.getElem_toArray, List.getElem_cons_succ, List.getElem_cons_zero, List.setIfInBounds_toArray, List.set_cons_zero, List.set_cons_succ]
      refine tv 6 (.int .i64 op) rfl (fun w' hSw => ?_) ?_
      · obtain ⟨y0, y1, y2, y3, y4⟩ := hSw
        clear hHeld
        go_simp
      try simp only [Act.put, List.getElem_toArray, List.getElem_cons_succ, List.getElem_cons_zero, List.setIfInBounds_toArray, List.set_cons_zero, List.set_cons_succ]
      refine tk 7 (.pointer (some ⟨W.heap.size, 2, none⟩)) rfl ?_
      try simp only [Act.put, List.getElem_toArray, List.getElem_cons_succ, List.getElem_cons_zero, List.setIfInBounds_toArray, List.set_cons_zero, List.set_cons_succ]
      refine tv 8 (.int .i64 m) rfl (fun w' hSw => ?_) ?_
      · obtain ⟨y0, y1, y2, y3, y4⟩ := hSw
        clear hHeld
        go_simp
      try simp only [Act.put, List.getElem_toArray, List.getElem_cons_succ, List.getElem_cons_zero, List.setIfInBounds_toArray, List.set_cons_zero, List.set_cons_succ]
      refine tv 9 (.int .i64 (m - 1)) rfl (fun w' hSw => ?_) ?_
      · obtain ⟨y0, y1, y2, y3, y4⟩ := hSw
        clear hHeld
        go_simp
      try simp only [Act.put, List.getElem_toArray, List.getElem_cons_succ, List.getElem_cons_zero, List.setIfInBounds_toArray, List.set_cons_zero, List.set_cons_succ]
      refine tk 10 (.pointer (some ⟨kb, 0, none⟩)) rfl (tk 11 (.pointer (some ⟨kb, 0, none⟩)) rfl (tk 12 (.pointer (some ⟨kb, 13, none⟩)) rfl ?_))
      try simp only [Act.put, List.getElem_toArray, List.getElem_cons_succ, List.getElem_cons_zero, List.setIfInBounds_toArray, List.set_cons_zero, List.set_cons_succ]
      refine tv 13 (.slice Av s9.st.length cv) rfl (fun w' hSw => ?_) ?_
      · obtain ⟨y0, y1, y2, y3, y4⟩ := hSw
        clear hHeld
        go_simp
      try simp only [Act.put, List.getElem_toArray, List.getElem_cons_succ, List.getElem_cons_zero, List.setIfInBounds_toArray, List.set_cons_zero, List.set_cons_succ]
      refine tv 14 (.int .i64 s9.st.length) rfl (fun w' hSw => ?_) ?_
      · obtain ⟨y0, y1, y2, y3, y4⟩ := hSw
        clear hHeld
        go_simp
      try simp only [Act.put, List.getElem_toArray, List.getElem_cons_succ, List.getElem_cons_zero, List.setIfInBounds_toArray, List.set_cons_zero, List.set_cons_succ]
      refine tk 15 (.pointer (some ⟨g, q * 6, none⟩)) rfl (tk 16 (.pointer (some ⟨g, q * 6, none⟩)) rfl (tk 17 (.pointer (some ⟨g, q * 6 + 3, none⟩)) rfl ?_))
      try simp only [Act.put, List.getElem_toArray, List.getElem_cons_succ, List.getElem_cons_zero, List.setIfInBounds_toArray, List.set_cons_zero, List.set_cons_succ]
      refine tv 18 (.bool false) rfl (fun w' hSw => ?_) ?_
      · obtain ⟨y0, y1, y2, y3, y4⟩ := hSw
        clear hHeld
        go_simp
      try simp only [Act.put, List.getElem_toArray, List.getElem_cons_succ, List.getElem_cons_zero, List.setIfInBounds_toArray, List.set_cons_zero, List.set_cons_succ]
      refine tk 19 (.bool false) rfl (tk 20 (.pointer (some ⟨g, q * 6, none⟩)) rfl (tk 21 (.pointer (some ⟨g, q * 6, none⟩)) rfl ?_))
      try simp only [Act.put, List.getElem_toArray, List.getElem_cons_succ, List.getElem_cons_zero, List.setIfInBounds_toArray, List.set_cons_zero, List.set_cons_succ]
      refine tk 22 (.pointer (some ⟨g, q * 6 + 4, none⟩)) rfl ?_
      try simp only [Act.put, List.getElem_toArray, List.getElem_cons_succ, List.getElem_cons_zero, List.setIfInBounds_toArray, List.set_cons_zero, List.set_cons_succ]
      refine tv 23 (.bool s9.top.asleep) rfl (fun w' hSw => ?_) ?_
      · obtain ⟨y0, y1, y2, y3, y4⟩ := hSw
        clear hHeld
        go_simp
      try simp only [Act.put, List.getElem_toArray, List.getElem_cons_succ, List.getElem_cons_zero, List.setIfInBounds_toArray, List.set_cons_zero, List.set_cons_succ]
      refine tk 24 (.bool s9.top.asleep) rfl ?_
      try simp only [Act.put, List.getElem_toArray, List.getElem_cons_succ, List.getElem_cons_zero, List.setIfInBounds_toArray, List.set_cons_zero, List.set_cons_succ]
      refine tv 25 (.agg #[.int .i64 op, .int .i64 (m - 1), .int .i64 s9.st.length, .bool false, .bool s9.top.asleep, .bool false]) rfl (fun w' hSw => ?_) ?_
      · obtain ⟨y0, y1, y2, y3, y4⟩ := hSw
        clear hHeld
        go_simp
      try simp only [Act.put, List.getElem_toArray, List.getElem_cons_succ, List.getElem_cons_zero, List.setIfInBounds_toArray, List.set_cons_zero, List.set_cons_succ]
      have HGK := Aside0.mk (show g ≠ kb from fun e => HNB.out (by rw [e]; rfl))
      have HSA := Aside0.mk (show (fun w' => w'.cell? ⟨W.heap.size, 0, none⟩ = some (.int .i64 op) ∧ w'.cell? ⟨W.heap.size, 2, none⟩ = some (.int .i64 m) ∧ w'.cell? ⟨kb, 13, none⟩ = some (.slice Av s9.st.length cv) ∧ w'.cell? ⟨g, q * 6 + 3, none⟩ = some (.bool false) ∧ w'.cell? ⟨g, q * 6 + 4, none⟩ = some (.bool s9.top.asleep)) (wt.drew.alloc (.cells #[.int .i64 op, .int .i64 (m - 1), .int .i64 s9.st.length, .bool false, .bool s9.top.asleep, .bool false] 88)) from ⟨cell_al hq0 _, cell_al hq2 _, cell_al h13 _, cell_al f3 _, cell_al f4 _⟩)
      have h14a := cell_al (W := wt) h14 (.cells #[.int .i64 op, .int .i64 (m - 1), .int .i64 s9.st.length, .bool false, .bool s9.top.asleep, .bool false] 88)
      refine wpAnyH_ready (rs := [4, 26]) (by kernel_rfl) (by simp) ?_
      refine AllReadyH.cons rfl (fun K4 hK4 => ?_) (AllReadyH.cons rfl (fun K26 hK26 => ?_) AllReadyH.nil)
      · clear hHeld
        go_simp
        refine hK4.out _ _ HS0.out (fun hHeld => ?_)
        clear hK4
        try simp only [Act.put, List.getElem_toArray, List.getElem_cons_succ, List.getElem_cons_zero, List.setIfInBounds_toArray, List.set_cons_zero, List.set_cons_succ]
        refine wpAnyH_ready (rs := [26]) (by kernel_rfl) (by simp) ?_
        refine AllReadyH.cons rfl (fun K26 hK26 => ?_) AllReadyH.nil
        clear hHeld
        go_simp
        refine hK26.out _ _ HSA.out (fun hHeld => ?_)
        clear hK26
        try simp only [Act.put, List.getElem_toArray, List.getElem_cons_succ, List.getElem_cons_zero, List.setIfInBounds_toArray, List.set_cons_zero, List.set_cons_succ]
        refine wpAnyH_ready (rs := [27]) (by kernel_rfl) (by simp) ?_
        refine AllReadyH.cons rfl (fun K27 hK27 => ?_) AllReadyH.nil
        refine R_append_keep_step kFr w0.heap.size rfl (.tmp 68) (.tmp 90) 84 88 zFr.val 32 rfl Tryd.underlying84 infoFr rfl (by decide) (by omega) g cap (q + 1) s9.fr (⟨op, m - 1, s9.st.length, false, s9.top.asleep, false⟩ : Fr) (⟨op, m - 1, s9.st.length, false, s9.top.asleep, false⟩ : Fr).cells rfl (by show Value.slice _ _ _ = Value.slice _ _ _; simp) (kFr_M _ _ _ _) HLQ.out HQ.out.fr HQ.out.size (by omega) ?_
        intro v1 w3 hO hg hat hkeep
        obtain ⟨A1, c1, e1⟩ := Kd.R_slice hO
        have e2 : v1 = .slice A1 (s9.fr.length + 1) c1 := by rw [e1]; simp
        clear e1
        subst e2
        have hb1 := blk_grown HQ.out.box hg HNB.out
        have hc3 := blk_cell hb1 14
        have hf3 := blk_frozen hb1 14
        have hbx3 := (HQ.out.kp.growF hg (Kd.R_typed HQ.out.fr) hat).kp _ _ _ (by decide) (by decide) (by decide) HB.out
        have HN := Aside0.mk (HQ.out.putFr hg hat hO)
        have HS3 := Aside0.mk (show (fun w' => w'.cell? ⟨W.heap.size, 0, none⟩ = some (.int .i64 op) ∧ w'.cell? ⟨W.heap.size, 2, none⟩ = some (.int .i64 m) ∧ w'.cell? ⟨kb, 13, none⟩ = some (.slice Av s9.st.length cv) ∧ w'.cell? ⟨g, q * 6 + 3, none⟩ = some (.bool false) ∧ w'.cell? ⟨g, q * 6 + 4, none⟩ = some (.bool s9.top.asleep)) w3 from ⟨blk_cell hbx3 0, blk_cell hbx3 2, blk_cell hb1 13, hkeep _ _ (by show q * 6 + 3 < (q + 1) * 6; omega) f3, hkeep _ _ (by show q * 6 + 4 < (q + 1) * 6; omega) f4⟩)
        have HS4 := Aside0.mk (show (fun w' => w'.cell? ⟨W.heap.size, 0, none⟩ = some (.int .i64 op) ∧ w'.cell? ⟨W.heap.size, 2, none⟩ = some (.int .i64 m) ∧ w'.cell? ⟨kb, 13, none⟩ = some (.slice Av s9.st.length cv) ∧ w'.cell? ⟨g, q * 6 + 3, none⟩ = some (.bool false) ∧ w'.cell? ⟨g, q * 6 + 4, none⟩ = some (.bool s9.top.asleep)) (w3.setCell ⟨kb, 14, none⟩ (.slice A1 (s9.fr.length + 1) c1)) from by
          have hbx4 := HN.out.kp.kp _ _ _ (by decide) (by decide) (by decide) HB.out
          refine ⟨blk_cell hbx4 0, blk_cell hbx4 2, blk_cell HN.out.box 13, ?_, ?_⟩
          · rw [World.cell?_setCell_far _ _ _ _ (fun e => HGK.out e.symm)]; exact HS3.out.2.2.2.1
          · rw [World.cell?_setCell_far _ _ _ _ (fun e => HGK.out e.symm)]; exact HS3.out.2.2.2.2)
        clear hO hg hat hkeep hb1 hbx3
        refine hK27.out _ _ HS3.out (fun hHeld => ?_)
        clear hK27
        try simp only [Act.put, List.getElem_toArray, List.getElem_cons_succ, List.getElem_cons_zero, List.setIfInBounds_toArray, List.set_cons_zero, List.set_cons_succ]
        refine tk 28 (.pointer (some ⟨kb, 0, none⟩)) rfl (tk 29 (.pointer (some ⟨kb, 14, none⟩)) rfl ?_)
        try simp only [Act.put, List.getElem_toArray, List.getElem_cons_succ, List.getElem_cons_zero, List.setIfInBounds_toArray, List.set_cons_zero, List.set_cons_succ]
        refine wpAnyH_ready (rs := [30]) (by kernel_rfl) (by simp) ?_
        refine AllReadyH.cons rfl (fun K30 hK30 => ?_) AllReadyH.nil
        go_simp
        refine hK30.out _ _ HS4.out (fun hHeld4 => ?_)
        clear hK30
        refine wpAnyH_done (by kernel_rfl) ?_ _
        have HO := Aside0.mk (show OutS w0 wr kb p (see E (op, n, m) s) (.returned unit) (w3.setCell ⟨kb, 14, none⟩ (.slice A1 (s9.fr.length + 1) c1)) from outS_ok (HE0.out.trans (by rw [HSS.out, HOQ.out])) (HN.out.back HK.out))
        clear HS0 HSA HS3 HS4 hHeld4
        try dsimp only
        repeat (first | ((with_reducible refine inBlock_ne ?hne ?_); (case hne => rfl)) | (with_reducible refine inBlock_eq ?_) | (with_reducible refine then_exit ?_) | (with_reducible refine then_normal ?_) | (with_reducible refine inBlock_normal ?_) | (with_reducible refine then_ret ?_) | (with_reducible refine inBlock_ret ?_) | go_skip | go_guarded | go_step | go_upon)
        go_end0
        exact HO.out
      · clear hHeld
        go_simp
        refine hK26.out _ _ HSA.out (fun hHeld => ?_)
        clear hK26
        try simp only [Act.put, List.getElem_toArray, List.getElem_cons_succ, List.getElem_cons_zero, List.setIfInBounds_toArray, List.set_cons_zero, List.set_cons_succ]
        refine wpAnyH_ready (rs := [4]) (by kernel_rfl) (by simp) ?_
        refine AllReadyH.cons rfl (fun K4 hK4 => ?_) AllReadyH.nil
        clear hHeld
        go_simp
        refine hK4.out _ _ HSA.out (fun hHeld => ?_)
        clear hK4
        try simp only [Act.put, List.getElem_toArray, List.getElem_cons_succ, List.getElem_cons_zero, List.setIfInBounds_toArray, List.set_cons_zero, List.set_cons_succ]
        refine wpAnyH_ready (rs := [27]) (by kernel_rfl) (by simp) ?_
        refine AllReadyH.cons rfl (fun K27 hK27 => ?_) AllReadyH.nil
        refine R_append_keep_step kFr w0.heap.size rfl (.tmp 68) (.tmp 90) 84 88 zFr.val 32 rfl Tryd.underlying84 infoFr rfl (by decide) (by omega) g cap (q + 1) s9.fr (⟨op, m - 1, s9.st.length, false, s9.top.asleep, false⟩ : Fr) (⟨op, m - 1, s9.st.length, false, s9.top.asleep, false⟩ : Fr).cells rfl (by show Value.slice _ _ _ = Value.slice _ _ _; simp) (kFr_M _ _ _ _) HLQ.out HQ.out.fr HQ.out.size (by omega) ?_
        intro v1 w3 hO hg hat hkeep
        obtain ⟨A1, c1, e1⟩ := Kd.R_slice hO
        have e2 : v1 = .slice A1 (s9.fr.length + 1) c1 := by rw [e1]; simp
        clear e1
        subst e2
        have hb1 := blk_grown HQ.out.box hg HNB.out
        have hc3 := blk_cell hb1 14
        have hf3 := blk_frozen hb1 14
        have hbx3 := (HQ.out.kp.growF hg (Kd.R_typed HQ.out.fr) hat).kp _ _ _ (by decide) (by decide) (by decide) HB.out
        have HN := Aside0.mk (HQ.out.putFr hg hat hO)
        have HS3 := Aside0.mk (show (fun w' => w'.cell? ⟨W.heap.size, 0, none⟩ = some (.int .i64 op) ∧ w'.cell? ⟨W.heap.size, 2, none⟩ = some (.int .i64 m) ∧ w'.cell? ⟨kb, 13, none⟩ = some (.slice Av s9.st.length cv) ∧ w'.cell? ⟨g, q * 6 + 3, none⟩ = some (.bool false) ∧ w'.cell? ⟨g, q * 6 + 4, none⟩ = some (.bool s9.top.asleep)) w3 from ⟨blk_cell hbx3 0, blk_cell hbx3 2, blk_cell hb1 13, hkeep _ _ (by show q * 6 + 3 < (q + 1) * 6; omega) f3, hkeep _ _ (by show q * 6 + 4 < (q + 1) * 6; omega) f4⟩)
        have HS4 := Aside0.mk (show (fun w' => w'.cell? ⟨W.heap.size, 0, none⟩ = some (.int .i64 op) ∧ w'.cell? ⟨W.heap.size, 2, none⟩ = some (.int .i64 m) ∧ w'.cell? ⟨kb, 13, none⟩ = some (.slice Av s9.st.length cv) ∧ w'.cell? ⟨g, q * 6 + 3, none⟩ = some (.bool false) ∧ w'.cell? ⟨g, q * 6 + 4, none⟩ = some (.bool s9.top.asleep)) (w3.setCell ⟨kb, 14, none⟩ (.slice A1 (s9.fr.length + 1) c1)) from by
          have hbx4 := HN.out.kp.kp _ _ _ (by decide) (by decide) (by decide) HB.out
          refine ⟨blk_cell hbx4 0, blk_cell hbx4 2, blk_cell HN.out.box 13, ?_, ?_⟩
          · rw [World.cell?_setCell_far _ _ _ _ (fun e => HGK.out e.symm)]; exact HS3.out.2.2.2.1
          · rw [World.cell?_setCell_far _ _ _ _ (fun e => HGK.out e.symm)]; exact HS3.out.2.2.2.2)
        clear hO hg hat hkeep hb1 hbx3
        refine hK27.out _ _ HS3.out (fun hHeld => ?_)
        clear hK27
        try simp only [Act.put, List.getElem_toArray, List.getElem_cons_succ, List.getElem_cons_zero, List.setIfInBounds_toArray, List.set_cons_zero, List.set_cons_succ]
        refine tk 28 (.pointer (some ⟨kb, 0, none⟩)) rfl (tk 29 (.pointer (some ⟨kb, 14, none⟩)) rfl ?_)
        try simp only [Act.put, List.getElem_toArray, List.getElem_cons_succ, List.getElem_cons_zero, List.setIfInBounds_toArray, List.set_cons_zero, List.set_cons_succ]
        refine wpAnyH_ready (rs := [30]) (by kernel_rfl) (by simp) ?_
        refine AllReadyH.cons rfl (fun K30 hK30 => ?_) AllReadyH.nil
        go_simp
        refine hK30.out _ _ HS4.out (fun hHeld4 => ?_)
        clear hK30
        refine wpAnyH_done (by kernel_rfl) ?_ _
        have HO := Aside0.mk (show OutS w0 wr kb p (see E (op, n, m) s) (.returned unit) (w3.setCell ⟨kb, 14, none⟩ (.slice A1 (s9.fr.length + 1) c1)) from outS_ok (HE0.out.trans (by rw [HSS.out, HOQ.out])) (HN.out.back HK.out))
        clear HS0 HSA HS3 HS4 hHeld4
        try dsimp only
        repeat (first | ((with_reducible refine inBlock_ne ?hne ?_); (case hne => rfl)) | (with_reducible refine inBlock_eq ?_) | (with_reducible refine then_exit ?_) | (with_reducible refine then_normal ?_) | (with_reducible refine inBlock_normal ?_) | (with_reducible refine then_ret ?_) | (with_reducible refine inBlock_ret ?_) | go_skip | go_guarded | go_step | go_upon)
        go_end0
        exact HO.out
    · rw [hd] at f3
      have HOQ := Aside0.mk (show openT (op, n, m) s9 = ⟨s9.st, s9.fr ++ [⟨op, m - 1, s9.st.length, false, true, false⟩]⟩ by rw [HOP.out, hd]; rfl)
      clear HOP hd
      try dsimp only
      repeat (first | ((with_reducible refine inBlock_ne ?hne ?_); (case hne => rfl)) | (with_reducible refine inBlock_eq ?_) | (with_reducible refine then_exit ?_) | (with_reducible refine then_normal ?_) | (with_reducible refine inBlock_normal ?_) | (with_reducible refine then_ret ?_) | (with_reducible refine inBlock_ret ?_) | go_skip | go_guarded | go_step | go_upon)
      have HS0 := Aside0.mk (show (fun w' => w'.cell? ⟨W.heap.size, 0, none⟩ = some (.int .i64 op) ∧ w'.cell? ⟨W.heap.size, 2, none⟩ = some (.int .i64 m) ∧ w'.cell? ⟨kb, 13, none⟩ = some (.slice Av s9.st.length cv) ∧ w'.cell? ⟨g, q * 6 + 3, none⟩ = some (.bool true) ∧ w'.cell? ⟨g, q * 6 + 4, none⟩ = some (.bool s9.top.asleep)) wt.drew from ⟨hq0, hq2, h13, f3, f4⟩)
      refine wp_region_held_drew (S := (fun w' => w'.cell? ⟨W.heap.size, 0, none⟩ = some (.int .i64 op) ∧ w'.cell? ⟨W.heap.size, 2, none⟩ = some (.int .i64 m) ∧ w'.cell? ⟨kb, 13, none⟩ = some (.slice Av s9.st.length cv) ∧ w'.cell? ⟨g, q * 6 + 3, none⟩ = some (.bool true) ∧ w'.cell? ⟨g, q * 6 + 4, none⟩ = some (.bool s9.top.asleep))) (by kernel_rfl) HS0.out (fun hHeld => ?_)
      refine tk 0 (.pointer (some ⟨kb, 0, none⟩)) rfl (tk 1 (.pointer (some ⟨kb, 0, none⟩)) rfl (tk 2 (.pointer (some ⟨kb, 0, none⟩)) rfl ?_))
      try simp only [Act.put, List.getElem_toArray, List.getElem_cons_succ, List.getElem_cons_zero, List.setIfInBounds_toArray, List.set_cons_zero, List.set_cons_succ]
      refine tk 3 (.pointer (some ⟨kb, 14, none⟩)) rfl (tk 5 (.pointer (some ⟨W.heap.size, 0, none⟩)) rfl ?_)
      try simp only [Act.put, List.getElem_toArray, List.getElem_cons_succ, List.getElem_cons_zero, List.setIfInBounds_toArray, List.set_cons_zero, List.set_cons_succ]
      refine tv 6 (.int .i64 op) rfl (fun w' hSw => ?_) ?_
      · obtain ⟨y0, y1, y2, y3, y4⟩ := hSw
        clear hHeld
        go_simp
      try simp only [Act.put, List.getElem_toArray, List.getElem_cons_succ, List.getElem_cons_zero, List.setIfInBounds_toArray, List.set_cons_zero, List.set_cons_succ]
      refine tk 7 (.pointer (some ⟨W.heap.size, 2, none⟩)) rfl ?_
      try simp only [Act.put, List.getElem_toArray, List.getElem_cons_succ, List.getElem_cons_zero, List.setIfInBounds_toArray, List.set_cons_zero, List.set_cons_succ]
      refine tv 8 (.int .i64 m) rfl (fun w' hSw => ?_) ?_
      · obtain ⟨y0, y1, y2, y3, y4⟩ := hSw
        clear hHeld
        go_simp
      try simp only [Act.put, List.getElem_toArray, List.getElem_cons_succ, List.getElem_cons_zero, List.setIfInBounds_toArray, List.set_cons_zero, List.set_cons_succ]
      refine tv 9 (.int .i64 (m - 1)) rfl (fun w' hSw => ?_) ?_
      · obtain ⟨y0, y1, y2, y3, y4⟩ := hSw
        clear hHeld
        go_simp
      try simp only [Act.put, List.getElem_toArray, List.getElem_cons_succ, List.getElem_cons_zero, List.setIfInBounds_toArray, List.set_cons_zero, List.set_cons_succ]
      refine tk 10 (.pointer (some ⟨kb, 0, none⟩)) rfl (tk 11 (.pointer (some ⟨kb, 0, none⟩)) rfl (tk 12 (.pointer (some ⟨kb, 13, none⟩)) rfl ?_))
      try simp only [Act.put, List.getElem_toArray, List.getElem_cons_succ, List.getElem_cons_zero, List.setIfInBounds_toArray, List.set_cons_zero, List.set_cons_succ]
      refine tv 13 (.slice Av s9.st.length cv) rfl (fun w' hSw => ?_) ?_
      · obtain ⟨y0, y1, y2, y3, y4⟩ := hSw
        clear hHeld
        go_simp
      try simp only [Act.put, List.getElem_toArray, List.getElem_cons_succ, List.getElem_cons_zero, List.setIfInBounds_toArray, List.set_cons_zero, List.set_cons_succ]
      refine tv 14 (.int .i64 s9.st.length) rfl (fun w' hSw => ?_) ?_
      · obtain ⟨y0, y1, y2, y3, y4⟩ := hSw
        clear hHeld
        go_simp
      try simp only [Act.put, List.getElem_toArray, List.getElem_cons_succ, List.getElem_cons_zero, List.setIfInBounds_toArray, List.set_cons_zero, List.set_cons_succ]
      refine tk 15 (.pointer (some ⟨g, q * 6, none⟩)) rfl (tk 16 (.pointer (some ⟨g, q * 6, none⟩)) rfl (tk 17 (.pointer (some ⟨g, q * 6 + 3, none⟩)) rfl ?_))
      try simp only [Act.put, List.getElem_toArray, List.getElem_cons_succ, List.getElem_cons_zero, List.setIfInBounds_toArray, List.set_cons_zero, List.set_cons_succ]
      refine tv 18 (.bool true) rfl (fun w' hSw => ?_) ?_
      · obtain ⟨y0, y1, y2, y3, y4⟩ := hSw
        clear hHeld
        go_simp
      try simp only [Act.put, List.getElem_toArray, List.getElem_cons_succ, List.getElem_cons_zero, List.setIfInBounds_toArray, List.set_cons_zero, List.set_cons_succ]
      refine tk 19 (.bool true) rfl ?_
      try simp only [Act.put, List.getElem_toArray, List.getElem_cons_succ, List.getElem_cons_zero, List.setIfInBounds_toArray, List.set_cons_zero, List.set_cons_succ]
      refine wpAnyH_take (i := 20) (v := undef) rfl (by kernel_rfl) (by kernel_rfl) (by kernel_rfl) (fun _ _ _ h => h) (Or.inr ⟨by kernel_rfl, rfl⟩) (by assumption) ?_
      try simp only [Act.put, List.getElem_toArray, List.getElem_cons_succ, List.getElem_cons_zero, List.setIfInBounds_toArray, List.set_cons_zero, List.set_cons_succ]
      refine wpAnyH_take (i := 21) (v := undef) rfl (by kernel_rfl) (by kernel_rfl) (by kernel_rfl) (fun _ _ _ h => h) (Or.inr ⟨by kernel_rfl, rfl⟩) (by assumption) ?_
      try simp only [Act.put, List.getElem_toArray, List.getElem_cons_succ, List.getElem_cons_zero, List.setIfInBounds_toArray, List.set_cons_zero, List.set_cons_succ]
      refine wpAnyH_take (i := 22) (v := undef) rfl (by kernel_rfl) (by kernel_rfl) (by kernel_rfl) (fun _ _ _ h => h) (Or.inr ⟨by kernel_rfl, rfl⟩) (by assumption) ?_
      try simp only [Act.put, List.getElem_toArray, List.getElem_cons_succ, List.getElem_cons_zero, List.setIfInBounds_toArray, List.set_cons_zero, List.set_cons_succ]
      refine wpAnyH_take (i := 23) (v := undef) rfl (by kernel_rfl) (by kernel_rfl) (by kernel_rfl) (fun _ _ _ h => h) (Or.inr ⟨by kernel_rfl, rfl⟩) (by assumption) ?_
      try simp only [Act.put, List.getElem_toArray, List.getElem_cons_succ, List.getElem_cons_zero, List.setIfInBounds_toArray, List.set_cons_zero, List.set_cons_succ]
      refine tk 24 (.bool true) rfl ?_
      try simp only [Act.put, List.getElem_toArray, List.getElem_cons_succ, List.getElem_cons_zero, List.setIfInBounds_toArray, List.set_cons_zero, List.set_cons_succ]
      refine tv 25 (.agg #[.int .i64 op, .int .i64 (m - 1), .int .i64 s9.st.length, .bool false, .bool true, .bool false]) rfl (fun w' hSw => ?_) ?_
      · obtain ⟨y0, y1, y2, y3, y4⟩ := hSw
        clear hHeld
        go_simp
      try simp only [Act.put, List.getElem_toArray, List.getElem_cons_succ, List.getElem_cons_zero, List.setIfInBounds_toArray, List.set_cons_zero, List.set_cons_succ]
      have HGK := Aside0.mk (show g ≠ kb from fun e => HNB.out (by rw [e]; rfl))
      have HSA := Aside0.mk (show (fun w' => w'.cell? ⟨W.heap.size, 0, none⟩ = some (.int .i64 op) ∧ w'.cell? ⟨W.heap.size, 2, none⟩ = some (.int .i64 m) ∧ w'.cell? ⟨kb, 13, none⟩ = some (.slice Av s9.st.length cv) ∧ w'.cell? ⟨g, q * 6 + 3, none⟩ = some (.bool true) ∧ w'.cell? ⟨g, q * 6 + 4, none⟩ = some (.bool s9.top.asleep)) (wt.drew.alloc (.cells #[.int .i64 op, .int .i64 (m - 1), .int .i64 s9.st.length, .bool false, .bool true, .bool false] 88)) from ⟨cell_al hq0 _, cell_al hq2 _, cell_al h13 _, cell_al f3 _, cell_al f4 _⟩)
      have h14a := cell_al (W := wt) h14 (.cells #[.int .i64 op, .int .i64 (m - 1), .int .i64 s9.st.length, .bool false, .bool true, .bool false] 88)
      refine wpAnyH_ready (rs := [4, 26]) (by kernel_rfl) (by simp) ?_
      refine AllReadyH.cons rfl (fun K4 hK4 => ?_) (AllReadyH.cons rfl (fun K26 hK26 => ?_) AllReadyH.nil)
      · clear hHeld
        go_simp
        refine hK4.out _ _ HS0.out (fun hHeld => ?_)
        clear hK4
        try simp only [Act.put, List.getElem_toArray, List.getElem_cons_succ, List.getElem_cons_zero, List.setIfInBounds_toArray, List.set_cons_zero, List.set_cons_succ]
        refine wpAnyH_ready (rs := [26]) (by kernel_rfl) (by simp) ?_
        refine AllReadyH.cons rfl (fun K26 hK26 => ?_) AllReadyH.nil
        clear hHeld
        go_simp
        refine hK26.out _ _ HSA.out (fun hHeld => ?_)
        clear hK26
        try simp only [Act.put, List.getElem_toArray, List.getElem_cons_succ, List.getElem_cons_zero, List.setIfInBounds_toArray, List.set_cons_zero, List.set_cons_succ]
        refine wpAnyH_ready (rs := [27]) (by kernel_rfl) (by simp) ?_
        refine AllReadyH.cons rfl (fun K27 hK27 => ?_) AllReadyH.nil
        refine R_append_keep_step kFr w0.heap.size rfl (.tmp 68) (.tmp 90) 84 88 zFr.val 32 rfl Tryd.underlying84 infoFr rfl (by decide) (by omega) g cap (q + 1) s9.fr (⟨op, m - 1, s9.st.length, false, true, false⟩ : Fr) (⟨op, m - 1, s9.st.length, false, true, false⟩ : Fr).cells rfl (by show Value.slice _ _ _ = Value.slice _ _ _; simp) (kFr_M _ _ _ _) HLQ.out HQ.out.fr HQ.out.size (by omega) ?_
        intro v1 w3 hO hg hat hkeep
        obtain ⟨A1, c1, e1⟩ := Kd.R_slice hO
        have e2 : v1 = .slice A1 (s9.fr.length + 1) c1 := by rw [e1]; simp
        clear e1
        subst e2
        have hb1 := blk_grown HQ.out.box hg HNB.out
        have hc3 := blk_cell hb1 14
        have hf3 := blk_frozen hb1 14
        have hbx3 := (HQ.out.kp.growF hg (Kd.R_typed HQ.out.fr) hat).kp _ _ _ (by decide) (by decide) (by decide) HB.out
        have HN := Aside0.mk (HQ.out.putFr hg hat hO)
        have HS3 := Aside0.mk (show (fun w' => w'.cell? ⟨W.heap.size, 0, none⟩ = some (.int .i64 op) ∧ w'.cell? ⟨W.heap.size, 2, none⟩ = some (.int .i64 m) ∧ w'.cell? ⟨kb, 13, none⟩ = some (.slice Av s9.st.length cv) ∧ w'.cell? ⟨g, q * 6 + 3, none⟩ = some (.bool true) ∧ w'.cell? ⟨g, q * 6 + 4, none⟩ = some (.bool s9.top.asleep)) w3 from ⟨blk_cell hbx3 0, blk_cell hbx3 2, blk_cell hb1 13, hkeep _ _ (by show q * 6 + 3 < (q + 1) * 6; omega) f3, hkeep _ _ (by show q * 6 + 4 < (q + 1) * 6; omega) f4⟩)
        have HS4 := Aside0.mk (show (fun w' => w'.cell? ⟨W.heap.size, 0, none⟩ = some (.int .i64 op) ∧ w'.cell? ⟨W.heap.size, 2, none⟩ = some (.int .i64 m) ∧ w'.cell? ⟨kb, 13, none⟩ = some (.slice Av s9.st.length cv) ∧ w'.cell? ⟨g, q * 6 + 3, none⟩ = some (.bool true) ∧ w'.cell? ⟨g, q * 6 + 4, none⟩ = some (.bool s9.top.asleep)) (w3.setCell ⟨kb, 14, none⟩ (.slice A1 (s9.fr.length + 1) c1)) from by
          have hbx4 := HN.out.kp.kp _ _ _ (by decide) (by decide) (by decide) HB.out
          refine ⟨blk_cell hbx4 0, blk_cell hbx4 2, blk_cell HN.out.box 13, ?_, ?_⟩
          · rw [World.cell?_setCell_far _ _ _ _ (fun e => HGK.out e.symm)]; exact HS3.out.2.2.2.1
          · rw [World.cell?_setCell_far _ _ _ _ (fun e => HGK.out e.symm)]; exact HS3.out.2.2.2.2)
        clear hO hg hat hkeep hb1 hbx3
        refine hK27.out _ _ HS3.out (fun hHeld => ?_)
        clear hK27
        try simp only [Act.put, List.getElem_toArray, List.getElem_cons_succ, List.getElem_cons_zero, List.setIfInBounds_toArray, List.set_cons_zero, List.set_cons_succ]
        refine tk 28 (.pointer (some ⟨kb, 0, none⟩)) rfl (tk 29 (.pointer (some ⟨kb, 14, none⟩)) rfl ?_)
        try simp only [Act.put, List.getElem_toArray, List.getElem_cons_succ, List.getElem_cons_zero, List.setIfInBounds_toArray, List.set_cons_zero, List.set_cons_succ]
        refine wpAnyH_ready (rs := [30]) (by kernel_rfl) (by simp) ?_
        refine AllReadyH.cons rfl (fun K30 hK30 => ?_) AllReadyH.nil
        go_simp
        refine hK30.out _ _ HS4.out (fun hHeld4 => ?_)
        clear hK30
        refine wpAnyH_done (by kernel_rfl) ?_ _
        have HO := Aside0.mk (show OutS w0 wr kb p (see E (op, n, m) s) (.returned unit) (w3.setCell ⟨kb, 14, none⟩ (.slice A1 (s9.fr.length + 1) c1)) from outS_ok (HE0.out.trans (by rw [HSS.out, HOQ.out])) (HN.out.back HK.out))
        clear HS0 HSA HS3 HS4 hHeld4
        try dsimp only
        repeat (first | ((with_reducible refine inBlock_ne ?hne ?_); (case hne => rfl)) | (with_reducible refine inBlock_eq ?_) | (with_reducible refine then_exit ?_) | (with_reducible refine then_normal ?_) | (with_reducible refine inBlock_normal ?_) | (with_reducible refine then_ret ?_) | (with_reducible refine inBlock_ret ?_) | go_skip | go_guarded | go_step | go_upon)
        go_end0
        exact HO.out
      · clear hHeld
        go_simp
        refine hK26.out _ _ HSA.out (fun hHeld => ?_)
        clear hK26
        try simp only [Act.put, List.getElem_toArray, List.getElem_cons_succ, List.getElem_cons_zero, List.setIfInBounds_toArray, List.set_cons_zero, List.set_cons_succ]
        refine wpAnyH_ready (rs := [4]) (by kernel_rfl) (by simp) ?_
        refine AllReadyH.cons rfl (fun K4 hK4 => ?_) AllReadyH.nil
        clear hHeld
        go_simp
        refine hK4.out _ _ HSA.out (fun hHeld => ?_)
        clear hK4
        try simp only [Act.put, List.getElem_toArray, List.getElem_cons_succ, List.getElem_cons_zero, List.setIfInBounds_toArray, List.set_cons_zero, List.set_cons_succ]
        refine wpAnyH_ready (rs := [27]) (by kernel_rfl) (by simp) ?_
        refine AllReadyH.cons rfl (fun K27 hK27 => ?_) AllReadyH.nil
        refine R_append_keep_step kFr w0.heap.size rfl (.tmp 68) (.tmp 90) 84 88 zFr.val 32 rfl Tryd.underlying84 infoFr rfl (by decide) (by omega) g cap (q + 1) s9.fr (⟨op, m - 1, s9.st.length, false, true, false⟩ : Fr) (⟨op, m - 1, s9.st.length, false, true, false⟩ : Fr).cells rfl (by show Value.slice _ _ _ = Value.slice _ _ _; simp) (kFr_M _ _ _ _) HLQ.out HQ.out.fr HQ.out.size (by omega) ?_
        intro v1 w3 hO hg hat hkeep
        obtain ⟨A1, c1, e1⟩ := Kd.R_slice hO
        have e2 : v1 = .slice A1 (s9.fr.length + 1) c1 := by rw [e1]; simp
        clear e1
        subst e2
        have hb1 := blk_grown HQ.out.box hg HNB.out
        have hc3 := blk_cell hb1 14
        have hf3 := blk_frozen hb1 14
        have hbx3 := (HQ.out.kp.growF hg (Kd.R_typed HQ.out.fr) hat).kp _ _ _ (by decide) (by decide) (by decide) HB.out
        have HN := Aside0.mk (HQ.out.putFr hg hat hO)
        have HS3 := Aside0.mk (show (fun w' => w'.cell? ⟨W.heap.size, 0, none⟩ = some (.int .i64 op) ∧ w'.cell? ⟨W.heap.size, 2, none⟩ = some (.int .i64 m) ∧ w'.cell? ⟨kb, 13, none⟩ = some (.slice Av s9.st.length cv) ∧ w'.cell? ⟨g, q * 6 + 3, none⟩ = some (.bool true) ∧ w'.cell? ⟨g, q * 6 + 4, none⟩ = some (.bool s9.top.asleep)) w3 from ⟨blk_cell hbx3 0, blk_cell hbx3 2, blk_cell hb1 13, hkeep _ _ (by show q * 6 + 3 < (q + 1) * 6; omega) f3, hkeep _ _ (by show q * 6 + 4 < (q + 1) * 6; omega) f4⟩)
        have HS4 := Aside0.mk (show (fun w' => w'.cell? ⟨W.heap.size, 0, none⟩ = some (.int .i64 op) ∧ w'.cell? ⟨W.heap.size, 2, none⟩ = some (.int .i64 m) ∧ w'.cell? ⟨kb, 13, none⟩ = some (.slice Av s9.st.length cv) ∧ w'.cell? ⟨g, q * 6 + 3, none⟩ = some (.bool true) ∧ w'.cell? ⟨g, q * 6 + 4, none⟩ = some (.bool s9.top.asleep)) (w3.setCell ⟨kb, 14, none⟩ (.slice A1 (s9.fr.length + 1) c1)) from by
          have hbx4 := HN.out.kp.kp _ _ _ (by decide) (by decide) (by decide) HB.out
          refine ⟨blk_cell hbx4 0, blk_cell hbx4 2, blk_cell HN.out.box 13, ?_, ?_⟩
          · rw [World.cell?_setCell_far _ _ _ _ (fun e => HGK.out e.symm)]; exact HS3.out.2.2.2.1
          · rw [World.cell?_setCell_far _ _ _ _ (fun e => HGK.out e.symm)]; exact HS3.out.2.2.2.2)
        clear hO hg hat hkeep hb1 hbx3
        refine hK27.out _ _ HS3.out (fun hHeld => ?_)
        clear hK27
        try simp only [Act.put, List.getElem_toArray, List.getElem_cons_succ, List.getElem_cons_zero, List.setIfInBounds_toArray, List.set_cons_zero, List.set_cons_succ]
        refine tk 28 (.pointer (some ⟨kb, 0, none⟩)) rfl (tk 29 (.pointer (some ⟨kb, 14, none⟩)) rfl ?_)
        try simp only [Act.put, List.getElem_toArray, List.getElem_cons_succ, List.getElem_cons_zero, List.setIfInBounds_toArray, List.set_cons_zero, List.set_cons_succ]
        refine wpAnyH_ready (rs := [30]) (by kernel_rfl) (by simp) ?_
        refine AllReadyH.cons rfl (fun K30 hK30 => ?_) AllReadyH.nil
        go_simp
        refine hK30.out _ _ HS4.out (fun hHeld4 => ?_)
        clear hK30
        refine wpAnyH_done (by kernel_rfl) ?_ _
        have HO := Aside0.mk (show OutS w0 wr kb p (see E (op, n, m) s) (.returned unit) (w3.setCell ⟨kb, 14, none⟩ (.slice A1 (s9.fr.length + 1) c1)) from outS_ok (HE0.out.trans (by rw [HSS.out, HOQ.out])) (HN.out.back HK.out))
        clear HS0 HSA HS3 HS4 hHeld4
        try dsimp only
        repeat (first | ((with_reducible refine inBlock_ne ?hne ?_); (case hne => rfl)) | (with_reducible refine inBlock_eq ?_) | (with_reducible refine then_exit ?_) | (with_reducible refine then_normal ?_) | (with_reducible refine inBlock_normal ?_) | (with_reducible refine then_ret ?_) | (with_reducible refine inBlock_ret ?_) | go_skip | go_guarded | go_step | go_upon)
        go_end0
        exact HO.out
set_option maxHeartbeats 4000000 in
set_option maxRecDepth 100000 in
theorem see_open_4 (S : Stat w00 w0 Z kb p E h) (F : EFine E) (n m : Int) (hcn : Can n) (hm0 : 0 ≤ m) (hm4 : m ≤ 4) (hfl : s.fr.length ≤ 1000) (H : Cs w0 wr W kb p vs vf s) (wf : Wf s) (hz : wr.Z = Z := by rfl) :
    Calls Tryd.prog 40 #[.pointer (some ⟨kb, 0, none⟩), .agg #[.int .i64 4, .int .i64 n, .int .i64 m]] W (OutS w0 wr kb p (see E (4, n, m) s)) := by
  subst hz
  have HB := Aside0.mk (blk_new W (.cells #[.int .i64 4, .int .i64 n, .int .i64 m] 45))
  have HS := Aside0.mk S
  have HF := Aside0.mk F
  have HW0 := Aside0.mk wf
  have HC0 := Aside0.mk (H.alloc (.cells #[.int .i64 4, .int .i64 n, .int .i64 m] 45)).rebase
  have HK := Aside0.mk (H.alloc (.cells #[.int .i64 4, .int .i64 n, .int .i64 m] 45)).kp
  have HE0 := Aside0.mk (show see E (4, n, m) s = bnd (want 0 s) fun s1 => .ok (openT (4, n, m) s1) from rfl)
  clear H wf S F
  go_enter Tryd.func40, Tryd.ntmps40
  try dsimp only
  repeat (first | ((with_reducible refine inBlock_ne ?hne ?_); (case hne => rfl)) | (with_reducible refine inBlock_eq ?_) | (with_reducible refine then_exit ?_) | (with_reducible refine then_normal ?_) | (with_reducible refine inBlock_normal ?_) | (with_reducible refine then_ret ?_) | (with_reducible refine inBlock_ret ?_) | go_skip | go_guarded | go_step | go_upon)
  generalize W.alloc _ = W1 at *
  have HP1 := Aside0.mk (want_calls 0 ⟨by decide, by decide⟩ HC0.out HW0.out)
  refine HP1.out.mono ?_
  intro e w2 hh
  cases hr : want 0 s with
  | error q =>
    rw [hr] at hh
    obtain ⟨rfl, h⟩ := hh
    exact ⟨rfl, outS_no (HE0.out.trans (by first | (rw [hr]; done) | (rw [hr]; rfl))) (h.back HK.out)⟩
  | ok r1 =>
    rw [hr] at hh
    obtain ⟨rfl, v1, hC⟩ := hh
    have HWW1 := Aside0.mk (want_wf HW0.out hr)
    have HW1 := Aside0.mk HWW1.out.1
    have HC1 := Aside0.mk hC
    have HE1 := Aside0.mk (HE0.out.trans (show _ = .ok (openT (4, n, m) r1) from by rw [hr]; rfl))
    have hbK := hC.kp.kp _ _ _ (by decide) (by decide) (by decide) HB.out
    have hq0 := blk_cell hbK 0
    have hq1 := blk_cell hbK 1
    have hq2 := blk_cell hbK 2
    clear hbK
    clear hC hr HP1
    try dsimp only
    repeat (first | ((with_reducible refine inBlock_ne ?hne ?_); (case hne => rfl)) | (with_reducible refine inBlock_eq ?_) | (with_reducible refine then_exit ?_) | (with_reducible refine then_normal ?_) | (with_reducible refine inBlock_normal ?_) | (with_reducible refine then_ret ?_) | (with_reducible refine inBlock_ret ?_) | go_skip | go_guarded | go_step | go_upon)
    clear hq0 hq1 hq2
    have hfl1 : r1.fr.length ≤ 1000 := by rw [HWW1.out.2]; exact hfl
    obtain ⟨q, hn1⟩ : ∃ q, r1.fr.length = q + 1 := ⟨r1.fr.length - 1, by have := HW1.out.pos; omega⟩
    obtain ⟨g, cap, hvf, hg1, hg2⟩ := HC1.out.form HW1.out.pos
    obtain ⟨Av, cv, hvs⟩ := Kd.R_slice HC1.out.st
    rw [hn1] at hvf hfl1
    rw [hvf] at HC1 HK
    rw [hvs] at HC1
    first | rw [hvs] at HK | skip
    have HT := Aside0.mk (top_calls HC1.out hn1)
    have HN1 := Aside0.mk hn1
    clear hvf hvs hfl hn1
    refine HT.out.mono ?_
    rintro e wt ⟨rfl, hbt⟩
    have HC9 := HC1.out.below hbt
    have hbK := HC9.kp.kp _ _ _ (by decide) (by decide) (by decide) HB.out
    have hq0 := blk_cell hbK 0
    have hq2 := blk_cell hbK 2
    have h13 := blk_cell HC9.box 13
    have h14 := blk_cell HC9.box 14
    obtain ⟨_, _, _, f3, f4, _, _⟩ := HC9.last HN1.out
    have HNB := Aside0.mk (show some kb ≠ (Value.slice (some ⟨g, 0, none⟩) (q + 1) cap).ownBlock from fun e => by have := Kd.R_base HC9.fr kb e.symm; have := HC9.klt; omega)
    have HQ := Aside0.mk HC9.drew
    have HOP := Aside0.mk (show openT (4, n, m) r1 = ⟨r1.st, r1.fr ++ [⟨4, m - 1, r1.st.length, false, r1.top.dead || r1.top.asleep, false⟩]⟩ from rfl)
    clear hbt HC9 hbK HT HC1 hg1 hg2
    obtain ⟨s9, hs⟩ : ∃ x, r1 = x := ⟨_, rfl⟩
    have HSS := Aside0.mk hs
    rw [hs] at h13 f3 f4 HQ HOP HN1
    first | rw [hs] at HK | skip
    clear hs
    have hsl := HQ.out.slen
    have hmw : wrap64 (m - 1) = m - 1 := by unfold wrap64; omega
    have hmw2 : IntKind.i64.wrap (m - 1) = m - 1 := by rw [IntWalk.i64_left]; exact hmw
    have HLQ := Aside0.mk HN1.out
    clear HN1
    cases hd : s9.top.dead
    · rw [hd] at f3
      have HOQ := Aside0.mk (show openT (4, n, m) s9 = ⟨s9.st, s9.fr ++ [⟨4, m - 1, s9.st.length, false, s9.top.asleep, false⟩]⟩ by rw [HOP.out, hd]; rfl)
      clear HOP hd
      try dsimp only
      repeat (first | ((with_reducible refine inBlock_ne ?hne ?_); (case hne => rfl)) | (with_reducible refine inBlock_eq ?_) | (with_reducible refine then_exit ?_) | (with_reducible refine then_normal ?_) | (with_reducible refine inBlock_normal ?_) | (with_reducible refine then_ret ?_) | (with_reducible refine inBlock_ret ?_) | go_skip | go_guarded | go_step | go_upon)
      have HS0 := Aside0.mk (show (fun w' => w'.cell? ⟨W.heap.size, 0, none⟩ = some (.int .i64 4) ∧ w'.cell? ⟨W.heap.size, 2, none⟩ = some (.int .i64 m) ∧ w'.cell? ⟨kb, 13, none⟩ = some (.slice Av s9.st.length cv) ∧ w'.cell? ⟨g, q * 6 + 3, none⟩ = some (.bool false) ∧ w'.cell? ⟨g, q * 6 + 4, none⟩ = some (.bool s9.top.asleep)) wt.drew from ⟨hq0, hq2, h13, f3, f4⟩)
      refine wp_region_held_drew (S := (fun w' => w'.cell? ⟨W.heap.size, 0, none⟩ = some (.int .i64 4) ∧ w'.cell? ⟨W.heap.size, 2, none⟩ = some (.int .i64 m) ∧ w'.cell? ⟨kb, 13, none⟩ = some (.slice Av s9.st.length cv) ∧ w'.cell? ⟨g, q * 6 + 3, none⟩ = some (.bool false) ∧ w'.cell? ⟨g, q * 6 + 4, none⟩ = some (.bool s9.top.asleep))) (by kernel_rfl) HS0.out (fun hHeld => ?_)
      refine tk 0 (.pointer (some ⟨kb, 0, none⟩)) rfl (tk 1 (.pointer (some ⟨kb, 0, none⟩)) rfl (tk 2 (.pointer (some ⟨kb, 0, none⟩)) rfl ?_))
      try simp only [Act.put, List.getElem_toArray, List.getElem_cons_succ, List.getElem_cons_zero, List.setIfInBounds_toArray, List.set_cons_zero, List.set_cons_succ]
      refine tk 3 (.pointer (some ⟨kb, 14, none⟩)) rfl (tk 5 (.pointer (some ⟨W.heap.size, 0, none⟩)) rfl ?_)
      try simp only [Act.put, List.getElem_toArray, List.getElem_cons_succ, List.getElem_cons_zero, List.setIfInBounds_toArray, List.set_cons_zero, List.set_cons_succ]
      refine tv 6 (.int .i64 4) rfl (fun w' hSw => ?_) ?_
      · obtain ⟨y0, y1, y2, y3, y4⟩ := hSw
        clear hHeld
        go_simp
      try simp only [Act.put, List.getElem_toArray, List.getElem_cons_succ, List.getElem_cons_zero, List.setIfInBounds_toArray, List.set_cons_zero, List.set_cons_succ]
      refine tk 7 (.pointer (some ⟨W.heap.size, 2, none⟩)) rfl ?_
      try simp only [Act.put, List.getElem_toArray, List.getElem_cons_succ, List.getElem_cons_zero, List.setIfInBounds_toArray, List.set_cons_zero, List.set_cons_succ]
      refine tv 8 (.int .i64 m) rfl (fun w' hSw => ?_) ?_
      · obtain ⟨y0, y1, y2, y3, y4⟩ := hSw
        clear hHeld
        go_simp
      try simp only [Act.put, List.getElem_toArray, List.getElem_cons_succ, List.getElem_cons_zero, List.setIfInBounds_toArray, List.set_cons_zero, List.set_cons_succ]
      refine tv 9 (.int .i64 (m - 1)) rfl (fun w' hSw => ?_) ?_
      · obtain ⟨y0, y1, y2, y3, y4⟩ := hSw
        clear hHeld
        go_simp
      try simp only [Act.put, List.getElem_toArray, List.getElem_cons_succ, List.getElem_cons_zero, List.setIfInBounds_toArray, List.set_cons_zero, List.set_cons_succ]
      refine tk 10 (.pointer (some ⟨kb, 0, none⟩)) rfl (tk 11 (.pointer (some ⟨kb, 0, none⟩)) rfl (tk 12 (.pointer (some ⟨kb, 13, none⟩)) rfl ?_))
      try simp only [Act.put, List.getElem_toArray, List.getElem_cons_succ, List.getElem_cons_zero, List.setIfInBounds_toArray, List.set_cons_zero, List.set_cons_succ]
      refine tv 13 (.slice Av s9.st.length cv) rfl (fun w' hSw => ?_) ?_
      · obtain ⟨y0, y1, y2, y3, y4⟩ := hSw
        clear hHeld
        go_simp
      try simp only [Act.put, List.getElem_toArray, List.getElem_cons_succ, List.getElem_cons_zero, List.setIfInBounds_toArray, List.set_cons_zero, List.set_cons_succ]
      refine tv 14 (.int .i64 s9.st.length) rfl (fun w' hSw => ?_) ?_
      · obtain ⟨y0, y1, y2, y3, y4⟩ := hSw
        clear hHeld
        go_simp
      try simp only [Act.put, List.getElem_toArray, List.getElem_cons_succ, List.getElem_cons_zero, List.setIfInBounds_toArray, List.set_cons_zero, List.set_cons_succ]
      refine tk 15 (.pointer (some ⟨g, q * 6, none⟩)) rfl (tk 16 (.pointer (some ⟨g, q * 6, none⟩)) rfl (tk 17 (.pointer (some ⟨g, q * 6 + 3, none⟩)) rfl ?_))
      try simp only [Act.put, List.getElem_toArray, List.getElem_cons_succ, List.getElem_cons_zero, List.setIfInBounds_toArray, List.set_cons_zero, List.set_cons_succ]
      refine tv 18 (.bool false) rfl (fun w' hSw => ?_) ?_
      · obtain ⟨y0, y1, y2, y3, y4⟩ := hSw
        clear hHeld
        go_simp
      try simp only [Act.put, List.getElem_toArray, List.getElem_cons_succ, List.getElem_cons_zero, List.setIfInBounds_toArray, List.set_cons_zero, List.set_cons_succ]
      refine tk 19 (.bool false) rfl (tk 20 (.pointer (some ⟨g, q * 6, none⟩)) rfl (tk 21 (.pointer (some ⟨g, q * 6, none⟩)) rfl ?_))
      try simp only [Act.put, List.getElem_toArray, List.getElem_cons_succ, List.getElem_cons_zero, List.setIfInBounds_toArray, List.set_cons_zero, List.set_cons_succ]
      refine tk 22 (.pointer (some ⟨g, q * 6 + 4, none⟩)) rfl ?_
      try simp only [Act.put, List.getElem_toArray, List.getElem_cons_succ, List.getElem_cons_zero, List.setIfInBounds_toArray, List.set_cons_zero, List.set_cons_succ]
      refine tv 23 (.bool s9.top.asleep) rfl (fun w' hSw => ?_) ?_
      · obtain ⟨y0, y1, y2, y3, y4⟩ := hSw
        clear hHeld
        go_simp
      try simp only [Act.put, List.getElem_toArray, List.getElem_cons_succ, List.getElem_cons_zero, List.setIfInBounds_toArray, List.set_cons_zero, List.set_cons_succ]
      refine tk 24 (.bool s9.top.asleep) rfl ?_
      try simp only [Act.put, List.getElem_toArray, List.getElem_cons_succ, List.getElem_cons_zero, List.setIfInBounds_toArray, List.set_cons_zero, List.set_cons_succ]
      refine tv 25 (.agg #[.int .i64 4, .int .i64 (m - 1), .int .i64 s9.st.length, .bool false, .bool s9.top.asleep, .bool false]) rfl (fun w' hSw => ?_) ?_
      · obtain ⟨y0, y1, y2, y3, y4⟩ := hSw
        clear hHeld
        go_simp
      try simp only [Act.put, List.getElem_toArray, List.getElem_cons_succ, List.getElem_cons_zero, List.setIfInBounds_toArray, List.set_cons_zero, List.set_cons_succ]
      have HGK := Aside0.mk (show g ≠ kb from fun e => HNB.out (by rw [e]; rfl))
      have HSA := Aside0.mk (show (fun w' => w'.cell? ⟨W.heap.size, 0, none⟩ = some (.int .i64 4) ∧ w'.cell? ⟨W.heap.size, 2, none⟩ = some (.int .i64 m) ∧ w'.cell? ⟨kb, 13, none⟩ = some (.slice Av s9.st.length cv) ∧ w'.cell? ⟨g, q * 6 + 3, none⟩ = some (.bool false) ∧ w'.cell? ⟨g, q * 6 + 4, none⟩ = some (.bool s9.top.asleep)) (wt.drew.alloc (.cells #[.int .i64 4, .int .i64 (m - 1), .int .i64 s9.st.length, .bool false, .bool s9.top.asleep, .bool false] 88)) from ⟨cell_al hq0 _, cell_al hq2 _, cell_al h13 _, cell_al f3 _, cell_al f4 _⟩)
      have h14a := cell_al (W := wt) h14 (.cells #[.int .i64 4, .int .i64 (m - 1), .int .i64 s9.st.length, .bool false, .bool s9.top.asleep, .bool false] 88)
      refine wpAnyH_ready (rs := [4, 26]) (by kernel_rfl) (by simp) ?_
      refine AllReadyH.cons rfl (fun K4 hK4 => ?_) (AllReadyH.cons rfl (fun K26 hK26 => ?_) AllReadyH.nil)
      · clear hHeld
        go_simp
        refine hK4.out _ _ HS0.out (fun hHeld => ?_)
        clear hK4
        try simp only [Act.put, List.getElem_toArray, List.getElem_cons_succ, List.getElem_cons_zero, List.setIfInBounds_toArray, List.set_cons_zero, List.set_cons_succ]
        refine wpAnyH_ready (rs := [26]) (by kernel_rfl) (by simp) ?_
        refine AllReadyH.cons rfl (fun K26 hK26 => ?_) AllReadyH.nil
        clear hHeld
        go_simp
        refine hK26.out _ _ HSA.out (fun hHeld => ?_)
        clear hK26
        try simp only [Act.put, List.getElem_toArray, List.getElem_cons_succ, List.getElem_cons_zero, List.setIfInBounds_toArray, List.set_cons_zero, List.set_cons_succ]
        refine wpAnyH_ready (rs := [27]) (by kernel_rfl) (by simp) ?_
        refine AllReadyH.cons rfl (fun K27 hK27 => ?_) AllReadyH.nil
        refine R_append_keep_step kFr w0.heap.size rfl (.tmp 68) (.tmp 90) 84 88 zFr.val 32 rfl Tryd.underlying84 infoFr rfl (by decide) (by omega) g cap (q + 1) s9.fr (⟨4, m - 1, s9.st.length, false, s9.top.asleep, false⟩ : Fr) (⟨4, m - 1, s9.st.length, false, s9.top.asleep, false⟩ : Fr).cells rfl (by show Value.slice _ _ _ = Value.slice _ _ _; simp) (kFr_M _ _ _ _) HLQ.out HQ.out.fr HQ.out.size (by omega) ?_
        intro v1 w3 hO hg hat hkeep
        obtain ⟨A1, c1, e1⟩ := Kd.R_slice hO
        have e2 : v1 = .slice A1 (s9.fr.length + 1) c1 := by rw [e1]; simp
        clear e1
        subst e2
        have hb1 := blk_grown HQ.out.box hg HNB.out
        have hc3 := blk_cell hb1 14
        have hf3 := blk_frozen hb1 14
        have hbx3 := (HQ.out.kp.growF hg (Kd.R_typed HQ.out.fr) hat).kp _ _ _ (by decide) (by decide) (by decide) HB.out
        have HN := Aside0.mk (HQ.out.putFr hg hat hO)
        have HS3 := Aside0.mk (show (fun w' => w'.cell? ⟨W.heap.size, 0, none⟩ = some (.int .i64 4) ∧ w'.cell? ⟨W.heap.size, 2, none⟩ = some (.int .i64 m) ∧ w'.cell? ⟨kb, 13, none⟩ = some (.slice Av s9.st.length cv) ∧ w'.cell? ⟨g, q * 6 + 3, none⟩ = some (.bool false) ∧ w'.cell? ⟨g, q * 6 + 4, none⟩ = some (.bool s9.top.asleep)) w3 from ⟨blk_cell hbx3 0, blk_cell hbx3 2, blk_cell hb1 13, hkeep _ _ (by show q * 6 + 3 < (q + 1) * 6; omega) f3, hkeep _ _ (by show q * 6 + 4 < (q + 1) * 6; omega) f4⟩)
        have HS4 := Aside0.mk (show (fun w' => w'.cell? ⟨W.heap.size, 0, none⟩ = some (.int .i64 4) ∧ w'.cell? ⟨W.heap.size, 2, none⟩ = some (.int .i64 m) ∧ w'.cell? ⟨kb, 13, none⟩ = some (.slice Av s9.st.length cv) ∧ w'.cell? ⟨g, q * 6 + 3, none⟩ = some (.bool false) ∧ w'.cell? ⟨g, q * 6 + 4, none⟩ = some (.bool s9.top.asleep)) (w3.setCell ⟨kb, 14, none⟩ (.slice A1 (s9.fr.length + 1) c1)) from by
          have hbx4 := HN.out.kp.kp _ _ _ (by decide) (by decide) (by decide) HB.out
          refine ⟨blk_cell hbx4 0, blk_cell hbx4 2, blk_cell HN.out.box 13, ?_, ?_⟩
          · rw [World.cell?_setCell_far _ _ _ _ (fun e => HGK.out e.symm)]; exact HS3.out.2.2.2.1
          · rw [World.cell?_setCell_far _ _ _ _ (fun e => HGK.out e.symm)]; exact HS3.out.2.2.2.2)
        clear hO hg hat hkeep hb1 hbx3
        refine hK27.out _ _ HS3.out (fun hHeld => ?_)
        clear hK27
        try simp only [Act.put, List.getElem_toArray, List.getElem_cons_succ, List.getElem_cons_zero, List.setIfInBounds_toArray, List.set_cons_zero, List.set_cons_succ]
        refine tk 28 (.pointer (some ⟨kb, 0, none⟩)) rfl (tk 29 (.pointer (some ⟨kb, 14, none⟩)) rfl ?_)
        try simp only [Act.put, List.getElem_toArray, List.getElem_cons_succ, List.getElem_cons_zero, List.setIfInBounds_toArray, List.set_cons_zero, List.set_cons_succ]
        refine wpAnyH_ready (rs := [30]) (by kernel_rfl) (by simp) ?_
        refine AllReadyH.cons rfl (fun K30 hK30 => ?_) AllReadyH.nil
        go_simp
        refine hK30.out _ _ HS4.out (fun hHeld4 => ?_)
        clear hK30
        refine wpAnyH_done (by kernel_rfl) ?_ _
        have HO := Aside0.mk (show OutS w0 wr kb p (see E (4, n, m) s) (.returned unit) (w3.setCell ⟨kb, 14, none⟩ (.slice A1 (s9.fr.length + 1) c1)) from outS_ok (HE1.out.trans (by rw [HSS.out, HOQ.out])) (HN.out.back HK.out))
        clear HS0 HSA HS3 HS4 hHeld4
        try dsimp only
        repeat (first | ((with_reducible refine inBlock_ne ?hne ?_); (case hne => rfl)) | (with_reducible refine inBlock_eq ?_) | (with_reducible refine then_exit ?_) | (with_reducible refine then_normal ?_) | (with_reducible refine inBlock_normal ?_) | (with_reducible refine then_ret ?_) | (with_reducible refine inBlock_ret ?_) | go_skip | go_guarded | go_step | go_upon)
        go_end0
        exact HO.out
      · clear hHeld
        go_simp
        refine hK26.out _ _ HSA.out (fun hHeld => ?_)
        clear hK26
        try simp only [Act.put, List.getElem_toArray, List.getElem_cons_succ, List.getElem_cons_zero, List.setIfInBounds_toArray, List.set_cons_zero, List.set_cons_succ]
        refine wpAnyH_ready (rs := [4]) (by kernel_rfl) (by simp) ?_
        refine AllReadyH.cons rfl (fun K4 hK4 => ?_) AllReadyH.nil
        clear hHeld
        go_simp
        refine hK4.out _ _ HSA.out (fun hHeld => ?_)
        clear hK4
        try simp only [Act.put, List.getElem_toArray, List.getElem_cons_succ, List.getElem_cons_zero, List.setIfInBounds_toArray, List.set_cons_zero, List.set_cons_succ]
        refine wpAnyH_ready (rs := [27]) (by kernel_rfl) (by simp) ?_
        refine AllReadyH.cons rfl (fun K27 hK27 => ?_) AllReadyH.nil
        refine R_append_keep_step kFr w0.heap.size rfl (.tmp 68) (.tmp 90) 84 88 zFr.val 32 rfl Tryd.underlying84 infoFr rfl (by decide) (by omega) g cap (q + 1) s9.fr (⟨4, m - 1, s9.st.length, false, s9.top.asleep, false⟩ : Fr) (⟨4, m - 1, s9.st.length, false, s9.top.asleep, false⟩ : Fr).cells rfl (by show Value.slice _ _ _ = Value.slice _ _ _; simp) (kFr_M _ _ _ _) HLQ.out HQ.out.fr HQ.out.size (by omega) ?_
        intro v1 w3 hO hg hat hkeep
        obtain ⟨A1, c1, e1⟩ := Kd.R_slice hO
        have e2 : v1 = .slice A1 (s9.fr.length + 1) c1 := by rw [e1]; simp
        clear e1
        subst e2
        have hb1 := blk_grown HQ.out.box hg HNB.out
        have hc3 := blk_cell hb1 14
        have hf3 := blk_frozen hb1 14
        have hbx3 := (HQ.out.kp.growF hg (Kd.R_typed HQ.out.fr) hat).kp _ _ _ (by decide) (by decide) (by decide) HB.out
        have HN := Aside0.mk (HQ.out.putFr hg hat hO)
        have HS3 := Aside0.mk (show (fun w' => w'.cell? ⟨W.heap.size, 0, none⟩ = some (.int .i64 4) ∧ w'.cell? ⟨W.heap.size, 2, none⟩ = some (.int .i64 m) ∧ w'.cell? ⟨kb, 13, none⟩ = some (.slice Av s9.st.length cv) ∧ w'.cell? ⟨g, q * 6 + 3, none⟩ = some (.bool false) ∧ w'.cell? ⟨g, q * 6 + 4, none⟩ = some (.bool s9.top.asleep)) w3 from ⟨blk_cell hbx3 0, blk_cell hbx3 2, blk_cell hb1 13, hkeep _ _ (by show q * 6 + 3 < (q + 1) * 6; omega) f3, hkeep _ _ (by show q * 6 + 4 < (q + 1) * 6; omega) f4⟩)
        have HS4 := Aside0.mk (show (fun w' => w'.cell? ⟨W.heap.size, 0, none⟩ = some (.int .i64 4) ∧ w'.cell? ⟨W.heap.size, 2, none⟩ = some (.int .i64 m) ∧ w'.cell? ⟨kb, 13, none⟩ = some (.slice Av s9.st.length cv) ∧ w'.cell? ⟨g, q * 6 + 3, none⟩ = some (.bool false) ∧ w'.cell? ⟨g, q * 6 + 4, none⟩ = some (.bool s9.top.asleep)) (w3.setCell ⟨kb, 14, none⟩ (.slice A1 (s9.fr.length + 1) c1)) from by
          have hbx4 := HN.out.kp.kp _ _ _ (by decide) (by decide) (by decide) HB.out
          refine ⟨blk_cell hbx4 0, blk_cell hbx4 2, blk_cell HN.out.box 13, ?_, ?_⟩
          · rw [World.cell?_setCell_far _ _ _ _ (fun e => HGK.out e.symm)]; exact HS3.out.2.2.2.1
          · rw [World.cell?_setCell_far _ _ _ _ (fun e => HGK.out e.symm)]; exact HS3.out.2.2.2.2)
        clear hO hg hat hkeep hb1 hbx3
        refine hK27.out _ _ HS3.out (fun hHeld => ?_)
        clear hK27
        try simp only [Act.put, List.getElem_toArray, List.getElem_cons_succ, List.getElem_cons_zero, List.setIfInBounds_toArray, List.set_cons_zero, List.set_cons_succ]
        refine tk 28 (.pointer (some ⟨kb, 0, none⟩)) rfl (tk 29 (.pointer (some ⟨kb, 14, none⟩)) rfl ?_)
        try simp only [Act.put, List.getElem_toArray, List.getElem_cons_succ, List.getElem_cons_zero, List.setIfInBounds_toArray, List.set_cons_zero, List.set_cons_succ]
        refine wpAnyH_ready (rs := [30]) (by kernel_rfl) (by simp) ?_
        refine AllReadyH.cons rfl (fun K30 hK30 => ?_) AllReadyH.nil
        go_simp
        refine hK30.out _ _ HS4.out (fun hHeld4 => ?_)
        clear hK30
        refine wpAnyH_done (by kernel_rfl) ?_ _
        have HO := Aside0.mk (show OutS w0 wr kb p (see E (4, n, m) s) (.returned unit) (w3.setCell ⟨kb, 14, none⟩ (.slice A1 (s9.fr.length + 1) c1)) from outS_ok (HE1.out.trans (by rw [HSS.out, HOQ.out])) (HN.out.back HK.out))
        clear HS0 HSA HS3 HS4 hHeld4
        try dsimp only
        repeat (first | ((with_reducible refine inBlock_ne ?hne ?_); (case hne => rfl)) | (with_reducible refine inBlock_eq ?_) | (with_reducible refine then_exit ?_) | (with_reducible refine then_normal ?_) | (with_reducible refine inBlock_normal ?_) | (with_reducible refine then_ret ?_) | (with_reducible refine inBlock_ret ?_) | go_skip | go_guarded | go_step | go_upon)
        go_end0
        exact HO.out
    · rw [hd] at f3
      have HOQ := Aside0.mk (show openT (4, n, m) s9 = ⟨s9.st, s9.fr ++ [⟨4, m - 1, s9.st.length, false, true, false⟩]⟩ by rw [HOP.out, hd]; rfl)
      clear HOP hd
      try dsimp only
      repeat (first | ((with_reducible refine inBlock_ne ?hne ?_); (case hne => rfl)) | (with_reducible refine inBlock_eq ?_) | (with_reducible refine then_exit ?_) | (with_reducible refine then_normal ?_) | (with_reducible refine inBlock_normal ?_) | (with_reducible refine then_ret ?_) | (with_reducible refine inBlock_ret ?_) | go_skip | go_guarded | go_step | go_upon)
      have HS0 := Aside0.mk (show (fun w' => w'.cell? ⟨W.heap.size, 0, none⟩ = some (.int .i64 4) ∧ w'.cell? ⟨W.heap.size, 2, none⟩ = some (.int .i64 m) ∧ w'.cell? ⟨kb, 13, none⟩ = some (.slice Av s9.st.length cv) ∧ w'.cell? ⟨g, q * 6 + 3, none⟩ = some (.bool true) ∧ w'.cell? ⟨g, q * 6 + 4, none⟩ = some (.bool s9.top.asleep)) wt.drew from ⟨hq0, hq2, h13, f3, f4⟩)
      refine wp_region_held_drew (S := (fun w' => w'.cell? ⟨W.heap.size, 0, none⟩ = some (.int .i64 4) ∧ w'.cell? ⟨W.heap.size, 2, none⟩ = some (.int .i64 m) ∧ w'.cell? ⟨kb, 13, none⟩ = some (.slice Av s9.st.length cv) ∧ w'.cell? ⟨g, q * 6 + 3, none⟩ = some (.bool true) ∧ w'.cell? ⟨g, q * 6 + 4, none⟩ = some (.bool s9.top.asleep))) (by kernel_rfl) HS0.out (fun hHeld => ?_)
      refine tk 0 (.pointer (some ⟨kb, 0, none⟩)) rfl (tk 1 (.pointer (some ⟨kb, 0, none⟩)) rfl (tk 2 (.pointer (some ⟨kb, 0, none⟩)) rfl ?_))
      try simp only [Act.put, List.getElem_toArray, List.getElem_cons_succ, List.getElem_cons_zero, List.setIfInBounds_toArray, List.set_cons_zero, List.set_cons_succ]
      refine tk 3 (.pointer (some ⟨kb, 14, none⟩)) rfl (tk 5 (.pointer (some ⟨W.heap.size, 0, none⟩)) rfl ?_)
      try simp only [Act.put, List.getElem_toArray, List.getElem_cons_succ, List.getElem_cons_zero, List.setIfInBounds_toArray, List.set_cons_zero, List.set_cons_succ]
      refine tv 6 (.int .i64 4) rfl (fun w' hSw => ?_) ?_
      · obtain ⟨y0, y1, y2, y3, y4⟩ := hSw
        clear hHeld
        go_simp
      try simp only [Act.put, List.getElem_toArray, List.getElem_cons_succ, List.getElem_cons_zero, List.setIfInBounds_toArray, List.set_cons_zero, List.set_cons_succ]
      refine tk 7 (.pointer (some ⟨W.heap.size, 2, none⟩)) rfl ?_
      try simp only [Act.put, List.getElem_toArray, List.getElem_cons_succ, List.getElem_cons_zero, List.setIfInBounds_toArray, List.set_cons_zero, List.set_cons_succ]
      refine tv 8 (.int .i64 m) rfl (fun w' hSw => ?_) ?_
      · obtain ⟨y0, y1, y2, y3, y4⟩ := hSw
        clear hHeld
        go_simp
      try simp only [Act.put, List.getElem_toArray, List.getElem_cons_succ, List.getElem_cons_zero, List.setIfInBounds_toArray, List.set_cons_zero, List.set_cons_succ]
      refine tv 9 (.int .i64 (m - 1)) rfl (fun w' hSw => ?_) ?_
      · obtain ⟨y0, y1, y2, y3, y4⟩ := hSw
        clear hHeld
        go_simp
      try simp only [Act.put, List.getElem_toArray, List.getElem_cons_succ, List.getElem_cons_zero, List.setIfInBounds_toArray, List.set_cons_zero, List.set_cons_succ]
      refine tk 10 (.pointer (some ⟨kb, 0, none⟩)) rfl (tk 11 (.pointer (some ⟨kb, 0, none⟩)) rfl (tk 12 (.pointer (some ⟨kb, 13, none⟩)) rfl ?_))
      try simp only [Act.put, List.getElem_toArray, List.getElem_cons_succ, List.getElem_cons_zero, List.setIfInBounds_toArray, List.set_cons_zero, List.set_cons_succ]
      refine tv 13 (.slice Av s9.st.length cv) rfl (fun w' hSw => ?_) ?_
      · obtain ⟨y0, y1, y2, y3, y4⟩ := hSw
        clear hHeld
        go_simp
      try simp only [Act.put, List.getElem_toArray, List.getElem_cons_succ, List.getElem_cons_zero, List.setIfInBounds_toArray, List.set_cons_zero, List.set_cons_succ]
      refine tv 14 (.int .i64 s9.st.length) rfl (fun w' hSw => ?_) ?_
      · obtain ⟨y0, y1, y2, y3, y4⟩ := hSw
        clear hHeld
        go_simp
      try simp only [Act.put, List.getElem_toArray, List.getElem_cons_succ, List.getElem_cons_zero, List.setIfInBounds_toArray, List.set_cons_zero, List.set_cons_succ]
      refine tk 15 (.pointer (some ⟨g, q * 6, none⟩)) rfl (tk 16 (.pointer (some ⟨g, q * 6, none⟩)) rfl (tk 17 (.pointer (some ⟨g, q * 6 + 3, none⟩)) rfl ?_))
      try simp only [Act.put, List.getElem_toArray, List.getElem_cons_succ, List.getElem_cons_zero, List.setIfInBounds_toArray, List.set_cons_zero, List.set_cons_succ]
      refine tv 18 (.bool true) rfl (fun w' hSw => ?_) ?_
      · obtain ⟨y0, y1, y2, y3, y4⟩ := hSw
        clear hHeld
        go_simp
      try simp only [Act.put, List.getElem_toArray, List.getElem_cons_succ, List.getElem_cons_zero, List.setIfInBounds_toArray, List.set_cons_zero, List.set_cons_succ]
      refine tk 19 (.bool true) rfl ?_
      try simp only [Act.put, List.getElem_toArray, List.getElem_cons_succ, List.getElem_cons_zero, List.setIfInBounds_toArray, List.set_cons_zero, List.set_cons_succ]
      refine wpAnyH_take (i := 20) (v := undef) rfl (by kernel_rfl) (by kernel_rfl) (by kernel_rfl) (fun _ _ _ h => h) (Or.inr ⟨by kernel_rfl, rfl⟩) (by assumption) ?_
      try simp only [Act.put, List.getElem_toArray, List.getElem_cons_succ, List.getElem_cons_zero, List.setIfInBounds_toArray, List.set_cons_zero, List.set_cons_succ]
      refine wpAnyH_take (i := 21) (v := undef) rfl (by kernel_rfl) (by kernel_rfl) (by kernel_rfl) (fun _ _ _ h => h) (Or.inr ⟨by kernel_rfl, rfl⟩) (by assumption) ?_
      try simp only [Act.put, List.getElem_toArray, List.getElem_cons_succ, List.getElem_cons_zero, List.setIfInBounds_toArray, List.set_cons_zero, List.set_cons_succ]
      refine wpAnyH_take (i := 22) (v := undef) rfl (by kernel_rfl) (by kernel_rfl) (by kernel_rfl) (fun _ _ _ h => h) (Or.inr ⟨by kernel_rfl, rfl⟩) (by assumption) ?_
      try simp only [Act.put, List.getElem_toArray, List.getElem_cons_succ, List.getElem_cons_zero, List.setIfInBounds_toArray, List.set_cons_zero, List.set_cons_succ]
      refine wpAnyH_take (i := 23) (v := undef) rfl (by kernel_rfl) (by kernel_rfl) (by kernel_rfl) (fun _ _ _ h => h) (Or.inr ⟨by kernel_rfl, rfl⟩) (by assumption) ?_
      try simp only [Act.put, List.getElem_toArray, List.getElem_cons_succ, List.getElem_cons_zero, List.setIfInBounds_toArray, List.set_cons_zero, List.set_cons_succ]
      refine tk 24 (.bool true) rfl ?_
      try simp only [Act.put, List.getElem_toArray, List.getElem_cons_succ, List.getElem_cons_zero, List.setIfInBounds_toArray, List.set_cons_zero, List.set_cons_succ]
      refine tv 25 (.agg #[.int .i64 4, .int .i64 (m - 1), .int .i64 s9.st.length, .bool false, .bool true, .bool false]) rfl (fun w' hSw => ?_) ?_
      · obtain ⟨y0, y1, y2, y3, y4⟩ := hSw
        clear hHeld
        go_simp
      try simp only [Act.put, List.getElem_toArray, List.getElem_cons_succ, List.getElem_cons_zero, List.setIfInBounds_toArray, List.set_cons_zero, List.set_cons_succ]
      have HGK := Aside0.mk (show g ≠ kb from fun e => HNB.out (by rw [e]; rfl))
      have HSA := Aside0.mk (show (fun w' => w'.cell? ⟨W.heap.size, 0, none⟩ = some (.int .i64 4) ∧ w'.cell? ⟨W.heap.size, 2, none⟩ = some (.int .i64 m) ∧ w'.cell? ⟨kb, 13, none⟩ = some (.slice Av s9.st.length cv) ∧ w'.cell? ⟨g, q * 6 + 3, none⟩ = some (.bool true) ∧ w'.cell? ⟨g, q * 6 + 4, none⟩ = some (.bool s9.top.asleep)) (wt.drew.alloc (.cells #[.int .i64 4, .int .i64 (m - 1), .int .i64 s9.st.length, .bool false, .bool true, .bool false] 88)) from ⟨cell_al hq0 _, cell_al hq2 _, cell_al h13 _, cell_al f3 _, cell_al f4 _⟩)
      have h14a := cell_al (W := wt) h14 (.cells #[.int .i64 4, .int .i64 (m - 1), .int .i64 s9.st.length, .bool false, .bool true, .bool false] 88)
      refine wpAnyH_ready (rs := [4, 26]) (by kernel_rfl) (by simp) ?_
      refine AllReadyH.cons rfl (fun K4 hK4 => ?_) (AllReadyH.cons rfl (fun K26 hK26 => ?_) AllReadyH.nil)
      · clear hHeld
        go_simp
        refine hK4.out _ _ HS0.out (fun hHeld => ?_)
        clear hK4
        try simp only [Act.put, List.getElem_toArray, List.getElem_cons_succ, List.getElem_cons_zero, List.setIfInBounds_toArray, List.set_cons_zero, List.set_cons_succ]
        refine wpAnyH_ready (rs := [26]) (by kernel_rfl) (by simp) ?_
        refine AllReadyH.cons rfl (fun K26 hK26 => ?_) AllReadyH.nil
        clear hHeld
        go_simp
        refine hK26.out _ _ HSA.out (fun hHeld => ?_)
        clear hK26
        try simp only [Act.put, List.getElem_toArray, List.getElem_cons_succ, List.getElem_cons_zero, List.setIfInBounds_toArray, List.set_cons_zero, List.set_cons_succ]
        refine wpAnyH_ready (rs := [27]) (by kernel_rfl) (by simp) ?_
        refine AllReadyH.cons rfl (fun K27 hK27 => ?_) AllReadyH.nil
        refine R_append_keep_step kFr w0.heap.size rfl (.tmp 68) (.tmp 90) 84 88 zFr.val 32 rfl Tryd.underlying84 infoFr rfl (by decide) (by omega) g cap (q + 1) s9.fr (⟨4, m - 1, s9.st.length, false, true, false⟩ : Fr) (⟨4, m - 1, s9.st.length, false, true, false⟩ : Fr).cells rfl (by show Value.slice _ _ _ = Value.slice _ _ _; simp) (kFr_M _ _ _ _) HLQ.out HQ.out.fr HQ.out.size (by omega) ?_
        intro v1 w3 hO hg hat hkeep
        obtain ⟨A1, c1, e1⟩ := Kd.R_slice hO
        have e2 : v1 = .slice A1 (s9.fr.length + 1) c1 := by rw [e1]; simp
        clear e1
        subst e2
        have hb1 := blk_grown HQ.out.box hg HNB.out
        have hc3 := blk_cell hb1 14
        have hf3 := blk_frozen hb1 14
        have hbx3 := (HQ.out.kp.growF hg (Kd.R_typed HQ.out.fr) hat).kp _ _ _ (by decide) (by decide) (by decide) HB.out
        have HN := Aside0.mk (HQ.out.putFr hg hat hO)
        have HS3 := Aside0.mk (show (fun w' => w'.cell? ⟨W.heap.size, 0, none⟩ = some (.int .i64 4) ∧ w'.cell? ⟨W.heap.size, 2, none⟩ = some (.int .i64 m) ∧ w'.cell? ⟨kb, 13, none⟩ = some (.slice Av s9.st.length cv) ∧ w'.cell? ⟨g, q * 6 + 3, none⟩ = some (.bool true) ∧ w'.cell? ⟨g, q * 6 + 4, none⟩ = some (.bool s9.top.asleep)) w3 from ⟨blk_cell hbx3 0, blk_cell hbx3 2, blk_cell hb1 13, hkeep _ _ (by show q * 6 + 3 < (q + 1) * 6; omega) f3, hkeep _ _ (by show q * 6 + 4 < (q + 1) * 6; omega) f4⟩)
        have HS4 := Aside0.mk (show (fun w' => w'.cell? ⟨W.heap.size, 0, none⟩ = some (.int .i64 4) ∧ w'.cell? ⟨W.heap.size, 2, none⟩ = some (.int .i64 m) ∧ w'.cell? ⟨kb, 13, none⟩ = some (.slice Av s9.st.length cv) ∧ w'.cell? ⟨g, q * 6 + 3, none⟩ = some (.bool true) ∧ w'.cell? ⟨g, q * 6 + 4, none⟩ = some (.bool s9.top.asleep)) (w3.setCell ⟨kb, 14, none⟩ (.slice A1 (s9.fr.length + 1) c1)) from by
          have hbx4 := HN.out.kp.kp _ _ _ (by decide) (by decide) (by decide) HB.out
          refine ⟨blk_cell hbx4 0, blk_cell hbx4 2, blk_cell HN.out.box 13, ?_, ?_⟩
          · rw [World.cell?_setCell_far _ _ _ _ (fun e => HGK.out e.symm)]; exact HS3.out.2.2.2.1
          · rw [World.cell?_setCell_far _ _ _ _ (fun e => HGK.out e.symm)]; exact HS3.out.2.2.2.2)
        clear hO hg hat hkeep hb1 hbx3
        refine hK27.out _ _ HS3.out (fun hHeld => ?_)
        clear hK27
        try simp only [Act.put, List.getElem_toArray, List.getElem_cons_succ, List.getElem_cons_zero, List.setIfInBounds_toArray, List.set_cons_zero, List.set_cons_succ]
        refine tk 28 (.pointer (some ⟨kb, 0, none⟩)) rfl (tk 29 (.pointer (some ⟨kb, 14, none⟩)) rfl ?_)
        try simp only [Act.put, List.getElem_toArray, List.getElem_cons_succ, List.getElem_cons_zero, List.setIfInBounds_toArray, List.set_cons_zero, List.set_cons_succ]
        refine wpAnyH_ready (rs := [30]) (by kernel_rfl) (by simp) ?_
        refine AllReadyH.cons rfl (fun K30 hK30 => ?_) AllReadyH.nil
        go_simp
        refine hK30.out _ _ HS4.out (fun hHeld4 => ?_)
        clear hK30
        refine wpAnyH_done (by kernel_rfl) ?_ _
        have HO := Aside0.mk (show OutS w0 wr kb p (see E (4, n, m) s) (.returned unit) (w3.setCell ⟨kb, 14, none⟩ (.slice A1 (s9.fr.length + 1) c1)) from outS_ok (HE1.out.trans (by rw [HSS.out, HOQ.out])) (HN.out.back HK.out))
        clear HS0 HSA HS3 HS4 hHeld4
        try dsimp only
        repeat (first | ((with_reducible refine inBlock_ne ?hne ?_); (case hne => rfl)) | (with_reducible refine inBlock_eq ?_) | (with_reducible refine then_exit ?_) | (with_reducible refine then_normal ?_) | (with_reducible refine inBlock_normal ?_) | (with_reducible refine then_ret ?_) | (with_reducible refine inBlock_ret ?_) | go_skip | go_guarded | go_step | go_upon)
        go_end0
        exact HO.out
      · clear hHeld
        go_simp
        refine hK26.out _ _ HSA.out (fun hHeld => ?_)
        clear hK26
        try simp only [Act.put, List.getElem_toArray, List.getElem_cons_succ, List.getElem_cons_zero, List.setIfInBounds_toArray, List.set_cons_zero, List.set_cons_succ]
        refine wpAnyH_ready (rs := [4]) (by kernel_rfl) (by simp) ?_
        refine AllReadyH.cons rfl (fun K4 hK4 => ?_) AllReadyH.nil
        clear hHeld
        go_simp
        refine hK4.out _ _ HSA.out (fun hHeld => ?_)
        clear hK4
        try simp only [Act.put, List.getElem_toArray, List.getElem_cons_succ, List.getElem_cons_zero, List.setIfInBounds_toArray, List.set_cons_zero, List.set_cons_succ]
        refine wpAnyH_ready (rs := [27]) (by kernel_rfl) (by simp) ?_
        refine AllReadyH.cons rfl (fun K27 hK27 => ?_) AllReadyH.nil
        refine R_append_keep_step kFr w0.heap.size rfl (.tmp 68) (.tmp 90) 84 88 zFr.val 32 rfl Tryd.underlying84 infoFr rfl (by decide) (by omega) g cap (q + 1) s9.fr (⟨4, m - 1, s9.st.length, false, true, false⟩ : Fr) (⟨4, m - 1, s9.st.length, false, true, false⟩ : Fr).cells rfl (by show Value.slice _ _ _ = Value.slice _ _ _; simp) (kFr_M _ _ _ _) HLQ.out HQ.out.fr HQ.out.size (by omega) ?_
        intro v1 w3 hO hg hat hkeep
        obtain ⟨A1, c1, e1⟩ := Kd.R_slice hO
        have e2 : v1 = .slice A1 (s9.fr.length + 1) c1 := by rw [e1]; simp
        clear e1
        subst e2
        have hb1 := blk_grown HQ.out.box hg HNB.out
        have hc3 := blk_cell hb1 14
        have hf3 := blk_frozen hb1 14
        have hbx3 := (HQ.out.kp.growF hg (Kd.R_typed HQ.out.fr) hat).kp _ _ _ (by decide) (by decide) (by decide) HB.out
        have HN := Aside0.mk (HQ.out.putFr hg hat hO)
        have HS3 := Aside0.mk (show (fun w' => w'.cell? ⟨W.heap.size, 0, none⟩ = some (.int .i64 4) ∧ w'.cell? ⟨W.heap.size, 2, none⟩ = some (.int .i64 m) ∧ w'.cell? ⟨kb, 13, none⟩ = some (.slice Av s9.st.length cv) ∧ w'.cell? ⟨g, q * 6 + 3, none⟩ = some (.bool true) ∧ w'.cell? ⟨g, q * 6 + 4, none⟩ = some (.bool s9.top.asleep)) w3 from ⟨blk_cell hbx3 0, blk_cell hbx3 2, blk_cell hb1 13, hkeep _ _ (by show q * 6 + 3 < (q + 1) * 6; omega) f3, hkeep _ _ (by show q * 6 + 4 < (q + 1) * 6; omega) f4⟩)
        have HS4 := Aside0.mk (show (fun w' => w'.cell? ⟨W.heap.size, 0, none⟩ = some (.int .i64 4) ∧ w'.cell? ⟨W.heap.size, 2, none⟩ = some (.int .i64 m) ∧ w'.cell? ⟨kb, 13, none⟩ = some (.slice Av s9.st.length cv) ∧ w'.cell? ⟨g, q * 6 + 3, none⟩ = some (.bool true) ∧ w'.cell? ⟨g, q * 6 + 4, none⟩ = some (.bool s9.top.asleep)) (w3.setCell ⟨kb, 14, none⟩ (.slice A1 (s9.fr.length + 1) c1)) from by
          have hbx4 := HN.out.kp.kp _ _ _ (by decide) (by decide) (by decide) HB.out
          refine ⟨blk_cell hbx4 0, blk_cell hbx4 2, blk_cell HN.out.box 13, ?_, ?_⟩
          · rw [World.cell?_setCell_far _ _ _ _ (fun e => HGK.out e.symm)]; exact HS3.out.2.2.2.1
          · rw [World.cell?_setCell_far _ _ _ _ (fun e => HGK.out e.symm)]; exact HS3.out.2.2.2.2)
        clear hO hg hat hkeep hb1 hbx3
        refine hK27.out _ _ HS3.out (fun hHeld => ?_)
        clear hK27
        try simp only [Act.put, List.getElem_toArray, List.getElem_cons_succ, List.getElem_cons_zero, List.setIfInBounds_toArray, List.set_cons_zero, List.set_cons_succ]
        refine tk 28 (.pointer (some ⟨kb, 0, none⟩)) rfl (tk 29 (.pointer (some ⟨kb, 14, none⟩)) rfl ?_)
        try simp only [Act.put, List.getElem_toArray, List.getElem_cons_succ, List.getElem_cons_zero, List.setIfInBounds_toArray, List.set_cons_zero, List.set_cons_succ]
        refine wpAnyH_ready (rs := [30]) (by kernel_rfl) (by simp) ?_
        refine AllReadyH.cons rfl (fun K30 hK30 => ?_) AllReadyH.nil
        go_simp
        refine hK30.out _ _ HS4.out (fun hHeld4 => ?_)
        clear hK30
        refine wpAnyH_done (by kernel_rfl) ?_ _
        have HO := Aside0.mk (show OutS w0 wr kb p (see E (4, n, m) s) (.returned unit) (w3.setCell ⟨kb, 14, none⟩ (.slice A1 (s9.fr.length + 1) c1)) from outS_ok (HE1.out.trans (by rw [HSS.out, HOQ.out])) (HN.out.back HK.out))
        clear HS0 HSA HS3 HS4 hHeld4
        try dsimp only
        repeat (first | ((with_reducible refine inBlock_ne ?hne ?_); (case hne => rfl)) | (with_reducible refine inBlock_eq ?_) | (with_reducible refine then_exit ?_) | (with_reducible refine then_normal ?_) | (with_reducible refine inBlock_normal ?_) | (with_reducible refine then_ret ?_) | (with_reducible refine inBlock_ret ?_) | go_skip | go_guarded | go_step | go_upon)
        go_end0
        exact HO.out
end
end Go.Proofs.YtjjhhmchomabeaaDoor.Valid
