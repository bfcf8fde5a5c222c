/- rsem.fits: may code be carried out alone? -/
import Derived.Test.YtdcmeefeinppnaaRsemD
import Derived.Laws.EntriesVeiled
namespace Go.Proofs.Ytdcmeefeinppnaa.Rsem
open Go.RowKit Go.Proofs.YtdcmeefeinppnaaW.PrintWords Go.Proofs.YtdcmeefeinppnaaW.PrintLast Go.Proofs.YtdcmeefeinppnaaW.PrintMore Go.Proofs.Ytdcmeefeinppnaa.Mem Go.Proofs.Ytdcmeefeinppnaa.Ir Go.Proofs.Ytdcmeefeinppnaa.Live
open MapOf (get put wp_look wp_update)
open Uses (uses uses_calls UsesOut)
open Word (arity arity_calls)
set_option linter.unusedVariables false
set_option linter.unusedSimpArgs false

abbrev cellV (b : Nat) : Value := .func (.func 77) #[] #[.pointer (some ⟨b, 0, none⟩)]
abbrev notV (b : Nat) : Value := .func (.func 79) #[] #[.pointer (some ⟨b, 0, none⟩)]
theorem cell_calls (b : Nat) (n k : Int) (w : World) (hc : w.cell? ⟨b, 0, none⟩ = some (.int .i64 n)) : Calls Try.prog 77 #[.int .i64 k, .pointer (some ⟨b, 0, none⟩)] w fun e w' => e = .returned (.bool (!oddB n k)) ∧ w = w' := by
  by_cases h : 0 ≤ k
  · have h1 : decide (0 ≤ k) = true := decide_eq_true h
    have hd : (!oddB n k) = decide (k < n) := by rw [Bool.eq_iff_iff]; simp [oddB]; omega
    rw [hd]
    clear h hd
    go_enter Try.func77, Try.ntmps77
    go_wp2_with fail
    go_ret
    exact ⟨rfl, rfl⟩
  · have h1 : decide (0 ≤ k) = false := decide_eq_false h
    have hd : (!oddB n k) = false := by simp [oddB]; omega
    rw [hd]
    clear h hd
    go_enter Try.func77, Try.ntmps77
    go_wp2_with fail
    go_ret
    exact ⟨rfl, rfl⟩
theorem not_calls (bf b : Nat) (n k : Int) (w : World) (hc : w.cell? ⟨b, 0, none⟩ = some (.int .i64 n)) (hf : w.cell? ⟨bf, 0, none⟩ = some (cellV b)) : Calls Try.prog 79 #[.int .i64 k, .pointer (some ⟨bf, 0, none⟩)] w fun e w' => e = .returned (.bool (oddB n k)) ∧ w = w' := by
  go_enter Try.func79, Try.ntmps79
  go_wp2_with (go_at_call 77; refine (cell_calls b n k _ hc).mono ?_; rintro e w' ⟨rfl, rfl⟩)
  go_ret
  exact ⟨by simp, rfl⟩
theorem indexNot_calls (bf b : Nat) (n : Int) (A : Option Addr) (cap : Nat) (l : List Int) (w : World) (hc : w.cell? ⟨b, 0, none⟩ = some (.int .i64 n)) (hf : w.cell? ⟨bf, 0, none⟩ = some (cellV b)) (hl : (Kd.int .i64).C w A l.length l) (hn : l.length ≤ 100) :
    Calls Try.prog 70 #[.slice A l.length cap, notV bf] w fun e w' => e = .returned (.int .i64 (firstOdd n l 0)) ∧ w = w' := by
  have HL := Aside0.mk hl
  clear hl
  go_enter Try.func70, Try.ntmps70
  go_wp2_with fail
  go_loop [8] (fun i => ∃ k : Nat, k ≤ l.length ∧ i = .int .i64 k ∧ Aside0 (firstOdd n l 0 = firstOdd n (l.drop k) k)) (fun i => l.length - (intOf i).toNat)
  case atStart => exact ⟨0, Nat.zero_le _, rfl, ⟨rfl⟩⟩
  case round =>
    obtain ⟨k, hk, rfl, HR⟩ := hrel
    by_cases hlt : k < l.length
    · obtain ⟨ad, e, hx⟩ := Kd.at_int HL.out (k : Int) (by omega) (by omega)
      subst e
      rw [Int.toNat_natCast] at hx
      have hd : l.drop k = rd l (k : Int) :: l.drop (k + 1) := by
        rw [List.drop_eq_getElem_cons hlt]
        unfold rd
        rw [Int.toNat_natCast, List.getD_eq_getElem?_getD, List.getElem?_eq_getElem hlt]
        rfl
      rw [hd, show firstOdd n (rd l (k : Int) :: l.drop (k + 1)) k = if oddB n (rd l (k : Int)) then (k : Int) else firstOdd n (l.drop (k + 1)) (k + 1) from rfl] at HR
      clear hd
      by_cases ho : oddB n (rd l (k : Int)) = true
      · rw [if_pos ho] at HR
        have HD : Aside0 (firstOdd n l 0 = (k : Int)) := HR
        go_wp2_with (go_at_call 79; refine (not_calls bf b n _ _ hc hf).mono ?_; rintro e w' ⟨rfl, rfl⟩)
        go_ret
        exact ⟨by rw [HD.out]; rfl, rfl⟩
      · rw [if_neg ho] at HR
        replace ho : oddB n (rd l (k : Int)) = false := by simpa using ho
        go_wp2_with (go_at_call 79; refine (not_calls bf b n _ _ hc hf).mono ?_; rintro e w' ⟨rfl, rfl⟩)
        go_round
        case rel => exact ⟨k + 1, by omega, by go_num, HR⟩
        case measure => simp [intOf]; omega
    · have hk2 : k = l.length := by omega
      have hlt2 : decide ((k : Int) < (l.length : Int)) = false := decide_eq_false (by omega)
      rw [hk2, List.drop_length] at HR
      clear hk2
      go_wp2_with fail
      go_ret
      exact ⟨by rw [HR.out]; rfl, rfl⟩
theorem containsNot_calls (bf b : Nat) (n : Int) (A : Option Addr) (cap : Nat) (l : List Int) (w : World) (hc : w.cell? ⟨b, 0, none⟩ = some (.int .i64 n)) (hf : w.cell? ⟨bf, 0, none⟩ = some (cellV b)) (hl : (Kd.int .i64).C w A l.length l) (hn : l.length ≤ 100) :
    Calls Try.prog 49 #[.slice A l.length cap, notV bf] w fun e w' => e = .returned (.bool (l.any (oddB n))) ∧ w = w' := by
  have HL := Aside0.mk hl
  have HE := Aside0.mk (firstOdd_ge n l 0)
  clear hl
  go_enter Try.func49, Try.ntmps49
  go_wp2_with (go_at_call 70; refine (indexNot_calls bf b n A _ l _ hc hf HL.out hn).mono ?_; rintro e w' ⟨rfl, rfl⟩)
  go_ret
  exact ⟨by rw [← HE.out]; rfl, rfl⟩
/-- the kind's own condition -/
def kindR (c : Cod) (n : Int) (x : Ir) : Bool :=
  if x.op = 3 then (arity x.n).2.2.2 && !oddB n x.dst
  else if x.op = 1 ∨ x.op = 2 ∨ x.op = 4 then !oddB n x.dst
  else if x.op = 10 ∨ x.op = 11 ∨ x.op = 12 then decide (cnt c.body x.n c.body.length = 1)
  else decide (x.op = 9 ∨ x.op = 15 ∨ x.op = 16)
def okR (c : Cod) (n : Int) (x : Ir) : Bool := kindR c n x && !((uses x.op x.a x.b x.c).any (oddB n))
def fitsR (c : Cod) (n : Int) : Bool := c.body.all (okR c n) && decide (n = c.cells)
structure Ft (w W : World) (c : Cod) (A : Option Addr) (cap : Nat) (n : Int) (M : List (Int × Int)) : Prop where
  bel : Below w.heap.size w W
  box : W.heap[w.heap.size]? = some (.cells (c.vals A cap) 24 (0, 0))
  nb : W.heap[w.heap.size + 1]? = some (.cells #[.int .i64 n] 3 (0, 0))
  m : MapOf.Is encI W (w.heap.size + 1 + 1) M
theorem Ft.below {w W W1 : World} {c : Cod} {A : Option Addr} {cap : Nat} {n : Int} {M : List (Int × Int)} (h : Ft w W c A cap n M) (hb : Below W.heap.size W W1) : Ft w W1 c A cap n M :=
  ⟨h.bel.trans (hb.mono h.bel.size), blk_below h.box hb, blk_below h.nb hb, h.m.below hb⟩
theorem Ft.alloc {w W : World} {c : Cod} {A : Option Addr} {cap : Nat} {n : Int} {M : List (Int × Int)} (h : Ft w W c A cap n M) (o : Obj) : Ft w (W.alloc o) c A cap n M := h.below (below_alloc (Below.refl _ _) o)
theorem Ft.grown {w W W1 : World} {c : Cod} {A : Option Addr} {cap : Nat} {n : Int} {M M1 : List (Int × Int)} (h : Ft w W c A cap n M) (hm : MapOf.Is encI W1 (w.heap.size + 1 + 1) M1) (hg : W.grownBy W1 (some (w.heap.size + 1 + 1))) : Ft w W1 c A cap n M1 :=
  ⟨h.bel.grown hg h.bel.size (fun k hk => by cases hk; omega), blk_grown h.box hg (by simp; omega), blk_grown h.nb hg (by simp), hm⟩
theorem ft_init (w : World) (c : Cod) (A : Option Addr) (cap : Nat) (n : Int) (W : World) (h : W = ((w.alloc (.cells (c.vals A cap) 24)).alloc (.cells #[.int .i64 n] 3)).alloc (.map #[] 0)) : Ft w W c A cap n [] := by
  subst h
  have hk := blk_new (w.alloc (.cells (c.vals A cap) 24)) (.cells #[.int .i64 n] 3)
  simp only [World.size_alloc] at hk
  refine ⟨(((Below.refl _ _).alloc (Nat.le_refl _) _).alloc (by simp) _).alloc (by simp; omega) _, blk_alloc (blk_alloc (blk_new _ _) _) _, blk_alloc hk _, ?_⟩
  have h1 := MapOf.Is.made encI ((w.alloc (.cells (c.vals A cap) 24)).alloc (.cells #[.int .i64 n] 3))
  simpa using h1
/-- the second loop's: the closure's own block besides -/
structure Ft2 (w W : World) (c : Cod) (A : Option Addr) (cap : Nat) (n : Int) (bf : Nat) : Prop where
  t : Ft w W c A cap n (labs c.body c.body.length).2
  bf : W.heap[bf]? = some (.cells #[cellV (w.heap.size + 1)] 70 (0, 0))
section
variable {w W W1 : World} {c : Cod} {A : Option Addr} {cap bf : Nat} {n : Int}
theorem Ft2.below (h : Ft2 w W c A cap n bf) (hb : Below W.heap.size W W1) : Ft2 w W1 c A cap n bf := ⟨h.t.below hb, blk_below h.bf hb⟩
theorem Ft2.alloc (h : Ft2 w W c A cap n bf) (o : Obj) : Ft2 w (W.alloc o) c A cap n bf := h.below (below_alloc (Below.refl _ _) o)
theorem Ft2.nb (h : Ft2 w W c A cap n bf) : W.heap[w.heap.size + 1]? = some (.cells #[.int .i64 n] 3 (0, 0)) := h.t.nb
theorem Ft2.box (h : Ft2 w W c A cap n bf) : W.heap[w.heap.size]? = some (.cells (c.vals A cap) 24 (0, 0)) := h.t.box
theorem Ft2.m (h : Ft2 w W c A cap n bf) : MapOf.Is encI W (w.heap.size + 1 + 1) (labs c.body c.body.length).2 := h.t.m
theorem Ft2.bel (h : Ft2 w W c A cap n bf) : Below w.heap.size w W := h.t.bel
theorem Ft2.init (h : Ft w W c A cap n (labs c.body c.body.length).2) : Ft2 w (W.alloc (.cells #[cellV (w.heap.size + 1)] 70)) c A cap n W.heap.size := ⟨h.alloc _, blk_new _ _⟩
end
theorem fitsR_at {c : Cod} {n : Int} {k : Nat} (hk : k < c.body.length) (h : okR c n (atIr c.body k) = false) : fitsR c n = false := by
  unfold fitsR
  rw [Bool.and_eq_false_iff]; left
  rw [List.all_eq_false]
  refine ⟨atIr c.body k, ?_, by simp [h]⟩
  unfold atIr
  rw [List.getD_eq_getElem?_getD, List.getElem?_eq_getElem hk]
  exact List.getElem_mem hk
structure RdF (c : Cod) (n : Int) (k : Nat) : Prop where
  all : ∀ j, j < k → okR c n (atIr c.body j) = true
theorem RdF.next {c : Cod} {n : Int} {k : Nat} (h : RdF c n k) (ho : okR c n (atIr c.body k) = true) : RdF c n (k + 1) :=
  ⟨fun j hj => by
    by_cases e : j = k
    · rw [e]; exact ho
    · exact h.all j (by omega)⟩
theorem RdF.full {c : Cod} {n : Int} (h : RdF c n c.body.length) : c.body.all (okR c n) = true :=
  List.all_eq_true.2 fun x hx => by
    obtain ⟨j, hj, rfl⟩ := List.getElem_of_mem hx
    have := h.all j hj
    unfold atIr at this
    rwa [List.getD_eq_getElem?_getD, List.getElem?_eq_getElem hj] at this
theorem fitsR_end {c : Cod} {n : Int} (h : RdF c n c.body.length) : fitsR c n = (n == c.cells) := by
  unfold fitsR
  rw [h.full, Bool.true_and, Bool.eq_iff_iff, decide_eq_true_iff, beq_iff_eq]
def FitROut (w : World) (r : Bool) (e : Ending) (w' : World) : Prop := e = .returned (.bool r) ∧ Below w.heap.size w w'
set_option maxHeartbeats 8000000 in
set_option maxRecDepth 100000 in
theorem fitsr_calls (c : Cod) (A : Option Addr) (cap : Nat) (n : Int) (w : World) (hC : CodeAt w c A cap) : Calls Try.prog 58 #[.agg (c.vals A cap), .int .i64 n] w (FitROut w (fitsR c n)) := by
  have HC := Aside0.mk hC
  have hs := hC.small
  clear hC
  have HI := Aside0.mk (ft_init w c A cap n _ rfl)
  have hmm := @run_makeMap Try.prog
  have hmf : ∀ (fn : Fn) (first cap : Array Value) (w : World), (Instr.makeFunc fn first cap).run Try.prog w = .ok (.func fn first cap) w := fun _ _ _ _ => rfl
  go_enter Try.func58, Try.ntmps58
  go_wp2_with fail
  clear hmm
  go_loopw [16] (fun i wr => ∃ k : Nat, k ≤ c.body.length ∧ i = .int .i64 k ∧ Aside0 (Ft w wr c A cap n (labs c.body k).2)) (fun i _ => c.body.length - (intOf i).toNat)
  case atStart => exact ⟨0, Nat.zero_le _, rfl, HI⟩
  case round =>
    obtain ⟨k, hk, rfl, HP⟩ := hrel
    clear HI
    by_cases hlt : k < c.body.length
    · obtain ⟨ad, e, hx0, hx1, hx2, hx3, hx4, hx5, hx6⟩ := at_ir (Kd.C_below HC.out.row HP.out.bel) k hlt
      subst e
      by_cases h9 : (atIr c.body k).op = 9
      · have HS := Aside0.mk (show (labs c.body (k + 1)).2 = put (labs c.body k).2 (atIr c.body k).n ((get (labs c.body k).2 (atIr c.body k).n).getD 0 + 1) from by rw [labs, if_pos h9])
        rw [h9] at hx0
        have hcnt := cnt_le c.body (atIr c.body k).n k
        have HM := Aside0.mk (labs_many c.body (atIr c.body k).n k)
        clear h9
        go_wp2_with (first
          | ((with_reducible refine gate_ (.lookup 64 (.tmp 23) (.tmp 25) false) rfl ?_); refine wp_look _ rfl (.tmp 23) (.tmp 25) 64 rfl 3 3 Try.underlying64 Try.underlying3 (0 : Int) (zeroInt _) _ _ rfl (HP.out.alloc _).m _ rfl (cnt c.body (atIr c.body k).n k : Int) HM.out ?_)
          | ((with_reducible refine gate_ (.mapUpdate 64 (.tmp 23) (.tmp 25) (.tmp 27)) rfl ?_); refine wp_update (enc := encI) _ rfl (.tmp 23) (.tmp 25) (.tmp 27) 64 rfl 3 3 Try.underlying64 Try.underlying3 _ _ rfl (HP.out.alloc _).m _ ((cnt c.body (atIr c.body k).n k : Int) + 1) rfl rfl ?_; intro w1 hI hg hs; have H1 := Aside0.mk ((HP.out.alloc _).grown hI hg); clear hI hg hs))
        go_roundw
        case rel => exact ⟨k + 1, by omega, by go_num, by rw [HS.out, HM.out]; exact H1⟩
        case measure => simp [intOf]; omega
      · have h9b : ((atIr c.body k).op == 9) = false := by simpa using h9
        have HS := Aside0.mk (show (labs c.body (k + 1)).2 = (labs c.body k).2 from by rw [labs, if_neg h9])
        have HP2 := Aside0.mk (HP.out.alloc (.cells (atIr c.body k).vals 38))
        clear h9
        go_wp2_with fail
        go_roundw
        case rel => exact ⟨k + 1, by omega, by go_num, by rw [HS.out]; exact HP2⟩
        case measure => simp [intOf]; omega
    · have HK0 := Aside0.mk (Ft2.init (show Ft w wr c A cap n (labs c.body c.body.length).2 by rw [show c.body.length = k by omega]; exact HP.out))
      have hbx2 := fun o => cell_al (blk_cell HP.out.box 2) o
      clear HP
      obtain ⟨wo, rfl⟩ : ∃ wo : World, wo = wr := ⟨_, rfl⟩
      go_wp2_with fail
      clear hbx2 hlt hk
      go_loopw [33] (fun i wr => ∃ k : Nat, k ≤ c.body.length ∧ i = .int .i64 k ∧ Aside0 (RdF c n k) ∧ Aside0 (Ft2 w wr c A cap n wo.heap.size)) (fun i _ => c.body.length - (intOf i).toNat)
      case atStart => exact ⟨0, Nat.zero_le _, rfl, ⟨⟨fun j hj => by omega⟩⟩, HK0⟩
      case round =>
        obtain ⟨k, hk, rfl, HR, HP⟩ := hrel
        clear HK0
        by_cases hlt : k < c.body.length
        · obtain ⟨ad, e, hx0, hx1, hx2, hx3, hx4, hx5, hx6⟩ := at_ir (Kd.C_below HC.out.row HP.out.bel) k hlt
          subst e
          obtain ⟨x, hx⟩ : ∃ x, atIr c.body k = x := ⟨_, rfl⟩
          rw [hx] at hx0 hx1 hx2 hx3 hx4 hx5 hx6
          have HK := Aside0.mk hx
          clear hx
          obtain ⟨op, dst, a, b, cc, nn, m⟩ := x
          have hbf0 := fun o => cell_al (blk_cell HP.out.bf 0) o
          by_cases hop : op = 3
          · by_cases har : (arity nn).2.2.2 = true
            · by_cases hod : oddB n dst = true
              · have HO := Aside0.mk (show okR c n ⟨op, dst, a, b, cc, nn, m⟩ = false from by simp [okR, kindR, hop, har, hod])
                subst hop
                go_wp2_with (first
                  | (go_at_call 78; refine (arity_calls _ _).mono ?_; rintro e w1 ⟨rfl, hb⟩; have H1 := Aside0.mk ((HP.out.alloc _).below hb); have hxb := blk_below (blk_new wr _) hb; have hy0 := blk_cell hxb 0; have hy1 := blk_cell hxb 1; have hy2 := blk_cell hxb 2; have hy3 := blk_cell hxb 3; have hy4 := blk_cell hxb 4; have hy5 := blk_cell hxb 5; have hy6 := blk_cell hxb 6; have hzf := blk_cell H1.out.bf 0; clear hb HP hxb)
                  | (go_at_call 77; refine (cell_calls (w.heap.size + 1) n _ _ (blk_cell H1.out.nb 0)).mono ?_; rintro e w2 ⟨rfl, rfl⟩))
                go_ret
                exact ⟨by rw [fitsR_at hlt (by rw [HK.out]; exact HO.out)]; rfl, (H1.out).bel⟩
              · replace hod : oddB n dst = false := by simpa using hod
                have hkd : kindR c n ⟨op, dst, a, b, cc, nn, m⟩ = true := by simp [kindR, hop, har, hod]
                by_cases hu : (uses op a b cc).any (oddB n) = true
                · have HO := Aside0.mk (show okR c n ⟨op, dst, a, b, cc, nn, m⟩ = false from by simp only [okR, hu]; simp)
                  clear hkd
                  subst hop
                  go_wp2_with (first
                    | (go_at_call 78; refine (arity_calls _ _).mono ?_; rintro e w1 ⟨rfl, hb⟩; have H1 := Aside0.mk ((HP.out.alloc _).below hb); have hxb := blk_below (blk_new wr _) hb; have hy0 := blk_cell hxb 0; have hy1 := blk_cell hxb 1; have hy2 := blk_cell hxb 2; have hy3 := blk_cell hxb 3; have hy4 := blk_cell hxb 4; have hy5 := blk_cell hxb 5; have hy6 := blk_cell hxb 6; have hzf := blk_cell H1.out.bf 0; clear hb HP hxb)
                    | (go_at_call 77; refine (cell_calls (w.heap.size + 1) n _ _ (blk_cell H1.out.nb 0)).mono ?_; rintro e w2 ⟨rfl, rfl⟩)
                    | (go_at_call 23; refine (uses_calls _ _ _ _ _ _ _ _).mono ?_; rintro e w3 ⟨v3, rfl, hR, hb⟩; have H2 := Aside0.mk ((H1.out).below hb); obtain ⟨A3, c3, rfl, hc3, hC3⟩ := Kd.R_reads hR; have HC3 := Aside0.mk hC3; have hz1 := blk_cell H2.out.bf 0; clear hb hR hC3)
                    | (go_at_call 49; refine (containsNot_calls wo.heap.size (w.heap.size + 1) n A3 _ _ _ (blk_cell H2.out.nb 0) (blk_cell H2.out.bf 0) HC3.out (by exact Nat.le_trans (uses_len _ _ _ _) (by omega))).mono ?_; rintro e w4 ⟨rfl, rfl⟩))
                  go_ret
                  exact ⟨by rw [fitsR_at hlt (by rw [HK.out]; exact HO.out)]; rfl, (H2.out).bel⟩
                · replace hu : (uses op a b cc).any (oddB n) = false := by simpa using hu
                  have HO := Aside0.mk (show okR c n ⟨op, dst, a, b, cc, nn, m⟩ = true from by simp only [okR, hu, hkd]; rfl)
                  clear hkd
                  subst hop
                  go_wp2_with (first
                    | (go_at_call 78; refine (arity_calls _ _).mono ?_; rintro e w1 ⟨rfl, hb⟩; have H1 := Aside0.mk ((HP.out.alloc _).below hb); have hxb := blk_below (blk_new wr _) hb; have hy0 := blk_cell hxb 0; have hy1 := blk_cell hxb 1; have hy2 := blk_cell hxb 2; have hy3 := blk_cell hxb 3; have hy4 := blk_cell hxb 4; have hy5 := blk_cell hxb 5; have hy6 := blk_cell hxb 6; have hzf := blk_cell H1.out.bf 0; clear hb HP hxb)
                    | (go_at_call 77; refine (cell_calls (w.heap.size + 1) n _ _ (blk_cell H1.out.nb 0)).mono ?_; rintro e w2 ⟨rfl, rfl⟩)
                    | (go_at_call 23; refine (uses_calls _ _ _ _ _ _ _ _).mono ?_; rintro e w3 ⟨v3, rfl, hR, hb⟩; have H2 := Aside0.mk ((H1.out).below hb); obtain ⟨A3, c3, rfl, hc3, hC3⟩ := Kd.R_reads hR; have HC3 := Aside0.mk hC3; have hz1 := blk_cell H2.out.bf 0; clear hb hR hC3)
                    | (go_at_call 49; refine (containsNot_calls wo.heap.size (w.heap.size + 1) n A3 _ _ _ (blk_cell H2.out.nb 0) (blk_cell H2.out.bf 0) HC3.out (by exact Nat.le_trans (uses_len _ _ _ _) (by omega))).mono ?_; rintro e w4 ⟨rfl, rfl⟩))
                  go_roundw
                  case rel => exact ⟨k + 1, by omega, by go_num, ⟨HR.out.next (by rw [HK.out]; exact HO.out)⟩, H2⟩
                  case measure => simp [intOf]; omega
            · replace har : (arity nn).2.2.2 = false := by simpa using har
              have HO := Aside0.mk (show okR c n ⟨op, dst, a, b, cc, nn, m⟩ = false from by simp [okR, kindR, hop, har])
              subst hop
              go_wp2_with (first
                | (go_at_call 78; refine (arity_calls _ _).mono ?_; rintro e w1 ⟨rfl, hb⟩; have H1 := Aside0.mk ((HP.out.alloc _).below hb); have hxb := blk_below (blk_new wr _) hb; have hy0 := blk_cell hxb 0; have hy1 := blk_cell hxb 1; have hy2 := blk_cell hxb 2; have hy3 := blk_cell hxb 3; have hy4 := blk_cell hxb 4; have hy5 := blk_cell hxb 5; have hy6 := blk_cell hxb 6; have hzf := blk_cell H1.out.bf 0; clear hb HP hxb))
              go_ret
              exact ⟨by rw [fitsR_at hlt (by rw [HK.out]; exact HO.out)]; rfl, (H1.out).bel⟩
          have t3 : (op == 3) = false := by simpa using hop
          clear hop
          by_cases hop : op = 1 ∨ op = 2 ∨ op = 4
          · clear t3
            by_cases hod : oddB n dst = true
            · have HO := Aside0.mk (show okR c n ⟨op, dst, a, b, cc, nn, m⟩ = false from by rcases hop with rfl | rfl | rfl <;> simp [okR, kindR, hod])
              rcases hop with rfl | rfl | rfl
              all_goals
                go_wp2_with (first
                  | (go_at_call 77; refine (cell_calls (w.heap.size + 1) n _ _ (blk_cell (HP.out.alloc _).nb 0)).mono ?_; rintro e w2 ⟨rfl, rfl⟩))
                go_ret
                exact ⟨by rw [fitsR_at hlt (by rw [HK.out]; exact HO.out)]; rfl, (HP.out.alloc _).bel⟩
            · replace hod : oddB n dst = false := by simpa using hod
              have hkd : kindR c n ⟨op, dst, a, b, cc, nn, m⟩ = true := by rcases hop with rfl | rfl | rfl <;> simp [kindR, hod]
              by_cases hu : (uses op a b cc).any (oddB n) = true
              · have HO := Aside0.mk (show okR c n ⟨op, dst, a, b, cc, nn, m⟩ = false from by simp only [okR, hu]; simp)
                clear hkd
                rcases hop with rfl | rfl | rfl
                all_goals
                  go_wp2_with (first
                    | (go_at_call 77; refine (cell_calls (w.heap.size + 1) n _ _ (blk_cell (HP.out.alloc _).nb 0)).mono ?_; rintro e w2 ⟨rfl, rfl⟩)
                    | (go_at_call 23; refine (uses_calls _ _ _ _ _ _ _ _).mono ?_; rintro e w3 ⟨v3, rfl, hR, hb⟩; have H2 := Aside0.mk ((HP.out.alloc _).below hb); obtain ⟨A3, c3, rfl, hc3, hC3⟩ := Kd.R_reads hR; have HC3 := Aside0.mk hC3; have hz1 := blk_cell H2.out.bf 0; clear hb hR hC3)
                    | (go_at_call 49; refine (containsNot_calls wo.heap.size (w.heap.size + 1) n A3 _ _ _ (blk_cell H2.out.nb 0) (blk_cell H2.out.bf 0) HC3.out (by exact Nat.le_trans (uses_len _ _ _ _) (by omega))).mono ?_; rintro e w4 ⟨rfl, rfl⟩))
                  go_ret
                  exact ⟨by rw [fitsR_at hlt (by rw [HK.out]; exact HO.out)]; rfl, (H2.out).bel⟩
              · replace hu : (uses op a b cc).any (oddB n) = false := by simpa using hu
                have HO := Aside0.mk (show okR c n ⟨op, dst, a, b, cc, nn, m⟩ = true from by simp only [okR, hu, hkd]; rfl)
                clear hkd
                rcases hop with rfl | rfl | rfl
                all_goals
                  go_wp2_with (first
                    | (go_at_call 77; refine (cell_calls (w.heap.size + 1) n _ _ (blk_cell (HP.out.alloc _).nb 0)).mono ?_; rintro e w2 ⟨rfl, rfl⟩)
                    | (go_at_call 23; refine (uses_calls _ _ _ _ _ _ _ _).mono ?_; rintro e w3 ⟨v3, rfl, hR, hb⟩; have H2 := Aside0.mk ((HP.out.alloc _).below hb); obtain ⟨A3, c3, rfl, hc3, hC3⟩ := Kd.R_reads hR; have HC3 := Aside0.mk hC3; have hz1 := blk_cell H2.out.bf 0; clear hb hR hC3)
                    | (go_at_call 49; refine (containsNot_calls wo.heap.size (w.heap.size + 1) n A3 _ _ _ (blk_cell H2.out.nb 0) (blk_cell H2.out.bf 0) HC3.out (by exact Nat.le_trans (uses_len _ _ _ _) (by omega))).mono ?_; rintro e w4 ⟨rfl, rfl⟩))
                  go_roundw
                  case rel => exact ⟨k + 1, by omega, by go_num, ⟨HR.out.next (by rw [HK.out]; exact HO.out)⟩, H2⟩
                  case measure => simp [intOf]; omega
          have t1 : (op == 1) = false := by simp; omega
          have t2 : (op == 2) = false := by simp; omega
          have t4 : (op == 4) = false := by simp; omega
          clear hop
          by_cases hop : op = 10 ∨ op = 11 ∨ op = 12
          · clear t1 t2 t3 t4
            by_cases hm : cnt c.body nn c.body.length = 1
            · have hmb : (((cnt c.body nn c.body.length : Nat) : Int) == 1) = true := by simp; omega
              have hkd : kindR c n ⟨op, dst, a, b, cc, nn, m⟩ = true := by rcases hop with rfl | rfl | rfl <;> simp [kindR, hm]
              clear hm
              by_cases hu : (uses op a b cc).any (oddB n) = true
              · have HO := Aside0.mk (show okR c n ⟨op, dst, a, b, cc, nn, m⟩ = false from by simp only [okR, hu]; simp)
                clear hkd
                rcases hop with rfl | rfl | rfl
                all_goals
                  go_wp2_with (first
                    | ((with_reducible refine gate_ (.lookup 64 (.tmp 68) (.tmp 70) false) rfl ?_); refine wp_look _ rfl (.tmp 68) (.tmp 70) 64 rfl 3 3 Try.underlying64 Try.underlying3 (0 : Int) (zeroInt _) _ _ rfl (HP.out.alloc _).m _ rfl (cnt c.body nn c.body.length : Int) (labs_many _ _ _) ?_)
                    | (go_at_call 23; refine (uses_calls _ _ _ _ _ _ _ _).mono ?_; rintro e w3 ⟨v3, rfl, hR, hb⟩; have H2 := Aside0.mk ((HP.out.alloc _).below hb); obtain ⟨A3, c3, rfl, hc3, hC3⟩ := Kd.R_reads hR; have HC3 := Aside0.mk hC3; have hz1 := blk_cell H2.out.bf 0; clear hb hR hC3)
                    | (go_at_call 49; refine (containsNot_calls wo.heap.size (w.heap.size + 1) n A3 _ _ _ (blk_cell H2.out.nb 0) (blk_cell H2.out.bf 0) HC3.out (by exact Nat.le_trans (uses_len _ _ _ _) (by omega))).mono ?_; rintro e w4 ⟨rfl, rfl⟩))
                  go_ret
                  exact ⟨by rw [fitsR_at hlt (by rw [HK.out]; exact HO.out)]; rfl, (H2.out).bel⟩
              · replace hu : (uses op a b cc).any (oddB n) = false := by simpa using hu
                have HO := Aside0.mk (show okR c n ⟨op, dst, a, b, cc, nn, m⟩ = true from by simp only [okR, hu, hkd]; rfl)
                clear hkd
                rcases hop with rfl | rfl | rfl
                all_goals
                  go_wp2_with (first
                    | ((with_reducible refine gate_ (.lookup 64 (.tmp 68) (.tmp 70) false) rfl ?_); refine wp_look _ rfl (.tmp 68) (.tmp 70) 64 rfl 3 3 Try.underlying64 Try.underlying3 (0 : Int) (zeroInt _) _ _ rfl (HP.out.alloc _).m _ rfl (cnt c.body nn c.body.length : Int) (labs_many _ _ _) ?_)
                    | (go_at_call 23; refine (uses_calls _ _ _ _ _ _ _ _).mono ?_; rintro e w3 ⟨v3, rfl, hR, hb⟩; have H2 := Aside0.mk ((HP.out.alloc _).below hb); obtain ⟨A3, c3, rfl, hc3, hC3⟩ := Kd.R_reads hR; have HC3 := Aside0.mk hC3; have hz1 := blk_cell H2.out.bf 0; clear hb hR hC3)
                    | (go_at_call 49; refine (containsNot_calls wo.heap.size (w.heap.size + 1) n A3 _ _ _ (blk_cell H2.out.nb 0) (blk_cell H2.out.bf 0) HC3.out (by exact Nat.le_trans (uses_len _ _ _ _) (by omega))).mono ?_; rintro e w4 ⟨rfl, rfl⟩))
                  go_roundw
                  case rel => exact ⟨k + 1, by omega, by go_num, ⟨HR.out.next (by rw [HK.out]; exact HO.out)⟩, H2⟩
                  case measure => simp [intOf]; omega
            · have hmb : (((cnt c.body nn c.body.length : Nat) : Int) == 1) = false := by simp; omega
              have HO := Aside0.mk (show okR c n ⟨op, dst, a, b, cc, nn, m⟩ = false from by rcases hop with rfl | rfl | rfl <;> simp [okR, kindR, hm])
              clear hm
              rcases hop with rfl | rfl | rfl
              all_goals
                go_wp2_with (first
                  | ((with_reducible refine gate_ (.lookup 64 (.tmp 68) (.tmp 70) false) rfl ?_); refine wp_look _ rfl (.tmp 68) (.tmp 70) 64 rfl 3 3 Try.underlying64 Try.underlying3 (0 : Int) (zeroInt _) _ _ rfl (HP.out.alloc _).m _ rfl (cnt c.body nn c.body.length : Int) (labs_many _ _ _) ?_))
                go_ret
                exact ⟨by rw [fitsR_at hlt (by rw [HK.out]; exact HO.out)]; rfl, (HP.out.alloc _).bel⟩
          have t10 : (op == 10) = false := by simp; omega
          have t11 : (op == 11) = false := by simp; omega
          have t12 : (op == 12) = false := by simp; omega
          clear hop
          by_cases hop : op = 9 ∨ op = 15 ∨ op = 16
          · have hkd : kindR c n ⟨op, dst, a, b, cc, nn, m⟩ = true := by rcases hop with rfl | rfl | rfl <;> simp [kindR]
            clear t1 t2 t3 t4 t10 t11 t12
            by_cases hu : (uses op a b cc).any (oddB n) = true
            · have HO := Aside0.mk (show okR c n ⟨op, dst, a, b, cc, nn, m⟩ = false from by simp only [okR, hu]; simp)
              clear hkd
              rcases hop with rfl | rfl | rfl
              all_goals
                go_wp2_with (first
                  | (go_at_call 23; refine (uses_calls _ _ _ _ _ _ _ _).mono ?_; rintro e w3 ⟨v3, rfl, hR, hb⟩; have H2 := Aside0.mk ((HP.out.alloc _).below hb); obtain ⟨A3, c3, rfl, hc3, hC3⟩ := Kd.R_reads hR; have HC3 := Aside0.mk hC3; have hz1 := blk_cell H2.out.bf 0; clear hb hR hC3)
                  | (go_at_call 49; refine (containsNot_calls wo.heap.size (w.heap.size + 1) n A3 _ _ _ (blk_cell H2.out.nb 0) (blk_cell H2.out.bf 0) HC3.out (by exact Nat.le_trans (uses_len _ _ _ _) (by omega))).mono ?_; rintro e w4 ⟨rfl, rfl⟩))
                go_ret
                exact ⟨by rw [fitsR_at hlt (by rw [HK.out]; exact HO.out)]; rfl, (H2.out).bel⟩
            · replace hu : (uses op a b cc).any (oddB n) = false := by simpa using hu
              have HO := Aside0.mk (show okR c n ⟨op, dst, a, b, cc, nn, m⟩ = true from by simp only [okR, hu, hkd]; rfl)
              clear hkd
              rcases hop with rfl | rfl | rfl
              all_goals
                go_wp2_with (first
                  | (go_at_call 23; refine (uses_calls _ _ _ _ _ _ _ _).mono ?_; rintro e w3 ⟨v3, rfl, hR, hb⟩; have H2 := Aside0.mk ((HP.out.alloc _).below hb); obtain ⟨A3, c3, rfl, hc3, hC3⟩ := Kd.R_reads hR; have HC3 := Aside0.mk hC3; have hz1 := blk_cell H2.out.bf 0; clear hb hR hC3)
                  | (go_at_call 49; refine (containsNot_calls wo.heap.size (w.heap.size + 1) n A3 _ _ _ (blk_cell H2.out.nb 0) (blk_cell H2.out.bf 0) HC3.out (by exact Nat.le_trans (uses_len _ _ _ _) (by omega))).mono ?_; rintro e w4 ⟨rfl, rfl⟩))
                go_roundw
                case rel => exact ⟨k + 1, by omega, by go_num, ⟨HR.out.next (by rw [HK.out]; exact HO.out)⟩, H2⟩
                case measure => simp [intOf]; omega
          have t9 : (op == 9) = false := by simp; omega
          have t15 : (op == 15) = false := by simp; omega
          have t16 : (op == 16) = false := by simp; omega
          have HO := Aside0.mk (show okR c n ⟨op, dst, a, b, cc, nn, m⟩ = false from by simp at t1 t2 t3 t4 t10 t11 t12; simp [okR, kindR, hop, t1, t2, t3, t4, t10, t11, t12])
          clear hop
          go_wp2_with fail
          go_ret
          exact ⟨by rw [fitsR_at hlt (by rw [HK.out]; exact HO.out)]; rfl, (HP.out.alloc _).bel⟩
        · have hk2 : k = c.body.length := by omega
          have hlt2 : decide ((k : Int) < (c.body.length : Int)) = false := decide_eq_false (by omega)
          have hbx0 := blk_cell HP.out.box 0
          have hnb0 := blk_cell HP.out.nb 0
          subst hk2
          have HE := Aside0.mk (fitsR_end HR.out)
          go_wp2_with fail
          go_ret
          exact ⟨by rw [HE.out]; rfl, HP.out.bel⟩
end Go.Proofs.Ytdcmeefeinppnaa.Rsem
