/- live.labels: the first places of all labels, how often each is there. -/
import Derived.Test.YtdcmeefeinppnaaIr
import Derived.Carry
import Derived.Outline
namespace Go.Proofs.Ytdcmeefeinppnaa.Live
open Go.RowKit Go.Proofs.YtdcmeefeinppnaaW.PrintWords Go.Proofs.YtdcmeefeinppnaaW.PrintLast Go.Proofs.Ytdcmeefeinppnaa.Mem Go.Proofs.Ytdcmeefeinppnaa.Ir
open MapOf (get put wp_lookup wp_look wp_update)
set_option linter.unusedVariables false
set_option linter.unusedSimpArgs false

abbrev encI : Int → Value := Value.int .i64
theorem zeroInt (w : World) : (zeroValue 3).run Try.prog w = .ok (encI 0) w := by kernel_rfl

/-- two maps of labels' places and numbers, made by a call -/
structure Maps2 (w : World) (b1 b2 : Nat) (p m : List (Int × Int)) : Prop where
  m1 : MapOf.Is encI w b1 p
  m2 : MapOf.Is encI w b2 m
  ne : b1 ≠ b2
theorem Maps2.below {w w' : World} {b1 b2 : Nat} {p m : List (Int × Int)} (h : Maps2 w b1 b2 p m) (hb : Below w.heap.size w w') : Maps2 w' b1 b2 p m := ⟨h.m1.below hb, h.m2.below hb, h.ne⟩

structure Lab (w W : World) (c : Cod) (A : Option Addr) (cap : Nat) (s : List (Int × Int) × List (Int × Int)) : Prop where
  bel : Below w.heap.size w W
  sz : w.heap.size + 3 ≤ W.heap.size
  box : W.heap[w.heap.size]? = some (.cells (c.vals A cap) 24 (0, 0))
  maps : Maps2 W (w.heap.size + 1) (w.heap.size + 1 + 1) s.1 s.2
section
variable {w W W1 : World} {c : Cod} {A : Option Addr} {cap : Nat} {s : List (Int × Int) × List (Int × Int)} {p m : List (Int × Int)}
theorem Lab.alloc (h : Lab w W c A cap s) (o : Obj) : Lab w (W.alloc o) c A cap s :=
  ⟨h.bel.alloc (by have := h.sz; omega) o, by have := h.sz; simp; omega, blk_alloc h.box o, h.maps.below ((Below.refl _ _).alloc (Nat.le_refl _) o)⟩
theorem Lab.put2 (h : Lab w W c A cap s) (hg : W.grownBy W1 (some (w.heap.size + 1 + 1))) (hm : MapOf.Is encI W1 (w.heap.size + 1 + 1) m) : Lab w W1 c A cap (s.1, m) :=
  ⟨h.bel.grown hg (by have := h.sz; omega) (fun k hk => by injection hk with hk; omega), Nat.le_trans h.sz hg.size, blk_grown h.box hg (by simp; omega), ⟨h.maps.m1.grown hg (by simp), hm, h.maps.ne⟩⟩
theorem Lab.put1 (h : Lab w W c A cap s) (hg : W.grownBy W1 (some (w.heap.size + 1))) (hm : MapOf.Is encI W1 (w.heap.size + 1) p) : Lab w W1 c A cap (p, s.2) :=
  ⟨h.bel.grown hg (by have := h.sz; omega) (fun k hk => by injection hk with hk; omega), Nat.le_trans h.sz hg.size, blk_grown h.box hg (by simp), ⟨hm, h.maps.m2.grown hg (by simp), h.maps.ne⟩⟩
end
theorem lab_init (w : World) (c : Cod) (A : Option Addr) (cap : Nat) (W : World) (h : W = ((w.alloc (.cells (c.vals A cap) 24)).alloc (.map #[] 0)).alloc (.map #[] 0)) : Lab w W c A cap ([], []) := by
  subst h
  refine ⟨(((Below.refl _ _).alloc (Nat.le_refl _) _).alloc (by simp) _).alloc (by simp; omega) _, by simp, blk_alloc (blk_alloc (blk_new _ _) _) _, ⟨?_, ?_, by simp⟩⟩
  · have h1 := MapOf.Is.made encI (w.alloc (.cells (c.vals A cap) 24))
    have h2 := h1.below ((Below.refl _ _).alloc (Nat.le_refl _) (.map #[] 0))
    simpa using h2
  · have h1 := MapOf.Is.made encI ((w.alloc (.cells (c.vals A cap) 24)).alloc (.map #[] 0))
    simpa using h1

def LabOut (w : World) (c : Cod) (e : Ending) (w' : World) : Prop :=
  ∃ b1 b2, e = .returned (.tuple #[.map (some b1), .map (some b2)]) ∧ w.heap.size ≤ b1 ∧ w.heap.size ≤ b2 ∧ Maps2 w' b1 b2 (labs c.body c.body.length).1 (labs c.body c.body.length).2 ∧ Below w.heap.size w w'

theorem labels_calls (c : Cod) (A : Option Addr) (cap : Nat) (w : World) (hC : CodeAt w c A cap) : Calls Try.prog 45 #[.agg (c.vals A cap)] w (LabOut w c) := by
  have HC := Aside0.mk hC
  have hn := hC.small
  clear hC
  have HI := Aside0.mk (lab_init w c A cap _ rfl)
  have hmm := @run_makeMap Try.prog
  go_enter Try.func45, Try.ntmps45
  go_wp2_with fail
  clear hmm
  go_loopw [11] (fun i wr => ∃ k : Nat, k ≤ c.body.length ∧ i = .int .i64 k ∧ Aside0 (Lab w wr c A cap (labs c.body k))) (fun i _ => c.body.length - (intOf i).toNat)
  case atStart => exact ⟨0, Nat.zero_le _, rfl, HI⟩
  case round =>
    obtain ⟨k, hk, rfl, HP⟩ := hrel
    clear HI
    by_cases hlt : k < c.body.length
    · obtain ⟨ad, e, hx0, hx1, hx2, hx3, hx4, hx5, hx6⟩ := at_ir (HC.out.row |> fun h => Kd.C_below h HP.out.bel) k hlt
      subst e
      by_cases h9 : (atIr c.body k).op = 9
      · have h9b : ((atIr c.body k).op != 9) = false := by simp [h9]
        have hcnt := cnt_le c.body (atIr c.body k).n k
        have HM := Aside0.mk (labs_many c.body (atIr c.body k).n k)
        have HS := Aside0.mk (show labs c.body (k + 1) = _ from by rw [labs, if_pos h9])
        clear h9
        by_cases hc0 : cnt c.body (atIr c.body k).n k = 0
        · rw [hc0] at HM
          have HG := Aside0.mk (show (get (put (labs c.body k).2 (atIr c.body k).n (1 : Int)) (atIr c.body k).n).getD 0 = 1 by rw [MapOf.get_put, if_pos rfl]; rfl)
          clear hc0 hcnt
          go_wp2_with (first
            | ((with_reducible refine gate_ (.lookup 64 (.tmp 19) (.tmp 21) false) rfl ?_); refine wp_look _ rfl (.tmp 19) (.tmp 21) 64 rfl 3 3 Try.underlying64 Try.underlying3 (0 : Int) (zeroInt _) _ _ rfl (HP.out.alloc _).maps.m2 _ rfl (0 : Int) HM.out ?_)
            | ((with_reducible refine gate_ (.mapUpdate 64 (.tmp 19) (.tmp 21) (.tmp 23)) rfl ?_); refine wp_update (enc := encI) _ rfl (.tmp 19) (.tmp 21) (.tmp 23) 64 rfl 3 3 Try.underlying64 Try.underlying3 _ _ rfl (HP.out.alloc _).maps.m2 _ (1 : Int) rfl rfl ?_; intro w1 hI hg hs; have H1 := Aside0.mk ((HP.out.alloc _).put2 hg hI); have hb1 := blk_grown (blk_new wr _) hg (by have := HP.out.sz; simp; omega); have hx5b := blk_cell hb1 5; have HB1 := Aside0.mk hb1; clear hI hg hs hb1)
            | ((with_reducible refine gate_ (.lookup 64 (.tmp 24) (.tmp 26) false) rfl ?_); refine wp_look _ rfl (.tmp 24) (.tmp 26) 64 rfl 3 3 Try.underlying64 Try.underlying3 (0 : Int) (zeroInt _) _ _ rfl H1.out.maps.m2 _ rfl (1 : Int) HG.out ?_)
            | ((with_reducible refine gate_ (.mapUpdate 64 (.tmp 29) (.tmp 31) (.tmp 32)) rfl ?_); refine wp_update (enc := encI) _ rfl (.tmp 29) (.tmp 31) (.tmp 32) 64 rfl 3 3 Try.underlying64 Try.underlying3 _ _ rfl H1.out.maps.m1 _ ((k : Nat) : Int) rfl rfl ?_; intro w2 hI hg hs; have H2 := Aside0.mk (H1.out.put1 hg hI); clear hI hg hs))
          go_roundw
          case rel => exact ⟨k + 1, by omega, by go_num, ⟨by rw [HS.out, HM.out]; exact H2.out⟩⟩
          case measure => simp [intOf]; omega
        · have hne : (((cnt c.body (atIr c.body k).n k : Nat) : Int) + 1 == 1) = false := beq_eq_false_iff_ne.mpr (by omega)
          have HN := Aside0.mk hc0
          have HG := Aside0.mk (show (get (put (labs c.body k).2 (atIr c.body k).n ((cnt c.body (atIr c.body k).n k : Int) + 1)) (atIr c.body k).n).getD 0 = (cnt c.body (atIr c.body k).n k : Int) + 1 by rw [MapOf.get_put, if_pos rfl]; rfl)
          clear hc0
          go_wp2_with (first
            | ((with_reducible refine gate_ (.lookup 64 (.tmp 19) (.tmp 21) false) rfl ?_); refine wp_look _ rfl (.tmp 19) (.tmp 21) 64 rfl 3 3 Try.underlying64 Try.underlying3 (0 : Int) (zeroInt _) _ _ rfl (HP.out.alloc _).maps.m2 _ rfl (cnt c.body (atIr c.body k).n k : Int) HM.out ?_)
            | ((with_reducible refine gate_ (.mapUpdate 64 (.tmp 19) (.tmp 21) (.tmp 23)) rfl ?_); refine wp_update (enc := encI) _ rfl (.tmp 19) (.tmp 21) (.tmp 23) 64 rfl 3 3 Try.underlying64 Try.underlying3 _ _ rfl (HP.out.alloc _).maps.m2 _ ((cnt c.body (atIr c.body k).n k : Int) + 1) rfl rfl ?_; intro w1 hI hg hs; have H1 := Aside0.mk ((HP.out.alloc _).put2 hg hI); have hb1 := blk_grown (blk_new wr _) hg (by have := HP.out.sz; simp; omega); have hx5b := blk_cell hb1 5; have HB1 := Aside0.mk hb1; clear hI hg hs hb1)
            | ((with_reducible refine gate_ (.lookup 64 (.tmp 24) (.tmp 26) false) rfl ?_); refine wp_look _ rfl (.tmp 24) (.tmp 26) 64 rfl 3 3 Try.underlying64 Try.underlying3 (0 : Int) (zeroInt _) _ _ rfl H1.out.maps.m2 _ rfl ((cnt c.body (atIr c.body k).n k : Int) + 1) HG.out ?_))
          go_roundw
          case rel => exact ⟨k + 1, by omega, by go_num, ⟨by rw [HS.out, HM.out, if_neg (by have := HN.out; omega)]; exact H1.out⟩⟩
          case measure => simp [intOf]; omega
      · have h9b : ((atIr c.body k).op != 9) = true := by simp [h9]
        have HS := Aside0.mk (show labs c.body (k + 1) = labs c.body k from by rw [labs, if_neg h9])
        clear h9
        go_wp2_with fail
        go_roundw
        case rel => exact ⟨k + 1, by omega, by go_num, ⟨by rw [HS.out]; exact HP.out.alloc _⟩⟩
        case measure => simp [intOf]; omega
    · have hk2 : k = c.body.length := by omega
      have hlt2 : decide ((k : Int) < (c.body.length : Int)) = false := decide_eq_false (by omega)
      go_wp2_with fail
      go_ret2
      subst hk2
      exact ⟨_, _, rfl, Nat.le_succ _, by omega, HP.out.maps, HP.out.bel⟩
end Go.Proofs.Ytdcmeefeinppnaa.Live
