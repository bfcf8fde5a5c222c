/- rsem: the run of code that is carried out alone (Exec's function literal). -/
import Derived.Test.YtdcmeefeinppnaaRsemA
namespace Go.Proofs.Ytdcmeefeinppnaa.Rsem
open Go.RowKit Go.Proofs.YtdcmeefeinppnaaW.PrintWords Go.Proofs.YtdcmeefeinppnaaW.PrintLast Go.Proofs.YtdcmeefeinppnaaW.PrintMore Go.Proofs.Ytdcmeefeinppnaa.Mem Go.Proofs.Ytdcmeefeinppnaa.Ir Go.Proofs.Ytdcmeefeinppnaa.Live
open MapOf (get put)
open Word (eval eval_calls)
set_option linter.unusedVariables false
set_option linter.unusedSimpArgs false

/-! ### values are of 64 bits -/
theorem can_wrap (z : Int) : Live.Can (wrap64 z) := by unfold Live.Can wrap64; omega
theorem can_trim (b : Bool) {v : Int} (h : Live.Can v) : Live.Can (Word.trim b v) := by
  obtain ⟨h0, h1⟩ := h
  have := Word.trim_range b v h0 h1
  exact ⟨this.1, this.2.1⟩
theorem can_sgn (b : Bool) {v : Int} (h : Live.Can v) : Live.Can (Word.sgn b v) := by
  obtain ⟨h0, h1⟩ := h
  unfold Word.sgn
  split
  · exact ⟨h0, h1⟩
  · unfold wrap32 Live.Can; omega
theorem can_tell (b : Bool) : Live.Can (Word.tell b) := by unfold Word.tell Live.Can; split <;> omega
theorem can_div {v d : Int} (h : Live.Can v) (hd : 0 < d) : Live.Can (v / d) := by
  obtain ⟨h0, h1⟩ := h
  have e1 : v / d ≤ 9223372036854775807 := by
    by_cases hv : 0 ≤ v
    · exact Int.le_trans (Int.ediv_le_self _ hv) h1
    · have : v / d < 0 := Int.ediv_neg_of_neg_of_pos (by omega) hd
      omega
  have e2 : -9223372036854775808 ≤ v / d := by
    have : v ≤ v / d ∨ 0 ≤ v / d := by
      by_cases hv : 0 ≤ v
      · right; exact Int.ediv_nonneg hv (by omega)
      · left
        rw [Int.le_ediv_iff_mul_le hd]
        have := Int.mul_le_mul_of_nonpos_left (a := v) (b := d) (c := 1) (by omega) (by omega)
        omega
    omega
  exact ⟨e2, e1⟩
theorem can_tmod {v d : Int} (h : Live.Can v) : Live.Can (v.tmod d) := by
  obtain ⟨h0, h1⟩ := h
  have h2 : (v.tmod d).natAbs ≤ v.natAbs := by rw [Int.natAbs_tmod]; exact Nat.mod_le _ _
  unfold Live.Can
  by_cases hv : 0 ≤ v
  · have := Int.tmod_nonneg d hv
    omega
  · have h3 := Int.tmod_nonneg d (show 0 ≤ -v by omega)
    rw [Int.neg_tmod] at h3
    omega
theorem can_divi (op : Int) (b : Bool) {x y : Int} (hx : Live.Can x) : Live.Can (Word.divi op b x y).1 := by
  unfold Word.divi
  repeat' split
  all_goals first | exact can_wrap _ | exact can0' | exact can_tmod (can_sgn _ hx)
where can0' : Live.Can 0 := by unfold Live.Can; omega
theorem can_ite1 {p : Prop} [Decidable p] {a b : Int × Int} (h1 : Live.Can a.1) (h2 : Live.Can b.1) : Live.Can (if p then a else b).1 := by split <;> assumption
theorem can_ite {p : Prop} [Decidable p] {a b : Int} (h1 : Live.Can a) (h2 : Live.Can b) : Live.Can (if p then a else b) := by split <;> assumption
theorem can_pair {a : Int} (h : Live.Can a) (t : Int) : Live.Can (a, t).1 := h
theorem can_shr {x d : Int} (b : Bool) (hx : Live.Can x) (k : Nat) : Live.Can (Word.sgn b x / 2 ^ k) := can_div (can_sgn b hx) (Int.pow_pos (show (0 : Int) < 2 by decide))
theorem can_reck (op : Int) (b : Bool) {x y : Int} (hx : Live.Can x) : Live.Can (Word.reck op b x y).1 := by
  unfold Word.reck
  apply can_ite1 (can_pair (can_wrap _) _)
  apply can_ite1 (can_pair (can_wrap _) _)
  apply can_ite1 (can_pair (can_wrap _) _)
  apply can_ite1 (can_pair (can_bits _ _ _) _)
  apply can_ite1 (can_pair (can_bits _ _ _) _)
  apply can_ite1 (can_pair (can_bits _ _ _) _)
  apply can_ite1 (can_pair (can_wrap _) _)
  apply can_ite1 (can_pair (can_shr (d := 0) b hx _) _)
  apply can_ite1 (can_pair (can_wrap _) _)
  apply can_ite1 (can_pair (can_ite (can_wrap _) (can_wrap _)) _)
  apply can_ite1 (can_pair (can_ite (can_wrap _) (can_wrap _)) _)
  exact can_divi _ _ hx
theorem can_eval (op : Int) {x y : Int} (hx : Live.Can x) : Live.Can (eval op x y).1 := by
  unfold Word.eval
  repeat' split
  all_goals first | exact can_tell _ | exact can_trim _ (can_trim _ hx) | exact can_trim _ (can_sgn _ (can_trim _ hx)) | exact can_trim _ (can_reck _ _ (can_trim _ hx)) | (unfold Live.Can; omega)
def CanL (cs : List Int) : Prop := ∀ i : Int, Live.Can (rd cs i)
theorem setI_len (cs : List Int) (k v : Int) : (setI cs k v).length = cs.length := by simp [setI]
theorem rd_setI {cs : List Int} {k : Int} (hk : k.toNat < cs.length) (v i : Int) : rd (setI cs k v) i = if i.toNat = k.toNat then v else rd cs i := rd_set cs k.toNat v i hk
theorem CanL.set {cs : List Int} (h : CanL cs) {k v : Int} (hk : 0 ≤ k ∧ k < cs.length) (hv : Live.Can v) : CanL (setI cs k v) := fun i => by
  rw [rd_setI (by omega)]
  split
  · exact hv
  · exact h i
/-- where a label is, it is a place -/
def Pos (M : List (Int × Int)) : Prop := ∀ n, 0 ≤ (get M n).getD 0
theorem lab_pos (L : List Ir) (k : Nat) : Pos (labR L k) := by
  induction k with
  | zero => intro n; simp [labR, MapOf.get_nil]
  | succ k ih =>
    intro n
    unfold labR
    split
    · rw [MapOf.get_put]
      split
      · simp
      · exact ih n
    · exact ih n
structure Good (x : Ir) (n : Nat) : Prop where
  inn : Inn x n
  lit : Live.Can x.n
  ret : x.op = 15 → 0 ≤ x.a → x.a < n
theorem plain_good {M : List (Int × Int)} (hM : Pos M) {x : Ir} {cs : List Int} (hg : Good x cs.length) (hc : CanL cs) {at_ at' : Int} {cs' : List Int} (h0 : 0 ≤ at_) (h : plainS M x cs at_ = .ok (at', cs')) : 0 ≤ at' ∧ cs'.length = cs.length ∧ CanL cs' := by
  unfold plainS at h
  split at h
  · rename_i h1
    cases h
    exact ⟨h0, setI_len _ _ _, hc.set (hg.inn.dst (.inl h1)) hg.lit⟩
  split at h
  · rename_i h2
    cases h
    exact ⟨h0, setI_len _ _ _, hc.set (hg.inn.dst (.inr (.inl h2))) (hc _)⟩
  split at h
  · rename_i h3
    split at h
    · cases h
      exact ⟨h0, setI_len _ _ _, hc.set (hg.inn.dst (.inr (.inr (.inl h3)))) (can_eval _ (hc _))⟩
    · cases h
  split at h
  · rename_i h4
    cases h
    exact ⟨h0, setI_len _ _ _, hc.set (hg.inn.dst (.inr (.inr (.inr h4)))) (hc _)⟩
  split at h
  · cases h
    refine ⟨?_, rfl, hc⟩
    split
    · exact hM _
    · exact h0
  split at h
  · cases h
    refine ⟨?_, rfl, hc⟩
    split
    · exact hM _
    · exact h0
  split at h
  · cases h
    exact ⟨hM _, rfl, hc⟩
  · cases h
    exact ⟨h0, rfl, hc⟩
theorem plain_calls (kb mb base : Nat) (M : List (Int × Int)) (v : Value) (cs : List Int) (x : Ir) (at_ : Int) (w : World) (H : Pl w kb mb base M v cs) (hg : Good x cs.length) (hc : CanL cs) :
    Calls Try.prog 64 #[.pointer (some ⟨kb, 0, none⟩), .agg x.vals, v, .int .i64 at_] w (PlOut w v base (plainS M x cs at_)) := by
  have hi := hg.inn
  by_cases h1 : x.op = 1
  · rw [show plainS M x cs at_ = .ok (at_, setI cs x.dst x.n) by unfold plainS; rw [if_pos h1]]
    exact plain_const kb mb base M v cs x at_ w H hi h1
  by_cases h2 : x.op = 2
  · rw [show plainS M x cs at_ = .ok (at_, setI cs x.dst (rd cs x.a)) by unfold plainS; rw [if_neg h1, if_pos h2]]
    exact plain_move kb mb base M v cs x at_ w H hi h2
  by_cases h3 : x.op = 3
  · obtain ⟨u, t, hev⟩ : ∃ u t, eval x.n (rd cs x.a) (rd cs x.b) = (u, t) := ⟨_, _, rfl⟩
    by_cases ht : t = 0
    · rw [show plainS M x cs at_ = .ok (at_, setI cs x.dst u) by unfold plainS; rw [if_neg h1, if_neg h2, if_pos h3, hev, if_pos ht]]
      exact plain_op kb mb base M v cs x at_ w H hi h3 (hc _) u t hev ht
    · rw [show plainS M x cs at_ = .error t by unfold plainS; rw [if_neg h1, if_neg h2, if_pos h3, hev, if_neg ht]]
      exact plain_trap kb mb base M v cs x at_ w H hi h3 (hc _) u t hev ht
  by_cases h4 : x.op = 4
  · rw [show plainS M x cs at_ = .ok (at_, setI cs x.dst (rd cs (if rd cs x.c = 0 then x.b else x.a))) by unfold plainS; rw [if_neg h1, if_neg h2, if_neg h3, if_pos h4]]
    exact plain_select kb mb base M v cs x at_ w H hi h4
  by_cases h11 : x.op = 11
  · rw [show plainS M x cs at_ = .ok (if rd cs x.a ≠ 0 then (get M x.n).getD 0 else at_, cs) by unfold plainS; rw [if_neg h1, if_neg h2, if_neg h3, if_neg h4, if_pos h11]]
    exact plain_if kb mb base M v cs x at_ w H hi h11
  by_cases h12 : x.op = 12
  · rw [show plainS M x cs at_ = .ok (if rd cs x.a = 0 then (get M x.n).getD 0 else at_, cs) by unfold plainS; rw [if_neg h1, if_neg h2, if_neg h3, if_neg h4, if_neg h11, if_pos h12]]
    exact plain_unless kb mb base M v cs x at_ w H hi h12
  by_cases h10 : x.op = 10
  · rw [show plainS M x cs at_ = .ok ((get M x.n).getD 0, cs) by unfold plainS; rw [if_neg h1, if_neg h2, if_neg h3, if_neg h4, if_neg h11, if_neg h12, if_pos h10]]
    exact plain_jump kb mb base M v cs x at_ w H hi h10
  · rw [show plainS M x cs at_ = .ok (at_, cs) by unfold plainS; rw [if_neg h1, if_neg h2, if_neg h3, if_neg h4, if_neg h11, if_neg h12, if_neg h10]]
    exact plain_other kb mb base M v cs x at_ w H hi ⟨h1, h2, h3, h4, h10, h11, h12⟩
/-- the run: the cells, the value, the trap -/
def runS (L : List Ir) (M : List (Int × Int)) : Nat → Int → List Int → List Int × Int × Int
  | 0, at_, cs => if at_ < L.length then (cs, 0, 7) else (cs, 0, 0)
  | f + 1, at_, cs =>
    if at_ < L.length then
      if (atIr L at_.toNat).op = 15 then (cs, if 0 ≤ (atIr L at_.toNat).a then rd cs (atIr L at_.toNat).a else 0, 0)
      else if (atIr L at_.toNat).op = 16 then (cs, 0, (atIr L at_.toNat).n)
      else match plainS M (atIr L at_.toNat) cs (at_ + 1) with
        | .error t => (cs, 0, t)
        | .ok r => runS L M f r.1 r.2
    else (cs, 0, 0)
end Go.Proofs.Ytdcmeefeinppnaa.Rsem
