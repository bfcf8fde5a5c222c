/- What a valid module's indices and heights are: plain. -/
import Derived.Test.YtjjhhmchomabeaaDoorValGo
namespace Go.Proofs.YtjjhhmchomabeaaDoor.Valid
open Go.RowKit Go.Proofs.YtjjhhmchomabeaaDoorW.PrintWords Go.Proofs.YtjjhhmchomabeaaDoorW.PrintLast Go.Proofs.YtjjhhmchomabeaaDoor.Mem Go.Proofs.YtjjhhmchomabeaaDoor.Nest
set_option linter.unusedVariables false
set_option linter.unusedSimpArgs false

/-! what is valid has indices that there are -/
theorem go_heights {E : Env} (hE : EFine E) : ∀ (l : List T3) (op : List (Bool × Bool)) (deep : Bool) (s : Ck) (r : List Int × Ck), (∀ x ∈ l, XOk x) → errN l op deep = 0 → Wf s → s.fr.length = op.length + 1 → go E l s = some r → ∀ t ∈ r.1, -1 ≤ t ∧ t ≤ 16 := by
  intro l
  induction l with
  | nil => intro op deep s r _ _ _ _ h; cases h; intro t ht; cases ht
  | cons x l ih =>
    intro op deep s r hx he hw hl h t ht
    obtain ⟨s1, o, h1, h2, h3⟩ := go_cons.1 h
    rw [h3] at ht
    rcases List.mem_cons.1 ht with rfl | ht
    · unfold awake
      have := hw.few
      split <;> omega
    · cases l with
      | nil => cases h2; cases ht
      | cons y l =>
        obtain ⟨k1, op1, deep1, k2, k3⟩ := errN_step he (by simp)
        obtain ⟨w1, w2⟩ := see_wf hE (hx x (by simp)) hw h1 (fun e => by
          have := List.length_pos_iff.2 (k1 e)
          omega)
        rw [hl] at w2
        exact ih op1 deep1 s1 _ (fun z hz => hx z (by simp [hz])) k2 w1 (w2.trans k3.symm) h2 t ht
theorem shape_heights {M : Md} (C : MCan M) (hv : validT M = none) {k : Nat} (hk : k < M.funcs.length) : ∃ h, heightsT M k = .ok h ∧ h.length = (M.funcs.getD k zF).2.2.2.length ∧ (∀ t ∈ h, -1 ≤ t ∧ t ≤ 16) ∧ (M.funcs.getD k zF).1 < M.sigs.length := by
  obtain ⟨_, hr, hc, he, hne, g, s, hg, hgo⟩ := valid_body hv hk
  obtain ⟨hE, hX⟩ := fn_env hv C hk
  obtain ⟨F, R⟩ := valid_none hv
  have O := F.fnok C (refs_sg R) k hk
  exact ⟨g, heights_ok (by omega) (by omega) hv (by simpa using hg), go_len _ _ _ _ hgo, go_heights hE _ _ _ _ _ hX he (start_wf _ hE.res) rfl hgo, O.sig.2⟩
/-- what an instruction of a valid module has -/
structure Shp (M : Md) (f : Fn) (x : T3) : Prop where
  loc : x.1 = 32 ∨ x.1 = 33 ∨ x.1 = 34 → x.2.1 < (((M.sigs.getD f.1.toNat zS).1.length + f.2.2.1.length : Nat) : Int)
  glob : x.1 = 35 ∨ x.1 = 36 → x.2.1 < M.globals.length
  mem : x.1 = 40 ∨ x.1 = 41 ∨ x.1 = 54 ∨ x.1 = 55 → memOf M x.2.2 ≠ 0 ∧ (x.2.2 = 0 ∨ x.2.2 = 1)
  call : x.1 = 16 → (callee M x.2.1).2.2.2 = true
theorem cellT_lt {E : Env} {op n t : Int} (h : cellT E op n = .ok t) : (op = 35 ∨ op = 36 → n < E.M.globals.length) ∧ (¬ (op = 35 ∨ op = 36) → n < E.locals.length) := by
  unfold cellT at h
  split at h
  · rename_i ho
    split at h
    · rename_i hl
      exact ⟨fun _ => hl, fun k => absurd ho k⟩
    · cases h
  · rename_i ho
    split at h
    · rename_i hl
      exact ⟨fun k => absurd k ho, fun _ => hl⟩
    · cases h
theorem shape_instr {M : Md} (C : MCan M) (hv : validT M = none) {k : Nat} (hk : k < M.funcs.length) {x : T3} (hx : x ∈ (M.funcs.getD k zF).2.2.2) : Shp M (M.funcs.getD k zF) x := by
  obtain ⟨s1, s2, hs⟩ := see_at hv hk hx
  obtain ⟨hE, hX⟩ := fn_env hv C hk
  have hxo := hX x hx
  have hloc : ((envOf M (M.funcs.getD k zF)).locals.length : Int) = (((M.sigs.getD (M.funcs.getD k zF).1.toNat zS).1.length + (M.funcs.getD k zF).2.2.1.length : Nat) : Int) := by
    show (((M.sigs.getD (M.funcs.getD k zF).1.toNat zS).1 ++ (M.funcs.getD k zF).2.2.1).length : Int) = _
    rw [List.length_append]
  refine ⟨fun h => ?_, fun h => ?_, fun h => ⟨?_, hxo.mem h⟩, fun h => ?_⟩
  · obtain ⟨t, ht⟩ := see_cell hs (by omega)
    rw [← hloc]
    exact (cellT_lt ht).2 (by omega)
  · obtain ⟨t, ht⟩ := see_cell hs (by omega)
    exact (cellT_lt ht).1 (by omega)
  · exact see_mem hs h
  · have h2 := see_call hs h
    simp only [Bool.and_eq_true] at h2
    exact h2.1
end Go.Proofs.YtjjhhmchomabeaaDoor.Valid
