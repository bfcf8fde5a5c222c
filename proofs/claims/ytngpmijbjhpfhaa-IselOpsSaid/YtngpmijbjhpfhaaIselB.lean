/- What IselOps compares: both answers are the same, for each instruction, address, and trap. -/
import Derived.Test.YtngpmijbjhpfhaaIselO0
import Derived.Test.YtngpmijbjhpfhaaIselO1
import Derived.Test.YtngpmijbjhpfhaaIselQ
import Derived.Test.YtngpmijbjhpfhaaIselE
namespace Go.Proofs.Ytngpmijbjhpfhaa.Isel
open Go.RowKit Go.Proofs.YtngpmijbjhpfhaaW.PrintWords Go.Proofs.YtngpmijbjhpfhaaW.PrintLast Go.Proofs.Ytngpmijbjhpfhaa.Mem
open PIselOps (S42 S40 k42 k40 k42_open k42_mkM k42_mk rd_T42)
set_option linter.unusedVariables false
set_option linter.unusedSimpArgs false

def OpAns (w : World) (l : List S42) (n : Int) (ok : Bool) (e : Ending) (w' : World) : Prop := ∃ v, e = .returned (.tuple #[v, .int .i64 n, .bool ok]) ∧ k42.R 42 w' w.heap.size (fun _ => True) v l ∧ Below w.heap.size w w'
set_option maxRecDepth 100000 in
theorem op_none {op : Int} (h : (arity op).2.2.2 = false) (w : World) : Calls Try.prog 5 #[.int .i64 op] w (OpAns w [] 0 false) := by
  have HA := Aside0.mk (arity_no h)
  clear h
  go_enter Try.func5, Try.ntmps5
  go_wp2_with (go_at_call 12; refine (arity_calls op _).mono ?_; rw [HA.out]; rintro e W0 ⟨rfl, hb⟩; have HB := Aside0.mk hb; clear hb)
  exact bodyPost_ret (by simp [results, Try.results5, go_sem]) rfl ⟨_, rfl, Kd.R_nil _ _ _ _ _, HB.out⟩
set_option maxRecDepth 100000 in
theorem rop_none {op : Int} (h : (arity op).2.2.2 = false) (w : World) : Calls Try.prog 6 #[.int .i64 op] w (OpAns w [] 0 false) := by
  have HA := Aside0.mk (arity_no h)
  clear h
  go_enter Try.func6, Try.ntmps6
  go_wp2_with (go_at_call 20; refine (ref_arity_calls op _).mono ?_; rw [HA.out]; rintro e W0 ⟨rfl, rfl⟩)
  exact bodyPost_ret (by simp [results, Try.results6, go_sem]) rfl ⟨_, rfl, Kd.R_nil _ _ _ _ _, Below.refl _ _⟩
theorem of_op {op n : Int} {l : List Item} {r : List S42} (hl : l.map toS = r) (h : ∀ w, Calls Try.prog 5 #[.int .i64 op] w (OpOut w l n)) (hr : ∀ w, Calls Try.prog 6 #[.int .i64 op] w (ROut w r n)) (hs : r.length ≤ 100) :
    ∃ (l : List S42) (n : Int) (ok : Bool), l.length ≤ 100 ∧ (∀ w, Calls Try.prog 5 #[.int .i64 op] w (OpAns w l n ok)) ∧ (∀ w, Calls Try.prog 6 #[.int .i64 op] w (OpAns w l n ok)) := by
  subst hl
  exact ⟨_, n, true, hs, fun w => (h w).mono (fun e w' ⟨v, he, hR, hb⟩ => ⟨v, he, toS_R hR, hb⟩), hr⟩
theorem ops_of {op : Int} (h : (arity op).2.2.2 = true) : (69 ≤ op ∧ op ≤ 79) ∨ (80 ≤ op ∧ op ≤ 90) ∨ (106 ≤ op ∧ op ≤ 120) ∨ (124 ≤ op ∧ op ≤ 138) ∨ op = 167 ∨ op = 172 ∨ op = 173 := by
  by_cases h1 : (69 ≤ op ∧ op ≤ 79) ∨ (80 ≤ op ∧ op ≤ 90) ∨ (106 ≤ op ∧ op ≤ 120) ∨ (124 ≤ op ∧ op ≤ 138) ∨ op = 167 ∨ op = 172 ∨ op = 173
  · exact h1
  · exfalso
    revert h
    unfold arity
    repeat' split
    all_goals first
      | (exfalso; omega)
      | simp
theorem both_ops (op : Int) : ∃ (l : List S42) (n : Int) (ok : Bool), l.length ≤ 100 ∧ (∀ w, Calls Try.prog 5 #[.int .i64 op] w (OpAns w l n ok)) ∧ (∀ w, Calls Try.prog 6 #[.int .i64 op] w (OpAns w l n ok)) := by
  cases ha : (arity op).2.2.2 with
  | false => exact ⟨[], 0, false, by simp, op_none ha, rop_none ha⟩
  | true =>
    rcases ops_of ha with h | h | h | h | h | h | h
    · rcases (by omega : op = 69 ∨ op = 70 ∨ op = 71 ∨ op = 72 ∨ op = 73 ∨ op = 74 ∨ op = 75 ∨ op = 76 ∨ op = 77 ∨ op = 78 ∨ op = 79) with rfl | rfl | rfl | rfl | rfl | rfl | rfl | rfl | rfl | rfl | rfl
      · exact of_op rfl op_69 rop_69 (by decide)
      · exact of_op rfl op_70 rop_70 (by decide)
      · exact of_op rfl op_71 rop_71 (by decide)
      · exact of_op rfl op_72 rop_72 (by decide)
      · exact of_op rfl op_73 rop_73 (by decide)
      · exact of_op rfl op_74 rop_74 (by decide)
      · exact of_op rfl op_75 rop_75 (by decide)
      · exact of_op rfl op_76 rop_76 (by decide)
      · exact of_op rfl op_77 rop_77 (by decide)
      · exact of_op rfl op_78 rop_78 (by decide)
      · exact of_op rfl op_79 rop_79 (by decide)
    · rcases (by omega : op = 80 ∨ op = 81 ∨ op = 82 ∨ op = 83 ∨ op = 84 ∨ op = 85 ∨ op = 86 ∨ op = 87 ∨ op = 88 ∨ op = 89 ∨ op = 90) with rfl | rfl | rfl | rfl | rfl | rfl | rfl | rfl | rfl | rfl | rfl
      · exact of_op rfl op_80 rop_80 (by decide)
      · exact of_op rfl op_81 rop_81 (by decide)
      · exact of_op rfl op_82 rop_82 (by decide)
      · exact of_op rfl op_83 rop_83 (by decide)
      · exact of_op rfl op_84 rop_84 (by decide)
      · exact of_op rfl op_85 rop_85 (by decide)
      · exact of_op rfl op_86 rop_86 (by decide)
      · exact of_op rfl op_87 rop_87 (by decide)
      · exact of_op rfl op_88 rop_88 (by decide)
      · exact of_op rfl op_89 rop_89 (by decide)
      · exact of_op rfl op_90 rop_90 (by decide)
    · rcases (by omega : op = 106 ∨ op = 107 ∨ op = 108 ∨ op = 109 ∨ op = 110 ∨ op = 111 ∨ op = 112 ∨ op = 113 ∨ op = 114 ∨ op = 115 ∨ op = 116 ∨ op = 117 ∨ op = 118 ∨ op = 119 ∨ op = 120) with rfl | rfl | rfl | rfl | rfl | rfl | rfl | rfl | rfl | rfl | rfl | rfl | rfl | rfl | rfl
      · exact of_op rfl op_106 rop_106 (by decide)
      · exact of_op rfl op_107 rop_107 (by decide)
      · exact of_op rfl op_108 rop_108 (by decide)
      · exact of_op rfl op_109 rop_109 (by decide)
      · exact of_op rfl op_110 rop_110 (by decide)
      · exact of_op rfl op_111 rop_111 (by decide)
      · exact of_op rfl op_112 rop_112 (by decide)
      · exact of_op rfl op_113 rop_113 (by decide)
      · exact of_op rfl op_114 rop_114 (by decide)
      · exact of_op rfl op_115 rop_115 (by decide)
      · exact of_op rfl op_116 rop_116 (by decide)
      · exact of_op rfl op_117 rop_117 (by decide)
      · exact of_op rfl op_118 rop_118 (by decide)
      · exact of_op rfl op_119 rop_119 (by decide)
      · exact of_op rfl op_120 rop_120 (by decide)
    · rcases (by omega : op = 124 ∨ op = 125 ∨ op = 126 ∨ op = 127 ∨ op = 128 ∨ op = 129 ∨ op = 130 ∨ op = 131 ∨ op = 132 ∨ op = 133 ∨ op = 134 ∨ op = 135 ∨ op = 136 ∨ op = 137 ∨ op = 138) with rfl | rfl | rfl | rfl | rfl | rfl | rfl | rfl | rfl | rfl | rfl | rfl | rfl | rfl | rfl
      · exact of_op rfl op_124 rop_124 (by decide)
      · exact of_op rfl op_125 rop_125 (by decide)
      · exact of_op rfl op_126 rop_126 (by decide)
      · exact of_op rfl op_127 rop_127 (by decide)
      · exact of_op rfl op_128 rop_128 (by decide)
      · exact of_op rfl op_129 rop_129 (by decide)
      · exact of_op rfl op_130 rop_130 (by decide)
      · exact of_op rfl op_131 rop_131 (by decide)
      · exact of_op rfl op_132 rop_132 (by decide)
      · exact of_op rfl op_133 rop_133 (by decide)
      · exact of_op rfl op_134 rop_134 (by decide)
      · exact of_op rfl op_135 rop_135 (by decide)
      · exact of_op rfl op_136 rop_136 (by decide)
      · exact of_op rfl op_137 rop_137 (by decide)
      · exact of_op rfl op_138 rop_138 (by decide)
    · subst h; exact of_op rfl op_167 rop_167 (by decide)
    · subst h; exact of_op rfl op_172 rop_172 (by decide)
    · subst h; exact of_op rfl op_173 rop_173 (by decide)

theorem same_loop (l : List S42) (hl : l.length ≤ 1000) : ∀ d i : Nat, i + d = l.length → PIselOps.oublietteref20_Same.l0 (d + 1) l l (i : Int) = some true := by
  intro d
  induction d with
  | zero =>
    intro i hi
    unfold PIselOps.oublietteref20_Same.l0
    rw [if_neg (by omega)]
  | succ d ih =>
    intro i hi
    unfold PIselOps.oublietteref20_Same.l0
    rw [if_pos (by omega), if_pos (by omega), if_pos (by omega)]
    have hw : wrap64 ((i : Int) + 1) = ((i + 1 : Nat) : Int) := by unfold wrap64; omega
    rw [hw, ih (i + 1) (by omega)]
    simp
theorem same_yes (l : List S42) (hl : l.length ≤ 1000) : PIselOps.oubliettelaw20_same.f (l.length + 1) l l = some true := by
  unfold PIselOps.oubliettelaw20_same.f PIselOps.oublietteref20_Same.f
  rw [if_pos rfl]
  have := same_loop l hl l.length 0 (by omega)
  rw [show ((0 : Nat) : Int) = 0 from rfl] at this
  rw [this]
  rfl
theorem same_calls {l : List S42} {A0 A1 : Option Addr} {c0 c1 : Nat} {w : World} (h0 : k42.C w A0 l.length l) (hc0 : l.length ≤ c0) (h1 : k42.C w A1 l.length l) (hc1 : l.length ≤ c1) (hl : l.length ≤ 1000) :
    Calls Try.prog 7 #[.slice A0 l.length c0, .slice A1 l.length c1] w fun e w' => e = .returned (.bool true) ∧ Below w.heap.size w w' :=
  (PIselOps.oubliettelaw20_same.calls (l.length + 1) A0 c0 l A1 c1 l true w h0 hc0 h1 hc1 (same_yes l hl)).mono (fun e w' ⟨he, hd⟩ => ⟨he, hd.below⟩)
def TrapAns (w : World) (l : List S42) (e : Ending) (w' : World) : Prop := ∃ v, e = .returned v ∧ k42.R 42 w' w.heap.size (fun _ => True) v l ∧ Below w.heap.size w w'
def trapS (first : Int) : List S42 := if first = 1 then trapsL.map toS else []
theorem trapS_len (first : Int) : (trapS first).length ≤ 100 := by unfold trapS; split <;> simp [trapsL, trapL]
theorem itraps_calls (first : Int) (w : World) : Calls Try.prog 10 #[.int .i64 first] w (TrapAns w (trapS first)) :=
  (traps_calls first w).mono (fun e w' ⟨v, he, hR, hb⟩ => ⟨v, he, by
    have h := toS_R hR
    unfold trapS
    by_cases hf : first = 1
    · rw [if_pos hf] at h ⊢; exact h
    · rw [if_neg hf] at h ⊢; exact h, hb⟩)
theorem rtraps_calls (first : Int) (w : World) : Calls Try.prog 11 #[.int .i64 first] w (TrapAns w (trapS first)) := by
  unfold trapS
  by_cases hf : first = 1
  · subst hf
    rw [if_pos rfl]
    exact PIselOps.oublietteref20_Traps.calls 6 1 _ w (by kernel_rfl)
  · rw [if_neg hf]
    exact PIselOps.oublietteref20_Traps.calls 6 first _ w (by unfold PIselOps.oublietteref20_Traps.f; rw [if_neg hf])
end Go.Proofs.Ytngpmijbjhpfhaa.Isel
