/- Behind an Unreachable that is laid in anywhere a module is as valid as before (ValidDead): whatever the module and the two numbers are, the law returns true. -/
import Derived.Test.YtjjhhmchomabeaaDoorValNopP
import Derived.Test.YtjjhhmchomabeaaDoorModAt
import Derived.Test.YtjjhhmchomabeaaDoorCards
import Derived.Test.YtjjhhmchomabeaaDoorTie
import Derived.ChangeSame
import Derived.ChangeVars
import Derived.JoinedOf
import Derived.RowKit
import Derived.RowKitTokens
import Derived.LaidLaws
import Derived.LaidHandle
import Derived.Stop.Joined
import Derived.SevenTiedAt
namespace Go.Proofs.YtjjhhmchomabeaaDoor.Valid
open Go.RowKit Go.Proofs.YtjjhhmchomabeaaDoorW.PrintWords Go.Proofs.YtjjhhmchomabeaaDoorW.PrintLast Go.Proofs.YtjjhhmchomabeaaDoor.Mem Go.Proofs.YtjjhhmchomabeaaDoor.Nest
set_option linter.unusedVariables false
set_option linter.unusedSimpArgs false

/-! what is dead takes what is alive -/
/-- the types of what is dead, and of what is alive -/
def leP : List (Int × Int) := [(-1, -1), (-1, 0), (-1, 1), (-1, 2), (-1, 3), (0, 0), (0, 2), (1, 1), (1, 3), (2, 2), (3, 3)]
abbrev Le (t u : Int) : Prop := (t, u) ∈ leP
theorem ty_cases {t : Int} (h : Ty t) : t = -1 ∨ t = 0 ∨ t = 1 ∨ t = 2 ∨ t = 3 := by
  obtain ⟨h1, h2⟩ := h
  omega
theorem le_refl {t : Int} (h : Ty t) : Le t t := by rcases ty_cases h with rfl | rfl | rfl | rfl | rfl <;> decide
theorem le_any {t : Int} (h : Ty t) : Le (-1) t := by rcases ty_cases h with rfl | rfl | rfl | rfl | rfl <;> decide
theorem leP_ty : ∀ p ∈ leP, Ty p.1 ∧ Ty p.2 := by decide
theorem le_ty {t u : Int} (h : Le t u) : Ty t ∧ Ty u := leP_ty _ h
/-- the rows of a block, from the last one on: what is dead has at most as many -/
inductive Seg (d : Bool) : List Int → List Int → Prop
  | nil : Seg d [] []
  | more {u : Int} {us : List Int} : d = true → Ty u → Seg d [] us → Seg d [] (u :: us)
  | cons {t u : Int} {ts us : List Int} : Le t u → Seg d ts us → Seg d (t :: ts) (u :: us)
theorem Seg.len {d : Bool} {a b : List Int} (h : Seg d a b) : a.length ≤ b.length := by
  induction h with
  | nil => exact Nat.le_refl _
  | more _ _ _ _ => simp
  | cons _ _ ih => simpa using ih
theorem Seg.right {d : Bool} {a b : List Int} (h : Seg d a b) : ∀ u ∈ b, Ty u := by
  induction h with
  | nil => intro u hu; cases hu
  | more _ ht _ ih => intro u hu; rcases List.mem_cons.1 hu with rfl | hu; exact ht; exact ih u hu
  | cons hl _ ih => intro u hu; rcases List.mem_cons.1 hu with rfl | hu; exact (le_ty hl).2; exact ih u hu
theorem Seg.dead {b : List Int} (h : ∀ u ∈ b, Ty u) : Seg true [] b := by
  induction b with
  | nil => exact .nil
  | cons u b ih => exact .more rfl (h u (by simp)) (ih fun x hx => h x (by simp [hx]))
theorem Seg.out {d : Bool} {a : List Int} (h : Seg d a []) : a = [] := List.eq_nil_of_length_eq_zero (by have := h.len; simpa using this)
theorem Seg.lives {a b : List Int} (h : Seg false a b) : a.length = b.length := by
  obtain ⟨d, hd⟩ : ∃ d, d = false := ⟨_, rfl⟩
  rw [← hd] at h
  induction h with
  | nil => rfl
  | more h _ _ _ => rw [hd] at h; cases h
  | cons _ _ ih => simpa using ih
/-- a block of what is dead and of what is alive -/
structure FR (f' f : Fr) : Prop where
  op : f'.op = f.op
  brings : f'.brings = f.brings
  other : f'.other = f.other
  dead : f.dead = true → f'.dead = true
  ty : Ty f.brings
inductive Rel : List Fr → List Fr → List Int → List Int → Prop
  | nil : Rel [] [] [] []
  | snoc {F' F : List Fr} {lo' lo a b : List Int} {f' f : Fr} : Rel F' F lo' lo → f'.high = (lo'.length : Int) → f.high = (lo.length : Int) → FR f' f → Seg f'.dead a b → Rel (F' ++ [f']) (F ++ [f]) (lo' ++ a.reverse) (lo ++ b.reverse)
theorem Rel.inv {G' G : List Fr} {x' x : List Int} (h : Rel G' G x' x) : (G' = [] ∧ G = [] ∧ x' = [] ∧ x = []) ∨ ∃ F' F lo' lo a b f' f, G' = F' ++ [f'] ∧ G = F ++ [f] ∧ x' = lo' ++ a.reverse ∧ x = lo ++ b.reverse ∧ Rel F' F lo' lo ∧ f'.high = (lo'.length : Int) ∧ f.high = (lo.length : Int) ∧ FR f' f ∧ Seg f'.dead a b := by
  cases h with
  | nil => exact .inl ⟨rfl, rfl, rfl, rfl⟩
  | snoc h1 h2 h3 h4 h5 => exact .inr ⟨_, _, _, _, _, _, _, _, rfl, rfl, rfl, rfl, h1, h2, h3, h4, h5⟩
theorem Rel.len {G' G : List Fr} {x' x : List Int} (h : Rel G' G x' x) : G'.length = G.length ∧ x'.length ≤ x.length := by
  induction h with
  | nil => exact ⟨rfl, Nat.le_refl _⟩
  | snoc h1 h2 h3 h4 h5 ih =>
    have := h5.len
    simp
    omega
theorem Rel.at {G' G : List Fr} {x' x : List Int} (h : Rel G' G x' x) : ∀ i, (G'.getD i zFr).op = (G.getD i zFr).op ∧ (G'.getD i zFr).brings = (G.getD i zFr).brings ∧ (i < G.length → Ty (G.getD i zFr).brings) := by
  induction h with
  | nil => intro i; exact ⟨rfl, rfl, fun h => absurd h (by simp)⟩
  | snoc h1 h2 h3 h4 h5 ih =>
    intro i
    rename_i F' F lo' lo a b f' f
    have hl := h1.len.1
    simp only [List.getD_eq_getElem?_getD] at ih ⊢
    rcases Nat.lt_trichotomy i F.length with hi | hi | hi
    · rw [List.getElem?_append_left (by omega), List.getElem?_append_left (by omega)]
      exact ⟨(ih i).1, (ih i).2.1, fun _ => (ih i).2.2 hi⟩
    · rw [List.getElem?_append_right (by omega), List.getElem?_append_right (by omega), hl, hi, Nat.sub_self]
      exact ⟨h4.op, h4.brings, fun _ => h4.ty⟩
    · rw [List.getElem?_eq_none (by simp; omega), List.getElem?_eq_none (by simp; omega)]
      exact ⟨rfl, rfl, fun h => absurd h (by simp; omega)⟩
abbrev RelC (s' s : Ck) : Prop := Rel s'.fr s.fr s'.st s.st
/-- a check, its last block taken apart -/
abbrev ck (F : List Fr) (f : Fr) (lo a : List Int) : Ck := ⟨lo ++ a.reverse, F ++ [f]⟩
theorem ck_top (F : List Fr) (f : Fr) (lo a : List Int) : (ck F f lo a).top = f := by
  unfold Ck.top
  simp [List.getD_eq_getElem?_getD]
theorem ck_setTop (F : List Fr) (f g : Fr) (lo a : List Int) : (ck F f lo a).setTop g = ck F g lo a := by
  unfold Ck.setTop
  simp
theorem ck_die (F : List Fr) (f : Fr) (lo a : List Int) (h : f.high = lo.length) : die (ck F f lo a) = ck F { f with dead := true } lo [] := by
  unfold die
  rw [ck_top, h]
  simp [h]
structure Pair (F' F : List Fr) (f' f : Fr) (lo' lo a b : List Int) : Prop where
  rel : Rel F' F lo' lo
  h1 : f'.high = lo'.length
  h2 : f.high = lo.length
  fr : FR f' f
  sg : Seg f'.dead a b
section
variable {F' F : List Fr} {f' f : Fr} {lo' lo a b : List Int} {s' s s1 : Ck}
theorem Pair.relC (h : Pair F' F f' f lo' lo a b) : RelC (ck F' f' lo' a) (ck F f lo b) := Rel.snoc h.rel h.h1 h.h2 h.fr h.sg
theorem RelC.pair (h : RelC s' s) (hp : s.fr ≠ []) : ∃ F' F f' f lo' lo a b, s' = ck F' f' lo' a ∧ s = ck F f lo b ∧ Pair F' F f' f lo' lo a b := by
  rcases h.inv with ⟨_, e, _, _⟩ | ⟨F', F, lo', lo, a, b, f', f, e1, e2, e3, e4, h1, h2, h3, h4, h5⟩
  · exact absurd e hp
  · refine ⟨F', F, f', f, lo', lo, a, b, ?_, ?_, h1, h2, h3, h4, h5⟩
    · cases s'; dsimp only at e1 e3; subst e1; subst e3; rfl
    · cases s; dsimp only at e2 e4; subst e2; subst e4; rfl
theorem ck_pop_nil (h : f.high = lo.length) : pop (ck F f lo []) = if f.dead then .ok (-1, ck F f lo []) else .error 3 := by
  unfold pop
  rw [ck_top, h, if_pos (by simp)]
theorem ck_pop_cons (h : f.high = lo.length) (t : Int) : pop (ck F f lo (t :: a)) = .ok (t, ck F f lo a) := by
  unfold pop
  rw [ck_top, h, if_neg (by simp; omega)]
  have e : lo ++ (t :: a).reverse = (lo ++ a.reverse) ++ [t] := by simp
  show Except.ok ((lo ++ (t :: a).reverse).getD _ 0, (⟨(lo ++ (t :: a).reverse).take _, F ++ [f]⟩ : Ck)) = _
  have e2 : (lo ++ (t :: a).reverse).length = (lo ++ a.reverse).length + 1 := by rw [e, List.length_append]; rfl
  have e3 : ((ck F f lo (t :: a)).st.length - 1) = (lo ++ a.reverse).length := by
    show (lo ++ (t :: a).reverse).length - 1 = _
    rw [e2]; omega
  rw [e3, e, List.take_left', List.getD_eq_getElem?_getD, List.getElem?_append_right (Nat.le_refl _), Nat.sub_self]
  · rfl
  · rfl
/-- what is taken -/
theorem pop_rel (h : Pair F' F f' f lo' lo a b) {u : Int} (hp : pop (ck F f lo b) = .ok (u, s1)) : ∃ t a1 b1, pop (ck F' f' lo' a) = .ok (t, ck F' f' lo' a1) ∧ s1 = ck F f lo b1 ∧ Le t u ∧ Pair F' F f' f lo' lo a1 b1 := by
  cases b with
  | nil =>
    rw [ck_pop_nil h.h2] at hp
    split at hp
    · rename_i hd
      cases hp
      obtain rfl := h.sg.out
      exact ⟨-1, [], [], by rw [ck_pop_nil h.h1, if_pos (h.fr.dead hd)], rfl, by decide, h⟩
    · cases hp
  | cons v b =>
    rw [ck_pop_cons h.h2] at hp
    cases hp
    cases a with
    | nil =>
      have hs := h.sg
      cases hs with
      | more hd ht hs =>
        exact ⟨-1, [], b, by rw [ck_pop_nil h.h1, if_pos hd], rfl, le_any ht, h.rel, h.h1, h.h2, h.fr, hs⟩
    | cons t a =>
      have hs := h.sg
      cases hs with
      | cons hl hs => exact ⟨t, a, b, ck_pop_cons h.h1 t, rfl, hl, h.rel, h.h1, h.h2, h.fr, hs⟩
theorem ck_len (F : List Fr) (f : Fr) (lo a : List Int) : (ck F f lo a).st.length = lo.length + a.length := by simp
theorem push_rel (h : Pair F' F f' f lo' lo a b) {t u : Int} (hl : Le t u) (hp : push u (ck F f lo b) = .ok s1) : push t (ck F' f' lo' a) = .ok (ck F' f' lo' (t :: a)) ∧ s1 = ck F f lo (u :: b) ∧ Pair F' F f' f lo' lo (t :: a) (u :: b) := by
  have h1 := h.rel.len.2
  have h2 := h.sg.len
  unfold push at hp ⊢
  rw [ck_len] at hp ⊢
  split at hp
  · cases hp
  · cases hp
    rw [if_neg (by omega)]
    refine ⟨?_, ?_, h.rel, h.h1, h.h2, h.fr, .cons hl h.sg⟩ <;> simp
theorem flows_four {u u9 : Int} (h : flows u u9 = true) : right u = true ∧ right u9 = true := by
  unfold flows at h
  simp only [Bool.and_eq_true] at h
  exact ⟨h.1.1.1, h.1.1.2⟩
theorem le_flows {t u u9 : Int} (h : Le t u) (hf : u = -1 ∨ flows u u9 = true) : t = -1 ∨ flows t u9 = true := by
  rcases hf with rfl | hf
  · left
    have : ∀ p ∈ leP, p.2 = -1 → p.1 = -1 := by decide
    exact this _ h rfl
  · have h2 := (flows_four hf).2
    have key : ∀ v ∈ [(0 : Int), 1, 2, 3], ∀ p ∈ leP, flows p.2 v = true → p.1 = -1 ∨ flows p.1 v = true := by decide
    refine key u9 ?_ _ h hf
    rcases right_four h2 with rfl | rfl | rfl | rfl <;> simp
theorem want_rel (h : Pair F' F f' f lo' lo a b) {u9 : Int} (hp : want u9 (ck F f lo b) = .ok s1) : ∃ a1 b1, want u9 (ck F' f' lo' a) = .ok (ck F' f' lo' a1) ∧ s1 = ck F f lo b1 ∧ Pair F' F f' f lo' lo a1 b1 := by
  unfold want at hp ⊢
  split at hp
  · cases hp
  · rename_i u s2 hq
    obtain ⟨t, a1, b1, p1, p2, p3, p4⟩ := pop_rel h hq
    split at hp
    · rename_i hc
      cases hp
      rw [p1]
      dsimp only
      rw [if_pos (le_flows p3 hc)]
      exact ⟨a1, b1, rfl, p2, p4⟩
    · cases hp
theorem take_rel (h : Pair F' F f' f lo' lo a b) {u9 : Int} (hp : take u9 (ck F f lo b) = .ok s1) : ∃ a1 b1, take u9 (ck F' f' lo' a) = .ok (ck F' f' lo' a1) ∧ s1 = ck F f lo b1 ∧ Pair F' F f' f lo' lo a1 b1 := by
  unfold take at hp ⊢
  by_cases ht : u9 = -1
  · rw [if_pos ht] at hp ⊢
    cases hp
    exact ⟨a, b, rfl, rfl, h⟩
  · rw [if_neg ht] at hp ⊢
    exact want_rel h hp
theorem give_rel (h : Pair F' F f' f lo' lo a b) {t : Int} (ht : Ty t) (hp : give t (ck F f lo b) = .ok s1) : ∃ a1 b1, give t (ck F' f' lo' a) = .ok (ck F' f' lo' a1) ∧ s1 = ck F f lo b1 ∧ Pair F' F f' f lo' lo a1 b1 := by
  unfold give at hp ⊢
  by_cases hm : t = -1
  · rw [if_pos hm] at hp ⊢
    cases hp
    exact ⟨a, b, rfl, rfl, h⟩
  · rw [if_neg hm] at hp ⊢
    obtain ⟨p1, p2, p3⟩ := push_rel h (le_refl ht) hp
    exact ⟨_, _, p1, p2, p3⟩
theorem die_rel (h : Pair F' F f' f lo' lo a b) : die (ck F' f' lo' a) = ck F' { f' with dead := true } lo' [] ∧ die (ck F f lo b) = ck F { f with dead := true } lo [] ∧ Pair F' F { f' with dead := true } { f with dead := true } lo' lo [] [] :=
  ⟨ck_die _ _ _ _ h.h1, ck_die _ _ _ _ h.h2, h.rel, h.h1, h.h2, ⟨h.fr.op, h.fr.brings, h.fr.other, fun _ => rfl, h.fr.ty⟩, .nil⟩
theorem taken_rel (h : Pair F' F f' f lo' lo a b) {d t : Int} (hd : 0 ≤ d) (hp : taken d (ck F f lo b) = .ok t) : taken d (ck F' f' lo' a) = .ok t ∧ Ty t := by
  have hl := h.relC.len.1
  have ha := h.relC.at
  unfold taken at hp ⊢
  rw [hl]
  split at hp
  · rename_i hlt
    rw [if_pos hlt, (ha _).1, (ha _).2.1]
    split at hp
    · rename_i h3
      cases hp
      rw [if_pos h3]
      exact ⟨rfl, by decide, by decide⟩
    · rename_i h3
      cases hp
      rw [if_neg h3]
      exact ⟨rfl, (ha _).2.2 (by omega)⟩
  · cases hp
theorem close_rel (h : Pair F' F f' f lo' lo a b) (hp : close (ck F f lo b) = .ok s1) : close (ck F' f' lo' a) = .ok (ck F' f' lo' []) ∧ s1 = ck F f lo [] ∧ Pair F' F f' f lo' lo [] [] := by
  unfold close at hp ⊢
  rw [ck_top] at hp ⊢
  split at hp
  · cases hp
  · rename_i s2 hq
    obtain ⟨a1, b1, p1, p2, p3⟩ := take_rel h hq
    subst p2
    rw [ck_top, ck_len] at hp
    split at hp
    · rename_i he
      cases hp
      have hb : b1 = [] := List.eq_nil_of_length_eq_zero (by have := p3.h2; omega)
      subst hb
      obtain rfl := p3.sg.out
      rw [h.fr.brings, p1]
      dsimp only
      rw [ck_top, ck_len, p3.h1, if_pos (by simp)]
      exact ⟨rfl, rfl, p3⟩
    · cases hp
end
def mixOk (p q : Int × Int) : Bool := match mixT p.2 q.2 with
  | .error _ => true
  | .ok t => match mixT p.1 q.1 with
    | .error _ => false
    | .ok t' => decide ((t', t) ∈ leP)
theorem mix_all : ∀ p ∈ leP, ∀ q ∈ leP, mixOk p q = true := by decide
theorem mix_rel {a' a b' b t : Int} (ha : Le a' a) (hb : Le b' b) (h : mixT a b = .ok t) : ∃ t', mixT a' b' = .ok t' ∧ Le t' t := by
  have hq := mix_all _ ha _ hb
  unfold mixOk at hq
  dsimp only at hq
  rw [h] at hq
  dsimp only at hq
  split at hq
  · cases hq
  · rename_i t' ht
    exact ⟨t', ht, of_decide_eq_true hq⟩
theorem tint_rel : ∀ p ∈ leP, ∀ q ∈ leP, (p.2 = -1 ∨ wide p.2 = false) → (tintT p.1 q.1, tintT p.2 q.2) ∈ leP := by decide
theorem how_rel : ∀ p ∈ leP, (p.2 = -1 ∨ wide p.2 = false) → (p.1 = -1 ∨ wide p.1 = false) := by decide
theorem le_wide : ∀ p ∈ leP, p.1 ≠ -1 → p.2 ≠ -1 ∧ wide p.1 = wide p.2 ∧ (secret p.1 = true → secret p.2 = true) := by decide
theorem le_ofL (w r' r : Bool) (h : r' = true → r = true) : Le (ofL w r') (ofL w r) := by
  cases w <;> cases r' <;> cases r <;> first | decide | exact absurd (h rfl) (by decide)
theorem class_rel : ∀ p ∈ leP, ∀ c : Bool, ((if p.1 ≠ -1 then ofL (wide p.1) c else p.1), (if p.2 ≠ -1 then ofL (wide p.2) c else p.2)) ∈ leP := by decide
section
variable {F' F : List Fr} {f' f : Fr} {lo' lo a b : List Int} {s' s s1 : Ck}
theorem choose_rel (h : Pair F' F f' f lo' lo a b) (hp : choose (ck F f lo b) = .ok s1) : ∃ a1 b1, choose (ck F' f' lo' a) = .ok (ck F' f' lo' a1) ∧ s1 = ck F f lo b1 ∧ Pair F' F f' f lo' lo a1 b1 := by
  unfold choose at hp ⊢
  split at hp
  · cases hp
  · rename_i how s2 h2
    obtain ⟨t2, a2, b2, p2, q2, l2, r2⟩ := pop_rel h h2
    subst q2
    split at hp
    · rename_i hhow
      split at hp
      · cases hp
      · rename_i u3 s3 h3
        obtain ⟨t3, a3, b3, p3, q3, l3, r3⟩ := pop_rel r2 h3
        subst q3
        split at hp
        · cases hp
        · rename_i u4 s4 h4
          obtain ⟨t4, a4, b4, p4, q4, l4, r4⟩ := pop_rel r3 h4
          subst q4
          split at hp
          · cases hp
          · rename_i t ht
            obtain ⟨t', m1, m2⟩ := mix_rel l4 l3 ht
            obtain ⟨k1, k2, k3⟩ := push_rel r4 (tint_rel _ l2 _ m2 hhow) hp
            rw [p2]
            dsimp only
            rw [if_pos (how_rel _ l2 hhow), p3]
            dsimp only
            rw [p4]
            dsimp only
            rw [m1]
            dsimp only
            exact ⟨_, _, k1, k2, k3⟩
    · cases hp
theorem reckonN_rel (w pub : Bool) : ∀ (k : Nat) (r' r : Bool) (a b : List Int) (s1 : Ck) (q : Bool), (r' = true → r = true) → Pair F' F f' f lo' lo a b → reckonN w pub k r (ck F f lo b) = .ok (q, s1) → ∃ q' a1 b1, reckonN w pub k r' (ck F' f' lo' a) = .ok (q', ck F' f' lo' a1) ∧ s1 = ck F f lo b1 ∧ (q' = true → q = true) ∧ Pair F' F f' f lo' lo a1 b1 := by
  intro k
  induction k with
  | zero =>
    intro r' r a b s1 q hr h hp
    cases hp
    exact ⟨r', a, b, rfl, rfl, hr, h⟩
  | succ k ih =>
    intro r' r a b s1 q hr h hp
    unfold reckonN at hp ⊢
    split at hp
    · cases hp
    · rename_i u s2 h2
      obtain ⟨t, a2, b2, p2, q2, l2, r2⟩ := pop_rel h h2
      subst q2
      rw [p2]
      dsimp only
      split at hp
      · rename_i hu
        subst hu
        have ht : t = -1 := by
          by_cases ht : t = -1
          · exact ht
          · exact absurd rfl (le_wide _ l2 ht).1
        rw [if_pos ht]
        exact ih _ _ _ _ _ _ hr r2 hp
      · rename_i hu
        split at hp
        · rename_i hc
          by_cases ht : t = -1
          · rw [if_pos ht]
            exact ih _ _ _ _ _ _ (fun e => by rw [hr e]; rfl) r2 hp
          · obtain ⟨_, k2, k3⟩ := le_wide _ l2 ht
            dsimp only at k2 k3
            have hc2 : ((wide t == w) && !(pub && secret t)) = true := by
              rw [k2]
              simp only [Bool.and_eq_true, Bool.not_eq_true', Bool.and_eq_false_iff] at hc ⊢
              refine ⟨hc.1, ?_⟩
              rcases hc.2 with e | e
              · exact .inl e
              · right
                cases hst : secret t
                · rfl
                · rw [k3 hst] at e
                  cases e
            rw [if_neg ht, if_pos hc2]
            refine ih _ _ _ _ _ _ (fun e => ?_) r2 hp
            rw [Bool.or_eq_true] at e ⊢
            rcases e with e | e
            · exact .inl (hr e)
            · exact .inr (k3 e)
        · cases hp
theorem reckon_rel (h : Pair F' F f' f lo' lo a b) {op : Int} (hp : reckon op (ck F f lo b) = .ok s1) : ∃ a1 b1, reckon op (ck F' f' lo' a) = .ok (ck F' f' lo' a1) ∧ s1 = ck F f lo b1 ∧ Pair F' F f' f lo' lo a1 b1 := by
  unfold reckon at hp ⊢
  split at hp
  · rename_i ho
    rw [if_pos ho]
    split at hp
    · cases hp
    · rename_i q s2 h2
      obtain ⟨q', a2, b2, p2, e2, l2, r2⟩ := reckonN_rel _ _ _ _ _ _ _ _ _ (fun e => e) h h2
      subst e2
      obtain ⟨k1, k2, k3⟩ := push_rel r2 (le_ofL _ _ _ l2) hp
      rw [p2]
      dsimp only
      exact ⟨_, _, k1, k2, k3⟩
  · cases hp
theorem wants_rel : ∀ (l : List Int) (a b : List Int) (s1 : Ck), Pair F' F f' f lo' lo a b → wants l (ck F f lo b) = .ok s1 → ∃ a1 b1, wants l (ck F' f' lo' a) = .ok (ck F' f' lo' a1) ∧ s1 = ck F f lo b1 ∧ Pair F' F f' f lo' lo a1 b1 := by
  intro l
  induction l with
  | nil => intro a b s1 h hp; cases hp; exact ⟨a, b, rfl, rfl, h⟩
  | cons t l ih =>
    intro a b s1 h hp
    unfold wants at hp ⊢
    split at hp
    · cases hp
    · rename_i s2 h2
      obtain ⟨a2, b2, p2, e2, r2⟩ := want_rel h h2
      subst e2
      rw [p2]
      dsimp only
      exact ih _ _ _ r2 hp
theorem callT_rel {E : Env} (hE : EFine E) (h : Pair F' F f' f lo' lo a b) {n : Int} (hp : callT E n (ck F f lo b) = .ok s1) : ∃ a1 b1, callT E n (ck F' f' lo' a) = .ok (ck F' f' lo' a1) ∧ s1 = ck F f lo b1 ∧ Pair F' F f' f lo' lo a1 b1 := by
  unfold callT at hp ⊢
  split at hp
  · rename_i hc
    rw [if_pos hc]
    split at hp
    · cases hp
    · rename_i s2 h2
      obtain ⟨a2, b2, p2, e2, r2⟩ := wants_rel _ _ _ _ h h2
      subst e2
      obtain ⟨a3, b3, p3, e3, r3⟩ := give_rel r2 (firstL_ty (callee_right hE.mod n).2) hp
      rw [p2]
      dsimp only
      exact ⟨_, _, p3, e3, r3⟩
  · cases hp
theorem bnd_eq {α β : Type} {r : Except Int α} {a : α} (h : r = .ok a) (g : α → Except Int β) : bnd r g = g a := by rw [h]; rfl
theorem open_rel (h : Pair F' F f' f lo' lo a b) {x : T3} (hx : 0 ≤ x.2.2 ∧ x.2.2 ≤ 4) : RelC (openT x (ck F' f' lo' a)) (openT x (ck F f lo b)) := by
  have h1 := h.relC
  have h2 := Rel.snoc (a := []) (b := []) (f' := ⟨x.1, x.2.2 - 1, (ck F' f' lo' a).st.length, false, (ck F' f' lo' a).top.dead || (ck F' f' lo' a).top.asleep, false⟩) (f := ⟨x.1, x.2.2 - 1, (ck F f lo b).st.length, false, (ck F f lo b).top.dead || (ck F f lo b).top.asleep, false⟩) h1 rfl rfl ⟨rfl, rfl, rfl, fun h => h, by show Ty (x.2.2 - 1); constructor <;> omega⟩ .nil
  simpa [openT, RelC] using h2
theorem endT_rel (h : Pair F' F f' f lo' lo [] []) (hp : endT (ck F f lo []) = .ok s1) : ∃ s1', endT (ck F' f' lo' []) = .ok s1' ∧ RelC s1' s1 := by
  have hl := h.rel.len.1
  unfold endT at hp ⊢
  rw [ck_top] at hp ⊢
  rw [h.fr.op, h.fr.other, h.fr.brings]
  have e1 : ∀ (G : List Fr) (g : Fr) (m : List Int), (⟨(ck G g m []).st, (ck G g m []).fr.take ((ck G g m []).fr.length - 1)⟩ : Ck) = ⟨m, G⟩ := by
    intro G g m
    simp
  have e2 : ∀ (G : List Fr) (g : Fr) (m : List Int), (ck G g m []).fr.length - 1 = G.length := by
    intro G g m
    simp
  rw [e1, e2] at hp ⊢
  split at hp
  · rename_i hc
    rw [if_pos hc]
    split at hp
    · rename_i hpos
      have hne : (⟨lo, F⟩ : Ck).fr ≠ [] := by
        intro e
        have e : F = [] := e
        rw [e] at hpos
        simp at hpos
      rw [if_pos (by omega)]
      obtain ⟨G', G, g', g, m', m, a2, b2, q1, q2, q3⟩ := RelC.pair (s' := ⟨lo', F'⟩) (s := ⟨lo, F⟩) h.rel hne
      rw [q1]
      rw [q2] at hp
      obtain ⟨a3, b3, p3, e3, r3⟩ := give_rel q3 h.fr.ty hp
      exact ⟨_, p3, by rw [e3]; exact r3.relC⟩
    · rename_i hpos
      cases hp
      rw [if_neg (by omega)]
      exact ⟨_, rfl, h.rel⟩
  · cases hp
/-- what is right over what is alive is right over what is dead -/
theorem see_rel {E : Env} (hE : EFine E) {x : T3} (hx : XOk x) (h : Pair F' F f' f lo' lo a b) (hp : see E x (ck F f lo b) = .ok s1) : ∃ s1', see E x (ck F' f' lo' a) = .ok s1' ∧ RelC s1' s1 := by
  have k : ∀ {r' : Except Int Ck} {s2 : Ck}, (∃ a1 b1, r' = .ok (ck F' f' lo' a1) ∧ s2 = ck F f lo b1 ∧ Pair F' F f' f lo' lo a1 b1) → ∃ s1', r' = .ok s1' ∧ RelC s1' s2 := by
    rintro r' s2 ⟨a1, b1, p1, p2, p3⟩
    exact ⟨_, p1, by rw [p2]; exact p3.relC⟩
  have dies : ∀ {a1 b1 : List Int}, Pair F' F f' f lo' lo a1 b1 → RelC (die (ck F' f' lo' a1)) (die (ck F f lo b1)) := by
    intro a1 b1 hq
    obtain ⟨d1, d2, d3⟩ := die_rel hq
    rw [d1, d2]
    exact d3.relC
  unfold see at hp ⊢
  by_cases h1 : x.1 = 1
  · rw [if_pos h1] at hp ⊢
    cases hp
    exact ⟨_, rfl, h.relC⟩
  rw [if_neg h1] at hp ⊢
  by_cases h0 : x.1 = 0
  · rw [if_pos h0] at hp ⊢
    cases hp
    exact ⟨_, rfl, dies h⟩
  rw [if_neg h0] at hp ⊢
  by_cases h4 : x.1 = 4
  · rw [if_pos h4] at hp ⊢
    obtain ⟨s2, h2, h3⟩ := bnd_ok hp
    cases h3
    obtain ⟨a2, b2, p2, e2, r2⟩ := want_rel h h2
    rw [bnd_eq p2, e2]
    exact ⟨_, rfl, open_rel r2 (hx.blk (by omega))⟩
  rw [if_neg h4] at hp ⊢
  by_cases h23 : x.1 = 2 ∨ x.1 = 3
  · rw [if_pos h23] at hp ⊢
    cases hp
    exact ⟨_, rfl, open_rel h (hx.blk (by omega))⟩
  rw [if_neg h23] at hp ⊢
  by_cases h5 : x.1 = 5
  · rw [if_pos h5] at hp ⊢
    obtain ⟨s2, h2, h3⟩ := bnd_ok hp
    cases h3
    obtain ⟨p2, e2, r2⟩ := close_rel h h2
    rw [bnd_eq p2, e2]
    refine ⟨_, rfl, ?_⟩
    unfold elseT
    rw [ck_top, ck_top, ck_setTop, ck_setTop]
    exact Pair.relC ⟨r2.rel, r2.h1, r2.h2, ⟨r2.fr.op, r2.fr.brings, rfl, fun e => (by cases e), r2.fr.ty⟩, .nil⟩
  rw [if_neg h5] at hp ⊢
  by_cases h11 : x.1 = 11
  · rw [if_pos h11] at hp ⊢
    obtain ⟨s2, h2, h3⟩ := bnd_ok hp
    obtain ⟨p2, e2, r2⟩ := close_rel h h2
    rw [e2] at h3
    rw [bnd_eq p2]
    exact endT_rel r2 h3
  rw [if_neg h11] at hp ⊢
  by_cases h12 : x.1 = 12
  · rw [if_pos h12] at hp ⊢
    obtain ⟨t, h2, h3⟩ := bnd_ok hp
    obtain ⟨s2, h4, h5⟩ := bnd_ok h3
    cases h5
    rw [bnd_eq (taken_rel h (hx.idx (by omega)) h2).1]
    obtain ⟨a2, b2, p2, e2, r2⟩ := take_rel h h4
    rw [bnd_eq p2, e2]
    exact ⟨_, rfl, dies r2⟩
  rw [if_neg h12] at hp ⊢
  by_cases h13 : x.1 = 13
  · rw [if_pos h13] at hp ⊢
    obtain ⟨s2, h2, h3⟩ := bnd_ok hp
    obtain ⟨t, h4, h5⟩ := bnd_ok h3
    obtain ⟨s3, h6, h7⟩ := bnd_ok h5
    obtain ⟨a2, b2, p2, e2, r2⟩ := want_rel h h2
    subst e2
    obtain ⟨t1, t2⟩ := taken_rel r2 (hx.idx (by omega)) h4
    obtain ⟨a3, b3, p3, e3, r3⟩ := take_rel r2 h6
    subst e3
    rw [bnd_eq p2, bnd_eq t1, bnd_eq p3]
    exact k (give_rel r3 t2 h7)
  rw [if_neg h13] at hp ⊢
  by_cases h15 : x.1 = 15
  · rw [if_pos h15] at hp ⊢
    obtain ⟨s2, h2, h3⟩ := bnd_ok hp
    cases h3
    obtain ⟨a2, b2, p2, e2, r2⟩ := take_rel h h2
    rw [bnd_eq p2, e2]
    exact ⟨_, rfl, dies r2⟩
  rw [if_neg h15] at hp ⊢
  by_cases h16 : x.1 = 16
  · rw [if_pos h16] at hp ⊢
    exact k (callT_rel hE h hp)
  rw [if_neg h16] at hp ⊢
  by_cases h26 : x.1 = 26
  · rw [if_pos h26] at hp ⊢
    obtain ⟨r, h2, h3⟩ := bnd_ok hp
    cases h3
    obtain ⟨u, s2⟩ := r
    obtain ⟨t2, a2, b2, p2, e2, l2, r2⟩ := pop_rel h h2
    rw [bnd_eq p2]
    dsimp only
    rw [e2]
    exact ⟨_, rfl, r2.relC⟩
  rw [if_neg h26] at hp ⊢
  by_cases h27 : x.1 = 27
  · rw [if_pos h27] at hp ⊢
    exact k (choose_rel h hp)
  rw [if_neg h27] at hp ⊢
  by_cases h32 : x.1 = 32 ∨ x.1 = 35
  · rw [if_pos h32] at hp ⊢
    obtain ⟨t, h2, h3⟩ := bnd_ok hp
    rw [bnd_eq h2]
    obtain ⟨k1, k2, k3⟩ := push_rel h (le_refl (right_ty (cellT_right hE (hx.idx (by omega)) h2))) h3
    exact k ⟨_, _, k1, k2, k3⟩
  rw [if_neg h32] at hp ⊢
  by_cases h33 : x.1 = 33 ∨ x.1 = 36
  · rw [if_pos h33] at hp ⊢
    obtain ⟨t, h2, h3⟩ := bnd_ok hp
    rw [bnd_eq h2]
    exact k (want_rel h h3)
  rw [if_neg h33] at hp ⊢
  by_cases h34 : x.1 = 34
  · rw [if_pos h34] at hp ⊢
    obtain ⟨t, h2, h3⟩ := bnd_ok hp
    obtain ⟨s2, h4, h5⟩ := bnd_ok h3
    obtain ⟨a2, b2, p2, e2, r2⟩ := want_rel h h4
    subst e2
    rw [bnd_eq h2, bnd_eq p2]
    obtain ⟨k1, k2, k3⟩ := push_rel r2 (le_refl (right_ty (cellT_right hE (hx.idx (by omega)) h2))) h5
    exact k ⟨_, _, k1, k2, k3⟩
  rw [if_neg h34] at hp ⊢
  by_cases h40 : x.1 = 40 ∨ x.1 = 41
  · rw [if_pos h40] at hp ⊢
    split at hp
    · rename_i hm
      rw [if_pos hm]
      obtain ⟨s2, h2, h3⟩ := bnd_ok hp
      obtain ⟨a2, b2, p2, e2, r2⟩ := want_rel h h2
      subst e2
      rw [bnd_eq p2]
      obtain ⟨k1, k2, k3⟩ := push_rel r2 (le_refl (ofL_ty _ _)) h3
      exact k ⟨_, _, k1, k2, k3⟩
    · cases hp
  rw [if_neg h40] at hp ⊢
  by_cases h54 : x.1 = 54 ∨ x.1 = 55
  · rw [if_pos h54] at hp ⊢
    split at hp
    · rename_i hm
      rw [if_pos hm]
      obtain ⟨s2, h2, h3⟩ := bnd_ok hp
      obtain ⟨a2, b2, p2, e2, r2⟩ := want_rel h h2
      subst e2
      rw [bnd_eq p2]
      exact k (want_rel r2 h3)
    · cases hp
  rw [if_neg h54] at hp ⊢
  by_cases h65 : x.1 = 65 ∨ x.1 = 66
  · rw [if_pos h65] at hp ⊢
    obtain ⟨k1, k2, k3⟩ := push_rel h (le_refl (ofL_ty _ _)) hp
    exact k ⟨_, _, k1, k2, k3⟩
  rw [if_neg h65] at hp ⊢
  by_cases h240 : x.1 = 240 ∨ x.1 = 241
  · rw [if_pos h240] at hp ⊢
    split at hp
    · cases hp
    · rename_i hm
      rw [if_neg hm]
      obtain ⟨r, h2, h3⟩ := bnd_ok hp
      obtain ⟨u, s2⟩ := r
      obtain ⟨t2, a2, b2, p2, e2, l2, r2⟩ := pop_rel h h2
      dsimp only at h3
      subst e2
      rw [bnd_eq p2]
      dsimp only
      obtain ⟨k1, k2, k3⟩ := push_rel r2 (class_rel _ l2 (x.1 == 240)) h3
      exact k ⟨_, _, k1, k2, k3⟩
  rw [if_neg h240] at hp ⊢
  exact k (reckon_rel h hp)
end
/-- the same instructions over what is dead -/
theorem go_rel {E : Env} (hE : EFine E) : ∀ (l : List T3) (op : List (Bool × Bool)) (deep : Bool) (s' s : Ck) (r : List Int × Ck), (∀ x ∈ l, XOk x) → errN l op deep = 0 → Wf s → s.fr.length = op.length + 1 → RelC s' s → go E l s = some r → ∃ r', go E l s' = some r' := by
  intro l
  induction l with
  | nil => intro op deep s' s r _ _ _ _ _ h; exact ⟨_, rfl⟩
  | cons x l ih =>
    intro op deep s' s r hx he hw hl hr h
    obtain ⟨s1, o, h1, h2, h3⟩ := go_cons.1 h
    have hne : s.fr ≠ [] := by intro e; rw [e] at hl; simp at hl
    have hq := hr.pair hne
    obtain ⟨F', F, f', f, lo', lo, a, b, q1, q2, q3⟩ := hq
    have hs1 : see E x (ck F f lo b) = .ok s1 := by rw [← q2]; exact h1
    obtain ⟨s1', p1, p2⟩ := see_rel hE (hx x (by simp)) q3 hs1
    rw [← q1] at p1
    cases l with
    | nil => exact ⟨([awake s'], s1'), go_cons.2 ⟨s1', [], p1, rfl, rfl⟩⟩
    | cons y l =>
      obtain ⟨k1, op1, deep1, k2, k3⟩ := errN_step he (by simp)
      obtain ⟨w1, w2⟩ := see_wf hE (hx x (by simp)) hw h1 (fun e => by
        have := List.length_pos_iff.2 (k1 e)
        omega)
      rw [hl] at w2
      obtain ⟨r', hr'⟩ := ih op1 deep1 s1' s1 _ (fun z hz => hx z (by simp [hz])) k2 w1 (w2.trans k3.symm) p2 h2
      exact ⟨(awake s' :: r'.1, r'.2), go_cons.2 ⟨s1', r'.1, p1, hr', rfl⟩⟩
/-- a check as it is begun -/
theorem start_rel {E : Env} (hr : Ty E.result) : RelC (startOf E) (startOf E) := by
  have h := Rel.snoc (a := []) (b := []) (f' := ⟨2, E.result, 0, false, false, false⟩) (f := ⟨2, E.result, 0, false, false, false⟩) Rel.nil rfl rfl ⟨rfl, rfl, rfl, fun h => h, hr⟩ .nil
  simpa [startOf, RelC] using h
/-- what holds behind the first instructions: related to itself, its blocks as many as are open -/
theorem go_self {E : Env} (hE : EFine E) : ∀ (l l2 : List T3) (op : List (Bool × Bool)) (deep : Bool) (s : Ck) (r : List Int × Ck), (∀ x ∈ l, XOk x) → l2 ≠ [] → errN (l ++ l2) op deep = 0 → Wf s → s.fr.length = op.length + 1 → RelC s s → go E l s = some r → ∃ op1 deep1, errN l2 op1 deep1 = 0 ∧ Wf r.2 ∧ r.2.fr.length = op1.length + 1 ∧ RelC r.2 r.2 := by
  intro l
  induction l with
  | nil => intro l2 op deep s r _ _ he hw hl hr h; cases h; exact ⟨op, deep, he, hw, hl, hr⟩
  | cons x l ih =>
    intro l2 op deep s r hx h2 he hw hl hr h
    obtain ⟨s1, o, h1, h3, h4⟩ := go_cons.1 h
    have hne : s.fr ≠ [] := by intro e; rw [e] at hl; simp at hl
    obtain ⟨F', F, f', f, lo', lo, a, b, q1, q2, q3⟩ := hr.pair hne
    have hs1 : see E x (ck F f lo b) = .ok s1 := by rw [← q2]; exact h1
    obtain ⟨s1', p1, p2⟩ := see_rel hE (hx x (by simp)) q3 hs1
    rw [← q1, h1] at p1
    cases p1
    obtain ⟨k1, op1, deep1, k2, k3⟩ := errN_step (show errN (x :: (l ++ l2)) op deep = 0 from he) (by simp [h2])
    obtain ⟨w1, w2⟩ := see_wf hE (hx x (by simp)) hw h1 (fun e => by
      have := List.length_pos_iff.2 (k1 e)
      omega)
    rw [hl] at w2
    exact ih l2 op1 deep1 s1 (o, r.2) (fun z hz => hx z (by simp [hz])) h2 k2 w1 (w2.trans k3.symm) p2 h3
/-- what is alive may die -/
theorem self_die {s : Ck} (h : RelC s s) (hne : s.fr ≠ []) : RelC (die s) s := by
  obtain ⟨F', F, f', f, lo', lo, a, b, q1, q2, q3⟩ := h.pair hne
  obtain ⟨d1, d2, d3⟩ := die_rel q3
  have hr : RelC (die (ck F' f' lo' a)) (ck F f lo b) := by
    rw [d1]
    exact Pair.relC ⟨q3.rel, q3.h1, q3.h2, ⟨q3.fr.op, q3.fr.brings, q3.fr.other, fun _ => rfl, q3.fr.ty⟩, Seg.dead q3.sg.right⟩
  rw [← q1, ← q2] at hr
  exact hr
theorem die_awake {s : Ck} (hne : s.fr ≠ []) : awake (die s) = -1 := by
  unfold awake
  have hp : 0 < s.fr.length := List.length_pos_iff.2 hne
  have : (die s).top.dead = true := by
    unfold die Ck.top
    dsimp only
    rw [List.length_set, getD_set _ _ _ _ _ (by omega), if_pos rfl]
  rw [this]
  rfl
theorem dead_valid {M : Md} (C : MCan M) {k a : Nat} (hk : k < M.funcs.length) (hv : validT M = none) (h1 : (M.funcs.getD k zF).2.2.2.length < 200) (ha : a < (M.funcs.getD k zF).2.2.2.length) :
    ∃ o1 t o2, o1.length = a ∧ (o1 ++ t :: -1 :: o2).length = (M.funcs.getD k zF).2.2.2.length + 1 ∧ heightsT (withL M k (insL (M.funcs.getD k zF).2.2.2 a (0, 0, 0))) k = .ok (o1 ++ t :: -1 :: o2) ∧ validT (withL M k (insL (M.funcs.getD k zF).2.2.2 a (0, 0, 0))) = none := by
  obtain ⟨_, hr, hc, he, hne, g, s, hg, hgo⟩ := valid_body hv hk
  obtain ⟨hE, hX⟩ := fn_env hv C hk
  obtain ⟨L, hL⟩ : ∃ L, (M.funcs.getD k zF).2.2.2 = L := ⟨_, rfl⟩
  rw [hL] at hr hc he hne hgo h1 ha hX ⊢
  obtain ⟨c1, c2, c3⟩ := insL_ok ha plain_dead (by decide) hr hc he
  have hsp : L.take a ++ L.drop a = L := List.take_append_drop a L
  have hd : L.drop a ≠ [] := by
    intro e
    have := congrArg List.length e
    rw [List.length_drop] at this
    simp at this
    omega
  rw [← hsp] at hgo he
  obtain ⟨o1, s1, o2, g1, g2, g3⟩ := (go_append _ _ _ _ _).1 hgo
  dsimp only at g2 g3
  obtain ⟨op1, deep1, e1, e2, e3, e4⟩ := go_self hE _ _ _ _ _ _ (fun x hx => hX x (List.mem_of_mem_take hx)) hd he (start_wf _ hE.res) rfl (start_rel hE.res) g1
  dsimp only at e2 e3 e4
  have hne1 : s1.fr ≠ [] := by intro e; rw [e] at e3; simp at e3
  obtain ⟨r', hr'⟩ := go_rel hE _ _ _ (die s1) s1 _ (fun x hx => hX x (List.mem_of_mem_drop hx)) e1 e2 e3 (self_die e4 hne1) g2
  have hn : see (envOf M (M.funcs.getD k zF)) (0, 0, 0) s1 = .ok (die s1) := rfl
  rw [List.drop_eq_getElem_cons ha] at hr'
  obtain ⟨s2, o3, g4, g5, g6⟩ := go_cons.1 hr'
  rw [die_awake hne1] at g6
  have hgo2 : go (envOf M (M.funcs.getD k zF)) (insL L a (0, 0, 0)) (startOf (envOf M (M.funcs.getD k zF))) = some (o1 ++ awake s1 :: -1 :: o3, r'.2) := by
    refine (go_append _ _ _ _ _).2 ⟨o1, s1, awake s1 :: -1 :: o3, g1, ?_, rfl⟩
    refine go_cons.2 ⟨die s1, -1 :: o3, hn, ?_, rfl⟩
    rw [List.drop_eq_getElem_cons ha]
    rw [← g6]
    exact hr'
  have hlen := insL_len (x := (0, 0, 0)) (Nat.le_of_lt ha)
  obtain ⟨v1, v2⟩ := withL_valid hk hv (by omega) c1 c2 c3 hgo2
  refine ⟨o1, awake s1, o3, ?_, ?_, ?_, v1⟩
  · have := go_len _ _ _ _ g1
    dsimp only at this
    rw [this, List.length_take]
    omega
  · have := go_len _ _ _ _ hgo2
    dsimp only at this
    rw [this, hlen]
  · exact heights_ok (by omega) (by rw [withL_len]; omega) v1 (by simpa using v2)
/-- the heights behind an Unreachable, as the law looks at them -/
theorem dead_rows {M : Md} (C : MCan M) {k a : Nat} (hk : k < M.funcs.length) (hv : validT M = none) (h1 : (M.funcs.getD k zF).2.2.2.length < 200) (ha : a < (M.funcs.getD k zF).2.2.2.length) :
    ∃ gs, heightsT (withL M k (insL (M.funcs.getD k zF).2.2.2 a (0, 0, 0))) k = .ok gs ∧ gs.length = (M.funcs.getD k zF).2.2.2.length + 1 ∧ rd gs ((a : Int) + 1) = -1 ∧ validT (withL M k (insL (M.funcs.getD k zF).2.2.2 a (0, 0, 0))) = none := by
  obtain ⟨o1, t, o2, e1, e2, e3, e4⟩ := dead_valid C hk hv h1 ha
  refine ⟨_, e3, e2, ?_, e4⟩
  unfold rd
  rw [show ((a : Int) + 1).toNat = o1.length + 1 by omega, List.getD_eq_getElem?_getD, List.getElem?_append_right (by omega), show o1.length + 1 - o1.length = 1 by omega]
  rfl
theorem dead_arith {L : List T3} {gs : List Int} {p : Nat} (h1 : gs.length = L.length + 1) (h2 : p < L.length) (h3 : L.length < 200) :
    (0 : Int) ≤ (p : Int) + 1 ∧ (p : Int) + 1 < (gs.length : Int) ∧ wrap64 ((p : Int) + 1) = (p : Int) + 1 ∧ wrap64 ((L.length : Int) + 1) = (L.length : Int) + 1 ∧ ((gs.length : Int) == (L.length : Int) + 1) = true :=
  ⟨by omega, by omega, by unfold wrap64; omega, by unfold wrap64; omega, by rw [beq_iff_eq]; omega⟩
end Go.Proofs.YtjjhhmchomabeaaDoor.Valid
namespace Go.Proofs.YtjjhhmchomabeaaDoor.Valid
open Go.RowKit Go.Proofs.YtjjhhmchomabeaaDoorW.PrintWords Go.Proofs.YtjjhhmchomabeaaDoorW.PrintLast Go.Proofs.YtjjhhmchomabeaaDoor.Mem Go.Proofs.YtjjhhmchomabeaaDoor.Nest
set_option linter.unusedVariables false
set_option linter.unusedSimpArgs false

section
variable (M : Md) (h : Hd) (f a : Int) (w : World)
set_option maxHeartbeats 4000000 in
set_option maxRecDepth 100000 in
theorem ValidDead_bad (H : ModAt w h M) (C : MCan M) (hf : Can f) (ha : Can a) (hl : Laid w) {q at_ : Int} (hv : validT M = some (q, at_)) :
    Calls Tryd.prog 5 #[.agg (M.cells h), .int .i64 f, .int .i64 a] w fun e w' => e = .returned (.bool true) ∧ Below w.heap.size w w' := by
  have HM := Aside0.mk H
  have HMC := Aside0.mk C
  have HCF := Aside0.mk hf
  have HCA := Aside0.mk ha
  have HF0 := Aside0.mk (show FW w M h (w.alloc (.cells (M.cells h) 29)) from ⟨below_alloc (Below.refl _ _) (Nat.le_refl _) _, blk_new _ _⟩)
  have HL := Aside0.mk (hl.below HF0.out.bel)
  have hl3 := H.l3
  have hq3 := H.funcs.2.1
  have HV := Aside0.mk hv
  clear H C hf ha hl hv
  go_enter Tryd.func5, Tryd.ntmps5
  go_wp2_with fail
  refine (examples_calls _ HL.out).mono ?_
  rintro e w1 ⟨rfl, hb1⟩
  have HF1 := Aside0.mk (HF0.out.below hb1)
  have HL1 := Aside0.mk (HL.out.below hb1)
  have hz0 := blk_cell HF1.out.box 0
  have hz1 := blk_cell HF1.out.box 1
  have hz2 := blk_cell HF1.out.box 2
  have hz3 := blk_cell HF1.out.box 3
  have hz4 := blk_cell HF1.out.box 4
  have hz5 := blk_cell HF1.out.box 5
  have hz6 := blk_cell HF1.out.box 6
  clear hb1 HF0 HL
  go_wp2_with fail
  refine (valid_calls M h _ (HM.out.below HF1.out.bel) HMC.out).mono ?_
  rw [HV.out]
  rintro e w2 ⟨hb2, v, rfl, b, rfl, _, _⟩
  have HF2 := Aside0.mk (HF1.out.below hb2)
  clear hz0 hz1 hz2 hz3 hz4 hz5 hz6 hb2
  have hz0 := blk_cell HF2.out.box 0
  have hz1 := blk_cell HF2.out.box 1
  have hz2 := blk_cell HF2.out.box 2
  have hz3 := blk_cell HF2.out.box 3
  have hz4 := blk_cell HF2.out.box 4
  have hz5 := blk_cell HF2.out.box 5
  have hz6 := blk_cell HF2.out.box 6
  go_wp2_with fail
  go_ret
  exact ⟨rfl, HF2.out.bel⟩
set_option maxHeartbeats 4000000 in
set_option maxRecDepth 100000 in
theorem ValidDead_none (H : ModAt w h M) (C : MCan M) (hf : Can f) (ha : Can a) (hl : Laid w) (hv : validT M = none) (hn : ((M.funcs.length : Int) == 0) = true) :
    Calls Tryd.prog 5 #[.agg (M.cells h), .int .i64 f, .int .i64 a] w fun e w' => e = .returned (.bool true) ∧ Below w.heap.size w w' := by
  have HM := Aside0.mk H
  have HMC := Aside0.mk C
  have HCF := Aside0.mk hf
  have HCA := Aside0.mk ha
  have HF0 := Aside0.mk (show FW w M h (w.alloc (.cells (M.cells h) 29)) from ⟨below_alloc (Below.refl _ _) (Nat.le_refl _) _, blk_new _ _⟩)
  have HL := Aside0.mk (hl.below HF0.out.bel)
  have hl3 := H.l3
  have hq3 := H.funcs.2.1
  have HV := Aside0.mk hv
  clear H C hf ha hl hv
  go_enter Tryd.func5, Tryd.ntmps5
  go_wp2_with fail
  refine (examples_calls _ HL.out).mono ?_
  rintro e w1 ⟨rfl, hb1⟩
  have HF1 := Aside0.mk (HF0.out.below hb1)
  have HL1 := Aside0.mk (HL.out.below hb1)
  have hz0 := blk_cell HF1.out.box 0
  have hz1 := blk_cell HF1.out.box 1
  have hz2 := blk_cell HF1.out.box 2
  have hz3 := blk_cell HF1.out.box 3
  have hz4 := blk_cell HF1.out.box 4
  have hz5 := blk_cell HF1.out.box 5
  have hz6 := blk_cell HF1.out.box 6
  clear hb1 HF0 HL
  go_wp2_with fail
  refine (valid_calls M h _ (HM.out.below HF1.out.bel) HMC.out).mono ?_
  rw [HV.out]
  rintro e w2 ⟨hb2, v, rfl, rfl⟩
  have HF2 := Aside0.mk (HF1.out.below hb2)
  have HL2 := Aside0.mk (HL1.out.below hb2)
  clear hz0 hz1 hz2 hz3 hz4 hz5 hz6 hb2
  have hz0 := blk_cell HF2.out.box 0
  have hz1 := blk_cell HF2.out.box 1
  have hz2 := blk_cell HF2.out.box 2
  have hz3 := blk_cell HF2.out.box 3
  have hz4 := blk_cell HF2.out.box 4
  have hz5 := blk_cell HF2.out.box 5
  have hz6 := blk_cell HF2.out.box 6
  go_wp2_with fail
  go_ret
  exact ⟨rfl, HF2.out.bel⟩
set_option maxHeartbeats 4000000 in
set_option maxRecDepth 100000 in
theorem ValidDead_full (H : ModAt w h M) (C : MCan M) (hf : Can f) (ha : Can a) (hl : Laid w) (hv : validT M = none) (hn : 0 < M.funcs.length) (hfew : M.funcs.length ≤ 8) (hne : (M.funcs.getD (pickN f M.funcs.length) zF).2.2.2 ≠ []) (h200 : (M.funcs.getD (pickN f M.funcs.length) zF).2.2.2.length ≤ 200) (hfull : 200 ≤ (M.funcs.getD (pickN f M.funcs.length) zF).2.2.2.length) :
    Calls Tryd.prog 5 #[.agg (M.cells h), .int .i64 f, .int .i64 a] w fun e w' => e = .returned (.bool true) ∧ Below w.heap.size w w' := by
  have HM := Aside0.mk H
  have HMC := Aside0.mk C
  have HCF := Aside0.mk hf
  have HCA := Aside0.mk ha
  have HF0 := Aside0.mk (show FW w M h (w.alloc (.cells (M.cells h) 29)) from ⟨below_alloc (Below.refl _ _) (Nat.le_refl _) _, blk_new _ _⟩)
  have HL := Aside0.mk (hl.below HF0.out.bel)
  have hl3 := H.l3
  have hq3 := H.funcs.2.1
  have HV := Aside0.mk hv
  clear H C hf ha hl hv
  go_enter Tryd.func5, Tryd.ntmps5
  go_wp2_with fail
  refine (examples_calls _ HL.out).mono ?_
  rintro e w1 ⟨rfl, hb1⟩
  have HF1 := Aside0.mk (HF0.out.below hb1)
  have HL1 := Aside0.mk (HL.out.below hb1)
  have hz0 := blk_cell HF1.out.box 0
  have hz1 := blk_cell HF1.out.box 1
  have hz2 := blk_cell HF1.out.box 2
  have hz3 := blk_cell HF1.out.box 3
  have hz4 := blk_cell HF1.out.box 4
  have hz5 := blk_cell HF1.out.box 5
  have hz6 := blk_cell HF1.out.box 6
  clear hb1 HF0 HL
  go_wp2_with fail
  refine (valid_calls M h _ (HM.out.below HF1.out.bel) HMC.out).mono ?_
  rw [HV.out]
  rintro e w2 ⟨hb2, v, rfl, rfl⟩
  have HF2 := Aside0.mk (HF1.out.below hb2)
  have HL2 := Aside0.mk (HL1.out.below hb2)
  clear hz0 hz1 hz2 hz3 hz4 hz5 hz6 hb2
  have hz0 := blk_cell HF2.out.box 0
  have hz1 := blk_cell HF2.out.box 1
  have hz2 := blk_cell HF2.out.box 2
  have hz3 := blk_cell HF2.out.box 3
  have hz4 := blk_cell HF2.out.box 4
  have hz5 := blk_cell HF2.out.box 5
  have hz6 := blk_cell HF2.out.box 6
  have hnb : ((M.funcs.length : Int) == 0) = false := beq_eq_false_iff_ne.2 (by omega)
  have hkl := pick_lt (c := f) hn
  obtain ⟨k, hk⟩ : ∃ k, pickN f M.funcs.length = k := ⟨_, rfl⟩
  rw [hk] at hkl hne h200 hfull
  go_wp2_with (go_at_call 15; refine (pick_calls f M.funcs.length HCF.out hn (by omega) _).mono ?_; rintro e wq ⟨rfl, hwq⟩; subst wq; rw [hk]; refine Hold.out ?_)
  refine Hold.mk ?_
  obtain ⟨ad, B1, k1, B2, k2, hA, hx0, hx1, hx2, hx3, hk1, hk2, hC1, hC2⟩ := at_func HM.out.funcs k hkl
  have HMA := Aside0.mk (show ModAt w { h with a3 := some ad } M from by rw [← hA]; exact HM.out)
  have hx3 := (HF2.out.bel.cell (World.block_lt_of_cell? _ _ hx3)).trans hx3
  have HC2 := Aside0.mk hC2
  obtain ⟨L, hL⟩ : ∃ L, (M.funcs.getD k zF).2.2.2 = L := ⟨_, rfl⟩
  rw [hL] at hx3 hne h200 hfull hk2 HC2
  have hlpos : 0 < L.length := List.length_pos_iff.2 hne
  obtain ⟨b2, hb2, _⟩ := HC2.out.2.2 hlpos
  subst hb2
  have hlz : ((L.length : Int) == 0) = false := beq_eq_false_iff_ne.2 (by omega)
  have hkz : decide (k < M.funcs.length) = true := by simpa using hkl
  have HLL := Aside0.mk hL
  have HKK := Aside0.mk hk
  clear hL hx0 hx1 hx2 hC1 hC2 hk1 hk hne
  have hfb : decide (200 ≤ L.length) = true := by simpa using hfull
  have hpos : decide (0 < L.length) = true := by simp; omega
  go_wp2_with fail
  go_ret
  exact ⟨rfl, HF2.out.bel⟩
set_option maxHeartbeats 4000000 in
set_option maxRecDepth 100000 in
theorem ValidDead_main (H : ModAt w h M) (C : MCan M) (hf : Can f) (ha : Can a) (hl : Laid w) (hv : validT M = none) (hn : 0 < M.funcs.length) (hfew : M.funcs.length ≤ 8) (hne : (M.funcs.getD (pickN f M.funcs.length) zF).2.2.2 ≠ []) (h200 : (M.funcs.getD (pickN f M.funcs.length) zF).2.2.2.length ≤ 200) (hfull : (M.funcs.getD (pickN f M.funcs.length) zF).2.2.2.length < 200) :
    Calls Tryd.prog 5 #[.agg (M.cells h), .int .i64 f, .int .i64 a] w fun e w' => e = .returned (.bool true) ∧ Below w.heap.size w w' := by
  have HM := Aside0.mk H
  have HMC := Aside0.mk C
  have HCF := Aside0.mk hf
  have HCA := Aside0.mk ha
  have HF0 := Aside0.mk (show FW w M h (w.alloc (.cells (M.cells h) 29)) from ⟨below_alloc (Below.refl _ _) (Nat.le_refl _) _, blk_new _ _⟩)
  have HL := Aside0.mk (hl.below HF0.out.bel)
  have hl3 := H.l3
  have hq3 := H.funcs.2.1
  have HV := Aside0.mk hv
  clear H C hf ha hl hv
  go_enter Tryd.func5, Tryd.ntmps5
  go_wp2_with fail
  refine (examples_calls _ HL.out).mono ?_
  rintro e w1 ⟨rfl, hb1⟩
  have HF1 := Aside0.mk (HF0.out.below hb1)
  have HL1 := Aside0.mk (HL.out.below hb1)
  have hz0 := blk_cell HF1.out.box 0
  have hz1 := blk_cell HF1.out.box 1
  have hz2 := blk_cell HF1.out.box 2
  have hz3 := blk_cell HF1.out.box 3
  have hz4 := blk_cell HF1.out.box 4
  have hz5 := blk_cell HF1.out.box 5
  have hz6 := blk_cell HF1.out.box 6
  clear hb1 HF0 HL
  go_wp2_with fail
  refine (valid_calls M h _ (HM.out.below HF1.out.bel) HMC.out).mono ?_
  rw [HV.out]
  rintro e w2 ⟨hb2, v, rfl, rfl⟩
  have HF2 := Aside0.mk (HF1.out.below hb2)
  have HL2 := Aside0.mk (HL1.out.below hb2)
  clear hz0 hz1 hz2 hz3 hz4 hz5 hz6 hb2
  have hz0 := blk_cell HF2.out.box 0
  have hz1 := blk_cell HF2.out.box 1
  have hz2 := blk_cell HF2.out.box 2
  have hz3 := blk_cell HF2.out.box 3
  have hz4 := blk_cell HF2.out.box 4
  have hz5 := blk_cell HF2.out.box 5
  have hz6 := blk_cell HF2.out.box 6
  have hnb : ((M.funcs.length : Int) == 0) = false := beq_eq_false_iff_ne.2 (by omega)
  have hkl := pick_lt (c := f) hn
  obtain ⟨k, hk⟩ : ∃ k, pickN f M.funcs.length = k := ⟨_, rfl⟩
  rw [hk] at hkl hne h200 hfull
  go_wp2_with (go_at_call 15; refine (pick_calls f M.funcs.length HCF.out hn (by omega) _).mono ?_; rintro e wq ⟨rfl, hwq⟩; subst wq; rw [hk]; refine Hold.out ?_)
  refine Hold.mk ?_
  obtain ⟨ad, B1, k1, B2, k2, hA, hx0, hx1, hx2, hx3, hk1, hk2, hC1, hC2⟩ := at_func HM.out.funcs k hkl
  have HMA := Aside0.mk (show ModAt w { h with a3 := some ad } M from by rw [← hA]; exact HM.out)
  have hx3 := (HF2.out.bel.cell (World.block_lt_of_cell? _ _ hx3)).trans hx3
  have HC2 := Aside0.mk hC2
  obtain ⟨L, hL⟩ : ∃ L, (M.funcs.getD k zF).2.2.2 = L := ⟨_, rfl⟩
  rw [hL] at hx3 hne h200 hfull hk2 HC2
  have hlpos : 0 < L.length := List.length_pos_iff.2 hne
  obtain ⟨b2, hb2, _⟩ := HC2.out.2.2 hlpos
  subst hb2
  have hlz : ((L.length : Int) == 0) = false := beq_eq_false_iff_ne.2 (by omega)
  have hkz : decide (k < M.funcs.length) = true := by simpa using hkl
  have HLL := Aside0.mk hL
  have HKK := Aside0.mk hk
  clear hL hx0 hx1 hx2 hC1 hC2 hk1 hk hne
  have hfb : decide (200 ≤ L.length) = false := by simp; omega
  have hfb2 : decide (200 ≤ (L.length : Int)) = false := by simp; omega
  go_wp2_with (go_at_call 15; refine (pick_calls a L.length HCA.out hlpos (by omega) _).mono ?_; rintro e wq ⟨rfl, hwq⟩; subst wq; refine Hold.out ?_)
  refine Hold.mk ?_
  have hpl := pick_lt (c := a) hlpos
  obtain ⟨p, hp⟩ : ∃ p, pickN a L.length = p := ⟨_, rfl⟩
  rw [hp] at hpl ⊢
  have hp0 : (0 : Int) ≤ (p : Int) := by omega
  have hp1 : (p : Int) ≤ (L.length : Int) := by omega
  have hp2 : (p : Int) ≤ (k2 : Int) := by omega
  clear hp
  go_wp2_with ((with_reducible refine gate_builtin (b := .append) (xs := #[.tmp 54, .tmp 57]) rfl ?_); at_builtin; refine Hold.out ?_)
  refine Hold.mk ?_
  refine wp_rowI (ys := L.take p) ⟨Ui.init _⟩ rfl (.tmp 54) (.tmp 57) rfl (some b2) p k2 rfl rfl ?_ ?_ p (L.take p) rfl ?_ ?_
  · have := Kd.C_take (Kd.C_below HC2.out HF2.out.bel) (m := p) (by omega); rw [List.length_take, Nat.min_eq_left (by omega)] at this; exact this
  · simp; omega
  · simp; omega
  intro A1 c1 w3 HU1
  go_wp2_with (first
    | ((with_reducible refine gate_builtin (b := .append) (xs := #[.tmp 59, .tmp 61]) rfl ?_); at_builtin; refine wp_rowI (ys := [(0, 0, 0)]) ⟨HU1.out.below ((Below.refl _ _).alloc (Nat.le_refl _) _)⟩ rfl (.tmp 59) (.tmp 61) rfl (some ⟨w3.heap.size, 0, none⟩) 1 1 rfl rfl (k3_lit [(0, 0, 0)] (by simp) (blk_new _ _)) (by simp; omega) (p + 1) (L.take p ++ [(0, 0, 0)]) rfl (by simp; omega) ?_; intro A2 c2 w4 HU2)
    | ((with_reducible refine gate_builtin (b := .append) (xs := #[.tmp 63, .tmp 66]) rfl ?_); at_builtin; refine Hold.out ?_))
  refine Hold.mk ?_
  have HF4 := Aside0.mk (HF2.out.below HU2.out.bel)
  refine wp_rowI (ys := L.drop p) HU2 rfl (.tmp 63) (.tmp 66) rfl _ _ _ rfl rfl ?_ ?_ (L.length + 1) (insL L p (0, 0, 0)) ?_ ?_ ?_
  · have hd := Kd.C_drop (Kd.C_below HC2.out HF4.out.bel) (m := p) (by omega) hk2
    rw [if_neg (by omega), List.length_drop] at hd
    have hs : kInstr.sz = 3 := rfl
    rw [hs] at hd
    exact hd
  · simp; omega
  · unfold insL
    simp
  · exact insL_len (by omega)
  intro A3 c3 w5 HU3
  have HF5 := Aside0.mk (HF2.out.below HU3.out.bel)
  have HL5 := Aside0.mk (HL2.out.below HU3.out.bel)
  clear hz0 hz1 hz2 hz3 hz4 hz5 hz6 hx3 HU1 HU2 HF4
  have hz0 := blk_cell HF5.out.box 0
  have hz1 := blk_cell HF5.out.box 1
  have hz2 := blk_cell HF5.out.box 2
  have hz3 := blk_cell HF5.out.box 3
  have hz4 := blk_cell HF5.out.box 4
  have hz5 := blk_cell HF5.out.box 5
  have hz6 := blk_cell HF5.out.box 6
  clear hq3
  obtain ⟨gs, e1, e2, e3, e4⟩ : ∃ gs, heightsT (withL M k (insL L p (0, 0, 0))) k = .ok gs ∧ gs.length = L.length + 1 ∧ rd gs ((p : Int) + 1) = -1 ∧ validT (withL M k (insL L p (0, 0, 0))) = none := by
    have := dead_rows (a := p) HMC.out hkl HV.out (by rw [HLL.out]; exact hfull) (by rw [HLL.out]; exact hpl)
    rwa [HLL.out] at this
  have HE1 := Aside0.mk e1
  have HE2 := Aside0.mk e2
  have HE3 := Aside0.mk e3
  have HE4 := Aside0.mk e4
  clear e1 e2 e3 e4
  have HMC7 := Aside0.mk (show MCan (withL M k (insL L p (0, 0, 0))) from by have := insL_can (a := p) (x := (0, 0, 0)) HMC.out hkl (show Can 0 from ⟨by omega, by omega⟩); rwa [HLL.out] at this)
  have HLN := Aside0.mk (insL_len (x := (0, 0, 0)) (show p ≤ L.length by omega))
  obtain ⟨L1, hL1⟩ : ∃ L1, insL L p (0, 0, 0) = L1 := ⟨_, rfl⟩
  rw [hL1] at HE1 HE4 HU3 HMC7 HLN
  clear hL1
  have hwc := with_calls M { h with a3 := some ad } k A3 c3 L1 w5 (HMA.out.below HF5.out.bel) hkl hfew (Kd.R_reads' HU3.out.row).2.2 (by rw [HLN.out]; exact (Kd.R_reads' HU3.out.row).2.1)
  dsimp only [Md.cells] at hwc
  rw [HLN.out] at hwc
  go_wp2_with fail
  refine hwc.mono ?_
  clear hwc
  rintro e w6 ⟨hb6, h6, rfl, hM6⟩
  have HF6 := Aside0.mk (HF5.out.below hb6)
  have HL6 := Aside0.mk (HL5.out.below hb6)
  have HU6 := Aside0.mk (HU3.out.below hb6)
  have HM6 := Aside0.mk hM6
  clear hb6 hM6 HF5 HL5 HU3 hz0 hz1 hz2 hz3 hz4 hz5 hz6
  go_wp2_with fail
  refine (valid_calls (withL M k L1) h6 w6 HM6.out HMC7.out).mono ?_
  rw [HE4.out]
  rintro e w7 ⟨hb7, v7, rfl, rfl⟩
  have HF7 := Aside0.mk (HF6.out.below hb7)
  have HL7 := Aside0.mk (HL6.out.below hb7)
  have HU7 := Aside0.mk (HU6.out.below hb7)
  clear hb7 HF6 HL6 HU6 HM6
  go_wp2_with fail
  refine (told_nil w7).mono ?_
  rintro e wq ⟨rfl, hwq⟩
  subst hwq
  have hz0 := blk_cell HF7.out.box 0
  have hz1 := blk_cell HF7.out.box 1
  have hz2 := blk_cell HF7.out.box 2
  have hz3 := blk_cell HF7.out.box 3
  have hz4 := blk_cell HF7.out.box 4
  have hz5 := blk_cell HF7.out.box 5
  have hz6 := blk_cell HF7.out.box 6
  have hwc := with_calls M { h with a3 := some ad } k A3 c3 L1 wq (HMA.out.below HF7.out.bel) hkl hfew (Kd.R_reads' HU7.out.row).2.2 (by rw [HLN.out]; exact (Kd.R_reads' HU7.out.row).2.1)
  dsimp only [Md.cells] at hwc
  rw [HLN.out] at hwc
  go_wp2_with fail
  refine hwc.mono ?_
  clear hwc
  rintro e w8 ⟨hb8, h8, rfl, hM8⟩
  have HF8 := Aside0.mk (HF7.out.below hb8)
  have HL8 := Aside0.mk (HL7.out.below hb8)
  have HM8 := Aside0.mk hM8
  clear hb8 hM8 HF7 HL7 HU7 hz0 hz1 hz2 hz3 hz4 hz5 hz6
  go_wp2_with fail
  refine (heights_calls (withL M k L1) h8 k w8 HM8.out HMC7.out HL8.out).mono ?_
  rw [HE1.out]
  rintro e w9 ⟨hb9, v9, rfl, hR9⟩
  obtain ⟨g9, c9, rfl, _, _, _⟩ := Kd.R_form hR9 (by rw [HE2.out]; exact Nat.succ_pos _)
  have hc9 : gs.length ≤ c9 := (Kd.R_reads' hR9).2.1
  have HF9 := Aside0.mk (HF8.out.bel.trans (hb9.mono HF8.out.bel.size))
  have hpp : p + 1 < gs.length := by rw [HE2.out]; exact Nat.succ_lt_succ hpl
  obtain ⟨hq0, hq1, hq5, hw1, hb1⟩ := dead_arith HE2.out hpl hfull
  have hx9 : w9.cell? ⟨g9, p + 1, none⟩ = some (.int .i64 (rd gs ((p : Int) + 1))) := (Kd.R_cell (0 : Int) hR9 ((p : Int) + 1) hq0 hq1).1
  rw [HE3.out] at hx9
  clear hb9 hR9 HF8 HL8 HM8
  go_wp2_with fail
  go_ret
  exact ⟨rfl, HF9.out⟩
theorem ValidDead_walk (H : ModAt w h M) (C : MCan M) (hf : Can f) (ha : Can a) (hl : Laid w) :
    Calls Tryd.prog 5 #[.agg (M.cells h), .int .i64 f, .int .i64 a] w fun e w' => e = .returned (.bool true) ∧ Below w.heap.size w w' := by
  cases hv : validT M with
  | some x => exact ValidDead_bad M h f a w H C hf ha hl (q := x.1) (at_ := x.2) hv
  | none =>
    by_cases hn : M.funcs.length = 0
    · exact ValidDead_none M h f a w H C hf ha hl hv (by rw [hn]; rfl)
    · have hk := pick_lt (c := f) (show 0 < M.funcs.length by omega)
      obtain ⟨h200, _, _, _, hne, _⟩ := valid_body hv hk
      have hfew := ((limM_iff M).1 (valid_none hv).1.lim).1.2.2.1
      by_cases hfull : 200 ≤ (M.funcs.getD (pickN f M.funcs.length) zF).2.2.2.length
      · exact ValidDead_full M h f a w H C hf ha hl hv (by omega) hfew hne h200 hfull
      · exact ValidDead_main M h f a w H C hf ha hl hv (by omega) hfew hne h200 (by omega)
end
end Go.Proofs.YtjjhhmchomabeaaDoor.Valid
namespace Go.Proofs.YtjjhhmchomabeaaDoor.ValidDead
open Go.ChangeShapes Go.WideShapes Go.RowKit Go.Proofs.YtjjhhmchomabeaaDoorW.PrintWords Go.Proofs.YtjjhhmchomabeaaDoor.Valid
set_option linter.unusedVariables false
set_option linter.unusedSimpArgs false

/-! ### the row -/
theorem own : ownKnob Tryd.prog.godebug = none := by kernel_rfl
theorem et : Tryd.prog.globalNamed "errors.errorType" = some 0 := by kernel_rfl
theorem rt : (Tryd.prog.cutTypes.find? (·.1 == "internal/reflectlite.rtype")).map (·.2) = some 112 := by kernel_rfl
theorem oneRow : ((List.range 174).filter fun t => Tryd.prog.rowNamed t [101, 114, 114, 111, 114]) = [38] := by kernel_rfl
theorem size : Tryd.prog.types.size = 174 := by kernel_rfl
theorem handle_of_laid {W : World} (h : laidMetH Tryd.prog [("errors.errorType", Rows.laid_errors_errorType)] W) : Laid W := by
  have h' : laidMet Tryd.prog [] W ∧ handlesMet Tryd.prog [("errors.errorType", Rows.laid_errors_errorType)] W := h
  obtain ⟨name, u, ty, e1, e2, e3, e4, e5⟩ := h'.2 _ (List.mem_singleton.2 rfl)
  have en : name = [101, 114, 114, 111, 114] := (Option.some.inj e1).symm
  subst en
  obtain rfl := Option.some.inj (rt.symm.trans e2)
  have hm : ty ∈ (List.range 174).filter fun t => Tryd.prog.rowNamed t [101, 114, 114, 111, 114] := List.mem_filter.2 ⟨List.mem_range.2 (by rw [← size]; exact e3), e4⟩
  rw [oneRow] at hm
  obtain rfl := List.mem_singleton.1 hm
  have hh : typeHandle Tryd.prog 38 = .pointer (some ⟨1, 38, none⟩) := by kernel_rfl
  rw [hh] at e5
  unfold Laid
  simpa using World.var?_cell et e5 0
noncomputable def laidWorld (os : Os) : World :=
  let w0 := World.holding Tryd.prog os ⟨#[], #[], []⟩
  { w0 with heap := w0.heap.modify 0 fun
      | .cells _ t frozen => .cells #[.iface 112 (.agg #[.pointer (some ⟨1, 38, none⟩)])] t frozen
      | o => o }
theorem laidWorld_met (os : Os) (args : Array Value) : laidMetH Tryd.prog [("errors.errorType", Rows.laid_errors_errorType)] ((laidWorld os).forCall (fun _ _ => 0) ⟨#[], args, []⟩).memory :=
  laidMetH_of_parts (laidMet_nil _ _) (by kernel_rfl)
theorem can_wf {n : Int} (h : (Lit.int .i64 n).wf = true) : Valid.Can n := by
  simp [Lit.wf, IntKind.has, IntKind.min, IntKind.max, IntKind.bits, IntKind.signed] at h
  unfold Valid.Can
  omega
set_option maxRecDepth 100000 in
theorem lifted (os : Os) (started : os.Started) (H : Type) (enc : TypeId × Value → H) :
    ReturnsInHanded {} Tryd.checked os 5 .any (fun w args => (Rows.validDeadSpec.pre enc Tryd.prog Tryd.f5 [] false w args ∧ laidMetH Tryd.prog [("errors.errorType", Rows.laid_errors_errorType)] w) ∧ sizedMet enc Tryd.prog Tryd.f5 (OpenSpec.ofChange Rows.validDeadSpec) false w args)
      (Rows.validDeadSpec.post enc Tryd.prog Tryd.f5 false true false false) := by
  refine returnsInHanded_of_change_and (C := Tryd.checked) (X := fun w _ => laidMetH Tryd.prog [("errors.errorType", Rows.laid_errors_errorType)] w) (fun _ _ _ hh h => h.of_heap hh) own started (by kernel_rfl) Tryd.func5
    (ChangeSpec.witness_at (enc := enc) (C := Tryd.checked) (os := os) (X := fun w _ => laidMetH Tryd.prog [("errors.errorType", Rows.laid_errors_errorType)] w) false (laidWorld os) #[.agg #[.slice none 0 0, .slice none 0 0, .slice none 0 0, .int .i64 0, .int .i64 0, .slice none 0 0, .slice none 0 0], .int .i64 0, .int .i64 0] 9 rfl (by kernel_rfl) (by kernel_rfl) (by kernel_rfl) (by kernel_rfl) (by kernel_rfl) (laidWorld_met os _)) ?_
  intro W base args ds gs before hval0 hW _ hsz0 hL _
  have hval : ∀ (j : Nat) t v, Tryd.f5.params[j]? = some t → args[j]? = some v → Value.okWide Tryd.prog W .any base t v := hval0
  have hW' := hW
  obtain ⟨p, q, hA0, hV0, rfl, hfz, hnd⟩ := hW
  have hA : DataW.TrodAll enc Tryd.prog W 0 (fun _ => true) true Tryd.f5.params.toList args.toList ds p := hA0
  have hV : DataW.TrodVars enc Tryd.prog W (fun _ => true) [] gs q := hV0
  rw [Tryd.params5] at hA hval
  obtain ⟨v0, vs0, d0, ds0, p0, q0, hargs, rfl, rfl, h0, r0⟩ := trodAll_cons hA
  obtain ⟨v1, vs1, d1, ds1, p1, q1, rfl, rfl, rfl, h1, r1⟩ := trodAll_cons r0
  obtain ⟨v2, vs2, d2, ds2, p2, q2, rfl, rfl, rfl, h2, r2⟩ := trodAll_cons r1
  obtain ⟨rfl, rfl, rfl⟩ := trodAll_nil r2
  obtain rfl : args = #[v0, v1, v2] := by cases args; simp_all
  obtain ⟨a1, rfl, rfl, rfl, w1⟩ := open_int Tryd.underlying3 (hval 1 3 v1 rfl rfl) h1
  obtain ⟨a2, rfl, rfl, rfl, w2⟩ := open_int Tryd.underlying3 (hval 2 3 v2 rfl rfl) h2
  have hg := handle_of_laid hL
  obtain ⟨rfl, rfl⟩ : gs = [] ∧ q = [] := by
    cases gs with
    | nil => exact ⟨rfl, hV⟩
    | cons g r => exact absurd hV (by intro h; cases h)
  obtain ⟨cs1, rfl, _⟩ := okWide_struct Tryd.underlying29 (hval 0 29 v0 rfl rfl)
  obtain ⟨M, hd, rfl, hMod, k1, k2, k3⟩ := ModRow.read_mod h0
  have hC : Valid.MCan M := ⟨fun g hg => ⟨fun t ht => can_wf ((k1 g hg).1 t ht), fun t ht => can_wf ((k1 g hg).2 t ht)⟩, fun f hf => ⟨fun t ht => can_wf ((k2 f hf).1 t ht), fun x hx => can_wf ((k2 f hf).2 x hx)⟩, fun g hg => can_wf (k3 g hg)⟩
  have e1 : Rows.validDeadSpec.fn H ([d0, .lit (.int .i64 a1), .lit (.int .i64 a2)] ++ []) = { results := [.lit (.bool true)], args := [d0, .lit (.int .i64 a1), .lit (.int .i64 a2)] } := by simp [Rows.validDeadSpec]
  refine (ValidDead_walk M hd a1 a2 W hMod hC (can_wf w1) (can_wf w2) hg).mono fun e W' ⟨he, hw⟩ => ?_
  subst he
  refine ⟨_, rfl, _, _, _, [], p0 ++ [], [], hW', ?_, ?_, ?_, hw.frame _, fun h => by cases h⟩
  · rw [e1]; exact trodAll_mk1 (shut_bool Tryd.underlying4 true)
  · rw [e1]; exact trodAll_mk3 (ModRow.back_mod h0 hw) (shut_int Tryd.underlying3 w1) (shut_int Tryd.underlying3 w2)
  · rw [e1]; rfl
theorem row_holds : Rows.ValidDeadSaid :=
  OpenClaim.holds_of_wide 5 Tryd.f5 rfl rfl rfl rfl rfl rfl rfl ⟨rfl, rfl, rfl, rfl, rfl⟩ rfl rfl rfl rfl rfl (by kernel_rfl) Tryd.func5 (by kernel_rfl)
    (of_decide_eq_true (by kernel_rfl)) (by unfold Func.isWrapper; rw [if_neg (of_decide_eq_false (by kernel_rfl))]; exact ⟨rfl, rfl⟩)
    (fun os started H enc _ => lifted os started H enc)
/-- ValidDead, tied to the program's text. -/
theorem validDead_holds : Rows.ValidDeadCardSaid :=
  Claim7.holds_tied_plain_at .later [] [.handle] true (true, "a375214d61d745cf21eebd2106e1b8edc3a89ab9356fe3b512f1620f8a12f14f") true
    row_holds (fun _ h => by cases h) (by kernel_rfl) (fun _ h => by cases h) validDead_row_tie rfl ⟨rfl, rfl⟩ (by kernel_rfl) rfl
    (fun f fn hf hfn => by
      obtain rfl : f = 5 := Option.some.inj ((show Tryd.prog.funcNamed "oubliette/oubliettelaw07.ValidDead" = some 5 by kernel_rfl).symm.trans hf) |>.symm
      obtain rfl : fn = Tryd.f5 := (Option.some.inj (Tryd.func5.symm.trans hfn)).symm
      exact ⟨by kernel_rfl, fun j t ht => by
        rw [Tryd.params5] at ht
        have h3 : t = 29 ∨ t = 3 := by
          rcases j with _ | _ | _ | j
          · exact .inl (by simpa using ht.symm)
          · exact .inr (by simpa using ht.symm)
          · exact .inr (by simpa using ht.symm)
          · simp at ht
        rcases h3 with rfl | rfl
        · exact (show Tryd.prog.wantsStandIn 29 = false by kernel_rfl)
        · exact (show Tryd.prog.wantsStandIn 3 = false by kernel_rfl)⟩)
    (by kernel_rfl)
end Go.Proofs.YtjjhhmchomabeaaDoor.ValidDead
namespace Go.Proofs.YtjjhhmchomabeaaDoor
/-- The card, under a short name, for the claim. -/
theorem validDead_holds : Rows.ValidDeadCardSaid := ValidDead.validDead_holds
end Go.Proofs.YtjjhhmchomabeaaDoor
#print axioms Go.Proofs.YtjjhhmchomabeaaDoor.validDead_holds
