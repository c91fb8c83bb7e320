/- Layer 14, the plain model of a past: no program in sight; no conditions. -/
import Derived.Test.YtfplfddobjbbnaaEh
namespace Go.Proofs.Ytfplfddobjbbnaa
set_option linter.unusedSectionVars false
set_option linter.unusedSimpArgs false
set_option linter.unusedVariables false
open Go

/-- A past: the greatest view; the views that were entered but the last, with what was voted there; the last, and what was voted there. -/
structure PM where
  g : Int
  init : List (Int × Int)
  lv : Int
  ln : Int

namespace PM
def all (s : PM) : List (Int × Int) := s.init ++ [(s.lv, s.ln)]
def new : PM := ⟨0, [], 0, 0⟩
def isOpen (s : PM) (v : Int) : Bool := decide (v = s.g ∧ v = s.lv)
def changeOk (s : PM) (v : Int) : Bool := decide (s.g < v ∧ v < 1073741824)
def change (s : PM) (v : Int) : PM := if changeOk s v then { s with g := v } else s
def enterOk (s : PM) (v long : Int) : Bool := decide (s.lv < v ∧ s.g ≤ v ∧ v < 1073741824 ∧ 0 ≤ long)
def enter (s : PM) (v long : Int) : PM := if enterOk s v long then ⟨v, s.all, v, long⟩ else s
def prepare (s : PM) (v : Int) : PM := if isOpen s v then { s with ln := s.ln + 1 } else s
def commitOk (s : PM) (v k most : Int) : Bool := decide ((v = s.g ∧ v = s.lv) ∧ 0 ≤ most ∧ k ≤ most ∧ k = s.ln + 1)
def commit (s : PM) (v k most : Int) : PM := if commitOk s v k most then { s with ln := s.ln + 1 } else s
def voted : List (Int × Int) → Int → Option Int
  | [], _ => none
  | (w, n) :: r, v => if v = w then some n else voted r v

/-- Views rise and are below MaxView; what was voted lies between 0 and B. -/
structure WF (s : PM) (B : Int) : Prop where
  rise : (s.all.map (·.1)).Pairwise (· < ·)
  low : ∀ p ∈ s.all, 0 ≤ p.1 ∧ p.1 < 1073741824 ∧ 0 ≤ p.2 ∧ p.2 ≤ B
  top : s.lv ≤ s.g
  g0 : 0 ≤ s.g

theorem new_wf : WF new 0 := ⟨by simp [new, all], by simp [new, all], by simp [new], by simp [new]⟩

theorem WF.last {s : PM} {B : Int} (h : WF s B) : 0 ≤ s.lv ∧ s.lv < 1073741824 ∧ 0 ≤ s.ln ∧ s.ln ≤ B := h.low (s.lv, s.ln) (by simp [all])
theorem WF.below {s : PM} {B : Int} (h : WF s B) : ∀ p ∈ s.init, p.1 < s.lv := by
  have := h.rise
  simp only [all, List.map_append, List.map_cons, List.map_nil, List.pairwise_append] at this
  intro p hp
  exact this.2.2 p.1 (List.mem_map.2 ⟨p, hp, rfl⟩) s.lv (by simp)
theorem WF.mono {s : PM} {B B' : Int} (h : WF s B) (hB : B ≤ B') : WF s B' := ⟨h.rise, fun p hp => by have := h.low p hp; omega, h.top, h.g0⟩
theorem WF.bump {s : PM} {B : Int} (h : WF s B) : WF { s with ln := s.ln + 1 } (B + 1) := by
  refine ⟨?_, ?_, h.top, h.g0⟩
  · have := h.rise; simpa [all] using this
  · intro p hp
    simp only [all, List.mem_append, List.mem_singleton] at hp
    rcases hp with hp | rfl
    · have := h.low p (by simp [all, hp]); omega
    · have := h.last; simp only; omega
theorem WF.change {s : PM} {B : Int} (h : WF s B) (v : Int) : WF (s.change v) B := by
  unfold PM.change
  split
  · rename_i hc
    simp only [changeOk, decide_eq_true_eq] at hc
    refine ⟨h.rise, h.low, ?_, ?_⟩
    · have := h.top; simp only; omega
    · have := h.g0; simp only; omega
  · exact h
theorem WF.enter {s : PM} {B : Int} (h : WF s B) (v long : Int) (hl : long ≤ B) : WF (s.enter v long) B := by
  unfold PM.enter
  split
  · rename_i hc
    simp only [enterOk, decide_eq_true_eq] at hc
    refine ⟨?_, ?_, Int.le_refl _, ?_⟩
    · show ((s.all ++ [(v, long)]).map (·.1)).Pairwise (· < ·)
      rw [List.map_append, List.pairwise_append]
      refine ⟨h.rise, by simp, ?_⟩
      intro a ha b hb
      simp at hb; subst hb
      obtain ⟨p, hp, rfl⟩ := List.mem_map.1 ha
      simp only [all, List.mem_append, List.mem_singleton] at hp
      rcases hp with hp | rfl
      · have := h.below p hp; omega
      · exact hc.1
    · intro p hp
      simp only [all, List.mem_append, List.mem_singleton] at hp
      rcases hp with (hp | rfl) | rfl
      · exact h.low p (by simp [all, hp])
      · exact h.last
      · have := h.last; simp only; omega
    · have := h.last; simp only; omega
  · exact h
theorem WF.prepare {s : PM} {B : Int} (h : WF s B) (v : Int) : WF (s.prepare v) (B + 1) := by
  unfold PM.prepare; split
  · exact h.bump
  · exact h.mono (by omega)
theorem WF.commit {s : PM} {B : Int} (h : WF s B) (v k most : Int) : WF (s.commit v k most) (B + 1) := by
  unfold PM.commit; split
  · exact h.bump
  · exact h.mono (by omega)

/-- As entries of a map. -/
def kv (l : List (Int × Int)) : List (Int × Value) := l.map fun p => (p.1, .int .i64 p.2)
theorem kv_keys (l : List (Int × Int)) : (kv l).map (·.1) = l.map (·.1) := by simp [kv, Function.comp_def]
theorem getKV_kv (l : List (Int × Int)) (v : Int) : getKV (kv l) v = (voted l v).map (Value.int .i64) := by
  induction l with
  | nil => rfl
  | cons p r ih =>
    obtain ⟨w, n⟩ := p
    simp only [kv, List.map_cons, getKV, voted]
    split
    · rfl
    · exact ih
theorem put_absent {κ : Type} [DecidableEq κ] : ∀ (m : List (κ × Value)) (k : κ) (v : Value), k ∉ m.map (·.1) → putKV m k v = m ++ [(k, v)]
  | [], _, _, _ => rfl
  | (j, u) :: r, k, v, h => by
    have e : ¬ k = j := fun e => h (by simp [e])
    have := put_absent r k v (fun e => h (by simp at e ⊢; exact .inr e))
    simp [putKV, e, this]
theorem put_last {κ : Type} [DecidableEq κ] : ∀ (m : List (κ × Value)) (k : κ) (u v : Value), k ∉ m.map (·.1) → putKV (m ++ [(k, u)]) k v = m ++ [(k, v)]
  | [], k, u, v, _ => by simp [putKV]
  | (j, w) :: r, k, u, v, h => by
    have e : ¬ k = j := fun e => h (by simp [e])
    have := put_last r k u v (fun e => h (by simp at e ⊢; exact .inr e))
    simp [putKV, e, this]
theorem WF.not_init {s : PM} {B : Int} (h : WF s B) : s.lv ∉ s.init.map (·.1) := by
  intro hm
  obtain ⟨p, hp, e⟩ := List.mem_map.1 hm
  have := h.below p hp
  omega
theorem WF.kv_bump {s : PM} {B : Int} (h : WF s B) : putKV (kv s.all) s.lv (.int .i64 (s.ln + 1)) = kv ({ s with ln := s.ln + 1 } : PM).all := by
  have := put_last (kv s.init) s.lv (.int .i64 s.ln) (.int .i64 (s.ln + 1)) (by rw [kv_keys]; exact h.not_init)
  simpa [kv, all] using this
theorem WF.not_all {s : PM} {B v : Int} (h : WF s B) (hv : s.lv < v) : v ∉ s.all.map (·.1) := by
  intro hm
  obtain ⟨p, hp, e⟩ := List.mem_map.1 hm
  simp only [all, List.mem_append, List.mem_singleton] at hp
  rcases hp with hp | rfl
  · have := h.below p hp; omega
  · simp only at e; omega
theorem WF.kv_enter {s : PM} {B v long : Int} (h : WF s B) (hv : s.lv < v) : putKV (kv s.all) v (.int .i64 long) = kv (s.all ++ [(v, long)]) := by
  rw [put_absent _ _ _ (by rw [kv_keys]; exact h.not_all hv)]
  simp [kv]
theorem WF.kv_enter2 {s : PM} {B v long : Int} (h : WF s B) (hv : s.lv < v) (z : Value) : putKV (putKV (kv s.all) v z) v (.int .i64 long) = kv (s.all ++ [(v, long)]) := by
  rw [put_absent (kv s.all) _ _ (by rw [kv_keys]; exact h.not_all hv), put_last _ _ _ _ (by rw [kv_keys]; exact h.not_all hv)]
  simp [kv]
theorem voted_last {s : PM} {B : Int} (h : WF s B) : voted s.all s.lv = some s.ln := by
  have : ∀ l : List (Int × Int), s.lv ∉ l.map (·.1) → voted (l ++ [(s.lv, s.ln)]) s.lv = some s.ln := by
    intro l
    induction l with
    | nil => intro _; simp [voted]
    | cons p r ih =>
      intro hn
      obtain ⟨w, n⟩ := p
      have e : ¬ s.lv = w := fun e => hn (by simp [e])
      simp only [List.cons_append, voted, e, if_false]
      exact ih (fun e => hn (by simp at e ⊢; exact .inr e))
  exact this _ h.not_init
end PM
end Go.Proofs.Ytfplfddobjbbnaa
