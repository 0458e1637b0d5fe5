/- Spans, the plain law: whose a block is; joining. -/
import Derived.Test.YtpgknabmpghcoaaPF
namespace Go.Proofs
set_option linter.unusedVariables false
set_option linter.unusedSimpArgs false
open Go Go.SX Go.RowKit

/-- A block's owner and epoch. -/
def HasS (L : List Spn) (b : Int) (t : Int × Int) : Prop := ∃ s ∈ L, InS b s ∧ (s.ow, s.ep) = t

theorem HasS.append {L M : List Spn} {b : Int} {t : Int × Int} : HasS (L ++ M) b t ↔ HasS L b t ∨ HasS M b t := by
  unfold HasS
  constructor
  · rintro ⟨s, hs, h⟩
    rcases List.mem_append.1 hs with h' | h'
    · exact .inl ⟨s, h', h⟩
    · exact .inr ⟨s, h', h⟩
  · rintro (⟨s, hs, h⟩ | ⟨s, hs, h⟩)
    · exact ⟨s, List.mem_append.2 (.inl hs), h⟩
    · exact ⟨s, List.mem_append.2 (.inr hs), h⟩

theorem HasS.one {s : Spn} {b : Int} {t : Int × Int} : HasS [s] b t ↔ InS b s ∧ (s.ow, s.ep) = t := by
  simp [HasS]

/-- One step of joining. -/
def stepS (o : List Spn) (e : Spn) : List Spn :=
  match o.getLast? with
  | some y => if y.ow = e.ow ∧ y.ep = e.ep then o.dropLast ++ [{ y with to := e.to }] else o ++ [e]
  | none => [e]
def joinGoS (o : List Spn) : List Spn → List Spn
  | [] => o
  | e :: r => joinGoS (stepS o e) r
def joinS (L : List Spn) : List Spn := joinGoS [] L

theorem stepS_nil (e : Spn) : stepS [] e = [e] := rfl
theorem stepS_concat (o : List Spn) (y e : Spn) : stepS (o ++ [y]) e = if y.ow = e.ow ∧ y.ep = e.ep then o ++ [{ y with to := e.to }] else o ++ [y] ++ [e] := by
  simp [stepS]

theorem chkS_append : ∀ (A B : List Spn) (last : Int), ChkS last (A ++ B) ↔ ChkS last A ∧ ChkS (endS last A) B
  | [], B, last => by simp [ChkS, endS]
  | s :: r, B, last => by
    simp only [List.cons_append, ChkS, endS, chkS_append r B s.to]
    constructor
    · rintro ⟨h1, h2, h3, h4, h5⟩; exact ⟨⟨h1, h2, h3, h4⟩, h5⟩
    · rintro ⟨⟨h1, h2, h3, h4⟩, h5⟩; exact ⟨h1, h2, h3, h4, h5⟩
theorem endS_append : ∀ (A B : List Spn) (last : Int), endS last (A ++ B) = endS (endS last A) B
  | [], B, last => rfl
  | s :: r, B, last => endS_append r B s.to

/-- Neighbours are of two owners or epochs. -/
def NoGoS : List Spn → Prop
  | a :: b :: r => ¬ (a.ow = b.ow ∧ a.ep = b.ep) ∧ NoGoS (b :: r)
  | _ => True

theorem step_facts {o : List Spn} {e : Spn} {last : Int} (h : ChkS last (o ++ [e])) :
    ChkS last (stepS o e) ∧ endS last (stepS o e) = e.to ∧ ∀ b t, HasS (stepS o e) b t ↔ HasS (o ++ [e]) b t := by
  rcases List.eq_nil_or_concat o with rfl | ⟨p, y, rfl⟩
  · exact ⟨h, rfl, fun b t => Iff.rfl⟩
  · rw [List.concat_eq_append] at h ⊢
    rw [stepS_concat]
    by_cases hg : y.ow = e.ow ∧ y.ep = e.ep
    · rw [if_pos hg]
      rw [List.append_assoc, chkS_append] at h
      obtain ⟨h1, h2, h3, h4, h5, h6, h7, _⟩ := h
      refine ⟨(chkS_append _ _ _).2 ⟨h1, h2, ?_, h4, trivial⟩, ?_, fun b t => ?_⟩
      · show y.fr < e.to
        omega
      · rw [endS_append]; rfl
      · rw [HasS.append, List.append_assoc, HasS.append, HasS.append, HasS.one, HasS.one, HasS.one]
        refine or_congr Iff.rfl ?_
        unfold InS
        simp only [hg.1, hg.2]
        constructor
        · rintro ⟨⟨a1, a2⟩, a3⟩
          rcases Int.lt_or_le b y.to with h | h
          · exact .inl ⟨⟨a1, h⟩, a3⟩
          · exact .inr ⟨⟨by omega, a2⟩, a3⟩
        · rintro (⟨⟨a1, a2⟩, a3⟩ | ⟨⟨a1, a2⟩, a3⟩)
          · exact ⟨⟨a1, by omega⟩, a3⟩
          · exact ⟨⟨by omega, a2⟩, a3⟩
    · rw [if_neg hg]
      exact ⟨h, by rw [endS_append]; rfl, fun b t => Iff.rfl⟩

theorem joinGo_facts : ∀ (L o : List Spn) (last : Int), ChkS last (o ++ L) →
    ChkS last (joinGoS o L) ∧ endS last (joinGoS o L) = endS last (o ++ L) ∧ ∀ b t, HasS (joinGoS o L) b t ↔ HasS (o ++ L) b t
  | [], o, last, h => by
    rw [List.append_nil] at h ⊢
    exact ⟨h, rfl, fun b t => Iff.rfl⟩
  | e :: r, o, last, h => by
    have e1 : o ++ e :: r = (o ++ [e]) ++ r := by simp
    rw [e1] at h ⊢
    have h2 := (chkS_append _ _ _).1 h
    obtain ⟨s1, s2, s3⟩ := step_facts h2.1
    have e2 : endS last (o ++ [e]) = e.to := by rw [endS_append]; rfl
    have h3 : ChkS last (stepS o e ++ r) := (chkS_append _ _ _).2 ⟨s1, by rw [s2, ← e2]; exact h2.2⟩
    obtain ⟨j1, j2, j3⟩ := joinGo_facts r (stepS o e) last h3
    refine ⟨j1, ?_, fun b t => ?_⟩
    · show endS last (joinGoS (stepS o e) r) = _
      rw [j2, endS_append, endS_append, s2, e2]
    · show HasS (joinGoS (stepS o e) r) b t ↔ _
      rw [j3, HasS.append, HasS.append, s3]

theorem join_facts {L : List Spn} (h : ChkP L) : ChkP (joinS L) ∧ endS 0 (joinS L) = endS 0 L ∧ ∀ b t, HasS (joinS L) b t ↔ HasS L b t := by
  obtain ⟨j1, j2, j3⟩ := joinGo_facts L [] 0 h.1
  exact ⟨⟨j1, by rw [show joinS L = joinGoS [] L from rfl, j2]; exact h.2.1, by rw [show joinS L = joinGoS [] L from rfl, j2]; exact h.2.2⟩, j2, j3⟩

def LikeS (a b : Spn) : Prop := a.ow = b.ow ∧ a.ep = b.ep
/-- No two side by side are alike. -/
def NoGoL : List Spn → Prop
  | [] => True
  | [_] => True
  | x :: y :: r => ¬ LikeS x y ∧ NoGoL (y :: r)

theorem noGoL_concat : ∀ (o : List Spn) (y : Spn), NoGoL (o ++ [y]) ↔ NoGoL o ∧ ∀ p, o.getLast? = some p → ¬ LikeS p y
  | [], y => by simp [NoGoL]
  | [x], y => by simp [NoGoL]
  | x :: z :: r, y => by
    have ih := noGoL_concat (z :: r) y
    simp only [List.cons_append] at ih ⊢
    show ¬ LikeS x z ∧ NoGoL (z :: (r ++ [y])) ↔ (¬ LikeS x z ∧ NoGoL (z :: r)) ∧ _
    rw [ih]
    simp only [List.getLast?_cons_cons]
    exact ⟨fun h => ⟨⟨h.1, h.2.1⟩, h.2.2⟩, fun h => ⟨h.1.1, h.1.2, h.2⟩⟩

theorem step_noGo {o : List Spn} {e : Spn} (h : NoGoL o) : NoGoL (stepS o e) := by
  rcases List.eq_nil_or_concat o with rfl | ⟨p, y, rfl⟩
  · trivial
  · rw [List.concat_eq_append] at h ⊢
    rw [stepS_concat]
    by_cases hg : y.ow = e.ow ∧ y.ep = e.ep
    · rw [if_pos hg, noGoL_concat]
      rw [noGoL_concat] at h
      exact h
    · rw [if_neg hg, noGoL_concat]
      exact ⟨h, fun p hp => by simp at hp; subst hp; exact hg⟩

theorem join_noGo : ∀ (L o : List Spn), NoGoL o → NoGoL (joinGoS o L)
  | [], _, h => h
  | e :: r, o, h => join_noGo r (stepS o e) (step_noGo h)
end Go.Proofs
