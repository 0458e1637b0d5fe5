/- Extents: joined lists; plain. -/
import Derived.Test.YtpbihcfmjnidbaaEL
namespace Go.Proofs
set_option linter.unusedVariables false
set_option linter.unusedSimpArgs false
open Go Go.SX Go.RowKit

/-- No two side by side go on. -/
def NoGo : List Ext → Prop
  | [] => True
  | [_] => True
  | x :: y :: r => ¬ Goes x y ∧ NoGo (y :: r)

theorem NoGo.tail {x : Ext} {r : List Ext} (h : NoGo (x :: r)) : NoGo r := by
  cases r with
  | nil => trivial
  | cons y r => exact h.2

theorem noGo_concat : ∀ (o : List Ext) (y : Ext), NoGo (o ++ [y]) ↔ NoGo o ∧ ∀ p, o.getLast? = some p → ¬ Goes p y
  | [], y => by simp [NoGo]
  | [x], y => by simp [NoGo]
  | x :: z :: r, y => by
    have ih := noGo_concat (z :: r) y
    simp only [List.cons_append] at ih ⊢
    show ¬ Goes x z ∧ NoGo (z :: (r ++ [y])) ↔ (¬ Goes x z ∧ NoGo (z :: r)) ∧ _
    rw [ih]
    simp only [List.getLast?_cons_cons]
    exact ⟨fun h => ⟨⟨h.1, h.2.1⟩, h.2.2⟩, fun h => ⟨h.1.1, h.1.2, h.2⟩⟩

theorem goes_n {p y : Ext} {n : Int} (hp : 1 ≤ p.n) : Goes p { y with n := n } ↔ Goes p y := by
  constructor
  · intro h
    obtain ⟨h1, h2, h3, h4⟩ := h.eqs hp
    exact Goes.of hp h1 h2 h3 h4
  · intro h
    obtain ⟨h1, h2, h3, h4⟩ := h.eqs hp
    exact Goes.of hp h1 h2 h3 h4

theorem joinStep_nil (e : Ext) : joinStep [] e = [e] := by simp [joinStep]
theorem joinStep_concat (o : List Ext) (y e : Ext) : joinStep (o ++ [y]) e = if Goes y e then o ++ [{ y with n := y.n + e.n }] else o ++ [y] ++ [e] := by
  have h1 : nth ext0 (o ++ [y]) ((o ++ [y]).length - 1) = y := by
    have : (o ++ [y]).length - 1 = o.length + 0 := by simp
    rw [this, nth_append_right]
    rfl
  unfold joinStep
  rw [h1]
  by_cases hg : Goes y e
  · rw [if_pos ⟨by simp, hg⟩, if_pos hg]
    simp
  · rw [if_neg fun h => hg h.2, if_neg hg]

/-- What a joined extent has. -/
theorem join_in {y e : Ext} (h : Goes y e) (hy : 1 ≤ y.n) (he : 1 ≤ e.n) (b : Int) : In b { y with n := y.n + e.n } ↔ In b y ∨ In b e := by
  have h1 := h.1
  unfold In
  simp only
  omega
theorem join_tell {y e : Ext} (h : Goes y e) (hy : 1 ≤ y.n) (b : Int) : tell b e = tell b { y with n := y.n + e.n } := by
  obtain ⟨h1, h2, h3, h4⟩ := h.eqs hy
  unfold tell
  simp only [h2, h3, h4, h1]
  by_cases hz : y.zone = -1
  · simp [hz]
  · simp [hz]
    omega

structure Good (L : List Ext) : Prop where
  may : AllMay L
  sep : L.Pairwise Sep

theorem Good.chk {L : List Ext} (h : Good L) : Chk L := Chk.mk h.may h.sep
theorem Chk.good {L : List Ext} (h : Chk L) : Good L := ⟨h.all, h.sep⟩

theorem joinStep_good {o r : List Ext} {e : Ext} (h : Good (o ++ e :: r)) : Good (joinStep o e ++ r) ∧ (NoGo o → NoGo (joinStep o e)) ∧ ∀ b t, Has (joinStep o e ++ r) b t ↔ Has (o ++ e :: r) b t := by
  rcases List.eq_nil_or_concat o with rfl | ⟨o, y, rfl⟩
  · rw [joinStep_nil]
    exact ⟨h, fun _ => trivial, fun b t => Iff.rfl⟩
  · rw [List.concat_eq_append, joinStep_concat]
    have hy : May y := h.may y (by simp)
    have he : May e := h.may e (by simp)
    rw [List.concat_eq_append] at h
    by_cases hg : Goes y e
    · rw [if_pos hg]
      have hyn := hy.2.1
      have hen := he.2.1
      have hsep := h.sep
      simp only [List.append_assoc, List.singleton_append, List.pairwise_append, List.pairwise_cons] at hsep
      obtain ⟨s1, ⟨s2, s3, s4⟩, s5⟩ := hsep
      refine ⟨⟨fun z hz => ?_, ?_⟩, fun hn => ?_, fun b t => ?_⟩
      · simp only [List.append_assoc, List.singleton_append, List.mem_append, List.mem_cons] at hz
        rcases hz with hz | rfl | hz
        · exact h.may z (by simp [hz])
        · exact hg.may hy he
        · exact h.may z (by simp [hz])
      · simp only [List.append_assoc, List.singleton_append, List.pairwise_append, List.pairwise_cons]
        refine ⟨s1, ⟨fun z hz => ?_, s4⟩, fun a ha z hz => ?_⟩
        · have := s3 z hz
          have h1 := hg.1
          unfold Sep at this ⊢
          simp only
          omega
        · rcases List.mem_cons.1 hz with rfl | hz
          · have := s5 a ha y (by simp)
            unfold Sep at this ⊢
            exact this
          · exact s5 a ha z (by simp [hz])
      · rw [noGo_concat] at hn ⊢
        exact ⟨hn.1, fun p hp hgo => hn.2 p hp ((goes_n (by
          have : p ∈ o := List.mem_of_getLast? hp
          exact (h.may p (by simp [this])).2.1)).1 hgo)⟩
      · simp only [List.append_assoc, List.singleton_append, Has.append]
        have e1 : ∀ (x : Ext) (l : List Ext), Has (x :: l) b t ↔ (In b x ∧ tell b x = t) ∨ Has l b t := fun x l => by
          rw [show x :: l = [x] ++ l from rfl, Has.append, Has.one]
        simp only [e1, join_in hg hyn hen, ← join_tell hg hyn b]
        constructor
        · rintro (h | ⟨h1 | h1, h2⟩ | h)
          · exact .inl h
          · exact .inr (.inl ⟨h1, by rw [join_tell hg hyn b] at h2; exact h2⟩)
          · exact .inr (.inr (.inl ⟨h1, h2⟩))
          · exact .inr (.inr (.inr h))
        · rintro (h | ⟨h1, h2⟩ | ⟨h1, h2⟩ | h)
          · exact .inl h
          · exact .inr (.inl ⟨.inl h1, by rw [join_tell hg hyn b]; exact h2⟩)
          · exact .inr (.inl ⟨.inr h1, h2⟩)
          · exact .inr (.inr h)
    · rw [if_neg hg]
      refine ⟨by simpa using h, fun hn => ?_, fun b t => by simp⟩
      rw [noGo_concat]
      refine ⟨hn, fun p hp => ?_⟩
      rw [List.getLast?_append] at hp
      simp at hp
      rw [← hp]
      exact hg

theorem joinGo_good : ∀ (L o : List Ext), Good (o ++ L) → NoGo o → Good (joinGo o L) ∧ NoGo (joinGo o L) ∧ ∀ b t, Has (joinGo o L) b t ↔ Has (o ++ L) b t
  | [], o, h, hn => by simpa [joinGo] using ⟨(by simpa using h : Good o), hn⟩
  | e :: r, o, h, hn => by
    obtain ⟨h1, h2, h3⟩ := joinStep_good h
    obtain ⟨h4, h5, h6⟩ := joinGo_good r (joinStep o e) h1 (h2 hn)
    exact ⟨h4, h5, fun b t => (h6 b t).trans (h3 b t)⟩

theorem join_good {L : List Ext} (h : Chk L) : Good (joinE L) ∧ NoGo (joinE L) ∧ ∀ b t, Has (joinE L) b t ↔ Has L b t := by
  rw [joinE, if_pos h]
  exact joinGo_good L [] h.good trivial

theorem joinGo_len : ∀ (L o : List Ext), (joinGo o L).length ≤ o.length + L.length
  | [], o => by simp [joinGo]
  | e :: r, o => by
    have h1 := joinGo_len r (joinStep o e)
    have h2 : (joinStep o e).length ≤ o.length + 1 := by
      unfold joinStep
      split <;> simp
    simp only [joinGo, List.length_cons]
    omega
theorem join_len (L : List Ext) : (joinE L).length ≤ L.length := by
  unfold joinE
  split
  · have := joinGo_len L []
    simpa using this
  · simp

theorem tell_lba {x : Ext} : tell x.lba x = (x.ver, x.zone, x.off) := by
  unfold tell
  simp

/-- Lists that tell the same, in which nothing goes on, are the same. -/
theorem norm_uniq : ∀ (A B : List Ext), Good A → Good B → NoGo A → NoGo B → (∀ b t, Has A b t ↔ Has B b t) → A = B
  | [], [], _, _, _, _, _ => rfl
  | [], y :: B, _, hB, _, _, h => by
    have hy := hB.may y (by simp)
    have : Has (y :: B) y.lba (tell y.lba y) := ⟨y, by simp, by have := hy.2.1; unfold In; omega, rfl⟩
    exact absurd ((h _ _).2 this) Has.nil
  | x :: A, [], hA, _, _, _, h => by
    have hx := hA.may x (by simp)
    have : Has (x :: A) x.lba (tell x.lba x) := ⟨x, by simp, by have := hx.2.1; unfold In; omega, rfl⟩
    exact absurd ((h _ _).1 this) Has.nil
  | x :: A, y :: B, hA, hB, nA, nB, h => by
    have hx := hA.may x (by simp)
    have hy := hB.may y (by simp)
    have hxn := hx.2.1
    have hyn := hy.2.1
    have sA := hA.sep
    have sB := hB.sep
    have sA' := sA
    have sB' := sB
    rw [List.pairwise_cons] at sA' sB'
    have lowB : ∀ e ∈ y :: B, y.lba ≤ e.lba := fun e he => by
      rcases List.mem_cons.1 he with rfl | he
      · omega
      · have := sB'.1 e he
        unfold Sep at this
        omega
    have lowA : ∀ e ∈ x :: A, x.lba ≤ e.lba := fun e he => by
      rcases List.mem_cons.1 he with rfl | he
      · omega
      · have := sA'.1 e he
        unfold Sep at this
        omega
    have hl : x.lba = y.lba := by
      obtain ⟨e, he, hi, _⟩ := (h x.lba (tell x.lba x)).1 ⟨x, by simp, by unfold In; omega, rfl⟩
      obtain ⟨f, hf, hj, _⟩ := (h y.lba (tell y.lba y)).2 ⟨y, by simp, by unfold In; omega, rfl⟩
      have := lowB e he
      have := lowA f hf
      unfold In at hi hj
      omega
    have ht : tell x.lba x = tell y.lba y := by
      refine Has.uniq sB (b := x.lba) ((h _ _).1 ⟨x, by simp, by unfold In; omega, rfl⟩) ⟨y, by simp, by unfold In; omega, by rw [hl]⟩
    rw [tell_lba, tell_lba] at ht
    simp only [Prod.mk.injEq] at ht
    obtain ⟨t1, t2, t3⟩ := ht
    -- the extent that begins where a shorter one ends goes on
    have goOn : ∀ (u v : Ext) (R S : List Ext), Good (u :: R) → Good (v :: S) → NoGo (u :: R) → (∀ b t, Has (v :: S) b t → Has (u :: R) b t) → u.lba = v.lba → v.ver = u.ver → v.zone = u.zone → v.off = u.off → ¬ u.n < v.n := by
      intro u v R S hU hV hN hh q1 q2 q3 q4 hlt
      have hu := hU.may u (by simp)
      have hun := hu.2.1
      obtain ⟨e, he, hi, hte⟩ := hh (u.lba + u.n) (tell (u.lba + u.n) v) ⟨v, by simp, by unfold In; omega, rfl⟩
      have sU := hU.sep
      rw [List.pairwise_cons] at sU
      unfold In at hi
      rcases List.mem_cons.1 he with rfl | he
      · omega
      · cases R with
        | nil => cases he
        | cons z R =>
          have hz := hU.may z (by simp)
          have hzn := hz.2.1
          have z1 := sU.1 z (by simp)
          unfold Sep at z1
          have hez : e = z := by
            rcases List.mem_cons.1 he with rfl | he
            · rfl
            · have s2 := sU.2
              rw [List.pairwise_cons] at s2
              have := s2.1 e he
              unfold Sep at this
              omega
          subst hez
          have hel : e.lba = u.lba + u.n := by omega
          refine hN.1 (Goes.of hun hel ?_ ?_ ?_)
          · have := congrArg (·.1) hte
            simp only [tell] at this
            omega
          · have := congrArg (·.2.1) hte
            simp only [tell] at this
            omega
          · have h3 := congrArg (·.2.1) hte
            have h4 := congrArg (·.2.2) hte
            simp only [tell] at h3 h4
            rw [h3, q3] at h4
            by_cases hz1 : u.zone = -1
            · simp only [hz1, if_true] at h4 ⊢
              omega
            · simp only [hz1, if_false] at h4 ⊢
              rw [hel] at h4
              omega
    have n1 := goOn x y A B hA hB nA (fun b t ht => (h b t).2 ht) hl t1.symm t2.symm t3.symm
    have n2 := goOn y x B A hB hA nB (fun b t ht => (h b t).1 ht) hl.symm t1 t2 t3
    have hxy : x = y := by
      cases x
      cases y
      simp only [Ext.mk.injEq] at *
      exact ⟨hl, by omega, t1, t2, t3⟩
    subst hxy
    have hAB : A = B := by
      refine norm_uniq A B ⟨fun e he => hA.may e (by simp [he]), sA'.2⟩ ⟨fun e he => hB.may e (by simp [he]), sB'.2⟩ nA.tail nB.tail fun b t => ?_
      have e1 : ∀ (l : List Ext), Has (x :: l) b t ↔ (In b x ∧ tell b x = t) ∨ Has l b t := fun l => by
        rw [show x :: l = [x] ++ l from rfl, Has.append, Has.one]
      have h0 := h b t
      rw [e1, e1] at h0
      constructor
      · intro hh
        rcases h0.1 (.inr hh) with ⟨hi, _⟩ | h1
        · obtain ⟨e, he, hj, _⟩ := hh
          have := sA'.1 e he
          unfold Sep at this
          unfold In at hi hj
          omega
        · exact h1
      · intro hh
        rcases h0.2 (.inr hh) with ⟨hi, _⟩ | h1
        · obtain ⟨e, he, hj, _⟩ := hh
          have := sB'.1 e he
          unfold Sep at this
          unfold In at hi hj
          omega
        · exact h1
    rw [hAB]
end Go.Proofs
