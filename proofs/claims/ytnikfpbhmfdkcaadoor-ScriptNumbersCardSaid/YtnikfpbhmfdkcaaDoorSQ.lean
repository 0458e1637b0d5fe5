/- Script: what is written is read as what it was. In plain Lean. -/
import Derived.Test.YtnikfpbhmfdkcaaDoorSP
namespace Go.Script
set_option linter.unusedVariables false
set_option linter.unusedSimpArgs false
set_option linter.unusedSectionVars false

theorem mem_digs {n : Nat} {c : UInt8} (h : c ∈ digs n) : 48 ≤ c.toNat ∧ c.toNat ≤ 57 := by
  have := List.all_eq_true.1 (digs_all n) c h
  simpa [isDig] using this
theorem digs_no (n : Nat) (c : UInt8) (h : c.toNat < 48) : c ∉ digs n := fun hm => by have := (mem_digs hm).1; omega
def joined (ws : List L8) : L8 := (ws.map fun w => 32 :: w).flatten
theorem words_join : ∀ (ws : List L8) (w : L8), (32 : UInt8) ∉ w → (∀ v ∈ ws, (32 : UInt8) ∉ v) → words (w ++ joined ws) = w :: ws
  | [], w, h, _ => by simp [joined]; exact words_plain w h
  | v :: ws, w, h, hv => by
    have e : w ++ joined (v :: ws) = w ++ 32 :: (v ++ joined ws) := by simp [joined]
    rw [e, words_cons w _ h, words_join ws v (hv v (by simp)) fun u hu => hv u (by simp [hu])]
theorem joined_append (a b : List L8) : joined (a ++ b) = joined a ++ joined b := by simp [joined]
theorem mem_joined {ws : List L8} {c : UInt8} (hc : c ≠ 32) (h : ∀ v ∈ ws, c ∉ v) : c ∉ joined ws := by
  intro hm
  simp only [joined, List.mem_flatten, List.mem_map] at hm
  obtain ⟨l, ⟨v, hv, rfl⟩, h2⟩ := hm
  simp only [List.mem_cons] at h2
  exact h2.elim hc (h v hv)

theorem get_set {j k : Nat} (hj : 1 ≤ j ∧ j ≤ 6) (hk : 1 ≤ k ∧ k ≤ 6) (h : j ≠ k) (a : Ac) (v : Int) : (a.set j v).get k = a.get k := by
  have : j = 1 ∨ j = 2 ∨ j = 3 ∨ j = 4 ∨ j = 5 ∨ j = 6 := by omega
  have : k = 1 ∨ k = 2 ∨ k = 3 ∨ k = 4 ∨ k = 5 ∨ k = 6 := by omega
  rcases ‹j = 1 ∨ _› with rfl | rfl | rfl | rfl | rfl | rfl <;> rcases ‹k = 1 ∨ _› with rfl | rfl | rfl | rfl | rfl | rfl <;> first | rfl | exact absurd rfl h
theorem numP_good {s : Pr} {n : Int} (h : (numP s n).bad = false) : s.bad = false ∧ 0 ≤ n ∧ n ≤ 1000000000000 ∧ numP s n = ⟨s.bs ++ 32 :: digs n.toNat, false⟩ := by
  unfold numP at h ⊢
  split at h
  · cases h
  · rename_i hc
    rw [if_neg hc]
    exact ⟨h, by omega, by omega, by rw [h]⟩
theorem numsP_good : ∀ (fs : List Nat) (s : Pr) (a : Ac), fs.Nodup → (∀ k ∈ fs, 1 ≤ k ∧ k ≤ 6) → (numsP fs s a).1.bad = false →
    s.bad = false ∧ (∀ k ∈ fs, 0 ≤ a.get k ∧ a.get k ≤ 1000000000000) ∧ (numsP fs s a).1.bs = s.bs ++ joined (fs.map fun k => digs (a.get k).toNat)
  | [], s, a, _, _, h => ⟨h, by simp, by simp [numsP, joined]⟩
  | k :: fs, s, a, hn, hk, h => by
    unfold numsP at h ⊢
    obtain ⟨hn1, hn2⟩ := List.nodup_cons.1 hn
    obtain ⟨h1, h2, h3⟩ := numsP_good fs _ _ hn2 (fun x hx => hk x (by simp [hx])) h
    obtain ⟨h4, h5, h6, h7⟩ := numP_good h1
    have hget : ∀ j ∈ fs, (a.set k 0).get j = a.get j := fun j hj => get_set (hk k (by simp)) (hk j (by simp [hj])) (fun e => hn1 (e ▸ hj)) a 0
    refine ⟨h4, fun j hj => ?_, ?_⟩
    · rcases List.mem_cons.1 hj with rfl | hj
      · exact ⟨h5, h6⟩
      · have := h2 j hj
        rwa [hget j hj] at this
    · rw [h3, h7]
      have : (fs.map fun j => digs ((a.set k 0).get j).toNat) = fs.map fun j => digs (a.get j).toNat := List.map_congr_left fun j hj => by rw [hget j hj]
      rw [this]
      simp [joined]
theorem numsP_snd : ∀ (fs : List Nat) (s : Pr) (a : Ac), (numsP fs s a).2 = fs.foldl (fun a k => a.set k 0) a
  | [], _, _ => rfl
  | k :: fs, s, a => by
    unfold numsP
    rw [numsP_snd fs]
    rfl
theorem laid_good : ∀ (fs : List Nat) (z : Ac) (g : Nat → Int), (∀ k ∈ fs, 0 ≤ g k ∧ g k ≤ 1000000000000) → laid fs (fs.map fun k => digs (g k).toNat) z = some (fs.foldl (fun z k => z.set k (g k)) z)
  | [], _, _, _ => rfl
  | k :: fs, z, g, h => by
    have h1 := h k (by simp)
    rw [List.map_cons, laid, numL_digs, if_pos (by omega)]
    simp only [List.foldl_cons]
    have e : ((g k).toNat : Int) = g k := by omega
    rw [e]
    exact laid_good fs _ g fun j hj => h j (by simp [hj])
theorem flds_form (d : Int) : flds d = [1] ∨ flds d = [1, 2] ∨ flds d = [1, 3, 4] ∨ flds d = [1, 3, 4, 5] ∨ flds d = [1, 3, 4, 5, 6] ∨ flds d = [4] ∨ flds d = [] := by
  unfold flds
  repeat' split
  all_goals simp
theorem refill {a : Ac} (h : (flds a.d).foldl (fun a k => a.set k 0) a = Ac.zero a.d) : (flds a.d).foldl (fun z k => z.set k (a.get k)) (Ac.zero a.d) = a := by
  obtain ⟨d, h1, h2, h3, h4, h5, h6⟩ := a
  simp only at h ⊢
  rcases flds_form d with e | e | e | e | e | e | e <;> rw [e] at h ⊢ <;> simp [Ac.set, Ac.zero, Ac.get] at h ⊢ <;> simp [h]

theorem act_word : ∀ q : Nat, q < 13 → actW.getD q [] ≠ [] → findL actW (actW.getD q []) = q ∧ q ≠ 0 ∧ (32 : UInt8) ∉ actW.getD q [] ∧ (10 : UInt8) ∉ actW.getD q [] := by decide
theorem step_word : ∀ q : Nat, q < 9 → stepW.getD q [] ≠ [] → findL stepW (stepW.getD q []) = q ∧ q ≠ 0 ∧ (32 : UInt8) ∉ stepW.getD q [] ∧ (10 : UInt8) ∉ stepW.getD q [] := by decide
theorem wordA {d : Int} (h : wordL actW d ≠ []) : (findL actW (wordL actW d) : Int) = d ∧ d ≠ 0 ∧ (32 : UInt8) ∉ wordL actW d ∧ (10 : UInt8) ∉ wordL actW d := by
  unfold wordL at h ⊢
  split at h
  · exact absurd rfl h
  · rename_i hc
    rw [if_neg hc]
    have h13 : actW.length = 13 := rfl
    obtain ⟨h1, h2, h3, h4⟩ := act_word d.toNat (by omega) h
    exact ⟨by rw [h1]; omega, by omega, h3, h4⟩
theorem wordS {d : Int} (h : wordL stepW d ≠ []) : (findL stepW (wordL stepW d) : Int) = d ∧ d ≠ 0 ∧ (32 : UInt8) ∉ wordL stepW d ∧ (10 : UInt8) ∉ wordL stepW d := by
  unfold wordL at h ⊢
  split at h
  · exact absurd rfl h
  · rename_i hc
    rw [if_neg hc]
    have h13 : stepW.length = 9 := rfl
    obtain ⟨h1, h2, h3, h4⟩ := step_word d.toNat (by omega) h
    exact ⟨by rw [h1]; omega, by omega, h3, h4⟩

/-- A step's words. -/
def actWs (a : Ac) : List L8 := wordL actW a.d :: (flds a.d).map fun k => digs (a.get k).toNat
def stepWs (x : Stp) : List L8 := (if hasWho x.d then [digs x.who.toNat] else []) ++ (if hasAct x.d then actWs x.a else [])
def lineL (x : Stp) : L8 := wordL stepW x.d ++ joined (stepWs x)

theorem flds_ok (d : Int) : (flds d).Nodup ∧ ∀ k ∈ flds d, 1 ≤ k ∧ k ≤ 6 := by
  rcases flds_form d with e | e | e | e | e | e | e <;> rw [e] <;> decide
theorem actP_good {s : Pr} {a : Ac} (h : (actP s a).bad = false) : s.bad = false ∧ wordL actW a.d ≠ [] ∧ (∀ k ∈ flds a.d, 0 ≤ a.get k ∧ a.get k ≤ 1000000000000) ∧ (flds a.d).foldl (fun a k => a.set k 0) a = Ac.zero a.d ∧ actP s a = ⟨s.bs ++ joined (actWs a), false⟩ := by
  have hd : actP s a = ⟨(numsP (flds a.d) ⟨s.bs ++ 32 :: wordL actW a.d, s.bad || wordL actW a.d == []⟩ a).1.bs, (numsP (flds a.d) ⟨s.bs ++ 32 :: wordL actW a.d, s.bad || wordL actW a.d == []⟩ a).1.bad || decide ((numsP (flds a.d) ⟨s.bs ++ 32 :: wordL actW a.d, s.bad || wordL actW a.d == []⟩ a).2 ≠ Ac.zero a.d)⟩ := rfl
  rw [hd] at h
  simp only [Bool.or_eq_false_iff, decide_eq_false_iff_not, Decidable.not_not] at h
  obtain ⟨h1, h2⟩ := h
  obtain ⟨hn, hk⟩ := flds_ok a.d
  obtain ⟨h3, h4, h5⟩ := numsP_good _ _ _ hn hk h1
  simp only [Bool.or_eq_false_iff, beq_eq_false_iff_ne, ne_eq] at h3
  rw [numsP_snd] at h2
  have h2' : (flds a.d).foldl (fun a k => a.set k 0) a = Ac.zero a.d := by simpa using h2
  refine ⟨h3.1, h3.2, h4, h2', ?_⟩
  rw [hd, h1, h5, numsP_snd, h2']
  simp [joined, actWs]
theorem stepP_good {s : Pr} {x : Stp} (h : (stepP s x).bad = false) (hby : x.a.by_ < 256) : s.bad = false ∧ stepP s x = ⟨s.bs ++ lineL x ++ [10], false⟩ ∧ readL (lineL x) = some x ∧ (10 : UInt8) ∉ lineL x ∧ lineL x ≠ [] := by
  unfold stepP at h
  simp only at h
  split at h
  · cases h
  rename_i hc
  simp only [not_or, not_and, Decidable.not_not] at hc
  obtain ⟨hw, hwho, hact⟩ := hc
  obtain ⟨f1, f2, f3, f4⟩ := wordS hw
  have hwd : words (lineL x) = wordL stepW x.d :: stepWs x ∧ (10 : UInt8) ∉ lineL x := by
    have hns : ∀ v ∈ stepWs x, (32 : UInt8) ∉ v ∧ (10 : UInt8) ∉ v := by
      intro v hv
      unfold stepWs at hv
      rcases List.mem_append.1 hv with hv | hv
      · split at hv
        · obtain rfl : v = _ := by simpa using hv
          exact ⟨digs_no _ _ (by decide), digs_no _ _ (by decide)⟩
        · cases hv
      · split at hv
        · rename_i hA
          rw [hA] at h
          simp only [if_true] at h
          obtain ⟨_, g2, _⟩ := actP_good h
          obtain ⟨_, _, g3, g4⟩ := wordA g2
          unfold actWs at hv
          rcases List.mem_cons.1 hv with rfl | hv
          · exact ⟨g3, g4⟩
          · obtain ⟨k, _, rfl⟩ := List.mem_map.1 hv
            exact ⟨digs_no _ _ (by decide), digs_no _ _ (by decide)⟩
        · cases hv
    refine ⟨words_join _ _ f3 fun v hv => (hns v hv).1, ?_⟩
    intro hm
    rcases List.mem_append.1 hm with h1 | h1
    · exact f4 h1
    · exact mem_joined (by decide) (fun v hv => (hns v hv).2) h1
  have hne : lineL x ≠ [] := by
    unfold lineL
    simp [hw]
  have hread : ∀ r, readL (lineL x) = r ↔ (if hasWho x.d then match stepWs x with
      | [] => none
      | v :: w => match numL v with
        | some n => readB w ⟨x.d, n, Ac.zero 0⟩
        | none => none
    else readB (stepWs x) ⟨x.d, 0, Ac.zero 0⟩) = r := by
    intro r
    unfold readL
    simp only [hwd.1, List.headD_cons, List.tail_cons, f1]
    cases hasWho x.d with
    | true =>
      simp only [if_true]
      cases stepWs x with
      | nil => rfl
      | cons v w =>
        simp only
        cases numL v <;> rfl
    | false => rfl
  have hact2 : ∀ s2 : Pr, hasAct x.d = true → (actP s2 x.a).bad = false → s2.bad = false ∧ actP s2 x.a = ⟨s2.bs ++ joined (actWs x.a), false⟩ ∧ ∀ who, readB (actWs x.a) ⟨x.d, who, Ac.zero 0⟩ = some ⟨x.d, who, x.a⟩ := by
    intro s2 hA hb
    obtain ⟨g1, g2, g3, g4, g5⟩ := actP_good hb
    refine ⟨g1, g5, fun who => ?_⟩
    obtain ⟨k1, k2, _, _⟩ := wordA g2
    unfold readB
    simp only [hA, if_true]
    unfold readA actWs
    simp only [k1, k2, if_false, laid_good _ _ _ g3, refill g4, hby, if_true]
  cases hW : hasWho x.d with
  | true =>
    rw [hW] at h hwho
    simp only [if_true] at h
    cases hA : hasAct x.d with
    | true =>
      rw [hA] at h
      simp only [if_true] at h
      obtain ⟨g1, g2, g3⟩ := hact2 _ hA h
      obtain ⟨n1, n2, n3, n4⟩ := numP_good g1
      simp only at n4
      rw [n4] at g2
      simp only at g2
      refine ⟨n1, ?_, ?_, hwd.2, hne⟩
      · unfold stepP
        simp only [hW, hA, hw, false_or, if_true, Bool.true_eq_false, false_and, or_self, if_false, n4, g2]
        simp [lineL, stepWs, hW, hA, joined]
      · rw [hread]
        simp only [hW, if_true, stepWs, hA, List.singleton_append, numL_digs]
        rw [if_pos (by omega)]
        simp only
        rw [show ((x.who.toNat : Nat) : Int) = x.who by omega, g3]
    | false =>
      rw [hA] at h hact
      simp only [Bool.false_eq_true, if_false] at h
      obtain ⟨n1, n2, n3, n4⟩ := numP_good h
      have hz := hact rfl
      refine ⟨n1, ?_, ?_, hwd.2, hne⟩
      · unfold stepP
        simp only [hW, hA, hw, hz, false_or, if_true, Bool.true_eq_false, false_and, or_self, if_false, n4, ne_eq, not_true_eq_false, and_false, Bool.false_eq_true]
        simp [lineL, stepWs, hW, hA, joined]
      · rw [hread]
        simp only [hW, if_true, stepWs, hA, Bool.false_eq_true, if_false, List.append_nil, numL_digs]
        rw [if_pos (by omega)]
        simp only
        rw [show ((x.who.toNat : Nat) : Int) = x.who by omega]
        unfold readB
        simp only [hA, Bool.false_eq_true, if_false, and_true]
        have hd0 : 0 < x.d := by
          have : x.d ≠ 0 := f2
          have h9 : ¬ x.d < 0 := fun hl => hw (by unfold wordL; rw [if_pos (.inl hl)])
          omega
        rw [if_pos hd0, ← hz]
  | false =>
    have hA : hasAct x.d = true := by
      simp [hasWho] at hW
      simp [hasAct, hW]
    rw [hW] at h hwho
    rw [hA] at h
    simp only [if_true, Bool.false_eq_true, if_false] at h
    have h0 := hwho rfl
    obtain ⟨g1, g2, g3⟩ := hact2 _ hA h
    refine ⟨g1, ?_, ?_, hwd.2, hne⟩
    · unfold stepP
      simp only [hW, hA, hw, h0, false_or, if_true, Bool.true_eq_false, false_and, or_self, if_false, g2, ne_eq, not_true_eq_false, and_false, Bool.false_eq_true]
      simp [lineL, stepWs, hW, hA, joined]
    · rw [hread]
      simp only [hW, Bool.false_eq_true, if_false, stepWs, hA, if_true, List.nil_append]
      rw [g3, ← h0]

theorem cutL_line : ∀ (l r : L8), (10 : UInt8) ∉ l → cutL (l ++ 10 :: r) = (l, r, true)
  | [], r, _ => by simp [cutL]
  | c :: l, r, h => by
    simp only [List.mem_cons, not_or] at h
    rw [List.cons_append, cutL, if_neg (fun e => h.1 e.symm), cutL_line l r h.2]
theorem cutL_open : ∀ (l : L8), (10 : UInt8) ∉ l → cutL l = (l, [], false)
  | [], _ => rfl
  | c :: l, h => by
    simp only [List.mem_cons, not_or] at h
    rw [cutL, if_neg (fun e => h.1 e.symm), cutL_open l h.2]

/-- The text of steps. -/
def textL (L : List Stp) : L8 := (L.map fun x => lineL x ++ [10]).flatten
theorem foldP_good : ∀ (L : List Stp) (s : Pr), (∀ x ∈ L, x.a.by_ < 256) → (L.foldl stepP s).bad = false → s.bad = false ∧ L.foldl stepP s = ⟨s.bs ++ textL L, false⟩ ∧ ∀ x ∈ L, readL (lineL x) = some x ∧ (10 : UInt8) ∉ lineL x ∧ lineL x ≠ []
  | [], s, _, h => ⟨h, by simp [textL]; cases s; simp_all, by simp⟩
  | x :: L, s, hby, h => by
    rw [List.foldl_cons] at h
    obtain ⟨h1, h2, h3⟩ := foldP_good L _ (fun y hy => hby y (by simp [hy])) h
    obtain ⟨g1, g2, g3, g4, g5⟩ := stepP_good h1 (hby x (by simp))
    refine ⟨g1, ?_, fun y hy => ?_⟩
    · rw [List.foldl_cons, h2, g2]
      simp [textL]
    · rcases List.mem_cons.1 hy with rfl | hy
      · exact ⟨g3, g4, g5⟩
      · exact h3 y hy
theorem printP_good {L : List Stp} (hby : ∀ x ∈ L, x.a.by_ < 256) (h : (printP L).bad = false) : (printP L).bs = textL L ∧ ∀ x ∈ L, readL (lineL x) = some x ∧ (10 : UInt8) ∉ lineL x ∧ lineL x ≠ [] := by
  obtain ⟨_, h2, h3⟩ := foldP_good L ⟨[], false⟩ hby h
  exact ⟨by unfold printP; rw [h2]; simp, h3⟩
/-- Lines that are whole, and what is behind them. -/
theorem parse_lines : ∀ (L : List Stp) (r : L8) (f : Nat) (out : List Stp) (n : Nat), (∀ x ∈ L, readL (lineL x) = some x ∧ (10 : UInt8) ∉ lineL x ∧ lineL x ≠ []) → (textL L ++ r).length < f → ∃ f', r.length < f' ∧ parseF f (textL L ++ r) out n = parseF f' r (out ++ L) (n + L.length)
  | [], r, f, out, n, _, hf => ⟨f, by simpa [textL] using hf, by simp [textL]⟩
  | x :: L, r, f, out, n, h, hf => by
    obtain ⟨h1, h2, h3⟩ := h x (by simp)
    have e : textL (x :: L) ++ r = lineL x ++ 10 :: (textL L ++ r) := by simp [textL]
    rw [e] at hf ⊢
    obtain ⟨f, rfl⟩ : ∃ g, f = g + 1 := ⟨f - 1, by omega⟩
    simp only [List.length_append, List.length_cons] at hf
    obtain ⟨f', g1, g2⟩ := parse_lines L r f (out ++ [x]) (n + 1) (fun y hy => h y (by simp [hy])) (by simp only [List.length_append]; omega)
    refine ⟨f', g1, ?_⟩
    rw [parseF, if_neg (by simp), cutL_line _ _ h2]
    simp only [h1]
    rw [g2]
    simp
    congr 1
    omega
theorem parse_back {L : List Stp} (h : ∀ x ∈ L, readL (lineL x) = some x ∧ (10 : UInt8) ∉ lineL x ∧ lineL x ≠ []) (hl : (textL L).length ≤ 100000) : parseL (textL L) = (L, 0, 0) := by
  unfold parseL
  rw [if_neg (by omega)]
  obtain ⟨f', g1, g2⟩ := parse_lines L [] ((textL L).length + 1) [] 1 h (by simp)
  rw [List.append_nil] at g2
  rw [g2]
  obtain ⟨f, rfl⟩ : ∃ g, f' = g + 1 := ⟨f' - 1, by simp at g1; omega⟩
  simp [parseF]
theorem parse_cut {L : List Stp} (h : ∀ x ∈ L, readL (lineL x) = some x ∧ (10 : UInt8) ∉ lineL x ∧ lineL x ≠ []) (hl : (textL L).length ≤ 100000) (hne : L ≠ []) : parseL ((textL L).take ((textL L).length - 1)) = ([], L.length, 21) := by
  obtain ⟨M, x, rfl⟩ : ∃ M x, L = M ++ [x] := ⟨L.dropLast, L.getLast hne, (List.dropLast_concat_getLast hne).symm⟩
  obtain ⟨h1, h2, h3⟩ := h x (by simp)
  have e : textL (M ++ [x]) = (textL M ++ lineL x) ++ [10] := by simp [textL]
  have et : (textL (M ++ [x])).take ((textL (M ++ [x])).length - 1) = textL M ++ lineL x := by
    rw [e, List.length_append, List.length_singleton, Nat.add_sub_cancel, List.take_left]
  rw [et]
  have hl2 : (textL M ++ lineL x).length ≤ 100000 := by rw [e] at hl; simp at hl ⊢; omega
  unfold parseL
  rw [if_neg (by omega)]
  obtain ⟨f', g1, g2⟩ := parse_lines M (lineL x) ((textL M ++ lineL x).length + 1) [] 1 (fun y hy => h y (by simp [hy])) (by omega)
  rw [g2]
  obtain ⟨f, rfl⟩ : ∃ g, f' = g + 1 := ⟨f' - 1, by omega⟩
  rw [parseF, if_neg h3, cutL_open _ h2]
  simp only [h1]
  simp
  omega
end Go.Script
