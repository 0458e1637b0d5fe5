/-
  Part 4 m: maps keyed by ints. Holds for every program.
-/
import Derived.Test.YtnmjdelnllchdaaSx4
namespace Go.SX
set_option linter.unusedVariables false
set_option linter.unusedSimpArgs false
set_option linter.unusedSectionVars false
open Go

theorem IMap.unique {l : List (Int × SV × Nat)} (h : (l.map (·.1)).Nodup) {k : Int} {x y : SV} {n n' : Nat} (h1 : (k, x, n) ∈ l) (h2 : (k, y, n') ∈ l) : x = y ∧ n = n' := by
  induction l with
  | nil => cases h1
  | cons e l ih =>
    simp only [List.map_cons, List.nodup_cons, List.mem_map] at h
    rcases List.mem_cons.1 h1 with e1 | e1 <;> rcases List.mem_cons.1 h2 with e2 | e2
    · have := e1.trans e2.symm
      simp only [Prod.mk.injEq, true_and] at this
      exact this
    · exact absurd ⟨_, e2, by rw [← e1]⟩ h.1
    · exact absurd ⟨_, e1, by rw [← e2]⟩ h.1
    · exact ih h.2 e1 e2

theorem findNow_map (k : Int) : ∀ (l : List (Int × SV × Nat)) (i : Nat), Instr.findNow (.int .i64) (.int .i64 k) (l.map mkEntry) i = some ((l.findIdx? (fun e => k == e.1)).map fun j => (i + j, ((l[j]?).map fun e => den e.2.1).getD undef))
  | [], i => by simp [Instr.findNow]
  | e :: l, i => by
    simp only [List.map_cons, Instr.findNow, mkEntry, Instr.sameNow, if_true]
    by_cases h : (k == e.1) = true
    · simp [h, List.findIdx?_cons]
    · simp only [h]
      rw [findNow_map k l (i + 1)]
      simp only [List.findIdx?_cons, h, Bool.false_eq_true, if_false, Option.map_map]
      cases l.findIdx? (fun e => k == e.1) with
      | none => rfl
      | some j => simp; omega

theorem find_some {l : List (Int × SV × Nat)} {k : Int} {j : Nat} (h : l.findIdx? (fun e => k == e.1) = some j) : ∃ x n, l[j]? = some (k, x, n) := by
  rw [List.findIdx?_eq_some_iff_getElem] at h
  obtain ⟨hj, h1, _⟩ := h
  rcases hl : l[j] with ⟨k', x, n⟩
  have : k = k' := by simpa [hl] using h1
  subst this
  exact ⟨x, n, by rw [List.getElem?_eq_getElem hj, hl]⟩

theorem find_none {l : List (Int × SV × Nat)} {k : Int} (h : l.findIdx? (fun e => k == e.1) = none) : ∀ x n, (k, x, n) ∉ l := by
  intro x n hm
  rw [List.findIdx?_eq_none_iff] at h
  have := h _ hm
  simp at this

theorem run_checkKey_int {P : Program} {kt : TypeId} (hk : P.underlying kt = some (.int .i64)) (e : Bool) (k : Int) (w : World) (n : Nat) : (Instr.checkKey e (n + 1) kt (.int .i64 k)).run P w = .ok () w := by
  simp only [Instr.checkKey, Sem.run_bind, run_underlying hk, Result.andThen_ok, Sem.run_pure]
theorem sameBits_int (k : Int) (n : Nat) : Instr.sameBits n (.int .i64 k) (.int .i64 k) = true := by
  cases n <;> simp [Instr.sameBits]

/-- 'm[k]', 'v, ok := m[k]'. -/
def evLookup (tt : List (Nat × TI)) (hp : Hp) (t : TypeId) (x ix : SV) (ok : Bool) : Ev :=
  match lookT tt t, ix with
  | some { d := .map kt et, .. }, .v (.int .i64 k) => match lookT tt kt, lookT tt et, x with
    | some { d := .int .i64, .. }, some te, .mp i b => match hp[i]? with
      | some (b', _, .imap m) => match m k with
        | some y => some ([b = b'], if ok then .tu [y, .v (.bool true)] else y)
        | none => some ([b = b'], if ok then .tu [.v te.zero, .v (.bool false)] else .v te.zero)
      | some (b', _, .iset p) => if ok then none else match te.zero with
        | .bool false => some ([b = b'], .v (.bool (p k)))
        | _ => none
      | _ => none
    | _, _, _ => none
  | _, _ => none

theorem run_lookup {P : Program} {t kt et : TypeId} {te : TI} {b : Nat} {es : Array MapEntry} {clk : Nat} {m : Int → Option SV} {w : World} (ht : P.underlying t = some (.map kt et)) (hk : P.underlying kt = some (.int .i64)) (he : te.ok P et)
    (hb : w.heap[b]? = some (.map es clk)) (hm : IMap es clk m) (k : Int) (ok : Bool) :
    (Instr.lookup t (.map (some b)) (.int .i64 k) ok).run P w = .ok (match m k with
      | some y => if ok then .tuple #[den y, .bool true] else den y
      | none => if ok then .tuple #[te.zero, .bool false] else te.zero) w := by
  obtain ⟨l, rfl, h1, h2, h3, h4⟩ := hm
  have hck : ∀ e : Bool, (Instr.checkKey e 10000 kt (.int .i64 k)).run P w = .ok () w := fun e => run_checkKey_int hk e k w 9999
  have hgo : (getObj b).run P w = .ok (.map (l.map mkEntry).toArray clk) w := by simp [getObj, Sem.run, hb]
  have hfk : (Instr.findKey kt (.int .i64 k) (l.map mkEntry)).run P w = .ok ((l.findIdx? (fun e => k == e.1)).map fun j => (0 + j, ((l[j]?).map fun e => den e.2.1).getD undef)) w := by
    simp only [Instr.findKey, Sem.run_bind, run_underlying hk, Result.andThen_ok, findNow_map, Sem.run_pure]
  simp only [Instr.lookup, Sem.run_bind, run_underlying ht, Result.andThen_ok, hgo, Sem.run_pure, hck, hfk]
  cases hf : l.findIdx? (fun e => k == e.1) with
  | none =>
    have hmk : m k = none := by
      cases hx : m k with
      | none => rfl
      | some x => obtain ⟨n, hn⟩ := (h4 k x).1 hx; exact absurd hn (find_none hf x n)
    simp only [Option.map_none, Sem.run_bind, run_zeroValue' he, Result.andThen_ok, Sem.run_pure, hmk]
    try (cases ok <;> rfl)
  | some j =>
    obtain ⟨x, n, hx⟩ := find_some hf
    have hmk : m k = some x := (h4 k x).2 ⟨n, List.mem_of_getElem? hx⟩
    simp only [Option.map_some, hmk, hx, Option.getD_some]
    cases ok <;> rfl

theorem evLookup_sound {P : Program} {tt : List (Nat × TI)} (htt : TTok P tt) {hp : Hp} {w : World} (hh : HpRep hp w) {t : TypeId} {x ix y : SV} {ok : Bool} {obs : List Prop}
    (h : evLookup tt hp t x ix ok = some (obs, y)) (ho : ∀ p ∈ obs, p) : (Instr.lookup t (den x) (den ix) ok).run P w = .ok (den y) w := by
  unfold evLookup at h
  split at h
  · rename_i kt et _ _ _ k hti
    have hu := (htt _ _ hti).map rfl
    split at h
    · rename_i _ _ _ te i b hkt het
      have hk := (htt _ _ hkt).int rfl
      have he := htt _ _ het
      split at h
      · rename_i b' mm m hi
        obtain ⟨es, clk, hb, hm⟩ := hh i b' mm _ hi
        have hr := run_lookup (w := w) hu hk he hb hm k ok
        split at h
        · rename_i z hz
          cases h
          have e : b = b' := ho _ (by simp)
          subst e
          rw [hz] at hr
          simp only [den, hr]
          cases ok <;> simp [den, denL]
        · rename_i hz
          cases h
          have e : b = b' := ho _ (by simp)
          subst e
          rw [hz] at hr
          simp only [den, hr]
          cases ok <;> simp [den, denL]
      · rename_i b' mm p hi
        obtain ⟨es, clk, hb, hm⟩ := hh i b' mm _ hi
        have hr := run_lookup (w := w) hu hk he hb hm k ok
        split at h
        · cases h
        rename_i hok
        have hok' : ok = false := by simpa using hok
        subst hok'
        split at h
        · rename_i hz
          cases h
          have e : b = b' := ho _ (by simp)
          subst e
          simp only [den, hr, hz, setFn]
          cases hp : p k <;> simp [den]
        · cases h
      · cases h
    · cases h
  · cases h

def updFn (m : Int → Option SV) (k : Int) (x : SV) : Int → Option SV := fun j => if j = k then some x else m j
def addFn (p : Int → Bool) (k : Int) : Int → Bool := fun j => j == k || p j

theorem IMap.push {l : List (Int × SV × Nat)} {clk : Nat} {m : Int → Option SV} {k : Int} {x : SV} (h1 : (l.map (·.1)).Nodup) (h2 : (l.map (·.2.2)).Nodup) (h3 : ∀ e ∈ l, e.2.2 < clk) (h4 : ∀ k x, m k = some x ↔ ∃ n, (k, x, n) ∈ l)
    (hn : ∀ x n, (k, x, n) ∉ l) : IMap ((l.map mkEntry).toArray.push { key := .int .i64 k, val := den x, born := clk }) (clk + 1) (updFn m k x) := by
  refine ⟨l ++ [(k, x, clk)], by simp [mkEntry], ?_, ?_, ?_, ?_⟩
  · rw [List.map_append, List.nodup_append]
    refine ⟨h1, by simp, fun a ha b hb hab => ?_⟩
    simp only [List.map_cons, List.map_nil, List.mem_singleton] at hb
    obtain ⟨e, he, rfl⟩ := List.mem_map.1 ha
    subst hb
    exact hn e.2.1 e.2.2 (by rw [← hab]; exact he)
  · rw [List.map_append, List.nodup_append]
    refine ⟨h2, by simp, fun a ha b hb hab => ?_⟩
    simp only [List.map_cons, List.map_nil, List.mem_singleton] at hb
    obtain ⟨e, he, rfl⟩ := List.mem_map.1 ha
    have := h3 e he
    omega
  · intro e he
    rcases List.mem_append.1 he with he | he
    · have := h3 e he; omega
    · simp only [List.mem_singleton] at he; subst he; simp
  · intro j y
    simp only [updFn, List.mem_append, List.mem_singleton]
    by_cases hj : j = k
    · subst hj
      simp only [if_true, Option.some.injEq]
      constructor
      · rintro rfl; exact ⟨clk, .inr rfl⟩
      · rintro ⟨n, hy | hy⟩
        · exact absurd hy (hn y n)
        · cases hy; rfl
    · simp only [if_neg hj, h4]
      constructor
      · rintro ⟨n, hy⟩; exact ⟨n, .inl hy⟩
      · rintro ⟨n, hy | hy⟩
        · exact ⟨n, hy⟩
        · cases hy; exact absurd rfl hj

theorem IMap.set {l : List (Int × SV × Nat)} {clk : Nat} {m : Int → Option SV} {k : Int} {x y : SV} {j n : Nat} (h1 : (l.map (·.1)).Nodup) (h2 : (l.map (·.2.2)).Nodup) (h3 : ∀ e ∈ l, e.2.2 < clk) (h4 : ∀ k x, m k = some x ↔ ∃ n, (k, x, n) ∈ l)
    (hj : l[j]? = some (k, y, n)) : IMap ((l.map mkEntry).toArray.modify j fun e => { e with key := .int .i64 k, val := den x }) clk (updFn m k x) := by
  have hlt : j < l.length := (List.getElem?_eq_some_iff.1 hj).1
  have hke : l.map (·.1) = (l.set j (k, x, n)).map (·.1) := by
    apply List.ext_getElem?
    intro i
    simp only [List.getElem?_map]
    by_cases hij : j = i
    · subst hij; rw [hj, List.getElem?_set_self hlt]; rfl
    · rw [List.getElem?_set_ne hij]
  have hbe : l.map (·.2.2) = (l.set j (k, x, n)).map (·.2.2) := by
    apply List.ext_getElem?
    intro i
    simp only [List.getElem?_map]
    by_cases hij : j = i
    · subst hij; rw [hj, List.getElem?_set_self hlt]; rfl
    · rw [List.getElem?_set_ne hij]
  refine ⟨l.set j (k, x, n), ?_, by rw [← hke]; exact h1, by rw [← hbe]; exact h2, ?_, ?_⟩
  · apply Array.ext_getElem?
    intro i
    rw [Array.getElem?_modify]
    simp only [List.getElem?_toArray, List.getElem?_map]
    by_cases hij : j = i
    · subst hij; rw [if_pos rfl, hj, List.getElem?_set_self hlt]; rfl
    · rw [if_neg hij, List.getElem?_set_ne hij]
  · intro e he
    obtain ⟨i, hi⟩ := List.getElem?_of_mem he
    by_cases hij : j = i
    · subst hij; rw [List.getElem?_set_self hlt] at hi; cases hi; exact h3 (k, y, n) (List.mem_of_getElem? hj)
    · rw [List.getElem?_set_ne hij] at hi; exact h3 e (List.mem_of_getElem? hi)
  · intro i z
    have hmem : ∀ e : Int × SV × Nat, e ∈ l.set j (k, x, n) ↔ (e = (k, x, n) ∨ (e ∈ l ∧ e.1 ≠ k)) := by
      intro e
      constructor
      · intro he
        obtain ⟨i', hi⟩ := List.getElem?_of_mem he
        by_cases hij : j = i'
        · subst hij; rw [List.getElem?_set_self hlt] at hi; cases hi; exact .inl rfl
        · rw [List.getElem?_set_ne hij] at hi
          refine .inr ⟨List.mem_of_getElem? hi, fun hk => hij ?_⟩
          have a1 : (l.map (·.1))[j]? = some k := by rw [List.getElem?_map, hj]; rfl
          have a2 : (l.map (·.1))[i']? = some k := by rw [List.getElem?_map, hi, ← hk]; rfl
          exact (List.getElem?_inj (by simpa using hlt) h1).1 (a1.trans a2.symm)
      · rintro (rfl | ⟨he, hk⟩)
        · exact List.mem_of_getElem? (List.getElem?_set_self hlt)
        · obtain ⟨i', hi⟩ := List.getElem?_of_mem he
          have hij : j ≠ i' := by
            rintro rfl
            rw [hj] at hi; cases hi; exact hk rfl
          exact List.mem_of_getElem? (by rw [List.getElem?_set_ne hij]; exact hi)
    simp only [updFn, hmem]
    by_cases hi : i = k
    · subst hi
      simp only [if_true, Option.some.injEq]
      constructor
      · rintro rfl; exact ⟨n, .inl rfl⟩
      · rintro ⟨n', hz | ⟨_, hz⟩⟩
        · cases hz; rfl
        · exact absurd rfl hz
    · simp only [if_neg hi, h4]
      constructor
      · rintro ⟨n', hz⟩; exact ⟨n', .inr ⟨hz, hi⟩⟩
      · rintro ⟨n', hz | ⟨hz, _⟩⟩
        · cases hz; exact absurd rfl hi
        · exact ⟨n', hz⟩

/-- 'm[k] = v' on a map from ints. -/
theorem run_mapUpdate {P : Program} {t kt et : TypeId} {b : Nat} {es : Array MapEntry} {clk : Nat} {m : Int → Option SV} {w : World} (ht : P.underlying t = some (.map kt et)) (hk : P.underlying kt = some (.int .i64))
    (hb : w.heap[b]? = some (.map es clk)) (hm : IMap es clk m) (k : Int) (x : SV) :
    ∃ es' clk', (Instr.mapUpdate t (.map (some b)) (.int .i64 k) (den x)).run P w = .ok () (putBlk w b (.map es' clk')) ∧ IMap es' clk' (updFn m k x) := by
  obtain ⟨l, rfl, h1, h2, h3, h4⟩ := hm
  have hck : (Instr.checkKey false 10000 kt (.int .i64 k)).run P w = .ok () w := run_checkKey_int hk false k w 9999
  have hgo : (getObj b).run P w = .ok (.map (l.map mkEntry).toArray clk) w := by simp [getObj, Sem.run, hb]
  have hset : ∀ o, (setObj b o).run P w = .ok () (putBlk w b o) := fun o => by simp [setObj, Sem.run, hb, putBlk]
  have hfk : (Instr.findKey kt (.int .i64 k) (l.map mkEntry)).run P w = .ok ((l.findIdx? (fun e => k == e.1)).map fun j => (0 + j, ((l[j]?).map fun e => den e.2.1).getD undef)) w := by
    simp only [Instr.findKey, Sem.run_bind, run_underlying hk, Result.andThen_ok, findNow_map, Sem.run_pure]
  cases hf : l.findIdx? (fun e => k == e.1) with
  | none =>
    refine ⟨_, _, ?_, IMap.push h1 h2 h3 h4 (find_none hf)⟩
    simp only [Instr.mapUpdate, Sem.run_bind, run_underlying ht, Result.andThen_ok, hgo, hck, hfk, hf, Option.map_none, hset]
  | some j =>
    obtain ⟨y, n, hx⟩ := find_some hf
    refine ⟨_, _, ?_, IMap.set h1 h2 h3 h4 hx⟩
    have hs : Instr.sameBits 10000 (.int .i64 k) (.int .i64 k) = true := sameBits_int k 10000
    have hks : (Instr.keyThatStays (.int .i64 k) (.int .i64 k)).run P w = .ok (.int .i64 k) w := by
      simp only [Instr.keyThatStays, hs, if_true, Sem.run_pure]
    have hg : ((l.map mkEntry).toArray[j]?.map (·.key)).getD (.int .i64 k) = .int .i64 k := by
      simp [hx, mkEntry]
    simp only [Instr.mapUpdate, Sem.run_bind, run_underlying ht, Result.andThen_ok, hgo, hck, hfk, hf, Option.map_some, Nat.zero_add, hg, hks, hset]

theorem setFn_add (p : Int → Bool) (k : Int) : setFn (addFn p k) = updFn (setFn p) k (.v (.bool true)) := by
  funext j
  simp only [setFn, addFn, updFn]
  by_cases h : j = k <;> simp [h]

theorem IMap.empty : IMap #[] 0 (fun _ => none) := ⟨[], rfl, by simp, by simp, by simp, by simp⟩
theorem setFn_empty : setFn (fun _ => false) = fun _ => none := rfl
end Go.SX
