/-
  Part Q: maps whose keys are arrays or structs. Holds for every program.
-/
import Derived.Test.YtajppkjbmiemhaaSxP
import Derived.WideKeyEntry
namespace Go.SX
set_option linter.unusedVariables false
set_option linter.unusedSimpArgs false
set_option linter.unusedSectionVars false
open Go Go.MapKept Go.ChangeMaps Go.WideShapes Go.ChangeShapes
open Go.WideMaps (KeyLaw)

section
variable {K : Type} [DecidableEq K] (kv : K → Value) (G : K → Prop)
def mkE (e : K × Value × Nat) : MapEntry := { key := kv e.1, val := e.2.1, born := e.2.2 }
/-- A map, as a function of its keys. -/
def KM (es : Array MapEntry) (clk : Nat) (m : K → Option Value) : Prop :=
  ∃ l : List (K × Value × Nat), es = (l.map (mkE kv)).toArray ∧ (∀ e ∈ l, G e.1) ∧ (l.map (·.1)).Nodup ∧ (l.map (·.2.2)).Nodup ∧ (∀ e ∈ l, e.2.2 < clk) ∧ ∀ k x, m k = some x ↔ ∃ n, (k, x, n) ∈ l
def updK (m : K → Option Value) (k : K) (x : Value) : K → Option Value := fun j => if j = k then some x else m j
theorem KM.empty : KM kv G #[] 0 (fun _ => none) := ⟨[], rfl, by simp, by simp, by simp, by simp, by simp⟩

/-- What a type of keys has to have. -/
structure KeyOK (P : Program) (kt : TypeId) : Prop where
  law : KeyLaw P kt
  good : ∀ k, G k → ∃ l, keyOf P kt (kv k) = some l
  inj : ∀ a b, kv a = kv b → a = b

variable {kv G}
theorem KM.push {l : List (K × Value × Nat)} {clk : Nat} {m : K → Option Value} {k : K} {x : Value} (hG : ∀ e ∈ l, G e.1) (hk : G k) (h1 : (l.map (·.1)).Nodup) (h2 : (l.map (·.2.2)).Nodup) (h3 : ∀ e ∈ l, e.2.2 < clk) (h4 : ∀ k x, m k = some x ↔ ∃ n, (k, x, n) ∈ l)
    (hn : ∀ x n, (k, x, n) ∉ l) : KM kv G ((l.map (mkE kv)).toArray.push { key := kv k, val := x, born := clk }) (clk + 1) (updK m k x) := by
  refine ⟨l ++ [(k, x, clk)], by simp [mkE], ?_, ?_, ?_, ?_, ?_⟩
  · intro e he
    rcases List.mem_append.1 he with he | he
    · exact hG e he
    · simp only [List.mem_singleton] at he; subst he; exact hk
  · rw [List.map_append, List.nodup_append]
    refine ⟨h1, by simp, fun a ha b hb hab => ?_⟩
    simp only [List.map_cons, List.map_nil, List.mem_singleton] at hb
    obtain ⟨e, he, rfl⟩ := List.mem_map.1 ha
    subst hb
    exact hn e.2.1 e.2.2 (by rw [← hab]; exact he)
  · rw [List.map_append, List.nodup_append]
    refine ⟨h2, by simp, fun a ha b hb hab => ?_⟩
    simp only [List.map_cons, List.map_nil, List.mem_singleton] at hb
    obtain ⟨e, he, rfl⟩ := List.mem_map.1 ha
    have := h3 e he
    omega
  · intro e he
    rcases List.mem_append.1 he with he | he
    · have := h3 e he; omega
    · simp only [List.mem_singleton] at he; subst he; simp
  · intro j y
    simp only [updK, List.mem_append, List.mem_singleton]
    by_cases hj : j = k
    · subst hj
      simp only [if_true, Option.some.injEq]
      constructor
      · rintro rfl; exact ⟨clk, .inr rfl⟩
      · rintro ⟨n, hy | hy⟩
        · exact absurd hy (hn y n)
        · cases hy; rfl
    · simp only [if_neg hj, h4]
      constructor
      · rintro ⟨n, hy⟩; exact ⟨n, .inl hy⟩
      · rintro ⟨n, hy | hy⟩
        · exact ⟨n, hy⟩
        · cases hy; exact absurd rfl hj

theorem KM.set {l : List (K × Value × Nat)} {clk : Nat} {m : K → Option Value} {k : K} {x y : Value} {j n : Nat} (hG : ∀ e ∈ l, G e.1) (h1 : (l.map (·.1)).Nodup) (h2 : (l.map (·.2.2)).Nodup) (h3 : ∀ e ∈ l, e.2.2 < clk) (h4 : ∀ k x, m k = some x ↔ ∃ n, (k, x, n) ∈ l)
    (hj : l[j]? = some (k, y, n)) : KM kv G ((l.map (mkE kv)).toArray.modify j fun e => { e with key := kv k, val := x }) clk (updK m k x) := by
  have hlt : j < l.length := (List.getElem?_eq_some_iff.1 hj).1
  have hget : l[j] = (k, y, n) := (List.getElem?_eq_some_iff.1 hj).2
  have hk1 : (l.set j (k, x, n)).map (·.1) = l.map (·.1) := by
    rw [List.map_set]
    apply List.ext_getElem (by simp)
    intro i h5 h6
    rw [List.getElem_set]
    split
    · rename_i h; subst h; simp [hget]
    · rfl
  have hk2 : (l.set j (k, x, n)).map (·.2.2) = l.map (·.2.2) := by
    rw [List.map_set]
    apply List.ext_getElem (by simp)
    intro i h5 h6
    rw [List.getElem_set]
    split
    · rename_i h; subst h; simp [hget]
    · rfl
  have hmem : ∀ e, e ∈ l.set j (k, x, n) → e = (k, x, n) ∨ (e ∈ l ∧ e.1 ≠ k) := fun e he => by
    obtain ⟨i, hi, rfl⟩ := List.mem_iff_getElem.1 he
    rw [List.getElem_set]
    split
    · exact .inl rfl
    · rename_i hne
      have hi' : i < l.length := by simpa using hi
      refine .inr ⟨List.getElem_mem hi', fun h => ?_⟩
      have hnd := List.pairwise_iff_getElem.1 h1
      have e1 : (l.map (·.1))[i]'(by simpa using hi') = (l.map (·.1))[j]'(by simpa using hlt) := by simp [hget, h]
      rcases Nat.lt_trichotomy i j with h5 | h5 | h5
      · exact hnd i j _ _ h5 e1
      · exact hne h5.symm
      · exact hnd j i _ _ h5 e1.symm
  refine ⟨l.set j (k, x, n), ?_, ?_, by rw [hk1]; exact h1, by rw [hk2]; exact h2, ?_, ?_⟩
  · apply Array.ext'
    rw [Array.toList_modify, modify_eq_set _ _ _ (mkE kv (k, y, n)) (by simp [hj]), List.map_set]
    simp [mkE]
  · intro e he
    rcases hmem e he with rfl | he
    · exact hG (k, y, n) (hget ▸ List.getElem_mem hlt)
    · exact hG e he.1
  · intro e he
    rcases hmem e he with rfl | he
    · exact h3 (k, y, n) (hget ▸ List.getElem_mem hlt)
    · exact h3 e he.1
  · intro i z
    unfold updK
    by_cases hik : i = k
    · subst hik
      rw [if_pos rfl]
      constructor
      · intro h; cases h; exact ⟨n, List.mem_iff_getElem.2 ⟨j, by simpa using hlt, by simp⟩⟩
      · rintro ⟨n', h⟩
        rcases hmem _ h with h | h
        · cases h; rfl
        · exact absurd rfl h.2
    · rw [if_neg hik, h4]
      constructor
      · rintro ⟨n', h⟩
        obtain ⟨q, hq, he⟩ := List.mem_iff_getElem.1 h
        refine ⟨n', List.mem_iff_getElem.2 ⟨q, by simpa using hq, ?_⟩⟩
        rw [List.getElem_set, if_neg, he]
        intro h5
        subst h5
        rw [hget] at he
        cases he
        exact hik rfl
      · rintro ⟨n', h⟩
        rcases hmem _ h with h | h
        · cases h; exact absurd rfl hik
        · exact ⟨n', h.1⟩

variable {P : Program} {t kt et : TypeId} {b clk : Nat} {es : Array MapEntry} {m : K → Option Value} {w : World}
/-- What a search gives. -/
theorem KM.find (Q : KeyOK kv G P kt) (h : KM kv G es clk m) {k : K} (hk : G k) (w : World) :
    ((Instr.findKey kt (kv k) es.toList).run P w = .ok none w ∧ m k = none ∧ ∀ e ∈ es.toList, e.key ≠ kv k) ∨ ∃ j e, (Instr.findKey kt (kv k) es.toList).run P w = .ok (some (j, e.val)) w ∧ es.toList[j]? = some e ∧ e.key = kv k ∧ m k = some e.val := by
  obtain ⟨l, rfl, hG, h1, h2, h3, h4⟩ := h
  obtain ⟨lk, hlk⟩ := Q.good k hk
  rcases Q.law.find w hlk (l.map (mkE kv)) (fun e he => by
    obtain ⟨e', he', rfl⟩ := List.mem_map.1 he
    exact Q.good _ (hG e' he')) with ⟨f1, f2⟩ | ⟨j, e, f1, f2, f3⟩
  · refine .inl ⟨f1, ?_, f2⟩
    cases hm : m k with
    | none => rfl
    | some x =>
      obtain ⟨n, hn⟩ := (h4 k x).1 hm
      exact absurd rfl (f2 (mkE kv (k, x, n)) (List.mem_map.2 ⟨_, hn, rfl⟩))
  · refine .inr ⟨j, e, f1, f2, f3, ?_⟩
    rw [List.getElem?_map] at f2
    obtain ⟨e', he', rfl⟩ := Option.map_eq_some_iff.1 f2
    obtain ⟨k', x, n⟩ := e'
    obtain rfl := Q.inj _ _ f3
    exact (h4 k' x).2 ⟨n, List.mem_of_getElem? he'⟩

theorem KM.lookup (Q : KeyOK kv G P kt) (ht : P.underlying t = some (.map kt et)) {z : Value} (hz : (zeroValue et).run P w = .ok z w) (hb : w.heap[b]? = some (.map es clk)) (h : KM kv G es clk m) {k : K} (hk : G k) (ok : Bool) :
    (Instr.lookup t (.map (some b)) (kv k) ok).run P w = .ok (if ok then .tuple #[(m k).getD z, .bool (m k).isSome] else (m k).getD z) w := by
  obtain ⟨lk, hlk⟩ := Q.good k hk
  rcases h.find Q hk w with ⟨f1, f2, _⟩ | ⟨j, e, f1, _, _, f2⟩
  · cases ok <;> simp [Instr.lookup, run_underlying ht, MapKept.run_getObj_map hb, Q.law.check w _ hlk, f1, f2, hz, Result.andThen]
  · cases ok <;> simp [Instr.lookup, run_underlying ht, MapKept.run_getObj_map hb, Q.law.check w _ hlk, f1, f2, Result.andThen]

theorem KM.update (Q : KeyOK kv G P kt) (ht : P.underlying t = some (.map kt et)) (hb : w.heap[b]? = some (.map es clk)) (h : KM kv G es clk m) {k : K} (hk : G k) (x : Value) :
    ∃ es' clk', (Instr.mapUpdate t (.map (some b)) (kv k) x).run P w = .ok () (putBlk w b (.map es' clk')) ∧ KM kv G es' clk' (updK m k x) := by
  obtain ⟨lk, hlk⟩ := Q.good k hk
  have hf := h.find Q hk w
  obtain ⟨l, hes, hG, h1, h2, h3, h4⟩ := h
  have hel : es.toList = l.map (mkE kv) := by rw [hes]
  rcases hf with ⟨f1, f2, f3⟩ | ⟨j, e, f1, f2, f3, f4⟩
  · refine ⟨es.push ⟨kv k, x, clk⟩, clk + 1, ?_, by rw [hes]; exact KM.push hG hk h1 h2 h3 h4 fun x n hn => f3 (mkE kv (k, x, n)) (by rw [hel]; exact List.mem_map.2 ⟨_, hn, rfl⟩) rfl⟩
    simp [Instr.mapUpdate, run_underlying ht, MapKept.run_getObj_map hb, Q.law.check w false hlk, f1, MapKept.run_setObj_map _ hb, Result.andThen, putBlk]
  · have hj : es[j]? = some e := by simpa using f2
    have f2' := f2
    rw [hel, List.getElem?_map] at f2'
    obtain ⟨⟨k', y, n⟩, he', hee⟩ := Option.map_eq_some_iff.1 f2'
    obtain rfl : k' = k := Q.inj _ _ (by rw [← f3, ← hee]; rfl)
    refine ⟨es.modify j (fun e' => { e' with key := kv k', val := x }), clk, ?_, by rw [hes]; exact KM.set (x := x) hG h1 h2 h3 h4 he'⟩
    simp [Instr.mapUpdate, run_underlying ht, MapKept.run_getObj_map hb, Q.law.check w false hlk, f1, hj, f3, Q.law.stays w hlk, MapKept.run_setObj_map _ hb, Result.andThen, putBlk]

/-- 'm[k] op= ..': the entry, and the store behind it. -/
theorem KM.entry (Q : KeyOK kv G P kt) (ht : P.underlying t = some (.map kt et)) {z : Value} (hz : ∀ u : World, (zeroValue et).run P u = .ok z u) (hb : w.heap[b]? = some (.map es clk)) (h : KM kv G es clk m) {k : K} (hk : G k) :
    ∃ (st : Nat) (es1 : Array MapEntry) (clk1 : Nat), (Instr.mapEntry t (.map (some b)) (kv k)).run P w = .ok (.tuple #[(m k).getD z, goInt st]) (putBlk w b (.map es1 clk1)) ∧ KM kv G es1 clk1 (updK m k ((m k).getD z)) ∧
      ∀ (w2 : World) (x : Value), w2.heap[b]? = some (.map es1 clk1) → ∃ es' clk', (Instr.entryStore t (.map (some b)) (goInt st) x).run P w2 = .ok () (putBlk w2 b (.map es' clk')) ∧ KM kv G es' clk' (updK m k x) := by
  obtain ⟨lk, hlk⟩ := Q.good k hk
  have hf := h.find Q hk w
  obtain ⟨l, hes, hG, h1, h2, h3, h4⟩ := h
  have hel : es.toList = l.map (mkE kv) := by rw [hes]
  have hlen : es.size = l.length := by rw [hes]; simp
  have hnd : (es.toList.map (·.born)).Nodup := by rw [hel, List.map_map]; exact h2
  have hlt : ∀ x ∈ es.toList, x.born < clk := fun x hx => by
    rw [hel] at hx
    obtain ⟨e', he', rfl⟩ := List.mem_map.1 hx
    exact h3 e' he'
  rcases hf with ⟨f1, f2, f3⟩ | ⟨j, e, f1, f2, f3, f4⟩
  · have hn : ∀ x n, (k, x, n) ∉ l := fun x n hn => f3 (mkE kv (k, x, n)) (by rw [hel]; exact List.mem_map.2 ⟨_, hn, rfl⟩) rfl
    refine ⟨clk, es.push ⟨kv k, z, clk⟩, clk + 1, ?_, by rw [f2, hes]; exact KM.push hG hk h1 h2 h3 h4 hn, fun w2 x hw2 => ⟨es.push ⟨kv k, x, clk⟩, clk + 1, ?_, by rw [hes]; exact KM.push hG hk h1 h2 h3 h4 hn⟩⟩
    · simp [Instr.mapEntry, run_underlying ht, MapKept.run_getObj_map hb, Q.law.check w false hlk, f1, f2, hz, MapKept.run_setObj_map _ hb, Result.andThen, putBlk]
    · have hidx : (es.push ⟨kv k, z, clk⟩).findIdx? (fun e => ((e.born : Nat) : Int) == ((clk : Nat) : Int)) = some es.size := by
        rw [WideElems.findIdx_arr]
        have := WideElems.findIdx_born (l := (es.push ⟨kv k, z, clk⟩).toList) (j := es.size) (e0 := ⟨kv k, z, clk⟩) (by
          simp only [Array.toList_push, List.map_append, List.map_cons, List.map_nil]
          refine List.nodup_append.2 ⟨hnd, by simp, fun a ha c hc e1 => ?_⟩
          simp only [List.mem_singleton] at hc
          obtain ⟨x, hx, rfl⟩ := List.mem_map.1 ha
          have := hlt x hx
          omega) (by simp)
        exact this
      have hmod : (es.push ⟨kv k, z, clk⟩).modify es.size (fun e => { e with val := x }) = es.push ⟨kv k, x, clk⟩ := by
        apply Array.ext'
        rw [Array.toList_modify, Array.toList_push, Array.toList_push, ← Array.length_toList, WideElems.modify_last]
      simp [Instr.entryStore, MapKept.run_getObj_map hw2, asInt, asIntOf, goInt, hidx, hmod, MapKept.run_setObj_map _ hw2, Result.andThen, putBlk]
  · have hj : es[j]? = some e := by simpa using f2
    have f2' := f2
    rw [hel, List.getElem?_map] at f2'
    obtain ⟨⟨k', y, n⟩, he', hee⟩ := Option.map_eq_some_iff.1 f2'
    obtain rfl : k' = k := Q.inj _ _ (by rw [← f3, ← hee]; rfl)
    have hen : e.born = n := by rw [← hee]; rfl
    have hsame : es.modify j (fun e => { e with key := kv k' }) = es := by
      apply Array.ext'
      rw [Array.toList_modify, modify_eq_set _ _ _ _ f2]
      have : ({ e with key := kv k' } : MapEntry) = e := by rw [← f3]
      rw [this]
      exact WideElems.set_self _ _ _ f2
    have hku : KM kv G es clk (updK m k' ((m k').getD z)) := by
      refine ⟨l, hes, hG, h1, h2, h3, fun i x => ?_⟩
      unfold updK
      by_cases hik : i = k'
      · subst hik
        rw [if_pos rfl, f4, Option.getD_some, ← f4]
        exact h4 i x
      · rw [if_neg hik]; exact h4 i x
    refine ⟨e.born, es, clk, ?_, hku, fun w2 x hw2 => ⟨es.modify j (fun e' => { e' with key := kv k', val := x }), clk, ?_, by rw [hes]; exact KM.set (x := x) hG h1 h2 h3 h4 he'⟩⟩
    · simp [Instr.mapEntry, run_underlying ht, MapKept.run_getObj_map hb, Q.law.check w false hlk, f1, hj, f3, f4, Q.law.stays w hlk, hsame, MapKept.run_setObj_map _ hb, Result.andThen, putBlk]
    · have hidx : es.findIdx? (fun x => ((x.born : Nat) : Int) == ((e.born : Nat) : Int)) = some j := by
        rw [WideElems.findIdx_arr]
        exact WideElems.findIdx_born hnd f2
      have hmod : es.modify j (fun e => { e with val := x }) = es.modify j (fun e' => { e' with key := kv k', val := x }) := by
        apply Array.ext'
        rw [Array.toList_modify, Array.toList_modify, modify_eq_set _ _ _ _ f2, modify_eq_set _ _ _ _ f2, ← f3]
      simp [Instr.entryStore, MapKept.run_getObj_map hw2, asInt, asIntOf, goInt, hidx, hmod, MapKept.run_setObj_map _ hw2, Result.andThen, putBlk]
end
end Go.SX
