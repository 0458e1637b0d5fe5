/-
  Part 4: one operation that only computes or loads, in whatever world the state's blocks lie. Holds for every program.
-/
import Derived.Test.YtnmjdelnllchdaaSx3
namespace Go.SX
set_option linter.unusedVariables false
set_option linter.unusedSimpArgs false
set_option linter.unusedSectionVars false
open Go

/-! ### Slices of slices -/
def bnd : Option SV → Option (Option Int)
  | none => some none
  | some (.v (.int _ n)) => some (some n)
  | _ => none

/-- 'x[lo:hi]' of a slice or a string. -/
def evSlice (tt : List (Nat × TI)) (t : TypeId) (x : SV) (lo hi : Option SV) : Ev :=
  match lookT tt t, bnd lo, bnd hi with
  | some { d := .slice e, .. }, some l, some h => match lookT tt e, x with
    | some te, .sl i b o0 base len cap sz =>
      let L : Int := l.getD 0
      let H : Int := h.getD len
      if te.sz = sz then some ([0 ≤ L, L ≤ H, H ≤ (cap : Int)], .sl i b o0 (if cap = L.toNat then base else base + L.toNat) (H.toNat - L.toNat) (cap - L.toNat) sz) else none
    | some _, .v (.slice none len cap) =>
      let L : Int := l.getD 0
      let H : Int := h.getD len
      some ([0 ≤ L, L ≤ H, H ≤ (cap : Int)], .v (.slice none (H.toNat - L.toNat) (cap - L.toNat)))
    | some _, .v (.slice (some a) 0 cap) => some ([l.getD 0 = 0, h.getD 0 = 0], .v (.slice (some a) 0 cap))
    | _, _ => none
  | some { d := .str, .. }, some l, some h => match x with
    | .v (.string s) =>
      let L : Int := l.getD 0
      let H : Int := h.getD s.size
      some ([0 ≤ L, L ≤ H, H ≤ (s.size : Int)], .v (.string (s.extract L.toNat H.toNat)))
    | _ => none
  | _, _, _ => none

theorem bnd_some {x : Option SV} {n : Int} (h : bnd x = some (some n)) : ∃ k, x = some (.v (.int k n)) := by
  unfold bnd at h
  split at h
  · cases h
  · rename_i k m; cases h; exact ⟨k, rfl⟩
  · cases h
theorem bnd_none {x : Option SV} (h : bnd x = some none) : x = none := by
  unfold bnd at h
  split at h
  · rfl
  · cases h
  · cases h

theorem run_bounds {P : Program} {w : World} {isSlice : Bool} {len cap : Nat} {lo hi : Option SV} {l h : Option Int} (hl : bnd lo = some l) (hh : bnd hi = some h)
    (h0 : 0 ≤ l.getD 0) (h1 : l.getD 0 ≤ h.getD len) (h2 : h.getD len ≤ (cap : Int)) :
    (Instr.sliceBounds isSlice len cap (lo.map den) (hi.map den) none).run P w = .ok ((l.getD 0).toNat, (h.getD len).toNat, cap) w := by
  cases l with
  | none =>
    rw [bnd_none hl]
    cases h with
    | none => rw [bnd_none hh]; simp [Instr.sliceBounds]
    | some n =>
      obtain ⟨k, rfl⟩ := bnd_some hh
      simp only [Option.getD_some, Option.getD_none] at *
      simp [Instr.sliceBounds, den, run_sliceBound, h1, h2]
  | some m =>
    obtain ⟨k, rfl⟩ := bnd_some hl
    cases h with
    | none =>
      rw [bnd_none hh]
      simp only [Option.getD_some, Option.getD_none] at *
      simp [Instr.sliceBounds, den, run_sliceBound, h0, h1]
    | some n =>
      obtain ⟨k', rfl⟩ := bnd_some hh
      simp only [Option.getD_some] at *
      have h3 : 0 ≤ n := by omega
      have h4 : m ≤ (n.toNat : Int) := by omega
      simp only [Instr.sliceBounds, Option.map_some, den, Sem.run_bind, Sem.run_pure, Result.andThen_ok, run_sliceBound w k' n cap _ h3 h2, Option.isSome_none, Bool.false_eq_true, if_false, run_sliceBound w k m n.toNat _ h0 h4]

theorem evSlice_sound {P : Program} {tt : List (Nat × TI)} (htt : TTok P tt) {t : TypeId} {x y : SV} {lo hi : Option SV} {obs : List Prop} (h : evSlice tt t x lo hi = some (obs, y)) (ho : ∀ p ∈ obs, p) (w : World) :
    (Instr.sliceAt t (den x) (lo.map den) (hi.map den) none).run P w = .ok (den y) w := by
  unfold evSlice at h
  split at h
  · rename_i e _ _ _ l hh hti hl hhi
    have hu := (htt _ _ hti).slice rfl
    split at h
    · rename_i te i b o0 base len cap sz hte
      have hs := run_sizeOf' (htt _ _ hte) w
      simp only [] at h
      split at h
      · rename_i hsz
        cases h
        have h0 := ho _ (List.mem_cons_self ..)
        have h1 := ho (l.getD 0 ≤ hh.getD len) (by simp)
        have h2 := ho (hh.getD len ≤ (cap : Int)) (by simp)
        by_cases hne : cap = (l.getD 0).toNat
        · simp [Instr.sliceAt, Instr.slice, run_underlying hu, den, run_bounds hl hhi h0 h1 h2, hs, ← hne]
        · simp [Instr.sliceAt, Instr.slice, run_underlying hu, den, run_bounds hl hhi h0 h1 h2, hs, hne, add_none, hsz, Nat.add_mul, Nat.add_assoc]
      · cases h
    · rename_i te len cap hte
      have hs := run_sizeOf' (htt _ _ hte) w
      cases h
      have h0 := ho (0 ≤ l.getD 0) (by simp)
      have h1 := ho (l.getD 0 ≤ hh.getD len) (by simp)
      have h2 := ho (hh.getD len ≤ (cap : Int)) (by simp)
      simp [Instr.sliceAt, Instr.slice, run_underlying hu, den, run_bounds hl hhi h0 h1 h2, hs]
    · rename_i te a cap hte
      have hs := run_sizeOf' (htt _ _ hte) w
      cases h
      have e1 := ho (l.getD 0 = 0) (by simp)
      have e2 := ho (hh.getD 0 = 0) (by simp)
      have hb := run_bounds (P := P) (w := w) (isSlice := true) (len := 0) (cap := cap) hl hhi (by omega) (by rw [e1]; simp [e2]) (by simp [e2])
      have e3 : (l.getD 0).toNat = 0 := by rw [e1]; rfl
      have e4 : (hh.getD ((0 : Nat) : Int)).toNat = 0 := by
        have : hh.getD ((0 : Nat) : Int) = 0 := e2
        rw [this]; rfl
      rw [e3, e4] at hb
      have ha : a.add 0 = a := by simp [Addr.add]
      simp [Instr.sliceAt, Instr.slice, run_underlying hu, den, hb, hs, ha]
    · cases h
  · rename_i _ _ _ l hh hti hl hhi
    have hu := (htt _ _ hti).str rfl
    split at h
    · rename_i s
      cases h
      have h0 := ho (0 ≤ l.getD 0) (by simp)
      have h1 := ho (l.getD 0 ≤ hh.getD s.size) (by simp)
      have h2 := ho (hh.getD s.size ≤ (s.size : Int)) (by simp)
      simp [Instr.sliceAt, Instr.slice, run_underlying hu, den, run_bounds hl hhi h0 h1 h2]
    · cases h
  · cases h

/-! ### Conversions, builtins -/
def evConv (tt : List (Nat × TI)) (src dst : TypeId) (x : SV) : Option SV :=
  match lookT tt src, lookT tt dst, x with
  | some _, some { d := .int k, .. }, .v (.int _ n) => some (.v (.int k (k.wrap n)))
  | some _, some { d := .str, .. }, .v (.string s) => some (.v (.string s))
  | _, _, _ => none

theorem evConv_sound {P : Program} {tt : List (Nat × TI)} (htt : TTok P tt) {src dst : TypeId} {x y : SV} (h : evConv tt src dst x = some y) (w : World) :
    (convert src dst (den x)).run P w = .ok (den y) w := by
  unfold evConv at h
  split at h
  · rename_i si k _ _ _ k' n hs hd
    cases h
    obtain ⟨d, h1, _⟩ := (htt _ _ hs).under
    simp [convert, run_underlying h1, run_underlying ((htt _ _ hd).int rfl), den, Conv.intToInt]
  · rename_i si _ _ _ s hs hd
    cases h
    obtain ⟨d, h1, _⟩ := (htt _ _ hs).under
    simp [convert, run_underlying h1, run_underlying ((htt _ _ hd).str rfl), den]
  · cases h

def ints : List SV → Option (List Int)
  | [] => some []
  | .v (.int .i64 n) :: r => (ints r).map (n :: ·)
  | _ => none

def foldI (f : Int → Int → Int) : List Int → Int
  | [] => 0
  | x :: r => r.foldl f x

def evBuiltin (tt : List (Nat × TI)) (b : Builtin) (ts : List TypeId) (xs : List SV) : Option SV :=
  match b, xs with
  | .len, [x] => match ts with
    | [t] => match lookT tt t, x with
      | some { d := .slice _, .. }, .sl _ _ _ _ len _ _ => some (.v (.int .i64 len))
      | some { d := .slice _, .. }, .v (.slice _ len _) => some (.v (.int .i64 len))
      | some { d := .str, .. }, .v (.string s) => some (.v (.int .i64 s.size))
      | some { d := .arr n _, .. }, _ => some (.v (.int .i64 n))
      | _, _ => none
    | _ => none
  | .cap, [x] => match ts with
    | [t] => match lookT tt t, x with
      | some { d := .slice _, .. }, .sl _ _ _ _ _ cap _ => some (.v (.int .i64 cap))
      | some { d := .slice _, .. }, .v (.slice _ _ cap) => some (.v (.int .i64 cap))
      | _, _ => none
    | _ => none
  | .min, x :: xs => match ints (x :: xs) with
    | some l => some (.v (.int .i64 (foldI (fun a b => if b < a then b else a) l)))
    | none => none
  | .max, x :: xs => match ints (x :: xs) with
    | some l => some (.v (.int .i64 (foldI (fun a b => if b > a then b else a) l)))
    | none => none
  | _, _ => none

theorem ints_den : ∀ (xs : List SV) (l : List Int), ints xs = some l → denL xs = l.map (Value.int .i64)
  | [], l, h => by cases h; rfl
  | x :: xs, l, h => by
    unfold ints at h
    split at h
    · rename_i heq; cases heq
    · rename_i n r heq
      cases heq
      simp only [Option.map_eq_some_iff] at h
      obtain ⟨l', h1, rfl⟩ := h
      simp [denL, den, ints_den _ _ h1]
    · cases h

theorem run_fold_min {P : Program} {w : World} : ∀ (l : List Int) (x : Int), ((l.map (Value.int .i64)).foldlM Builtin.min2 (.int .i64 x)).run P w = .ok (.int .i64 (l.foldl (fun a b => if b < a then b else a) x)) w
  | [], x => by simp
  | y :: l, x => by
    simp only [List.map_cons, List.foldlM_cons, Sem.run_bind, Builtin.min2, Sem.run_pure, Result.andThen_ok, List.foldl_cons]
    exact run_fold_min l _
theorem run_fold_max {P : Program} {w : World} : ∀ (l : List Int) (x : Int), ((l.map (Value.int .i64)).foldlM Builtin.max2 (.int .i64 x)).run P w = .ok (.int .i64 (l.foldl (fun a b => if b > a then b else a) x)) w
  | [], x => by simp
  | y :: l, x => by
    simp only [List.map_cons, List.foldlM_cons, Sem.run_bind, Builtin.max2, Sem.run_pure, Result.andThen_ok, List.foldl_cons]
    exact run_fold_max l _

theorem evBuiltin_sound {P : Program} {tt : List (Nat × TI)} (htt : TTok P tt) {b : Builtin} {ts : List TypeId} {xs : List SV} {y : SV} (h : evBuiltin tt b ts xs = some y) (ty : TypeId) (cs : Array Bool) (w : World) :
    (builtin b ts.toArray ty cs (denL xs).toArray).run P w = .ok (.value (den y)) w := by
  unfold evBuiltin at h
  split at h
  · rename_i x
    split at h
    · rename_i t
      split at h
      · rename_i hti; cases h; simp [builtin, Builtin.len_, denL, den, run_underlying ((htt _ _ hti).slice rfl), goInt]
      · rename_i hti; cases h; simp [builtin, Builtin.len_, denL, den, run_underlying ((htt _ _ hti).slice rfl), goInt]
      · rename_i hti; cases h; simp [builtin, Builtin.len_, denL, den, run_underlying ((htt _ _ hti).str rfl), goInt]
      · rename_i hti; cases h; simp [builtin, Builtin.len_, denL, den, run_underlying ((htt _ _ hti).arr rfl), goInt]
      · cases h
    · cases h
  · rename_i x
    split at h
    · rename_i t
      split at h
      · rename_i hti; cases h; simp [builtin, Builtin.cap_, denL, den, run_underlying ((htt _ _ hti).slice rfl), goInt]
      · rename_i hti; cases h; simp [builtin, Builtin.cap_, denL, den, run_underlying ((htt _ _ hti).slice rfl), goInt]
      · cases h
    · cases h
  · rename_i x xs
    split at h
    · rename_i l hl
      cases h
      have e := ints_den _ _ hl
      cases l with
      | nil => simp [denL] at e
      | cons n l =>
        simp only [e, builtin, Builtin.min_, List.map_cons, Sem.run_bind, run_fold_min, Result.andThen_ok, Sem.run_pure, den, foldI]
    · cases h
  · rename_i x xs
    split at h
    · rename_i l hl
      cases h
      have e := ints_den _ _ hl
      cases l with
      | nil => simp [denL] at e
      | cons n l =>
        simp only [e, builtin, Builtin.max_, List.map_cons, Sem.run_bind, run_fold_max, Result.andThen_ok, Sem.run_pure, den, foldI]
    · cases h
  · cases h

end Go.SX
