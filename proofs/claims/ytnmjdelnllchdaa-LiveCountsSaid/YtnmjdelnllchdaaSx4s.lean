/-
  Bytes in memory as a string.
-/
import Derived.Test.YtnmjdelnllchdaaSx4m
import Derived.Laws.BytesString
import Derived.LaidEql
namespace Go.SX
set_option linter.unusedVariables false
set_option linter.unusedSimpArgs false
set_option linter.unusedSectionVars false
open Go

def u8s (row : Nat → List SV) (base len : Nat) : List Int := (List.range len).map fun j => match row (base + j) with
  | [.v (.int _ n)] => n
  | _ => 0
def strOf (ns : List Int) : ByteArray := ns.foldl (fun r n => r.push (UInt8.ofNat n.toNat)) ByteArray.empty
def IsU8 (l : List SV) : Prop := ∃ n, l = [.v (.int .u8 n)]

def evConvH (tt : List (Nat × TI)) (hp : Hp) (s d : TypeId) (y : SV) : Ev :=
  match y with
  | .sl i b o0 base len _ sz => match lookT tt s, lookT tt d with
    | some { d := .slice e, .. }, some { d := .str, .. } => match lookT tt e, hp[i]? with
      | some { d := .int .u8, .. }, some (b', _, .arr o1 N row sz' _ _) =>
        if sz = 1 ∧ sz' = 1 then some ([b = b', o0 = o1, base + len ≤ N, ∀ j, j < len → IsU8 (row (base + j))], .v (.string (strOf (u8s row base len)))) else none
      | _, _ => none
    | _, _ => none
  | .v (.slice _ 0 _) => match lookT tt s, lookT tt d with
    | some { d := .slice e, .. }, some { d := .str, .. } => match lookT tt e with
      | some { d := .int .u8, .. } => some ([], .v (.string .empty))
      | _ => none
    | _, _ => none
  | .v (.slice none _ _) => match lookT tt s, lookT tt d with
    | some { d := .slice e, .. }, some { d := .str, .. } => match lookT tt e with
      | some { d := .int .u8, .. } => some ([], .v (.string .empty))
      | _ => none
    | _, _ => none
  | y => (evConv tt s d y).map fun z => ([], z)

theorem evConvH_sound {P : Program} {tt : List (Nat × TI)} (htt : TTok P tt) {hp : Hp} {w : World} (hh : HpRep hp w) {s d : TypeId} {y x : SV} {obs : List Prop} (h : evConvH tt hp s d y = some (obs, x)) (ho : ∀ p ∈ obs, p) :
    (convert s d (den y)).run P w = .ok (den x) w := by
  unfold evConvH at h
  split at h
  · rename_i i b o0 base len cap sz
    split at h
    · rename_i e _ _ _ _ _ _ hs hd
      split at h
      · rename_i _ _ _ b' m o1 N row sz' t fz he hi
        split at h
        · rename_i hc
          obtain ⟨rfl, rfl⟩ := hc
          cases h
          obtain rfl := ho (b = b') (by simp)
          obtain rfl := ho (o0 = o1) (by simp)
          have h1 := ho (base + len ≤ N) (by simp)
          have h2 := ho (∀ j, j < len → IsU8 (row (base + j))) (by simp)
          obtain ⟨c, hb, hrep⟩ := hh _ _ _ _ hi
          simp only [den]
          rw [run_convert_bytes_string _ _ _ _ _ _ _ ((htt _ _ hs).slice rfl) ((htt _ _ he).int rfl) ((htt _ _ hd).str rfl)]
          rw [run_bytesToString w _ len cap (u8s row base len)]
          · rfl
          have hl : (((u8s row base len).map (Value.int .u8))).length = len := by simp [u8s]
          have := run_loadCells (P := P) (w := w) (b := b) (o := o0 + base * 1) ((u8s row base len).map (Value.int .u8)) (fun j hj => by
            rw [hl] at hj
            obtain ⟨n, hn⟩ := h2 j hj
            have h4 := (hrep.2 (base + j) (by omega)).2 0 (by omega)
            rw [hn] at h4
            simp only [World.cell?, hb]
            simp [denL, den] at h4
            simp [u8s, hj, hn]
            rw [← h4]; congr 1; omega)
          rw [hl] at this
          exact this
        · cases h
      · cases h
    · cases h
  · rename_i ad c
    split at h
    · rename_i e _ _ _ _ _ _ hs hd
      split at h
      · rename_i he
        cases h
        simp only [den]
        rw [run_convert_bytes_string _ _ _ _ _ _ _ ((htt _ _ hs).slice rfl) ((htt _ _ he).int rfl) ((htt _ _ hd).str rfl)]
        cases ad <;> simp [Conv.bytesToString, loadCells, loadCellsFrom]
      · cases h
    · cases h
  · rename_i n c
    split at h
    · rename_i e _ _ _ _ _ _ hs hd
      split at h
      · rename_i he
        cases h
        simp only [den]
        rw [run_convert_bytes_string _ _ _ _ _ _ _ ((htt _ _ hs).slice rfl) ((htt _ _ he).int rfl) ((htt _ _ hd).str rfl)]
        simp [Conv.bytesToString]
      · cases h
    · cases h
  · simp only [Option.map_eq_some_iff, Prod.mk.injEq] at h
    obtain ⟨u, hu, _, rfl⟩ := h
    exact evConv_sound htt hu w

/-! ### Pointers side by side -/
def isCells : Option (Nat × Bool × SO) → Option Nat
  | some (b, _, .cells _ _) => some b
  | _ => none

def evPtrEq (tt : List (Nat × TI)) (hp : Hp) (op : BinOp) (t : TypeId) (i b o j b' o' : Nat) : Ev :=
  match lookT tt t with
  | some { d := .ptr e, .. } => match lookT tt e, isCells hp[i]?, isCells hp[j]? with
    | some te, some bi, some bj =>
      if te.sz ≠ 0 then match op with
        | .eql => some ([b = bi, b' = bj], .v (.bool (decide (b = b' ∧ o = o'))))
        | .neq => some ([b = bi, b' = bj], .v (.bool (!decide (b = b' ∧ o = o'))))
        | _ => none
      else none
    | _, _, _ => none
  | _ => none

theorem isCells_rep {hp : Hp} {w : World} (hh : HpRep hp w) {i b : Nat} (h : isCells hp[i]? = some b) : ∃ c t, w.heap[b]? = some (.cells c t (0, 0)) := by
  unfold isCells at h
  split at h
  · rename_i b' m l t hi
    cases h
    exact ⟨_, _, hh _ _ _ _ hi⟩
  · cases h

theorem evPtrEq_sound {P : Program} {tt : List (Nat × TI)} (htt : TTok P tt) {hp : Hp} {w : World} (hh : HpRep hp w) {op : BinOp} {t : TypeId} {i b o j b' o' : Nat} {z : SV} {obs : List Prop}
    (h : evPtrEq tt hp op t i b o j b' o' = some (obs, z)) (ho : ∀ p ∈ obs, p) (a c : Operand) :
    (do eqGuard op t a c (.pointer (some ⟨b, o, none⟩)) (.pointer (some ⟨b', o', none⟩)); binOp op t (.pointer (some ⟨b, o, none⟩)) (.pointer (some ⟨b', o', none⟩)) : Sem Value).run P w = .ok (den z) w := by
  unfold evPtrEq at h
  split at h
  · rename_i e _ _ _ hti
    split at h
    · rename_i te bi bj hte hi hj
      split at h
      · rename_i hsz
        have hu := (htt _ _ hti).ptr rfl
        have key : b = bi → b' = bj → (Op.equal t (.pointer (some ⟨b, o, none⟩)) (.pointer (some ⟨b', o', none⟩))).run P w = .ok (decide (b = b' ∧ o = o')) w := by
          rintro rfl rfl
          refine run_equal fun d => ?_
          obtain ⟨c1, t1, h1⟩ := isCells_rep hh hi
          obtain ⟨c2, t2, h2⟩ := isCells_rep hh hj
          have hz := run_sizeOf' (w := w) (htt _ _ hte)
          simp only [Op.equalIn, Sem.run_bind, run_underlying hu, Result.andThen_ok, hz, if_pos hsz]
          by_cases he : b = b' ∧ o = o'
          · obtain ⟨rfl, rfl⟩ := he
            rw [run_sameAddr_same]; simp
          · rw [run_sameAddr_other (w := w) (a := ⟨b, o, none⟩) (b := ⟨b', o', none⟩) (by simpa using he) h1 h2]; simp [he]
        simp only [eqGuard_at_pointer, pure_bind]
        split at h
        · cases h
          simp only [binOp, Sem.run_bind, key (ho _ (by simp)) (ho _ (by simp)), Result.andThen_ok, Sem.run_pure, den]
        · cases h
          simp only [binOp, Sem.run_bind, key (ho _ (by simp)) (ho _ (by simp)), Result.andThen_ok, Sem.run_pure, den]
        · cases h
      · cases h
    · cases h
  · cases h
end Go.SX
