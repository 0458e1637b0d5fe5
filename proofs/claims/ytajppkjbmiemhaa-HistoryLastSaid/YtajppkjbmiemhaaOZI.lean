/- Histories: slices.Sorted(maps.Keys(m)), by the kit's shelf. -/
import Derived.Test.YtajppkjbmiemhaaOY
import Derived.Test.YtajppkjbmiemhaaSxS
import Derived.Test.YtajppkjbmiemhaaOZS
namespace Go.Proofs
set_option linter.unusedVariables false
set_option linter.unusedSimpArgs false
set_option linter.unusedSectionVars false
open Go Go.SX Go.RowKit Go.Hist Go.Maps Go.Sort Go.Shelf


theorem Try.sortsA (m : Nat) : AnyZI.SortsIn Try.prog Try.sortedA_ren Fence.wide m :=
  ⟨fun blk off cap ss W hH hblk hsz => callsIn_wide.2 (AnyM.slices_Sort_int Try.sortA blk off cap ss W hH hblk hsz),
   fun p cap W => callsIn_wide.2 (AnyM.slices_Sort_int_none Try.sortA p cap W)⟩

theorem nodup_le : ∀ (K M : List Int), K.Nodup → (∀ x ∈ K, x ∈ M) → K.length ≤ M.length
  | [], M, _, _ => Nat.zero_le _
  | x :: K, M, h, hs => by
    obtain ⟨h1, h2⟩ := List.nodup_cons.1 h
    have hx := hs x (by simp)
    have := nodup_le K (M.erase x) h2 fun y hy => by
      have hne : y ≠ x := fun e => h1 (e ▸ hy)
      exact (List.mem_erase_of_ne hne).2 (hs y (by simp [hy]))
    rw [List.length_erase_of_mem hx] at this
    have h3 : 0 < M.length := List.length_pos_of_mem hx
    simp only [List.length_cons]
    omega

/-- How a value of a map reads where nothing hangs on it. -/
def anyR (_ : Value) : Option (DataW Unit × List MemPlace) := some (.nil, [])
def keyI (e : MapEntry) : Int := match e.key with | .int _ x => x | _ => 0

theorem own_imap {w : World} {b clk N : Nat} {es : Array MapEntry} {f : Int → Option SV} (hb : w.heap[b]? = some (.map es clk)) (hm : IMap es clk f) (hk : ∀ k x, f k = some x → (Lit.int .i64 k).wf = true) (hN : N ≤ maxLen) (M : List Int) (hM : M.length ≤ N) (hfM : ∀ k x, f k = some x → k ∈ M) :
    ∃ D : DataW Unit, w.ownsMap Try.prog 3 anyR b N D ∧ Maps.size D ≤ N ∧ ∀ ss : List Int, ss.Perm (intKeys D) → ss.Nodup ∧ ∀ x, x ∈ ss ↔ ∃ y, f x = some y := by
  obtain ⟨h1, h2, h3, h4⟩ := hm.entries
  have hu : Try.prog.underlying 3 = some (.int .i64) := by kernel_rfl
  have hrd : ∀ e ∈ es.toList, Go.WideElems.rd Try.prog 3 anyR e = some (.int .i64 (keyI e), .nil) := fun e he => by
    obtain ⟨_, k, x, e1, _, e3⟩ := h1 e he
    have hko := keyOf_int_mk (P := Try.prog) hu (hk k x e3)
    obtain ⟨key, val, born⟩ := e
    simp only at e1
    subst e1
    exact Go.WideElems.rd_mk (R := anyR) (yv := (.nil, [])) hko rfl
  have hkm : es.toList.map (fun e => keyI e) = (es.toList.map (·.key)).map (fun v => match v with | .int _ x => x | _ => 0) := by
    rw [List.map_map]; rfl
  have hnd : (es.toList.map keyI).Nodup := by
    have e1 : es.toList.map (·.key) = (es.toList.map keyI).map (fun k => Value.int .i64 k) := by
      rw [List.map_map]
      refine List.map_congr_left fun e he => ?_
      obtain ⟨_, k, x, e1, _, _⟩ := h1 e he
      simp [keyI, e1]
    rw [e1] at h3
    exact (List.pairwise_map.1 h3).imp fun h e => h (by rw [e])
  have hsz : es.size ≤ M.length := by
    have := nodup_le (es.toList.map keyI) M hnd fun x hx => by
      obtain ⟨e, he, rfl⟩ := List.mem_map.1 hx
      obtain ⟨_, k, y, e1, _, e3⟩ := h1 e he
      have : keyI e = k := by simp [keyI, e1]
      rw [this]
      exact hfM k y e3
    simpa using this
  refine ⟨_, ⟨es, clk, hb, ⟨by omega, ⟨fun e he => (h1 e he).1, h2, h3⟩, fun e he => ⟨_, hrd e he⟩⟩, by omega, rfl⟩, ?_, ?_⟩
  · rw [Maps.size_eq, DataW.length_sorted]
    simp
    omega
  · intro ss hp
    have hperm : (intKeys (H := Unit) (.map ((es.toList.map (Go.WideElems.rg Try.prog 3 anyR)).foldr DataW.insert []))).Perm (es.toList.map keyI) := by
      show (((es.toList.map (Go.WideElems.rg Try.prog 3 anyR)).foldr DataW.insert []).map fun p => _root_.Go.intOf p.1).Perm _
      refine ((Go.WideShapes.sorted_perm _).map _).trans ?_
      rw [List.map_map]
      refine List.Perm.of_eq (List.map_congr_left fun e he => ?_)
      simp only [Function.comp_apply, Go.WideElems.rg_of (hrd e he), _root_.Go.intOf]
    have hp2 := hp.trans hperm
    refine ⟨hp2.nodup_iff.2 hnd, fun x => ?_⟩
    rw [hp2.mem_iff, List.mem_map]
    constructor
    · rintro ⟨e, he, rfl⟩
      obtain ⟨_, k, y, e1, _, e3⟩ := h1 e he
      exact ⟨y, by simpa [keyI, e1] using e3⟩
    · rintro ⟨y, hy⟩
      obtain ⟨e, he, e1⟩ := h4 x y hy
      exact ⟨e, he, by simp [keyI, e1]⟩


def intR (x : Int) : List SV := [.v (.int .i64 x)]
/-- A new row of ints, as the executor has it. -/
theorem row_rd {w : World} {base : Nat} {v : Value} {K : List Int} (h : w.ownsRow base 3 1 v K.length (K.map encZ)) : RdS intR 1 (0 : Int) (fun x => base ≤ x) w v K := by
  obtain ⟨_, h | ⟨g, cap, cur, rfl, hb, hg, h1, h2, h3, h4⟩⟩ := h
  · obtain ⟨rfl, hn⟩ := h
    exact .inl ⟨List.eq_nil_of_length_eq_zero hn, none, 0, rfl⟩
  · rcases Nat.eq_zero_or_pos K.length with h0 | h0
    · rw [h0]
      exact .inl ⟨List.eq_nil_of_length_eq_zero h0, _, cap, rfl⟩
    · refine .inr ⟨h0, g, 0, cap, 3, (0, 0), hb, rfl, ⟨cur, hg, by omega, fun j hj => ⟨rfl, fun s hs => ?_⟩⟩, h1⟩
      obtain rfl : s = 0 := by omega
      have e : (cur.toList.take (K.length * 1))[j]? = (K.map encZ)[j]? := by rw [h4]
      rw [List.getElem?_take_of_lt (by omega)] at e
      rw [show 0 + (j * 1 + 0) = j by omega]
      rw [Array.getElem?_toList] at e
      rw [e, List.getElem?_map, List.getElem?_eq_getElem hj]
      simp [denL, intR, den, nth, List.getD, hj]

def SortedR (w : World) (f : Int → Option SV) (e : Ending) (w' : World) : Prop :=
  ∃ (v : Value) (K : List Int), e = .returned v ∧ RdS intR 1 (0 : Int) (fun x => w.heap.size ≤ x) w' v K ∧ K.Pairwise (fun x y => x < y) ∧ (∀ x, x ∈ K ↔ ∃ y, f x = some y) ∧ Below w.heap.size w w'

theorem sorted_ok (w : World) (i b c clk : Nat) (es : Array MapEntry) (f : Int → Option SV) (hb : w.heap[b]? = some (.map es clk)) (hm : IMap es clk f) (hk : ∀ k x, f k = some x → (Lit.int .i64 k).wf = true) (M : List Int) (hM : M.length ≤ 1000000) (hfM : ∀ k x, f k = some x → k ∈ M)
    (hc : w.heap[c]? = some (.cells #[.map (some b)] 48 (0, 0))) : Calls Try.prog 19 (denL [.fn (.func 26) [] [.ptr i c 0]]).toArray w (SortedR w f) := by
  obtain ⟨D, hown, hsz, hss⟩ := own_imap hb hm hk (N := 1000000) (by decide) M hM hfM
  have hseq : SeqGives Fence.wide 2 Try.prog 26 #[.pointer (some ⟨c, 0, none⟩)] encZ (fun ss => ss.Perm (intKeys D)) (Maps.size D) w :=
    AnyZI.keys_gives (ρ := Try.keysA_ren) { Try.keysA with } Fence.wide _ trivial rfl (by omega) c b 1000000 D w (Array.getElem?_eq_some_iff.1 hc).1 (by simp [World.cell?, hc]) hown
  have cS := AnyZI.sorted_in Try.sortedA Fence.wide 5 trivial trivial trivial trivial rfl (by omega) (Try.sortsA _) (enters_of Try.func25 (by kernel_rfl) rfl) 26 #[.pointer (some ⟨c, 0, none⟩)] trivial (enters_of Try.func26 (by kernel_rfl) rfl) _ _ (Nat.le_trans hsz (by decide)) (Nat.le_trans (Nat.mul_le_mul_right 8 hsz) (by decide)) w hseq
  change CallsIn _ _ Try.prog 19 _ _ _ at cS
  refine Calls.mono (callsIn_wide.1 cS) ?_
  rintro e w' ⟨v, ss, rfl, hS, hrow, hnil, hbl⟩
  obtain ⟨hnd, hmem⟩ := hss ss hS
  have hp := List.mergeSort_perm ss fun x y => decide (x ≤ y)
  have hpw := List.pairwise_mergeSort (le := fun x y : Int => decide (x ≤ y)) (fun a b c h1 h2 => by simp at *; omega) (fun a b => by simp; omega) ss
  refine ⟨v, _, rfl, row_rd (by rw [hp.length_eq]; exact hrow), ?_, fun x => ?_, hbl⟩
  · have hnd2 := hp.nodup_iff.2 hnd
    refine (hpw.and hnd2).imp fun {x y} h => ?_
    have h1 := h.1
    have h2 := h.2
    simp at h1
    omega
  · rw [hp.mem_iff]
    exact hmem x

theorem keys_ok (w : World) (i b : Nat) : Calls Try.prog 20 (denL [.mp i b]).toArray w (fun e w' => e = .returned (den (.fn (.func 26) [] [.ptr 0 w.heap.size 0])) ∧ w' = w.alloc (.cells #[.map (some b)] 48)) :=
  (callsIn_wide (n := 5)).1 (AnyZI.keys_in Try.keysA Fence.wide 5 trivial rfl (some b) w)

end Go.Proofs
