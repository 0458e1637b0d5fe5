/- The client: any operation. -/
import Derived.Test.YtjkecmgobcppiaaKS2
namespace Go.Proofs
set_option linter.unusedVariables false
set_option linter.unusedSimpArgs false
open Go Go.SX Go.RowKit

theorem body_ok (w : World) (c : Cl) (o : Op16) (P P' : Nat → Prop) (n : Nat) (f : Nat → Fin11) (na : Nat) (g : Nat → Int) (nd : Nat) (gd : Nat → Int) (hF : Fins P w c.done n f) (hn : n ≤ 1000000) (hnx : inK (c.next + 1)) (ht : inK (c.tries + 1)) (hv : Ints w o.margs na g) (hd : Byts P' w o.mdata nd gd) (hnil : ∀ c, o.mdata = .slice none nd c → c = 0) (hnd : nd ≤ 1000000) :
    Calls Try.prog 9 (denL [.ag (clC c), .ag (opC o)]).toArray w (BodyPost w c n f o.do_) := by
  have hma : IsSlice o.margs := by
    obtain ⟨a, cp, e⟩ := hv.slice
    exact ⟨_, _, _, e⟩
  have hmd : IsSlice o.mdata := by
    obtain ⟨a, cp, e⟩ := hd.slice
    exact ⟨_, _, _, e⟩
  by_cases h0 : o.do_ = 0
  · exact body_begin w c o P n f hF hn hnx hma hmd h0
  by_cases h1 : o.do_ = 1
  · exact body_again w c o P n f hF hn ht hma hmd h1
  by_cases h2 : o.do_ = 2
  · exact body_accept w c o P P' n f na g nd gd hF hn hv hd hnil hnd h2
  by_cases h3 : o.do_ = 3
  · exact body_answer w c o P P' n f nd gd hF hn hma hd hnil hnd h3
  exact body_quit w c o P n f hF hn hma hmd h0 h1 h2 h3

/-! ### What was begun -/
/-- Numbers in a row of their own. -/
def Own (P : Nat → Prop) (w : World) (v : Value) (n : Nat) (g : Nat → Int) : Prop :=
  (n = 0 ∧ v = .slice none 0 0) ∨
  (0 < n ∧ ∃ (b N cap : Nat) (u : TypeId) (row : Nat → List SV), P b ∧ v = .slice (some ⟨b, 0, none⟩) n cap ∧ n ≤ cap ∧ cap ≤ N ∧ (SO.arr 0 N row 1 u (0, 0)).rep w b ∧ ∀ j, j < n → row j = [.v (.int .i64 (g j))])

theorem Own.keep {P : Nat → Prop} {w w' : World} {M : List Nat} {v : Value} {n : Nat} {g : Nat → Int} (h : Own P w v n g) (hk : KeepsTo w M w') (hM : ∀ x ∈ M, ¬ P x) : Own P w' v n g := by
  rcases h with h | ⟨h0, b, N, cap, u, row, hP, h1, h2, h3, h4, h5⟩
  · exact .inl h
  · exact .inr ⟨h0, b, N, cap, u, row, hP, h1, h2, h3, hk.same h4 fun hm => hM b hm hP, h5⟩

theorem Own.below {P : Nat → Prop} {w w' : World} {v : Value} {n : Nat} {g : Nat → Int} (h : Own P w v n g) (hb : Below w.heap.size w w') : Own P w' v n g := h.keep (KeepsTo.below hb []) (by simp)

theorem Own.mono {P P' : Nat → Prop} {w : World} {v : Value} {n : Nat} {g : Nat → Int} (h : Own P w v n g) (hP : ∀ x, x < w.heap.size → P x → P' x) : Own P' w v n g := by
  rcases h with h | ⟨h0, b, N, cap, u, row, hb, h1, h2, h3, h4, h5⟩
  · exact .inl h
  · exact .inr ⟨h0, b, N, cap, u, row, hP b (SO.rep_lt h4) hb, h1, h2, h3, h4, h5⟩

theorem Own.lt {P : Nat → Prop} {w : World} {b o n cap : Nat} {g : Nat → Int} (h : Own P w (.slice (some ⟨b, o, none⟩) n cap) n g) : b < w.heap.size ∧ P b := by
  rcases h with ⟨_, e⟩ | ⟨_, b', N, cap, u, row, hP, e, _, _, h, _⟩
  · cases e
  · cases e
    exact ⟨SO.rep_lt h, hP⟩

theorem Own.congr {P : Nat → Prop} {w : World} {v : Value} {n : Nat} {g g' : Nat → Int} (h : Own P w v n g) (hg : ∀ j, j < n → g j = g' j) : Own P w v n g' := by
  rcases h with h | ⟨h0, b, N, cap, u, row, hb, h1, h2, h3, h4, h5⟩
  · exact .inl h
  · exact .inr ⟨h0, b, N, cap, u, row, hb, h1, h2, h3, h4, fun j hj => by rw [h5 j hj, hg j hj]⟩

theorem Own.pin {P : Nat → Prop} {w : World} {v : Value} {n : Nat} {g : Nat → Int} (h : Own P w v n g) (h0 : 0 < n) : ∃ b, P b ∧ b < w.heap.size ∧ Own (fun y => y = b) w v n g := by
  rcases h with ⟨e, _⟩ | ⟨h0, b, N, cap, u, row, hb, h⟩
  · omega
  · exact ⟨b, hb, SO.rep_lt h.2.2.2.1, .inr ⟨h0, b, N, cap, u, row, rfl, h⟩⟩

theorem Own.ints {P : Nat → Prop} {w : World} {v : Value} {n : Nat} {g : Nat → Int} (h : Own P w v n g) : Ints w v n g := by
  rcases h with ⟨h0, h⟩ | ⟨h0, b, N, cap, u, row, hb, h1, h2, h3, h4, h5⟩
  · exact .inl ⟨h0, none, 0, h⟩
  · exact .inr ⟨h0, b, 0, n, cap, u, (0, 0), h1, Nat.le_refl _, rep_arr_sub h4 (by omega) fun j hj => by rw [h5 j hj]⟩

def snocI (n : Nat) (g : Nat → Int) (x : Int) (j : Nat) : Int := if j < n then g j else x

theorem app_int {P P' : Nat → Prop} {w : World} (hP : ∀ x, P x → P' x) (hP' : ∀ x, w.heap.size ≤ x → P' x) {V : Value} {n s : Nat} {g : Nat → Int} {x : Int} {u : TypeId} {fz : Nat × Nat} {ty : TypeId} (hV : Own P w V n g) (hs : (SO.arr 0 1 (fun _ => [.v (.int .i64 x)]) 1 u fz).rep w s)
    (hne : ∀ b cap, V = .slice (some ⟨b, 0, none⟩) n cap → b ≠ s) (hbig : n ≤ 1000000) :
    ∃ V' w', (Builtin.append_ #[33, 33] ty #[V, .slice (some ⟨s, 0, none⟩) 1 1]).run Try.prog w = .ok V' w' ∧ (∃ M, KeepsTo w M w' ∧ ∀ x ∈ M, P x) ∧ Own P' w' V' (n + 1) (snocI n g x) := by
  rcases hV with ⟨rfl, rfl⟩ | ⟨h0, b, N, cap, u', row, hPb, rfl, hc1, hc2, hrep, hrow⟩
  · have hE : HpAll (frame0 w) w [(s, false, .arr 0 1 (fun _ => [.v (.int .i64 x)]) 1 u fz)] := HpAll.one hs
    obtain ⟨w', b', cap', N', row', u', r1, r2, r3, r4, r5, r6, r7⟩ := append_mem (ty := ty) (st := ⟨[], [(s, false, .arr 0 1 (fun _ => [.v (.int .i64 x)]) 1 u fz)], w.heap.size, 0, 0, [], [], []⟩) cfg3_ok (hE.memRep (keeps0 w)) (x := .v (.slice none 0 0)) (y := .sl 0 s 0 0 1 1 1) (t := 33) (t' := 33) rfl rfl rfl rfl rfl rfl (by decide) (j := 0) rfl rfl (base2 := 0) (by omega) (.inl ⟨rfl, rfl, rfl, rfl⟩) (b := 0) (N := 0) (row := fun _ => []) (u := 0) (by omega) (by show (2 * (0 + 1) + 192) * 8 ≤ 281474976710656; omega) (fun j hj z hz => by simp at hz; subst hz; trivial)
    have hb' : b' = w.heap.size := by
      rcases r6 with ⟨e, _⟩ | e
      · cases e
      · exact e
    have hA := r7.all
    refine ⟨_, w', r1, ⟨[], r7.kp, by simp⟩, .inr ⟨by omega, b', N', cap', u', row', hP' _ (by omega), rfl, by omega, r3, hA.2.1.1, fun j hj => ?_⟩⟩
    obtain rfl : j = 0 := by omega
    have := r5 0 (by omega)
    simp at this
    rw [this]; simp [snocI]
  · have hbs := hne b cap rfl
    have hE : HpAll ⟨w, w.heap.size, [b]⟩ w [(s, false, .arr 0 1 (fun _ => [.v (.int .i64 x)]) 1 u fz), (b, true, .arr 0 N row 1 u' (0, 0))] := ⟨⟨hs, by simp, by simpa using hbs.symm⟩, ⟨hrep, by simp, by simp⟩, trivial⟩
    obtain ⟨w', b', cap', N', row', u'', r1, r2, r3, r4, r5, r6, r7⟩ := append_mem (ty := ty) (st := ⟨[], [(s, false, .arr 0 1 (fun _ => [.v (.int .i64 x)]) 1 u fz), (b, true, .arr 0 N row 1 u' (0, 0))], w.heap.size, 0, 0, [], [], []⟩) cfg3_ok (hE.memRep (KeepsTo.refl w _)) (x := .sl 1 b 0 0 n cap 1) (y := .sl 0 s 0 0 1 1 1) (t := 33) (t' := 33) rfl rfl rfl rfl rfl rfl (by decide) (j := 0) rfl rfl (base2 := 0) (by omega) (.inr ⟨rfl, rfl, hc2, hc1⟩) (by omega) (by show (2 * (n + 1) + 192) * 8 ≤ 281474976710656; omega) (fun j hj z hz => by simp at hz; subst hz; trivial)
    have hb' : P' b' := by
      rcases r6 with ⟨_, rfl⟩ | rfl
      · exact hP _ hPb
      · exact hP' _ (Nat.le_refl _)
    have hA := r7.all
    refine ⟨_, w', r1, ⟨[b], r7.kp, by simpa using hPb⟩, .inr ⟨by omega, b', N', cap', u'', row', hb', rfl, r2, r3, hA.2.1.1, fun j hj => ?_⟩⟩
    by_cases hjn : j < n
    · rw [r4 j hjn, hrow j hjn]; simp [snocI, hjn]
    · obtain rfl : j = n := by omega
      have := r5 0 (by omega)
      simp at this
      rw [this]; simp [snocI]
end Go.Proofs
