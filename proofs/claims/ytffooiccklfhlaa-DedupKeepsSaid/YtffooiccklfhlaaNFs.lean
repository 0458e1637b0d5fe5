/- Requests: lists of those who ask, as arguments that came in. -/
import Derived.Test.YtffooiccklfhlaaNR
import Derived.Test.YtffooiccklfhlaaNFr
import Derived.Test.YtffooiccklfhlaaSxL
namespace Go.Proofs.Ytffooiccklfhlaa
set_option linter.unusedVariables false
set_option linter.unusedSimpArgs false
set_option linter.unusedSectionVars false
open Go Go.ChangeShapes Go.WideShapes Go.ChangeAt Go.RowKit Go.SX Go.Proofs

set_option maxRecDepth 100000

/-- A slice that came in, as a list. -/
theorem lists_inW {α : Type} {enc' : α → List SV} {sz : Nat} {d0 : α} {H : Type} {enc : TypeId × Value → H} {w : World} {held : Bool} {t e : TypeId} {a : Option Addr} {n cap : Nat} {d : DataW H} {p : List MemPlace} (ht : Try.prog.underlying t = some (.slice e)) (hC : Try.prog.cellsOf e = sz) (hsz : 0 < sz)
    (Q : α → Prop) (hrow : ∀ fuel cs x, DataW.trod enc Try.prog w 0 (fun _ => true) held fuel e cs = some x → (x.1.weights Try.prog e).all (· ≤ reachBytes) = true → ∃ l, cs = denL l ∧ l.length = sz ∧ ∃ x : α, l = enc' x ∧ Q x)
    (h : DataW.Trod enc Try.prog w 0 (fun _ => true) held t (.slice a n cap) d p) (hw : (d.weights Try.prog t).all (· ≤ reachBytes) = true) (hby : 0 < Try.prog.bytesOf e) : ∃ L : List α, L.length = n ∧ RdS enc' sz d0 (fun x => x < w.heap.size) w (.slice a n cap) L ∧ n ≤ 1000000000000000 ∧ ∀ x ∈ L, Q x := by
  rcases open_rowsW ht hC hsz (fun l => ∃ x : α, l = enc' x ∧ Q x) hrow h hw rfl with ⟨rfl, rfl⟩ | ⟨b, o0, u, fz, row, rfl, hl, hpos, hrep, hgood, hbb⟩
  · exact ⟨[], rfl, .inl ⟨rfl, _, _, rfl⟩, by omega, by simp⟩
  · have hb1 : cap ≤ reachBytes := Nat.le_trans (Nat.le_mul_of_pos_right _ hby) hbb
    simp only [reachBytes] at hb1
    let f : Nat → α := fun j => if h : j < cap then (hgood j h).choose else d0
    have hf : ∀ j, j < cap → row j = enc' (f j) := fun j hj => by
      show row j = enc' (if h : j < cap then (hgood j h).choose else d0)
      rw [dif_pos hj]
      exact (hgood j hj).choose_spec.1
    have hfQ : ∀ j, j < cap → Q (f j) := fun j hj => by
      show Q (if h : j < cap then (hgood j h).choose else d0)
      rw [dif_pos hj]
      exact (hgood j hj).choose_spec.2
    refine ⟨(List.range n).map f, by simp, ?_, by omega, fun x hx => (by
      obtain ⟨j, hj, rfl⟩ := List.mem_map.1 hx
      exact hfQ j (by have := List.mem_range.1 hj; omega))⟩
    rcases Nat.eq_zero_or_pos n with rfl | hn
    · exact .inl ⟨rfl, _, _, rfl⟩
    · refine .inr ⟨by simpa using hn, b, o0, cap, u, fz, SO.rep_lt hrep, by simp, rep_arr_sub hrep (by simpa using hl) (fun j hj => ?_), by simpa using hl⟩
      have hj' : j < n := by simpa using hj
      rw [hf j (by omega)]
      congr 2
      simp [nth, hj']

/-- A slice that lies in a cell. -/
theorem slc_in {α : Type} {enc' : α → List SV} {sz : Nat} {d0 : α} {H : Type} {enc : TypeId × Value → H} {w : World} {held : Bool} {t e : TypeId} (ht : Try.prog.underlying t = some (.slice e)) (hC : Try.prog.cellsOf e = sz) (hsz : 0 < sz)
    (Q : α → Prop) (hrow : ∀ fuel cs x, DataW.trod enc Try.prog w 0 (fun _ => true) held fuel e cs = some x → (x.1.weights Try.prog e).all (· ≤ reachBytes) = true → ∃ l, cs = denL l ∧ l.length = sz ∧ ∃ x : α, l = enc' x ∧ Q x) (hby : 0 < Try.prog.bytesOf e)
    {fuel : Nat} {v : Value} {x : DataW H × List MemPlace} (h : DataW.trod enc Try.prog w 0 (fun _ => true) held fuel t [v] = some x) (hw : (x.1.weights Try.prog t).all (· ≤ reachBytes) = true) :
    ∃ (ad : Option Addr) (L : List α) (cp : Nat), v = .slice ad L.length cp ∧ RdS enc' sz d0 (fun x => x < w.heap.size) w v L ∧ L.length ≤ 1000000000000000 ∧ ∀ x ∈ L, Q x := by
  rcases Go.Deep.open_slice ht h with ⟨hcs, _⟩ | ⟨a, len, cap, _, _, _, _, hcs, _⟩
  · cases hcs
    exact ⟨none, [], 0, rfl, .inl ⟨rfl, _, _, rfl⟩, by simp, by simp⟩
  · cases hcs
    obtain ⟨L, rfl, hL, hb, hQ⟩ := lists_inW (d := x.1) (p := x.2) (d0 := d0) ht hC hsz Q hrow ⟨fuel, h⟩ hw hby
    exact ⟨_, L, _, rfl, hL, hb, hQ⟩

variable {H : Type} {enc : TypeId × Value → H} {w : World} {held : Bool}

theorem num_rowW (fuel : Nat) (cs : List Value) (x : DataW H × List MemPlace) (h : DataW.trod enc Try.prog w 0 (fun _ => true) held fuel 3 cs = some x) (_ : (x.1.weights Try.prog 3).all (· ≤ reachBytes) = true) :
    ∃ l, cs = denL l ∧ l.length = 1 ∧ ∃ y : Int, l = intC y ∧ True := by
  obtain ⟨n, e, _, wf⟩ := DataW.trod_int Try.underlying3 h
  subst e
  exact ⟨[.v (.int .i64 n)], rfl, rfl, n, rfl, trivial⟩
theorem byt_rowW (fuel : Nat) (cs : List Value) (x : DataW H × List MemPlace) (h : DataW.trod enc Try.prog w 0 (fun _ => true) held fuel 5 cs = some x) (_ : (x.1.weights Try.prog 5).all (· ≤ reachBytes) = true) :
    ∃ l, cs = denL l ∧ l.length = 1 ∧ ∃ y : Int, l = byteC y ∧ True := by
  obtain ⟨n, e, _, wf⟩ := DataW.trod_int Try.underlying5 h
  subst e
  exact ⟨[.v (.int .u8 n)], rfl, rfl, n, rfl, trivial⟩

def GoodM (w : World) (m : Mg) : Prop := RdM (fun _ => True) w m ∧ m.n1 ≤ 1000000000000000 ∧ m.n2 ≤ 1000000000000000
theorem msg_row (fuel : Nat) (cs : List Value) (x : DataW H × List MemPlace) (h : DataW.trod enc Try.prog w 0 (fun _ => true) held fuel 33 cs = some x) (hw : (x.1.weights Try.prog 33).all (· ≤ reachBytes) = true) :
    ∃ m : Mg, cs = denL (mgC m) ∧ GoodM w m := by
  obtain ⟨xs, n, _, hx, hlen, hxl, hf⟩ := DataW.trod_struct Try.underlying33 h
  have hC : Try.prog.cellsOf 33 = 6 := by kernel_rfl
  have c3 : Try.prog.cellsOf 3 = 1 := by kernel_rfl
  have c30 : Try.prog.cellsOf 30 = 1 := by kernel_rfl
  have c31 : Try.prog.cellsOf 31 = 1 := by kernel_rfl
  rw [hC] at hlen
  match cs, hlen with
  | [v0, v1, v2, v3, v4, v5], _ =>
    match xs, hxl with
    | [y0, y1, y2, y3, y4, y5], _ =>
      have h0 := hf 0 _ rfl
      have h1 := hf 1 _ rfl
      have h2 := hf 2 _ rfl
      have h3 := hf 3 _ rfl
      have h4 := hf 4 _ rfl
      have h5 := hf 5 _ rfl
      simp [c3, c30, c31] at h0 h1 h2 h3 h4 h5
      obtain ⟨n0, e0, _, _⟩ := DataW.trod_int Try.underlying3 h0
      obtain ⟨n1, e1, _, _⟩ := DataW.trod_int Try.underlying3 h1
      obtain ⟨n2, e2, _, _⟩ := DataW.trod_int Try.underlying3 h2
      obtain ⟨n3, e3, _, _⟩ := DataW.trod_int Try.underlying3 h3
      simp at e0 e1 e2 e3
      subst e0 e1 e2 e3
      have hd : x.1 = .agg [y0.1, y1.1, y2.1, y3.1, y4.1, y5.1] := by
        have := congrArg Prod.fst hx
        simpa using this
      rw [hd] at hw
      simp only [DataW.weights, Try.underlying33, List.map_cons, List.map_nil, DataW.weightsEach, List.all_append, Bool.and_eq_true] at hw
      have hw4 : (y4.1.weights Try.prog 30).all (· ≤ reachBytes) = true := by simp_all
      have hw5 : (y5.1.weights Try.prog 31).all (· ≤ reachBytes) = true := by simp_all
      obtain ⟨a1, A, c1, rfl, hA, hAn, _⟩ := slc_in (enc' := intC) (sz := 1) (d0 := (0 : Int)) Try.underlying30 (by kernel_rfl) (by decide) (fun _ => True) num_rowW (by rw [show Try.prog.bytesOf 3 = 8 by kernel_rfl]; decide) h4 hw4
      obtain ⟨a2, D, c2, rfl, hD, hDn, _⟩ := slc_in (enc' := byteC) (sz := 1) (d0 := (0 : Int)) Try.underlying31 (by kernel_rfl) (by decide) (fun _ => True) byt_rowW (by rw [show Try.prog.bytesOf 5 = 1 by kernel_rfl]; decide) h5 hw5
      exact ⟨⟨n0, n1, n2, n3, a1, A.length, c1, a2, D.length, c2⟩, rfl, ⟨⟨A, rfl, hA.mono fun _ _ _ => trivial⟩, D, rfl, hD.mono fun _ _ _ => trivial⟩, hAn, hDn⟩

def GoodS (w : World) (x : Sad) : Prop := GoodM w x.m
theorem sad_row (fuel : Nat) (cs : List Value) (x : DataW H × List MemPlace) (h : DataW.trod enc Try.prog w 0 (fun _ => true) held fuel 55 cs = some x) (hw : (x.1.weights Try.prog 55).all (· ≤ reachBytes) = true) :
    ∃ l, cs = denL l ∧ l.length = 7 ∧ ∃ y : Sad, l = sadC y ∧ GoodS w y := by
  obtain ⟨xs, n, _, hx, hlen, hxl, hf⟩ := DataW.trod_struct Try.underlying55 h
  have hC : Try.prog.cellsOf 55 = 7 := by kernel_rfl
  have c3 : Try.prog.cellsOf 3 = 1 := by kernel_rfl
  have c33 : Try.prog.cellsOf 33 = 6 := by kernel_rfl
  rw [hC] at hlen
  match cs, hlen with
  | [v0, v1, v2, v3, v4, v5, v6], _ =>
    match xs, hxl with
    | [y0, y1], _ =>
      have h0 := hf 0 _ rfl
      have h1 := hf 1 _ rfl
      simp [c3, c33] at h0 h1
      obtain ⟨n0, e0, _, _⟩ := DataW.trod_int Try.underlying3 h0
      simp at e0
      subst e0
      have hd : x.1 = .agg [y0.1, y1.1] := by
        have := congrArg Prod.fst hx
        simpa using this
      rw [hd] at hw
      simp only [DataW.weights, Try.underlying55, List.map_cons, List.map_nil, DataW.weightsEach, List.all_append, Bool.and_eq_true] at hw
      have hw1 : (y1.1.weights Try.prog 33).all (· ≤ reachBytes) = true := by simp_all
      obtain ⟨m, hm, hg⟩ := msg_row _ _ _ h1 hw1
      refine ⟨sadC ⟨n0, m⟩, ?_, rfl, _, rfl, hg⟩
      rw [hm]
      rfl

def GoodN (w : World) (s : Sen) : Prop := RdA (fun _ => True) w (.slice s.ad s.S.length s.cp) s.S ∧ s.S.length ≤ 1000000000000000 ∧ ∀ x ∈ s.S, GoodS w x
theorem sen_row (fuel : Nat) (cs : List Value) (x : DataW H × List MemPlace) (h : DataW.trod enc Try.prog w 0 (fun _ => true) held fuel 53 cs = some x) (hw : (x.1.weights Try.prog 53).all (· ≤ reachBytes) = true) :
    ∃ l, cs = denL l ∧ l.length = 3 ∧ ∃ y : Sen, l = senC y ∧ GoodN w y := by
  obtain ⟨xs, n, _, hx, hlen, hxl, hf⟩ := DataW.trod_struct Try.underlying53 h
  have hC : Try.prog.cellsOf 53 = 3 := by kernel_rfl
  have c3 : Try.prog.cellsOf 3 = 1 := by kernel_rfl
  have c51 : Try.prog.cellsOf 51 = 1 := by kernel_rfl
  rw [hC] at hlen
  match cs, hlen with
  | [v0, v1, v2], _ =>
    match xs, hxl with
    | [y0, y1, y2], _ =>
      have h0 := hf 0 _ rfl
      have h1 := hf 1 _ rfl
      have h2 := hf 2 _ rfl
      simp [c3, c51] at h0 h1 h2
      obtain ⟨n0, e0, _, _⟩ := DataW.trod_int Try.underlying3 h0
      obtain ⟨n1, e1, _, _⟩ := DataW.trod_int Try.underlying3 h1
      simp at e0 e1
      subst e0 e1
      have hd : x.1 = .agg [y0.1, y1.1, y2.1] := by
        have := congrArg Prod.fst hx
        simpa using this
      rw [hd] at hw
      simp only [DataW.weights, Try.underlying53, List.map_cons, List.map_nil, DataW.weightsEach, List.all_append, Bool.and_eq_true] at hw
      have hw2 : (y2.1.weights Try.prog 51).all (· ≤ reachBytes) = true := by simp_all
      obtain ⟨a1, S, c1, rfl, hA, hAn, hG⟩ := slc_in (enc' := sadC) (sz := 7) (d0 := sad0) Try.underlying51 (by kernel_rfl) (by decide) (GoodS w) sad_row (by rw [show Try.prog.bytesOf 55 = 88 by kernel_rfl]; decide) h2 hw2
      exact ⟨_, rfl, rfl, ⟨n0, n1, a1, c1, S⟩, rfl, hA.mono fun _ _ _ => trivial, hAn, hG⟩

theorem sens_in {a : Option Addr} {n cap : Nat} {d : DataW H} {p : List MemPlace} (h : DataW.Trod enc Try.prog w 0 (fun _ => true) held 24 (.slice a n cap) d p) (hw : (d.weights Try.prog 24).all (· ≤ reachBytes) = true) :
    ∃ L : List Sen, L.length = n ∧ RdN (fun _ => True) w (.slice a n cap) L ∧ n ≤ 1000000000000000 ∧ ∀ x ∈ L, GoodN w x := by
  obtain ⟨L, h1, h2, h3, h4⟩ := lists_inW (enc' := senC) (sz := 3) (d0 := sen0) Try.underlying24 (by kernel_rfl) (by decide) (GoodN w) sen_row h hw (by rw [show Try.prog.bytesOf 53 = 40 by kernel_rfl]; decide)
  exact ⟨L, h1, h2.mono fun _ _ _ => trivial, h3, h4⟩
end Go.Proofs.Ytffooiccklfhlaa
