/- The cache: Put. -/
import Derived.Test.YtppgccbloaijoaaCG
namespace Go.Proofs
set_option linter.unusedVariables false
set_option linter.unusedSimpArgs false
set_option linter.unusedSectionVars false
open Go Go.SX Go.RowKit Go.Ring

def setE {α : Type} (D : Nat → α) (n : Nat) (e : α) : Nat → α := fun x => if x = n then e else D x

theorem RingRep.congr {w : World} {c : Nat} {h : Hd} {L : List Nat} {D D' : Nat → Ent} (hR : RingRep w c h L D) (hD : ∀ x ∈ L, D x = D' x) : RingRep w c h L D' :=
  ⟨hR.nd, hR.nc, hR.head, fun b hb => by rw [← hD b hb]; exact hR.node b hb, fun b hb => by rw [← hD b hb]; exact hR.flat b hb⟩

/-- What Put leaves. -/
def PutPost (w : World) (c : Nat) (h : Hd) (L : List Nat) (D : Nat → Ent) (G : Nat → Nat → Int) (L' : List Nat → Nat → List Nat) (lba ver : Int) (g : Nat → Int) (e : Ending) (w' : World) : Prop :=
  e = .returned (.int .i64 0) ∧ KeepsTo w (h.mp :: c :: L) w' ∧ ∃ nb bs, w.heap.size ≤ nb ∧ CRep w' c h (L' L nb) (setE D nb ⟨lba, ver, bs⟩) (setE G nb g)

theorem find_congr {L : List Nat} {p q : Nat → Bool} (h : ∀ x ∈ L, p x = q x) : L.find? p = L.find? q := by
  induction L with
  | nil => rfl
  | cons z r ih => simp only [List.find?_cons]; rw [h z (by simp), ih fun x hx => h x (by simp [hx])]

theorem last_split : ∀ {L : List Nat} {z : Nat}, L.getLast? = some z → L.dropLast ++ [z] = L
  | [], _, h => by cases h
  | [a], z, h => by simp at h; simp [h]
  | a :: b :: r, z, h => by
    rw [List.getLast?_cons_cons] at h
    simp only [List.dropLast_cons_cons, List.cons_append]
    rw [last_split h]

theorem last_some {a : Nat} {L : List Nat} : ∃ z, (a :: L).getLast? = some z := by
  cases h : (a :: L).getLast? with
  | none => simp at h
  | some z => exact ⟨z, rfl⟩

theorem del_last {L : List Nat} (nd : L.Nodup) {z : Nat} (h : L.getLast? = some z) : del L z = L.dropLast := by
  have e : L = L.dropLast ++ [z] := by
    exact (last_split h).symm
  have hz : z ∉ L.dropLast := by
    intro hz
    rw [e] at nd
    simp only [List.nodup_append] at nd
    exact nd.2.2 z hz z (by simp) rfl
  have h2 : del (L.dropLast ++ [z]) z = del L.dropLast z := by simp [del]
  rw [← e] at h2
  rw [h2, filter_self hz]

theorem CRep.dropped {w w' : World} {c : Nat} {h : Hd} {L : List Nat} {D : Nat → Ent} {G : Nat → Nat → Int} (hC : CRep w c h L D G) {b : Nat} (hb : b ∈ L) (hk : KeepsTo w (h.mp :: c :: L) w') (hR : RingRep w' c h (del L b) D)
    (hm : (SO.imap (delFn (mOf L D) (D b).lba)).rep w' h.mp) : CRep w' c h (del L b) D G := by
  have inj' : ∀ x ∈ del L b, ∀ y ∈ del L b, (D x).lba = (D y).lba → x = y := fun x hx y hy => hC.inj x (mem_del.1 hx).1 y (mem_del.1 hy).1
  refine ⟨hR, imap_congr hm fun k => ?_, hC.mpc, fun hx => hC.mpL (mem_del.1 hx).1, inj', fun x hx => ?_⟩
  · have : delFn (mOf L D) (D b).lba k = mOf (del L b) D k := by
      simp only [delFn, mOf]
      by_cases hk : k = (D b).lba
      · rw [if_pos hk]
        have : (del L b).find? (fun y => (D y).lba == k) = none := by
          rw [List.find?_eq_none]
          intro y hy
          obtain ⟨h1, h2⟩ := mem_del.1 hy
          simp only [beq_iff_eq]
          exact fun e => h2 (hC.inj y h1 b hb (e.trans hk))
        rw [this]; rfl
      · rw [if_neg hk]
        congr 1
        apply Option.ext
        intro y
        rw [find_iff hC.inj, find_iff inj', mem_del]
        constructor
        · rintro ⟨h1, h2⟩; exact ⟨⟨h1, by rintro rfl; exact hk h2.symm⟩, h2⟩
        · rintro ⟨⟨h1, _⟩, h2⟩; exact ⟨h1, h2⟩
    rw [this]
  · obtain ⟨h1, _⟩ := mem_del.1 hx
    obtain ⟨db, cap, q1, ⟨u, q2⟩, q3, q4, q5⟩ := hC.byt x h1
    exact ⟨db, cap, q1, ⟨u, hk.same q2 (by simp [q3, q4, q5])⟩, q3, q4, fun hx => q5 (mem_del.1 hx).1⟩

theorem keys_nodup {L : List Nat} {D : Nat → Ent} (nd : L.Nodup) (inj : ∀ a ∈ L, ∀ b ∈ L, (D a).lba = (D b).lba → a = b) : (L.map fun b => (D b).lba).Nodup := by
  induction L with
  | nil => simp
  | cons z r ih =>
    have nr := (List.nodup_cons.1 nd).2
    have hz := (List.nodup_cons.1 nd).1
    rw [List.map_cons, List.nodup_cons]
    refine ⟨fun h => ?_, ih nr fun a ha b hb => inj a (by simp [ha]) b (by simp [hb])⟩
    obtain ⟨y, hy, e⟩ := List.mem_map.1 h
    have := inj y (by simp [hy]) z (by simp) e
    subst this
    exact hz hy

theorem mOf_some {L : List Nat} {D : Nat → Ent} {k : Int} : (mOf L D k).isSome = true ↔ k ∈ L.map fun b => (D b).lba := by
  simp only [mOf, Option.isSome_map, List.find?_isSome, List.mem_map, beq_iff_eq]

set_option maxRecDepth 100000 in
set_option maxHeartbeats 8000000 in
theorem put_new (w : World) (c : Nat) (h : Hd) (L : List Nat) (D : Nat → Ent) (G : Nat → Nat → Int) (hC : CRep w c h L D G) (lba ver : Int) (hl : 0 ≤ lba) (hv : 0 ≤ ver) (tb cap : Nat) (g : Nat → Int) (hB : Blk w tb cap g)
    (hf : L.find? (fun b => (D b).lba == lba) = none) :
    Calls Try.prog 8 (denL [.v (.pointer (some ⟨c, 0, none⟩)), .v (.int .i64 lba), .v (.int .i64 ver), .v (.slice (some ⟨tb, 0, none⟩) 16 cap)]).toArray w (PutPost w c h L D G (fun L nb => if (L.length : Int) + 1 > h.most then (nb :: L).dropLast else nb :: L) lba ver g) := by
  have hE : HpAll ⟨w, w.heap.size, h.mp :: c :: L⟩ w [(c, false, .cells (headM 1 h (.v (npv c L.getLast?)) (.v (npv c L.head?))) 59), (h.mp, false, .imap (mOf L D))] :=
    ⟨⟨rep_den hC.ring.head rfl, by simp, by simpa using hC.mpc.symm⟩, ⟨hC.map, by simp, by simp⟩, trivial⟩
  have hm : mOf L D lba = none := by simp [mOf, hf]
  have hl' : ¬ lba < 0 := by omega
  have hv' : ¬ ver < 0 := by omega
  refine enter (F := ⟨w, w.heap.size, h.mp :: c :: L⟩) Try.func8 rfl [.ptr 0 c 0, .v (.int .i64 lba), .v (.int .i64 ver), .v (.slice (some ⟨tb, 0, none⟩) 16 cap)] _ (by simp [Try.f8]) hE (KeepsTo.refl w _) fun a hr => ?_
  refine seg cfg8_ok mixed PanicFree.body 1000 [false, false] [] hr.rebase (by first | trivial | exact HpRep.nil | assumption) (by kernel_rfl) fun s_ hs_ => ?_
  simp (maxSteps := 10000000) [SX.vc, SX.stop, SX.contS, SX.contB, SX.contW, SX.contR, SX.contD, SX.sxStep, SX.stepPure, SX.stepNew, SX.stepStore, SX.stepKeep, SX.guardIx, SX.evOp, SX.opd, SX.opds, SX.optOpd, SX.look, SX.putS, SX.gobs, SX.AllP, SX.leave, SX.lookC, SX.lookB, SX.lookT, SX.lookN, SX.findK, SX.evBuiltin, SX.ints, SX.foldI, SX.evBin, SX.evInt, SX.evStr, SX.evEq, SX.arith, SX.evLoad, SX.shapeUp, SX.evFieldAddr, SX.evField, SX.evIndexAddr, SX.evIndex, SX.evFill, SX.evBuild, SX.szs, SX.cellsV, SX.evNew, SX.evStore, SX.spliceL, SX.SV.cells, SX.evConv, SX.evSlice, SX.bnd, SX.evNil, SX.evUn, SX.evPick, SX.pickOpd, SX.popTo, SX.cnd, SX.env0, SX.TD.isAgg, SX.TD.isIface, SX.tails, SX.NotAgg, SX.evLookup, SX.evConvH, SX.evPtrEq, SX.isCells, SX.thaw, SX.frz, SX.fixB, SX.rootIx, SX.Froz, SX.frzStep, SX.fork, Go.Value.cells, Go.undef, cfg8, Try.f8, headM, hm, hl', hv']
  refine ⟨by (unfold SX.Ob; first | trivial | omega | ((try simp only [SX.inK]); (try simp [SX.den, SX.IsU8, SX.AllP, *]); (try omega))), ?_⟩
  intro a1 w1 hr1' _
  have hr1 := hr.unbase hr1'
  have hb1 : Below w.heap.size w w1 := by simpa [mutB] using hr1'.keeps.toBelow
  have hC1 := hC.keep hb1
  have hB1 : Blk w1 tb cap g := by obtain ⟨u, hu⟩ := hB; exact ⟨u, SO.rep_same hu (hb1.block _ (SO.rep_lt hu))⟩
  refine post_call 18 [.v (.slice (some ⟨tb, 0, none⟩) 16 cap)] hr1 (wanted_none rfl) rfl (callable 18 Try.func18) (clone_ok w1 tb cap g hB1) ?_
  rintro e w2 ⟨db, cap', rfl, hdb, hB2, hbel2⟩
  refine ⟨_, rfl, ?_⟩
  have hC2 := hC1.keep hbel2
  have h2 := hr1.retK (KeepsTo.below hbel2 []) (by simp) 42 (.v (.slice (some ⟨db, 0, none⟩) 16 cap')) rfl [(c, false, .cells (headM 1 h (.v (npv c L.getLast?)) (.v (npv c L.head?))) 59), (h.mp, true, .imap (mOf L D))]
    ⟨⟨rep_den hC2.ring.head rfl, by simp, by simpa using hC.mpc.symm⟩, ⟨hC2.map, by simp, by simp⟩, trivial⟩ (by simp) rfl
  refine seg cfg8_ok mixed PanicFree.body 1000 [] [] h2.rebase (by first | trivial | exact HpRep.nil | assumption) (by kernel_rfl) fun s_ hs_ => ?_
  simp (maxSteps := 10000000) [SX.vc, SX.stop, SX.contS, SX.contB, SX.contW, SX.contR, SX.contD, SX.sxStep, SX.stepPure, SX.stepNew, SX.stepStore, SX.stepKeep, SX.guardIx, SX.evOp, SX.opd, SX.opds, SX.optOpd, SX.look, SX.putS, SX.gobs, SX.AllP, SX.leave, SX.lookC, SX.lookB, SX.lookT, SX.lookN, SX.findK, SX.evBuiltin, SX.ints, SX.foldI, SX.evBin, SX.evInt, SX.evStr, SX.evEq, SX.arith, SX.evLoad, SX.shapeUp, SX.evFieldAddr, SX.evField, SX.evIndexAddr, SX.evIndex, SX.evFill, SX.evBuild, SX.szs, SX.cellsV, SX.evNew, SX.evStore, SX.spliceL, SX.SV.cells, SX.evConv, SX.evSlice, SX.bnd, SX.evNil, SX.evUn, SX.evPick, SX.pickOpd, SX.popTo, SX.cnd, SX.env0, SX.TD.isAgg, SX.TD.isIface, SX.tails, SX.NotAgg, SX.evLookup, SX.evConvH, SX.evPtrEq, SX.isCells, SX.thaw, SX.frz, SX.fixB, SX.rootIx, SX.Froz, SX.frzStep, SX.fork, Go.Value.cells, Go.undef, cfg8, headM]
  refine ⟨by (unfold SX.Ob; first | trivial | omega | ((try simp only [SX.inK]); (try simp [SX.den, SX.IsU8, SX.AllP, *]); (try omega))), ?_⟩
  intro a3 w3 hr3' _
  obtain ⟨nb, hnb⟩ : ∃ x, x = s_ := ⟨_, rfl⟩
  subst hnb
  have hr3 := h2.unbase hr3'
  have hA3 := hr3.all
  have hnL : nb ∉ L := fun hx => by have := hC2.ring.lt (.inr hx); omega
  have hnc : nb ≠ c := fun hx => by have := hC2.ring.lt (x := c) (.inl rfl); omega
  have hR3 : RingRep w3 c h L (setE D nb ⟨lba, ver, .slice (some ⟨db, 0, none⟩) 16 cap'⟩) := by
    refine (hC2.ring.keep fun x hx => hr3'.old (hC2.ring.lt hx) ?_).congr fun x hx => ?_
    · simp [mutB]
      rcases hx with rfl | hx
      · exact hC.mpc.symm
      · rintro rfl; exact hC.mpL hx
    · simp only [setE]; rw [if_neg (by rintro rfl; exact hnL hx)]
  refine post_call 19 [.ptr 0 c 0, .ptr 2 nb 0] hr3 (wanted_none rfl) rfl (callable 19 Try.func19) (first_ok w3 c h L _ hR3 nb hnL hnc (by simp [setE]; trivial) (.v (.pointer none)) (.v (.pointer none)) (rep_den hA3.2.2.1.1 (by simp [setE, nodeCells])) trivial trivial) ?_
  rintro e w4 ⟨rfl, hk4, hR4⟩
  refine ⟨_, rfl, ?_⟩
  have hmn : h.mp ≠ nb := fun hx => by have := SO.rep_lt hC2.map; omega
  have hnw : w.heap.size ≤ nb := by have h9 : w.heap.size ≤ w1.heap.size := hr1.keeps.size; have := hbel2.size; omega
  have h4 := hr3.retK hk4 (fun x hx => by simp at hx ⊢; rcases hx with rfl | rfl | hx; exact .inl hnw; exact .inr (.inr (.inl rfl)); exact .inr (.inr (.inr hx))) 53 (.tu []) rfl [(c, false, .cells (headM 1 h (.v (npv c (nb :: L).getLast?)) (.v (npv c (nb :: L).head?))) 59), (h.mp, false, .imap (updFn (mOf L D) lba (.ptr 2 nb 0)))]
    ⟨⟨rep_den hR4.head rfl, by simp, by simpa using hC.mpc.symm⟩, ⟨hk4.same hA3.2.1.1 (by simp [hmn, hC.mpc, hC.mpL]), by simp, by simp⟩, trivial⟩ (by simp) rfl
  refine seg cfg8_ok mixed PanicFree.body 1000 [] [] h4.rebase (by first | trivial | exact HpRep.nil | assumption) (by kernel_rfl) fun s_ hs_ => ?_
  simp (maxSteps := 10000000) [SX.vc, SX.stop, SX.contS, SX.contB, SX.contW, SX.contR, SX.contD, SX.sxStep, SX.stepPure, SX.stepNew, SX.stepStore, SX.stepKeep, SX.guardIx, SX.evOp, SX.opd, SX.opds, SX.optOpd, SX.look, SX.putS, SX.gobs, SX.AllP, SX.leave, SX.lookC, SX.lookB, SX.lookT, SX.lookN, SX.findK, SX.evBuiltin, SX.ints, SX.foldI, SX.evBin, SX.evInt, SX.evStr, SX.evEq, SX.arith, SX.evLoad, SX.shapeUp, SX.evFieldAddr, SX.evField, SX.evIndexAddr, SX.evIndex, SX.evFill, SX.evBuild, SX.szs, SX.cellsV, SX.evNew, SX.evStore, SX.spliceL, SX.SV.cells, SX.evConv, SX.evSlice, SX.bnd, SX.evNil, SX.evUn, SX.evPick, SX.pickOpd, SX.popTo, SX.cnd, SX.env0, SX.TD.isAgg, SX.TD.isIface, SX.tails, SX.NotAgg, SX.evLookup, SX.evConvH, SX.evPtrEq, SX.isCells, SX.thaw, SX.frz, SX.fixB, SX.rootIx, SX.Froz, SX.frzStep, SX.fork, Go.Value.cells, Go.undef, cfg8, headM]
  refine ⟨by (unfold SX.Ob; first | trivial | omega | ((try simp only [SX.inK]); (try simp [SX.den, SX.IsU8, SX.AllP, *]); (try omega))), ?_⟩
  intro a5 w5 hr5' ht5
  have hr5 := h4.unbase hr5'
  have hE1 : ∀ x ∈ L, setE D nb ⟨lba, ver, .slice (some ⟨db, 0, none⟩) 16 cap'⟩ x = D x := fun x hx => by simp only [setE]; rw [if_neg (by rintro rfl; exact hnL hx)]
  have hmap : (nb :: L).map (fun b => (setE D nb ⟨lba, ver, .slice (some ⟨db, 0, none⟩) 16 cap'⟩ b).lba) = lba :: L.map fun b => (D b).lba := by
    rw [List.map_cons]
    congr 1
    · simp [setE]
    · exact List.map_congr_left fun x hx => by rw [hE1 x hx]
  have hnot : lba ∉ L.map fun b => (D b).lba := by rw [← mOf_some, hm]; simp
  refine post_maplenD (lba :: L.map fun b => (D b).lba) hr5 rfl rfl rfl rfl (t := 49) rfl Try.underlying49 (j := 1) rfl (List.nodup_cons.2 ⟨hnot, keys_nodup hC.ring.nd hC.inj⟩) (fun k => ?_) (by simp) rfl ?_
  · rw [List.mem_cons, ← mOf_some]
    simp only [updFn]
    by_cases hk : k = lba <;> simp [hk]
  intro a6 hr6
  have hlen : ((lba :: L.map fun b => (D b).lba).length : Int) = (L.length : Int) + 1 := by simp
  have hb5 : Below w4.heap.size w4 w5 := by simpa [mutB] using hr5'.keeps.toBelow
  have hdbw : db < w2.heap.size := by obtain ⟨u, hu⟩ := hB2; exact SO.rep_lt hu
  have hd1 : db ≠ h.mp := fun e => by have := SO.rep_lt hC1.map; omega
  have hd2 : db ≠ c := fun e => by have := hC1.ring.lt (x := c) (.inl rfl); omega
  have hd3 : db ∉ L := fun hx => by have := hC1.ring.lt (.inr hx); omega
  have hd4 : db ≠ nb := by omega
  have hBk : ∀ b cap g, Blk w2 b cap g → b ≠ h.mp → b ≠ c → b ∉ L → Blk w4 b cap g := fun b cap g ⟨u, hu⟩ q1 q2 q3 => by
    have hlt := SO.rep_lt hu
    exact ⟨u, hk4.same (SO.rep_same hu (hr3'.old hlt (by simp [mutB, q1]))) (by simp [q2, q3]; omega)⟩
  have hC4 : CRep w4 c h (nb :: L) (setE D nb ⟨lba, ver, .slice (some ⟨db, 0, none⟩) 16 cap'⟩) (setE G nb g) := by
    refine ⟨hR4, ?_, hC.mpc, by simpa using ⟨hmn, hC.mpL⟩, ?_, ?_⟩
    · refine imap_congr (hk4.same hA3.2.1.1 (by simp [hmn, hC.mpc, hC.mpL])) fun k => ?_
      by_cases hk : k = lba
      · subst hk; simp [updFn, mOf, setE, den]
      · have e1 : L.find? (fun b => (setE D nb ⟨lba, ver, .slice (some ⟨db, 0, none⟩) 16 cap'⟩ b).lba == k) = L.find? (fun b => (D b).lba == k) := find_congr fun x hx => by rw [hE1 x hx]
        simp only [updFn, if_neg hk, mOf]
        rw [List.find?_cons_of_neg (by simp [setE]; exact fun e => hk e.symm), e1]
    · have hne : ∀ x ∈ L, (D x).lba ≠ lba := fun x hx e => hnot (List.mem_map.2 ⟨x, hx, e⟩)
      intro x hx y hy e
      have en : (setE D nb ⟨lba, ver, .slice (some ⟨db, 0, none⟩) 16 cap'⟩ nb).lba = lba := by simp [setE]
      rcases List.mem_cons.1 hx with hx1 | hx1 <;> rcases List.mem_cons.1 hy with hy1 | hy1
      · rw [hx1, hy1]
      · rw [hx1, en, hE1 y hy1] at e; exact absurd e.symm (hne y hy1)
      · rw [hy1, en, hE1 x hx1] at e; exact absurd e (hne x hx1)
      · rw [hE1 x hx1, hE1 y hy1] at e; exact hC.inj x hx1 y hy1 e
    · intro x hx
      rcases List.mem_cons.1 hx with hx1 | hx1
      · rw [hx1]
        exact ⟨db, cap', by simp [setE], by simpa [setE] using hBk db cap' g hB2 hd1 hd2 hd3, hd1, hd2, by simpa using ⟨hd4, hd3⟩⟩
      · obtain ⟨db', cp, q1, q2, q3, q4, q5⟩ := hC2.byt x hx1
        have hxn : x ≠ nb := by rintro rfl; exact hnL hx1
        have hlt : db' < w2.heap.size := by obtain ⟨u, hu⟩ := q2; exact SO.rep_lt hu
        exact ⟨db', cp, by rw [hE1 x hx1]; exact q1, by simpa [setE, hxn] using hBk db' cp (G x) q2 q3 q4 q5, q3, q4, by simp [q5]; omega⟩
  have hC5 := hC4.keep hb5
  by_cases hbig : h.most < (L.length : Int) + 1
  · refine seg cfg8_ok mixed PanicFree.body 1000 [true] [] hr6.rebase (by first | trivial | exact HpRep.nil | assumption) (by kernel_rfl) fun s_ hs_ => ?_
    simp (maxSteps := 10000000) [SX.vc, SX.stop, SX.contS, SX.contB, SX.contW, SX.contR, SX.contD, SX.sxStep, SX.stepPure, SX.stepNew, SX.stepStore, SX.stepKeep, SX.guardIx, SX.evOp, SX.opd, SX.opds, SX.optOpd, SX.look, SX.putS, SX.gobs, SX.AllP, SX.leave, SX.lookC, SX.lookB, SX.lookT, SX.lookN, SX.findK, SX.evBuiltin, SX.ints, SX.foldI, SX.evBin, SX.evInt, SX.evStr, SX.evEq, SX.arith, SX.evLoad, SX.shapeUp, SX.evFieldAddr, SX.evField, SX.evIndexAddr, SX.evIndex, SX.evFill, SX.evBuild, SX.szs, SX.cellsV, SX.evNew, SX.evStore, SX.spliceL, SX.SV.cells, SX.evConv, SX.evSlice, SX.bnd, SX.evNil, SX.evUn, SX.evPick, SX.pickOpd, SX.popTo, SX.cnd, SX.env0, SX.TD.isAgg, SX.TD.isIface, SX.tails, SX.NotAgg, SX.evLookup, SX.evConvH, SX.evPtrEq, SX.isCells, SX.thaw, SX.frz, SX.fixB, SX.rootIx, SX.Froz, SX.frzStep, SX.fork, Go.Value.cells, Go.undef, cfg8, headM, hbig]
    refine ⟨by (unfold SX.Ob; first | trivial | omega | ((try simp only [SX.inK]); (try simp [SX.den, SX.IsU8, SX.AllP, *]); (try omega))), ?_⟩
    intro a7 w7 hr7' _
    have hr7 := hr6.unbase hr7'
    have hb7 : Below w5.heap.size w5 w7 := by simpa [mutB] using hr7'.keeps.toBelow
    have hC7 := hC5.keep hb7
    obtain ⟨z, hz⟩ : ∃ z, (nb :: L).getLast? = some z := last_some
    have hzm := List.mem_of_getLast? hz
    refine post_call 17 [.ptr 0 c 0, .v (npv c (nb :: L).getLast?)] hr7 (wanted_none rfl) rfl (callable 17 Try.func17) (by rw [hz]; exact drop_ok w7 c h (nb :: L) _ hC7.ring z hzm _ hC7.map hC7.mpc hC7.mpL) ?_
    rintro e w8 ⟨rfl, hk8, hR8, hm8⟩
    refine ⟨_, rfl, ?_⟩
    have hC8 := hC7.dropped hzm hk8 hR8 hm8
    have h8 := hr7.retK hk8 (fun x hx => by simp at hx ⊢; rcases hx with rfl | rfl | rfl | hx; exact .inr (.inl rfl); exact .inr (.inr (.inl rfl)); exact .inl hnw; exact .inr (.inr (.inr hx))) 70 (.tu []) rfl [] trivial (by simp) rfl
    refine seg cfg8_ok mixed PanicFree.body 1000 [] [] h8.rebase (by first | trivial | exact HpRep.nil | assumption) (by kernel_rfl) fun s_ hs_ => ?_
    simp (maxSteps := 10000000) [SX.vc, SX.stop, SX.contS, SX.contB, SX.contW, SX.contR, SX.contD, SX.sxStep, SX.stepPure, SX.stepNew, SX.stepStore, SX.stepKeep, SX.guardIx, SX.evOp, SX.opd, SX.opds, SX.optOpd, SX.look, SX.putS, SX.gobs, SX.AllP, SX.leave, SX.lookC, SX.lookB, SX.lookT, SX.lookN, SX.findK, SX.evBuiltin, SX.ints, SX.foldI, SX.evBin, SX.evInt, SX.evStr, SX.evEq, SX.arith, SX.evLoad, SX.shapeUp, SX.evFieldAddr, SX.evField, SX.evIndexAddr, SX.evIndex, SX.evFill, SX.evBuild, SX.szs, SX.cellsV, SX.evNew, SX.evStore, SX.spliceL, SX.SV.cells, SX.evConv, SX.evSlice, SX.bnd, SX.evNil, SX.evUn, SX.evPick, SX.pickOpd, SX.popTo, SX.cnd, SX.env0, SX.TD.isAgg, SX.TD.isIface, SX.tails, SX.NotAgg, SX.evLookup, SX.evConvH, SX.evPtrEq, SX.isCells, SX.thaw, SX.frz, SX.fixB, SX.rootIx, SX.Froz, SX.frzStep, SX.fork, Go.Value.cells, Go.undef, cfg8]
    refine ⟨by (unfold SX.Ob; first | trivial | omega | ((try simp only [SX.inK]); (try simp [SX.den, SX.IsU8, SX.AllP, *]); (try omega))), ?_⟩
    intro a9 w9 hr9' _
    have hr9 := h8.unbase hr9'
    have hb9 : Below w8.heap.size w8 w9 := by simpa [mutB] using hr9'.keeps.toBelow
    exact post_retn (end1 hr9 rfl rfl ⟨rfl, hr9.keeps, nb, .slice (some ⟨db, 0, none⟩) 16 cap', hnw, by simp only [hbig, gt_iff_lt, if_true]; rw [← del_last hC7.ring.nd hz]; exact hC8.keep hb9⟩).1
  · refine seg cfg8_ok mixed PanicFree.body 1000 [false] [] hr6.rebase (by first | trivial | exact HpRep.nil | assumption) (by kernel_rfl) fun s_ hs_ => ?_
    simp (maxSteps := 10000000) [SX.vc, SX.stop, SX.contS, SX.contB, SX.contW, SX.contR, SX.contD, SX.sxStep, SX.stepPure, SX.stepNew, SX.stepStore, SX.stepKeep, SX.guardIx, SX.evOp, SX.opd, SX.opds, SX.optOpd, SX.look, SX.putS, SX.gobs, SX.AllP, SX.leave, SX.lookC, SX.lookB, SX.lookT, SX.lookN, SX.findK, SX.evBuiltin, SX.ints, SX.foldI, SX.evBin, SX.evInt, SX.evStr, SX.evEq, SX.arith, SX.evLoad, SX.shapeUp, SX.evFieldAddr, SX.evField, SX.evIndexAddr, SX.evIndex, SX.evFill, SX.evBuild, SX.szs, SX.cellsV, SX.evNew, SX.evStore, SX.spliceL, SX.SV.cells, SX.evConv, SX.evSlice, SX.bnd, SX.evNil, SX.evUn, SX.evPick, SX.pickOpd, SX.popTo, SX.cnd, SX.env0, SX.TD.isAgg, SX.TD.isIface, SX.tails, SX.NotAgg, SX.evLookup, SX.evConvH, SX.evPtrEq, SX.isCells, SX.thaw, SX.frz, SX.fixB, SX.rootIx, SX.Froz, SX.frzStep, SX.fork, Go.Value.cells, Go.undef, cfg8, headM, hbig]
    refine ⟨by (unfold SX.Ob; first | trivial | omega | ((try simp only [SX.inK]); (try simp [SX.den, SX.IsU8, SX.AllP, *]); (try omega))), ?_⟩
    intro a7 w7 hr7' _
    have hr7 := hr6.unbase hr7'
    have hb7 : Below w5.heap.size w5 w7 := by simpa [mutB] using hr7'.keeps.toBelow
    exact post_retn (end1 hr7 rfl rfl ⟨rfl, hr7.keeps, nb, .slice (some ⟨db, 0, none⟩) 16 cap', hnw, by simp only [hbig, gt_iff_lt, if_false]; exact hC5.keep hb7⟩).1

def SamePost (w : World) (c : Nat) (h : Hd) (L : List Nat) (D : Nat → Ent) (G : Nat → Nat → Int) (e : Ending) (w' : World) : Prop :=
  e = .returned (.int .i64 0) ∧ Below w.heap.size w w' ∧ CRep w' c h L D G

set_option maxRecDepth 100000 in
set_option maxHeartbeats 8000000 in
theorem put_newer (w : World) (c : Nat) (h : Hd) (L : List Nat) (D : Nat → Ent) (G : Nat → Nat → Int) (hC : CRep w c h L D G) (lba ver : Int) (hl : 0 ≤ lba) (hv : 0 ≤ ver) (tb cap : Nat) (b : Nat)
    (hf : L.find? (fun b => (D b).lba == lba) = some b) (hg : (D b).ver > ver) :
    Calls Try.prog 8 (denL [.v (.pointer (some ⟨c, 0, none⟩)), .v (.int .i64 lba), .v (.int .i64 ver), .v (.slice (some ⟨tb, 0, none⟩) 16 cap)]).toArray w (SamePost w c h L D G) := by
  have hbL := List.mem_of_find?_eq_some hf
  have hcb : c ≠ b := fun e => hC.ring.nc (e ▸ hbL)
  have hmb : h.mp ≠ b := fun e => hC.mpL (e ▸ hbL)
  have hE : HpAll (frame0 w) w [(c, false, .cells (headM 1 h (.v (npv c L.getLast?)) (.v (npv c L.head?))) 59), (h.mp, false, .imap (mOfT L D lba 2 b)), (b, false, .cells (nodeCells (D b) (.v (npv c (predL L b))) (.v (npv c (succL L b)))) 52)] :=
    ⟨⟨rep_den hC.ring.head rfl, by simp, by simp [hC.mpc.symm, hcb]⟩, ⟨imap_congr hC.map (mOf_find hf 2), by simp, by simpa using hmb⟩, ⟨hC.ring.node b hbL, by simp, by simp⟩, trivial⟩
  have hm : mOfT L D lba 2 b lba = some (.ptr 2 b 0) := by simp [mOfT]
  have hl' : ¬ lba < 0 := by omega
  have hv' : ¬ ver < 0 := by omega
  have hg' : ver < (D b).ver := hg
  refine enter (F := frame0 w) Try.func8 rfl [.ptr 0 c 0, .v (.int .i64 lba), .v (.int .i64 ver), .v (.slice (some ⟨tb, 0, none⟩) 16 cap)] _ (by simp [Try.f8]) hE (keeps0 w) fun a hr => ?_
  refine seg cfg8_ok mixed PanicFree.body 1000 [false, true, true] [] hr (by first | trivial | exact HpRep.nil | assumption) (by kernel_rfl) fun s_ hs_ => ?_
  simp (maxSteps := 10000000) [SX.vc, SX.stop, SX.contS, SX.contB, SX.contW, SX.contR, SX.contD, SX.sxStep, SX.stepPure, SX.stepNew, SX.stepStore, SX.stepKeep, SX.guardIx, SX.evOp, SX.opd, SX.opds, SX.optOpd, SX.look, SX.putS, SX.gobs, SX.AllP, SX.leave, SX.lookC, SX.lookB, SX.lookT, SX.lookN, SX.findK, SX.evBuiltin, SX.ints, SX.foldI, SX.evBin, SX.evInt, SX.evStr, SX.evEq, SX.arith, SX.evLoad, SX.shapeUp, SX.evFieldAddr, SX.evField, SX.evIndexAddr, SX.evIndex, SX.evFill, SX.evBuild, SX.szs, SX.cellsV, SX.evNew, SX.evStore, SX.spliceL, SX.SV.cells, SX.evConv, SX.evSlice, SX.bnd, SX.evNil, SX.evUn, SX.evPick, SX.pickOpd, SX.popTo, SX.cnd, SX.env0, SX.TD.isAgg, SX.TD.isIface, SX.tails, SX.NotAgg, SX.evLookup, SX.evConvH, SX.evPtrEq, SX.isCells, SX.thaw, SX.frz, SX.fixB, SX.rootIx, SX.Froz, SX.frzStep, SX.fork, Go.Value.cells, Go.undef, cfg8, Try.f8, headM, nodeCells, hm, hl', hv', hg']
  refine ⟨by (unfold SX.Ob; first | trivial | omega | ((try simp only [SX.inK]); (try simp [SX.den, SX.IsU8, SX.AllP, *]); (try omega))), ?_⟩
  intro a1 w1 hr1 _
  exact post_retn (end1 hr1 rfl rfl ⟨rfl, hr1.keeps.toBelow, hC.keep hr1.keeps.toBelow⟩).1
end Go.Proofs
