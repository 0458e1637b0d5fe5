/- The cache as a list of what is there, the one asked for last first. -/
import Derived.Test.YtppgccbloaijoaaCY
namespace Go.Proofs
set_option linter.unusedVariables false
set_option linter.unusedSimpArgs false
set_option linter.unusedSectionVars false
open Go Go.SX Go.RowKit Go.Ring

structure It where
  lba : Int
  ver : Int
  g : Nat → Int

def itemsOf (L : List Nat) (D : Nat → Ent) (G : Nat → Nat → Int) : List It := L.map fun b => ⟨(D b).lba, (D b).ver, G b⟩

def trimL (m : Int) (l : List It) : List It := if (l.length : Int) > m then l.dropLast else l
def othersL (lba : Int) (A : List It) : List It := A.filter fun x => x.lba ≠ lba
def findL (lba : Int) (A : List It) : Option It := A.find? fun x => x.lba == lba
def putL (m : Int) (A : List It) (t : It) : List It :=
  match findL t.lba A with
  | none => trimL m (t :: A)
  | some x => if x.ver > t.ver then A else trimL m (t :: othersL t.lba A)

/-- The cache at c; all its blocks are of P. -/
def CS (P : Nat → Prop) (w : World) (c : Nat) (most hits fails : Int) (A : List It) : Prop :=
  ∃ mp L D G, CRep w c ⟨most, mp, hits, fails⟩ L D G ∧ itemsOf L D G = A ∧ ∀ x ∈ mp :: c :: L, P x

/-- Blocks of P alone were changed. -/
def Cha (P : Nat → Prop) (w w' : World) : Prop := ∃ M, KeepsTo w M w' ∧ ∀ x ∈ M, P x

theorem CRep.lt {w : World} {c : Nat} {h : Hd} {L : List Nat} {D : Nat → Ent} {G : Nat → Nat → Int} (hC : CRep w c h L D G) {x : Nat} (hx : x ∈ h.mp :: c :: L) : x < w.heap.size := by
  rcases List.mem_cons.1 hx with rfl | hx
  · exact SO.rep_lt hC.map
  · exact hC.ring.lt (by simpa using hx)

theorem CS.keep {P : Nat → Prop} {w w' : World} {c : Nat} {most hits fails : Int} {A : List It} (h : CS P w c most hits fails A) (hb : Below w.heap.size w w') : CS P w' c most hits fails A := by
  obtain ⟨mp, L, D, G, hC, hA, hP⟩ := h
  exact ⟨mp, L, D, G, hC.keep hb, hA, hP⟩

theorem CS.mono {P P' : Nat → Prop} {w : World} {c : Nat} {most hits fails : Int} {A : List It} (h : CS P w c most hits fails A) (hP' : ∀ x, x < w.heap.size → P x → P' x) : CS P' w c most hits fails A := by
  obtain ⟨mp, L, D, G, hC, hA, hP⟩ := h
  exact ⟨mp, L, D, G, hC, hA, fun x hx => hP' x (hC.lt hx) (hP x hx)⟩

theorem CS.head {P : Nat → Prop} {w : World} {c : Nat} {most hits fails : Int} {A : List It} (h : CS P w c most hits fails A) : P c ∧ c < w.heap.size := by
  obtain ⟨mp, L, D, G, hC, hA, hP⟩ := h
  exact ⟨hP c (by simp), hC.lt (by simp)⟩

theorem Cha.to {F : Fr} {P : Nat → Prop} {w w' : World} (h : Cha P w w') : ∃ M, KeepsTo w M w' ∧ ∀ x ∈ M, P x := h

theorem find_items {L : List Nat} {D : Nat → Ent} {G : Nat → Nat → Int} {lba : Int} : findL lba (itemsOf L D G) = (L.find? fun b => (D b).lba == lba).map fun b => ⟨(D b).lba, (D b).ver, G b⟩ := by
  induction L with
  | nil => rfl
  | cons z r ih =>
    simp only [findL, itemsOf, List.map_cons, List.find?_cons] at ih ⊢
    cases h : (D z).lba == lba
    · exact ih
    · rfl

theorem items_del {L : List Nat} {D : Nat → Ent} {G : Nat → Nat → Int} (inj : ∀ a ∈ L, ∀ b ∈ L, (D a).lba = (D b).lba → a = b) {b : Nat} (hb : b ∈ L) : itemsOf (del L b) D G = othersL (D b).lba (itemsOf L D G) := by
  have : ∀ K : List Nat, (∀ x ∈ K, x ∈ L) → itemsOf (del K b) D G = othersL (D b).lba (itemsOf K D G) := by
    intro K
    induction K with
    | nil => intro _; rfl
    | cons z r ih =>
      intro hs
      have ih := ih fun x hx => hs x (by simp [hx])
      simp only [itemsOf, del, othersL, List.filter_cons, List.map_cons] at ih ⊢
      by_cases hz : z = b
      · subst hz; simpa using ih
      · have : (D z).lba ≠ (D b).lba := fun e => hz (inj z (hs z (by simp)) b hb e)
        simp only [hz, this, ne_eq, not_false_eq_true, decide_true, if_true, List.map_cons]
        rw [ih]
  exact this L fun x hx => hx

theorem items_set {L : List Nat} {D : Nat → Ent} {G : Nat → Nat → Int} {nb : Nat} (hn : nb ∉ L) (e : Ent) (g : Nat → Int) : itemsOf L (setE D nb e) (setE G nb g) = itemsOf L D G := by
  apply List.map_congr_left
  intro x hx
  have : x ≠ nb := fun e => hn (e ▸ hx)
  simp [setE, this]

theorem items_trim {L : List Nat} {D : Nat → Ent} {G : Nat → Nat → Int} {m : Int} : itemsOf (if (L.length : Int) > m then L.dropLast else L) D G = trimL m (itemsOf L D G) := by
  unfold trimL
  have : (itemsOf L D G).length = L.length := by simp [itemsOf]
  rw [this]
  split
  · simp [itemsOf, List.map_dropLast]
  · rfl

def PutS (P : Nat → Prop) (w : World) (c : Nat) (most hits fails : Int) (A : List It) (t : It) (e : Ending) (w' : World) : Prop :=
  e = .returned (.int .i64 0) ∧ Cha P w w' ∧ CS P w' c most hits fails (putL most A t)

theorem put_ok (P : Nat → Prop) (w : World) (c : Nat) (most hits fails : Int) (A : List It) (hS : CS P w c most hits fails A) (hP : ∀ x, w.heap.size ≤ x → P x) (t : It) (hl : 0 ≤ t.lba) (hv : 0 ≤ t.ver) (tb cap : Nat) (hB : Blk w tb cap t.g) (hPt : ¬ P tb) :
    Calls Try.prog 8 (denL [.v (.pointer (some ⟨c, 0, none⟩)), .v (.int .i64 t.lba), .v (.int .i64 t.ver), .v (.slice (some ⟨tb, 0, none⟩) 16 cap)]).toArray w (PutS P w c most hits fails A t) := by
  obtain ⟨mp, L, D, G, hC, rfl, hA⟩ := hS
  have hsub : ∀ (L' : List Nat) (nb : Nat), w.heap.size ≤ nb → (∀ x ∈ L', x = nb ∨ x ∈ L) → ∀ x ∈ mp :: c :: L', P x := by
    intro L' nb h1 h2 x hx
    simp only [List.mem_cons] at hx
    rcases hx with rfl | rfl | hx
    · exact hA _ (by simp)
    · exact hA _ (by simp)
    · rcases h2 x hx with rfl | h3
      · exact hP _ h1
      · exact hA _ (by simp [h3])
  cases hf : L.find? (fun b => (D b).lba == t.lba) with
  | none =>
    refine (put_new w c _ L D G hC t.lba t.ver hl hv tb cap t.g hB hf).mono ?_
    rintro e w' ⟨rfl, hk, nb, bs, hnb, hC'⟩
    have hn : nb ∉ L := fun h => by have := hC.ring.lt (.inr h); omega
    refine ⟨rfl, ⟨_, hk, hA⟩, _, _, _, _, hC', ?_, hsub _ nb hnb fun x hx => ?_⟩
    · simp only [putL, find_items, hf, Option.map_none]
      have h9 := items_trim (L := nb :: L) (D := setE D nb ⟨t.lba, t.ver, bs⟩) (G := setE G nb t.g) (m := most)
      simp only [List.length_cons, Int.natCast_add, Int.cast_ofNat_Int] at h9
      rw [h9]
      congr 1
      show _ :: itemsOf L _ _ = _
      rw [items_set hn]
      simp [setE]
    · dsimp only at hx
      split at hx
      · simpa using List.dropLast_subset _ hx
      · simpa using hx
  | some b =>
    have hbL := List.mem_of_find?_eq_some hf
    have hbl : (D b).lba = t.lba := by simpa using List.find?_some hf
    by_cases hg : (D b).ver > t.ver
    · refine (put_newer w c _ L D G hC t.lba t.ver hl hv tb cap b hf hg).mono ?_
      rintro e w' ⟨rfl, hb, hC'⟩
      exact ⟨rfl, ⟨[], KeepsTo.below hb [], by simp⟩, _, _, _, _, hC', by simp only [putL, find_items, hf, Option.map_some, hg, if_true], hA⟩
    · refine (put_over w c _ L D G hC t.lba t.ver hl hv tb cap t.g hB b hf (by omega) (fun e => hPt (e ▸ hA _ (by simp))) (fun e => hPt (e ▸ hA _ (by simp))) (fun e => hPt (hA _ (by simp [e])))).mono ?_
      rintro e w' ⟨rfl, hk, nb, bs, hnb, hC'⟩
      have hn : nb ∉ L := fun h => by have := hC.ring.lt (.inr h); omega
      have hn' : nb ∉ del L b := fun h => hn (mem_del.1 h).1
      refine ⟨rfl, ⟨_, hk, hA⟩, _, _, _, _, hC', ?_, hsub _ nb hnb fun x hx => ?_⟩
      · simp only [putL, find_items, hf, Option.map_some, hg, if_false]
        have h9 := items_trim (L := nb :: del L b) (D := setE D nb ⟨t.lba, t.ver, bs⟩) (G := setE G nb t.g) (m := most)
        simp only [List.length_cons, Int.natCast_add, Int.cast_ofNat_Int] at h9
        rw [h9]
        congr 1
        show _ :: itemsOf (del L b) _ _ = _
        rw [items_set hn', items_del hC.inj hbL, hbl]
        simp [setE]
      · have hx' : x ∈ nb :: del L b := by
          dsimp only at hx
          split at hx
          · exact List.dropLast_subset _ hx
          · exact hx
        rcases List.mem_cons.1 hx' with h | h
        · exact .inl h
        · exact .inr (mem_del.1 h).1

/-- What Get tells. -/
def GetS (P : Nat → Prop) (w : World) (c : Nat) (most hits fails : Int) (A : List It) (lba ver : Int) (e : Ending) (w' : World) : Prop :=
  Cha P w w' ∧
  ((∃ x b' cap', findL lba A = some x ∧ x.ver = ver ∧ e = .returned (.tuple #[.slice (some ⟨b', 0, none⟩) 16 cap', .bool true]) ∧ w.heap.size ≤ b' ∧ Blk w' b' cap' x.g ∧ CS (fun y => P y ∧ y ≠ b') w' c most (hits + 1) fails (x :: othersL lba A)) ∨
   ((∀ x, findL lba A = some x → x.ver ≠ ver) ∧ e = .returned (.tuple #[.slice none 0 0, .bool false]) ∧ CS P w' c most hits (fails + 1) A))

theorem get_okS (P : Nat → Prop) (w : World) (c : Nat) (most hits fails : Int) (A : List It) (hS : CS P w c most hits fails A) (lba ver : Int) (h1 : inK (hits + 1)) (h2 : inK (fails + 1)) :
    Calls Try.prog 10 (denL [.v (.pointer (some ⟨c, 0, none⟩)), .v (.int .i64 lba), .v (.int .i64 ver)]).toArray w (GetS P w c most hits fails A lba ver) := by
  obtain ⟨mp, L, D, G, hC, rfl, hA⟩ := hS
  refine (get_ok w c _ L D G hC lba ver h1 h2).mono ?_
  rintro e w' ⟨hk, ⟨b, b', cap', hf, hv, rfl, hsz, hB, hC'⟩ | ⟨hno, rfl, hC'⟩⟩
  · have hbL := List.mem_of_find?_eq_some hf
    have hbl : (D b).lba = lba := by simpa using List.find?_some hf
    refine ⟨⟨_, hk, hA⟩, .inl ⟨_, b', cap', (by rw [find_items, hf]; rfl), hv, rfl, hsz, hB, _, _, _, _, hC', ?_, fun x hx => ?_⟩⟩
    · show _ :: itemsOf (del L b) D G = _
      rw [items_del hC.inj hbL, hbl]
    · have hx2 : x ∈ mp :: c :: L := ?_
      · exact ⟨hA x hx2, by have := hC.lt hx2; omega⟩
      simp only [List.mem_cons] at hx ⊢
      rcases hx with h | h | h | h
      · exact .inl h
      · exact .inr (.inl h)
      · exact .inr (.inr (h ▸ hbL))
      · exact .inr (.inr (mem_del.1 h).1)
  · refine ⟨⟨_, hk, hA⟩, .inr ⟨fun x hx => ?_, rfl, _, _, _, _, hC', rfl, hA⟩⟩
    rw [find_items] at hx
    obtain ⟨b, hb, rfl⟩ := Option.map_eq_some_iff.1 hx
    exact hno b hb

def NewS (P : Nat → Prop) (w : World) (most : Int) (e : Ending) (w' : World) : Prop :=
  ∃ c, e = .returned (.pointer (some ⟨c, 0, none⟩)) ∧ w.heap.size ≤ c ∧ Below w.heap.size w w' ∧ CS P w' c (max most 0) 0 0 []

theorem new_okS (P : Nat → Prop) (w : World) (most : Int) (hm : inK most) (hP : ∀ x, w.heap.size ≤ x → P x) : Calls Try.prog 7 (denL [.v (.int .i64 most)]).toArray w (NewS P w most) := by
  refine (new_ok w most hm fun _ => ⟨0, 0, .bool true⟩).mono ?_
  rintro e w' ⟨c, mp, rfl, hc, hmp, hne, hR, hm, hb⟩
  refine ⟨c, rfl, hc, hb, mp, [], _, fun _ _ => 0, ⟨hR, ?_, hne, by simp, by simp, by simp⟩, rfl, ?_⟩
  · have : mOf [] (fun _ => (⟨0, 0, .bool true⟩ : Ent)) = fun _ => none := by funext x; rfl
    rw [this]; exact hm
  · intro x hx
    simp at hx
    rcases hx with rfl | rfl
    · exact hP _ hmp
    · exact hP _ hc

def HitsS (w : World) (hits fails : Int) (e : Ending) (w' : World) : Prop := e = .returned (.tuple #[.int .i64 hits, .int .i64 fails]) ∧ Below w.heap.size w w'

theorem hits_okS (P : Nat → Prop) (w : World) (c : Nat) (most hits fails : Int) (A : List It) (hS : CS P w c most hits fails A) :
    Calls Try.prog 11 (denL [.v (.pointer (some ⟨c, 0, none⟩))]).toArray w (HitsS w hits fails) := by
  obtain ⟨mp, L, D, G, hC, rfl, hA⟩ := hS
  exact hits_ok w c _ L D G hC

/-- A slice of keys. -/
def KeySlS (B : Nat) (A : List It) (x : SV) (i : Nat) (H : Hp) : Prop :=
  (A.length = 0 ∧ x = .v (.slice none 0 0) ∧ H = []) ∨
  ∃ b cap N row u, 0 < A.length ∧ B ≤ b ∧ x = .sl i b 0 0 A.length cap 2 ∧ H = [(b, true, .arr 0 N row 2 u (0, 0))] ∧ A.length ≤ cap ∧ cap ≤ N ∧ ∀ j, j < A.length → ∃ z, A[j]? = some z ∧ denL (row j) = [.int .i64 z.lba, .int .i64 z.ver]

def KeysS (w : World) (A : List It) (e : Ending) (w' : World) : Prop :=
  ∃ x H, KeySlS w.heap.size A x 0 H ∧ e = .returned (den x) ∧ HpAll (frame0 w) w' H ∧ Below w.heap.size w w'

theorem keys_okS (P : Nat → Prop) (w : World) (c : Nat) (most hits fails : Int) (A : List It) (hS : CS P w c most hits fails A) (hlen : A.length ≤ 1000000) :
    Calls Try.prog 12 (denL [.v (.pointer (some ⟨c, 0, none⟩))]).toArray w (KeysS w A) := by
  obtain ⟨mp, L, D, G, hC, rfl, hA⟩ := hS
  have hl : (itemsOf L D G).length = L.length := by simp [itemsOf]
  rw [hl] at hlen
  refine (keys_ok w c _ L D hC.ring hlen).mono ?_
  rintro e w' ⟨x, H, hx, rfl, hH, hb⟩
  refine ⟨x, H, ?_, rfl, hH, hb⟩
  rcases hx with ⟨h1, h2, h3⟩ | ⟨b, cap, N, row, u, h1, h2, h3, h4, h5, h6, h7⟩
  · exact .inl ⟨hl.trans h1, h2, h3⟩
  · refine .inr ⟨b, cap, N, row, u, by omega, h2, by rw [hl]; exact h3, h4, by omega, h6, fun j hj => ?_⟩
    obtain ⟨z, hz, hr⟩ := h7 j (by omega)
    exact ⟨⟨(D z).lba, (D z).ver, G z⟩, by simp [itemsOf, hz], hr⟩
end Go.Proofs
