/-
  One cell of what is known turns: a store into a slice that the call owns. Of no program.
-/
import Derived.Test.YtdopcpaapniioaaCoreK
namespace Go.Fk
open Go

section
variable {w0 w w' : World} {K0 K K' : KMap} {M : List Nat} {L L' : List Item}
/-- K, but at one cell -/
def hole (K : KMap) (g p : Nat) (v : Value) : KMap := K.put g (fun i => if i = p then some v else K g i)
theorem hole_other {g p : Nat} {v : Value} {b o : Nat} (h : b ≠ g ∨ o ≠ p) : hole K g p v b o = K b o := by
  unfold hole KMap.put
  by_cases hb : b = g
  · subst hb
    have h := h.resolve_left (fun q => q rfl)
    simp [h]
  · rw [if_neg hb]
theorem hole_same (K : KMap) (g p : Nat) (v : Value) : hole K g p v g p = some v := by
  unfold hole KMap.put
  simp
theorem hole_le {g p : Nat} {v : Value} (h : KLe K0 K) (hn : K0 g p = none) : KLe K0 (hole K g p v) := fun b o x e => by
  by_cases hb : b = g ∧ o = p
  · obtain ⟨rfl, rfl⟩ := hb
    rw [hn] at e; cases e
  · rw [hole_other (by omega)]
    exact h b o x e
theorem AtK.hole {g p : Nat} {v : Value} {b o : Nat} {cs : List Value} (h : AtK K b o cs) (hd : ∀ (j : Nat) c, cs[j]? = some c → b ≠ g ∨ o + j ≠ p) : AtK (Go.Fk.hole K g p v) b o cs := fun j c e => by
  rw [hole_other (hd j c e)]
  exact h j c e
/-- a slice of which no cell is the one that turns -/
theorem SliceAt.hole {α : Type} {t : Ty α} {g p : Nat} {v : Value} {a : Option Addr} {n c : Nat} {xs : List α} (h : SliceAt t K a n c xs)
    (hd : ∀ (u : Value) (x : α) (b o : Nat), t.rel K u x → AtK K b o u.cells.toList → t.rel (Go.Fk.hole K g p v) u x ∧ ∀ (j : Nat) d, u.cells.toList[j]? = some d → b ≠ g ∨ o + j ≠ p) : SliceAt t (Go.Fk.hole K g p v) a n c xs :=
  ⟨h.1, h.2.1, h.2.2.1, fun hc => let ⟨b, o, e1, h5⟩ := h.2.2.2 hc; ⟨b, o, e1, fun i x hx => let ⟨u, r, k⟩ := h5 i x hx; ⟨u, (hd u x b _ r k).1, k.hole (hd u x b _ r k).2⟩⟩⟩
/-- bytes, where the cell that turns holds no byte -/
theorem u8_hole {g p : Nat} {v v0 : Value} {a : Option Addr} {n c : Nat} {xs : List UInt8} (h : SliceAt tU8 K a n c xs) (hk : K g p = some v0) (hv : ∀ z, v0 ≠ iv8 z) : SliceAt tU8 (Go.Fk.hole K g p v) a n c xs :=
  h.hole fun u x b o r k => ⟨r, fun j d e => by
    have hu : u = iv8 x := r
    subst hu
    by_cases hb : b = g ∧ o + j = p
    · obtain ⟨hb1, hb2⟩ := hb
      subst hb1 hb2
      have h1 := k j d e
      rw [hk] at h1
      injection h1 with h1
      have : d = iv8 x := by
        have h2 : (iv8 x).cells.toList = [iv8 x] := rfl
        rw [h2] at e
        cases j with
        | zero => simpa using e.symm
        | succ j => simp at e
      exact absurd (h1.trans this) (hv x)
    · omega⟩
/-- A STEP: one block (new in this call) turns, and so does what is known of it. -/
theorem SH.turn {g : Nat} {it : Item} (h : SH w0 K0 M w K L) (hos : w'.os = w.os) (htape : w'.tape = w.tape) (hout : w'.output = w.output)
    (hsize : w'.heap.size = w.heap.size) (hother : ∀ b, b < w.heap.size → b ≠ g → w'.heap[b]? = w.heap[b]?) (hgt : g < w.heap.size)
    (hown : w0.heap.size ≤ g) (hnew : ∀ it ∈ L, it.g ≠ some g)
    (hK : ∀ b, b ≠ g → K' b = K b) (hK0 : ∀ o, K0 g o = none) (hKh : ∀ o v, K' g o = some v → w'.cell? ⟨g, o, none⟩ = some v)
    (hit : it.g = some g) (hon : it.side ∧ it.ok (w'.heap[g]?) (K' g)) (hdr : w.drawn ≤ w'.drawn) : SH w0 K0 M w' K' (it :: L) where
  drawn := Nat.le_trans h.drawn hdr
  os := hos.trans h.os
  tape := htape.trans h.tape
  output := hout.trans h.output
  holds := by
    intro b o v e
    by_cases hb : b = g
    · subst hb; exact hKh o v e
    · rw [hK b hb] at e
      have hlt := h.holds.lt e
      rw [World.cell?_of_block (w := w) (a := ⟨b, o, none⟩) (hother b hlt hb)]
      exact h.holds b o v e
  le := by
    intro b o v e
    have := h.le b o v e
    by_cases hb : b = g
    · subst hb; rw [hK0] at e; cases e
    · rw [hK b hb]; exact this
  size := by rw [hsize]; exact h.size
  old := by
    intro b hb hm
    have hne : b ≠ g := by omega
    rw [hother b (by have := h.size; omega) hne]
    exact h.old b hb hm
  oldK := by
    intro b hb hm
    have hne : b ≠ g := by omega
    rw [hK b hne]
    exact h.oldK b hb hm
  items := by
    intro i hi
    rcases List.mem_cons.1 hi with rfl | hi
    · exact ⟨hon.1, fun b hb => by rw [hit] at hb; cases hb; exact hon.2⟩
    · have h1 := h.items i hi
      refine ⟨h1.1, fun b hb => ?_⟩
      have hne : b ≠ g := by rintro rfl; exact hnew i hi hb
      rw [hother b (h.lt i hi b hb).1 hne, hK b hne]
      exact h1.2 b hb
  lt := by
    intro i hi b hb
    rcases List.mem_cons.1 hi with rfl | hi
    · rw [hit] at hb; cases hb; exact ⟨by omega, .inl hown⟩
    · have := h.lt i hi b hb
      exact ⟨by omega, this.2⟩
  nodup := by
    rw [List.filterMap_cons_some hit, List.nodup_cons]
    refine ⟨fun hmem => ?_, h.nodup⟩
    obtain ⟨i, hi, e⟩ := List.mem_filterMap.1 hmem
    exact hnew i hi e
end
section
variable {P : Program} {ops : Array Oper} {Q : Exit → Act → World → Prop} {N : Nat} {E : Env} {w w0 : World} {K K0 : KMap} {M : List Nat} {L : List Item}
variable {x y : Operand} {T U : TypeId} {size bytes : Nat} {zero : Value} {agg : Bool} {rest : List Oper} {ty : TypeId} {pos : String} {af : Array Edge} {gd : Option (Nat × Bool)}
/-- a block that is the call's own, and new -/
theorem SH.tail_new {g n c : Nat} {sz : Nat} (hS : SH w0 K0 M w K (tail (.slice (some ⟨g, 0, none⟩) n c) U sz :: L)) (h0 : Holds K0 w0) (hM : ∀ b ∈ M, ∃ it ∈ L, it.g = some b) :
    w0.heap.size ≤ g ∧ (∀ o, K0 g o = none) ∧ g < w.heap.size ∧ ∀ it ∈ L, it.g ≠ some g := by
  have hown := hS.lt _ (List.mem_cons_self ..) g rfl
  have hnd := hS.nodup
  rw [List.filterMap_cons_some (f := Item.g) (a := tail (.slice (some ⟨g, 0, none⟩) n c) U sz) (b := g) rfl, List.nodup_cons] at hnd
  have hnotL : ∀ it ∈ L, it.g ≠ some g := fun it hi e => hnd.1 (List.mem_filterMap.2 ⟨it, hi, e⟩)
  have hgM : g ∉ M := fun hm => by
    obtain ⟨it, hi, e⟩ := hM g hm
    exact hnotL it hi e
  have hge := hown.2.resolve_right hgM
  refine ⟨hge, fun i => ?_, hown.1, hnotL⟩
  cases e : K0 g i with
  | none => rfl
  | some v => have := h0.lt e; omega
/-- *(g, o) = v, where the cell is known, in a block that is the call's own -/
theorem rt_kstore {g o n c : Nat} {sz : Nat} {v v0 : Value} (hT : TF P T 1 agg zero bytes) (hx : ev E x = some (.pointer (some ⟨g, o, none⟩))) (hy : ev E y = some v) (hv : v.oneCell' = true)
    (hS : SH w0 K0 M w K (tail (.slice (some ⟨g, 0, none⟩) n c) U sz :: L)) (h0 : Holds K0 w0) (hM : ∀ b ∈ M, ∃ it ∈ L, it.g = some b) (hk : K g o = some v0) :
    ∃ w', RunTo P E w (.store T x y) (.ok .skip w') ∧ SH w0 K0 M w' (hole K g o v) (tail (.slice (some ⟨g, 0, none⟩) n c) U sz :: L) := by
  obtain ⟨hge, hK0, hlt, hnotL⟩ := hS.tail_new h0 hM
  have hside := (hS.items _ (List.mem_cons_self ..)).1
  obtain ⟨g2, n2, cap2, cur, hv2, hcur, hcs, hkn⟩ := (hS.items _ (List.mem_cons_self ..)).2 g rfl
  injection hv2 with ha2 hn2 hc2
  injection ha2 with ha2
  injection ha2 with hg2 _ _
  subst hg2 hn2 hc2
  have ho : o < n * sz := by
    by_cases h : o < n * sz
    · exact h
    · rw [hkn o (by omega)] at hk; cases hk
  have hcell := hS.holds g o v0 hk
  have hoc : o < cur.size := by
    by_cases h : o < cur.size
    · exact h
    · simp [World.cell?, hcur, Array.getElem?_eq_none (show cur.size ≤ o by omega)] at hcell
  have hc1 : v.cells.toList = [v] := by rw [cells_one hv]
  obtain ⟨row, hrow0⟩ : ∃ row, row = (splice cur.toList o [v]).toArray := ⟨_, rfl⟩
  have hrl : row.size = cur.size := by
    subst hrow0
    show (splice cur.toList o [v]).length = _
    simp only [splice, List.length_append, List.length_take, List.length_drop, Array.length_toList, List.length_singleton]; omega
  refine ⟨w.setRow g row, fun ρ _ _ _ _ _ ha => ?_, ?_⟩
  · have hst := run_storeCells_obj (P := P) g o U (0, 0) [v] 0 cur w hcur (.inl rfl) (by simp; omega) (by simpa using hv)
    simp only [Nat.add_zero] at hst
    simp [execOp, ha x _ hx, ha y _ hy, Instr.storeAt, Instr.sureAddr, storeVar, run_sizeOf hT, cells_one hv, hst, splice, hrow0]
  · refine hS.drop.turn rfl rfl rfl (by simp [World.setRow]) (fun b _ hb => setRow_other w g b _ hb) hlt hge hnotL (fun b hb => by
      unfold hole; exact K.put_other _ hb) hK0 (fun i z e => ?_) rfl ⟨hside, g, n, c, row, rfl, setRow_heap w g _ _ _ _ hcur, by rw [hrl]; exact hcs, fun i hi => ?_⟩ (Nat.le_refl _)
    · have hrow := setRow_heap w g cur row _ _ hcur
      by_cases hi : i = o
      · subst hi
        rw [hole_same] at e
        cases e
        have hr : row[i]? = some v := by
          subst hrow0
          simp [splice, show min i cur.size = i by omega]
        simp [World.cell?, hrow, hr]
      · rw [hole_other (.inr hi)] at e
        have h1 := hS.holds g i z e
        simp [World.cell?, hcur] at h1
        have hr : row[i]? = cur[i]? := by
          subst hrow0
          simp only [splice, List.getElem?_toArray, List.getElem?_append, List.length_append, List.length_take, Array.length_toList, List.length_singleton, List.getElem?_take, List.getElem?_drop, Array.getElem?_toList]
          by_cases hlt2 : i < o
          · rw [if_pos (by omega), if_pos (by omega), if_pos hlt2]
          · rw [if_neg (by omega)]
            congr 1; omega
        simp [World.cell?, hrow, hr, h1]
    · rw [hole_other (.inr (by omega))]
      exact hkn i hi
theorem wl_kstore {g o n c : Nat} {sz : Nat} {v v0 : Value} (hw : Wanted ops N E gd) (hT : TF P T 1 agg zero bytes) (hx : ev E x = some (.pointer (some ⟨g, o, none⟩))) (hy : ev E y = some v) (hv : v.oneCell' = true)
    (hS : SH w0 K0 M w K (tail (.slice (some ⟨g, 0, none⟩) n c) U sz :: L)) (h0 : Holds K0 w0) (hM : ∀ b ∈ M, ∃ it ∈ L, it.g = some b) (hk : K g o = some v0)
    (h : ∀ w', SH w0 K0 M w' (hole K g o v) (tail (.slice (some ⟨g, 0, none⟩) n c) U sz :: L) → WL P ops Q N rest E w') : WL P ops Q N (⟨none, .store T x y, ty, pos, af, gd⟩ :: rest) E w := by
  obtain ⟨w', h1, h2⟩ := rt_kstore hT hx hy hv hS h0 hM hk
  exact wl_do hw h1 (h w' h2)
/-- K without one cell -/
def cutK (K : KMap) (g p : Nat) : KMap := K.put g (fun i => if i = p then none else K g i)
theorem cutK_other {g p b o : Nat} (h : b ≠ g ∨ o ≠ p) : cutK K g p b o = K b o := by
  unfold cutK KMap.put
  by_cases hb : b = g
  · subst hb
    have h := h.resolve_left (fun q => q rfl)
    simp [h]
  · rw [if_neg hb]
theorem cutK_same (K : KMap) (g p : Nat) : cutK K g p g p = none := by
  unfold cutK KMap.put
  simp
theorem cutK_le (K : KMap) (g p : Nat) : KLe (cutK K g p) K := fun b o z e => by
  by_cases hb : b = g ∧ o = p
  · obtain ⟨rfl, rfl⟩ := hb
    rw [cutK_same] at e; cases e
  · rwa [cutK_other (by omega)] at e
theorem SH.tail_at {a : Option Addr} {b o0 n c sz : Nat} (hS : SH w0 K0 M w K (tail (.slice a n c) U sz :: L)) (ha : a = some ⟨b, o0, none⟩) : o0 = 0 := by
  subst ha
  rcases (hS.items _ (List.mem_cons_self ..)).1 with h | ⟨g, n', c', h, _⟩
  · injection h with h; cases h
  · injection h with h
    injection h with h
    injection h
theorem wl_kstore' {a : Option Addr} {g o o0 n c : Nat} {sz : Nat} {v v0 : Value} (hw : Wanted ops N E gd) (hT : TF P T 1 agg zero bytes) (hx : ev E x = some (.pointer (some ⟨g, o, none⟩))) (hy : ev E y = some v) (hv : v.oneCell' = true)
    (hS : SH w0 K0 M w K (tail (.slice a n c) U sz :: L)) (ha : a = some ⟨g, o0, none⟩) (h0 : Holds K0 w0) (hM : ∀ b ∈ M, ∃ it ∈ L, it.g = some b) (hk : K g o = some v0)
    (h : ∀ w', SH w0 K0 M w' (hole K g o v) (tail (.slice a n c) U sz :: L) → WL P ops Q N rest E w') : WL P ops Q N (⟨none, .store T x y, ty, pos, af, gd⟩ :: rest) E w := by
  have := hS.tail_at ha
  subst this ha
  exact wl_kstore hw hT hx hy hv hS h0 hM hk h
theorem rv_indexAddrK {α : Type} {t : Ty α} {a : Option Addr} {n c : Nat} {xs : List α} {k : IntKind} {i : Int} {z : α} {U : TypeId} (hT : P.underlying T = some (.slice U)) (hU : TF P U t.size agg zero bytes)
    (hx : ev E x = some (.slice a n c)) (hy : ev E y = some (.int k i)) (hs : SliceAt t K a n c xs) (hz : getI xs i = some z) :
    ∃ b o u o0, (∀ w, RV P E w (.indexAddr T x y) (.pointer (some ⟨b, o, none⟩))) ∧ t.rel K u z ∧ AtK K b o u.cells.toList ∧ a = some ⟨b, o0, none⟩ ∧ o = o0 + i.toNat * t.size := by
  obtain ⟨h1, h2, h3, h4⟩ := hs
  obtain ⟨g0, g1, g2⟩ := getI_some hz
  obtain ⟨b, o, rfl, h5⟩ := h4 (by omega)
  obtain ⟨u, hu, hk⟩ := h5 _ _ g2
  refine ⟨b, o + i.toNat * t.size, u, o, fun _ ρ _ _ _ _ _ ha => ?_, hu, hk, rfl, rfl⟩
  have hlt : i < (n : Int) := by omega
  simp [execOp, ha x _ hx, ha y _ hy, Instr.indexAt, asIntOf, run_underlying hT, g0, hlt, run_sizeOf hU, add_at]
theorem wl_indexAddrK {α : Type} {t : Ty α} {a : Option Addr} {n c : Nat} {xs : List α} {k : IntKind} {i : Int} {e : α} {d : Tmp} (hw : Wanted ops N E gd) (hd : Nat.blt d N = true) (hT : P.underlying T = some (.slice U)) (hU : TF P U t.size agg zero bytes)
    (hx : ev E x = some (.slice a n c)) (hy : ev E y = some (.int k i)) (hs : SliceAt t K a n c xs) (hz : getI xs i = some e)
    (h : ∀ b o u o0, t.rel K u e → AtK K b o u.cells.toList → a = some ⟨b, o0, none⟩ → o = o0 + i.toNat * t.size → WL P ops Q N rest ((d, .pointer (some ⟨b, o, none⟩)) :: E) w) : WL P ops Q N (⟨some d, .indexAddr T x y, ty, pos, af, gd⟩ :: rest) E w := by
  obtain ⟨b, o, u, o0, h1, h2, h3, h4, h5⟩ := rv_indexAddrK hT hU hx hy hs hz
  exact wl_val hw hd (h1 w) (h b o u o0 h2 h3 h4 h5)
variable {H F : World → Prop} {st : Nat} {I : List (Nat × Nat)}
theorem wg_indexAddrK {α : Type} {t : Ty α} {a : Option Addr} {nn c : Nat} {xs : List α} {k : IntKind} {i : Int} {e : α} {n j : Nat} {listed listed' : Array Bool} {d : Tmp}
    (hi : ops[j]? = some ⟨some d, .indexAddr T x y, ty, pos, af, gd⟩) (hsel : Region.noSelect ops = true) (hQ : PanicOk Q) (hwa : waits .any ops I = true) (hist : Nat.beq j st = false)
    (hf : Region.free .any ops listed j = true) (hr : (Region.ready .any ops listed).contains j = true) (hl : listed.setIfInBounds j true = listed') (hS : SG H F st I listed w)
    (hw : Wanted ops N E gd) (hd : Nat.blt d N = true) (hT : P.underlying T = some (.slice U)) (hU : TF P U t.size agg zero bytes)
    (hx : ev E x = some (.slice a nn c)) (hy : ev E y = some (.int k i)) (hs : SliceAt t K a nn c xs) (hz : getI xs i = some e)
    (h : ∀ b o u o0, t.rel K u e → AtK K b o u.cells.toList → a = some ⟨b, o0, none⟩ → o = o0 + i.toNat * t.size → WG P ops Q H F st I N n listed' ((d, .pointer (some ⟨b, o, none⟩)) :: E) w) : WG P ops Q H F st I N (n + 1) listed E w := by
  obtain ⟨b, o, u, o0, h1, h2, h3, h4, h5⟩ := rv_indexAddrK hT hU hx hy hs hz
  exact wg_val (fun _ => True) hi hsel hQ hwa hist hf hr hl (.inl fun _ _ => trivial) hS hw hd (fun w' _ => h1 w') (h b o u o0 h2 h3 h4 h5)
end
end Go.Fk
