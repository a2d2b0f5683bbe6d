/-
  Rows that the call makes and writes by index; 32-bit numbers; '==' on structs. Of no program.
-/
import Derived.Test.YtdopcpaapniioaaCoreJ
import Derived.Laws.StructEq
import Derived.Laws.IdiomStrings
namespace Go.Fk
open Go

section
variable {P : Program} {ops : Array Oper} {Q : Exit → Act → World → Prop} {N : Nat} {E : Env} {w w0 : World} {K K0 : KMap} {M : List Nat} {L : List Item} {C : World → Prop}
variable {x y z : Operand} {T T' U : TypeId} {size bytes : Nat} {zero : Value} {agg : Bool} {rest : List Oper} {d : Tmp} {ty : TypeId} {pos : String} {af : Array Edge} {gd : Option (Nat × Bool)} {fr : Nat × Nat}

/-- The cells 'cs' (of an object) read as the list 'xs'. -/
def RowAt {α : Type} (ex : Bool) (t : Ty α) (K : KMap) (cs : List Value) (xs : List α) : Prop :=
  (xs.length * t.size ≤ cs.length ∧ (ex = true → cs.length = xs.length * t.size)) ∧ (∀ c ∈ cs, c.oneCell' = true) ∧ ∀ (i : Nat) x, xs[i]? = some x → ∃ u, t.rel K u x ∧ ∀ j d, u.cells.toList[j]? = some d → cs[i * t.size + j]? = some d
theorem RowAt.mono {ex : Bool} {α : Type} {t : Ty α} {K' : KMap} (h : KLe K K') {cs : List Value} {xs : List α} (p : RowAt ex t K cs xs) : RowAt ex t K' cs xs :=
  ⟨p.1, p.2.1, fun i x hx => let ⟨u, hu, hk⟩ := p.2.2 i x hx; ⟨u, t.mono h hu, hk⟩⟩
theorem RowAt.set {ex : Bool} {α : Type} {t : Ty α} {cs : List Value} {xs : List α} {i : Nat} {u : Value} {e : α} (p : RowAt ex t K cs xs) (hi : i < xs.length) (hu : t.rel K u e) :
    RowAt ex t K (splice cs (i * t.size) u.cells.toList) (xs.set i e) := by
  obtain ⟨⟨h1, h1x⟩, h2, h3⟩ := p
  have hl : u.cells.toList.length = t.size := by simpa using t.size_eq hu
  have hle : (i + 1) * t.size ≤ xs.length * t.size := Nat.mul_le_mul_right _ hi
  rw [Nat.add_mul, Nat.one_mul] at hle
  have htk : (cs.take (i * t.size)).length = i * t.size := by rw [List.length_take]; omega
  have hsl : (splice cs (i * t.size) u.cells.toList).length = cs.length := by simp only [splice, List.length_append, List.length_drop, htk, hl]; omega
  refine ⟨⟨by rw [hsl, List.length_set]; exact h1, fun e => by rw [hsl, List.length_set]; exact h1x e⟩, fun c hc => ?_, fun k z hz => ?_⟩
  · simp only [splice, List.mem_append] at hc
    rcases hc with (hc | hc) | hc
    · exact h2 c (List.mem_of_mem_take hc)
    · exact t.ones hu c hc
    · exact h2 c (List.mem_of_mem_drop hc)
  · rw [List.getElem?_set] at hz
    split at hz
    · rename_i hik
      subst hik
      cases hz
      refine ⟨u, hu, fun j d e => ?_⟩
      have hj := (List.getElem?_eq_some_iff.1 e).1
      simp only [splice, List.append_assoc]
      rw [List.getElem?_append_right (by rw [htk]; omega), htk, List.getElem?_append_left (by omega)]
      rw [← e]; congr 1; omega
    · rename_i hik
      obtain ⟨u', hu', hk⟩ := h3 k z hz
      refine ⟨u', hu', fun j d e => ?_⟩
      have hj := (List.getElem?_eq_some_iff.1 e).1
      have hl' : u'.cells.toList.length = t.size := by simpa using t.size_eq hu'
      have h5 := hk j d e
      simp only [splice, List.append_assoc]
      rcases Nat.lt_or_ge k i with hlt | hge
      · have : (k + 1) * t.size ≤ i * t.size := Nat.mul_le_mul_right _ hlt
        rw [Nat.add_mul, Nat.one_mul] at this
        rw [List.getElem?_append_left (by rw [htk]; omega), List.getElem?_take, if_pos (by omega)]; exact h5
      · have : (i + 1) * t.size ≤ k * t.size := Nat.mul_le_mul_right _ (by omega)
        rw [Nat.add_mul, Nat.one_mul] at this
        rw [List.getElem?_append_right (by rw [htk]; omega), htk, List.getElem?_append_right (by omega), hl, List.getElem?_drop, ← h5]
        congr 1; omega
/-- made by 'make' -/
def makeL {α : Type} (bytes : Nat) (n : Int) (e : α) : Option (List α) := if 0 ≤ n ∧ n * bytes ≤ 140737488355328 then some (List.replicate n.toNat e) else none
theorem wl_make {α : Type} {t : Ty α} {n : Int} {e : α} {xs : List α} (hw : Wanted ops N E gd) (hd : Nat.blt d N = true) (hT : P.underlying T = some (.slice U)) (hU : TF P U t.size agg zero bytes) (hb : Nat.blt 0 bytes = true)
    (hx : ev E x = some (.int .i64 n)) (hy : ev E y = some (.int .i64 n)) (hn : makeL bytes n e = some xs) (hz : t.rel K zero e) (hS : SH w0 K0 M w K L)
    (h : ∀ g cs w', xs.length ≤ maxLen → RowAt true t K cs xs → SH w0 K0 M w' K (obj g cs U :: L) → WL P ops Q N rest ((d, .slice (some ⟨g, 0, none⟩) xs.length xs.length) :: E) w') :
    WL P ops Q N (⟨some d, .makeSlice T x y, ty, pos, af, gd⟩ :: rest) E w := by
  unfold makeL at hn
  split at hn
  case isFalse => cases hn
  rename_i hbd
  cases hn
  obtain ⟨i0, hi, hiz, his, hib⟩ := hU.info_
  have hb' : 0 < bytes := by simpa [Nat.blt_eq] using hb
  have hmul : n.toNat * bytes ≤ 140737488355328 := by
    have : ((n.toNat * bytes : Nat) : Int) = n * bytes := by rw [Int.natCast_mul]; congr 1; omega
    omega
  have hle : n.toNat ≤ 140737488355328 := Nat.le_trans (Nat.le_mul_of_pos_right _ hb') hmul
  have hr := run_make (P := P) w T U i0 zero hT hi hiz .i64 .i64 n n hbd.1 (Int.le_refl _) (by rw [hib, Int.mul_comm]; omega) (by omega)
  have hzs : zero.cells.size = t.size := t.size_eq hz
  have hlen : (madeCells zero.cells (n.toNat * i0.size)).toList.length = n.toNat * t.size := by rw [Array.length_toList, size_madeCells, his]
  refine wl_eff (v := .slice (some ⟨w.heap.size, 0, none⟩) n.toNat n.toNat) (w' := w.alloc (.cells (madeCells zero.cells (n.toNat * i0.size)) U)) hw hd (fun ρ _ _ _ _ _ ha => ?_) ?_
  · simp only [execOp, ha x _ hx, ha y _ hy, Sem.run_bind, hr, Result.andThen_ok]
    rfl
  · have hS' := hS.newObj (madeCells zero.cells (n.toNat * i0.size)).toList U
    have hrow : RowAt true t K (madeCells zero.cells (n.toNat * i0.size)).toList (List.replicate n.toNat e) := by
      have hat : ∀ k, k < n.toNat * t.size → (madeCells zero.cells (n.toNat * i0.size)).toList[k]? = some (zero.cells[k % zero.cells.size]!) := fun k hk => by
        have hk' : k < n.toNat * i0.size := by rw [his]; exact hk
        simp [madeCells, hk']
      refine ⟨⟨by rw [hlen, List.length_replicate]; exact Nat.le_refl _, fun _ => by rw [hlen, List.length_replicate]⟩, fun c hc => ?_, fun k z hz' => ⟨zero, ?_, fun j dd e' => ?_⟩⟩
      · obtain ⟨k, hk, e'⟩ := List.getElem_of_mem hc
        have h1 := hat k (by rw [← hlen]; exact hk)
        rw [List.getElem?_eq_getElem hk, e'] at h1
        injection h1 with h1
        subst h1
        by_cases hz0 : 0 < zero.cells.size
        · have hm : k % zero.cells.size < zero.cells.size := Nat.mod_lt _ hz0
          refine t.ones hz _ ?_
          rw [getElem!_pos zero.cells _ hm]
          exact Array.getElem_mem_toList hm
        · exfalso
          have h0 : t.size = 0 := by omega
          rw [hlen, h0] at hk
          omega
      · have := (List.getElem?_eq_some_iff.1 hz').2
        simp at this
        subst this; exact hz
      · have hk := (List.getElem?_eq_some_iff.1 hz').1
        rw [List.length_replicate] at hk
        have hj := (List.getElem?_eq_some_iff.1 e').1
        rw [Array.length_toList, hzs] at hj
        have hle2 : (k + 1) * t.size ≤ n.toNat * t.size := Nat.mul_le_mul_right _ hk
        rw [Nat.add_mul, Nat.one_mul] at hle2
        rw [hat _ (by omega), hzs, Nat.add_comm, Nat.add_mul_mod_self_right, Nat.mod_eq_of_lt hj, ← e', getElem!_pos zero.cells j (by omega)]
        rw [Array.getElem?_toList, Array.getElem?_eq_getElem (by omega)]
    have := h w.heap.size _ _ (by rw [List.length_replicate]; exact Nat.le_trans hle (by decide)) hrow (by simpa using hS')
    simpa using this

theorem row_max {m n : Nat} (h : m = n) (hm : m ≤ maxLen) : n ≤ maxLen := h ▸ hm
/-- x[i], x a row of the call's own -/
theorem wl_indexRow {ex : Bool} {α : Type} {t : Ty α} {g m c : Nat} {cs : List Value} {xs : List α} {k : IntKind} {i : Int} {e : α} (hw : Wanted ops N E gd) (hd : Nat.blt d N = true) (hT : P.underlying T = some (.slice U)) (hU : TF P U t.size agg zero bytes)
    (hx : ev E x = some (.slice (some ⟨g, 0, none⟩) m c)) (hy : ev E y = some (.int k i)) (hm : m = xs.length) (hr : RowAt ex t K cs xs) (hz : getI xs i = some e)
    (h : ∀ u, t.rel K u e → (∀ j d, u.cells.toList[j]? = some d → cs[i.toNat * t.size + j]? = some d) → WL P ops Q N rest ((d, .pointer (some ⟨g, i.toNat * t.size, none⟩)) :: E) w) : WL P ops Q N (⟨some d, .indexAddr T x y, ty, pos, af, gd⟩ :: rest) E w := by
  obtain ⟨g0, g1, g2⟩ := getI_some hz
  obtain ⟨u, hu, hk⟩ := hr.2.2 _ _ g2
  refine wl_val hw hd (fun ρ _ _ _ _ _ ha => ?_) (h u hu hk)
  subst hm
  have hlt : i < (xs.length : Int) := by omega
  simp [execOp, ha x _ hx, ha y _ hy, Instr.indexAt, asIntOf, run_underlying hT, g0, hlt, run_sizeOf hU, add_at]
theorem rv_indexRow {α : Type} {t : Ty α} {g m c : Nat} {xs : List α} {k : IntKind} {i : Int} {e : α} (hT : P.underlying T = some (.slice U)) (hU : TF P U t.size agg zero bytes)
    (hx : ev E x = some (.slice (some ⟨g, 0, none⟩) m c)) (hy : ev E y = some (.int k i)) (hm : m = xs.length) (hz : getI xs i = some e) : RV P E w (.indexAddr T x y) (.pointer (some ⟨g, i.toNat * t.size, none⟩)) := fun ρ _ _ _ _ _ ha => by
  obtain ⟨g0, g1, g2⟩ := getI_some hz
  subst hm
  have hlt : i < (xs.length : Int) := by omega
  simp [execOp, ha x _ hx, ha y _ hy, Instr.indexAt, asIntOf, run_underlying hT, g0, hlt, run_sizeOf hU, add_at]
theorem rv_lenRow {α : Type} {xs : List α} {a : Option Addr} {m c : Nat} (hT : P.underlying T = some (.slice U)) (hx : ev E x = some (.slice a m c)) (hm : m = xs.length) :
    RV P E w (.call { callee := .builtin .len, args := #[x], argTypes := #[T] }) (.int .i64 xs.length) := fun ρ _ _ _ _ _ ha => by
  subst hm
  simp [execOp, resolve, invoke, builtin, ha x _ hx, Builtin.len_, run_underlying hT, goInt]
/-- a whole element is stored -/
theorem wl_storeRow {ex : Bool} {α : Type} {t : Ty α} {g : Nat} {i : Int} {cs : List Value} {xs : List α} {v : Value} {e e' : α} (hw : Wanted ops N E gd) (hT : TF P T t.size agg zero bytes) (hx : ev E x = some (.pointer (some ⟨g, i.toNat * t.size, none⟩))) (hy : ev E y = some v) (hv : t.rel K v e)
    (hS : SH w0 K0 M w K (obj g cs U fr :: L)) (hr : RowAt ex t K cs xs) (hz : getI xs i = some e')
    (h : ∀ cs' w', RowAt ex t K cs' (xs.set i.toNat e) → SH w0 K0 M w' K (obj g cs' U fr :: L) → WL P ops Q N rest E w') : WL P ops Q N (⟨none, .store T x y, ty, pos, af, gd⟩ :: rest) E w := by
  obtain ⟨g0, g1, g2⟩ := getI_some hz
  have hi := (List.getElem?_eq_some_iff.1 g2).1
  have hle : (i.toNat + 1) * t.size ≤ xs.length * t.size := Nat.mul_le_mul_right _ hi
  rw [Nat.add_mul, Nat.one_mul] at hle
  have hl := hr.1.1
  obtain ⟨h1, h2⟩ := rt_store hT hx hy (t.size_eq hv) (t.ones hv) hS (by simp; omega)
  exact wl_do hw h1 (h _ _ (hr.set hi hv) h2)
/-- a row that is written no more: its cells go into K; to its end may be appended -/
theorem SH.freeze {α : Type} {t : Ty α} {g : Nat} {cs : List Value} {xs : List α} (h : SH w0 K0 M w K (obj g cs U :: L)) (hr : RowAt true t K cs xs) (hm : xs.length ≤ maxLen) :
    ∃ K', KLe K K' ∧ SliceAt t K' (some ⟨g, 0, none⟩) xs.length xs.length xs ∧ SH w0 K0 M w K' (tail (.slice (some ⟨g, 0, none⟩) xs.length xs.length) U t.size :: L) := by
  obtain ⟨e, _⟩ := h.obj_at
  have hnone := ((h.items _ (List.mem_cons_self ..)).2 g rfl).2
  have hlt := (h.lt _ (List.mem_cons_self ..) g rfl)
  have hnd := h.nodup
  rw [List.filterMap_cons_some (f := Item.g) (a := obj g cs U) (b := g) rfl, List.nodup_cons] at hnd
  have hle : KLe K (K.put g (fun o => cs[o]?)) := fun b o v e' => by
    by_cases hb : b = g
    · rw [hb, hnone] at e'; cases e'
    · rw [K.put_other _ hb]; exact e'
  refine ⟨_, hle, SliceAt.of_cells rfl (Nat.le_refl _) hm (fun i z hz => ?_), ?_⟩
  · obtain ⟨u, hu, hk⟩ := hr.2.2 i z hz
    exact ⟨u, t.mono hle hu, fun j d e => by rw [K.put_same]; exact hk j d e⟩
  · refine h.drop.step (w' := w) rfl rfl rfl (Nat.le_refl _) (by omega) (fun b _ _ => rfl) hlt.1 hlt.2 (fun it hi e => hnd.1 (List.mem_filterMap.2 ⟨it, hi, e⟩)) (fun b hb => K.put_other _ hb) (fun o v e => hle g o v e)
      (fun o v e => ?_) rfl ⟨.inr ⟨g, _, _, rfl, Nat.le_refl _, hm⟩, g, _, _, _, rfl, e, by simpa using hr.1.2 rfl, fun i hi => ?_⟩
    · rw [K.put_same] at e; rw [h.obj_cell]; exact e
    · rw [K.put_same, List.getElem?_eq_none]; rw [hr.1.2 rfl]; exact hi
theorem RowAt.at {ex : Bool} {α : Type} {t : Ty α} {cs : List Value} {xs : List α} {i : Int} {e : α} (hr : RowAt ex t K cs xs) (hz : getI xs i = some e) : ∃ u, t.rel K u e ∧ ∀ j d, u.cells.toList[j]? = some d → cs[i.toNat * t.size + j]? = some d :=
  hr.2.2 _ _ (getI_some hz).2.2
/-- a load from an object's cells -/
theorem rh_loadR1 {g o o' : Nat} {cs : List Value} {v : Value} (hT : TF P T size false zero bytes) (hx : ev E x = some (.pointer (some ⟨g, o', none⟩))) (ho : o' = o) (hv : cs[o]? = some v) (hH : HasObj g cs w) : RV P E w (.load T x) v := by
  subst ho; exact rh_loadm1 hT hx hv hH
theorem rh_loadRS {g o : Nat} {cs ds : List Value} (hT : TF P T size true zero bytes) (hx : ev E x = some (.pointer (some ⟨g, o, none⟩))) (hv : ∀ j d, ds[j]? = some d → cs[o + j]? = some d) (hl : ds.length = size) (hH : HasObj g cs w) : RV P E w (.load T x) (.agg ds.toArray) :=
  rv_load hT hx (fun j c e => by rw [hH]; exact hv j c e) (.inl ⟨rfl, hl, rfl⟩)
theorem SH.newObjF (h : SH w0 K0 M w K L) (cs : List Value) (T : TypeId) (fr : Nat × Nat) (hf : cs.length ≤ fr.1) : SH w0 K0 M (w.alloc (.cells cs.toArray T fr)) K (obj w.heap.size cs T fr :: L) := by
  have hn : ∀ o, K w.heap.size o = none := h.ge_none (Nat.le_refl _)
  refine h.step rfl rfl rfl (by simp) (by simp) (fun b hb _ => RowKit.Below.heap_alloc w _ b hb) (by simp) (.inl h.size) h.fresh (fun _ _ => rfl) (fun _ _ e => e) (fun o v e => ?_) rfl ⟨trivial, ⟨heap_alloc_new w _, .inr hf⟩, hn⟩
  rw [hn] at e; cases e
/-- []byte(s), written later -/
theorem wl_s2bRow {s : Str} (hw : Wanted ops N E gd) (hd : Nat.blt d N = true) (hT : P.underlying T = some .string) (hT' : P.underlying T' = some (.slice U)) (hU : P.underlying U = some (.int .u8)) (hx : ev E x = some (sv s)) (hS : SH w0 K0 M w K L)
    (h : ∀ g cs c fr w', RowAt false tU8 K cs s → SH w0 K0 M w' K (obj g cs U fr :: L) → WL P ops Q N rest ((d, .slice (some ⟨g, 0, none⟩) s.length c) :: E) w') :
    WL P ops Q N (⟨some d, .convert T T' x, ty, pos, af, gd⟩ :: rest) E w := by
  have hr := run_bytes_of_string (P := P) w T T' U ⟨s.toArray⟩ hT hT' hU
  have hsz : (⟨s.toArray⟩ : ByteArray).size = s.length := by simp [ByteArray.size]
  rw [hsz] at hr
  generalize hC : bytesRow ⟨s.toArray⟩ (grownCap w s.length 0 U) = C at hr
  have hCl : C.toList = s.map iv8 ++ List.replicate (grownCap w s.length 0 U - s.length) (.int .u8 0) := by
    subst hC
    simp [bytesRow, ByteArray.size, iv8]
  have hlen : s.length ≤ C.toList.length := by rw [hCl]; simp
  refine wl_eff (v := .slice (some ⟨w.heap.size, 0, none⟩) s.length (grownCap w s.length 0 U)) (w' := w.drew.alloc (.cells C U (C.size, C.size + 1))) hw hd (fun ρ _ _ _ _ _ ha => ?_) ?_
  · simp only [sv] at hx
    simp only [execOp, ha x _ hx, Sem.run_bind, hr, Result.andThen_ok]
    rfl
  · have hS' := hS.drew.newObjF C.toList U (C.size, C.size + 1) (by simp)
    refine h w.heap.size C.toList _ (C.size, C.size + 1) _ ⟨⟨by simp only [tU8]; omega, nofun⟩, fun c hc => ?_, fun i z hz => ⟨iv8 z, rfl, fun j e he => ?_⟩⟩ (by simpa using hS')
    · rw [hCl] at hc
      rcases List.mem_append.1 hc with hc | hc
      · obtain ⟨z, _, rfl⟩ := List.mem_map.1 hc; rfl
      · rw [(List.mem_replicate.1 hc).2]; rfl
    · have hi := (List.getElem?_eq_some_iff.1 hz).1
      cases j with
      | zero =>
        simp [iv8, Value.cells] at he
        subst he
        rw [hCl, List.getElem?_append_left (by simp [tU8]; omega)]
        simp [tU8, hz, iv8]
      | succ j => simp [iv8, Value.cells] at he
/-- string(b), b a row of the call's own -/
theorem rv_b2sRow {ex : Bool} {g m c : Nat} {cs : List Value} {xs : List UInt8} (hT : P.underlying T = some (.slice U)) (hU : P.underlying U = some (.int .u8)) (hT' : P.underlying T' = some .string) (hx : ev E x = some (.slice (some ⟨g, 0, none⟩) m c))
    (hm : m = xs.length) (hr : RowAt ex tU8 K cs xs) {V : TypeId} (hmem : obj g cs V fr ∈ L) (hS : SH w0 K0 M w K L) : RV P E w (.convert T T' x) (sv xs) := fun ρ _ _ _ _ _ ha => by
  subst hm
  have h1 := run_convert_bytes_string (P := P) w T T' U (some ⟨g, 0, none⟩) xs.length c hT hU hT'
  have hc : cellsAre w g 0 (xs.map iv8) := fun j d e => by
    rw [List.getElem?_map] at e
    obtain ⟨z, hz, rfl⟩ := Option.map_eq_some_iff.1 e
    obtain ⟨u, hu, hk⟩ := hr.2.2 j z hz
    have hu' : u = iv8 z := hu
    subst hu'
    have := hk 0 (iv8 z) rfl
    rw [hS.hasObj hmem]
    simpa [tU8] using this
  have h7 := run_loadCells_at (P := P) hc
  rw [List.length_map] at h7
  have h8 := run_bytesToString (P := P) w ⟨g, 0, none⟩ xs.length c (xs.map fun b => (b.toNat : Int)) (by rw [h7, List.map_map]; rfl)
  rw [push_bytes] at h8
  have e9 : ByteArray.empty.data ++ xs.toArray = xs.toArray := by simp
  rw [e9] at h8
  simp only [execOp, ha x _ hx, Sem.run_bind, h1, h8, Result.andThen_ok]
  rfl
/-! ### 32-bit numbers -/
section
variable {a b : UInt32}
theorem wrap32_of (c : UInt32) : IntKind.u32.wrap (c.toBitVec.toNat : Int) = (c.toNat : Int) := by
  have h3 := c.toNat_lt
  simp only [IntKind.wrap, IntKind.signed, IntKind.bits, Bool.false_and, Bool.false_eq_true, if_false, UInt32.toNat_toBitVec]
  omega
theorem run_bits32 (op : BinOp) (a b c : UInt32) (h : (match op with | .xor => a ^^^ b | .and => a &&& b | .or => a ||| b | _ => c) = c) (hop : op = .xor ∨ op = .and ∨ op = .or) :
    (Op.intBits op .u32 (a.toNat : Int) (b.toNat : Int)).run P w = .ok (iv32 c) w := by
  have h1 : BitVec.ofInt 32 (a.toNat : Int) = a.toBitVec := by apply BitVec.eq_of_toNat_eq; simp
  have h2 : BitVec.ofInt 32 (b.toNat : Int) = b.toBitVec := by apply BitVec.eq_of_toNat_eq; simp
  rcases hop with rfl | rfl | rfl <;> simp only at h <;> subst h <;> simp only [Op.intBits, IntKind.bits, h1, h2, Sem.run_pure]
  · exact congrArg (fun n => Result.ok (Value.int .u32 n) w) (wrap32_of (a ^^^ b))
  · exact congrArg (fun n => Result.ok (Value.int .u32 n) w) (wrap32_of (a &&& b))
  · exact congrArg (fun n => Result.ok (Value.int .u32 n) w) (wrap32_of (a ||| b))
theorem rv_bits32 {op : BinOp} {c : UInt32} (hx : ev E x = some (iv32 a)) (hy : ev E y = some (iv32 b)) (h : (match op with | .xor => a ^^^ b | .and => a &&& b | .or => a ||| b | _ => c) = c) (hop : op = .xor ∨ op = .and ∨ op = .or) :
    RV P E w (.binOp op T x y T') (iv32 c) := fun ρ _ _ _ _ _ ha => by
  have hr := run_bits32 (P := P) (w := w) op a b c h hop
  have hg : (eqGuard op T x y (iv32 a) (iv32 b)).run P w = .ok () w := by rcases hop with rfl | rfl | rfl <;> simp [eqGuard]
  have hb : binOp op T (iv32 a) (iv32 b) = Op.intBits op .u32 (a.toNat : Int) (b.toNat : Int) := by rcases hop with rfl | rfl | rfl <;> simp [binOp, iv32]
  simp only [execOp, ha x _ hx, ha y _ hy, Sem.run_bind, hg, hb, Result.andThen_ok, hr]
  rfl
theorem rv_xor32 (hx : ev E x = some (iv32 a)) (hy : ev E y = some (iv32 b)) : RV P E w (.binOp .xor T x y T') (iv32 (a ^^^ b)) := rv_bits32 hx hy rfl (.inl rfl)
theorem rv_and32 (hx : ev E x = some (iv32 a)) (hy : ev E y = some (iv32 b)) : RV P E w (.binOp .and T x y T') (iv32 (a &&& b)) := rv_bits32 hx hy rfl (.inr (.inl rfl))
theorem rv_or32 (hx : ev E x = some (iv32 a)) (hy : ev E y = some (iv32 b)) : RV P E w (.binOp .or T x y T') (iv32 (a ||| b)) := rv_bits32 hx hy rfl (.inr (.inr rfl))
theorem rv_eql32 (hx : ev E x = some (iv32 a)) (hy : ev E y = some (iv32 b)) : RV P E w (.binOp .eql T x y T') (.bool (a == b)) :=
  fun ρ _ _ _ _ _ ha => by
    have e : ((a.toNat : Int) == (b.toNat : Int)) = (a == b) := by rw [Bool.eq_iff_iff]; simp [← UInt32.toNat_inj]; omega
    simp only [iv32] at hx hy
    simp only [execOp, ha x _ hx, ha y _ hy]
    simp [eqGuard, binOp, Op.intCmp, e]
/-- a shift to the right by a number that is written out -/
theorem rv_shr32 {k : IntKind} {n : Int} (hx : ev E x = some (iv32 a)) (hy : ev E y = some (.int k n)) (hn : 0 ≤ n ∧ n < 32) : RV P E w (.binOp .shr T x y T') (iv32 (a >>> UInt32.ofNat n.toNat)) :=
  fun ρ _ _ _ _ _ ha => by
    have h0 : ¬ n < 0 := by omega
    have hmin : min n.toNat 32 = n.toNat := by omega
    have e : ((a.toNat : Int)).fdiv (2 ^ n.toNat) = ((a >>> UInt32.ofNat n.toNat).toNat : Int) := by
      rw [UInt32.toNat_shiftRight, UInt32.toNat_ofNat', Nat.mod_eq_of_lt (show n.toNat < 2 ^ 32 by omega), Nat.mod_eq_of_lt (show n.toNat < 32 by omega), Nat.shiftRight_eq_div_pow]
      rw [Int.fdiv_eq_ediv_of_nonneg _ (by exact Int.le_of_lt (Int.pow_pos (by decide)))]
      simp
    simp only [iv32] at hx ⊢
    simp only [execOp, ha x _ hx, ha y _ hy]
    simp only [eqGuard, binOp, Op.shift, IntKind.bits, h0, hmin, if_false, e]
    simp
theorem rv_b2w {c : UInt8} (hT : P.underlying T = some (.int .u8)) (hT' : P.underlying T' = some (.int .u32)) (hx : ev E x = some (iv8 c)) : RV P E w (.convert T T' x) (iv32 c.toUInt32) :=
  fun ρ _ _ _ _ _ ha => by
    have e : IntKind.u32.wrap (c.toNat : Int) = (c.toUInt32.toNat : Int) := by
      have := c.toNat_lt
      simp only [IntKind.wrap, IntKind.signed, IntKind.bits, Bool.false_and, Bool.false_eq_true, if_false, UInt8.toNat_toUInt32]
      omega
    simp only [iv8] at hx; simp only [execOp, ha x _ hx]; simp [convert, run_underlying hT, run_underlying hT', Conv.intToInt, e, iv32]
theorem rv_w2i (hT : P.underlying T = some (.int .u32)) (hT' : P.underlying T' = some (.int .i64)) (hx : ev E x = some (iv32 a)) : RV P E w (.convert T T' x) (.int .i64 a.toNat) :=
  fun ρ _ _ _ _ _ ha => by
    have e : IntKind.i64.wrap (a.toNat : Int) = (a.toNat : Int) := w64_of ⟨by omega, by have := a.toNat_lt; omega⟩
    simp only [iv32] at hx; simp only [execOp, ha x _ hx]; simp [convert, run_underlying hT, run_underlying hT', Conv.intToInt, e]
theorem rng_u32 (b : UInt32) : rng64 (b.toNat : Int) := ⟨by omega, by have := b.toNat_lt; omega⟩
theorem rv_not32 (hx : ev E x = some (iv32 a)) : RV P E w (.unOp .xor T x) (iv32 (~~~a)) :=
  fun ρ _ _ _ _ _ ha => by
    have hm : (IntKind.u32.max : Int) = ((4294967295 : UInt32).toNat : Int) := rfl
    have hr := run_bits32 (P := P) (w := w) .xor (4294967295 : UInt32) a (4294967295 ^^^ a) rfl (.inl rfl)
    have e : (4294967295 : UInt32) ^^^ a = ~~~a := by
      apply UInt32.eq_of_toBitVec_eq
      rw [UInt32.toBitVec_xor, UInt32.toBitVec_not]
      exact BitVec.allOnes_xor
    rw [e] at hr
    simp only [iv32] at hx
    simp only [execOp, ha x _ hx, Op.unary, Sem.run_bind]
    rw [show (if IntKind.u32.signed = true then (-1 : Int) else IntKind.u32.max) = ((4294967295 : UInt32).toNat : Int) from rfl, hr]
    rfl
end
/-! ### bytes -/
def shlB (a : UInt8) (n : Int) : Option UInt8 := if 0 ≤ n ∧ n < 8 then some (UInt8.ofNat (a.toNat * 2 ^ n.toNat)) else none
theorem rv_shl8 {k' : IntKind} {a b : UInt8} {n : Int} (hx : ev E x = some (iv8 a)) (hy : ev E y = some (.int k' n)) (hc : shlB a n = some b) : RV P E w (.binOp .shl T x y T') (iv8 b) :=
  fun ρ _ _ _ _ _ ha => by
    unfold shlB at hc
    split at hc
    · rename_i hb
      cases hc
      have h0 : ¬ n < 0 := by omega
      have hmin : min n.toNat 8 = n.toNat := by omega
      have e : IntKind.u8.wrap ((a.toNat : Int) * 2 ^ n.toNat) = ((UInt8.ofNat (a.toNat * 2 ^ n.toNat)).toNat : Int) := by
        have : ((a.toNat : Int) * 2 ^ n.toNat) = ((a.toNat * 2 ^ n.toNat : Nat) : Int) := by rw [Int.natCast_mul, Int.natCast_pow]; rfl
        rw [this]
        generalize a.toNat * 2 ^ n.toNat = m
        simp [IntKind.wrap, IntKind.signed, IntKind.bits]
      simp only [iv8] at hx ⊢
      simp only [execOp, ha x _ hx, ha y _ hy]
      simp only [eqGuard, binOp, Op.shift, IntKind.bits, h0, hmin, if_false, e]
      simp
    · cases hc
theorem wrap8_of (c : UInt8) : IntKind.u8.wrap (c.toBitVec.toNat : Int) = (c.toNat : Int) := by
  have h3 := c.toNat_lt
  simp only [IntKind.wrap, IntKind.signed, IntKind.bits, Bool.false_and, Bool.false_eq_true, if_false, UInt8.toNat_toBitVec]
  omega
theorem rv_xor8 {a b : UInt8} (hx : ev E x = some (iv8 a)) (hy : ev E y = some (iv8 b)) : RV P E w (.binOp .xor T x y T') (iv8 (a ^^^ b)) := fun ρ _ _ _ _ _ ha => by
  have h1 : BitVec.ofInt 8 (a.toNat : Int) = a.toBitVec := by apply BitVec.eq_of_toNat_eq; simp
  have h2 : BitVec.ofInt 8 (b.toNat : Int) = b.toBitVec := by apply BitVec.eq_of_toNat_eq; simp
  have hr : (Op.intBits .xor .u8 (a.toNat : Int) (b.toNat : Int)).run P w = .ok (iv8 (a ^^^ b)) w := by
    simp only [Op.intBits, IntKind.bits, h1, h2, Sem.run_pure]
    exact congrArg (fun n => Result.ok (Value.int .u8 n) w) (wrap8_of (a ^^^ b))
  simp only [iv8] at hx hy
  simp only [execOp, ha x _ hx, ha y _ hy, Sem.run_bind, eqGuard]
  simp [binOp, hr]
/-! ### '==' on structs -/
theorem rv_eqS {xs ys : Array Value} {b : Bool} (hm : P.eqGuardType P.depth T = false) (hx : ev E x = some (.agg xs)) (hy : ev E y = some (.agg ys)) (hr : ∀ w, (Op.equalIn 10000 T (.agg xs) (.agg ys)).run P w = .ok b w) :
    RV P E w (.binOp .eql T x y T') (.bool b) := fun ρ _ _ _ _ _ ha => by
  simp only [execOp, ha x _ hx, ha y _ hy, Sem.run_bind, run_eqGuard_agg w .eql T x y xs ys hm, run_eql_struct, hr, Result.andThen_ok]
  rfl
theorem rv_neS {xs ys : Array Value} {b : Bool} (hm : P.eqGuardType P.depth T = false) (hx : ev E x = some (.agg xs)) (hy : ev E y = some (.agg ys)) (hr : ∀ w, (Op.equalIn 10000 T (.agg xs) (.agg ys)).run P w = .ok b w) :
    RV P E w (.binOp .neq T x y T') (.bool (!b)) := fun ρ _ _ _ _ _ ha => by
  simp only [execOp, ha x _ hx, ha y _ hy, Sem.run_bind, run_eqGuard_agg w .neq T x y xs ys hm, run_neq_struct, hr, Result.andThen_ok]
  rfl
theorem part_one {v : Value} {vs : Array Value} {o : Nat} {D : TypeDesc} (w : World) (hT : P.underlying T = some D) (hD : (match D with | .struct _ => true | .array _ _ => true | _ => false) = false) (h : vs[o]? = some v) : (part T vs o).run P w = .ok v w := by
  cases D <;> simp_all [part, isAgg, run_underlying hT]
theorem eqF_nil (d : Nat) (xs ys : Array Value) (w : World) : (Op.eqFields d xs ys []).run P w = .ok true w := by simp [Op.eqFields]
theorem eqF_cons {d : Nat} {f : Field} {fs : List Field} {xs ys : Array Value} {u v : Value} {b r : Bool} {w : World} (hn : f.name ≠ "_") (h1 : (part f.type xs f.offset).run P w = .ok u w) (h2 : (part f.type ys f.offset).run P w = .ok v w)
    (h3 : (Op.equalIn d f.type u v).run P w = .ok b w) (h4 : (Op.eqFields d xs ys fs).run P w = .ok r w) : (Op.eqFields d xs ys (f :: fs)).run P w = .ok (b && r) w := by
  simp only [Op.eqFields, hn, ne_eq, not_false_eq_true, if_true, Sem.run_bind, h1, h2, h3, Result.andThen_ok]
  cases b
  · simp
  · simp [h4]
theorem eqIn_i (d : Nat) {T : TypeId} (w : World) (a b : Int) (h : P.underlying T = some (.int .i64)) : (Op.equalIn (d + 1) T (.int .i64 a) (.int .i64 b)).run P w = .ok (a == b) w := by simp [Op.equalIn, run_underlying h]
theorem eqIn_b (d : Nat) {T : TypeId} (w : World) (a b : Bool) (h : P.underlying T = some .bool) : (Op.equalIn (d + 1) T (.bool a) (.bool b)).run P w = .ok (a == b) w := by simp [Op.equalIn, run_underlying h]
theorem eqIn_8 (d : Nat) {T : TypeId} (w : World) (a b : UInt8) (h : P.underlying T = some (.int .u8)) : (Op.equalIn (d + 1) T (iv8 a) (iv8 b)).run P w = .ok (a == b) w := by
  have e := beq8 a b
  simp only [iv8, Op.equalIn, Sem.run_bind, run_underlying h, Result.andThen_ok]
  simp [e]
theorem eqIn_s (d : Nat) {T : TypeId} (w : World) (a b : Str) (h : P.underlying T = some .string) : (Op.equalIn (d + 1) T (sv a) (sv b)).run P w = .ok (a == b) w := by
  simp only [sv, Op.equalIn, Sem.run_bind, run_underlying h, Result.andThen_ok, beq_toListBytes]
  simp

section
variable {H F : World → Prop} {st : Nat} {I : List (Nat × Nat)}
theorem wg_indexAddr {α : Type} {t : Ty α} {a : Option Addr} {nn c : Nat} {xs : List α} {k : IntKind} {i : Int} {e : α} {n j : Nat} {listed listed' : Array Bool}
    (hi : ops[j]? = some ⟨some d, .indexAddr T x y, ty, pos, af, gd⟩) (hsel : Region.noSelect ops = true) (hQ : PanicOk Q) (hwa : waits .any ops I = true) (hist : Nat.beq j st = false)
    (hf : Region.free .any ops listed j = true) (hr : (Region.ready .any ops listed).contains j = true) (hl : listed.setIfInBounds j true = listed') (hS : SG H F st I listed w)
    (hw : Wanted ops N E gd) (hd : Nat.blt d N = true) (hT : P.underlying T = some (.slice U)) (hU : TF P U t.size agg zero bytes)
    (hx : ev E x = some (.slice a nn c)) (hy : ev E y = some (.int k i)) (hs : SliceAt t K a nn c xs) (hz : getI xs i = some e)
    (h : ∀ b o u, t.rel K u e → AtK K b o u.cells.toList → WG P ops Q H F st I N n listed' ((d, .pointer (some ⟨b, o, none⟩)) :: E) w) : WG P ops Q H F st I N (n + 1) listed E w := by
  obtain ⟨b, o, u, h1, h2, h3⟩ := rv_indexAddr hT hU hx hy hs hz
  exact wg_val (fun _ => True) hi hsel hQ hwa hist hf hr hl (.inl fun _ _ => trivial) hS hw hd (fun w' _ => h1 w') (h b o u h2 h3)
end
end
/-! ### a list in order, by a comparison -/
/-- less, by a comparison -/
def ltO {β : Type} (c : β → β → Option Int) (x y : β) : Bool := decide ((c x y).getD 0 < 0)
/-- the comparison goes through on the list's elements, and is an order there that parts them -/
def sortOk {β : Type} (c : β → β → Option Int) (xs : List β) : Bool :=
  decide (xs.length < 4611686018427387904) && (xs.all fun x => xs.all fun y => (c x y).isSome) && (xs.all fun x => !ltO c x x) &&
    (xs.all fun x => xs.all fun y => xs.all fun z => !(ltO c x y && ltO c y z) || ltO c x z) && (xs.all fun x => xs.all fun y => xs.all fun z => (ltO c x y || ltO c y z) || !ltO c x z) &&
    decide (xs.Pairwise fun a b => ltO c a b = true ∨ ltO c b a = true)
/-- The list in order, where no two are alike. -/
def sortO {β : Type} (c : β → β → Option Int) (xs : List β) : Option (List β) := if sortOk c xs = true then some (xs.mergeSort fun x y => !ltO c y x) else none
end Go.Fk
