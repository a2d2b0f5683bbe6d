/-
 Walks of the functions. Printed by gen.py.
-/
import Derived.Test.YtdcmmhjhffcnhaaGreatWalkA5
set_option linter.unusedVariables false
set_option maxRecDepth 100000
namespace Go.Proofs.YtdcmmhjhffcnhaaGreat
open Go Go.Fk Go.RowKit

theorem ok_laws_szSeg (F : Nat) {w : World} {K : KMap} {a1 : Option Addr} {n2 c3 : Nat} {a5 : Option Addr} {n6 c7 : Nat} {p0_a : GSeg} {p1_left : Int} {r : Int} (hS : SH w K [] w K []) (hs4 : SliceAt tGDoc K a1 n2 c3 p0_a.Docs) (hs8 : SliceAt tGEntry K a5 n6 c7 p0_a.Entries) (hr9 : rng64 p1_left) (hm : M.laws_szSeg F p0_a p1_left = some r) :
  Calls Tryz.prog 31 #[.agg #[.slice a1 n2 c3, .slice a5 n6 c7], .int .i64 p1_left] w fun e w' => ∃ (K' : KMap), e = .returned (.int .i64 r) ∧ SH w K [] w' K' [] ∧ rng64 r := by
 rw [M.laws_szSeg] at hm
 refine calls_in Tryz.func31 rfl Tryz.ntmps31 rfl ?_
 refine sr ?_
 refine wl_box wn rfl rfl hS ?_
 intro g10 w11 hS12
 have hS13 : SH _ _ _ _ _ [obj g10 [.slice a1 n2 c3, .slice a5 n6 c7] 69] := hS12
 refine wl_val wn rfl (rv_assign (v := .int .i64 0) rfl) ?_
 refine nr ?_
 refine wl_val wn rfl (rv_fieldAddr ff69_0 rfl) ?_
 refine wl_val wn rfl (rv_loadm1 tf54 rfl (.head _) hS13 rfl) ?_
 refine vm rfl rfl ?_
 obtain ⟨r14, hx15, h16⟩ := ob hm
 refine wl_call wn rfl (rt_call (vs := [.slice a1 n2 c3, .int .i64 p1_left]) co19 rfl) ((ok_laws_szDocS F) hS13.enter0 hs4 hr9 hx15) ?_
 rintro e21 w18 ⟨K17, rfl, hS19, hr20⟩
 refine ⟨_, rfl, ?_⟩
 have hS22 : SH _ _ _ _ _ [_] := SH.call0 hS13 hS19
 refine va rfl rfl ?_
 refine nsr ?_
 refine vm rfl rfl ?_
 refine wl_val wn rfl (rv_lss rfl rfl) ?_
 refine nq ?_
 refine wc_cond rfl (fun hb23 => ?_) (fun hb23 => ?_)
 ·have h24 := cond_t hb23 h16
  refine sr ?_
  refine wl_val wn rfl (rv_assign (v := .int .i64 (-1)) rfl) ?_
  refine nq ?_
  refine rr ?_
  obtain rfl := oi h24
  have hS25 : SH _ _ _ _ _ [] := SH.sublist hS22 (.cons _ .slnil)
  exact qe_ret (vs := [_]) Tryz.results31 ⟨rfl, trivial⟩ ⟨K17, rfl, hS25, (by decide : rng64 (-1))⟩
 ·have h24 := cond_f hb23 h16
  refine wc_skip ?_
  refine qr ?_
  refine wl_val wn rfl (rv_fieldAddr ff69_1 rfl) ?_
  refine wl_val wn rfl (rv_loadm1 tf67 rfl (.head _) hS22 rfl) ?_
  refine vm rfl rfl ?_
  obtain ⟨r26, hx27, h28⟩ := ob h24
  refine wl_call wn rfl (rt_call (vs := [.slice a5 n6 c7, .int .i64 r14]) co85 rfl) ((ok_laws_szEntryS F) hS22.enter0 (SliceAt.mono hS19.le hs8) hr20 hx27) ?_
  rintro e33 w30 ⟨K29, rfl, hS31, hr32⟩
  refine ⟨_, rfl, ?_⟩
  have hS34 : SH _ _ _ _ _ [_] := SH.call0 hS22 hS31
  refine va rfl rfl ?_
  refine nsr ?_
  refine vm rfl rfl ?_
  refine wl_val wn rfl (rv_lss rfl rfl) ?_
  refine nq ?_
  refine wc_cond rfl (fun hb35 => ?_) (fun hb35 => ?_)
  ·have h36 := cond_t hb35 h28
   refine sr ?_
   refine wl_val wn rfl (rv_assign (v := .int .i64 (-1)) rfl) ?_
   refine nq ?_
   refine rr ?_
   obtain rfl := oi h36
   have hS37 : SH _ _ _ _ _ [] := SH.sublist hS34 (.cons _ .slnil)
   exact qe_ret (vs := [_]) Tryz.results31 ⟨rfl, trivial⟩ ⟨K29, rfl, hS37, (by decide : rng64 (-1))⟩
  ·have h36 := cond_f hb35 h28
   refine wc_skip ?_
   refine qr ?_
   refine vm rfl rfl ?_
   refine va rfl rfl ?_
   refine nq ?_
   refine wc_ret ?_
   obtain rfl := oi h36
   have hS38 : SH _ _ _ _ _ [] := SH.sublist hS34 (.cons _ .slnil)
   exact qe_ret (vs := [_]) Tryz.results31 ⟨rfl, trivial⟩ ⟨K29, rfl, hS38, hr32⟩

theorem ok_laws_toField (F : Nat) {w : World} {K : KMap} {p0_a : GField} {r : GField} (hS : SH w K [] w K []) (hl1 : p0_a.Name.length ≤ maxLen) (hl2 : p0_a.Text.length ≤ maxLen) (hm : M.laws_toField F p0_a = some r) :
  Calls Tryz.prog 151 #[.agg #[sv p0_a.Name, sv p0_a.Text]] w fun e w' => ∃ (K' : KMap), e = .returned (.agg #[sv r.Name, sv r.Text]) ∧ SH w K [] w' K' [] ∧ r.Name.length ≤ maxLen ∧ r.Text.length ≤ maxLen := by
 rw [M.laws_toField] at hm
 refine calls_in Tryz.func151 rfl Tryz.ntmps151 rfl ?_
 refine sr ?_
 refine wl_box wn rfl rfl hS ?_
 intro g3 w4 hS5
 have hS6 : SH _ _ _ _ _ [obj g3 [sv p0_a.Name, sv p0_a.Text] 183] := hS5
 refine wl_alloc wn rfl tf109 hS6 ?_
 intro g7 w8 hS9
 have hS10 : SH _ _ _ _ _ [obj g7 [sv [], sv []] 109, _] := hS9
 refine nr ?_
 refine wl_alloc wn rfl tf109 hS10 ?_
 intro g11 w12 hS13
 have hS14 : SH _ _ _ _ _ [obj g11 [sv [], sv []] 109, _, _] := hS13
 refine nr ?_
 refine wl_val wn rfl (rv_fieldAddr ff183_0 rfl) ?_
 refine wl_val wn rfl (rv_loadm1 tf9 rfl (.tail _ (.tail _ (.head _))) hS14 rfl) ?_
 refine wl_val wn rfl (rv_fieldAddr ff109_0 rfl) ?_
 refine wl_store (cs' := [sv p0_a.Name, sv []]) (v := sv p0_a.Name) wn tf9 rfl rfl rfl (by simp [Value.cells, Value.oneCell', sv]) hS14 rfl rfl ?_
 intro w15 hS16
 refine nr ?_
 refine wl_val wn rfl (rv_fieldAddr ff183_1 rfl) ?_
 refine wl_val wn rfl (rv_loadm1 tf9 rfl (.tail _ (.tail _ (.head _))) hS16 rfl) ?_
 refine wl_val wn rfl (rv_fieldAddr ff109_1 rfl) ?_
 refine wl_store (cs' := [sv p0_a.Name, sv p0_a.Text]) (v := sv p0_a.Text) wn tf9 rfl rfl rfl (by simp [Value.cells, Value.oneCell', sv]) hS16 rfl rfl ?_
 intro w17 hS18
 refine nr ?_
 refine wl_val wn rfl (rv_loadmS (ds := [sv p0_a.Name, sv p0_a.Text]) tf109 rfl (.head _) hS18 rfl rfl) ?_
 have hS19 : SH _ _ _ _ _ [_, _, _] := SH.front (p := [_]) hS18
 refine wl_store (cs' := [sv p0_a.Name, sv p0_a.Text]) (v := .agg #[sv p0_a.Name, sv p0_a.Text]) wn tf109 rfl rfl rfl (by simp [Value.cells, Value.oneCell', sv]) hS19 rfl rfl ?_
 intro w20 hS21
 refine nq ?_
 refine wc_ret ?_
 obtain rfl := oi hm
 have hS22 : SH _ _ _ _ _ [] := SH.sublist hS21 (.cons _ (.cons _ (.cons _ .slnil)))
 exact qe_ret (vs := [_]) Tryz.results151 ⟨⟨_, _, rfl, run_loadVar_at tf109 (cs := [sv p0_a.Name, sv p0_a.Text]) (fun j c e => by rw [Nat.zero_add, hS21.mem_obj (.head _)]; exact e) (.inl ⟨rfl, rfl, rfl⟩)⟩, trivial⟩ ⟨K, rfl, hS22, hl1, hl2⟩

theorem ok_laws_toFieldS (F : Nat) {w : World} {K : KMap} {a1 : Option Addr} {n2 c3 : Nat} {p0_a : List GField} {r : (List GField)} (hS : SH w K [] w K []) (hs4 : SliceAt tGField K a1 n2 c3 p0_a) (hm : M.laws_toFieldS F p0_a = some r) :
  Calls Tryz.prog 119 #[.slice a1 n2 c3] w fun e w' => ∃ (a_1 : Option Addr) (n_2 c_3 : Nat) (K' : KMap), e = .returned (.slice a_1 n_2 c_3) ∧ SH w K [] w' K' [tail (.slice a_1 n_2 c_3) 109 2] ∧ SliceAt tGField K' a_1 n_2 c_3 r := by
 rw [M.laws_toFieldS] at hm
 refine calls_in Tryz.func119 rfl Tryz.ntmps119 rfl ?_
 refine sr ?_
 refine wl_val wn rfl (rv_assign (v := .slice none 0 0) rfl) ?_
 refine nr ?_
 refine vm rfl rfl ?_
 refine wl_val wn rfl (rv_len (t := tGField) Tryz.underlying112 rfl hs4) ?_
 obtain ⟨x5, hx6, h7⟩ := ob hm
 refine wl_make (t := tGField) wn rfl Tryz.underlying41 tf109 rfl rfl rfl hx6 ⟨rfl, (by decide : ([] : Str).length ≤ maxLen), (by decide : ([] : Str).length ≤ maxLen)⟩ hS ?_
 intro g8 cs9 w10 hmx13 hrow11 hS12
 obtain ⟨m14, hm15⟩ : ∃ m, m = x5.length := ⟨_, rfl⟩
 rw [← hm15] at hmx13
 rw [← hm15]
 refine va rfl rfl ?_
 refine nsr ?_
 refine wl_val wn rfl (rv_assign (v := .int .i64 0) rfl) ?_
 refine nq ?_
 obtain ⟨o16, h17, h18⟩ := ob h7
 refine wc_cutg (fun E' w' => ∃ (cs23 : List Value) (K19 : KMap), E' = [(3, .slice (some ⟨g8, 0, none⟩) m14 m14)] ∧ SH w K [] w' K19 [obj g8 cs23 109] ∧ KLe K K19 ∧ RowAt true tGField K19 cs23 o16 ∧ m14 = o16.length) ?_ ?_
 ·refine wc_block ?_
  obtain ⟨r27, h28, h29⟩ := ob h17
  refine wc_while' (fun (s26 : Int × (List GField)) E' w' => ∃ (cs35 : List Value) (K30 : KMap), E' = [(0, .slice a1 n2 c3), (3, .slice (some ⟨g8, 0, none⟩) m14 m14), (4, .int .i64 s26.1)] ∧ SH w K [] w' K30 [obj g8 cs35 109] ∧ KLe K K30 ∧ rng64 s26.1 ∧ RowAt true tGField K30 cs35 s26.2 ∧ m14 = s26.2.length) h28 ⟨cs9, K, rfl, hS12, (KLe.refl _), (by decide : rng64 0), hrow11, hm15⟩ ⟨rfl, rfl, rfl, trivial⟩ ?_
  rintro s26 _ w32 r38 h39 hx40 ⟨cs35, K30, rfl, hS33, hl31, hr34, hrow36, hm37⟩
  refine wc_seq ?_
  refine sr ?_
  refine vm rfl rfl ?_
  refine vm rfl rfl ?_
  refine wl_val wn rfl (rv_len (t := tGField) Tryz.underlying112 rfl (SliceAt.mono hl31 hs4)) ?_
  refine wl_val wn rfl (rv_lss rfl rfl) ?_
  refine nq ?_
  refine wc_cond rfl (fun hb41 => ?_) (fun hb41 => ?_)
  ·have h42 := cond_t hb41 h39
   refine wc_skip ?_
   refine qs ?_
   refine wc_block ?_
   refine wc_region ?_
   refine vm rfl rfl ?_
   refine vm rfl rfl ?_
   refine vm rfl rfl ?_
   refine vm rfl rfl ?_
   obtain ⟨x43, hx44, h45⟩ := ob h42
   refine wl_indexAddr (t := tGField) wn rfl Tryz.underlying112 tf183 rfl rfl (SliceAt.mono hl31 hs4) hx44 ?_
   intro b46 o47 u48 hu49 ha50
   obtain ⟨rfl, hl51, hl52⟩ := hu49
   have ha53 : AtK _ b46 o47 [sv x43.Name, sv x43.Text] := ha50
   refine wl_val wn rfl (rv_loadS (cs := [sv x43.Name, sv x43.Text]) tf183 rfl hS33 ha53 rfl) ?_
   obtain ⟨r54, hx55, h56⟩ := ob h45
   refine wl_call wn rfl (rt_call (vs := [.agg #[sv x43.Name, sv x43.Text]]) co151 rfl) ((ok_laws_toField F) hS33.enter0 hl51 hl52 hx55) ?_
   rintro e62 w58 ⟨K57, rfl, hS59, hl60, hl61⟩
   refine ⟨_, rfl, ?_⟩
   have hS63 : SH _ _ _ _ _ [_] := SH.call0 hS33 hS59
   obtain ⟨x64, hx65, h66⟩ := ob h56
   obtain ⟨u67, hu68, hk69⟩ := RowAt.at (RowAt.mono hS59.le hrow36) hx65
   obtain ⟨rfl, hl71, hl72⟩ := hu68
   have hk70 : ∀ (j : Nat) (d : Value), [sv x64.Name, sv x64.Text][j]? = some d → cs35[s26.1.toNat * tGField.size + j]? = some d := hk69
   refine wl_val wn rfl (rv_indexRow (t := tGField) Tryz.underlying41 tf109 rfl rfl hm37 hx65) ?_
   refine wl_storeRow (t := tGField) (v := .agg #[sv r54.Name, sv r54.Text]) (e := r54) wn tf109 rfl rfl ⟨rfl, hl60, hl61⟩ hS63 (RowAt.mono hS59.le hrow36) hx65 ?_
   intro cs73 w74 hrow75 hS76
   have hm77 := hm37.trans (List.length_set (i := s26.1.toNat) (a := r54)).symm
   refine nb ?_
   refine qe_seq ?_
   refine wc_region ?_
   refine vm rfl rfl ?_
   refine wl_val wn rfl (rv_add rfl rfl) ?_
   refine va rfl rfl ?_
   refine wl_nil ?_
   obtain rfl := oi h66
   exact qe_mid' ⟨_, rfl, cs73, K57, rfl, hS76, (hl31.trans hS59.le), (w64_rng _), hrow75, hm77⟩ ⟨rfl, rfl, rfl, trivial⟩
  ·have h42 := cond_f hb41 h39
   refine wc_exit ?_
   refine qe_then_exit ?_
   refine qe_then_exit ?_
   obtain rfl := oi h42
   have e78 := hx40 _ rfl
   subst e78
   refine qe_block_eq ?_
   obtain rfl := oi h29
   exact qe_mid' ⟨cs35, K30, rfl, hS33, hl31, hrow36, hm37⟩ ⟨rfl, trivial⟩
 ·rintro _ w21 ⟨cs23, K19, rfl, hS22, hl20, hrow24, hm25⟩
  refine qr ?_
  refine vm rfl rfl ?_
  refine va rfl rfl ?_
  refine nq ?_
  refine wc_ret ?_
  obtain ⟨K79, hl80, hs81, hS82⟩ := SH.freeze hS22 hrow24 (row_max hm25 hmx13)
  rw [← hm25] at hs81 hS82
  obtain rfl := oi h18
  exact qe_ret (vs := [_]) Tryz.results119 ⟨rfl, trivial⟩ ⟨(some ⟨g8, 0, none⟩), m14, m14, K79, rfl, hS82, hs81⟩

theorem ok_laws_toAttr (F : Nat) {w : World} {K : KMap} {p0_a : GAttr} {r : GAttr} (hS : SH w K [] w K []) (hl1 : p0_a.Name.length ≤ maxLen) (hr2 : rng64 p0_a.Num) (hm : M.laws_toAttr F p0_a = some r) :
  Calls Tryz.prog 152 #[.agg #[sv p0_a.Name, .int .i64 p0_a.Num]] w fun e w' => ∃ (K' : KMap), e = .returned (.agg #[sv r.Name, .int .i64 r.Num]) ∧ SH w K [] w' K' [] ∧ r.Name.length ≤ maxLen ∧ rng64 r.Num := by
 rw [M.laws_toAttr] at hm
 refine calls_in Tryz.func152 rfl Tryz.ntmps152 rfl ?_
 refine sr ?_
 refine wl_box wn rfl rfl hS ?_
 intro g3 w4 hS5
 have hS6 : SH _ _ _ _ _ [obj g3 [sv p0_a.Name, .int .i64 p0_a.Num] 185] := hS5
 refine wl_alloc wn rfl tf152 hS6 ?_
 intro g7 w8 hS9
 have hS10 : SH _ _ _ _ _ [obj g7 [sv [], .int .i64 0] 152, _] := hS9
 refine nr ?_
 refine wl_alloc wn rfl tf152 hS10 ?_
 intro g11 w12 hS13
 have hS14 : SH _ _ _ _ _ [obj g11 [sv [], .int .i64 0] 152, _, _] := hS13
 refine nr ?_
 refine wl_val wn rfl (rv_fieldAddr ff185_0 rfl) ?_
 refine wl_val wn rfl (rv_loadm1 tf9 rfl (.tail _ (.tail _ (.head _))) hS14 rfl) ?_
 refine wl_val wn rfl (rv_fieldAddr ff152_0 rfl) ?_
 refine wl_store (cs' := [sv p0_a.Name, .int .i64 0]) (v := sv p0_a.Name) wn tf9 rfl rfl rfl (by simp [Value.cells, Value.oneCell', sv]) hS14 rfl rfl ?_
 intro w15 hS16
 refine nr ?_
 refine wl_val wn rfl (rv_fieldAddr ff185_1 rfl) ?_
 refine wl_val wn rfl (rv_loadm1 tf3 rfl (.tail _ (.tail _ (.head _))) hS16 rfl) ?_
 refine wl_val wn rfl (rv_fieldAddr ff152_1 rfl) ?_
 refine wl_store (cs' := [sv p0_a.Name, .int .i64 p0_a.Num]) (v := .int .i64 p0_a.Num) wn tf3 rfl rfl rfl (by simp [Value.cells, Value.oneCell']) hS16 rfl rfl ?_
 intro w17 hS18
 refine nr ?_
 refine wl_val wn rfl (rv_loadmS (ds := [sv p0_a.Name, .int .i64 p0_a.Num]) tf152 rfl (.head _) hS18 rfl rfl) ?_
 have hS19 : SH _ _ _ _ _ [_, _, _] := SH.front (p := [_]) hS18
 refine wl_store (cs' := [sv p0_a.Name, .int .i64 p0_a.Num]) (v := .agg #[sv p0_a.Name, .int .i64 p0_a.Num]) wn tf152 rfl rfl rfl (by simp [Value.cells, Value.oneCell', sv]) hS19 rfl rfl ?_
 intro w20 hS21
 refine nq ?_
 refine wc_ret ?_
 obtain rfl := oi hm
 have hS22 : SH _ _ _ _ _ [] := SH.sublist hS21 (.cons _ (.cons _ (.cons _ .slnil)))
 exact qe_ret (vs := [_]) Tryz.results152 ⟨⟨_, _, rfl, run_loadVar_at tf152 (cs := [sv p0_a.Name, .int .i64 p0_a.Num]) (fun j c e => by rw [Nat.zero_add, hS21.mem_obj (.head _)]; exact e) (.inl ⟨rfl, rfl, rfl⟩)⟩, trivial⟩ ⟨K, rfl, hS22, hl1, hr2⟩

theorem ok_laws_toAttrS (F : Nat) {w : World} {K : KMap} {a1 : Option Addr} {n2 c3 : Nat} {p0_a : List GAttr} {r : (List GAttr)} (hS : SH w K [] w K []) (hs4 : SliceAt tGAttr K a1 n2 c3 p0_a) (hm : M.laws_toAttrS F p0_a = some r) :
  Calls Tryz.prog 120 #[.slice a1 n2 c3] w fun e w' => ∃ (a_1 : Option Addr) (n_2 c_3 : Nat) (K' : KMap), e = .returned (.slice a_1 n_2 c_3) ∧ SH w K [] w' K' [tail (.slice a_1 n_2 c_3) 152 2] ∧ SliceAt tGAttr K' a_1 n_2 c_3 r := by
 rw [M.laws_toAttrS] at hm
 refine calls_in Tryz.func120 rfl Tryz.ntmps120 rfl ?_
 refine sr ?_
 refine wl_val wn rfl (rv_assign (v := .slice none 0 0) rfl) ?_
 refine nr ?_
 refine vm rfl rfl ?_
 refine wl_val wn rfl (rv_len (t := tGAttr) Tryz.underlying113 rfl hs4) ?_
 obtain ⟨x5, hx6, h7⟩ := ob hm
 refine wl_make (t := tGAttr) wn rfl Tryz.underlying42 tf152 rfl rfl rfl hx6 ⟨rfl, (by decide : ([] : Str).length ≤ maxLen), (by decide : rng64 0)⟩ hS ?_
 intro g8 cs9 w10 hmx13 hrow11 hS12
 obtain ⟨m14, hm15⟩ : ∃ m, m = x5.length := ⟨_, rfl⟩
 rw [← hm15] at hmx13
 rw [← hm15]
 refine va rfl rfl ?_
 refine nsr ?_
 refine wl_val wn rfl (rv_assign (v := .int .i64 0) rfl) ?_
 refine nq ?_
 obtain ⟨o16, h17, h18⟩ := ob h7
 refine wc_cutg (fun E' w' => ∃ (cs23 : List Value) (K19 : KMap), E' = [(3, .slice (some ⟨g8, 0, none⟩) m14 m14)] ∧ SH w K [] w' K19 [obj g8 cs23 152] ∧ KLe K K19 ∧ RowAt true tGAttr K19 cs23 o16 ∧ m14 = o16.length) ?_ ?_
 ·refine wc_block ?_
  obtain ⟨r27, h28, h29⟩ := ob h17
  refine wc_while' (fun (s26 : Int × (List GAttr)) E' w' => ∃ (cs35 : List Value) (K30 : KMap), E' = [(0, .slice a1 n2 c3), (3, .slice (some ⟨g8, 0, none⟩) m14 m14), (4, .int .i64 s26.1)] ∧ SH w K [] w' K30 [obj g8 cs35 152] ∧ KLe K K30 ∧ rng64 s26.1 ∧ RowAt true tGAttr K30 cs35 s26.2 ∧ m14 = s26.2.length) h28 ⟨cs9, K, rfl, hS12, (KLe.refl _), (by decide : rng64 0), hrow11, hm15⟩ ⟨rfl, rfl, rfl, trivial⟩ ?_
  rintro s26 _ w32 r38 h39 hx40 ⟨cs35, K30, rfl, hS33, hl31, hr34, hrow36, hm37⟩
  refine wc_seq ?_
  refine sr ?_
  refine vm rfl rfl ?_
  refine vm rfl rfl ?_
  refine wl_val wn rfl (rv_len (t := tGAttr) Tryz.underlying113 rfl (SliceAt.mono hl31 hs4)) ?_
  refine wl_val wn rfl (rv_lss rfl rfl) ?_
  refine nq ?_
  refine wc_cond rfl (fun hb41 => ?_) (fun hb41 => ?_)
  ·have h42 := cond_t hb41 h39
   refine wc_skip ?_
   refine qs ?_
   refine wc_block ?_
   refine wc_region ?_
   refine vm rfl rfl ?_
   refine vm rfl rfl ?_
   refine vm rfl rfl ?_
   refine vm rfl rfl ?_
   obtain ⟨x43, hx44, h45⟩ := ob h42
   refine wl_indexAddr (t := tGAttr) wn rfl Tryz.underlying113 tf185 rfl rfl (SliceAt.mono hl31 hs4) hx44 ?_
   intro b46 o47 u48 hu49 ha50
   obtain ⟨rfl, hl51, hr52⟩ := hu49
   have ha53 : AtK _ b46 o47 [sv x43.Name, .int .i64 x43.Num] := ha50
   refine wl_val wn rfl (rv_loadS (cs := [sv x43.Name, .int .i64 x43.Num]) tf185 rfl hS33 ha53 rfl) ?_
   obtain ⟨r54, hx55, h56⟩ := ob h45
   refine wl_call wn rfl (rt_call (vs := [.agg #[sv x43.Name, .int .i64 x43.Num]]) co152 rfl) ((ok_laws_toAttr F) hS33.enter0 hl51 hr52 hx55) ?_
   rintro e62 w58 ⟨K57, rfl, hS59, hl60, hr61⟩
   refine ⟨_, rfl, ?_⟩
   have hS63 : SH _ _ _ _ _ [_] := SH.call0 hS33 hS59
   obtain ⟨x64, hx65, h66⟩ := ob h56
   obtain ⟨u67, hu68, hk69⟩ := RowAt.at (RowAt.mono hS59.le hrow36) hx65
   obtain ⟨rfl, hl71, hr72⟩ := hu68
   have hk70 : ∀ (j : Nat) (d : Value), [sv x64.Name, .int .i64 x64.Num][j]? = some d → cs35[s26.1.toNat * tGAttr.size + j]? = some d := hk69
   refine wl_val wn rfl (rv_indexRow (t := tGAttr) Tryz.underlying42 tf152 rfl rfl hm37 hx65) ?_
   refine wl_storeRow (t := tGAttr) (v := .agg #[sv r54.Name, .int .i64 r54.Num]) (e := r54) wn tf152 rfl rfl ⟨rfl, hl60, hr61⟩ hS63 (RowAt.mono hS59.le hrow36) hx65 ?_
   intro cs73 w74 hrow75 hS76
   have hm77 := hm37.trans (List.length_set (i := s26.1.toNat) (a := r54)).symm
   refine nb ?_
   refine qe_seq ?_
   refine wc_region ?_
   refine vm rfl rfl ?_
   refine wl_val wn rfl (rv_add rfl rfl) ?_
   refine va rfl rfl ?_
   refine wl_nil ?_
   obtain rfl := oi h66
   exact qe_mid' ⟨_, rfl, cs73, K57, rfl, hS76, (hl31.trans hS59.le), (w64_rng _), hrow75, hm77⟩ ⟨rfl, rfl, rfl, trivial⟩
  ·have h42 := cond_f hb41 h39
   refine wc_exit ?_
   refine qe_then_exit ?_
   refine qe_then_exit ?_
   obtain rfl := oi h42
   have e78 := hx40 _ rfl
   subst e78
   refine qe_block_eq ?_
   obtain rfl := oi h29
   exact qe_mid' ⟨cs35, K30, rfl, hS33, hl31, hrow36, hm37⟩ ⟨rfl, trivial⟩
 ·rintro _ w21 ⟨cs23, K19, rfl, hS22, hl20, hrow24, hm25⟩
  refine qr ?_
  refine vm rfl rfl ?_
  refine va rfl rfl ?_
  refine nq ?_
  refine wc_ret ?_
  obtain ⟨K79, hl80, hs81, hS82⟩ := SH.freeze hS22 hrow24 (row_max hm25 hmx13)
  rw [← hm25] at hs81 hS82
  obtain rfl := oi h18
  exact qe_ret (vs := [_]) Tryz.results120 ⟨rfl, trivial⟩ ⟨(some ⟨g8, 0, none⟩), m14, m14, K79, rfl, hS82, hs81⟩

theorem ok_laws_toDoc (F : Nat) {w : World} {K : KMap} {a2 : Option Addr} {n3 c4 : Nat} {a6 : Option Addr} {n7 c8 : Nat} {p0_a : GDoc} {r : GDoc} (hS : SH w K [] w K []) (hr1 : rng64 p0_a.Id) (hs5 : SliceAt tGField K a2 n3 c4 p0_a.Fields) (hs9 : SliceAt tGAttr K a6 n7 c8 p0_a.Nums) (hm : M.laws_toDoc F p0_a = some r) :
  Calls Tryz.prog 69 #[.agg #[.int .i64 p0_a.Id, .slice a2 n3 c4, .slice a6 n7 c8]] w fun e w' => ∃ (a_2 : Option Addr) (n_3 c_4 : Nat) (a_6 : Option Addr) (n_7 c_8 : Nat) (K' : KMap), e = .returned (.agg #[.int .i64 r.Id, .slice a_2 n_3 c_4, .slice a_6 n_7 c_8]) ∧ SH w K [] w' K' [tail (.slice a_2 n_3 c_4) 109 2, tail (.slice a_6 n_7 c_8) 152 2] ∧ rng64 r.Id ∧ SliceAt tGField K' a_2 n_3 c_4 r.Fields ∧ SliceAt tGAttr K' a_6 n_7 c_8 r.Nums := by
 rw [M.laws_toDoc] at hm
 refine calls_in Tryz.func69 rfl Tryz.ntmps69 rfl ?_
 refine sr ?_
 refine wl_box wn rfl rfl hS ?_
 intro g10 w11 hS12
 have hS13 : SH _ _ _ _ _ [obj g10 [.int .i64 p0_a.Id, .slice a2 n3 c4, .slice a6 n7 c8] 115] := hS12
 refine wl_alloc wn rfl tf44 hS13 ?_
 intro g14 w15 hS16
 have hS17 : SH _ _ _ _ _ [obj g14 [.int .i64 0, .slice none 0 0, .slice none 0 0] 44, _] := hS16
 refine nr ?_
 refine wl_alloc wn rfl tf44 hS17 ?_
 intro g18 w19 hS20
 have hS21 : SH _ _ _ _ _ [obj g18 [.int .i64 0, .slice none 0 0, .slice none 0 0] 44, _, _] := hS20
 refine nr ?_
 refine wl_val wn rfl (rv_fieldAddr ff115_0 rfl) ?_
 refine wl_val wn rfl (rv_loadm1 tf3 rfl (.tail _ (.tail _ (.head _))) hS21 rfl) ?_
 refine wl_val wn rfl (rv_fieldAddr ff44_0 rfl) ?_
 refine wl_store (cs' := [.int .i64 p0_a.Id, .slice none 0 0, .slice none 0 0]) (v := .int .i64 p0_a.Id) wn tf3 rfl rfl rfl (by simp [Value.cells, Value.oneCell']) hS21 rfl rfl ?_
 intro w22 hS23
 refine nr ?_
 refine wl_val wn rfl (rv_fieldAddr ff115_1 rfl) ?_
 refine wl_val wn rfl (rv_loadm1 tf112 rfl (.tail _ (.tail _ (.head _))) hS23 rfl) ?_
 obtain ⟨r24, hx25, h26⟩ := ob hm
 refine wl_call wn rfl (rt_call (vs := [.slice a2 n3 c4]) co119 rfl) ((ok_laws_toFieldS F) hS23.enter0 hs5 hx25) ?_
 rintro e34 w28 ⟨a30, n31, c32, K27, rfl, hS29, hs33⟩
 refine ⟨_, rfl, ?_⟩
 have hS35 : SH _ _ _ _ _ [_, _, _, _] := SH.call0 hS23 hS29
 refine wl_val wn rfl (rv_fieldAddr ff44_1 rfl) ?_
 have hS36 : SH _ _ _ _ _ [_, _, _, _] := SH.front (p := [_]) hS35
 refine wl_store (cs' := [.int .i64 p0_a.Id, .slice a30 n31 c32, .slice none 0 0]) (v := .slice a30 n31 c32) wn tf41 rfl rfl rfl (by simp [Value.cells, Value.oneCell']) hS36 rfl rfl ?_
 intro w37 hS38
 refine nr ?_
 refine wl_val wn rfl (rv_fieldAddr ff115_2 rfl) ?_
 refine wl_val wn rfl (rv_loadm1 tf113 rfl (.tail _ (.tail _ (.tail _ (.head _)))) hS38 rfl) ?_
 obtain ⟨r39, hx40, h41⟩ := ob h26
 refine wl_call wn rfl (rt_call (vs := [.slice a6 n7 c8]) co120 rfl) ((ok_laws_toAttrS F) hS38.enter0 (SliceAt.mono hS29.le hs9) hx40) ?_
 rintro e49 w43 ⟨a45, n46, c47, K42, rfl, hS44, hs48⟩
 refine ⟨_, rfl, ?_⟩
 have hS50 : SH _ _ _ _ _ [_, _, _, _, _] := SH.call0 hS38 hS44
 refine wl_val wn rfl (rv_fieldAddr ff44_2 rfl) ?_
 have hS51 : SH _ _ _ _ _ [_, _, _, _, _] := SH.front (p := [_]) hS50
 refine wl_store (cs' := [.int .i64 p0_a.Id, .slice a30 n31 c32, .slice a45 n46 c47]) (v := .slice a45 n46 c47) wn tf42 rfl rfl rfl (by simp [Value.cells, Value.oneCell']) hS51 rfl rfl ?_
 intro w52 hS53
 refine nr ?_
 refine wl_val wn rfl (rv_loadmS (ds := [.int .i64 p0_a.Id, .slice a30 n31 c32, .slice a45 n46 c47]) tf44 rfl (.head _) hS53 rfl rfl) ?_
 have hS54 : SH _ _ _ _ _ [_, _, _, _, _] := SH.front (p := [_, _, _]) hS53
 refine wl_store (cs' := [.int .i64 p0_a.Id, .slice a30 n31 c32, .slice a45 n46 c47]) (v := .agg #[.int .i64 p0_a.Id, .slice a30 n31 c32, .slice a45 n46 c47]) wn tf44 rfl rfl rfl (by simp [Value.cells, Value.oneCell']) hS54 rfl rfl ?_
 intro w55 hS56
 refine nq ?_
 refine wc_ret ?_
 obtain rfl := oi h41
 have hS57 : SH _ _ _ _ _ [_, _, _, _, _] := SH.front (p := [_, _]) hS56
 have hS58 : SH _ _ _ _ _ [_, _, _, _, _] := SH.front (p := [_, _, _]) hS57
 have hS59 : SH _ _ _ _ _ [_, _] := SH.sublist hS58 (.cons_cons _ (.cons_cons _ (.cons _ (.cons _ (.cons _ .slnil)))))
 exact qe_ret (vs := [_]) Tryz.results69 ⟨⟨_, _, rfl, run_loadVar_at tf44 (cs := [.int .i64 p0_a.Id, .slice a30 n31 c32, .slice a45 n46 c47]) (fun j c e => by rw [Nat.zero_add, hS56.mem_obj (.head _)]; exact e) (.inl ⟨rfl, rfl, rfl⟩)⟩, trivial⟩ ⟨a30, n31, c32, a45, n46, c47, K42, rfl, hS59, hr1, (SliceAt.mono hS44.le hs33), hs48⟩

theorem ok_laws_toDocS (F : Nat) {w : World} {K : KMap} {a1 : Option Addr} {n2 c3 : Nat} {p0_a : List GDoc} {r : (List GDoc)} (hS : SH w K [] w K []) (hs4 : SliceAt tGDoc K a1 n2 c3 p0_a) (hm : M.laws_toDocS F p0_a = some r) :
  Calls Tryz.prog 22 #[.slice a1 n2 c3] w fun e w' => ∃ (a_1 : Option Addr) (n_2 c_3 : Nat) (K' : KMap), e = .returned (.slice a_1 n_2 c_3) ∧ SH w K [] w' K' [tail (.slice a_1 n_2 c_3) 44 3] ∧ SliceAt tGDoc K' a_1 n_2 c_3 r := by
 rw [M.laws_toDocS] at hm
 refine calls_in Tryz.func22 rfl Tryz.ntmps22 rfl ?_
 refine sr ?_
 refine wl_val wn rfl (rv_assign (v := .slice none 0 0) rfl) ?_
 refine nr ?_
 refine vm rfl rfl ?_
 refine wl_val wn rfl (rv_len (t := tGDoc) Tryz.underlying54 rfl hs4) ?_
 obtain ⟨x5, hx6, h7⟩ := ob hm
 refine wl_make (t := tGDoc) wn rfl Tryz.underlying27 tf44 rfl rfl rfl hx6 ⟨none, 0, 0, none, 0, 0, rfl, (by decide : rng64 0), (SliceAt.nil _ _), (SliceAt.nil _ _)⟩ hS ?_
 intro g8 cs9 w10 hmx13 hrow11 hS12
 obtain ⟨m14, hm15⟩ : ∃ m, m = x5.length := ⟨_, rfl⟩
 rw [← hm15] at hmx13
 rw [← hm15]
 refine va rfl rfl ?_
 refine nsr ?_
 refine wl_val wn rfl (rv_assign (v := .int .i64 0) rfl) ?_
 refine nq ?_
 obtain ⟨o16, h17, h18⟩ := ob h7
 refine wc_cutg (fun E' w' => ∃ (cs23 : List Value) (K19 : KMap), E' = [(3, .slice (some ⟨g8, 0, none⟩) m14 m14)] ∧ SH w K [] w' K19 [obj g8 cs23 44] ∧ KLe K K19 ∧ RowAt true tGDoc K19 cs23 o16 ∧ m14 = o16.length) ?_ ?_
 ·refine wc_block ?_
  obtain ⟨r27, h28, h29⟩ := ob h17
  refine wc_while' (fun (s26 : Int × (List GDoc)) E' w' => ∃ (cs35 : List Value) (K30 : KMap), E' = [(0, .slice a1 n2 c3), (3, .slice (some ⟨g8, 0, none⟩) m14 m14), (4, .int .i64 s26.1)] ∧ SH w K [] w' K30 [obj g8 cs35 44] ∧ KLe K K30 ∧ rng64 s26.1 ∧ RowAt true tGDoc K30 cs35 s26.2 ∧ m14 = s26.2.length) h28 ⟨cs9, K, rfl, hS12, (KLe.refl _), (by decide : rng64 0), hrow11, hm15⟩ ⟨rfl, rfl, rfl, trivial⟩ ?_
  rintro s26 _ w32 r38 h39 hx40 ⟨cs35, K30, rfl, hS33, hl31, hr34, hrow36, hm37⟩
  refine wc_seq ?_
  refine sr ?_
  refine vm rfl rfl ?_
  refine vm rfl rfl ?_
  refine wl_val wn rfl (rv_len (t := tGDoc) Tryz.underlying54 rfl (SliceAt.mono hl31 hs4)) ?_
  refine wl_val wn rfl (rv_lss rfl rfl) ?_
  refine nq ?_
  refine wc_cond rfl (fun hb41 => ?_) (fun hb41 => ?_)
  ·have h42 := cond_t hb41 h39
   refine wc_skip ?_
   refine qs ?_
   refine wc_block ?_
   refine wc_region ?_
   refine vm rfl rfl ?_
   refine vm rfl rfl ?_
   refine vm rfl rfl ?_
   refine vm rfl rfl ?_
   obtain ⟨x43, hx44, h45⟩ := ob h42
   refine wl_indexAddr (t := tGDoc) wn rfl Tryz.underlying54 tf115 rfl rfl (SliceAt.mono hl31 hs4) hx44 ?_
   intro b46 o47 u48 hu49 ha50
   obtain ⟨a52, n53, c54, a56, n57, c58, rfl, hr51, hs55, hs59⟩ := hu49
   have ha60 : AtK _ b46 o47 [.int .i64 x43.Id, .slice a52 n53 c54, .slice a56 n57 c58] := ha50
   refine wl_val wn rfl (rv_loadS (cs := [.int .i64 x43.Id, .slice a52 n53 c54, .slice a56 n57 c58]) tf115 rfl hS33 ha60 rfl) ?_
   obtain ⟨r61, hx62, h63⟩ := ob h45
   refine wl_call wn rfl (rt_call (vs := [.agg #[.int .i64 x43.Id, .slice a52 n53 c54, .slice a56 n57 c58]]) co69 rfl) ((ok_laws_toDoc F) hS33.enter0 hr51 hs55 hs59 hx62) ?_
   rintro e76 w65 ⟨a68, n69, c70, a72, n73, c74, K64, rfl, hS66, hr67, hs71, hs75⟩
   refine ⟨_, rfl, ?_⟩
   have hS77 : SH _ _ _ _ _ [_, _, _] := SH.call0 hS33 hS66
   obtain ⟨x78, hx79, h80⟩ := ob h63
   obtain ⟨u81, hu82, hk83⟩ := RowAt.at (RowAt.mono hS66.le hrow36) hx79
   obtain ⟨a86, n87, c88, a90, n91, c92, rfl, hr85, hs89, hs93⟩ := hu82
   have hk84 : ∀ (j : Nat) (d : Value), [.int .i64 x78.Id, .slice a86 n87 c88, .slice a90 n91 c92][j]? = some d → cs35[s26.1.toNat * tGDoc.size + j]? = some d := hk83
   refine wl_val wn rfl (rv_indexRow (t := tGDoc) Tryz.underlying27 tf44 rfl rfl hm37 hx79) ?_
   have hS94 : SH _ _ _ _ _ [_, _, _] := SH.front (p := [_, _]) hS77
   refine wl_storeRow (t := tGDoc) (v := .agg #[.int .i64 r61.Id, .slice a68 n69 c70, .slice a72 n73 c74]) (e := r61) wn tf44 rfl rfl ⟨a68, n69, c70, a72, n73, c74, rfl, hr67, hs71, hs75⟩ hS94 (RowAt.mono hS66.le hrow36) hx79 ?_
   intro cs95 w96 hrow97 hS98
   have hm99 := hm37.trans (List.length_set (i := s26.1.toNat) (a := r61)).symm
   refine nb ?_
   refine qe_seq ?_
   refine wc_region ?_
   refine vm rfl rfl ?_
   refine wl_val wn rfl (rv_add rfl rfl) ?_
   refine va rfl rfl ?_
   refine wl_nil ?_
   obtain rfl := oi h80
   have hS100 : SH _ _ _ _ _ [_] := SH.sublist hS98 (.cons_cons _ (.cons _ (.cons _ .slnil)))
   exact qe_mid' ⟨_, rfl, cs95, K64, rfl, hS100, (hl31.trans hS66.le), (w64_rng _), hrow97, hm99⟩ ⟨rfl, rfl, rfl, trivial⟩
  ·have h42 := cond_f hb41 h39
   refine wc_exit ?_
   refine qe_then_exit ?_
   refine qe_then_exit ?_
   obtain rfl := oi h42
   have e101 := hx40 _ rfl
   subst e101
   refine qe_block_eq ?_
   obtain rfl := oi h29
   exact qe_mid' ⟨cs35, K30, rfl, hS33, hl31, hrow36, hm37⟩ ⟨rfl, trivial⟩
 ·rintro _ w21 ⟨cs23, K19, rfl, hS22, hl20, hrow24, hm25⟩
  refine qr ?_
  refine vm rfl rfl ?_
  refine va rfl rfl ?_
  refine nq ?_
  refine wc_ret ?_
  obtain ⟨K102, hl103, hs104, hS105⟩ := SH.freeze hS22 hrow24 (row_max hm25 hmx13)
  rw [← hm25] at hs104 hS105
  obtain rfl := oi h18
  exact qe_ret (vs := [_]) Tryz.results22 ⟨rfl, trivial⟩ ⟨(some ⟨g8, 0, none⟩), m14, m14, K102, rfl, hS105, hs104⟩

theorem ok_laws_toIntS (F : Nat) {w : World} {K : KMap} {a1 : Option Addr} {n2 c3 : Nat} {p0_a : List Int} {r : (List Int)} (hS : SH w K [] w K []) (hs4 : SliceAt tInt K a1 n2 c3 p0_a) (hm : M.laws_toIntS F p0_a = some r) :
  Calls Tryz.prog 183 #[.slice a1 n2 c3] w fun e w' => ∃ (a_1 : Option Addr) (n_2 c_3 : Nat) (K' : KMap), e = .returned (.slice a_1 n_2 c_3) ∧ SH w K [] w' K' [tail (.slice a_1 n_2 c_3) 3 1] ∧ SliceAt tInt K' a_1 n_2 c_3 r := by
 rw [M.laws_toIntS] at hm
 refine calls_in Tryz.func183 rfl Tryz.ntmps183 rfl ?_
 refine sr ?_
 refine wl_val wn rfl (rv_assign (v := .slice none 0 0) rfl) ?_
 refine nr ?_
 refine vm rfl rfl ?_
 refine wl_val wn rfl (rv_len (t := tInt) Tryz.underlying37 rfl hs4) ?_
 obtain ⟨x5, hx6, h7⟩ := ob hm
 refine wl_make (t := tInt) wn rfl Tryz.underlying37 tf3 rfl rfl rfl hx6 ⟨rfl, (by decide : rng64 0)⟩ hS ?_
 intro g8 cs9 w10 hmx13 hrow11 hS12
 obtain ⟨m14, hm15⟩ : ∃ m, m = x5.length := ⟨_, rfl⟩
 rw [← hm15] at hmx13
 rw [← hm15]
 refine va rfl rfl ?_
 refine nsr ?_
 refine wl_val wn rfl (rv_assign (v := .int .i64 0) rfl) ?_
 refine nq ?_
 obtain ⟨o16, h17, h18⟩ := ob h7
 refine wc_cutg (fun E' w' => ∃ (cs23 : List Value) (K19 : KMap), E' = [(3, .slice (some ⟨g8, 0, none⟩) m14 m14)] ∧ SH w K [] w' K19 [obj g8 cs23 3] ∧ KLe K K19 ∧ RowAt true tInt K19 cs23 o16 ∧ m14 = o16.length) ?_ ?_
 ·refine wc_block ?_
  obtain ⟨r27, h28, h29⟩ := ob h17
  refine wc_while' (fun (s26 : Int × (List Int)) E' w' => ∃ (cs35 : List Value) (K30 : KMap), E' = [(0, .slice a1 n2 c3), (3, .slice (some ⟨g8, 0, none⟩) m14 m14), (4, .int .i64 s26.1)] ∧ SH w K [] w' K30 [obj g8 cs35 3] ∧ KLe K K30 ∧ rng64 s26.1 ∧ RowAt true tInt K30 cs35 s26.2 ∧ m14 = s26.2.length) h28 ⟨cs9, K, rfl, hS12, (KLe.refl _), (by decide : rng64 0), hrow11, hm15⟩ ⟨rfl, rfl, rfl, trivial⟩ ?_
  rintro s26 _ w32 r38 h39 hx40 ⟨cs35, K30, rfl, hS33, hl31, hr34, hrow36, hm37⟩
  refine wc_seq ?_
  refine sr ?_
  refine vm rfl rfl ?_
  refine vm rfl rfl ?_
  refine wl_val wn rfl (rv_len (t := tInt) Tryz.underlying37 rfl (SliceAt.mono hl31 hs4)) ?_
  refine wl_val wn rfl (rv_lss rfl rfl) ?_
  refine nq ?_
  refine wc_cond rfl (fun hb41 => ?_) (fun hb41 => ?_)
  ·have h42 := cond_t hb41 h39
   refine wc_skip ?_
   refine qs ?_
   refine wc_block ?_
   refine wc_region ?_
   refine vm rfl rfl ?_
   refine vm rfl rfl ?_
   refine vm rfl rfl ?_
   refine vm rfl rfl ?_
   obtain ⟨x43, hx44, h45⟩ := ob h42
   refine wl_indexAddr (t := tInt) wn rfl Tryz.underlying37 tf3 rfl rfl (SliceAt.mono hl31 hs4) hx44 ?_
   intro b46 o47 u48 hu49 ha50
   obtain ⟨rfl, hr51⟩ := hu49
   have ha52 : AtK _ b46 o47 [.int .i64 x43] := ha50
   refine wl_val wn rfl (rv_load1 tf3 rfl hS33 (ha52 0 _ rfl)) ?_
   obtain ⟨x53, hx54, h55⟩ := ob h45
   obtain ⟨u56, hu57, hk58⟩ := RowAt.at hrow36 hx54
   obtain ⟨rfl, hr60⟩ := hu57
   have hk59 : ∀ (j : Nat) (d : Value), [.int .i64 x53][j]? = some d → cs35[s26.1.toNat * tInt.size + j]? = some d := hk58
   refine wl_val wn rfl (rv_indexRow (t := tInt) Tryz.underlying37 tf3 rfl rfl hm37 hx54) ?_
   refine wl_storeRow (t := tInt) (v := .int .i64 x43) (e := x43) wn tf3 rfl rfl ⟨rfl, hr51⟩ hS33 hrow36 hx54 ?_
   intro cs61 w62 hrow63 hS64
   have hm65 := hm37.trans (List.length_set (i := s26.1.toNat) (a := x43)).symm
   refine nb ?_
   refine qe_seq ?_
   refine wc_region ?_
   refine vm rfl rfl ?_
   refine wl_val wn rfl (rv_add rfl rfl) ?_
   refine va rfl rfl ?_
   refine wl_nil ?_
   obtain rfl := oi h55
   exact qe_mid' ⟨_, rfl, cs61, K30, rfl, hS64, hl31, (w64_rng _), hrow63, hm65⟩ ⟨rfl, rfl, rfl, trivial⟩
  ·have h42 := cond_f hb41 h39
   refine wc_exit ?_
   refine qe_then_exit ?_
   refine qe_then_exit ?_
   obtain rfl := oi h42
   have e66 := hx40 _ rfl
   subst e66
   refine qe_block_eq ?_
   obtain rfl := oi h29
   exact qe_mid' ⟨cs35, K30, rfl, hS33, hl31, hrow36, hm37⟩ ⟨rfl, trivial⟩
 ·rintro _ w21 ⟨cs23, K19, rfl, hS22, hl20, hrow24, hm25⟩
  refine qr ?_
  refine vm rfl rfl ?_
  refine va rfl rfl ?_
  refine nq ?_
  refine wc_ret ?_
  obtain ⟨K67, hl68, hs69, hS70⟩ := SH.freeze hS22 hrow24 (row_max hm25 hmx13)
  rw [← hm25] at hs69 hS70
  obtain rfl := oi h18
  exact qe_ret (vs := [_]) Tryz.results183 ⟨rfl, trivial⟩ ⟨(some ⟨g8, 0, none⟩), m14, m14, K67, rfl, hS70, hs69⟩

theorem ok_laws_toPost (F : Nat) {w : World} {K : KMap} {a2 : Option Addr} {n3 c4 : Nat} {p0_a : GPost} {r : GPost} (hS : SH w K [] w K []) (hr1 : rng64 p0_a.Doc) (hs5 : SliceAt tInt K a2 n3 c4 p0_a.At) (hm : M.laws_toPost F p0_a = some r) :
  Calls Tryz.prog 177 #[.agg #[.int .i64 p0_a.Doc, .slice a2 n3 c4]] w fun e w' => ∃ (a_2 : Option Addr) (n_3 c_4 : Nat) (K' : KMap), e = .returned (.agg #[.int .i64 r.Doc, .slice a_2 n_3 c_4]) ∧ SH w K [] w' K' [tail (.slice a_2 n_3 c_4) 3 1] ∧ rng64 r.Doc ∧ SliceAt tInt K' a_2 n_3 c_4 r.At := by
 rw [M.laws_toPost] at hm
 refine calls_in Tryz.func177 rfl Tryz.ntmps177 rfl ?_
 refine sr ?_
 refine wl_box wn rfl rfl hS ?_
 intro g6 w7 hS8
 have hS9 : SH _ _ _ _ _ [obj g6 [.int .i64 p0_a.Doc, .slice a2 n3 c4] 216] := hS8
 refine wl_alloc wn rfl tf48 hS9 ?_
 intro g10 w11 hS12
 have hS13 : SH _ _ _ _ _ [obj g10 [.int .i64 0, .slice none 0 0] 48, _] := hS12
 refine nr ?_
 refine wl_alloc wn rfl tf48 hS13 ?_
 intro g14 w15 hS16
 have hS17 : SH _ _ _ _ _ [obj g14 [.int .i64 0, .slice none 0 0] 48, _, _] := hS16
 refine nr ?_
 refine wl_val wn rfl (rv_fieldAddr ff216_0 rfl) ?_
 refine wl_val wn rfl (rv_loadm1 tf3 rfl (.tail _ (.tail _ (.head _))) hS17 rfl) ?_
 refine wl_val wn rfl (rv_fieldAddr ff48_0 rfl) ?_
 refine wl_store (cs' := [.int .i64 p0_a.Doc, .slice none 0 0]) (v := .int .i64 p0_a.Doc) wn tf3 rfl rfl rfl (by simp [Value.cells, Value.oneCell']) hS17 rfl rfl ?_
 intro w18 hS19
 refine nr ?_
 refine wl_val wn rfl (rv_fieldAddr ff216_1 rfl) ?_
 refine wl_val wn rfl (rv_loadm1 tf37 rfl (.tail _ (.tail _ (.head _))) hS19 rfl) ?_
 obtain ⟨r20, hx21, h22⟩ := ob hm
 refine wl_call wn rfl (rt_call (vs := [.slice a2 n3 c4]) co183 rfl) ((ok_laws_toIntS F) hS19.enter0 hs5 hx21) ?_
 rintro e30 w24 ⟨a26, n27, c28, K23, rfl, hS25, hs29⟩
 refine ⟨_, rfl, ?_⟩
 have hS31 : SH _ _ _ _ _ [_, _, _, _] := SH.call0 hS19 hS25
 refine wl_val wn rfl (rv_fieldAddr ff48_1 rfl) ?_
 have hS32 : SH _ _ _ _ _ [_, _, _, _] := SH.front (p := [_]) hS31
 refine wl_store (cs' := [.int .i64 p0_a.Doc, .slice a26 n27 c28]) (v := .slice a26 n27 c28) wn tf37 rfl rfl rfl (by simp [Value.cells, Value.oneCell']) hS32 rfl rfl ?_
 intro w33 hS34
 refine nr ?_
 refine wl_val wn rfl (rv_loadmS (ds := [.int .i64 p0_a.Doc, .slice a26 n27 c28]) tf48 rfl (.head _) hS34 rfl rfl) ?_
 have hS35 : SH _ _ _ _ _ [_, _, _, _] := SH.front (p := [_, _]) hS34
 refine wl_store (cs' := [.int .i64 p0_a.Doc, .slice a26 n27 c28]) (v := .agg #[.int .i64 p0_a.Doc, .slice a26 n27 c28]) wn tf48 rfl rfl rfl (by simp [Value.cells, Value.oneCell']) hS35 rfl rfl ?_
 intro w36 hS37
 refine nq ?_
 refine wc_ret ?_
 obtain rfl := oi h22
 have hS38 : SH _ _ _ _ _ [_] := SH.sublist hS37 (.cons _ (.cons _ (.cons_cons _ (.cons _ .slnil))))
 exact qe_ret (vs := [_]) Tryz.results177 ⟨⟨_, _, rfl, run_loadVar_at tf48 (cs := [.int .i64 p0_a.Doc, .slice a26 n27 c28]) (fun j c e => by rw [Nat.zero_add, hS37.mem_obj (.head _)]; exact e) (.inl ⟨rfl, rfl, rfl⟩)⟩, trivial⟩ ⟨a26, n27, c28, K23, rfl, hS38, hr1, hs29⟩

theorem ok_laws_toPostS (F : Nat) {w : World} {K : KMap} {a1 : Option Addr} {n2 c3 : Nat} {p0_a : List GPost} {r : (List GPost)} (hS : SH w K [] w K []) (hs4 : SliceAt tGPost K a1 n2 c3 p0_a) (hm : M.laws_toPostS F p0_a = some r) :
  Calls Tryz.prog 166 #[.slice a1 n2 c3] w fun e w' => ∃ (a_1 : Option Addr) (n_2 c_3 : Nat) (K' : KMap), e = .returned (.slice a_1 n_2 c_3) ∧ SH w K [] w' K' [tail (.slice a_1 n_2 c_3) 48 2] ∧ SliceAt tGPost K' a_1 n_2 c_3 r := by
 rw [M.laws_toPostS] at hm
 refine calls_in Tryz.func166 rfl Tryz.ntmps166 rfl ?_
 refine sr ?_
 refine wl_val wn rfl (rv_assign (v := .slice none 0 0) rfl) ?_
 refine nr ?_
 refine vm rfl rfl ?_
 refine wl_val wn rfl (rv_len (t := tGPost) Tryz.underlying174 rfl hs4) ?_
 obtain ⟨x5, hx6, h7⟩ := ob hm
 refine wl_make (t := tGPost) wn rfl Tryz.underlying33 tf48 rfl rfl rfl hx6 ⟨none, 0, 0, rfl, (by decide : rng64 0), (SliceAt.nil _ _)⟩ hS ?_
 intro g8 cs9 w10 hmx13 hrow11 hS12
 obtain ⟨m14, hm15⟩ : ∃ m, m = x5.length := ⟨_, rfl⟩
 rw [← hm15] at hmx13
 rw [← hm15]
 refine va rfl rfl ?_
 refine nsr ?_
 refine wl_val wn rfl (rv_assign (v := .int .i64 0) rfl) ?_
 refine nq ?_
 obtain ⟨o16, h17, h18⟩ := ob h7
 refine wc_cutg (fun E' w' => ∃ (cs23 : List Value) (K19 : KMap), E' = [(3, .slice (some ⟨g8, 0, none⟩) m14 m14)] ∧ SH w K [] w' K19 [obj g8 cs23 48] ∧ KLe K K19 ∧ RowAt true tGPost K19 cs23 o16 ∧ m14 = o16.length) ?_ ?_
 ·refine wc_block ?_
  obtain ⟨r27, h28, h29⟩ := ob h17
  refine wc_while' (fun (s26 : Int × (List GPost)) E' w' => ∃ (cs35 : List Value) (K30 : KMap), E' = [(0, .slice a1 n2 c3), (3, .slice (some ⟨g8, 0, none⟩) m14 m14), (4, .int .i64 s26.1)] ∧ SH w K [] w' K30 [obj g8 cs35 48] ∧ KLe K K30 ∧ rng64 s26.1 ∧ RowAt true tGPost K30 cs35 s26.2 ∧ m14 = s26.2.length) h28 ⟨cs9, K, rfl, hS12, (KLe.refl _), (by decide : rng64 0), hrow11, hm15⟩ ⟨rfl, rfl, rfl, trivial⟩ ?_
  rintro s26 _ w32 r38 h39 hx40 ⟨cs35, K30, rfl, hS33, hl31, hr34, hrow36, hm37⟩
  refine wc_seq ?_
  refine sr ?_
  refine vm rfl rfl ?_
  refine vm rfl rfl ?_
  refine wl_val wn rfl (rv_len (t := tGPost) Tryz.underlying174 rfl (SliceAt.mono hl31 hs4)) ?_
  refine wl_val wn rfl (rv_lss rfl rfl) ?_
  refine nq ?_
  refine wc_cond rfl (fun hb41 => ?_) (fun hb41 => ?_)
  ·have h42 := cond_t hb41 h39
   refine wc_skip ?_
   refine qs ?_
   refine wc_block ?_
   refine wc_region ?_
   refine vm rfl rfl ?_
   refine vm rfl rfl ?_
   refine vm rfl rfl ?_
   refine vm rfl rfl ?_
   obtain ⟨x43, hx44, h45⟩ := ob h42
   refine wl_indexAddr (t := tGPost) wn rfl Tryz.underlying174 tf216 rfl rfl (SliceAt.mono hl31 hs4) hx44 ?_
   intro b46 o47 u48 hu49 ha50
   obtain ⟨a52, n53, c54, rfl, hr51, hs55⟩ := hu49
   have ha56 : AtK _ b46 o47 [.int .i64 x43.Doc, .slice a52 n53 c54] := ha50
   refine wl_val wn rfl (rv_loadS (cs := [.int .i64 x43.Doc, .slice a52 n53 c54]) tf216 rfl hS33 ha56 rfl) ?_
   obtain ⟨r57, hx58, h59⟩ := ob h45
   refine wl_call wn rfl (rt_call (vs := [.agg #[.int .i64 x43.Doc, .slice a52 n53 c54]]) co177 rfl) ((ok_laws_toPost F) hS33.enter0 hr51 hs55 hx58) ?_
   rintro e68 w61 ⟨a64, n65, c66, K60, rfl, hS62, hr63, hs67⟩
   refine ⟨_, rfl, ?_⟩
   have hS69 : SH _ _ _ _ _ [_, _] := SH.call0 hS33 hS62
   obtain ⟨x70, hx71, h72⟩ := ob h59
   obtain ⟨u73, hu74, hk75⟩ := RowAt.at (RowAt.mono hS62.le hrow36) hx71
   obtain ⟨a78, n79, c80, rfl, hr77, hs81⟩ := hu74
   have hk76 : ∀ (j : Nat) (d : Value), [.int .i64 x70.Doc, .slice a78 n79 c80][j]? = some d → cs35[s26.1.toNat * tGPost.size + j]? = some d := hk75
   refine wl_val wn rfl (rv_indexRow (t := tGPost) Tryz.underlying33 tf48 rfl rfl hm37 hx71) ?_
   have hS82 : SH _ _ _ _ _ [_, _] := SH.front (p := [_]) hS69
   refine wl_storeRow (t := tGPost) (v := .agg #[.int .i64 r57.Doc, .slice a64 n65 c66]) (e := r57) wn tf48 rfl rfl ⟨a64, n65, c66, rfl, hr63, hs67⟩ hS82 (RowAt.mono hS62.le hrow36) hx71 ?_
   intro cs83 w84 hrow85 hS86
   have hm87 := hm37.trans (List.length_set (i := s26.1.toNat) (a := r57)).symm
   refine nb ?_
   refine qe_seq ?_
   refine wc_region ?_
   refine vm rfl rfl ?_
   refine wl_val wn rfl (rv_add rfl rfl) ?_
   refine va rfl rfl ?_
   refine wl_nil ?_
   obtain rfl := oi h72
   have hS88 : SH _ _ _ _ _ [_] := SH.sublist hS86 (.cons_cons _ (.cons _ .slnil))
   exact qe_mid' ⟨_, rfl, cs83, K60, rfl, hS88, (hl31.trans hS62.le), (w64_rng _), hrow85, hm87⟩ ⟨rfl, rfl, rfl, trivial⟩
  ·have h42 := cond_f hb41 h39
   refine wc_exit ?_
   refine qe_then_exit ?_
   refine qe_then_exit ?_
   obtain rfl := oi h42
   have e89 := hx40 _ rfl
   subst e89
   refine qe_block_eq ?_
   obtain rfl := oi h29
   exact qe_mid' ⟨cs35, K30, rfl, hS33, hl31, hrow36, hm37⟩ ⟨rfl, trivial⟩
 ·rintro _ w21 ⟨cs23, K19, rfl, hS22, hl20, hrow24, hm25⟩
  refine qr ?_
  refine vm rfl rfl ?_
  refine va rfl rfl ?_
  refine nq ?_
  refine wc_ret ?_
  obtain ⟨K90, hl91, hs92, hS93⟩ := SH.freeze hS22 hrow24 (row_max hm25 hmx13)
  rw [← hm25] at hs92 hS93
  obtain rfl := oi h18
  exact qe_ret (vs := [_]) Tryz.results166 ⟨rfl, trivial⟩ ⟨(some ⟨g8, 0, none⟩), m14, m14, K90, rfl, hS93, hs92⟩

theorem ok_laws_toEntry (F : Nat) {w : World} {K : KMap} {a3 : Option Addr} {n4 c5 : Nat} {p0_a : GEntry} {r : GEntry} (hS : SH w K [] w K []) (hl1 : p0_a.Field.length ≤ maxLen) (hl2 : p0_a.Term.length ≤ maxLen) (hs6 : SliceAt tGPost K a3 n4 c5 p0_a.Posts) (hm : M.laws_toEntry F p0_a = some r) :
  Calls Tryz.prog 134 #[.agg #[sv p0_a.Field, sv p0_a.Term, .slice a3 n4 c5]] w fun e w' => ∃ (a_3 : Option Addr) (n_4 c_5 : Nat) (K' : KMap), e = .returned (.agg #[sv r.Field, sv r.Term, .slice a_3 n_4 c_5]) ∧ SH w K [] w' K' [tail (.slice a_3 n_4 c_5) 48 2] ∧ r.Field.length ≤ maxLen ∧ r.Term.length ≤ maxLen ∧ SliceAt tGPost K' a_3 n_4 c_5 r.Posts := by
 rw [M.laws_toEntry] at hm
 refine calls_in Tryz.func134 rfl Tryz.ntmps134 rfl ?_
 refine sr ?_
 refine wl_box wn rfl rfl hS ?_
 intro g7 w8 hS9
 have hS10 : SH _ _ _ _ _ [obj g7 [sv p0_a.Field, sv p0_a.Term, .slice a3 n4 c5] 176] := hS9
 refine wl_alloc wn rfl tf94 hS10 ?_
 intro g11 w12 hS13
 have hS14 : SH _ _ _ _ _ [obj g11 [sv [], sv [], .slice none 0 0] 94, _] := hS13
 refine nr ?_
 refine wl_alloc wn rfl tf94 hS14 ?_
 intro g15 w16 hS17
 have hS18 : SH _ _ _ _ _ [obj g15 [sv [], sv [], .slice none 0 0] 94, _, _] := hS17
 refine nr ?_
 refine wl_val wn rfl (rv_fieldAddr ff176_0 rfl) ?_
 refine wl_val wn rfl (rv_loadm1 tf9 rfl (.tail _ (.tail _ (.head _))) hS18 rfl) ?_
 refine wl_val wn rfl (rv_fieldAddr ff94_0 rfl) ?_
 refine wl_store (cs' := [sv p0_a.Field, sv [], .slice none 0 0]) (v := sv p0_a.Field) wn tf9 rfl rfl rfl (by simp [Value.cells, Value.oneCell', sv]) hS18 rfl rfl ?_
 intro w19 hS20
 refine nr ?_
 refine wl_val wn rfl (rv_fieldAddr ff176_1 rfl) ?_
 refine wl_val wn rfl (rv_loadm1 tf9 rfl (.tail _ (.tail _ (.head _))) hS20 rfl) ?_
 refine wl_val wn rfl (rv_fieldAddr ff94_1 rfl) ?_
 refine wl_store (cs' := [sv p0_a.Field, sv p0_a.Term, .slice none 0 0]) (v := sv p0_a.Term) wn tf9 rfl rfl rfl (by simp [Value.cells, Value.oneCell', sv]) hS20 rfl rfl ?_
 intro w21 hS22
 refine nr ?_
 refine wl_val wn rfl (rv_fieldAddr ff176_2 rfl) ?_
 refine wl_val wn rfl (rv_loadm1 tf174 rfl (.tail _ (.tail _ (.head _))) hS22 rfl) ?_
 obtain ⟨r23, hx24, h25⟩ := ob hm
 refine wl_call wn rfl (rt_call (vs := [.slice a3 n4 c5]) co166 rfl) ((ok_laws_toPostS F) hS22.enter0 hs6 hx24) ?_
 rintro e33 w27 ⟨a29, n30, c31, K26, rfl, hS28, hs32⟩
 refine ⟨_, rfl, ?_⟩
 have hS34 : SH _ _ _ _ _ [_, _, _, _] := SH.call0 hS22 hS28
 refine wl_val wn rfl (rv_fieldAddr ff94_2 rfl) ?_
 have hS35 : SH _ _ _ _ _ [_, _, _, _] := SH.front (p := [_]) hS34
 refine wl_store (cs' := [sv p0_a.Field, sv p0_a.Term, .slice a29 n30 c31]) (v := .slice a29 n30 c31) wn tf33 rfl rfl rfl (by simp [Value.cells, Value.oneCell']) hS35 rfl rfl ?_
 intro w36 hS37
 refine nr ?_
 refine wl_val wn rfl (rv_loadmS (ds := [sv p0_a.Field, sv p0_a.Term, .slice a29 n30 c31]) tf94 rfl (.head _) hS37 rfl rfl) ?_
 have hS38 : SH _ _ _ _ _ [_, _, _, _] := SH.front (p := [_, _]) hS37
 refine wl_store (cs' := [sv p0_a.Field, sv p0_a.Term, .slice a29 n30 c31]) (v := .agg #[sv p0_a.Field, sv p0_a.Term, .slice a29 n30 c31]) wn tf94 rfl rfl rfl (by simp [Value.cells, Value.oneCell', sv]) hS38 rfl rfl ?_
 intro w39 hS40
 refine nq ?_
 refine wc_ret ?_
 obtain rfl := oi h25
 have hS41 : SH _ _ _ _ _ [_] := SH.sublist hS40 (.cons _ (.cons _ (.cons_cons _ (.cons _ .slnil))))
 exact qe_ret (vs := [_]) Tryz.results134 ⟨⟨_, _, rfl, run_loadVar_at tf94 (cs := [sv p0_a.Field, sv p0_a.Term, .slice a29 n30 c31]) (fun j c e => by rw [Nat.zero_add, hS40.mem_obj (.head _)]; exact e) (.inl ⟨rfl, rfl, rfl⟩)⟩, trivial⟩ ⟨a29, n30, c31, K26, rfl, hS41, hl1, hl2, hs32⟩

theorem ok_laws_toEntryS (F : Nat) {w : World} {K : KMap} {a1 : Option Addr} {n2 c3 : Nat} {p0_a : List GEntry} {r : (List GEntry)} (hS : SH w K [] w K []) (hs4 : SliceAt tGEntry K a1 n2 c3 p0_a) (hm : M.laws_toEntryS F p0_a = some r) :
  Calls Tryz.prog 86 #[.slice a1 n2 c3] w fun e w' => ∃ (a_1 : Option Addr) (n_2 c_3 : Nat) (K' : KMap), e = .returned (.slice a_1 n_2 c_3) ∧ SH w K [] w' K' [tail (.slice a_1 n_2 c_3) 94 3] ∧ SliceAt tGEntry K' a_1 n_2 c_3 r := by
 rw [M.laws_toEntryS] at hm
 refine calls_in Tryz.func86 rfl Tryz.ntmps86 rfl ?_
 refine sr ?_
 refine wl_val wn rfl (rv_assign (v := .slice none 0 0) rfl) ?_
 refine nr ?_
 refine vm rfl rfl ?_
 refine wl_val wn rfl (rv_len (t := tGEntry) Tryz.underlying67 rfl hs4) ?_
 obtain ⟨x5, hx6, h7⟩ := ob hm
 refine wl_make (t := tGEntry) wn rfl Tryz.underlying28 tf94 rfl rfl rfl hx6 ⟨none, 0, 0, rfl, (by decide : ([] : Str).length ≤ maxLen), (by decide : ([] : Str).length ≤ maxLen), (SliceAt.nil _ _)⟩ hS ?_
 intro g8 cs9 w10 hmx13 hrow11 hS12
 obtain ⟨m14, hm15⟩ : ∃ m, m = x5.length := ⟨_, rfl⟩
 rw [← hm15] at hmx13
 rw [← hm15]
 refine va rfl rfl ?_
 refine nsr ?_
 refine wl_val wn rfl (rv_assign (v := .int .i64 0) rfl) ?_
 refine nq ?_
 obtain ⟨o16, h17, h18⟩ := ob h7
 refine wc_cutg (fun E' w' => ∃ (cs23 : List Value) (K19 : KMap), E' = [(3, .slice (some ⟨g8, 0, none⟩) m14 m14)] ∧ SH w K [] w' K19 [obj g8 cs23 94] ∧ KLe K K19 ∧ RowAt true tGEntry K19 cs23 o16 ∧ m14 = o16.length) ?_ ?_
 ·refine wc_block ?_
  obtain ⟨r27, h28, h29⟩ := ob h17
  refine wc_while' (fun (s26 : Int × (List GEntry)) E' w' => ∃ (cs35 : List Value) (K30 : KMap), E' = [(0, .slice a1 n2 c3), (3, .slice (some ⟨g8, 0, none⟩) m14 m14), (4, .int .i64 s26.1)] ∧ SH w K [] w' K30 [obj g8 cs35 94] ∧ KLe K K30 ∧ rng64 s26.1 ∧ RowAt true tGEntry K30 cs35 s26.2 ∧ m14 = s26.2.length) h28 ⟨cs9, K, rfl, hS12, (KLe.refl _), (by decide : rng64 0), hrow11, hm15⟩ ⟨rfl, rfl, rfl, trivial⟩ ?_
  rintro s26 _ w32 r38 h39 hx40 ⟨cs35, K30, rfl, hS33, hl31, hr34, hrow36, hm37⟩
  refine wc_seq ?_
  refine sr ?_
  refine vm rfl rfl ?_
  refine vm rfl rfl ?_
  refine wl_val wn rfl (rv_len (t := tGEntry) Tryz.underlying67 rfl (SliceAt.mono hl31 hs4)) ?_
  refine wl_val wn rfl (rv_lss rfl rfl) ?_
  refine nq ?_
  refine wc_cond rfl (fun hb41 => ?_) (fun hb41 => ?_)
  ·have h42 := cond_t hb41 h39
   refine wc_skip ?_
   refine qs ?_
   refine wc_block ?_
   refine wc_region ?_
   refine vm rfl rfl ?_
   refine vm rfl rfl ?_
   refine vm rfl rfl ?_
   refine vm rfl rfl ?_
   obtain ⟨x43, hx44, h45⟩ := ob h42
   refine wl_indexAddr (t := tGEntry) wn rfl Tryz.underlying67 tf176 rfl rfl (SliceAt.mono hl31 hs4) hx44 ?_
   intro b46 o47 u48 hu49 ha50
   obtain ⟨a53, n54, c55, rfl, hl51, hl52, hs56⟩ := hu49
   have ha57 : AtK _ b46 o47 [sv x43.Field, sv x43.Term, .slice a53 n54 c55] := ha50
   refine wl_val wn rfl (rv_loadS (cs := [sv x43.Field, sv x43.Term, .slice a53 n54 c55]) tf176 rfl hS33 ha57 rfl) ?_
   obtain ⟨r58, hx59, h60⟩ := ob h45
   refine wl_call wn rfl (rt_call (vs := [.agg #[sv x43.Field, sv x43.Term, .slice a53 n54 c55]]) co134 rfl) ((ok_laws_toEntry F) hS33.enter0 hl51 hl52 hs56 hx59) ?_
   rintro e70 w62 ⟨a66, n67, c68, K61, rfl, hS63, hl64, hl65, hs69⟩
   refine ⟨_, rfl, ?_⟩
   have hS71 : SH _ _ _ _ _ [_, _] := SH.call0 hS33 hS63
   obtain ⟨x72, hx73, h74⟩ := ob h60
   obtain ⟨u75, hu76, hk77⟩ := RowAt.at (RowAt.mono hS63.le hrow36) hx73
   obtain ⟨a81, n82, c83, rfl, hl79, hl80, hs84⟩ := hu76
   have hk78 : ∀ (j : Nat) (d : Value), [sv x72.Field, sv x72.Term, .slice a81 n82 c83][j]? = some d → cs35[s26.1.toNat * tGEntry.size + j]? = some d := hk77
   refine wl_val wn rfl (rv_indexRow (t := tGEntry) Tryz.underlying28 tf94 rfl rfl hm37 hx73) ?_
   have hS85 : SH _ _ _ _ _ [_, _] := SH.front (p := [_]) hS71
   refine wl_storeRow (t := tGEntry) (v := .agg #[sv r58.Field, sv r58.Term, .slice a66 n67 c68]) (e := r58) wn tf94 rfl rfl ⟨a66, n67, c68, rfl, hl64, hl65, hs69⟩ hS85 (RowAt.mono hS63.le hrow36) hx73 ?_
   intro cs86 w87 hrow88 hS89
   have hm90 := hm37.trans (List.length_set (i := s26.1.toNat) (a := r58)).symm
   refine nb ?_
   refine qe_seq ?_
   refine wc_region ?_
   refine vm rfl rfl ?_
   refine wl_val wn rfl (rv_add rfl rfl) ?_
   refine va rfl rfl ?_
   refine wl_nil ?_
   obtain rfl := oi h74
   have hS91 : SH _ _ _ _ _ [_] := SH.sublist hS89 (.cons_cons _ (.cons _ .slnil))
   exact qe_mid' ⟨_, rfl, cs86, K61, rfl, hS91, (hl31.trans hS63.le), (w64_rng _), hrow88, hm90⟩ ⟨rfl, rfl, rfl, trivial⟩
  ·have h42 := cond_f hb41 h39
   refine wc_exit ?_
   refine qe_then_exit ?_
   refine qe_then_exit ?_
   obtain rfl := oi h42
   have e92 := hx40 _ rfl
   subst e92
   refine qe_block_eq ?_
   obtain rfl := oi h29
   exact qe_mid' ⟨cs35, K30, rfl, hS33, hl31, hrow36, hm37⟩ ⟨rfl, trivial⟩
 ·rintro _ w21 ⟨cs23, K19, rfl, hS22, hl20, hrow24, hm25⟩
  refine qr ?_
  refine vm rfl rfl ?_
  refine va rfl rfl ?_
  refine nq ?_
  refine wc_ret ?_
  obtain ⟨K93, hl94, hs95, hS96⟩ := SH.freeze hS22 hrow24 (row_max hm25 hmx13)
  rw [← hm25] at hs95 hS96
  obtain rfl := oi h18
  exact qe_ret (vs := [_]) Tryz.results86 ⟨rfl, trivial⟩ ⟨(some ⟨g8, 0, none⟩), m14, m14, K93, rfl, hS96, hs95⟩

theorem ok_laws_toSeg (F : Nat) {w : World} {K : KMap} {a1 : Option Addr} {n2 c3 : Nat} {a5 : Option Addr} {n6 c7 : Nat} {p0_a : GSeg} {r : GSeg} (hS : SH w K [] w K []) (hs4 : SliceAt tGDoc K a1 n2 c3 p0_a.Docs) (hs8 : SliceAt tGEntry K a5 n6 c7 p0_a.Entries) (hm : M.laws_toSeg F p0_a = some r) :
  Calls Tryz.prog 32 #[.agg #[.slice a1 n2 c3, .slice a5 n6 c7]] w fun e w' => ∃ (a_1 : Option Addr) (n_2 c_3 : Nat) (a_5 : Option Addr) (n_6 c_7 : Nat) (K' : KMap), e = .returned (.agg #[.slice a_1 n_2 c_3, .slice a_5 n_6 c_7]) ∧ SH w K [] w' K' [tail (.slice a_1 n_2 c_3) 44 3, tail (.slice a_5 n_6 c_7) 94 3] ∧ SliceAt tGDoc K' a_1 n_2 c_3 r.Docs ∧ SliceAt tGEntry K' a_5 n_6 c_7 r.Entries := by
 rw [M.laws_toSeg] at hm
 refine calls_in Tryz.func32 rfl Tryz.ntmps32 rfl ?_
 refine sr ?_
 refine wl_box wn rfl rfl hS ?_
 intro g9 w10 hS11
 have hS12 : SH _ _ _ _ _ [obj g9 [.slice a1 n2 c3, .slice a5 n6 c7] 69] := hS11
 refine wl_alloc wn rfl tf30 hS12 ?_
 intro g13 w14 hS15
 have hS16 : SH _ _ _ _ _ [obj g13 [.slice none 0 0, .slice none 0 0] 30, _] := hS15
 refine nr ?_
 refine wl_alloc wn rfl tf30 hS16 ?_
 intro g17 w18 hS19
 have hS20 : SH _ _ _ _ _ [obj g17 [.slice none 0 0, .slice none 0 0] 30, _, _] := hS19
 refine nr ?_
 refine wl_val wn rfl (rv_fieldAddr ff69_0 rfl) ?_
 refine wl_val wn rfl (rv_loadm1 tf54 rfl (.tail _ (.tail _ (.head _))) hS20 rfl) ?_
 obtain ⟨r21, hx22, h23⟩ := ob hm
 refine wl_call wn rfl (rt_call (vs := [.slice a1 n2 c3]) co22 rfl) ((ok_laws_toDocS F) hS20.enter0 hs4 hx22) ?_
 rintro e31 w25 ⟨a27, n28, c29, K24, rfl, hS26, hs30⟩
 refine ⟨_, rfl, ?_⟩
 have hS32 : SH _ _ _ _ _ [_, _, _, _] := SH.call0 hS20 hS26
 refine wl_val wn rfl (rv_fieldAddr ff30_0 rfl) ?_
 have hS33 : SH _ _ _ _ _ [_, _, _, _] := SH.front (p := [_]) hS32
 refine wl_store (cs' := [.slice a27 n28 c29, .slice none 0 0]) (v := .slice a27 n28 c29) wn tf27 rfl rfl rfl (by simp [Value.cells, Value.oneCell']) hS33 rfl rfl ?_
 intro w34 hS35
 refine nr ?_
 refine wl_val wn rfl (rv_fieldAddr ff69_1 rfl) ?_
 refine wl_val wn rfl (rv_loadm1 tf67 rfl (.tail _ (.tail _ (.tail _ (.head _)))) hS35 rfl) ?_
 obtain ⟨r36, hx37, h38⟩ := ob h23
 refine wl_call wn rfl (rt_call (vs := [.slice a5 n6 c7]) co86 rfl) ((ok_laws_toEntryS F) hS35.enter0 (SliceAt.mono hS26.le hs8) hx37) ?_
 rintro e46 w40 ⟨a42, n43, c44, K39, rfl, hS41, hs45⟩
 refine ⟨_, rfl, ?_⟩
 have hS47 : SH _ _ _ _ _ [_, _, _, _, _] := SH.call0 hS35 hS41
 refine wl_val wn rfl (rv_fieldAddr ff30_1 rfl) ?_
 have hS48 : SH _ _ _ _ _ [_, _, _, _, _] := SH.front (p := [_]) hS47
 refine wl_store (cs' := [.slice a27 n28 c29, .slice a42 n43 c44]) (v := .slice a42 n43 c44) wn tf28 rfl rfl rfl (by simp [Value.cells, Value.oneCell']) hS48 rfl rfl ?_
 intro w49 hS50
 refine nr ?_
 refine wl_val wn rfl (rv_loadmS (ds := [.slice a27 n28 c29, .slice a42 n43 c44]) tf30 rfl (.head _) hS50 rfl rfl) ?_
 have hS51 : SH _ _ _ _ _ [_, _, _, _, _] := SH.front (p := [_, _, _]) hS50
 refine wl_store (cs' := [.slice a27 n28 c29, .slice a42 n43 c44]) (v := .agg #[.slice a27 n28 c29, .slice a42 n43 c44]) wn tf30 rfl rfl rfl (by simp [Value.cells, Value.oneCell']) hS51 rfl rfl ?_
 intro w52 hS53
 refine nq ?_
 refine wc_ret ?_
 obtain rfl := oi h38
 have hS54 : SH _ _ _ _ _ [_, _, _, _, _] := SH.front (p := [_, _]) hS53
 have hS55 : SH _ _ _ _ _ [_, _, _, _, _] := SH.front (p := [_, _, _]) hS54
 have hS56 : SH _ _ _ _ _ [_, _] := SH.sublist hS55 (.cons_cons _ (.cons_cons _ (.cons _ (.cons _ (.cons _ .slnil)))))
 exact qe_ret (vs := [_]) Tryz.results32 ⟨⟨_, _, rfl, run_loadVar_at tf30 (cs := [.slice a27 n28 c29, .slice a42 n43 c44]) (fun j c e => by rw [Nat.zero_add, hS53.mem_obj (.head _)]; exact e) (.inl ⟨rfl, rfl, rfl⟩)⟩, trivial⟩ ⟨a27, n28, c29, a42, n43, c44, K39, rfl, hS56, (SliceAt.mono hS41.le hs30), hs45⟩

set_option maxHeartbeats 2000000 in
theorem ok_laws_FnExactSegOk (F : Nat) {w : World} {K : KMap} {a1 : Option Addr} {n2 c3 : Nat} {a5 : Option Addr} {n6 c7 : Nat} {a9 : Option Addr} {n10 c11 : Nat} {a13 : Option Addr} {n14 c15 : Nat} {p0_aC : GConf} {p1_aS : GSeg} {r : Bool} (hS : SH w K [] w K []) (hs4 : SliceAt tStr K a1 n2 c3 p0_aC.Stops) (hs8 : SliceAt tGSyn K a5 n6 c7 p0_aC.Syns) (hs12 : SliceAt tGDoc K a9 n10 c11 p1_aS.Docs) (hs16 : SliceAt tGEntry K a13 n14 c15 p1_aS.Entries) (hm : M.laws_FnExactSegOk F p0_aC p1_aS = some r) :
  Calls Tryz.prog 5 #[.agg #[.slice a1 n2 c3, .slice a5 n6 c7], .agg #[.slice a9 n10 c11, .slice a13 n14 c15]] w fun e w' => ∃ (K' : KMap), e = .returned (.bool r) ∧ SH w K [] w' K' [] := by
 rw [M.laws_FnExactSegOk] at hm
 refine calls_in Tryz.func5 rfl Tryz.ntmps5 rfl ?_
 refine sr ?_
 refine wl_box wn rfl rfl hS ?_
 intro g17 w18 hS19
 have hS20 : SH _ _ _ _ _ [obj g17 [.slice a1 n2 c3, .slice a5 n6 c7] 53] := hS19
 refine wl_box wn rfl rfl hS20 ?_
 intro g21 w22 hS23
 have hS24 : SH _ _ _ _ _ [obj g21 [.slice a9 n10 c11, .slice a13 n14 c15] 69, _] := hS23
 refine wl_val wn rfl (rv_assign (v := .bool false) rfl) ?_
 refine nr ?_
 refine wl_val wn rfl (rv_assign (v := .int .i64 1048576) rfl) ?_
 refine nr ?_
 refine wl_val wn rfl (rv_loadmS (ds := [.slice a1 n2 c3, .slice a5 n6 c7]) tf53 rfl (.tail _ (.head _)) hS24 rfl rfl) ?_
 refine vm rfl rfl ?_
 obtain ⟨r25, hx26, h27⟩ := ob hm
 refine wl_call wn rfl (rt_call (vs := [.agg #[.slice a1 n2 c3, .slice a5 n6 c7], .int .i64 1048576]) co18 rfl) ((ok_laws_szConf F) hS24.enter0 hs4 hs8 (by decide : rng64 1048576) hx26) ?_
 rintro e32 w29 ⟨K28, rfl, hS30, hr31⟩
 refine ⟨_, rfl, ?_⟩
 have hS33 : SH _ _ _ _ _ [_, _] := SH.call0 hS24 hS30
 refine va rfl rfl ?_
 refine nsr ?_
 refine vm rfl rfl ?_
 refine wl_val wn rfl (rv_lss rfl rfl) ?_
 refine nq ?_
 refine wc_cond rfl (fun hb34 => ?_) (fun hb34 => ?_)
 ·have h35 := cond_t hb34 h27
  refine sr ?_
  refine wl_val wn rfl (rv_assign (v := .bool true) rfl) ?_
  refine nq ?_
  refine rr ?_
  obtain rfl := oi h35
  have hS36 : SH _ _ _ _ _ [] := SH.sublist hS33 (.cons _ (.cons _ .slnil))
  exact qe_ret (vs := [_]) Tryz.results5 ⟨rfl, trivial⟩ ⟨K28, rfl, hS36⟩
 ·have h35 := cond_f hb34 h27
  refine wc_skip ?_
  refine qr ?_
  refine wl_val wn rfl (rv_loadmS (ds := [.slice a9 n10 c11, .slice a13 n14 c15]) tf69 rfl (.head _) hS33 rfl rfl) ?_
  refine vm rfl rfl ?_
  obtain ⟨r37, hx38, h39⟩ := ob h35
  refine wl_call wn rfl (rt_call (vs := [.agg #[.slice a9 n10 c11, .slice a13 n14 c15], .int .i64 r25]) co31 rfl) ((ok_laws_szSeg F) hS33.enter0 (SliceAt.mono hS30.le hs12) (SliceAt.mono hS30.le hs16) hr31 hx38) ?_
  rintro e44 w41 ⟨K40, rfl, hS42, hr43⟩
  refine ⟨_, rfl, ?_⟩
  have hS45 : SH _ _ _ _ _ [_, _] := SH.call0 hS33 hS42
  refine va rfl rfl ?_
  refine nsr ?_
  refine vm rfl rfl ?_
  refine wl_val wn rfl (rv_lss rfl rfl) ?_
  refine nq ?_
  refine wc_cond rfl (fun hb46 => ?_) (fun hb46 => ?_)
  ·have h47 := cond_t hb46 h39
   refine sr ?_
   refine wl_val wn rfl (rv_assign (v := .bool true) rfl) ?_
   refine nq ?_
   refine rr ?_
   obtain rfl := oi h47
   have hS48 : SH _ _ _ _ _ [] := SH.sublist hS45 (.cons _ (.cons _ .slnil))
   exact qe_ret (vs := [_]) Tryz.results5 ⟨rfl, trivial⟩ ⟨K40, rfl, hS48⟩
  ·have h47 := cond_f hb46 h39
   refine wc_skip ?_
   refine qs ?_
   refine wc_held (fun w' => Holds K40 w' ∧ HasObj g17 [.slice a1 n2 c3, .slice a5 n6 c7] w' ∧ HasObj g21 [.slice a9 n10 c11, .slice a13 n14 c15] w') (fun w' => True) 6 [] mixed ?_
   have hS50 := SH.drew hS45
   refine wg_val (i := 0) (listed' := #[true, false, false, false, false, false]) (HasObj g17 [.slice a1 n2 c3, .slice a5 n6 c7]) rfl (by kernel_rfl) (pk_then pk_body) (by kernel_rfl) rfl (by kernel_rfl) (by kernel_rfl) rfl (.inl fun _ h => h.2.1) ⟨⟨hS50.hasK (KLe.refl _), hS50.hasObj (.tail _ (.head _)), hS50.hasObj (.head _)⟩, (fun _ => trivial), by decide⟩ wn rfl (fun _ h => rh_loadmS (ds := [.slice a1 n2 c3, .slice a5 n6 c7]) tf53 rfl rfl rfl h) ?_
   refine wg_val (i := 2) (listed' := #[true, false, true, false, false, false]) (HasObj g21 [.slice a9 n10 c11, .slice a13 n14 c15]) rfl (by kernel_rfl) (pk_then pk_body) (by kernel_rfl) rfl (by kernel_rfl) (by kernel_rfl) rfl (.inl fun _ h => h.2.2) ⟨⟨hS50.hasK (KLe.refl _), hS50.hasObj (.tail _ (.head _)), hS50.hasObj (.head _)⟩, (fun _ => trivial), by decide⟩ wn rfl (fun _ h => rh_loadmS (ds := [.slice a9 n10 c11, .slice a13 n14 c15]) tf69 rfl rfl rfl h) ?_
   refine wg_one (i := 1) (by kernel_rfl) rfl ?_
   obtain ⟨r51, hx52, h53⟩ := ob h47
   refine wl_call wn rfl (rt_call (vs := [.agg #[.slice a1 n2 c3, .slice a5 n6 c7]]) co21 rfl) ((ok_laws_toConf F) hS50.enter0 (SliceAt.mono (hS30.le.trans hS42.le) hs4) (SliceAt.mono (hS30.le.trans hS42.le) hs8) hx52) ?_
   rintro e65 w55 ⟨a57, n58, c59, a61, n62, c63, K54, rfl, hS56, hs60, hs64⟩
   refine ⟨_, rfl, ?_⟩
   have hS66 : SH _ _ _ _ _ [_, _, _, _] := SH.call0 hS50 hS56
   refine wl_nil (qe_held (listed' := #[true, true, true, false, false, false]) rfl ⟨⟨hS66.hasK hS56.le, hS66.hasObj (.tail _ (.tail _ (.tail _ (.head _)))), hS66.hasObj (.tail _ (.tail _ (.head _)))⟩, (fun _ => trivial), by decide⟩ ?_)
   refine wg_one (i := 3) (by kernel_rfl) rfl ?_
   obtain ⟨r67, hx68, h69⟩ := ob h53
   refine wl_call wn rfl (rt_call (vs := [.agg #[.slice a9 n10 c11, .slice a13 n14 c15]]) co32 rfl) ((ok_laws_toSeg F) hS66.enter0 (SliceAt.mono ((hS30.le.trans hS42.le).trans hS56.le) hs12) (SliceAt.mono ((hS30.le.trans hS42.le).trans hS56.le) hs16) hx68) ?_
   rintro e81 w71 ⟨a73, n74, c75, a77, n78, c79, K70, rfl, hS72, hs76, hs80⟩
   refine ⟨_, rfl, ?_⟩
   have hS82 : SH _ _ _ _ _ [_, _, _, _, _, _] := SH.call0 hS66 hS72
   refine wl_nil (qe_held (listed' := #[true, true, true, true, false, false]) rfl ⟨⟨hS82.hasK (hS56.le.trans hS72.le), hS82.hasObj (.tail _ (.tail _ (.tail _ (.tail _ (.tail _ (.head _)))))), hS82.hasObj (.tail _ (.tail _ (.tail _ (.tail _ (.head _)))))⟩, (fun _ => trivial), by decide⟩ ?_)
   refine wg_one (i := 4) (by kernel_rfl) rfl ?_
   obtain ⟨r83, hx84, h85⟩ := ob h69
   refine wl_call wn rfl (rt_call (vs := [.agg #[.slice a57 n58 c59, .slice a61 n62 c63], .agg #[.slice a73 n74 c75, .slice a77 n78 c79]]) co14 rfl) ((ok_spec_SegOk F) hS82.enter0 (SliceAt.mono hS72.le hs60) (SliceAt.mono hS72.le hs64) hs76 hs80 hx84) ?_
   rintro e89 w87 ⟨K86, rfl, hS88⟩
   refine ⟨_, rfl, ?_⟩
   have hS90 : SH _ _ _ _ _ [_, _, _, _, _, _] := SH.call0 hS82 hS88
   refine wl_nil (qe_held (listed' := #[true, true, true, true, true, false]) rfl ⟨⟨hS90.hasK ((hS56.le.trans hS72.le).trans hS88.le), hS90.hasObj (.tail _ (.tail _ (.tail _ (.tail _ (.tail _ (.head _)))))), hS90.hasObj (.tail _ (.tail _ (.tail _ (.tail _ (.head _)))))⟩, (fun _ => trivial), by decide⟩ ?_)
   refine wg_val (i := 5) (listed' := #[true, true, true, true, true, true]) (fun _ => True) rfl (by kernel_rfl) (pk_then pk_body) (by kernel_rfl) rfl (by kernel_rfl) (by kernel_rfl) rfl (.inl fun _ _ => trivial) ⟨⟨hS90.hasK ((hS56.le.trans hS72.le).trans hS88.le), hS90.hasObj (.tail _ (.tail _ (.tail _ (.tail _ (.tail _ (.head _)))))), hS90.hasObj (.tail _ (.tail _ (.tail _ (.tail _ (.head _)))))⟩, (fun _ => trivial), by decide⟩ wn rfl (fun _ _ => (rv_assign rfl)) ?_
   refine wg_done (by kernel_rfl) ?_
   refine qr ?_
   refine wl_val wn rfl (rv_loadmS (ds := [.slice a1 n2 c3, .slice a5 n6 c7]) tf53 rfl (.tail _ (.tail _ (.tail _ (.tail _ (.tail _ (.head _)))))) hS90 rfl rfl) ?_
   obtain ⟨r91, hx92, h93⟩ := ob h85
   refine wl_call wn rfl (rt_call (vs := [.agg #[.slice a1 n2 c3, .slice a5 n6 c7]]) co21 rfl) ((ok_laws_toConf F) hS90.enter0 (SliceAt.mono ((((hS30.le.trans hS42.le).trans hS56.le).trans hS72.le).trans hS88.le) hs4) (SliceAt.mono ((((hS30.le.trans hS42.le).trans hS56.le).trans hS72.le).trans hS88.le) hs8) hx92) ?_
   rintro e105 w95 ⟨a97, n98, c99, a101, n102, c103, K94, rfl, hS96, hs100, hs104⟩
   refine ⟨_, rfl, ?_⟩
   have hS106 : SH _ _ _ _ _ [_, _, _, _, _, _, _, _] := SH.call0 hS90 hS96
   refine wl_alloc wn rfl tf26 hS106 ?_
   intro g107 w108 hS109
   have hS110 : SH _ _ _ _ _ [obj g107 [.slice none 0 0, .slice none 0 0] 26, _, _, _, _, _, _, _, _] := hS109
   refine wl_store (cs' := [.slice a97 n98 c99, .slice a101 n102 c103]) (v := .agg #[.slice a97 n98 c99, .slice a101 n102 c103]) wn tf26 rfl rfl rfl (by simp [Value.cells, Value.oneCell']) hS110 rfl rfl ?_
   intro w111 hS112
   refine nr ?_
   refine wl_val wn rfl (rv_loadmS (ds := [.slice a9 n10 c11, .slice a13 n14 c15]) tf69 rfl (.tail _ (.tail _ (.tail _ (.tail _ (.tail _ (.tail _ (.tail _ (.head _)))))))) hS112 rfl rfl) ?_
   obtain ⟨r113, hx114, h115⟩ := ob h93
   refine wl_call wn rfl (rt_call (vs := [.agg #[.slice a9 n10 c11, .slice a13 n14 c15]]) co32 rfl) ((ok_laws_toSeg F) hS112.enter0 (SliceAt.mono (((((hS30.le.trans hS42.le).trans hS56.le).trans hS72.le).trans hS88.le).trans hS96.le) hs12) (SliceAt.mono (((((hS30.le.trans hS42.le).trans hS56.le).trans hS72.le).trans hS88.le).trans hS96.le) hs16) hx114) ?_
   rintro e127 w117 ⟨a119, n120, c121, a123, n124, c125, K116, rfl, hS118, hs122, hs126⟩
   refine ⟨_, rfl, ?_⟩
   have hS128 : SH _ _ _ _ _ [_, _, _, _, _, _, _, _, _, _, _] := SH.call0 hS112 hS118
   refine wl_alloc wn rfl tf30 hS128 ?_
   intro g129 w130 hS131
   have hS132 : SH _ _ _ _ _ [obj g129 [.slice none 0 0, .slice none 0 0] 30, _, _, _, _, _, _, _, _, _, _, _] := hS131
   refine wl_store (cs' := [.slice a119 n120 c121, .slice a123 n124 c125]) (v := .agg #[.slice a119 n120 c121, .slice a123 n124 c125]) wn tf30 rfl rfl rfl (by simp [Value.cells, Value.oneCell']) hS132 rfl rfl ?_
   intro w133 hS134
   refine nr ?_
   refine wl_val wn rfl (rv_loadmS (ds := [.slice a97 n98 c99, .slice a101 n102 c103]) tf26 rfl (.tail _ (.tail _ (.tail _ (.head _)))) hS134 rfl rfl) ?_
   refine wl_val wn rfl (rv_loadmS (ds := [.slice a119 n120 c121, .slice a123 n124 c125]) tf30 rfl (.head _) hS134 rfl rfl) ?_
   obtain ⟨r135, hx136, h137⟩ := ob h115
   refine wl_call wn rfl (rt_call (vs := [.agg #[.slice a97 n98 c99, .slice a101 n102 c103], .agg #[.slice a119 n120 c121, .slice a123 n124 c125]]) co13 rfl) ((ok_impl_SegOk F) hS134.enter0 (SliceAt.mono hS118.le hs100) (SliceAt.mono hS118.le hs104) hs122 hs126 hx136) ?_
   rintro e141 w139 ⟨K138, rfl, hS140⟩
   refine ⟨_, rfl, ?_⟩
   have hS142 : SH _ _ _ _ _ [_, _, _, _, _, _, _, _, _, _, _, _] := SH.call0 hS134 hS140
   refine va rfl rfl ?_
   refine nsr ?_
   refine vm rfl rfl ?_
   refine vm rfl rfl ?_
   refine wl_val wn rfl (rv_boolne Tryz.underlying4 rfl rfl) ?_
   refine nq ?_
   refine wc_cond rfl (fun hb143 => ?_) (fun hb143 => ?_)
   ·have h144 := cond_t hb143 h137
    refine sr ?_
    refine wl_val wn rfl (rv_assign (v := .bool false) rfl) ?_
    refine nq ?_
    refine rr ?_
    obtain rfl := oi h144
    have hS145 : SH _ _ _ _ _ [] := SH.sublist hS142 (.cons _ (.cons _ (.cons _ (.cons _ (.cons _ (.cons _ (.cons _ (.cons _ (.cons _ (.cons _ (.cons _ (.cons _ .slnil))))))))))))
    exact qe_ret (vs := [_]) Tryz.results5 ⟨rfl, trivial⟩ ⟨K138, rfl, hS145⟩
   ·have h144 := cond_f hb143 h137
    refine wc_skip ?_
    refine qs ?_
    refine wc_seq ?_
    refine wc_held (fun w' => Holds K138 w' ∧ HasObj g107 [.slice a97 n98 c99, .slice a101 n102 c103] w' ∧ HasObj g17 [.slice a1 n2 c3, .slice a5 n6 c7] w') (fun w' => True) 5 [] mixed ?_
    have hS147 := SH.drew hS142
    refine wg_val (i := 0) (listed' := #[true, false, false, false, false]) (HasObj g107 [.slice a97 n98 c99, .slice a101 n102 c103]) rfl (by kernel_rfl) (pk_then (pk_then pk_body)) (by kernel_rfl) rfl (by kernel_rfl) (by kernel_rfl) rfl (.inl fun _ h => h.2.1) ⟨⟨hS147.hasK (KLe.refl _), hS147.hasObj (.tail _ (.tail _ (.tail _ (.head _)))), hS147.hasObj (.tail _ (.tail _ (.tail _ (.tail _ (.tail _ (.tail _ (.tail _ (.tail _ (.tail _ (.tail _ (.tail _ (.head _))))))))))))⟩, (fun _ => trivial), by decide⟩ wn rfl (fun _ h => rh_loadmS (ds := [.slice a97 n98 c99, .slice a101 n102 c103]) tf26 rfl rfl rfl h) ?_
    refine wg_val (i := 1) (listed' := #[true, true, false, false, false]) (HasObj g17 [.slice a1 n2 c3, .slice a5 n6 c7]) rfl (by kernel_rfl) (pk_then (pk_then pk_body)) (by kernel_rfl) rfl (by kernel_rfl) (by kernel_rfl) rfl (.inl fun _ h => h.2.2) ⟨⟨hS147.hasK (KLe.refl _), hS147.hasObj (.tail _ (.tail _ (.tail _ (.head _)))), hS147.hasObj (.tail _ (.tail _ (.tail _ (.tail _ (.tail _ (.tail _ (.tail _ (.tail _ (.tail _ (.tail _ (.tail _ (.head _))))))))))))⟩, (fun _ => trivial), by decide⟩ wn rfl (fun _ h => rh_loadmS (ds := [.slice a1 n2 c3, .slice a5 n6 c7]) tf53 rfl rfl rfl h) ?_
    refine wg_one (i := 2) (by kernel_rfl) rfl ?_
    obtain ⟨r148, hx149, h150⟩ := ob h144
    refine wl_call wn rfl (rt_call (vs := [.agg #[.slice a1 n2 c3, .slice a5 n6 c7]]) co21 rfl) ((ok_laws_toConf F) hS147.enter0 (SliceAt.mono (((((((hS30.le.trans hS42.le).trans hS56.le).trans hS72.le).trans hS88.le).trans hS96.le).trans hS118.le).trans hS140.le) hs4) (SliceAt.mono (((((((hS30.le.trans hS42.le).trans hS56.le).trans hS72.le).trans hS88.le).trans hS96.le).trans hS118.le).trans hS140.le) hs8) hx149) ?_
    rintro e162 w152 ⟨a154, n155, c156, a158, n159, c160, K151, rfl, hS153, hs157, hs161⟩
    refine ⟨_, rfl, ?_⟩
    have hS163 : SH _ _ _ _ _ [_, _, _, _, _, _, _, _, _, _, _, _, _, _] := SH.call0 hS147 hS153
    refine wl_nil (qe_held (listed' := #[true, true, true, false, false]) rfl ⟨⟨hS163.hasK hS153.le, hS163.hasObj (.tail _ (.tail _ (.tail _ (.tail _ (.tail _ (.head _)))))), hS163.hasObj (.tail _ (.tail _ (.tail _ (.tail _ (.tail _ (.tail _ (.tail _ (.tail _ (.tail _ (.tail _ (.tail _ (.tail _ (.tail _ (.head _))))))))))))))⟩, (fun _ => trivial), by decide⟩ ?_)
    refine wg_one (i := 3) (by kernel_rfl) rfl ?_
    obtain ⟨r164, hx165, h166⟩ := ob h150
    refine wl_call wn rfl (rt_call (vs := [.agg #[.slice a97 n98 c99, .slice a101 n102 c103], .agg #[.slice a154 n155 c156, .slice a158 n159 c160]]) co25 rfl) ((ok_laws_eqConf F) hS163.enter0 (SliceAt.mono ((hS118.le.trans hS140.le).trans hS153.le) hs100) (SliceAt.mono ((hS118.le.trans hS140.le).trans hS153.le) hs104) hs157 hs161 hx165) ?_
    rintro e170 w168 ⟨K167, rfl, hS169⟩
    refine ⟨_, rfl, ?_⟩
    have hS171 : SH _ _ _ _ _ [_, _, _, _, _, _, _, _, _, _, _, _, _, _] := SH.call0 hS163 hS169
    refine wl_nil (qe_held (listed' := #[true, true, true, true, false]) rfl ⟨⟨hS171.hasK (hS153.le.trans hS169.le), hS171.hasObj (.tail _ (.tail _ (.tail _ (.tail _ (.tail _ (.head _)))))), hS171.hasObj (.tail _ (.tail _ (.tail _ (.tail _ (.tail _ (.tail _ (.tail _ (.tail _ (.tail _ (.tail _ (.tail _ (.tail _ (.tail _ (.head _))))))))))))))⟩, (fun _ => trivial), by decide⟩ ?_)
    refine wg_val (i := 4) (listed' := #[true, true, true, true, true]) (fun _ => True) rfl (by kernel_rfl) (pk_then (pk_then pk_body)) (by kernel_rfl) rfl (by kernel_rfl) (by kernel_rfl) rfl (.inl fun _ _ => trivial) ⟨⟨hS171.hasK (hS153.le.trans hS169.le), hS171.hasObj (.tail _ (.tail _ (.tail _ (.tail _ (.tail _ (.head _)))))), hS171.hasObj (.tail _ (.tail _ (.tail _ (.tail _ (.tail _ (.tail _ (.tail _ (.tail _ (.tail _ (.tail _ (.tail _ (.tail _ (.tail _ (.head _))))))))))))))⟩, (fun _ => trivial), by decide⟩ wn rfl (fun _ _ => (rv_not rfl)) ?_
    refine wg_done (by kernel_rfl) ?_
    refine qe_seq ?_
    refine wc_cond rfl (fun hb172 => ?_) (fun hb172 => ?_)
    ·have h173 := cond_t hb172 h166
     refine sr ?_
     refine wl_val wn rfl (rv_assign (v := .bool false) rfl) ?_
     refine nq ?_
     refine rr ?_
     obtain rfl := oi h173
     have hS174 : SH _ _ _ _ _ [] := SH.sublist hS171 (.cons _ (.cons _ (.cons _ (.cons _ (.cons _ (.cons _ (.cons _ (.cons _ (.cons _ (.cons _ (.cons _ (.cons _ (.cons _ (.cons _ .slnil))))))))))))))
     exact qe_ret (vs := [_]) Tryz.results5 ⟨rfl, trivial⟩ ⟨K167, rfl, hS174⟩
    ·have h173 := cond_f hb172 h166
     refine wc_skip ?_
     refine qs ?_
     refine wc_seq ?_
     refine wc_held (fun w' => Holds K167 w' ∧ HasObj g129 [.slice a119 n120 c121, .slice a123 n124 c125] w' ∧ HasObj g21 [.slice a9 n10 c11, .slice a13 n14 c15] w') (fun w' => True) 5 [] mixed ?_
     have hS176 := SH.drew hS171
     refine wg_val (i := 0) (listed' := #[true, false, false, false, false]) (HasObj g129 [.slice a119 n120 c121, .slice a123 n124 c125]) rfl (by kernel_rfl) (pk_then (pk_then pk_body)) (by kernel_rfl) rfl (by kernel_rfl) (by kernel_rfl) rfl (.inl fun _ h => h.2.1) ⟨⟨hS176.hasK (KLe.refl _), hS176.hasObj (.tail _ (.tail _ (.head _))), hS176.hasObj (.tail _ (.tail _ (.tail _ (.tail _ (.tail _ (.tail _ (.tail _ (.tail _ (.tail _ (.tail _ (.tail _ (.tail _ (.head _)))))))))))))⟩, (fun _ => trivial), by decide⟩ wn rfl (fun _ h => rh_loadmS (ds := [.slice a119 n120 c121, .slice a123 n124 c125]) tf30 rfl rfl rfl h) ?_
     refine wg_val (i := 1) (listed' := #[true, true, false, false, false]) (HasObj g21 [.slice a9 n10 c11, .slice a13 n14 c15]) rfl (by kernel_rfl) (pk_then (pk_then pk_body)) (by kernel_rfl) rfl (by kernel_rfl) (by kernel_rfl) rfl (.inl fun _ h => h.2.2) ⟨⟨hS176.hasK (KLe.refl _), hS176.hasObj (.tail _ (.tail _ (.head _))), hS176.hasObj (.tail _ (.tail _ (.tail _ (.tail _ (.tail _ (.tail _ (.tail _ (.tail _ (.tail _ (.tail _ (.tail _ (.tail _ (.head _)))))))))))))⟩, (fun _ => trivial), by decide⟩ wn rfl (fun _ h => rh_loadmS (ds := [.slice a9 n10 c11, .slice a13 n14 c15]) tf69 rfl rfl rfl h) ?_
     refine wg_one (i := 2) (by kernel_rfl) rfl ?_
     obtain ⟨r177, hx178, h179⟩ := ob h173
     refine wl_call wn rfl (rt_call (vs := [.agg #[.slice a9 n10 c11, .slice a13 n14 c15]]) co32 rfl) ((ok_laws_toSeg F) hS176.enter0 (SliceAt.mono (((((((((hS30.le.trans hS42.le).trans hS56.le).trans hS72.le).trans hS88.le).trans hS96.le).trans hS118.le).trans hS140.le).trans hS153.le).trans hS169.le) hs12) (SliceAt.mono (((((((((hS30.le.trans hS42.le).trans hS56.le).trans hS72.le).trans hS88.le).trans hS96.le).trans hS118.le).trans hS140.le).trans hS153.le).trans hS169.le) hs16) hx178) ?_
     rintro e191 w181 ⟨a183, n184, c185, a187, n188, c189, K180, rfl, hS182, hs186, hs190⟩
     refine ⟨_, rfl, ?_⟩
     have hS192 : SH _ _ _ _ _ [_, _, _, _, _, _, _, _, _, _, _, _, _, _, _, _] := SH.call0 hS176 hS182
     refine wl_nil (qe_held (listed' := #[true, true, true, false, false]) rfl ⟨⟨hS192.hasK hS182.le, hS192.hasObj (.tail _ (.tail _ (.tail _ (.tail _ (.head _))))), hS192.hasObj (.tail _ (.tail _ (.tail _ (.tail _ (.tail _ (.tail _ (.tail _ (.tail _ (.tail _ (.tail _ (.tail _ (.tail _ (.tail _ (.tail _ (.head _)))))))))))))))⟩, (fun _ => trivial), by decide⟩ ?_)
     refine wg_one (i := 3) (by kernel_rfl) rfl ?_
     obtain ⟨r193, hx194, h195⟩ := ob h179
     refine wl_call wn rfl (rt_call (vs := [.agg #[.slice a119 n120 c121, .slice a123 n124 c125], .agg #[.slice a183 n184 c185, .slice a187 n188 c189]]) co24 rfl) ((ok_laws_eqSeg F) hS192.enter0 (SliceAt.mono (((hS140.le.trans hS153.le).trans hS169.le).trans hS182.le) hs122) (SliceAt.mono (((hS140.le.trans hS153.le).trans hS169.le).trans hS182.le) hs126) hs186 hs190 hx194) ?_
     rintro e199 w197 ⟨K196, rfl, hS198⟩
     refine ⟨_, rfl, ?_⟩
     have hS200 : SH _ _ _ _ _ [_, _, _, _, _, _, _, _, _, _, _, _, _, _, _, _] := SH.call0 hS192 hS198
     refine wl_nil (qe_held (listed' := #[true, true, true, true, false]) rfl ⟨⟨hS200.hasK (hS182.le.trans hS198.le), hS200.hasObj (.tail _ (.tail _ (.tail _ (.tail _ (.head _))))), hS200.hasObj (.tail _ (.tail _ (.tail _ (.tail _ (.tail _ (.tail _ (.tail _ (.tail _ (.tail _ (.tail _ (.tail _ (.tail _ (.tail _ (.tail _ (.head _)))))))))))))))⟩, (fun _ => trivial), by decide⟩ ?_)
     refine wg_val (i := 4) (listed' := #[true, true, true, true, true]) (fun _ => True) rfl (by kernel_rfl) (pk_then (pk_then pk_body)) (by kernel_rfl) rfl (by kernel_rfl) (by kernel_rfl) rfl (.inl fun _ _ => trivial) ⟨⟨hS200.hasK (hS182.le.trans hS198.le), hS200.hasObj (.tail _ (.tail _ (.tail _ (.tail _ (.head _))))), hS200.hasObj (.tail _ (.tail _ (.tail _ (.tail _ (.tail _ (.tail _ (.tail _ (.tail _ (.tail _ (.tail _ (.tail _ (.tail _ (.tail _ (.tail _ (.head _)))))))))))))))⟩, (fun _ => trivial), by decide⟩ wn rfl (fun _ _ => (rv_not rfl)) ?_
     refine wg_done (by kernel_rfl) ?_
     refine qe_seq ?_
     refine wc_cond rfl (fun hb201 => ?_) (fun hb201 => ?_)
     ·have h202 := cond_t hb201 h195
      refine sr ?_
      refine wl_val wn rfl (rv_assign (v := .bool false) rfl) ?_
      refine nq ?_
      refine rr ?_
      obtain rfl := oi h202
      have hS203 : SH _ _ _ _ _ [] := SH.sublist hS200 (.cons _ (.cons _ (.cons _ (.cons _ (.cons _ (.cons _ (.cons _ (.cons _ (.cons _ (.cons _ (.cons _ (.cons _ (.cons _ (.cons _ (.cons _ (.cons _ .slnil))))))))))))))))
      exact qe_ret (vs := [_]) Tryz.results5 ⟨rfl, trivial⟩ ⟨K196, rfl, hS203⟩
     ·have h202 := cond_f hb201 h195
      refine wc_skip ?_
      refine qr ?_
      refine wl_val wn rfl (rv_assign (v := .bool true) rfl) ?_
      refine nq ?_
      refine wc_ret ?_
      obtain rfl := oi h202
      have hS204 : SH _ _ _ _ _ [] := SH.sublist hS200 (.cons _ (.cons _ (.cons _ (.cons _ (.cons _ (.cons _ (.cons _ (.cons _ (.cons _ (.cons _ (.cons _ (.cons _ (.cons _ (.cons _ (.cons _ (.cons _ .slnil))))))))))))))))
      exact qe_ret (vs := [_]) Tryz.results5 ⟨rfl, trivial⟩ ⟨K196, rfl, hS204⟩
end Go.Proofs.YtdcmmhjhffcnhaaGreat
