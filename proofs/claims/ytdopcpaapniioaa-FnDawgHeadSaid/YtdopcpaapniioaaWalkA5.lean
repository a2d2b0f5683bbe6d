/-
  Walks of the functions. Printed by gen.py.
-/
import Derived.Test.YtdopcpaapniioaaWalkA4
set_option linter.unusedVariables false
set_option maxRecDepth 100000
namespace Go.Proofs.Ytdopcpaapniioaa
open Go Go.Fk Go.RowKit

theorem ok_strings_HasPrefix (F : Nat) {w : World} {K : KMap} {p0_s : Str} {p1_prefix : Str} {r : Bool} (hS : SH w K [] w K []) (hl1 : p0_s.length ≤ maxLen) (hl2 : p1_prefix.length ≤ maxLen) (hm : M.strings_HasPrefix F p0_s p1_prefix = some r) :
    Calls Try.prog 65 #[sv p0_s, sv p1_prefix] w fun e w' => ∃ (K' : KMap), e = .returned (.bool r) ∧ SH w K [] w' K' [] := by
  rw [M.strings_HasPrefix] at hm
  refine calls_in Try.func65 rfl Try.ntmps65 rfl ?_
  refine wc_seq ?_
  refine wc_region ?_
  refine wl_val wn rfl (rv_assign (v := .bool false) rfl) ?_
  refine wl_nil ?_
  refine qe_seq ?_
  refine wc_seq ?_
  refine wc_region ?_
  refine wl_val wn rfl (rv_move rfl) ?_
  refine wl_val wn rfl (rv_move rfl) ?_
  obtain ⟨r3, hx4, h5⟩ := Option.bind_eq_some_iff.1 hm
  refine wl_call wn rfl (rt_call (vs := [sv p0_s, sv p1_prefix]) co83 rfl) ((ok_stringslite_HasPrefix F) hS.enter0 hl1 hl2 hx4) ?_
  rintro e9 w7 ⟨K6, rfl, hS8⟩
  refine ⟨_, rfl, ?_⟩
  have hS10 : SH _ _ _ _ _ [] := SH.call0 hS hS8
  refine wl_val wn rfl (rv_assign rfl) ?_
  refine wl_nil ?_
  refine qe_seq ?_
  refine wc_ret ?_
  obtain rfl := Option.some.inj h5
  exact qe_ret (vs := [_]) Try.results65 ⟨rfl, trivial⟩ ⟨K6, rfl, hS10⟩

theorem ok_impl_DawgHead (F : Nat) {w : World} {K : KMap} {a1 : Option Addr} {n2 c3 : Nat} {p0_d : List GState} {p1_s : Str} {r : (List Str)} (hS : SH w K [] w K []) (hs4 : SliceAt tGState K a1 n2 c3 p0_d) (hl5 : p1_s.length ≤ maxLen) (hm : M.impl_DawgHead F p0_d p1_s = some r) :
    Calls Try.prog 36 #[.slice a1 n2 c3, sv p1_s] w fun e w' => ∃ (a_1 : Option Addr) (n_2 c_3 : Nat) (K' : KMap), e = .returned (.slice a_1 n_2 c_3) ∧ SH w K [] w' K' [tail (.slice a_1 n_2 c_3) 9 1] ∧ SliceAt tStr K' a_1 n_2 c_3 r := by
  rw [M.impl_DawgHead] at hm
  refine calls_in Try.func36 rfl Try.ntmps36 rfl ?_
  refine wc_seq ?_
  refine wc_region ?_
  refine wl_val wn rfl (rv_assign (v := .slice none 0 0) rfl) ?_
  refine wl_nil ?_
  refine qe_seq ?_
  refine wc_seq ?_
  refine wc_region ?_
  refine wl_val wn rfl (rv_move rfl) ?_
  obtain ⟨r6, hx7, h8⟩ := Option.bind_eq_some_iff.1 hm
  refine wl_call wn rfl (rt_call (vs := [.slice a1 n2 c3]) co63 rfl) ((ok_impl_wordsIn F) hS.enter0 hs4 hx7) ?_
  rintro e16 w10 ⟨a12, n13, c14, K9, rfl, hS11, hs15⟩
  refine ⟨_, rfl, ?_⟩
  have hS17 : SH _ _ _ _ _ [_] := SH.call0 hS hS11
  refine wl_val wn rfl (rv_move rfl) ?_
  refine wl_val wn rfl (rv_extract rfl rfl) ?_
  refine wl_val wn rfl (rv_extract rfl rfl) ?_
  refine wl_val wn rfl (rv_assign rfl) ?_
  refine wl_val wn rfl (rv_assign rfl) ?_
  refine wl_nil ?_
  refine qe_seq ?_
  refine wc_seq ?_
  refine wc_region ?_
  refine wl_buildSlice0 tStr wn rfl Try.underlying26 tf9 hS17 ?_
  intro a18 w19 K20 hl21 hs22 hS23
  refine wl_val wn rfl (rv_assign rfl) ?_
  refine wl_nil ?_
  refine qe_seq ?_
  refine wc_seq ?_
  refine wc_seq ?_
  refine wc_region ?_
  refine wl_val wn rfl (rv_move rfl) ?_
  refine wl_val wn rfl (rv_len (t := tStr) Try.underlying26 rfl (SliceAt.mono hl21 hs15)) ?_
  refine wl_val wn rfl (rv_move (v := .int .i64 0) rfl) ?_
  refine wl_nil ?_
  refine qe_seq ?_
  obtain ⟨o24, h25, h26⟩ := Option.bind_eq_some_iff.1 h8
  refine wc_cutg (fun E' w' => ∃ (a31 : Option Addr) (n32 c33 : Nat) (K27 : KMap), E' = [(7, .slice a31 n32 c33)] ∧ SH w K [] w' K27 [tail (.slice a31 n32 c33) 9 1] ∧ KLe K20 K27 ∧ SliceAt tStr K27 a31 n32 c33 o24) ?_ ?_
  · refine wc_block ?_
    obtain ⟨r36, h37, h38⟩ := Option.bind_eq_some_iff.1 h25
    have hS48 : SH _ _ _ _ _ [_] := SH.sublist hS23 (.cons_cons _ (.cons _ .slnil))
    refine wc_forE' (fun (i39 : Nat) (s35 : (List Str)) E' w' => ∃ (a44 : Option Addr) (n45 c46 : Nat) (K40 : KMap), E' = [(1, sv p1_s), (7, .slice a44 n45 c46), (16, .slice a12 n13 c14), (17, .int .i64 (r6.1.length : Int)), (18, .int .i64 ((i39 : Nat) : Int))] ∧ SH w K [] w' K40 [tail (.slice a44 n45 c46) 9 1] ∧ KLe K20 K40 ∧ SliceAt tStr K40 a44 n45 c46 s35) h37 ⟨a18, 0, 0, K20, rfl, hS48, (KLe.refl _), hs22⟩ ⟨rfl, rfl, rfl, rfl, rfl, trivial⟩ ?_ ?_
    · rintro i39 s35 _ w42 r49 hi50 h51 ⟨a44, n45, c46, K40, rfl, hS43, hl41, hs47⟩
      refine wc_seq (wc_region ?_)
      refine wl_val wn rfl (rv_lss rfl rfl) ?_
      refine wl_nil (qe_seq (wc_seq ?_))
      refine wc_cond_t rfl (decide_eq_true (by omega)) (wc_skip (qe_seq (wc_seq ?_)))
      refine wc_block ?_
      refine wc_seq ?_
      refine wc_region ?_
      obtain ⟨x53, hx54, h55⟩ := Option.bind_eq_some_iff.1 h51
      refine wl_indexAddr (t := tStr) wn rfl Try.underlying26 tf9 rfl rfl (SliceAt.mono (hl21.trans hl41) hs15) hx54 ?_
      intro b56 o57 u58 hu59 ha60
      obtain ⟨rfl, hl61⟩ := hu59
      have ha62 : AtK _ b56 o57 [sv x53] := ha60
      refine wl_val wn rfl (rv_load1 tf9 rfl hS43 (ha62 0 _ rfl)) ?_
      refine wl_val wn rfl (rv_assign rfl) ?_
      refine wl_nil ?_
      refine qe_seq ?_
      refine wc_seq ?_
      refine wc_region ?_
      refine wl_val wn rfl (rv_move rfl) ?_
      refine wl_val wn rfl (rv_move rfl) ?_
      obtain ⟨r63, hx64, h65⟩ := Option.bind_eq_some_iff.1 h55
      refine wl_call wn rfl (rt_call (vs := [sv x53, sv p1_s]) co65 rfl) ((ok_strings_HasPrefix F) hS43.enter0 hl61 hl5 hx64) ?_
      rintro e69 w67 ⟨K66, rfl, hS68⟩
      refine ⟨_, rfl, ?_⟩
      have hS70 : SH _ _ _ _ _ [_] := SH.call0 hS43 hS68
      refine wl_nil ?_
      refine qe_seq ?_
      refine wc_cond rfl (fun hb71 => ?_) (fun hb71 => ?_)
      · have h72 := cond_t hb71 h65
        refine wc_region ?_
        refine wl_val wn rfl (rv_move rfl) ?_
        refine wl_val wn rfl (rv_move rfl) ?_
        refine wl_buildSlice (t := tStr) (n := 1) (pv := [(0, sv x53)]) (cs := [sv x53]) (xs := [x53]) wn rfl Try.underlying26 tf9 rfl rfl rfl (by kernel_rfl) rfl rfl (lit_cons (u := sv x53) (z := x53) ⟨rfl, hl61⟩ lit_nil) hS70 ?_
        intro a73 w74 K75 hl76 hs77 hS78
        have hS79 : SH _ _ _ _ _ [_, _] := SH.front (p := [_]) hS78
        obtain ⟨x80, hx81, h82⟩ := Option.bind_eq_some_iff.1 h72
        refine wl_append (t := tStr) wn rfl Try.underlying26 tf9 rfl rfl rfl rfl rfl (SliceAt.mono (hS68.le.trans hl76) hs47) hs77 hx81 hS79 ?_
        intro a83 n84 c85 w86 K87 hl88 hs89 hS90
        refine wl_val wn rfl (rv_assign rfl) ?_
        refine wl_nil ?_
        refine qe_block ?_
        refine qe_seq (wc_region ?_)
        refine wl_val wn rfl (rv_add_to rfl rfl (w64_succ hi50 (SliceAt.max (SliceAt.mono hl21 hs15)))) ?_
        refine wl_val wn rfl (rv_move rfl) ?_
        refine wl_nil ?_
        obtain rfl := Option.some.inj h82
        have hS91 : SH _ _ _ _ _ [_] := SH.sublist hS90 (.cons_cons _ (.cons _ .slnil))
        exact qe_mid' ⟨a83, n84, c85, K87, rfl, hS91, (((hl41.trans hS68.le).trans hl76).trans hl88), hs89⟩ ⟨rfl, rfl, rfl, rfl, rfl, trivial⟩
      · have h72 := cond_f hb71 h65
        refine wc_skip ?_
        refine qe_block ?_
        refine qe_seq (wc_region ?_)
        refine wl_val wn rfl (rv_add_to rfl rfl (w64_succ hi50 (SliceAt.max (SliceAt.mono hl21 hs15)))) ?_
        refine wl_val wn rfl (rv_move rfl) ?_
        refine wl_nil ?_
        obtain rfl := Option.some.inj h72
        exact qe_mid' ⟨a44, n45, c46, K66, rfl, hS70, (hl41.trans hS68.le), (SliceAt.mono hS68.le hs47)⟩ ⟨rfl, rfl, rfl, rfl, rfl, trivial⟩
    · rintro s35 _ w42 hr92 ⟨a44, n45, c46, K40, rfl, hS43, hl41, hs47⟩
      subst hr92
      refine wc_seq (wc_region ?_)
      refine wl_val wn rfl (rv_lss rfl rfl) ?_
      refine wl_nil (qe_seq (wc_seq ?_))
      refine wc_cond_f rfl (decide_eq_false (by omega)) ?_
      refine wc_exit ?_
      refine qe_then_exit ?_
      refine qe_then_exit ?_
      refine qe_block_eq ?_
      obtain rfl := Option.some.inj h38
      exact qe_mid' ⟨a44, n45, c46, K40, rfl, hS43, hl41, hs47⟩ ⟨rfl, trivial⟩
  · rintro _ w29 ⟨a31, n32, c33, K27, rfl, hS30, hl28, hs34⟩
    refine qe_seq ?_
    refine wc_seq ?_
    refine wc_region ?_
    refine wl_val wn rfl (rv_move rfl) ?_
    refine wl_val wn rfl (rv_assign rfl) ?_
    refine wl_nil ?_
    refine qe_seq ?_
    refine wc_ret ?_
    obtain rfl := Option.some.inj h26
    exact qe_ret (vs := [_]) Try.results36 ⟨rfl, trivial⟩ ⟨a31, n32, c33, K27, rfl, hS30, hs34⟩

theorem ok_spec_DrawDawgHead (F : Nat) {w : World} {K : KMap} {a1 : Option Addr} {n2 c3 : Nat} {p0_code : List UInt8} {r : (List GState) × Str} (hS : SH w K [] w K []) (hs4 : SliceAt tU8 K a1 n2 c3 p0_code) (hm : M.spec_DrawDawgHead F p0_code = some r) :
    Calls Try.prog 43 #[.slice a1 n2 c3] w fun e w' => ∃ (a_1 : Option Addr) (n_2 c_3 : Nat) (K' : KMap), e = .returned (.tuple #[.slice a_1 n_2 c_3, sv r.2]) ∧ SH w K [] w' K' [tail (.slice a_1 n_2 c_3) 33 3] ∧ SliceAt tGState K' a_1 n_2 c_3 r.1 ∧ r.2.length ≤ maxLen := by
  rw [M.spec_DrawDawgHead] at hm
  refine calls_in Try.func43 rfl Try.ntmps43 rfl ?_
  refine wc_seq ?_
  refine wc_region ?_
  refine wl_val wn rfl (rv_assign (v := .slice none 0 0) rfl) ?_
  refine wl_val wn rfl (rv_assign (v := sv []) rfl) ?_
  refine wl_nil ?_
  refine qe_seq ?_
  refine wc_seq ?_
  refine wc_region ?_
  refine wl_val wn rfl (rv_move rfl) ?_
  obtain ⟨r5, hx6, h7⟩ := Option.bind_eq_some_iff.1 hm
  refine wl_call wn rfl (rt_call (vs := [.slice a1 n2 c3]) co48 rfl) ((ok_spec_l30Open F) hS.enter0 hs4 hx6) ?_
  rintro e17 w9 ⟨g11, a12, n13, c14, K8, rfl, hS10, hs15, hr16⟩
  refine ⟨_, rfl, ?_⟩
  have hS18 : SH _ _ _ _ _ [_] := SH.call0 hS hS10
  refine wl_val wn rfl (rv_assign rfl) ?_
  refine wl_nil ?_
  refine qe_seq ?_
  refine wc_seq ?_
  refine wc_region ?_
  refine wl_val wn rfl (rv_move rfl) ?_
  obtain ⟨r19, hx20, h21⟩ := Option.bind_eq_some_iff.1 h7
  refine wl_call wn rfl (rt_call (vs := [.pointer (some ⟨g11, 0, none⟩)]) co66 rfl) ((ok_spec_l30Dawg F) (SH.enter (Lin := [_]) hS18) hs15 hr16 hx20) ?_
  rintro e34 w23 ⟨a25, n26, c27, a29, n30, c31, K22, rfl, hS24, hs28, hs32, hr33⟩
  refine ⟨_, rfl, ?_⟩
  have hS35 : SH _ _ _ _ _ [_, _] := SH.call (Lin := [_]) hS18 hS24
  refine wl_val wn rfl (rv_assign rfl) ?_
  refine wl_nil ?_
  refine qe_seq ?_
  refine wc_seq ?_
  refine wc_region ?_
  refine wl_val wn rfl (rv_move rfl) ?_
  refine wl_val wn rfl (rv_move rfl) ?_
  refine wl_buildSlice (t := tStr) (n := 7) (pv := [(0, sv []), (1, sv [99]), (2, sv [99, 97]), (3, sv [99, 97, 116]), (4, sv [116, 111]), (5, sv [120]), (6, sv [100, 111, 103, 115])]) (cs := [sv [], sv [99], sv [99, 97], sv [99, 97, 116], sv [116, 111], sv [120], sv [100, 111, 103, 115]]) (xs := [([] : Str), ([99] : Str), ([99, 97] : Str), ([99, 97, 116] : Str), ([116, 111] : Str), ([120] : Str), ([100, 111, 103, 115] : Str)]) wn rfl Try.underlying26 tf9 rfl rfl rfl (by kernel_rfl) rfl rfl (lit_cons (u := sv []) (z := ([] : Str)) ⟨rfl, (by decide : ([] : Str).length ≤ maxLen)⟩ (lit_cons (u := sv [99]) (z := ([99] : Str)) ⟨rfl, (by decide : ([99] : Str).length ≤ maxLen)⟩ (lit_cons (u := sv [99, 97]) (z := ([99, 97] : Str)) ⟨rfl, (by decide : ([99, 97] : Str).length ≤ maxLen)⟩ (lit_cons (u := sv [99, 97, 116]) (z := ([99, 97, 116] : Str)) ⟨rfl, (by decide : ([99, 97, 116] : Str).length ≤ maxLen)⟩ (lit_cons (u := sv [116, 111]) (z := ([116, 111] : Str)) ⟨rfl, (by decide : ([116, 111] : Str).length ≤ maxLen)⟩ (lit_cons (u := sv [120]) (z := ([120] : Str)) ⟨rfl, (by decide : ([120] : Str).length ≤ maxLen)⟩ (lit_cons (u := sv [100, 111, 103, 115]) (z := ([100, 111, 103, 115] : Str)) ⟨rfl, (by decide : ([100, 111, 103, 115] : Str).length ≤ maxLen)⟩ lit_nil))))))) hS35 ?_
  intro a36 w37 K38 hl39 hs40 hS41
  obtain ⟨r42, hx43, h44⟩ := Option.bind_eq_some_iff.1 h21
  have hS45 : SH _ _ _ _ _ [_, _, _] := SH.front (p := [_, _]) hS41
  refine wl_call wn rfl (rt_call (vs := [.pointer (some ⟨g11, 0, none⟩), .slice a36 7 7]) co49 rfl) ((ok_spec_l30Rd_of F) (SH.enter (Lin := [_]) hS45) (SliceAt.mono hl39 hs32) hr33 hs40 hx43) ?_
  rintro e55 w47 ⟨a50, n51, c52, K46, rfl, hS48, hl49, hs53, hr54⟩
  refine ⟨_, rfl, ?_⟩
  have hS56 : SH _ _ _ _ _ [_, _, _] := SH.call (Lin := [_]) hS45 hS48
  refine wl_val wn rfl (rv_assign rfl) ?_
  refine wl_val wn rfl (rv_assign rfl) ?_
  refine wl_nil ?_
  refine qe_seq ?_
  refine wc_ret ?_
  obtain rfl := Option.some.inj h44
  have hS57 : SH _ _ _ _ _ [_] := SH.sublist hS56 (.cons _ (.cons _ (.cons_cons _ .slnil)))
  exact qe_ret (vs := [_, _]) Try.results43 ⟨rfl, rfl, trivial⟩ ⟨a25, n26, c27, K46, rfl, hS57, (SliceAt.mono (hl39.trans hS48.le) hs28), hl49⟩

set_option maxHeartbeats 2000000 in
theorem ok_spec_l4Go (F : Nat) {w : World} {K : KMap} {a1 : Option Addr} {n2 c3 : Nat} {p0_d : List GState} {p1_s : Str} {r : Int × Int} (hS : SH w K [] w K []) (hs4 : SliceAt tGState K a1 n2 c3 p0_d) (hl5 : p1_s.length ≤ maxLen) (hm : M.spec_l4Go F p0_d p1_s = some r) :
    Calls Try.prog 73 #[.slice a1 n2 c3, sv p1_s] w fun e w' => ∃ (K' : KMap), e = .returned (.tuple #[.int .i64 r.1, .int .i64 r.2]) ∧ SH w K [] w' K' [] ∧ rng64 r.1 ∧ rng64 r.2 := by
  rw [M.spec_l4Go] at hm
  refine calls_in Try.func73 rfl Try.ntmps73 rfl ?_
  refine wc_seq ?_
  refine wc_region ?_
  refine wl_val wn rfl (rv_assign (v := .int .i64 0) rfl) ?_
  refine wl_val wn rfl (rv_assign (v := .int .i64 0) rfl) ?_
  refine wl_nil ?_
  refine qe_seq ?_
  refine wc_seq ?_
  refine wc_region ?_
  refine wl_val wn rfl (rv_move rfl) ?_
  refine wl_val wn rfl (rv_len (t := tGState) Try.underlying28 rfl hs4) ?_
  refine wl_val wn rfl (rv_sub rfl rfl) ?_
  refine wl_val wn rfl (rv_assign rfl) ?_
  refine wl_nil ?_
  refine qe_seq ?_
  refine wc_seq ?_
  refine wc_region ?_
  refine wl_val wn rfl (rv_assign (v := .int .i64 0) rfl) ?_
  refine wl_nil ?_
  refine qe_seq ?_
  refine wc_seq ?_
  refine wc_seq ?_
  refine wc_region ?_
  refine wl_val wn rfl (rv_assign (v := .int .i64 0) rfl) ?_
  refine wl_nil ?_
  refine qe_seq ?_
  obtain ⟨o6, h7, h8⟩ := Option.bind_eq_some_iff.1 hm
  refine wc_cutg (fun E' w' => ∃ (s9 : Int × Int) (K10 : KMap), o6 = .inl s9 ∧ E' = [(6, .int .i64 s9.1), (7, .int .i64 s9.2)] ∧ SH w K [] w' K10 [] ∧ KLe K K10 ∧ rng64 s9.1 ∧ rng64 s9.2) ?_ ?_
  · refine wc_block ?_
    obtain ⟨r17, h18, h19⟩ := Option.bind_eq_some_iff.1 h7
    refine wc_while' (fun (s16 : Int × Int × Int) E' w' => ∃ (K20 : KMap), E' = [(0, .slice a1 n2 c3), (1, sv p1_s), (6, .int .i64 s16.1), (7, .int .i64 s16.2.1), (8, .int .i64 s16.2.2)] ∧ SH w K [] w' K20 [] ∧ KLe K K20 ∧ rng64 s16.1 ∧ rng64 s16.2.1 ∧ rng64 s16.2.2) h18 ⟨K, rfl, hS, (KLe.refl _), (w64_rng _), (by decide : rng64 0), (by decide : rng64 0)⟩ ⟨rfl, rfl, rfl, rfl, rfl, trivial⟩ ?_
    rintro s16 _ w22 r27 h28 hx29 ⟨K20, rfl, hS23, hl21, hr24, hr25, hr26⟩
    refine wc_seq ?_
    refine wc_seq ?_
    refine wc_region ?_
    refine wl_val wn rfl (rv_move rfl) ?_
    refine wl_val wn rfl (rv_move rfl) ?_
    refine wl_val wn rfl (rv_slen Try.underlying9 rfl) ?_
    refine wl_val wn rfl (rv_lss rfl rfl) ?_
    refine wl_nil ?_
    refine qe_seq ?_
    refine wc_cond rfl (fun hb30 => ?_) (fun hb30 => ?_)
    · have h31 := cond_t hb30 h28
      refine wc_skip ?_
      refine qe_seq ?_
      refine wc_seq ?_
      refine wc_block ?_
      refine wc_seq ?_
      refine wc_region ?_
      refine wl_val wn rfl (rv_assign (v := .int .i64 (-1)) rfl) ?_
      refine wl_nil ?_
      refine qe_seq ?_
      refine wc_seq ?_
      refine wc_seq ?_
      refine wc_region ?_
      refine wl_val wn rfl (rv_move rfl) ?_
      refine wl_val wn rfl (rv_move rfl) ?_
      obtain ⟨x32, hx33, h34⟩ := Option.bind_eq_some_iff.1 h31
      refine wl_indexAddr (t := tGState) wn rfl Try.underlying28 tf33 rfl rfl (SliceAt.mono hl21 hs4) hx33 ?_
      intro b35 o36 u37 hu38 ha39
      obtain ⟨a41, n42, c43, rfl, hr40, hs44⟩ := hu38
      have ha45 : AtK _ b35 o36 [.bool x32.Final, .int .i64 x32.Many, .slice a41 n42 c43] := ha39
      refine wl_val wn rfl (rv_fieldAddr ff33_0 rfl) ?_
      refine wl_val wn rfl (rv_load1 tf4 rfl hS23 (ha45 0 _ rfl)) ?_
      refine wl_nil ?_
      refine qe_seq ?_
      obtain ⟨o46, h47, h48⟩ := Option.bind_eq_some_iff.1 h34
      refine wc_cutg (fun E' w' => ∃ (K49 : KMap), E' = [(0, .slice a1 n2 c3), (1, sv p1_s), (6, .int .i64 s16.1), (7, .int .i64 o46), (8, .int .i64 s16.2.2), (9, .int .i64 (-1))] ∧ SH w K [] w' K49 [] ∧ KLe K20 K49 ∧ rng64 o46) ?_ ?_
      · refine wc_cond rfl (fun hb54 => ?_) (fun hb54 => ?_)
        · have h55 := cond_t hb54 h47
          refine wc_region ?_
          refine wl_val wn rfl (rv_move rfl) ?_
          refine wl_val wn rfl (rv_add rfl rfl) ?_
          refine wl_val wn rfl (rv_assign rfl) ?_
          refine wl_nil ?_
          obtain rfl := Option.some.inj h55
          exact qe_mid' ⟨K20, rfl, hS23, (KLe.refl _), (w64_rng _)⟩ ⟨rfl, rfl, rfl, rfl, rfl, rfl, trivial⟩
        · have h55 := cond_f hb54 h47
          refine wc_skip ?_
          obtain rfl := Option.some.inj h55
          exact qe_mid' ⟨K20, rfl, hS23, (KLe.refl _), hr25⟩ ⟨rfl, rfl, rfl, rfl, rfl, rfl, trivial⟩
      · rintro _ w51 ⟨K49, rfl, hS52, hl50, hr53⟩
        refine qe_seq ?_
        refine wc_seq ?_
        refine wc_seq ?_
        refine wc_region ?_
        refine wl_val wn rfl (rv_assign (v := .int .i64 0) rfl) ?_
        refine wl_nil ?_
        refine qe_seq ?_
        obtain ⟨o56, h57, h58⟩ := Option.bind_eq_some_iff.1 h48
        refine wc_cutg (fun E' w' => ∃ (K59 : KMap), E' = [(0, .slice a1 n2 c3), (1, sv p1_s), (7, .int .i64 o56.1), (8, .int .i64 s16.2.2), (9, .int .i64 o56.2)] ∧ SH w K [] w' K59 [] ∧ KLe K49 K59 ∧ rng64 o56.1 ∧ rng64 o56.2) ?_ ?_
        · refine wc_block ?_
          obtain ⟨r66, h67, h68⟩ := Option.bind_eq_some_iff.1 h57
          refine wc_while' (fun (s65 : Int × Int × Int) E' w' => ∃ (K69 : KMap), E' = [(0, .slice a1 n2 c3), (1, sv p1_s), (6, .int .i64 s16.1), (7, .int .i64 s65.1), (8, .int .i64 s16.2.2), (9, .int .i64 s65.2.1), (10, .int .i64 s65.2.2)] ∧ SH w K [] w' K69 [] ∧ KLe K49 K69 ∧ rng64 s65.1 ∧ rng64 s65.2.1 ∧ rng64 s65.2.2) h67 ⟨K49, rfl, hS52, (KLe.refl _), hr53, (by decide : rng64 (-1)), (by decide : rng64 0)⟩ ⟨rfl, rfl, rfl, rfl, rfl, rfl, rfl, trivial⟩ ?_
          rintro s65 _ w71 r76 h77 hx78 ⟨K69, rfl, hS72, hl70, hr73, hr74, hr75⟩
          refine wc_seq ?_
          refine wc_seq ?_
          obtain ⟨o79, h80, h81⟩ := Option.bind_eq_some_iff.1 h77
          refine wc_cutg (fun E' w' => ∃ (K82 : KMap), E' = [(0, .slice a1 n2 c3), (1, sv p1_s), (6, .int .i64 s16.1), (7, .int .i64 s65.1), (8, .int .i64 s16.2.2), (9, .int .i64 s65.2.1), (10, .int .i64 s65.2.2), (39, .bool o79)] ∧ SH w K [] w' K82 [] ∧ KLe K69 K82) ?_ ?_
          · refine wc_region ?_
            refine wl_val wn rfl (rv_move rfl) ?_
            refine wl_val wn rfl (rv_move rfl) ?_
            refine wl_val wn rfl (rv_move rfl) ?_
            obtain ⟨x86, hx87, h88⟩ := Option.bind_eq_some_iff.1 h80
            refine wl_indexAddr (t := tGState) wn rfl Try.underlying28 tf33 rfl rfl (SliceAt.mono ((hl21.trans hl50).trans hl70) hs4) hx87 ?_
            intro b89 o90 u91 hu92 ha93
            obtain ⟨a95, n96, c97, rfl, hr94, hs98⟩ := hu92
            have ha99 : AtK _ b89 o90 [.bool x86.Final, .int .i64 x86.Many, .slice a95 n96 c97] := ha93
            refine wl_val wn rfl (rv_fieldAddr ff33_2 rfl) ?_
            refine wl_val wn rfl (rv_load1 tf31 rfl hS72 (ha99 2 _ rfl)) ?_
            refine wl_val wn rfl (rv_len (t := tGArc) Try.underlying31 rfl hs98) ?_
            refine wl_val wn rfl (rv_lss rfl rfl) ?_
            refine wl_val wn rfl (rv_move rfl) ?_
            rcases bool_tf (decide (s65.2.2 < (x86.Arcs.length : Int))) with hb100 | hb100
            · have h101 := cond_t hb100 h88
              refine wl_val (wg rfl rfl hb100) rfl (rv_move rfl) ?_
              refine wl_val (wg rfl rfl hb100) rfl (rv_lss rfl rfl) ?_
              refine wl_val wn rfl (rv_pick_t rfl hb100 rfl) ?_
              refine wl_nil ?_
              obtain rfl := Option.some.inj h101
              exact qe_mid' ⟨K69, rfl, hS72, (KLe.refl _)⟩ ⟨rfl, rfl, rfl, rfl, rfl, rfl, rfl, rfl, trivial⟩
            · have h101 := cond_f hb100 h88
              refine wl_un (ug rfl rfl hb100) rfl ?_
              refine wl_un (ug rfl rfl hb100) rfl ?_
              refine wl_val wn rfl (rv_pick_f (v := .bool false) rfl hb100 rfl) ?_
              refine wl_nil ?_
              obtain rfl := Option.some.inj h101
              exact qe_mid' ⟨K69, rfl, hS72, (KLe.refl _)⟩ ⟨rfl, rfl, rfl, rfl, rfl, rfl, rfl, rfl, trivial⟩
          · rintro _ w84 ⟨K82, rfl, hS85, hl83⟩
            refine qe_seq ?_
            refine wc_cond rfl (fun hb102 => ?_) (fun hb102 => ?_)
            · have h103 := cond_t hb102 h81
              refine wc_skip ?_
              refine qe_seq ?_
              refine wc_seq ?_
              refine wc_block ?_
              refine wc_seq ?_
              refine wc_region ?_
              refine wl_val wn rfl (rv_move rfl) ?_
              refine wl_val wn rfl (rv_move rfl) ?_
              obtain ⟨x104, hx105, h106⟩ := Option.bind_eq_some_iff.1 h103
              refine wl_indexAddr (t := tGState) wn rfl Try.underlying28 tf33 rfl rfl (SliceAt.mono (((hl21.trans hl50).trans hl70).trans hl83) hs4) hx105 ?_
              intro b107 o108 u109 hu110 ha111
              obtain ⟨a113, n114, c115, rfl, hr112, hs116⟩ := hu110
              have ha117 : AtK _ b107 o108 [.bool x104.Final, .int .i64 x104.Many, .slice a113 n114 c115] := ha111
              refine wl_val wn rfl (rv_fieldAddr ff33_2 rfl) ?_
              refine wl_val wn rfl (rv_load1 tf31 rfl hS85 (ha117 2 _ rfl)) ?_
              refine wl_val wn rfl (rv_move rfl) ?_
              obtain ⟨x118, hx119, h120⟩ := Option.bind_eq_some_iff.1 h106
              refine wl_indexAddr (t := tGArc) wn rfl Try.underlying31 tf35 rfl rfl hs116 hx119 ?_
              intro b121 o122 u123 hu124 ha125
              obtain ⟨rfl, hr126⟩ := hu124
              have ha127 : AtK _ b121 o122 [iv8 x118.Byte, .int .i64 x118.To] := ha125
              refine wl_val wn rfl (rv_loadS (cs := [iv8 x118.Byte, .int .i64 x118.To]) tf35 rfl hS85 ha127 rfl) ?_
              refine wl_alloc wn rfl tf35 hS85 ?_
              intro g128 w129 hS130
              have hS131 : SH _ _ _ _ _ [obj g128 [iv8 0, .int .i64 0] 35] := hS130
              refine wl_store (cs' := [iv8 x118.Byte, .int .i64 x118.To]) (v := .agg #[iv8 x118.Byte, .int .i64 x118.To]) wn tf35 rfl rfl rfl (by simp [Value.cells, Value.oneCell', iv8]) hS131 rfl rfl ?_
              intro w132 hS133
              refine wl_nil ?_
              refine qe_seq ?_
              refine wc_seq ?_
              refine wc_quiet mixed (by kernel_rfl) hS133 ?_
              refine wq_val wn rfl (fun _ _ => (rv_fieldAddr ff35_0 rfl)) ?_
              refine wq_val wn rfl (rq_loadm1 tf5 rfl (.head _) rfl) ?_
              refine wq_val wn rfl (fun _ _ => (rv_move rfl)) ?_
              refine wq_val wn rfl (fun _ _ => (rv_move rfl)) ?_
              obtain ⟨x134, hx135, h136⟩ := Option.bind_eq_some_iff.1 h120
              refine wq_val wn rfl (fun _ _ => (rv_sidx Try.underlying9 rfl rfl hx135)) ?_
              refine wq_val wn rfl (fun _ _ => (rv_beq rfl rfl)) ?_
              refine wq_nil ?_
              rintro w138 ⟨K137, hS139, hl140⟩
              refine qe_seq ?_
              refine wc_cond rfl (fun hb141 => ?_) (fun hb141 => ?_)
              · have h142 := cond_t hb141 h136
                refine wc_region ?_
                refine wl_val wn rfl (rv_fieldAddr ff35_1 rfl) ?_
                refine wl_val wn rfl (rv_loadm1 tf3 rfl (.head _) hS139 rfl) ?_
                refine wl_val wn rfl (rv_assign rfl) ?_
                refine wl_nil ?_
                refine qe_block ?_
                refine qe_seq ?_
                refine wc_region ?_
                refine wl_val wn rfl (rv_move rfl) ?_
                refine wl_val wn rfl (rv_add rfl rfl) ?_
                refine wl_val wn rfl (rv_assign rfl) ?_
                refine wl_nil ?_
                obtain rfl := Option.some.inj h142
                have hS143 : SH _ _ _ _ _ [] := SH.sublist hS139 (.cons _ .slnil)
                exact qe_mid' ⟨_, rfl, K137, rfl, hS143, ((hl70.trans hl83).trans hl140), hr73, hr126, (w64_rng _)⟩ ⟨rfl, rfl, rfl, rfl, rfl, rfl, rfl, trivial⟩
              · have h142 := cond_f hb141 h136
                refine wc_seq ?_
                refine wc_quiet mixed (by kernel_rfl) hS139 ?_
                refine wq_val wn rfl (fun _ _ => (rv_fieldAddr ff35_0 rfl)) ?_
                refine wq_val wn rfl (rq_loadm1 tf5 rfl (.head _) rfl) ?_
                refine wq_val wn rfl (fun _ _ => (rv_move rfl)) ?_
                refine wq_val wn rfl (fun _ _ => (rv_move rfl)) ?_
                obtain ⟨x144, hx145, h146⟩ := Option.bind_eq_some_iff.1 h142
                refine wq_val wn rfl (fun _ _ => (rv_sidx Try.underlying9 rfl rfl hx145)) ?_
                refine wq_val wn rfl (fun _ _ => (rv_bl rfl rfl)) ?_
                refine wq_nil ?_
                rintro w148 ⟨K147, hS149, hl150⟩
                refine qe_seq ?_
                refine wc_cond rfl (fun hb151 => ?_) (fun hb151 => ?_)
                · have h152 := cond_t hb151 h146
                  refine wc_region ?_
                  refine wl_val wn rfl (rv_move rfl) ?_
                  refine wl_val wn rfl (rv_move rfl) ?_
                  refine wl_val wn rfl (rv_fieldAddr ff35_1 rfl) ?_
                  refine wl_val wn rfl (rv_loadm1 tf3 rfl (.head _) hS149 rfl) ?_
                  obtain ⟨x153, hx154, h155⟩ := Option.bind_eq_some_iff.1 h152
                  refine wl_indexAddr (t := tGState) wn rfl Try.underlying28 tf33 rfl rfl (SliceAt.mono (((((hl21.trans hl50).trans hl70).trans hl83).trans hl140).trans hl150) hs4) hx154 ?_
                  intro b156 o157 u158 hu159 ha160
                  obtain ⟨a162, n163, c164, rfl, hr161, hs165⟩ := hu159
                  have ha166 : AtK _ b156 o157 [.bool x153.Final, .int .i64 x153.Many, .slice a162 n163 c164] := ha160
                  refine wl_val wn rfl (rv_fieldAddr ff33_1 rfl) ?_
                  refine wl_val wn rfl (rv_load1 tf3 rfl hS149 (ha166 1 _ rfl)) ?_
                  refine wl_val wn rfl (rv_add rfl rfl) ?_
                  refine wl_val wn rfl (rv_assign rfl) ?_
                  refine wl_nil ?_
                  refine qe_block ?_
                  refine qe_seq ?_
                  refine wc_region ?_
                  refine wl_val wn rfl (rv_move rfl) ?_
                  refine wl_val wn rfl (rv_add rfl rfl) ?_
                  refine wl_val wn rfl (rv_assign rfl) ?_
                  refine wl_nil ?_
                  obtain rfl := Option.some.inj h155
                  have hS167 : SH _ _ _ _ _ [] := SH.sublist hS149 (.cons _ .slnil)
                  exact qe_mid' ⟨_, rfl, K147, rfl, hS167, (((hl70.trans hl83).trans hl140).trans hl150), (w64_rng _), hr74, (w64_rng _)⟩ ⟨rfl, rfl, rfl, rfl, rfl, rfl, rfl, trivial⟩
                · have h152 := cond_f hb151 h146
                  refine wc_skip ?_
                  refine qe_block ?_
                  refine qe_seq ?_
                  refine wc_region ?_
                  refine wl_val wn rfl (rv_move rfl) ?_
                  refine wl_val wn rfl (rv_add rfl rfl) ?_
                  refine wl_val wn rfl (rv_assign rfl) ?_
                  refine wl_nil ?_
                  obtain rfl := Option.some.inj h152
                  have hS168 : SH _ _ _ _ _ [] := SH.sublist hS149 (.cons _ .slnil)
                  exact qe_mid' ⟨_, rfl, K147, rfl, hS168, (((hl70.trans hl83).trans hl140).trans hl150), hr73, hr74, (w64_rng _)⟩ ⟨rfl, rfl, rfl, rfl, rfl, rfl, rfl, trivial⟩
            · have h103 := cond_f hb102 h81
              refine wc_exit ?_
              refine qe_then_exit ?_
              refine qe_then_exit ?_
              obtain rfl := Option.some.inj h103
              have e169 := hx78 _ rfl
              subst e169
              refine qe_block_eq ?_
              obtain rfl := Option.some.inj h68
              exact qe_mid' ⟨K82, rfl, hS85, (hl70.trans hl83), hr73, hr74⟩ ⟨rfl, rfl, rfl, rfl, rfl, trivial⟩
        · rintro _ w61 ⟨K59, rfl, hS62, hl60, hr63, hr64⟩
          refine qe_seq ?_
          refine wc_seq ?_
          refine wc_seq ?_
          refine wc_region ?_
          refine wl_val wn rfl (rv_move rfl) ?_
          refine wl_val wn rfl (rv_lss rfl rfl) ?_
          refine wl_nil ?_
          refine qe_seq ?_
          refine wc_cond rfl (fun hb170 => ?_) (fun hb170 => ?_)
          · have h171 := cond_t hb170 h58
            refine wc_seq ?_
            refine wc_region ?_
            refine wl_val wn rfl (rv_assign (v := .int .i64 (-1)) rfl) ?_
            refine wl_val wn rfl (rv_assign (v := .int .i64 0) rfl) ?_
            refine wl_nil ?_
            refine qe_seq ?_
            refine wc_ret ?_
            refine qe_then_ret ?_
            refine qe_block_ret ?_
            refine qe_then_ret ?_
            refine qe_then_ret ?_
            obtain rfl := Option.some.inj h171
            have e172 := hx29 _ rfl
            subst e172
            refine qe_block_ret ?_
            refine qe_then_ret ?_
            obtain rfl := Option.some.inj h19
            refine qe_then_ret ?_
            obtain rfl := Option.some.inj h8
            exact qe_ret (vs := [_, _]) Try.results73 ⟨rfl, rfl, trivial⟩ ⟨K59, rfl, hS62, (by decide : rng64 (-1)), (by decide : rng64 0)⟩
          · have h171 := cond_f hb170 h58
            refine wc_skip ?_
            refine qe_seq ?_
            refine wc_region ?_
            refine wl_val wn rfl (rv_move rfl) ?_
            refine wl_val wn rfl (rv_assign rfl) ?_
            refine wl_nil ?_
            refine qe_block ?_
            refine qe_seq ?_
            refine wc_region ?_
            refine wl_val wn rfl (rv_move rfl) ?_
            refine wl_val wn rfl (rv_add rfl rfl) ?_
            refine wl_val wn rfl (rv_assign rfl) ?_
            refine wl_nil ?_
            obtain rfl := Option.some.inj h171
            exact qe_mid' ⟨_, rfl, K59, rfl, hS62, ((hl21.trans hl50).trans hl60), hr64, hr63, (w64_rng _)⟩ ⟨rfl, rfl, rfl, rfl, rfl, trivial⟩
    · have h31 := cond_f hb30 h28
      refine wc_exit ?_
      refine qe_then_exit ?_
      refine qe_then_exit ?_
      obtain rfl := Option.some.inj h31
      have e173 := hx29 _ rfl
      subst e173
      refine qe_block_eq ?_
      obtain rfl := Option.some.inj h19
      exact qe_mid' ⟨_, K20, rfl, rfl, hS23, hl21, hr24, hr25⟩ ⟨rfl, rfl, trivial⟩
  · rintro _ w12 ⟨s9, K10, rfl, rfl, hS13, hl11, hr14, hr15⟩
    refine qe_seq ?_
    refine wc_seq ?_
    refine wc_region ?_
    refine wl_val wn rfl (rv_move rfl) ?_
    refine wl_val wn rfl (rv_move rfl) ?_
    refine wl_val wn rfl (rv_assign rfl) ?_
    refine wl_val wn rfl (rv_assign rfl) ?_
    refine wl_nil ?_
    refine qe_seq ?_
    refine wc_ret ?_
    obtain rfl := Option.some.inj h8
    exact qe_ret (vs := [_, _]) Try.results73 ⟨rfl, rfl, trivial⟩ ⟨K10, rfl, hS13, hr14, hr15⟩

theorem ok_spec_DawgHead (F : Nat) {w : World} {K : KMap} {a1 : Option Addr} {n2 c3 : Nat} {p0_d : List GState} {p1_s : Str} {r : (List Str)} (hS : SH w K [] w K []) (hs4 : SliceAt tGState K a1 n2 c3 p0_d) (hl5 : p1_s.length ≤ maxLen) (hm : M.spec_DawgHead F p0_d p1_s = some r) :
    Calls Try.prog 44 #[.slice a1 n2 c3, sv p1_s] w fun e w' => ∃ (a_1 : Option Addr) (n_2 c_3 : Nat) (K' : KMap), e = .returned (.slice a_1 n_2 c_3) ∧ SH w K [] w' K' [tail (.slice a_1 n_2 c_3) 9 1] ∧ SliceAt tStr K' a_1 n_2 c_3 r := by
  rw [M.spec_DawgHead] at hm
  refine calls_in Try.func44 rfl Try.ntmps44 rfl ?_
  refine wc_seq ?_
  refine wc_region ?_
  refine wl_val wn rfl (rv_assign (v := .slice none 0 0) rfl) ?_
  refine wl_nil ?_
  refine qe_seq ?_
  refine wc_seq ?_
  refine wc_region ?_
  refine wl_buildSlice0 tStr wn rfl Try.underlying26 tf9 hS ?_
  intro a6 w7 K8 hl9 hs10 hS11
  refine wl_val wn rfl (rv_assign rfl) ?_
  refine wl_nil ?_
  refine qe_seq ?_
  refine wc_seq ?_
  refine wc_seq ?_
  refine wc_region ?_
  refine wl_val wn rfl (rv_move rfl) ?_
  obtain ⟨r12, hx13, h14⟩ := Option.bind_eq_some_iff.1 hm
  refine wl_call wn rfl (rt_call (vs := [.slice a1 n2 c3]) co68 rfl) ((ok_spec_l4Ok F) hS11.enter0 (SliceAt.mono hl9 hs4) hx13) ?_
  rintro e18 w16 ⟨K15, rfl, hS17⟩
  refine ⟨_, rfl, ?_⟩
  have hS19 : SH _ _ _ _ _ [_] := SH.call0 hS11 hS17
  refine wl_val wn rfl (rv_not rfl) ?_
  refine wl_nil ?_
  refine qe_seq ?_
  refine wc_cond rfl (fun hb20 => ?_) (fun hb20 => ?_)
  · have h21 := cond_t hb20 h14
    refine wc_seq ?_
    refine wc_region ?_
    refine wl_val wn rfl (rv_move rfl) ?_
    refine wl_val wn rfl (rv_assign rfl) ?_
    refine wl_nil ?_
    refine qe_seq ?_
    refine wc_ret ?_
    refine qe_then_ret ?_
    obtain rfl := Option.some.inj h21
    exact qe_ret (vs := [_]) Try.results44 ⟨rfl, trivial⟩ ⟨a6, 0, 0, K15, rfl, hS19, (SliceAt.mono hS17.le hs10)⟩
  · have h21 := cond_f hb20 h14
    refine wc_skip ?_
    refine qe_seq ?_
    refine wc_seq ?_
    refine wc_region ?_
    refine wl_val wn rfl (rv_move rfl) ?_
    refine wl_val wn rfl (rv_move rfl) ?_
    obtain ⟨r22, hx23, h24⟩ := Option.bind_eq_some_iff.1 h21
    refine wl_call wn rfl (rt_call (vs := [.slice a1 n2 c3, sv p1_s]) co73 rfl) ((ok_spec_l4Go F) hS19.enter0 (SliceAt.mono (hl9.trans hS17.le) hs4) hl5 hx23) ?_
    rintro e30 w26 ⟨K25, rfl, hS27, hr28, hr29⟩
    refine ⟨_, rfl, ?_⟩
    have hS31 : SH _ _ _ _ _ [_] := SH.call0 hS19 hS27
    refine wl_val wn rfl (rv_move rfl) ?_
    refine wl_val wn rfl (rv_extract rfl rfl) ?_
    refine wl_val wn rfl (rv_extract rfl rfl) ?_
    refine wl_val wn rfl (rv_assign rfl) ?_
    refine wl_val wn rfl (rv_assign rfl) ?_
    refine wl_nil ?_
    refine qe_seq ?_
    refine wc_seq ?_
    refine wc_seq ?_
    refine wc_region ?_
    refine wl_val wn rfl (rv_move rfl) ?_
    refine wl_val wn rfl (rv_lss rfl rfl) ?_
    refine wl_nil ?_
    refine qe_seq ?_
    refine wc_cond rfl (fun hb32 => ?_) (fun hb32 => ?_)
    · have h33 := cond_t hb32 h24
      refine wc_seq ?_
      refine wc_region ?_
      refine wl_val wn rfl (rv_move rfl) ?_
      refine wl_val wn rfl (rv_assign rfl) ?_
      refine wl_nil ?_
      refine qe_seq ?_
      refine wc_ret ?_
      refine qe_then_ret ?_
      obtain rfl := Option.some.inj h33
      exact qe_ret (vs := [_]) Try.results44 ⟨rfl, trivial⟩ ⟨a6, 0, 0, K25, rfl, hS31, (SliceAt.mono (hS17.le.trans hS27.le) hs10)⟩
    · have h33 := cond_f hb32 h24
      refine wc_skip ?_
      refine qe_seq ?_
      refine wc_seq ?_
      refine wc_region ?_
      refine wl_val wn rfl (rv_move rfl) ?_
      refine wl_val wn rfl (rv_move rfl) ?_
      refine wl_val wn rfl (rv_move rfl) ?_
      obtain ⟨r34, hx35, h36⟩ := Option.bind_eq_some_iff.1 h33
      refine wl_call wn rfl (rt_call (vs := [.slice a1 n2 c3, .int .i64 r22.1, sv p1_s]) co70 rfl) ((ok_spec_l4All F) hS31.enter0 (SliceAt.mono ((hl9.trans hS17.le).trans hS27.le) hs4) hr28 hl5 hx35) ?_
      rintro e44 w38 ⟨a40, n41, c42, K37, rfl, hS39, hs43⟩
      refine ⟨_, rfl, ?_⟩
      have hS45 : SH _ _ _ _ _ [_, _] := SH.call0 hS31 hS39
      refine wl_val wn rfl (rv_assign rfl) ?_
      refine wl_nil ?_
      refine qe_seq ?_
      refine wc_ret ?_
      obtain rfl := Option.some.inj h36
      have hS46 : SH _ _ _ _ _ [_] := SH.sublist hS45 (.cons_cons _ (.cons _ .slnil))
      exact qe_ret (vs := [_]) Try.results44 ⟨rfl, trivial⟩ ⟨a40, n41, c42, K37, rfl, hS46, hs43⟩

set_option maxHeartbeats 2000000 in
theorem ok_laws_FnDawgHead (F : Nat) {w : World} {K : KMap} {a1 : Option Addr} {n2 c3 : Nat} {p0_code : List UInt8} {r : Bool} (hS : SH w K [] w K []) (hs4 : SliceAt tU8 K a1 n2 c3 p0_code) (hm : M.laws_FnDawgHead F p0_code = some r) :
    Calls Try.prog 11 #[.slice a1 n2 c3] w fun e w' => ∃ (K' : KMap), e = .returned (.bool r) ∧ SH w K [] w' K' [] := by
  rw [M.laws_FnDawgHead] at hm
  refine calls_in Try.func11 rfl Try.ntmps11 rfl ?_
  refine wc_seq ?_
  refine wc_region ?_
  refine wl_val wn rfl (rv_assign (v := .bool false) rfl) ?_
  refine wl_nil ?_
  refine qe_seq ?_
  refine wc_seq ?_
  refine wc_seq ?_
  refine wc_region ?_
  refine wl_val wn rfl (rv_move rfl) ?_
  refine wl_val wn rfl (rv_len (t := tU8) Try.underlying22 rfl hs4) ?_
  refine wl_val wn rfl (rv_gtr rfl rfl) ?_
  refine wl_nil ?_
  refine qe_seq ?_
  refine wc_cond rfl (fun hb5 => ?_) (fun hb5 => ?_)
  · have h6 := cond_t hb5 hm
    refine wc_seq ?_
    refine wc_region ?_
    refine wl_val wn rfl (rv_assign (v := .bool true) rfl) ?_
    refine wl_nil ?_
    refine qe_seq ?_
    refine wc_ret ?_
    refine qe_then_ret ?_
    obtain rfl := Option.some.inj h6
    exact qe_ret (vs := [_]) Try.results11 ⟨rfl, trivial⟩ ⟨K, rfl, hS⟩
  · have h6 := cond_f hb5 hm
    refine wc_skip ?_
    refine qe_seq ?_
    refine wc_seq ?_
    refine wc_region ?_
    refine wl_val wn rfl (rv_move rfl) ?_
    obtain ⟨r7, hx8, h9⟩ := Option.bind_eq_some_iff.1 h6
    refine wl_call wn rfl (rt_call (vs := [.slice a1 n2 c3]) co43 rfl) ((ok_spec_DrawDawgHead F) hS.enter0 hs4 hx8) ?_
    rintro e18 w11 ⟨a13, n14, c15, K10, rfl, hS12, hs16, hl17⟩
    refine ⟨_, rfl, ?_⟩
    have hS19 : SH _ _ _ _ _ [_] := SH.call0 hS hS12
    refine wl_val wn rfl (rv_move rfl) ?_
    refine wl_val wn rfl (rv_extract rfl rfl) ?_
    refine wl_val wn rfl (rv_extract rfl rfl) ?_
    refine wl_val wn rfl (rv_assign rfl) ?_
    refine wl_val wn rfl (rv_assign rfl) ?_
    refine wl_nil ?_
    refine qe_seq ?_
    refine wc_seq ?_
    refine wc_region ?_
    refine wl_val wn rfl (rv_move rfl) ?_
    refine wl_val wn rfl (rv_move rfl) ?_
    obtain ⟨r20, hx21, h22⟩ := Option.bind_eq_some_iff.1 h9
    refine wl_call wn rfl (rt_call (vs := [.slice a13 n14 c15, sv r7.2]) co36 rfl) ((ok_impl_DawgHead F) hS19.enter0 hs16 hl17 hx21) ?_
    rintro e30 w24 ⟨a26, n27, c28, K23, rfl, hS25, hs29⟩
    refine ⟨_, rfl, ?_⟩
    have hS31 : SH _ _ _ _ _ [_, _] := SH.call0 hS19 hS25
    refine wl_val wn rfl (rv_assign rfl) ?_
    refine wl_nil ?_
    refine qe_seq ?_
    refine wc_seq ?_
    refine wc_seq ?_
    obtain ⟨o32, h33, h34⟩ := Option.bind_eq_some_iff.1 h22
    refine wc_cutg (fun E' w' => ∃ (K35 : KMap), E' = [(3, .slice a13 n14 c15), (4, sv r7.2), (5, .slice a26 n27 c28), (30, .bool o32)] ∧ SH w K [] w' K35 [] ∧ KLe K23 K35) ?_ ?_
    · refine wc_region ?_
      refine wl_val wn rfl (rv_move rfl) ?_
      refine wl_val wn rfl (rv_move rfl) ?_
      refine wl_val wn rfl (rv_move rfl) ?_
      obtain ⟨r39, hx40, h41⟩ := Option.bind_eq_some_iff.1 h33
      refine wl_call wn rfl (rt_call (vs := [.slice a13 n14 c15, sv r7.2]) co44 rfl) ((ok_spec_DawgHead F) hS31.enter0 (SliceAt.mono hS25.le hs16) hl17 hx40) ?_
      rintro e49 w43 ⟨a45, n46, c47, K42, rfl, hS44, hs48⟩
      refine ⟨_, rfl, ?_⟩
      have hS50 : SH _ _ _ _ _ [_, _, _] := SH.call0 hS31 hS44
      obtain ⟨r51, hx52, h53⟩ := Option.bind_eq_some_iff.1 h41
      refine wl_call wn rfl (rt_call (vs := [.slice a26 n27 c28, .slice a45 n46 c47]) co35 rfl) ((ok_laws_foTexts F) hS50.enter0 (SliceAt.mono hS44.le hs29) hs48 hx52) ?_
      rintro e57 w55 ⟨K54, rfl, hS56⟩
      refine ⟨_, rfl, ?_⟩
      have hS58 : SH _ _ _ _ _ [_, _, _] := SH.call0 hS50 hS56
      refine wl_val wn rfl (rv_not rfl) ?_
      refine wl_val wn rfl (rv_move rfl) ?_
      rcases bool_tf ((!r51)) with hb59 | hb59
      · have h60 := cond_t hb59 h53
        refine wl_un (ug rfl rfl hb59) rfl ?_
        refine wl_un (ug rfl rfl hb59) rfl ?_
        refine wl_un (ug rfl rfl hb59) rfl ?_
        refine wl_val wn rfl (rv_pick_t (v := .bool true) rfl hb59 rfl) ?_
        refine wl_nil ?_
        obtain rfl := Option.some.inj h60
        have hS61 : SH _ _ _ _ _ [] := SH.sublist hS58 (.cons _ (.cons _ (.cons _ .slnil)))
        exact qe_mid' ⟨K54, rfl, hS61, (hS44.le.trans hS56.le)⟩ ⟨rfl, rfl, rfl, rfl, trivial⟩
      · have h60 := cond_f hb59 h53
        refine wl_val (wg rfl rfl hb59) rfl (rv_move rfl) ?_
        obtain ⟨r62, hx63, h64⟩ := Option.bind_eq_some_iff.1 h60
        refine wl_call (wg rfl rfl hb59) rfl (rt_call (vs := [.slice a13 n14 c15]) co34 rfl) ((ok_impl_DawgOk F) hS58.enter0 (SliceAt.mono ((hS25.le.trans hS44.le).trans hS56.le) hs16) hx63) ?_
        rintro e68 w66 ⟨K65, rfl, hS67⟩
        refine ⟨_, rfl, ?_⟩
        have hS69 : SH _ _ _ _ _ [_, _, _] := SH.call0 hS58 hS67
        refine wl_val (wg rfl rfl hb59) rfl (rv_not rfl) ?_
        refine wl_val wn rfl (rv_pick_f rfl hb59 rfl) ?_
        refine wl_nil ?_
        obtain rfl := Option.some.inj h64
        have hS70 : SH _ _ _ _ _ [] := SH.sublist hS69 (.cons _ (.cons _ (.cons _ .slnil)))
        exact qe_mid' ⟨K65, rfl, hS70, ((hS44.le.trans hS56.le).trans hS67.le)⟩ ⟨rfl, rfl, rfl, rfl, trivial⟩
    · rintro _ w37 ⟨K35, rfl, hS38, hl36⟩
      refine qe_seq ?_
      refine wc_cond rfl (fun hb71 => ?_) (fun hb71 => ?_)
      · have h72 := cond_t hb71 h34
        refine wc_seq ?_
        refine wc_region ?_
        refine wl_val wn rfl (rv_move rfl) ?_
        refine wl_val wn rfl (rv_move rfl) ?_
        refine wl_val wn rfl (rv_move rfl) ?_
        obtain ⟨r73, hx74, h75⟩ := Option.bind_eq_some_iff.1 h72
        refine wl_call wn rfl (rt_call (vs := [.slice a13 n14 c15, sv r7.2]) co44 rfl) ((ok_spec_DawgHead F) hS38.enter0 (SliceAt.mono (hS25.le.trans hl36) hs16) hl17 hx74) ?_
        rintro e83 w77 ⟨a79, n80, c81, K76, rfl, hS78, hs82⟩
        refine ⟨_, rfl, ?_⟩
        have hS84 : SH _ _ _ _ _ [_] := SH.call0 hS38 hS78
        obtain ⟨r85, hx86, h87⟩ := Option.bind_eq_some_iff.1 h75
        refine wl_call wn rfl (rt_call (vs := [.slice a26 n27 c28, .slice a79 n80 c81]) co35 rfl) ((ok_laws_foTexts F) hS84.enter0 (SliceAt.mono (hl36.trans hS78.le) hs29) hs82 hx86) ?_
        rintro e91 w89 ⟨K88, rfl, hS90⟩
        refine ⟨_, rfl, ?_⟩
        have hS92 : SH _ _ _ _ _ [_] := SH.call0 hS84 hS90
        refine wl_val wn rfl (rv_assign rfl) ?_
        refine wl_nil ?_
        refine qe_seq ?_
        refine wc_ret ?_
        refine qe_then_ret ?_
        obtain rfl := Option.some.inj h87
        have hS93 : SH _ _ _ _ _ [] := SH.sublist hS92 (.cons _ .slnil)
        exact qe_ret (vs := [_]) Try.results11 ⟨rfl, trivial⟩ ⟨K88, rfl, hS93⟩
      · have h72 := cond_f hb71 h34
        refine wc_skip ?_
        refine qe_seq ?_
        refine wc_seq ?_
        refine wc_region ?_
        refine wl_val wn rfl (rv_move rfl) ?_
        obtain ⟨r94, hx95, h96⟩ := Option.bind_eq_some_iff.1 h72
        refine wl_call wn rfl (rt_call (vs := [.slice a13 n14 c15, sv []]) co36 rfl) ((ok_impl_DawgHead F) hS38.enter0 (SliceAt.mono (hS25.le.trans hl36) hs16) (by decide : ([] : Str).length ≤ maxLen) hx95) ?_
        rintro e104 w98 ⟨a100, n101, c102, K97, rfl, hS99, hs103⟩
        refine ⟨_, rfl, ?_⟩
        have hS105 : SH _ _ _ _ _ [_] := SH.call0 hS38 hS99
        refine wl_val wn rfl (rv_assign rfl) ?_
        refine wl_nil ?_
        refine qe_seq ?_
        refine wc_seq ?_
        refine wc_region ?_
        refine wl_buildSlice0 tStr wn rfl Try.underlying26 tf9 hS105 ?_
        intro a106 w107 K108 hl109 hs110 hS111
        refine wl_val wn rfl (rv_assign rfl) ?_
        refine wl_nil ?_
        refine qe_seq ?_
        refine wc_seq ?_
        refine wc_seq ?_
        refine wc_region ?_
        refine wl_val wn rfl (rv_assign (v := .int .i64 0) rfl) ?_
        refine wl_nil ?_
        refine qe_seq ?_
        obtain ⟨o112, h113, h114⟩ := Option.bind_eq_some_iff.1 h96
        refine wc_cutg (fun E' w' => ∃ (a119 : Option Addr) (n120 c121 : Nat) (K115 : KMap), E' = [(5, .slice a26 n27 c28), (7, .slice a119 n120 c121)] ∧ SH w K [] w' K115 [tail (.slice a119 n120 c121) 9 1] ∧ KLe K108 K115 ∧ SliceAt tStr K115 a119 n120 c121 o112) ?_ ?_
        · refine wc_block ?_
          obtain ⟨r124, h125, h126⟩ := Option.bind_eq_some_iff.1 h113
          have hS136 : SH _ _ _ _ _ [_] := SH.sublist hS111 (.cons_cons _ (.cons _ .slnil))
          refine wc_while' (fun (s123 : (List Str) × Int) E' w' => ∃ (a131 : Option Addr) (n132 c133 : Nat) (K127 : KMap), E' = [(4, sv r7.2), (5, .slice a26 n27 c28), (6, .slice a100 n101 c102), (7, .slice a131 n132 c133), (8, .int .i64 s123.2)] ∧ SH w K [] w' K127 [tail (.slice a131 n132 c133) 9 1] ∧ KLe K108 K127 ∧ SliceAt tStr K127 a131 n132 c133 s123.1 ∧ rng64 s123.2) h125 ⟨a106, 0, 0, K108, rfl, hS136, (KLe.refl _), hs110, (by decide : rng64 0)⟩ ⟨rfl, rfl, rfl, rfl, rfl, trivial⟩ ?_
          rintro s123 _ w129 r137 h138 hx139 ⟨a131, n132, c133, K127, rfl, hS130, hl128, hs134, hr135⟩
          refine wc_seq ?_
          refine wc_seq ?_
          refine wc_region ?_
          refine wl_val wn rfl (rv_move rfl) ?_
          refine wl_val wn rfl (rv_move rfl) ?_
          refine wl_val wn rfl (rv_len (t := tStr) Try.underlying26 rfl (SliceAt.mono (hl109.trans hl128) hs103)) ?_
          refine wl_val wn rfl (rv_lss rfl rfl) ?_
          refine wl_nil ?_
          refine qe_seq ?_
          refine wc_cond rfl (fun hb140 => ?_) (fun hb140 => ?_)
          · have h141 := cond_t hb140 h138
            refine wc_skip ?_
            refine qe_seq ?_
            refine wc_seq ?_
            refine wc_block ?_
            refine wc_seq ?_
            obtain ⟨o142, h143, h144⟩ := Option.bind_eq_some_iff.1 h141
            refine wc_cutg (fun E' w' => ∃ (K145 : KMap), E' = [(4, sv r7.2), (5, .slice a26 n27 c28), (6, .slice a100 n101 c102), (7, .slice a131 n132 c133), (8, .int .i64 s123.2), (63, .bool o142)] ∧ SH w K [] w' K145 [tail (.slice a131 n132 c133) 9 1] ∧ KLe K127 K145) ?_ ?_
            · refine wc_region ?_
              refine wl_val wn rfl (rv_move rfl) ?_
              refine wl_val wn rfl (rv_move rfl) ?_
              obtain ⟨x149, hx150, h151⟩ := Option.bind_eq_some_iff.1 h143
              refine wl_indexAddr (t := tStr) wn rfl Try.underlying26 tf9 rfl rfl (SliceAt.mono (hl109.trans hl128) hs103) hx150 ?_
              intro b152 o153 u154 hu155 ha156
              obtain ⟨rfl, hl157⟩ := hu155
              have ha158 : AtK _ b152 o153 [sv x149] := ha156
              refine wl_val wn rfl (rv_load1 tf9 rfl hS130 (ha158 0 _ rfl)) ?_
              refine wl_val wn rfl (rv_slen Try.underlying9 rfl) ?_
              refine wl_val wn rfl (rv_move rfl) ?_
              refine wl_val wn rfl (rv_slen Try.underlying9 rfl) ?_
              refine wl_val wn rfl (rv_geq rfl rfl) ?_
              refine wl_val wn rfl (rv_move rfl) ?_
              rcases bool_tf (decide ((r7.2.length : Int) ≤ (x149.length : Int))) with hb159 | hb159
              · have h160 := cond_t hb159 h151
                refine wl_val (wg rfl rfl hb159) rfl (rv_move rfl) ?_
                refine wl_val (wg rfl rfl hb159) rfl (rv_move rfl) ?_
                obtain ⟨x161, hx162, h163⟩ := Option.bind_eq_some_iff.1 h160
                refine wl_indexAddr (t := tStr) (wg rfl rfl hb159) rfl Try.underlying26 tf9 rfl rfl (SliceAt.mono (hl109.trans hl128) hs103) hx162 ?_
                intro b164 o165 u166 hu167 ha168
                obtain ⟨rfl, hl169⟩ := hu167
                have ha170 : AtK _ b164 o165 [sv x161] := ha168
                refine wl_val (wg rfl rfl hb159) rfl (rv_load1 tf9 rfl hS130 (ha170 0 _ rfl)) ?_
                refine wl_val (wg rfl rfl hb159) rfl (rv_move rfl) ?_
                refine wl_val (wg rfl rfl hb159) rfl (rv_slen Try.underlying9 rfl) ?_
                obtain ⟨x171, hx172, h173⟩ := Option.bind_eq_some_iff.1 h163
                refine wl_val (wg rfl rfl hb159) rfl (rv_ssl_h Try.underlying9 rfl rfl hx172) ?_
                refine wl_val (wg rfl rfl hb159) rfl (rv_move rfl) ?_
                refine wl_val (wg rfl rfl hb159) rfl (rv_seql rfl rfl) ?_
                refine wl_val wn rfl (rv_pick_t rfl hb159 rfl) ?_
                refine wl_nil ?_
                obtain rfl := Option.some.inj h173
                exact qe_mid' ⟨K127, rfl, hS130, (KLe.refl _)⟩ ⟨rfl, rfl, rfl, rfl, rfl, rfl, trivial⟩
              · have h160 := cond_f hb159 h151
                refine wl_un (ug rfl rfl hb159) rfl ?_
                refine wl_un (ug rfl rfl hb159) rfl ?_
                refine wl_un (ug rfl rfl hb159) rfl ?_
                refine wl_un (ug rfl rfl hb159) rfl ?_
                refine wl_un (ug rfl rfl hb159) rfl ?_
                refine wl_un (ug rfl rfl hb159) rfl ?_
                refine wl_un (ug rfl rfl hb159) rfl ?_
                refine wl_un (ug rfl rfl hb159) rfl ?_
                refine wl_un (ug rfl rfl hb159) rfl ?_
                refine wl_val wn rfl (rv_pick_f (v := .bool false) rfl hb159 rfl) ?_
                refine wl_nil ?_
                obtain rfl := Option.some.inj h160
                exact qe_mid' ⟨K127, rfl, hS130, (KLe.refl _)⟩ ⟨rfl, rfl, rfl, rfl, rfl, rfl, trivial⟩
            · rintro _ w147 ⟨K145, rfl, hS148, hl146⟩
              refine qe_seq ?_
              refine wc_cond rfl (fun hb174 => ?_) (fun hb174 => ?_)
              · have h175 := cond_t hb174 h144
                refine wc_region ?_
                refine wl_val wn rfl (rv_move rfl) ?_
                refine wl_val wn rfl (rv_move rfl) ?_
                refine wl_val wn rfl (rv_move rfl) ?_
                obtain ⟨x176, hx177, h178⟩ := Option.bind_eq_some_iff.1 h175
                refine wl_indexAddr (t := tStr) wn rfl Try.underlying26 tf9 rfl rfl (SliceAt.mono ((hl109.trans hl128).trans hl146) hs103) hx177 ?_
                intro b179 o180 u181 hu182 ha183
                obtain ⟨rfl, hl184⟩ := hu182
                have ha185 : AtK _ b179 o180 [sv x176] := ha183
                refine wl_val wn rfl (rv_load1 tf9 rfl hS148 (ha185 0 _ rfl)) ?_
                refine wl_buildSlice (t := tStr) (n := 1) (pv := [(0, sv x176)]) (cs := [sv x176]) (xs := [x176]) wn rfl Try.underlying26 tf9 rfl rfl rfl (by kernel_rfl) rfl rfl (lit_cons (u := sv x176) (z := x176) ⟨rfl, hl184⟩ lit_nil) hS148 ?_
                intro a186 w187 K188 hl189 hs190 hS191
                have hS192 : SH _ _ _ _ _ [_, _] := SH.front (p := [_]) hS191
                obtain ⟨x193, hx194, h195⟩ := Option.bind_eq_some_iff.1 h178
                refine wl_append (t := tStr) wn rfl Try.underlying26 tf9 rfl rfl rfl rfl rfl (SliceAt.mono (hl146.trans hl189) hs134) hs190 hx194 hS192 ?_
                intro a196 n197 c198 w199 K200 hl201 hs202 hS203
                refine wl_val wn rfl (rv_assign rfl) ?_
                refine wl_nil ?_
                refine qe_block ?_
                refine qe_seq ?_
                refine wc_region ?_
                refine wl_val wn rfl (rv_move rfl) ?_
                refine wl_val wn rfl (rv_add rfl rfl) ?_
                refine wl_val wn rfl (rv_assign rfl) ?_
                refine wl_nil ?_
                obtain rfl := Option.some.inj h195
                have hS204 : SH _ _ _ _ _ [_] := SH.sublist hS203 (.cons_cons _ (.cons _ .slnil))
                exact qe_mid' ⟨_, rfl, a196, n197, c198, K200, rfl, hS204, (((hl128.trans hl146).trans hl189).trans hl201), hs202, (w64_rng _)⟩ ⟨rfl, rfl, rfl, rfl, rfl, trivial⟩
              · have h175 := cond_f hb174 h144
                refine wc_skip ?_
                refine qe_block ?_
                refine qe_seq ?_
                refine wc_region ?_
                refine wl_val wn rfl (rv_move rfl) ?_
                refine wl_val wn rfl (rv_add rfl rfl) ?_
                refine wl_val wn rfl (rv_assign rfl) ?_
                refine wl_nil ?_
                obtain rfl := Option.some.inj h175
                exact qe_mid' ⟨_, rfl, a131, n132, c133, K145, rfl, hS148, (hl128.trans hl146), (SliceAt.mono hl146 hs134), (w64_rng _)⟩ ⟨rfl, rfl, rfl, rfl, rfl, trivial⟩
          · have h141 := cond_f hb140 h138
            refine wc_exit ?_
            refine qe_then_exit ?_
            refine qe_then_exit ?_
            obtain rfl := Option.some.inj h141
            have e205 := hx139 _ rfl
            subst e205
            refine qe_block_eq ?_
            obtain rfl := Option.some.inj h126
            exact qe_mid' ⟨a131, n132, c133, K127, rfl, hS130, hl128, hs134⟩ ⟨rfl, rfl, trivial⟩
        · rintro _ w117 ⟨a119, n120, c121, K115, rfl, hS118, hl116, hs122⟩
          refine qe_seq ?_
          refine wc_seq ?_
          refine wc_region ?_
          refine wl_val wn rfl (rv_move rfl) ?_
          refine wl_val wn rfl (rv_move rfl) ?_
          obtain ⟨r206, hx207, h208⟩ := Option.bind_eq_some_iff.1 h114
          refine wl_call wn rfl (rt_call (vs := [.slice a26 n27 c28, .slice a119 n120 c121]) co35 rfl) ((ok_laws_foTexts F) hS118.enter0 (SliceAt.mono (((hl36.trans hS99.le).trans hl109).trans hl116) hs29) hs122 hx207) ?_
          rintro e212 w210 ⟨K209, rfl, hS211⟩
          refine ⟨_, rfl, ?_⟩
          have hS213 : SH _ _ _ _ _ [_] := SH.call0 hS118 hS211
          refine wl_val wn rfl (rv_assign rfl) ?_
          refine wl_nil ?_
          refine qe_seq ?_
          refine wc_ret ?_
          obtain rfl := Option.some.inj h208
          have hS214 : SH _ _ _ _ _ [] := SH.sublist hS213 (.cons _ .slnil)
          exact qe_ret (vs := [_]) Try.results11 ⟨rfl, trivial⟩ ⟨K209, rfl, hS214⟩

theorem ok_spec_DawgOk (F : Nat) {w : World} {K : KMap} {a1 : Option Addr} {n2 c3 : Nat} {p0_d : List GState} {r : Bool} (hS : SH w K [] w K []) (hs4 : SliceAt tGState K a1 n2 c3 p0_d) (hm : M.spec_DawgOk F p0_d = some r) :
    Calls Try.prog 41 #[.slice a1 n2 c3] w fun e w' => ∃ (K' : KMap), e = .returned (.bool r) ∧ SH w K [] w' K' [] := by
  rw [M.spec_DawgOk] at hm
  refine calls_in Try.func41 rfl Try.ntmps41 rfl ?_
  refine wc_seq ?_
  refine wc_region ?_
  refine wl_val wn rfl (rv_assign (v := .bool false) rfl) ?_
  refine wl_nil ?_
  refine qe_seq ?_
  refine wc_seq ?_
  refine wc_region ?_
  refine wl_val wn rfl (rv_move rfl) ?_
  obtain ⟨r5, hx6, h7⟩ := Option.bind_eq_some_iff.1 hm
  refine wl_call wn rfl (rt_call (vs := [.slice a1 n2 c3]) co68 rfl) ((ok_spec_l4Ok F) hS.enter0 hs4 hx6) ?_
  rintro e11 w9 ⟨K8, rfl, hS10⟩
  refine ⟨_, rfl, ?_⟩
  have hS12 : SH _ _ _ _ _ [] := SH.call0 hS hS10
  refine wl_val wn rfl (rv_assign rfl) ?_
  refine wl_nil ?_
  refine qe_seq ?_
  refine wc_ret ?_
  obtain rfl := Option.some.inj h7
  exact qe_ret (vs := [_]) Try.results41 ⟨rfl, trivial⟩ ⟨K8, rfl, hS12⟩

theorem ok_spec_DawgRank (F : Nat) {w : World} {K : KMap} {a1 : Option Addr} {n2 c3 : Nat} {p0_d : List GState} {p1_s : Str} {r : Int} (hS : SH w K [] w K []) (hs4 : SliceAt tGState K a1 n2 c3 p0_d) (hl5 : p1_s.length ≤ maxLen) (hm : M.spec_DawgRank F p0_d p1_s = some r) :
    Calls Try.prog 45 #[.slice a1 n2 c3, sv p1_s] w fun e w' => ∃ (K' : KMap), e = .returned (.int .i64 r) ∧ SH w K [] w' K' [] ∧ rng64 r := by
  rw [M.spec_DawgRank] at hm
  refine calls_in Try.func45 rfl Try.ntmps45 rfl ?_
  refine wc_seq ?_
  refine wc_region ?_
  refine wl_val wn rfl (rv_assign (v := .int .i64 0) rfl) ?_
  refine wl_nil ?_
  refine qe_seq ?_
  refine wc_seq ?_
  refine wc_seq ?_
  refine wc_region ?_
  refine wl_val wn rfl (rv_move rfl) ?_
  obtain ⟨r6, hx7, h8⟩ := Option.bind_eq_some_iff.1 hm
  refine wl_call wn rfl (rt_call (vs := [.slice a1 n2 c3]) co68 rfl) ((ok_spec_l4Ok F) hS.enter0 hs4 hx7) ?_
  rintro e12 w10 ⟨K9, rfl, hS11⟩
  refine ⟨_, rfl, ?_⟩
  have hS13 : SH _ _ _ _ _ [] := SH.call0 hS hS11
  refine wl_val wn rfl (rv_not rfl) ?_
  refine wl_nil ?_
  refine qe_seq ?_
  refine wc_cond rfl (fun hb14 => ?_) (fun hb14 => ?_)
  · have h15 := cond_t hb14 h8
    refine wc_seq ?_
    refine wc_region ?_
    refine wl_val wn rfl (rv_assign (v := .int .i64 (-1)) rfl) ?_
    refine wl_nil ?_
    refine qe_seq ?_
    refine wc_ret ?_
    refine qe_then_ret ?_
    obtain rfl := Option.some.inj h15
    exact qe_ret (vs := [_]) Try.results45 ⟨rfl, trivial⟩ ⟨K9, rfl, hS13, (by decide : rng64 (-1))⟩
  · have h15 := cond_f hb14 h8
    refine wc_skip ?_
    refine qe_seq ?_
    refine wc_seq ?_
    refine wc_region ?_
    refine wl_val wn rfl (rv_move rfl) ?_
    refine wl_val wn rfl (rv_move rfl) ?_
    obtain ⟨r16, hx17, h18⟩ := Option.bind_eq_some_iff.1 h15
    refine wl_call wn rfl (rt_call (vs := [.slice a1 n2 c3, sv p1_s]) co73 rfl) ((ok_spec_l4Go F) hS13.enter0 (SliceAt.mono hS11.le hs4) hl5 hx17) ?_
    rintro e24 w20 ⟨K19, rfl, hS21, hr22, hr23⟩
    refine ⟨_, rfl, ?_⟩
    have hS25 : SH _ _ _ _ _ [] := SH.call0 hS13 hS21
    refine wl_val wn rfl (rv_move rfl) ?_
    refine wl_val wn rfl (rv_extract rfl rfl) ?_
    refine wl_val wn rfl (rv_extract rfl rfl) ?_
    refine wl_val wn rfl (rv_assign rfl) ?_
    refine wl_val wn rfl (rv_assign rfl) ?_
    refine wl_nil ?_
    refine qe_seq ?_
    refine wc_seq ?_
    refine wc_seq ?_
    obtain ⟨o26, h27, h28⟩ := Option.bind_eq_some_iff.1 h18
    refine wc_cutg (fun E' w' => ∃ (K29 : KMap), E' = [(6, .int .i64 r16.2), (25, .bool o26)] ∧ SH w K [] w' K29 [] ∧ KLe K19 K29) ?_ ?_
    · refine wc_region ?_
      refine wl_val wn rfl (rv_move rfl) ?_
      refine wl_val wn rfl (rv_lss rfl rfl) ?_
      refine wl_val wn rfl (rv_move rfl) ?_
      rcases bool_tf (decide (r16.1 < (0 : Int))) with hb33 | hb33
      · have h34 := cond_t hb33 h27
        refine wl_un (ug rfl rfl hb33) rfl ?_
        refine wl_un (ug rfl rfl hb33) rfl ?_
        refine wl_un (ug rfl rfl hb33) rfl ?_
        refine wl_un (ug rfl rfl hb33) rfl ?_
        refine wl_un (ug rfl rfl hb33) rfl ?_
        refine wl_un (ug rfl rfl hb33) rfl ?_
        refine wl_val wn rfl (rv_pick_t (v := .bool true) rfl hb33 rfl) ?_
        refine wl_nil ?_
        obtain rfl := Option.some.inj h34
        exact qe_mid' ⟨K19, rfl, hS25, (KLe.refl _)⟩ ⟨rfl, rfl, trivial⟩
      · have h34 := cond_f hb33 h27
        refine wl_val (wg rfl rfl hb33) rfl (rv_move rfl) ?_
        refine wl_val (wg rfl rfl hb33) rfl (rv_move rfl) ?_
        obtain ⟨x35, hx36, h37⟩ := Option.bind_eq_some_iff.1 h34
        refine wl_indexAddr (t := tGState) (wg rfl rfl hb33) rfl Try.underlying28 tf33 rfl rfl (SliceAt.mono (hS11.le.trans hS21.le) hs4) hx36 ?_
        intro b38 o39 u40 hu41 ha42
        obtain ⟨a44, n45, c46, rfl, hr43, hs47⟩ := hu41
        have ha48 : AtK _ b38 o39 [.bool x35.Final, .int .i64 x35.Many, .slice a44 n45 c46] := ha42
        refine wl_val (wg rfl rfl hb33) rfl (rv_fieldAddr ff33_0 rfl) ?_
        refine wl_val (wg rfl rfl hb33) rfl (rv_load1 tf4 rfl hS25 (ha48 0 _ rfl)) ?_
        refine wl_val (wg rfl rfl hb33) rfl (rv_not rfl) ?_
        refine wl_val wn rfl (rv_pick_f rfl hb33 rfl) ?_
        refine wl_nil ?_
        obtain rfl := Option.some.inj h37
        exact qe_mid' ⟨K19, rfl, hS25, (KLe.refl _)⟩ ⟨rfl, rfl, trivial⟩
    · rintro _ w31 ⟨K29, rfl, hS32, hl30⟩
      refine qe_seq ?_
      refine wc_cond rfl (fun hb49 => ?_) (fun hb49 => ?_)
      · have h50 := cond_t hb49 h28
        refine wc_seq ?_
        refine wc_region ?_
        refine wl_val wn rfl (rv_assign (v := .int .i64 (-1)) rfl) ?_
        refine wl_nil ?_
        refine qe_seq ?_
        refine wc_ret ?_
        refine qe_then_ret ?_
        obtain rfl := Option.some.inj h50
        exact qe_ret (vs := [_]) Try.results45 ⟨rfl, trivial⟩ ⟨K29, rfl, hS32, (by decide : rng64 (-1))⟩
      · have h50 := cond_f hb49 h28
        refine wc_skip ?_
        refine qe_seq ?_
        refine wc_seq ?_
        refine wc_region ?_
        refine wl_val wn rfl (rv_move rfl) ?_
        refine wl_val wn rfl (rv_assign rfl) ?_
        refine wl_nil ?_
        refine qe_seq ?_
        refine wc_ret ?_
        obtain rfl := Option.some.inj h50
        exact qe_ret (vs := [_]) Try.results45 ⟨rfl, trivial⟩ ⟨K29, rfl, hS32, hr23⟩
end Go.Proofs.Ytdopcpaapniioaa
