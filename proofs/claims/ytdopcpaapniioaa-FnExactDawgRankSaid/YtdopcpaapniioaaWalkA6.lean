/-
  Walks of the functions. Printed by gen.py.
-/
import Derived.Test.YtdopcpaapniioaaWalkA5
set_option linter.unusedVariables false
namespace Go.Proofs.Ytdopcpaapniioaa
open Go Go.Fk Go.RowKit

theorem ok_spec_l4All (F : Nat) : ∀ {w : World} {K : KMap} {a1 : Option Addr} {n2 c3 : Nat} {p0_d : List GState} {p1_at : Int} {p2_head : Str} {r : (List Str)} (hS : SH w K [] w K []) (hs4 : SliceAt tGState K a1 n2 c3 p0_d) (hr5 : rng64 p1_at) (hl6 : p2_head.length ≤ maxLen) (hm : M.spec_l4All F p0_d p1_at p2_head = some r),
    Calls Try.prog 70 #[.slice a1 n2 c3, .int .i64 p1_at, sv p2_head] w fun e w' => ∃ (a_1 : Option Addr) (n_2 c_3 : Nat) (K' : KMap), e = .returned (.slice a_1 n_2 c_3) ∧ SH w K [] w' K' [tail (.slice a_1 n_2 c_3) 9 1] ∧ SliceAt tStr K' a_1 n_2 c_3 r := by
  induction F with
  | zero => intros; rename_i hm; rw [M.spec_l4All] at hm; cases hm
  | succ F ih =>
    intro w K a1 n2 c3 p0_d p1_at p2_head r hS hs4 hr5 hl6 hm
    rw [M.spec_l4All] at hm
    refine calls_in Try.func70 rfl Try.ntmps70 rfl ?_
    refine wc_seq ?_
    refine wc_region ?_
    refine wl_val wn rfl (rv_assign (v := .slice none 0 0) rfl) ?_
    refine wl_nil ?_
    refine qe_seq ?_
    refine wc_seq ?_
    refine wc_region ?_
    refine wl_buildSlice0 tStr wn rfl Try.underlying26 tf9 hS ?_
    intro a7 w8 K9 hl10 hs11 hS12
    refine wl_val wn rfl (rv_assign rfl) ?_
    refine wl_nil ?_
    refine qe_seq ?_
    refine wc_seq ?_
    refine wc_seq ?_
    refine wc_region ?_
    refine wl_val wn rfl (rv_move rfl) ?_
    refine wl_val wn rfl (rv_move rfl) ?_
    obtain ⟨x13, hx14, h15⟩ := Option.bind_eq_some_iff.1 hm
    refine wl_indexAddr (t := tGState) wn rfl Try.underlying28 tf33 rfl rfl (SliceAt.mono hl10 hs4) hx14 ?_
    intro b16 o17 u18 hu19 ha20
    obtain ⟨a22, n23, c24, rfl, hr21, hs25⟩ := hu19
    have ha26 : AtK _ b16 o17 [.bool x13.Final, .int .i64 x13.Many, .slice a22 n23 c24] := ha20
    refine wl_val wn rfl (rv_fieldAddr ff33_0 rfl) ?_
    refine wl_val wn rfl (rv_load1 tf4 rfl hS12 (ha26 0 _ rfl)) ?_
    refine wl_nil ?_
    refine qe_seq ?_
    obtain ⟨o27, h28, h29⟩ := Option.bind_eq_some_iff.1 h15
    refine wc_cutg (fun E' w' => ∃ (a34 : Option Addr) (n35 c36 : Nat) (K30 : KMap), E' = [(0, .slice a1 n2 c3), (1, .int .i64 p1_at), (2, sv p2_head), (7, .slice a34 n35 c36)] ∧ SH w K [] w' K30 [tail (.slice a34 n35 c36) 9 1] ∧ KLe K9 K30 ∧ SliceAt tStr K30 a34 n35 c36 o27) ?_ ?_
    · refine wc_cond rfl (fun hb38 => ?_) (fun hb38 => ?_)
      · have h39 := cond_t hb38 h28
        refine wc_region ?_
        refine wl_val wn rfl (rv_move rfl) ?_
        refine wl_val wn rfl (rv_move rfl) ?_
        refine wl_buildSlice (t := tStr) (n := 1) (pv := [(0, sv p2_head)]) (cs := [sv p2_head]) (xs := [p2_head]) wn rfl Try.underlying26 tf9 rfl rfl rfl (by kernel_rfl) rfl rfl (lit_cons (u := sv p2_head) (z := p2_head) ⟨rfl, hl6⟩ lit_nil) hS12 ?_
        intro a40 w41 K42 hl43 hs44 hS45
        have hS46 : SH _ _ _ _ _ [_, _] := SH.front (p := [_]) hS45
        obtain ⟨x47, hx48, h49⟩ := Option.bind_eq_some_iff.1 h39
        refine wl_append (t := tStr) wn rfl Try.underlying26 tf9 rfl rfl rfl rfl rfl (SliceAt.mono hl43 hs11) hs44 hx48 hS46 ?_
        intro a50 n51 c52 w53 K54 hl55 hs56 hS57
        refine wl_val wn rfl (rv_assign rfl) ?_
        refine wl_nil ?_
        obtain rfl := Option.some.inj h49
        have hS58 : SH _ _ _ _ _ [_] := SH.sublist hS57 (.cons_cons _ (.cons _ .slnil))
        exact qe_mid' ⟨a50, n51, c52, K54, rfl, hS58, (hl43.trans hl55), hs56⟩ ⟨rfl, rfl, rfl, rfl, trivial⟩
      · have h39 := cond_f hb38 h28
        refine wc_skip ?_
        obtain rfl := Option.some.inj h39
        exact qe_mid' ⟨a7, 0, 0, K9, rfl, hS12, (KLe.refl _), hs11⟩ ⟨rfl, rfl, rfl, rfl, trivial⟩
    · rintro _ w32 ⟨a34, n35, c36, K30, rfl, hS33, hl31, hs37⟩
      refine qe_seq ?_
      refine wc_seq ?_
      refine wc_seq ?_
      refine wc_region ?_
      refine wl_val wn rfl (rv_assign (v := .int .i64 0) rfl) ?_
      refine wl_nil ?_
      refine qe_seq ?_
      obtain ⟨o59, h60, h61⟩ := Option.bind_eq_some_iff.1 h29
      refine wc_cutg (fun E' w' => ∃ (a66 : Option Addr) (n67 c68 : Nat) (K62 : KMap), E' = [(7, .slice a66 n67 c68)] ∧ SH w K [] w' K62 [tail (.slice a66 n67 c68) 9 1] ∧ KLe K30 K62 ∧ SliceAt tStr K62 a66 n67 c68 o59) ?_ ?_
      · refine wc_block ?_
        obtain ⟨r71, h72, h73⟩ := Option.bind_eq_some_iff.1 h60
        refine wc_while' (fun (s70 : (List Str) × Int) E' w' => ∃ (a78 : Option Addr) (n79 c80 : Nat) (K74 : KMap), E' = [(0, .slice a1 n2 c3), (1, .int .i64 p1_at), (2, sv p2_head), (7, .slice a78 n79 c80), (8, .int .i64 s70.2)] ∧ SH w K [] w' K74 [tail (.slice a78 n79 c80) 9 1] ∧ KLe K30 K74 ∧ SliceAt tStr K74 a78 n79 c80 s70.1 ∧ rng64 s70.2) h72 ⟨a34, n35, c36, K30, rfl, hS33, (KLe.refl _), hs37, (by decide : rng64 0)⟩ ⟨rfl, rfl, rfl, rfl, rfl, trivial⟩ ?_
        rintro s70 _ w76 r83 h84 hx85 ⟨a78, n79, c80, K74, rfl, hS77, hl75, hs81, hr82⟩
        refine wc_seq ?_
        refine wc_seq ?_
        refine wc_region ?_
        refine wl_val wn rfl (rv_move rfl) ?_
        refine wl_val wn rfl (rv_move rfl) ?_
        refine wl_val wn rfl (rv_move rfl) ?_
        obtain ⟨x86, hx87, h88⟩ := Option.bind_eq_some_iff.1 h84
        refine wl_indexAddr (t := tGState) wn rfl Try.underlying28 tf33 rfl rfl (SliceAt.mono ((hl10.trans hl31).trans hl75) hs4) hx87 ?_
        intro b89 o90 u91 hu92 ha93
        obtain ⟨a95, n96, c97, rfl, hr94, hs98⟩ := hu92
        have ha99 : AtK _ b89 o90 [.bool x86.Final, .int .i64 x86.Many, .slice a95 n96 c97] := ha93
        refine wl_val wn rfl (rv_fieldAddr ff33_2 rfl) ?_
        refine wl_val wn rfl (rv_load1 tf31 rfl hS77 (ha99 2 _ rfl)) ?_
        refine wl_val wn rfl (rv_len (t := tGArc) Try.underlying31 rfl hs98) ?_
        refine wl_val wn rfl (rv_lss rfl rfl) ?_
        refine wl_nil ?_
        refine qe_seq ?_
        refine wc_cond rfl (fun hb100 => ?_) (fun hb100 => ?_)
        · have h101 := cond_t hb100 h88
          refine wc_skip ?_
          refine qe_seq ?_
          refine wc_seq ?_
          refine wc_block ?_
          refine wc_seq ?_
          refine wc_region ?_
          refine wl_val wn rfl (rv_move rfl) ?_
          refine wl_val wn rfl (rv_move rfl) ?_
          obtain ⟨x102, hx103, h104⟩ := Option.bind_eq_some_iff.1 h101
          refine wl_indexAddr (t := tGState) wn rfl Try.underlying28 tf33 rfl rfl (SliceAt.mono ((hl10.trans hl31).trans hl75) hs4) hx103 ?_
          intro b105 o106 u107 hu108 ha109
          obtain ⟨a111, n112, c113, rfl, hr110, hs114⟩ := hu108
          have ha115 : AtK _ b105 o106 [.bool x102.Final, .int .i64 x102.Many, .slice a111 n112 c113] := ha109
          refine wl_val wn rfl (rv_fieldAddr ff33_2 rfl) ?_
          refine wl_val wn rfl (rv_load1 tf31 rfl hS77 (ha115 2 _ rfl)) ?_
          refine wl_val wn rfl (rv_move rfl) ?_
          obtain ⟨x116, hx117, h118⟩ := Option.bind_eq_some_iff.1 h104
          refine wl_indexAddr (t := tGArc) wn rfl Try.underlying31 tf35 rfl rfl hs114 hx117 ?_
          intro b119 o120 u121 hu122 ha123
          obtain ⟨rfl, hr124⟩ := hu122
          have ha125 : AtK _ b119 o120 [iv8 x116.Byte, .int .i64 x116.To] := ha123
          refine wl_val wn rfl (rv_loadS (cs := [iv8 x116.Byte, .int .i64 x116.To]) tf35 rfl hS77 ha125 rfl) ?_
          refine wl_alloc wn rfl tf35 hS77 ?_
          intro g126 w127 hS128
          have hS129 : SH _ _ _ _ _ [obj g126 [iv8 0, .int .i64 0] 35, _] := hS128
          refine wl_store (cs' := [iv8 x116.Byte, .int .i64 x116.To]) (v := .agg #[iv8 x116.Byte, .int .i64 x116.To]) wn tf35 rfl rfl rfl (by simp [Value.cells, Value.oneCell', iv8]) hS129 rfl rfl ?_
          intro w130 hS131
          refine wl_nil ?_
          refine qe_seq ?_
          refine wc_region ?_
          refine wl_val wn rfl (rv_move rfl) ?_
          refine wl_val wn rfl (rv_move rfl) ?_
          refine wl_val wn rfl (rv_fieldAddr ff35_1 rfl) ?_
          refine wl_val wn rfl (rv_loadm1 tf3 rfl (.head _) hS131 rfl) ?_
          refine wl_val wn rfl (rv_move rfl) ?_
          refine wl_val wn rfl (rv_fieldAddr ff35_0 rfl) ?_
          refine wl_val wn rfl (rv_loadm1 tf5 rfl (.head _) hS131 rfl) ?_
          refine wl_buildSlice (t := tU8) (n := 1) (pv := [(0, iv8 x116.Byte)]) (cs := [iv8 x116.Byte]) (xs := [x116.Byte]) wn rfl Try.underlying22 tf5 rfl rfl rfl (by kernel_rfl) rfl rfl (lit_cons (u := iv8 x116.Byte) (z := x116.Byte) rfl lit_nil) hS131 ?_
          intro a132 w133 K134 hl135 hs136 hS137
          refine wl_val wn rfl (rv_b2s Try.underlying22 Try.underlying5 Try.underlying9 rfl hs136 hS137) ?_
          obtain ⟨x138, hx139, h140⟩ := Option.bind_eq_some_iff.1 h118
          refine wl_val wn rfl (rv_sadd rfl rfl hx139) ?_
          obtain ⟨r141, hx142, h143⟩ := Option.bind_eq_some_iff.1 h140
          refine wl_call wn rfl (rt_call (vs := [.slice a1 n2 c3, .int .i64 x116.To, sv x138]) co70 rfl) (ih hS137.enter0 (SliceAt.mono (((hl10.trans hl31).trans hl75).trans hl135) hs4) hr124 (len_cat hx139) hx142) ?_
          rintro e151 w145 ⟨a147, n148, c149, K144, rfl, hS146, hs150⟩
          refine ⟨_, rfl, ?_⟩
          have hS152 : SH _ _ _ _ _ [_, _, _, _] := SH.call0 hS137 hS146
          have hS153 : SH _ _ _ _ _ [_, _, _, _] := SH.front (p := [_, _, _]) hS152
          obtain ⟨x154, hx155, h156⟩ := Option.bind_eq_some_iff.1 h143
          refine wl_append (t := tStr) wn rfl Try.underlying26 tf9 rfl rfl rfl rfl rfl (SliceAt.mono (hl135.trans hS146.le) hs81) hs150 hx155 hS153 ?_
          intro a157 n158 c159 w160 K161 hl162 hs163 hS164
          refine wl_val wn rfl (rv_assign rfl) ?_
          refine wl_nil ?_
          refine qe_block ?_
          refine qe_seq ?_
          refine wc_region ?_
          refine wl_val wn rfl (rv_move rfl) ?_
          refine wl_val wn rfl (rv_add rfl rfl) ?_
          refine wl_val wn rfl (rv_assign rfl) ?_
          refine wl_nil ?_
          obtain rfl := Option.some.inj h156
          have hS165 : SH _ _ _ _ _ [_] := SH.sublist hS164 (.cons_cons _ (.cons _ (.cons _ (.cons _ .slnil))))
          exact qe_mid' ⟨_, rfl, a157, n158, c159, K161, rfl, hS165, (((hl75.trans hl135).trans hS146.le).trans hl162), hs163, (w64_rng _)⟩ ⟨rfl, rfl, rfl, rfl, rfl, trivial⟩
        · have h101 := cond_f hb100 h88
          refine wc_exit ?_
          refine qe_then_exit ?_
          refine qe_then_exit ?_
          obtain rfl := Option.some.inj h101
          have e166 := hx85 _ rfl
          subst e166
          refine qe_block_eq ?_
          obtain rfl := Option.some.inj h73
          exact qe_mid' ⟨a78, n79, c80, K74, rfl, hS77, hl75, hs81⟩ ⟨rfl, trivial⟩
      · rintro _ w64 ⟨a66, n67, c68, K62, rfl, hS65, hl63, hs69⟩
        refine qe_seq ?_
        refine wc_seq ?_
        refine wc_region ?_
        refine wl_val wn rfl (rv_move rfl) ?_
        refine wl_val wn rfl (rv_assign rfl) ?_
        refine wl_nil ?_
        refine qe_seq ?_
        refine wc_ret ?_
        obtain rfl := Option.some.inj h61
        exact qe_ret (vs := [_]) Try.results70 ⟨rfl, trivial⟩ ⟨a66, n67, c68, K62, rfl, hS65, hs69⟩

theorem ok_spec_l4Count (F : Nat) {w : World} {K : KMap} {a1 : Option Addr} {n2 c3 : Nat} {p0_d : List GState} {r : Int} (hS : SH w K [] w K []) (hs4 : SliceAt tGState K a1 n2 c3 p0_d) (hm : M.spec_l4Count F p0_d = some r) :
    Calls Try.prog 94 #[.slice a1 n2 c3] w fun e w' => ∃ (K' : KMap), e = .returned (.int .i64 r) ∧ SH w K [] w' K' [] ∧ rng64 r := by
  rw [M.spec_l4Count] at hm
  refine calls_in Try.func94 rfl Try.ntmps94 rfl ?_
  refine wc_seq ?_
  refine wc_region ?_
  refine wl_val wn rfl (rv_assign (v := .int .i64 0) rfl) ?_
  refine wl_nil ?_
  refine qe_seq ?_
  refine wc_seq ?_
  refine wc_region ?_
  refine wl_val wn rfl (rv_move rfl) ?_
  refine wl_val wn rfl (rv_len (t := tGState) Try.underlying28 rfl hs4) ?_
  obtain ⟨x5, hx6, h7⟩ := Option.bind_eq_some_iff.1 hm
  refine wl_make (t := tInt) wn rfl Try.underlying100 tf3 rfl rfl rfl hx6 ⟨rfl, (by decide : rng64 0)⟩ hS ?_
  intro g8 cs9 w10 hmx13 hrow11 hS12
  obtain ⟨m14, hm15⟩ : ∃ m, m = x5.length := ⟨_, rfl⟩
  rw [← hm15] at hmx13
  rw [← hm15]
  refine wl_val wn rfl (rv_assign rfl) ?_
  refine wl_nil ?_
  refine qe_seq ?_
  refine wc_seq ?_
  refine wc_seq ?_
  refine wc_region ?_
  refine wl_val wn rfl (rv_assign (v := .int .i64 0) rfl) ?_
  refine wl_nil ?_
  refine qe_seq ?_
  obtain ⟨o16, h17, h18⟩ := Option.bind_eq_some_iff.1 h7
  refine wc_cutg (fun E' w' => ∃ (s19 : (List Int)) (cs24 : List Value) (K20 : KMap), o16 = .inl s19 ∧ E' = [(0, .slice a1 n2 c3), (3, .slice (some ⟨g8, 0, none⟩) m14 m14)] ∧ SH w K [] w' K20 [obj g8 cs24 3] ∧ KLe K K20 ∧ RowAt true tInt K20 cs24 s19 ∧ m14 = s19.length) ?_ ?_
  · refine wc_block ?_
    obtain ⟨r28, h29, h30⟩ := Option.bind_eq_some_iff.1 h17
    refine wc_while' (fun (s27 : Int × (List Int)) E' w' => ∃ (cs36 : List Value) (K31 : KMap), E' = [(0, .slice a1 n2 c3), (3, .slice (some ⟨g8, 0, none⟩) m14 m14), (4, .int .i64 s27.1)] ∧ SH w K [] w' K31 [obj g8 cs36 3] ∧ KLe K K31 ∧ rng64 s27.1 ∧ RowAt true tInt K31 cs36 s27.2 ∧ m14 = s27.2.length) h29 ⟨cs9, K, rfl, hS12, (KLe.refl _), (by decide : rng64 0), hrow11, hm15⟩ ⟨rfl, rfl, rfl, trivial⟩ ?_
    rintro s27 _ w33 r39 h40 hx41 ⟨cs36, K31, rfl, hS34, hl32, hr35, hrow37, hm38⟩
    refine wc_seq ?_
    refine wc_seq ?_
    refine wc_region ?_
    refine wl_val wn rfl (rv_move rfl) ?_
    refine wl_val wn rfl (rv_move rfl) ?_
    refine wl_val wn rfl (rv_len (t := tGState) Try.underlying28 rfl (SliceAt.mono hl32 hs4)) ?_
    refine wl_val wn rfl (rv_lss rfl rfl) ?_
    refine wl_nil ?_
    refine qe_seq ?_
    refine wc_cond rfl (fun hb42 => ?_) (fun hb42 => ?_)
    · have h43 := cond_t hb42 h40
      refine wc_skip ?_
      refine qe_seq ?_
      refine wc_seq ?_
      refine wc_block ?_
      refine wc_seq ?_
      refine wc_seq ?_
      refine wc_region ?_
      refine wl_val wn rfl (rv_move rfl) ?_
      refine wl_val wn rfl (rv_move rfl) ?_
      obtain ⟨x44, hx45, h46⟩ := Option.bind_eq_some_iff.1 h43
      refine wl_indexAddr (t := tGState) wn rfl Try.underlying28 tf33 rfl rfl (SliceAt.mono hl32 hs4) hx45 ?_
      intro b47 o48 u49 hu50 ha51
      obtain ⟨a53, n54, c55, rfl, hr52, hs56⟩ := hu50
      have ha57 : AtK _ b47 o48 [.bool x44.Final, .int .i64 x44.Many, .slice a53 n54 c55] := ha51
      refine wl_val wn rfl (rv_fieldAddr ff33_0 rfl) ?_
      refine wl_val wn rfl (rv_load1 tf4 rfl hS34 (ha57 0 _ rfl)) ?_
      refine wl_nil ?_
      refine qe_seq ?_
      obtain ⟨o58, h59, h60⟩ := Option.bind_eq_some_iff.1 h46
      refine wc_cutg (fun E' w' => ∃ (cs65 : List Value) (K61 : KMap), E' = [(0, .slice a1 n2 c3), (3, .slice (some ⟨g8, 0, none⟩) m14 m14), (4, .int .i64 s27.1)] ∧ SH w K [] w' K61 [obj g8 cs65 3] ∧ KLe K31 K61 ∧ RowAt true tInt K61 cs65 o58 ∧ m14 = o58.length) ?_ ?_
      · refine wc_cond rfl (fun hb68 => ?_) (fun hb68 => ?_)
        · have h69 := cond_t hb68 h59
          refine wc_region ?_
          refine wl_val wn rfl (rv_move rfl) ?_
          refine wl_val wn rfl (rv_move rfl) ?_
          obtain ⟨x70, hx71, h72⟩ := Option.bind_eq_some_iff.1 h69
          obtain ⟨u73, hu74, hk75⟩ := RowAt.at hrow37 hx71
          obtain ⟨rfl, hr77⟩ := hu74
          have hk76 : ∀ (j : Nat) (d : Value), [.int .i64 x70][j]? = some d → cs36[s27.1.toNat * tInt.size + j]? = some d := hk75
          refine wl_val wn rfl (rv_indexRow (t := tInt) Try.underlying100 tf3 rfl rfl hm38 hx71) ?_
          refine wl_storeRow (t := tInt) (v := .int .i64 1) (e := (1 : Int)) wn tf3 rfl rfl ⟨rfl, (by decide : rng64 1)⟩ hS34 hrow37 hx71 ?_
          intro cs78 w79 hrow80 hS81
          have hm82 := hm38.trans (List.length_set (i := s27.1.toNat) (a := (1 : Int))).symm
          refine wl_nil ?_
          obtain rfl := Option.some.inj h72
          exact qe_mid' ⟨cs78, K31, rfl, hS81, (KLe.refl _), hrow80, hm82⟩ ⟨rfl, rfl, rfl, trivial⟩
        · have h69 := cond_f hb68 h59
          refine wc_skip ?_
          obtain rfl := Option.some.inj h69
          exact qe_mid' ⟨cs36, K31, rfl, hS34, (KLe.refl _), hrow37, hm38⟩ ⟨rfl, rfl, rfl, trivial⟩
      · rintro _ w63 ⟨cs65, K61, rfl, hS64, hl62, hrow66, hm67⟩
        refine qe_seq ?_
        refine wc_seq ?_
        refine wc_seq ?_
        refine wc_region ?_
        refine wl_val wn rfl (rv_assign (v := .int .i64 0) rfl) ?_
        refine wl_nil ?_
        refine qe_seq ?_
        obtain ⟨o83, h84, h85⟩ := Option.bind_eq_some_iff.1 h60
        refine wc_cutg (fun E' w' => ∃ (cs90 : List Value) (K86 : KMap), E' = [(0, .slice a1 n2 c3), (3, .slice (some ⟨g8, 0, none⟩) m14 m14), (4, .int .i64 s27.1)] ∧ SH w K [] w' K86 [obj g8 cs90 3] ∧ KLe K61 K86 ∧ RowAt true tInt K86 cs90 o83 ∧ m14 = o83.length) ?_ ?_
        · refine wc_block ?_
          obtain ⟨r94, h95, h96⟩ := Option.bind_eq_some_iff.1 h84
          refine wc_while' (fun (s93 : Int × (List Int)) E' w' => ∃ (cs102 : List Value) (K97 : KMap), E' = [(0, .slice a1 n2 c3), (3, .slice (some ⟨g8, 0, none⟩) m14 m14), (4, .int .i64 s27.1), (5, .int .i64 s93.1)] ∧ SH w K [] w' K97 [obj g8 cs102 3] ∧ KLe K61 K97 ∧ rng64 s93.1 ∧ RowAt true tInt K97 cs102 s93.2 ∧ m14 = s93.2.length) h95 ⟨cs65, K61, rfl, hS64, (KLe.refl _), (by decide : rng64 0), hrow66, hm67⟩ ⟨rfl, rfl, rfl, rfl, trivial⟩ ?_
          rintro s93 _ w99 r105 h106 hx107 ⟨cs102, K97, rfl, hS100, hl98, hr101, hrow103, hm104⟩
          refine wc_seq ?_
          refine wc_seq ?_
          refine wc_region ?_
          refine wl_val wn rfl (rv_move rfl) ?_
          refine wl_val wn rfl (rv_move rfl) ?_
          refine wl_val wn rfl (rv_move rfl) ?_
          obtain ⟨x108, hx109, h110⟩ := Option.bind_eq_some_iff.1 h106
          refine wl_indexAddr (t := tGState) wn rfl Try.underlying28 tf33 rfl rfl (SliceAt.mono ((hl32.trans hl62).trans hl98) hs4) hx109 ?_
          intro b111 o112 u113 hu114 ha115
          obtain ⟨a117, n118, c119, rfl, hr116, hs120⟩ := hu114
          have ha121 : AtK _ b111 o112 [.bool x108.Final, .int .i64 x108.Many, .slice a117 n118 c119] := ha115
          refine wl_val wn rfl (rv_fieldAddr ff33_2 rfl) ?_
          refine wl_val wn rfl (rv_load1 tf31 rfl hS100 (ha121 2 _ rfl)) ?_
          refine wl_val wn rfl (rv_len (t := tGArc) Try.underlying31 rfl hs120) ?_
          refine wl_val wn rfl (rv_lss rfl rfl) ?_
          refine wl_nil ?_
          refine qe_seq ?_
          refine wc_cond rfl (fun hb122 => ?_) (fun hb122 => ?_)
          · have h123 := cond_t hb122 h110
            refine wc_skip ?_
            refine qe_seq ?_
            refine wc_seq ?_
            refine wc_block ?_
            refine wc_held (fun w' => Holds K97 w') (fun w' => HasObj g8 cs102 w') 20 [(5, 18), (5, 19), (5, 20), (17, 18), (17, 19), (17, 20), (18, 19), (18, 20), (19, 20)] mixed ?_
            have hS125 := SH.drew hS100
            refine wg_val (i := 0) (listed' := #[true, false, false, false, false, false, false, false, false, false, false, false, false, false, false, false, false, false, false, false, false]) (fun _ => True) rfl (by kernel_rfl) (pk_block (pk_then (pk_then (pk_block (pk_then (pk_then (pk_block (pk_then (pk_then (pk_block (pk_then (pk_then pk_body)))))))))))) (by kernel_rfl) rfl (by kernel_rfl) (by kernel_rfl) rfl (.inl fun _ _ => trivial) ⟨(hS125.hasK (KLe.refl _)), (fun _ => hS125.hasObj (.head _)), by decide⟩ wn rfl (fun _ _ => (rv_move rfl)) ?_
            refine wg_val (i := 1) (listed' := #[true, true, false, false, false, false, false, false, false, false, false, false, false, false, false, false, false, false, false, false, false]) (fun _ => True) rfl (by kernel_rfl) (pk_block (pk_then (pk_then (pk_block (pk_then (pk_then (pk_block (pk_then (pk_then (pk_block (pk_then (pk_then pk_body)))))))))))) (by kernel_rfl) rfl (by kernel_rfl) (by kernel_rfl) rfl (.inl fun _ _ => trivial) ⟨(hS125.hasK (KLe.refl _)), (fun _ => hS125.hasObj (.head _)), by decide⟩ wn rfl (fun _ _ => (rv_move rfl)) ?_
            refine wg_val (i := 2) (listed' := #[true, true, true, false, false, false, false, false, false, false, false, false, false, false, false, false, false, false, false, false, false]) (fun _ => True) rfl (by kernel_rfl) (pk_block (pk_then (pk_then (pk_block (pk_then (pk_then (pk_block (pk_then (pk_then (pk_block (pk_then (pk_then pk_body)))))))))))) (by kernel_rfl) rfl (by kernel_rfl) (by kernel_rfl) rfl (.inl fun _ _ => trivial) ⟨(hS125.hasK (KLe.refl _)), (fun _ => hS125.hasObj (.head _)), by decide⟩ wn rfl (fun _ _ => (rv_move rfl)) ?_
            refine wg_val (i := 3) (listed' := #[true, true, true, true, false, false, false, false, false, false, false, false, false, false, false, false, false, false, false, false, false]) (fun _ => True) rfl (by kernel_rfl) (pk_block (pk_then (pk_then (pk_block (pk_then (pk_then (pk_block (pk_then (pk_then (pk_block (pk_then (pk_then pk_body)))))))))))) (by kernel_rfl) rfl (by kernel_rfl) (by kernel_rfl) rfl (.inl fun _ _ => trivial) ⟨(hS125.hasK (KLe.refl _)), (fun _ => hS125.hasObj (.head _)), by decide⟩ wn rfl (fun _ _ => (rv_move rfl)) ?_
            obtain ⟨x127, hx128, h129⟩ := Option.bind_eq_some_iff.1 h123
            obtain ⟨u130, hu131, hk132⟩ := RowAt.at hrow103 hx128
            obtain ⟨rfl, hr134⟩ := hu131
            have hk133 : ∀ (j : Nat) (d : Value), [.int .i64 x127][j]? = some d → cs102[s27.1.toNat * tInt.size + j]? = some d := hk132
            refine wg_val (i := 4) (listed' := #[true, true, true, true, true, false, false, false, false, false, false, false, false, false, false, false, false, false, false, false, false]) (fun _ => True) rfl (by kernel_rfl) (pk_block (pk_then (pk_then (pk_block (pk_then (pk_then (pk_block (pk_then (pk_then (pk_block (pk_then (pk_then pk_body)))))))))))) (by kernel_rfl) rfl (by kernel_rfl) (by kernel_rfl) rfl (.inl fun _ _ => trivial) ⟨(hS125.hasK (KLe.refl _)), (fun _ => hS125.hasObj (.head _)), by decide⟩ wn rfl (fun _ _ => (rv_indexRow (t := tInt) Try.underlying100 tf3 rfl rfl hm104 hx128)) ?_
            refine wg_val (i := 5) (listed' := #[true, true, true, true, true, true, false, false, false, false, false, false, false, false, false, false, false, false, false, false, false]) (HasObj g8 cs102) rfl (by kernel_rfl) (pk_block (pk_then (pk_then (pk_block (pk_then (pk_then (pk_block (pk_then (pk_then (pk_block (pk_then (pk_then pk_body)))))))))))) (by kernel_rfl) rfl (by kernel_rfl) (by kernel_rfl) rfl (.inr ⟨rfl, fun _ _ h => h⟩) ⟨(hS125.hasK (KLe.refl _)), (fun _ => hS125.hasObj (.head _)), by decide⟩ wn rfl (fun _ h => (rh_loadR1 tf3 rfl rfl (hk133 0 _ rfl) h)) ?_
            refine wg_val (i := 6) (listed' := #[true, true, true, true, true, true, true, false, false, false, false, false, false, false, false, false, false, false, false, false, false]) (fun _ => True) rfl (by kernel_rfl) (pk_block (pk_then (pk_then (pk_block (pk_then (pk_then (pk_block (pk_then (pk_then (pk_block (pk_then (pk_then pk_body)))))))))))) (by kernel_rfl) rfl (by kernel_rfl) (by kernel_rfl) rfl (.inl fun _ _ => trivial) ⟨(hS125.hasK (KLe.refl _)), (fun _ => hS125.hasObj (.head _)), by decide⟩ wn rfl (fun _ _ => (rv_move rfl)) ?_
            refine wg_val (i := 7) (listed' := #[true, true, true, true, true, true, true, true, false, false, false, false, false, false, false, false, false, false, false, false, false]) (fun _ => True) rfl (by kernel_rfl) (pk_block (pk_then (pk_then (pk_block (pk_then (pk_then (pk_block (pk_then (pk_then (pk_block (pk_then (pk_then pk_body)))))))))))) (by kernel_rfl) rfl (by kernel_rfl) (by kernel_rfl) rfl (.inl fun _ _ => trivial) ⟨(hS125.hasK (KLe.refl _)), (fun _ => hS125.hasObj (.head _)), by decide⟩ wn rfl (fun _ _ => (rv_move rfl)) ?_
            refine wg_val (i := 8) (listed' := #[true, true, true, true, true, true, true, true, true, false, false, false, false, false, false, false, false, false, false, false, false]) (fun _ => True) rfl (by kernel_rfl) (pk_block (pk_then (pk_then (pk_block (pk_then (pk_then (pk_block (pk_then (pk_then (pk_block (pk_then (pk_then pk_body)))))))))))) (by kernel_rfl) rfl (by kernel_rfl) (by kernel_rfl) rfl (.inl fun _ _ => trivial) ⟨(hS125.hasK (KLe.refl _)), (fun _ => hS125.hasObj (.head _)), by decide⟩ wn rfl (fun _ _ => (rv_move rfl)) ?_
            obtain ⟨x135, hx136, h137⟩ := Option.bind_eq_some_iff.1 h129
            refine wg_indexAddr (t := tGState) (j := 9) (listed' := #[true, true, true, true, true, true, true, true, true, true, false, false, false, false, false, false, false, false, false, false, false]) rfl (by kernel_rfl) (pk_block (pk_then (pk_then (pk_block (pk_then (pk_then (pk_block (pk_then (pk_then (pk_block (pk_then (pk_then pk_body)))))))))))) (by kernel_rfl) rfl (by kernel_rfl) (by kernel_rfl) rfl ⟨(hS125.hasK (KLe.refl _)), (fun _ => hS125.hasObj (.head _)), by decide⟩ wn rfl Try.underlying28 tf33 rfl rfl (SliceAt.mono ((hl32.trans hl62).trans hl98) hs4) hx136 ?_
            intro b138 o139 u140 hu141 ha142
            obtain ⟨a144, n145, c146, rfl, hr143, hs147⟩ := hu141
            have ha148 : AtK _ b138 o139 [.bool x135.Final, .int .i64 x135.Many, .slice a144 n145 c146] := ha142
            refine wg_val (i := 10) (listed' := #[true, true, true, true, true, true, true, true, true, true, true, false, false, false, false, false, false, false, false, false, false]) (fun _ => True) rfl (by kernel_rfl) (pk_block (pk_then (pk_then (pk_block (pk_then (pk_then (pk_block (pk_then (pk_then (pk_block (pk_then (pk_then pk_body)))))))))))) (by kernel_rfl) rfl (by kernel_rfl) (by kernel_rfl) rfl (.inl fun _ _ => trivial) ⟨(hS125.hasK (KLe.refl _)), (fun _ => hS125.hasObj (.head _)), by decide⟩ wn rfl (fun _ _ => (rv_fieldAddr ff33_2 rfl)) ?_
            refine wg_val (i := 11) (listed' := #[true, true, true, true, true, true, true, true, true, true, true, true, false, false, false, false, false, false, false, false, false]) (Holds K97) rfl (by kernel_rfl) (pk_block (pk_then (pk_then (pk_block (pk_then (pk_then (pk_block (pk_then (pk_then (pk_block (pk_then (pk_then pk_body)))))))))))) (by kernel_rfl) rfl (by kernel_rfl) (by kernel_rfl) rfl (.inl fun _ h => h) ⟨(hS125.hasK (KLe.refl _)), (fun _ => hS125.hasObj (.head _)), by decide⟩ wn rfl (fun _ h => rh_load1 tf31 rfl (ha148 2 _ rfl) h) ?_
            refine wg_val (i := 12) (listed' := #[true, true, true, true, true, true, true, true, true, true, true, true, true, false, false, false, false, false, false, false, false]) (fun _ => True) rfl (by kernel_rfl) (pk_block (pk_then (pk_then (pk_block (pk_then (pk_then (pk_block (pk_then (pk_then (pk_block (pk_then (pk_then pk_body)))))))))))) (by kernel_rfl) rfl (by kernel_rfl) (by kernel_rfl) rfl (.inl fun _ _ => trivial) ⟨(hS125.hasK (KLe.refl _)), (fun _ => hS125.hasObj (.head _)), by decide⟩ wn rfl (fun _ _ => (rv_move rfl)) ?_
            obtain ⟨x149, hx150, h151⟩ := Option.bind_eq_some_iff.1 h137
            refine wg_indexAddr (t := tGArc) (j := 13) (listed' := #[true, true, true, true, true, true, true, true, true, true, true, true, true, true, false, false, false, false, false, false, false]) rfl (by kernel_rfl) (pk_block (pk_then (pk_then (pk_block (pk_then (pk_then (pk_block (pk_then (pk_then (pk_block (pk_then (pk_then pk_body)))))))))))) (by kernel_rfl) rfl (by kernel_rfl) (by kernel_rfl) rfl ⟨(hS125.hasK (KLe.refl _)), (fun _ => hS125.hasObj (.head _)), by decide⟩ wn rfl Try.underlying31 tf35 rfl rfl hs147 hx150 ?_
            intro b152 o153 u154 hu155 ha156
            obtain ⟨rfl, hr157⟩ := hu155
            have ha158 : AtK _ b152 o153 [iv8 x149.Byte, .int .i64 x149.To] := ha156
            refine wg_val (i := 14) (listed' := #[true, true, true, true, true, true, true, true, true, true, true, true, true, true, true, false, false, false, false, false, false]) (fun _ => True) rfl (by kernel_rfl) (pk_block (pk_then (pk_then (pk_block (pk_then (pk_then (pk_block (pk_then (pk_then (pk_block (pk_then (pk_then pk_body)))))))))))) (by kernel_rfl) rfl (by kernel_rfl) (by kernel_rfl) rfl (.inl fun _ _ => trivial) ⟨(hS125.hasK (KLe.refl _)), (fun _ => hS125.hasObj (.head _)), by decide⟩ wn rfl (fun _ _ => (rv_fieldAddr ff35_1 rfl)) ?_
            refine wg_val (i := 15) (listed' := #[true, true, true, true, true, true, true, true, true, true, true, true, true, true, true, true, false, false, false, false, false]) (Holds K97) rfl (by kernel_rfl) (pk_block (pk_then (pk_then (pk_block (pk_then (pk_then (pk_block (pk_then (pk_then (pk_block (pk_then (pk_then pk_body)))))))))))) (by kernel_rfl) rfl (by kernel_rfl) (by kernel_rfl) rfl (.inl fun _ h => h) ⟨(hS125.hasK (KLe.refl _)), (fun _ => hS125.hasObj (.head _)), by decide⟩ wn rfl (fun _ h => rh_load1 tf3 rfl (ha158 1 _ rfl) h) ?_
            obtain ⟨x159, hx160, h161⟩ := Option.bind_eq_some_iff.1 h151
            obtain ⟨u162, hu163, hk164⟩ := RowAt.at hrow103 hx160
            obtain ⟨rfl, hr166⟩ := hu163
            have hk165 : ∀ (j : Nat) (d : Value), [.int .i64 x159][j]? = some d → cs102[x149.To.toNat * tInt.size + j]? = some d := hk164
            refine wg_val (i := 16) (listed' := #[true, true, true, true, true, true, true, true, true, true, true, true, true, true, true, true, true, false, false, false, false]) (fun _ => True) rfl (by kernel_rfl) (pk_block (pk_then (pk_then (pk_block (pk_then (pk_then (pk_block (pk_then (pk_then (pk_block (pk_then (pk_then pk_body)))))))))))) (by kernel_rfl) rfl (by kernel_rfl) (by kernel_rfl) rfl (.inl fun _ _ => trivial) ⟨(hS125.hasK (KLe.refl _)), (fun _ => hS125.hasObj (.head _)), by decide⟩ wn rfl (fun _ _ => (rv_indexRow (t := tInt) Try.underlying100 tf3 rfl rfl hm104 hx160)) ?_
            refine wg_val (i := 17) (listed' := #[true, true, true, true, true, true, true, true, true, true, true, true, true, true, true, true, true, true, false, false, false]) (HasObj g8 cs102) rfl (by kernel_rfl) (pk_block (pk_then (pk_then (pk_block (pk_then (pk_then (pk_block (pk_then (pk_then (pk_block (pk_then (pk_then pk_body)))))))))))) (by kernel_rfl) rfl (by kernel_rfl) (by kernel_rfl) rfl (.inr ⟨rfl, fun _ _ h => h⟩) ⟨(hS125.hasK (KLe.refl _)), (fun _ => hS125.hasObj (.head _)), by decide⟩ wn rfl (fun _ h => (rh_loadR1 tf3 rfl rfl (hk165 0 _ rfl) h)) ?_
            refine wg_val (i := 18) (listed' := #[true, true, true, true, true, true, true, true, true, true, true, true, true, true, true, true, true, true, true, false, false]) (fun _ => True) rfl (by kernel_rfl) (pk_block (pk_then (pk_then (pk_block (pk_then (pk_then (pk_block (pk_then (pk_then (pk_block (pk_then (pk_then pk_body)))))))))))) (by kernel_rfl) rfl (by kernel_rfl) (by kernel_rfl) rfl (.inl fun _ _ => trivial) ⟨(hS125.hasK (KLe.refl _)), (fun _ => hS125.hasObj (.head _)), by decide⟩ wn rfl (fun _ _ => (rv_add rfl rfl)) ?_
            obtain ⟨x167, hx168, h169⟩ := Option.bind_eq_some_iff.1 h161
            obtain ⟨u170, hu171, hk172⟩ := RowAt.at hrow103 hx168
            obtain ⟨rfl, hr174⟩ := hu171
            have hk173 : ∀ (j : Nat) (d : Value), [.int .i64 x167][j]? = some d → cs102[s27.1.toNat * tInt.size + j]? = some d := hk172
            refine wg_val (i := 19) (listed' := #[true, true, true, true, true, true, true, true, true, true, true, true, true, true, true, true, true, true, true, true, false]) (fun _ => True) rfl (by kernel_rfl) (pk_block (pk_then (pk_then (pk_block (pk_then (pk_then (pk_block (pk_then (pk_then (pk_block (pk_then (pk_then pk_body)))))))))))) (by kernel_rfl) rfl (by kernel_rfl) (by kernel_rfl) rfl (.inl fun _ _ => trivial) ⟨(hS125.hasK (KLe.refl _)), (fun _ => hS125.hasObj (.head _)), by decide⟩ wn rfl (fun _ _ => (rv_indexRow (t := tInt) Try.underlying100 tf3 rfl rfl hm104 hx168)) ?_
            refine wg_one (i := 20) (by kernel_rfl) rfl ?_
            refine wl_storeRow (t := tInt) (v := .int .i64 (w64 (x127 + x159))) (e := (w64 (x127 + x159))) wn tf3 rfl rfl ⟨rfl, (w64_rng _)⟩ hS125 hrow103 hx168 ?_
            intro cs175 w176 hrow177 hS178
            have hm179 := hm104.trans (List.length_set (i := s27.1.toNat) (a := (w64 (x127 + x159)))).symm
            refine wl_nil (qe_held (listed' := #[true, true, true, true, true, true, true, true, true, true, true, true, true, true, true, true, true, true, true, true, true]) rfl ⟨(hS178.hasK (KLe.refl _)), (fun h => by cases h), by decide⟩ ?_)
            refine wg_done (by kernel_rfl) ?_
            refine qe_block ?_
            refine qe_seq ?_
            refine wc_region ?_
            refine wl_val wn rfl (rv_move rfl) ?_
            refine wl_val wn rfl (rv_add rfl rfl) ?_
            refine wl_val wn rfl (rv_assign rfl) ?_
            refine wl_nil ?_
            obtain rfl := Option.some.inj h169
            exact qe_mid' ⟨_, rfl, cs175, K97, rfl, hS178, hl98, (w64_rng _), hrow177, hm179⟩ ⟨rfl, rfl, rfl, rfl, trivial⟩
          · have h123 := cond_f hb122 h110
            refine wc_exit ?_
            refine qe_then_exit ?_
            refine qe_then_exit ?_
            obtain rfl := Option.some.inj h123
            have e180 := hx107 _ rfl
            subst e180
            refine qe_block_eq ?_
            obtain rfl := Option.some.inj h96
            exact qe_mid' ⟨cs102, K97, rfl, hS100, hl98, hrow103, hm104⟩ ⟨rfl, rfl, rfl, trivial⟩
        · rintro _ w88 ⟨cs90, K86, rfl, hS89, hl87, hrow91, hm92⟩
          refine qe_seq ?_
          refine wc_seq ?_
          obtain ⟨o181, h182, h183⟩ := Option.bind_eq_some_iff.1 h85
          refine wc_cutg (fun E' w' => ∃ (K184 : KMap), E' = [(0, .slice a1 n2 c3), (3, .slice (some ⟨g8, 0, none⟩) m14 m14), (4, .int .i64 s27.1), (69, .bool o181)] ∧ SH w K [] w' K184 [obj g8 cs90 3] ∧ KLe K86 K184) ?_ ?_
          · refine wc_region ?_
            refine wl_val wn rfl (rv_move rfl) ?_
            refine wl_val wn rfl (rv_move rfl) ?_
            obtain ⟨x188, hx189, h190⟩ := Option.bind_eq_some_iff.1 h182
            obtain ⟨u191, hu192, hk193⟩ := RowAt.at hrow91 hx189
            obtain ⟨rfl, hr195⟩ := hu192
            have hk194 : ∀ (j : Nat) (d : Value), [.int .i64 x188][j]? = some d → cs90[s27.1.toNat * tInt.size + j]? = some d := hk193
            refine wl_val wn rfl (rv_indexRow (t := tInt) Try.underlying100 tf3 rfl rfl hm92 hx189) ?_
            refine wl_val wn rfl (rh_loadR1 tf3 rfl rfl (hk194 0 _ rfl) (hS89.hasObj (.head _))) ?_
            refine wl_val wn rfl (rv_gtr rfl rfl) ?_
            refine wl_val wn rfl (rv_move rfl) ?_
            rcases bool_tf (decide ((40 : Int) < x188)) with hb196 | hb196
            · have h197 := cond_t hb196 h190
              refine wl_un (ug rfl rfl hb196) rfl ?_
              refine wl_un (ug rfl rfl hb196) rfl ?_
              refine wl_un (ug rfl rfl hb196) rfl ?_
              refine wl_un (ug rfl rfl hb196) rfl ?_
              refine wl_un (ug rfl rfl hb196) rfl ?_
              refine wl_un (ug rfl rfl hb196) rfl ?_
              refine wl_un (uu rfl rfl) rfl ?_
              refine wl_un (uu rfl rfl) rfl ?_
              refine wl_un (uu rfl rfl) rfl ?_
              refine wl_un (ug rfl rfl hb196) rfl ?_
              refine wl_val wn rfl (rv_pick_t (v := .bool true) rfl hb196 rfl) ?_
              refine wl_nil ?_
              obtain rfl := Option.some.inj h197
              exact qe_mid' ⟨K86, rfl, hS89, (KLe.refl _)⟩ ⟨rfl, rfl, rfl, rfl, trivial⟩
            · have h197 := cond_f hb196 h190
              refine wl_val (wg rfl rfl hb196) rfl (rv_move rfl) ?_
              refine wl_val (wg rfl rfl hb196) rfl (rv_move rfl) ?_
              obtain ⟨x198, hx199, h200⟩ := Option.bind_eq_some_iff.1 h197
              obtain ⟨u201, hu202, hk203⟩ := RowAt.at hrow91 hx199
              obtain ⟨rfl, hr205⟩ := hu202
              have hk204 : ∀ (j : Nat) (d : Value), [.int .i64 x198][j]? = some d → cs90[s27.1.toNat * tInt.size + j]? = some d := hk203
              refine wl_val (wg rfl rfl hb196) rfl (rv_indexRow (t := tInt) Try.underlying100 tf3 rfl rfl hm92 hx199) ?_
              refine wl_val (wg rfl rfl hb196) rfl (rh_loadR1 tf3 rfl rfl (hk204 0 _ rfl) (hS89.hasObj (.head _))) ?_
              refine wl_val (wg rfl rfl hb196) rfl (rv_eql rfl rfl) ?_
              refine wl_val (wg rfl rfl hb196) rfl (rv_move rfl) ?_
              rcases bool_tf ((x198 == (0 : Int))) with hb206 | hb206
              · have h207 := cond_t hb206 h200
                refine wl_val (wg rfl rfl hb206) rfl (rv_move rfl) ?_
                refine wl_val (wg rfl rfl hb206) rfl (rv_len (t := tGState) Try.underlying28 rfl (SliceAt.mono ((hl32.trans hl62).trans hl87) hs4)) ?_
                refine wl_val (wg rfl rfl hb206) rfl (rv_gtr rfl rfl) ?_
                refine wl_val (wg rfl rfl hb196) rfl (rv_pick_t rfl hb206 rfl) ?_
                refine wl_val wn rfl (rv_pick_f rfl hb196 rfl) ?_
                refine wl_nil ?_
                obtain rfl := Option.some.inj h207
                exact qe_mid' ⟨K86, rfl, hS89, (KLe.refl _)⟩ ⟨rfl, rfl, rfl, rfl, trivial⟩
              · have h207 := cond_f hb206 h200
                refine wl_un (ug rfl rfl hb206) rfl ?_
                refine wl_un (ug rfl rfl hb206) rfl ?_
                refine wl_un (ug rfl rfl hb206) rfl ?_
                refine wl_val (wg rfl rfl hb196) rfl (rv_pick_f (v := .bool false) rfl hb206 rfl) ?_
                refine wl_val wn rfl (rv_pick_f rfl hb196 rfl) ?_
                refine wl_nil ?_
                obtain rfl := Option.some.inj h207
                exact qe_mid' ⟨K86, rfl, hS89, (KLe.refl _)⟩ ⟨rfl, rfl, rfl, rfl, trivial⟩
          · rintro _ w186 ⟨K184, rfl, hS187, hl185⟩
            refine qe_seq ?_
            refine wc_cond rfl (fun hb208 => ?_) (fun hb208 => ?_)
            · have h209 := cond_t hb208 h183
              refine wc_seq ?_
              refine wc_region ?_
              refine wl_val wn rfl (rv_assign (v := .int .i64 41) rfl) ?_
              refine wl_nil ?_
              refine qe_seq ?_
              refine wc_ret ?_
              refine qe_block_ret ?_
              refine qe_then_ret ?_
              refine qe_then_ret ?_
              obtain rfl := Option.some.inj h209
              have e210 := hx41 _ rfl
              subst e210
              refine qe_block_ret ?_
              refine qe_then_ret ?_
              obtain rfl := Option.some.inj h30
              refine qe_then_ret ?_
              obtain rfl := Option.some.inj h18
              have hS211 : SH _ _ _ _ _ [] := SH.sublist hS187 (.cons _ .slnil)
              exact qe_ret (vs := [_]) Try.results94 ⟨rfl, trivial⟩ ⟨K184, rfl, hS211, (by decide : rng64 41)⟩
            · have h209 := cond_f hb208 h183
              refine wc_skip ?_
              refine qe_block ?_
              refine qe_seq ?_
              refine wc_region ?_
              refine wl_val wn rfl (rv_move rfl) ?_
              refine wl_val wn rfl (rv_add rfl rfl) ?_
              refine wl_val wn rfl (rv_assign rfl) ?_
              refine wl_nil ?_
              obtain rfl := Option.some.inj h209
              exact qe_mid' ⟨_, rfl, cs90, K184, rfl, hS187, (((hl32.trans hl62).trans hl87).trans hl185), (w64_rng _), (RowAt.mono hl185 hrow91), hm92⟩ ⟨rfl, rfl, rfl, trivial⟩
    · have h43 := cond_f hb42 h40
      refine wc_exit ?_
      refine qe_then_exit ?_
      refine qe_then_exit ?_
      obtain rfl := Option.some.inj h43
      have e212 := hx41 _ rfl
      subst e212
      refine qe_block_eq ?_
      obtain rfl := Option.some.inj h30
      exact qe_mid' ⟨_, cs36, K31, rfl, rfl, hS34, hl32, hrow37, hm38⟩ ⟨rfl, rfl, trivial⟩
  · rintro _ w22 ⟨s19, cs24, K20, rfl, rfl, hS23, hl21, hrow25, hm26⟩
    refine qe_seq ?_
    refine wc_seq ?_
    refine wc_region ?_
    refine wl_val wn rfl (rv_move rfl) ?_
    refine wl_val wn rfl (rv_move rfl) ?_
    refine wl_val wn rfl (rv_len (t := tGState) Try.underlying28 rfl (SliceAt.mono hl21 hs4)) ?_
    refine wl_val wn rfl (rv_sub rfl rfl) ?_
    obtain ⟨x215, hx216, h217⟩ := Option.bind_eq_some_iff.1 h18
    obtain ⟨u218, hu219, hk220⟩ := RowAt.at hrow25 hx216
    obtain ⟨rfl, hr222⟩ := hu219
    have hk221 : ∀ (j : Nat) (d : Value), [.int .i64 x215][j]? = some d → cs24[(w64 ((p0_d.length : Int) - (1 : Int))).toNat * tInt.size + j]? = some d := hk220
    refine wl_val wn rfl (rv_indexRow (t := tInt) Try.underlying100 tf3 rfl rfl hm26 hx216) ?_
    refine wl_val wn rfl (rh_loadR1 tf3 rfl rfl (hk221 0 _ rfl) (hS23.hasObj (.head _))) ?_
    refine wl_val wn rfl (rv_assign rfl) ?_
    refine wl_nil ?_
    refine qe_seq ?_
    refine wc_ret ?_
    obtain rfl := Option.some.inj h217
    have hS223 : SH _ _ _ _ _ [] := SH.sublist hS23 (.cons _ .slnil)
    exact qe_ret (vs := [_]) Try.results94 ⟨rfl, trivial⟩ ⟨K20, rfl, hS223, hr222⟩

theorem ok_spec_l4Shape (F : Nat) {w : World} {K : KMap} {a1 : Option Addr} {n2 c3 : Nat} {p0_d : List GState} {r : Bool} (hS : SH w K [] w K []) (hs4 : SliceAt tGState K a1 n2 c3 p0_d) (hm : M.spec_l4Shape F p0_d = some r) :
    Calls Try.prog 85 #[.slice a1 n2 c3] w fun e w' => ∃ (K' : KMap), e = .returned (.bool r) ∧ SH w K [] w' K' [] := by
  rw [M.spec_l4Shape] at hm
  refine calls_in Try.func85 rfl Try.ntmps85 rfl ?_
  refine wc_seq ?_
  refine wc_region ?_
  refine wl_val wn rfl (rv_assign (v := .bool false) rfl) ?_
  refine wl_nil ?_
  refine qe_seq ?_
  refine wc_seq ?_
  refine wc_seq ?_
  refine wc_region ?_
  refine wl_val wn rfl (rv_assign (v := .int .i64 0) rfl) ?_
  refine wl_nil ?_
  refine qe_seq ?_
  obtain ⟨o5, h6, h7⟩ := Option.bind_eq_some_iff.1 hm
  refine wc_cutg (fun E' w' => ∃ (s8 : Unit) (K9 : KMap), o5 = .inl s8 ∧ E' = [(0, .slice a1 n2 c3)] ∧ SH w K [] w' K9 [] ∧ KLe K K9) ?_ ?_
  · refine wc_block ?_
    obtain ⟨r14, h15, h16⟩ := Option.bind_eq_some_iff.1 h6
    refine wc_while' (fun (s13 : Int) E' w' => ∃ (K17 : KMap), E' = [(0, .slice a1 n2 c3), (3, .int .i64 s13)] ∧ SH w K [] w' K17 [] ∧ KLe K K17 ∧ rng64 s13) h15 ⟨K, rfl, hS, (KLe.refl _), (by decide : rng64 0)⟩ ⟨rfl, rfl, trivial⟩ ?_
    rintro s13 _ w19 r22 h23 hx24 ⟨K17, rfl, hS20, hl18, hr21⟩
    refine wc_seq ?_
    refine wc_seq ?_
    refine wc_region ?_
    refine wl_val wn rfl (rv_move rfl) ?_
    refine wl_val wn rfl (rv_move rfl) ?_
    refine wl_val wn rfl (rv_len (t := tGState) Try.underlying28 rfl (SliceAt.mono hl18 hs4)) ?_
    refine wl_val wn rfl (rv_lss rfl rfl) ?_
    refine wl_nil ?_
    refine qe_seq ?_
    refine wc_cond rfl (fun hb25 => ?_) (fun hb25 => ?_)
    · have h26 := cond_t hb25 h23
      refine wc_skip ?_
      refine qe_seq ?_
      refine wc_seq ?_
      refine wc_block ?_
      refine wc_seq ?_
      refine wc_seq ?_
      refine wc_region ?_
      refine wl_val wn rfl (rv_assign (v := .int .i64 0) rfl) ?_
      refine wl_nil ?_
      refine qe_seq ?_
      obtain ⟨o27, h28, h29⟩ := Option.bind_eq_some_iff.1 h26
      refine wc_cutg (fun E' w' => ∃ (s30 : Unit) (K31 : KMap), o27 = .inl s30 ∧ E' = [(0, .slice a1 n2 c3), (3, .int .i64 s13)] ∧ SH w K [] w' K31 [] ∧ KLe K17 K31) ?_ ?_
      · refine wc_block ?_
        obtain ⟨r36, h37, h38⟩ := Option.bind_eq_some_iff.1 h28
        refine wc_while' (fun (s35 : Int) E' w' => ∃ (K39 : KMap), E' = [(0, .slice a1 n2 c3), (3, .int .i64 s13), (4, .int .i64 s35)] ∧ SH w K [] w' K39 [] ∧ KLe K17 K39 ∧ rng64 s35) h37 ⟨K17, rfl, hS20, (KLe.refl _), (by decide : rng64 0)⟩ ⟨rfl, rfl, rfl, trivial⟩ ?_
        rintro s35 _ w41 r44 h45 hx46 ⟨K39, rfl, hS42, hl40, hr43⟩
        refine wc_seq ?_
        refine wc_seq ?_
        refine wc_region ?_
        refine wl_val wn rfl (rv_move rfl) ?_
        refine wl_val wn rfl (rv_move rfl) ?_
        refine wl_val wn rfl (rv_move rfl) ?_
        obtain ⟨x47, hx48, h49⟩ := Option.bind_eq_some_iff.1 h45
        refine wl_indexAddr (t := tGState) wn rfl Try.underlying28 tf33 rfl rfl (SliceAt.mono (hl18.trans hl40) hs4) hx48 ?_
        intro b50 o51 u52 hu53 ha54
        obtain ⟨a56, n57, c58, rfl, hr55, hs59⟩ := hu53
        have ha60 : AtK _ b50 o51 [.bool x47.Final, .int .i64 x47.Many, .slice a56 n57 c58] := ha54
        refine wl_val wn rfl (rv_fieldAddr ff33_2 rfl) ?_
        refine wl_val wn rfl (rv_load1 tf31 rfl hS42 (ha60 2 _ rfl)) ?_
        refine wl_val wn rfl (rv_len (t := tGArc) Try.underlying31 rfl hs59) ?_
        refine wl_val wn rfl (rv_lss rfl rfl) ?_
        refine wl_nil ?_
        refine qe_seq ?_
        refine wc_cond rfl (fun hb61 => ?_) (fun hb61 => ?_)
        · have h62 := cond_t hb61 h49
          refine wc_skip ?_
          refine qe_seq ?_
          refine wc_seq ?_
          refine wc_block ?_
          refine wc_seq ?_
          refine wc_region ?_
          refine wl_val wn rfl (rv_move rfl) ?_
          refine wl_val wn rfl (rv_move rfl) ?_
          obtain ⟨x63, hx64, h65⟩ := Option.bind_eq_some_iff.1 h62
          refine wl_indexAddr (t := tGState) wn rfl Try.underlying28 tf33 rfl rfl (SliceAt.mono (hl18.trans hl40) hs4) hx64 ?_
          intro b66 o67 u68 hu69 ha70
          obtain ⟨a72, n73, c74, rfl, hr71, hs75⟩ := hu69
          have ha76 : AtK _ b66 o67 [.bool x63.Final, .int .i64 x63.Many, .slice a72 n73 c74] := ha70
          refine wl_val wn rfl (rv_fieldAddr ff33_2 rfl) ?_
          refine wl_val wn rfl (rv_load1 tf31 rfl hS42 (ha76 2 _ rfl)) ?_
          refine wl_val wn rfl (rv_move rfl) ?_
          obtain ⟨x77, hx78, h79⟩ := Option.bind_eq_some_iff.1 h65
          refine wl_indexAddr (t := tGArc) wn rfl Try.underlying31 tf35 rfl rfl hs75 hx78 ?_
          intro b80 o81 u82 hu83 ha84
          obtain ⟨rfl, hr85⟩ := hu83
          have ha86 : AtK _ b80 o81 [iv8 x77.Byte, .int .i64 x77.To] := ha84
          refine wl_val wn rfl (rv_fieldAddr ff35_1 rfl) ?_
          refine wl_val wn rfl (rv_load1 tf3 rfl hS42 (ha86 1 _ rfl)) ?_
          refine wl_val wn rfl (rv_move rfl) ?_
          refine wl_val wn rfl (rv_sub rfl rfl) ?_
          obtain ⟨r87, hx88, h89⟩ := Option.bind_eq_some_iff.1 h79
          refine wl_call wn rfl (rt_call (vs := [.int .i64 x77.To, .int .i64 0, .int .i64 (w64 (s13 - (1 : Int)))]) co69 rfl) ((ok_spec_l1In F) hS42.enter0 hr85 (by decide : rng64 0) (w64_rng _) hx88) ?_
          rintro e93 w91 ⟨K90, rfl, hS92⟩
          refine ⟨_, rfl, ?_⟩
          have hS94 : SH _ _ _ _ _ [] := SH.call0 hS42 hS92
          refine wl_val wn rfl (rv_not rfl) ?_
          refine wl_nil ?_
          refine qe_seq ?_
          refine wc_cond rfl (fun hb95 => ?_) (fun hb95 => ?_)
          · have h96 := cond_t hb95 h89
            refine wc_seq ?_
            refine wc_region ?_
            refine wl_val wn rfl (rv_assign (v := .bool false) rfl) ?_
            refine wl_nil ?_
            refine qe_seq ?_
            refine wc_ret ?_
            refine qe_block_ret ?_
            refine qe_then_ret ?_
            refine qe_then_ret ?_
            obtain rfl := Option.some.inj h96
            have e97 := hx46 _ rfl
            subst e97
            refine qe_block_ret ?_
            refine qe_then_ret ?_
            obtain rfl := Option.some.inj h38
            refine qe_then_ret ?_
            refine qe_block_ret ?_
            refine qe_then_ret ?_
            refine qe_then_ret ?_
            obtain rfl := Option.some.inj h29
            have e98 := hx24 _ rfl
            subst e98
            refine qe_block_ret ?_
            refine qe_then_ret ?_
            obtain rfl := Option.some.inj h16
            refine qe_then_ret ?_
            obtain rfl := Option.some.inj h7
            exact qe_ret (vs := [_]) Try.results85 ⟨rfl, trivial⟩ ⟨K90, rfl, hS94⟩
          · have h96 := cond_f hb95 h89
            refine wc_skip ?_
            refine qe_block ?_
            refine qe_seq ?_
            refine wc_region ?_
            refine wl_val wn rfl (rv_move rfl) ?_
            refine wl_val wn rfl (rv_add rfl rfl) ?_
            refine wl_val wn rfl (rv_assign rfl) ?_
            refine wl_nil ?_
            obtain rfl := Option.some.inj h96
            exact qe_mid' ⟨_, rfl, K90, rfl, hS94, (hl40.trans hS92.le), (w64_rng _)⟩ ⟨rfl, rfl, rfl, trivial⟩
        · have h62 := cond_f hb61 h49
          refine wc_exit ?_
          refine qe_then_exit ?_
          refine qe_then_exit ?_
          obtain rfl := Option.some.inj h62
          have e99 := hx46 _ rfl
          subst e99
          refine qe_block_eq ?_
          obtain rfl := Option.some.inj h38
          exact qe_mid' ⟨_, K39, rfl, rfl, hS42, hl40⟩ ⟨rfl, rfl, trivial⟩
      · rintro _ w33 ⟨s30, K31, rfl, rfl, hS34, hl32⟩
        refine qe_seq ?_
        refine wc_seq ?_
        obtain ⟨o102, h103, h104⟩ := Option.bind_eq_some_iff.1 h29
        refine wc_cutg (fun E' w' => ∃ (K105 : KMap), E' = [(0, .slice a1 n2 c3), (3, .int .i64 s13), (49, .bool o102)] ∧ SH w K [] w' K105 [] ∧ KLe K31 K105) ?_ ?_
        · refine wc_region ?_
          refine wl_val wn rfl (rv_move rfl) ?_
          refine wl_val wn rfl (rv_move rfl) ?_
          obtain ⟨x109, hx110, h111⟩ := Option.bind_eq_some_iff.1 h103
          refine wl_indexAddr (t := tGState) wn rfl Try.underlying28 tf33 rfl rfl (SliceAt.mono (hl18.trans hl32) hs4) hx110 ?_
          intro b112 o113 u114 hu115 ha116
          obtain ⟨a118, n119, c120, rfl, hr117, hs121⟩ := hu115
          have ha122 : AtK _ b112 o113 [.bool x109.Final, .int .i64 x109.Many, .slice a118 n119 c120] := ha116
          refine wl_val wn rfl (rv_fieldAddr ff33_1 rfl) ?_
          refine wl_val wn rfl (rv_load1 tf3 rfl hS34 (ha122 1 _ rfl)) ?_
          obtain ⟨r123, hx124, h125⟩ := Option.bind_eq_some_iff.1 h111
          refine wl_call wn rfl (rt_call (vs := [.int .i64 x109.Many, .int .i64 0, .int .i64 40]) co69 rfl) ((ok_spec_l1In F) hS34.enter0 hr117 (by decide : rng64 0) (by decide : rng64 40) hx124) ?_
          rintro e129 w127 ⟨K126, rfl, hS128⟩
          refine ⟨_, rfl, ?_⟩
          have hS130 : SH _ _ _ _ _ [] := SH.call0 hS34 hS128
          refine wl_val wn rfl (rv_not rfl) ?_
          refine wl_val wn rfl (rv_move rfl) ?_
          rcases bool_tf ((!r123)) with hb131 | hb131
          · have h132 := cond_t hb131 h125
            refine wl_un (ug rfl rfl hb131) rfl ?_
            refine wl_un (ug rfl rfl hb131) rfl ?_
            refine wl_un (ug rfl rfl hb131) rfl ?_
            refine wl_un (ug rfl rfl hb131) rfl ?_
            refine wl_un (ug rfl rfl hb131) rfl ?_
            refine wl_un (ug rfl rfl hb131) rfl ?_
            refine wl_un (ug rfl rfl hb131) rfl ?_
            refine wl_val wn rfl (rv_pick_t (v := .bool true) rfl hb131 rfl) ?_
            refine wl_nil ?_
            obtain rfl := Option.some.inj h132
            exact qe_mid' ⟨K126, rfl, hS130, hS128.le⟩ ⟨rfl, rfl, rfl, trivial⟩
          · have h132 := cond_f hb131 h125
            refine wl_val (wg rfl rfl hb131) rfl (rv_move rfl) ?_
            refine wl_val (wg rfl rfl hb131) rfl (rv_move rfl) ?_
            obtain ⟨x133, hx134, h135⟩ := Option.bind_eq_some_iff.1 h132
            refine wl_indexAddr (t := tGState) (wg rfl rfl hb131) rfl Try.underlying28 tf33 rfl rfl (SliceAt.mono ((hl18.trans hl32).trans hS128.le) hs4) hx134 ?_
            intro b136 o137 u138 hu139 ha140
            obtain ⟨a142, n143, c144, rfl, hr141, hs145⟩ := hu139
            have ha146 : AtK _ b136 o137 [.bool x133.Final, .int .i64 x133.Many, .slice a142 n143 c144] := ha140
            refine wl_val (wg rfl rfl hb131) rfl (rv_fieldAddr ff33_2 rfl) ?_
            refine wl_val (wg rfl rfl hb131) rfl (rv_load1 tf31 rfl hS130 (ha146 2 _ rfl)) ?_
            refine wl_val (wg rfl rfl hb131) rfl (rv_len (t := tGArc) Try.underlying31 rfl hs145) ?_
            refine wl_val (wg rfl rfl hb131) rfl (rv_gtr rfl rfl) ?_
            refine wl_val wn rfl (rv_pick_f rfl hb131 rfl) ?_
            refine wl_nil ?_
            obtain rfl := Option.some.inj h135
            exact qe_mid' ⟨K126, rfl, hS130, hS128.le⟩ ⟨rfl, rfl, rfl, trivial⟩
        · rintro _ w107 ⟨K105, rfl, hS108, hl106⟩
          refine qe_seq ?_
          refine wc_cond rfl (fun hb147 => ?_) (fun hb147 => ?_)
          · have h148 := cond_t hb147 h104
            refine wc_seq ?_
            refine wc_region ?_
            refine wl_val wn rfl (rv_assign (v := .bool false) rfl) ?_
            refine wl_nil ?_
            refine qe_seq ?_
            refine wc_ret ?_
            refine qe_block_ret ?_
            refine qe_then_ret ?_
            refine qe_then_ret ?_
            obtain rfl := Option.some.inj h148
            have e149 := hx24 _ rfl
            subst e149
            refine qe_block_ret ?_
            refine qe_then_ret ?_
            obtain rfl := Option.some.inj h16
            refine qe_then_ret ?_
            obtain rfl := Option.some.inj h7
            exact qe_ret (vs := [_]) Try.results85 ⟨rfl, trivial⟩ ⟨K105, rfl, hS108⟩
          · have h148 := cond_f hb147 h104
            refine wc_skip ?_
            refine qe_block ?_
            refine qe_seq ?_
            refine wc_region ?_
            refine wl_val wn rfl (rv_move rfl) ?_
            refine wl_val wn rfl (rv_add rfl rfl) ?_
            refine wl_val wn rfl (rv_assign rfl) ?_
            refine wl_nil ?_
            obtain rfl := Option.some.inj h148
            exact qe_mid' ⟨_, rfl, K105, rfl, hS108, ((hl18.trans hl32).trans hl106), (w64_rng _)⟩ ⟨rfl, rfl, trivial⟩
    · have h26 := cond_f hb25 h23
      refine wc_exit ?_
      refine qe_then_exit ?_
      refine qe_then_exit ?_
      obtain rfl := Option.some.inj h26
      have e151 := hx24 _ rfl
      subst e151
      refine qe_block_eq ?_
      obtain rfl := Option.some.inj h16
      exact qe_mid' ⟨_, K17, rfl, rfl, hS20, hl18⟩ ⟨rfl, trivial⟩
  · rintro _ w11 ⟨s8, K9, rfl, rfl, hS12, hl10⟩
    refine qe_seq ?_
    refine wc_seq ?_
    refine wc_region ?_
    refine wl_val wn rfl (rv_move rfl) ?_
    refine wl_val wn rfl (rv_len (t := tGState) Try.underlying28 rfl (SliceAt.mono hl10 hs4)) ?_
    refine wl_val wn rfl (rv_gtr rfl rfl) ?_
    refine wl_val wn rfl (rv_move rfl) ?_
    rcases bool_tf (decide ((0 : Int) < (p0_d.length : Int))) with hb154 | hb154
    · have h155 := cond_t hb154 h7
      refine wl_val (wg rfl rfl hb154) rfl (rv_move rfl) ?_
      obtain ⟨r156, hx157, h158⟩ := Option.bind_eq_some_iff.1 h155
      refine wl_call (wg rfl rfl hb154) rfl (rt_call (vs := [.slice a1 n2 c3]) co94 rfl) ((ok_spec_l4Count F) hS12.enter0 (SliceAt.mono hl10 hs4) hx157) ?_
      rintro e163 w160 ⟨K159, rfl, hS161, hr162⟩
      refine ⟨_, rfl, ?_⟩
      have hS164 : SH _ _ _ _ _ [] := SH.call0 hS12 hS161
      refine wl_val (wg rfl rfl hb154) rfl (rv_leq rfl rfl) ?_
      refine wl_val wn rfl (rv_pick_t rfl hb154 rfl) ?_
      refine wl_val wn rfl (rv_assign rfl) ?_
      refine wl_nil ?_
      refine qe_seq ?_
      refine wc_ret ?_
      obtain rfl := Option.some.inj h158
      exact qe_ret (vs := [_]) Try.results85 ⟨rfl, trivial⟩ ⟨K159, rfl, hS164⟩
    · have h155 := cond_f hb154 h7
      refine wl_un (ug rfl rfl hb154) rfl ?_
      refine wl_un (ug rfl rfl hb154) rfl ?_
      refine wl_un (ug rfl rfl hb154) rfl ?_
      refine wl_val wn rfl (rv_pick_f (v := .bool false) rfl hb154 rfl) ?_
      refine wl_val wn rfl (rv_assign rfl) ?_
      refine wl_nil ?_
      refine qe_seq ?_
      refine wc_ret ?_
      obtain rfl := Option.some.inj h155
      exact qe_ret (vs := [_]) Try.results85 ⟨rfl, trivial⟩ ⟨K9, rfl, hS12⟩

theorem ok_spec_l4Ok (F : Nat) {w : World} {K : KMap} {a1 : Option Addr} {n2 c3 : Nat} {p0_d : List GState} {r : Bool} (hS : SH w K [] w K []) (hs4 : SliceAt tGState K a1 n2 c3 p0_d) (hm : M.spec_l4Ok F p0_d = some r) :
    Calls Try.prog 68 #[.slice a1 n2 c3] w fun e w' => ∃ (K' : KMap), e = .returned (.bool r) ∧ SH w K [] w' K' [] := by
  rw [M.spec_l4Ok] at hm
  refine calls_in Try.func68 rfl Try.ntmps68 rfl ?_
  refine wc_seq ?_
  refine wc_region ?_
  refine wl_val wn rfl (rv_assign (v := .bool false) rfl) ?_
  refine wl_nil ?_
  refine qe_seq ?_
  refine wc_seq ?_
  refine wc_seq ?_
  refine wc_region ?_
  refine wl_val wn rfl (rv_move rfl) ?_
  obtain ⟨r5, hx6, h7⟩ := Option.bind_eq_some_iff.1 hm
  refine wl_call wn rfl (rt_call (vs := [.slice a1 n2 c3]) co85 rfl) ((ok_spec_l4Shape F) hS.enter0 hs4 hx6) ?_
  rintro e11 w9 ⟨K8, rfl, hS10⟩
  refine ⟨_, rfl, ?_⟩
  have hS12 : SH _ _ _ _ _ [] := SH.call0 hS hS10
  refine wl_val wn rfl (rv_not rfl) ?_
  refine wl_nil ?_
  refine qe_seq ?_
  refine wc_cond rfl (fun hb13 => ?_) (fun hb13 => ?_)
  · have h14 := cond_t hb13 h7
    refine wc_seq ?_
    refine wc_region ?_
    refine wl_val wn rfl (rv_assign (v := .bool false) rfl) ?_
    refine wl_nil ?_
    refine qe_seq ?_
    refine wc_ret ?_
    refine qe_then_ret ?_
    obtain rfl := Option.some.inj h14
    exact qe_ret (vs := [_]) Try.results68 ⟨rfl, trivial⟩ ⟨K8, rfl, hS12⟩
  · have h14 := cond_f hb13 h7
    refine wc_skip ?_
    refine qe_seq ?_
    refine wc_seq ?_
    refine wc_region ?_
    refine wl_val wn rfl (rv_move rfl) ?_
    refine wl_val wn rfl (rv_move rfl) ?_
    refine wl_val wn rfl (rv_len (t := tGState) Try.underlying28 rfl (SliceAt.mono hS10.le hs4)) ?_
    refine wl_val wn rfl (rv_sub rfl rfl) ?_
    obtain ⟨r15, hx16, h17⟩ := Option.bind_eq_some_iff.1 h14
    refine wl_call wn rfl (rt_call (vs := [.slice a1 n2 c3, .int .i64 (w64 ((p0_d.length : Int) - (1 : Int))), sv []]) co70 rfl) ((ok_spec_l4All F) hS12.enter0 (SliceAt.mono hS10.le hs4) (w64_rng _) (by decide : ([] : Str).length ≤ maxLen) hx16) ?_
    rintro e25 w19 ⟨a21, n22, c23, K18, rfl, hS20, hs24⟩
    refine ⟨_, rfl, ?_⟩
    have hS26 : SH _ _ _ _ _ [_] := SH.call0 hS12 hS20
    refine wl_val wn rfl (rv_assign rfl) ?_
    refine wl_nil ?_
    refine qe_seq ?_
    refine wc_seq ?_
    refine wc_seq ?_
    refine wc_region ?_
    refine wl_val wn rfl (rv_move rfl) ?_
    obtain ⟨r27, hx28, h29⟩ := Option.bind_eq_some_iff.1 h17
    refine wl_call wn rfl (rt_call (vs := [.slice a21 n22 c23]) co54 rfl) ((ok_spec_l4Sorted F) hS26.enter0 hs24 hx28) ?_
    rintro e33 w31 ⟨K30, rfl, hS32⟩
    refine ⟨_, rfl, ?_⟩
    have hS34 : SH _ _ _ _ _ [_] := SH.call0 hS26 hS32
    refine wl_val wn rfl (rv_not rfl) ?_
    refine wl_nil ?_
    refine qe_seq ?_
    refine wc_cond rfl (fun hb35 => ?_) (fun hb35 => ?_)
    · have h36 := cond_t hb35 h29
      refine wc_seq ?_
      refine wc_region ?_
      refine wl_val wn rfl (rv_assign (v := .bool false) rfl) ?_
      refine wl_nil ?_
      refine qe_seq ?_
      refine wc_ret ?_
      refine qe_then_ret ?_
      obtain rfl := Option.some.inj h36
      have hS37 : SH _ _ _ _ _ [] := SH.sublist hS34 (.cons _ .slnil)
      exact qe_ret (vs := [_]) Try.results68 ⟨rfl, trivial⟩ ⟨K30, rfl, hS37⟩
    · have h36 := cond_f hb35 h29
      refine wc_skip ?_
      refine qe_seq ?_
      refine wc_seq ?_
      refine wc_region ?_
      refine wl_val wn rfl (rv_move rfl) ?_
      obtain ⟨r38, hx39, h40⟩ := Option.bind_eq_some_iff.1 h36
      have hS41 := SH.nil hS34 33 3
      refine wl_call wn rfl (rt_call (vs := [.slice none 0 0, .slice a21 n22 c23, .int .i64 0]) co55 rfl) ((ok_spec_l4Build F) (SH.enter (Lin := [_]) hS41) (SliceAt.nil _ _) (SliceAt.mono hS32.le hs24) (by decide : rng64 0) hx39) ?_
      rintro e50 w43 ⟨a45, n46, c47, K42, rfl, hS44, hs48, hr49⟩
      refine ⟨_, rfl, ?_⟩
      have hS51 : SH _ _ _ _ _ [_, _] := SH.call (Lin := [_]) hS41 hS44
      refine wl_val wn rfl (rv_move rfl) ?_
      refine wl_val wn rfl (rv_extract rfl rfl) ?_
      refine wl_val wn rfl (rv_extract rfl rfl) ?_
      refine wl_val wn rfl (rv_assign rfl) ?_
      refine wl_val wn rfl (rv_assign rfl) ?_
      refine wl_nil ?_
      refine qe_seq ?_
      refine wc_seq ?_
      refine wc_seq ?_
      refine wc_region ?_
      refine wl_val wn rfl (rv_move rfl) ?_
      refine wl_val wn rfl (rv_len (t := tGState) Try.underlying28 rfl hs48) ?_
      refine wl_val wn rfl (rv_move rfl) ?_
      refine wl_val wn rfl (rv_len (t := tGState) Try.underlying28 rfl (SliceAt.mono (((hS10.le.trans hS20.le).trans hS32.le).trans hS44.le) hs4)) ?_
      refine wl_val wn rfl (rv_neq rfl rfl) ?_
      refine wl_nil ?_
      refine qe_seq ?_
      refine wc_cond rfl (fun hb52 => ?_) (fun hb52 => ?_)
      · have h53 := cond_t hb52 h40
        refine wc_seq ?_
        refine wc_region ?_
        refine wl_val wn rfl (rv_assign (v := .bool false) rfl) ?_
        refine wl_nil ?_
        refine qe_seq ?_
        refine wc_ret ?_
        refine qe_then_ret ?_
        obtain rfl := Option.some.inj h53
        have hS54 : SH _ _ _ _ _ [] := SH.sublist hS51 (.cons _ (.cons _ .slnil))
        exact qe_ret (vs := [_]) Try.results68 ⟨rfl, trivial⟩ ⟨K42, rfl, hS54⟩
      · have h53 := cond_f hb52 h40
        refine wc_skip ?_
        refine qe_seq ?_
        refine wc_seq ?_
        refine wc_seq ?_
        refine wc_region ?_
        refine wl_val wn rfl (rv_assign (v := .int .i64 0) rfl) ?_
        refine wl_nil ?_
        refine qe_seq ?_
        obtain ⟨o55, h56, h57⟩ := Option.bind_eq_some_iff.1 h53
        refine wc_cutg (fun E' w' => ∃ (s58 : Unit) (K59 : KMap), o55 = .inl s58 ∧ E' = [] ∧ SH w K [] w' K59 [] ∧ KLe K42 K59) ?_ ?_
        · refine wc_block ?_
          obtain ⟨r64, h65, h66⟩ := Option.bind_eq_some_iff.1 h56
          have hS72 : SH _ _ _ _ _ [] := SH.sublist hS51 (.cons _ (.cons _ .slnil))
          refine wc_while' (fun (s63 : Int) E' w' => ∃ (K67 : KMap), E' = [(0, .slice a1 n2 c3), (4, .slice a45 n46 c47), (6, .int .i64 s63)] ∧ SH w K [] w' K67 [] ∧ KLe K42 K67 ∧ rng64 s63) h65 ⟨K42, rfl, hS72, (KLe.refl _), (by decide : rng64 0)⟩ ⟨rfl, rfl, rfl, trivial⟩ ?_
          rintro s63 _ w69 r73 h74 hx75 ⟨K67, rfl, hS70, hl68, hr71⟩
          refine wc_seq ?_
          refine wc_seq ?_
          refine wc_region ?_
          refine wl_val wn rfl (rv_move rfl) ?_
          refine wl_val wn rfl (rv_move rfl) ?_
          refine wl_val wn rfl (rv_len (t := tGState) Try.underlying28 rfl (SliceAt.mono ((((hS10.le.trans hS20.le).trans hS32.le).trans hS44.le).trans hl68) hs4)) ?_
          refine wl_val wn rfl (rv_lss rfl rfl) ?_
          refine wl_nil ?_
          refine qe_seq ?_
          refine wc_cond rfl (fun hb76 => ?_) (fun hb76 => ?_)
          · have h77 := cond_t hb76 h74
            refine wc_skip ?_
            refine qe_seq ?_
            refine wc_seq ?_
            refine wc_block ?_
            refine wc_seq ?_
            refine wc_quiet mixed (by kernel_rfl) hS70 ?_
            refine wq_val wn rfl (fun _ _ => (rv_move rfl)) ?_
            refine wq_val wn rfl (fun _ _ => (rv_move rfl)) ?_
            obtain ⟨x78, hx79, h80⟩ := Option.bind_eq_some_iff.1 h77
            refine wq_indexAddr (t := tGState) wn rfl Try.underlying28 tf33 rfl rfl (SliceAt.mono hl68 hs48) hx79 ?_
            intro b81 o82 u83 hu84 ha85
            obtain ⟨a87, n88, c89, rfl, hr86, hs90⟩ := hu84
            have ha91 : AtK _ b81 o82 [.bool x78.Final, .int .i64 x78.Many, .slice a87 n88 c89] := ha85
            refine wq_val wn rfl (rq_loadS (cs := [.bool x78.Final, .int .i64 x78.Many, .slice a87 n88 c89]) tf33 rfl ha91 rfl) ?_
            refine wq_val wn rfl (fun _ _ => (rv_move rfl)) ?_
            refine wq_val wn rfl (fun _ _ => (rv_move rfl)) ?_
            obtain ⟨x92, hx93, h94⟩ := Option.bind_eq_some_iff.1 h80
            refine wq_indexAddr (t := tGState) wn rfl Try.underlying28 tf33 rfl rfl (SliceAt.mono ((((hS10.le.trans hS20.le).trans hS32.le).trans hS44.le).trans hl68) hs4) hx93 ?_
            intro b95 o96 u97 hu98 ha99
            obtain ⟨a101, n102, c103, rfl, hr100, hs104⟩ := hu98
            have ha105 : AtK _ b95 o96 [.bool x92.Final, .int .i64 x92.Many, .slice a101 n102 c103] := ha99
            refine wq_val wn rfl (rq_loadS (cs := [.bool x92.Final, .int .i64 x92.Many, .slice a101 n102 c103]) tf33 rfl ha105 rfl) ?_
            obtain ⟨r106, hx107, h108⟩ := Option.bind_eq_some_iff.1 h94
            refine wq_call (v := .bool r106) wn rfl (fun _ => rt_call (vs := [.agg #[.bool x78.Final, .int .i64 x78.Many, .slice a87 n88 c89], .agg #[.bool x92.Final, .int .i64 x92.Many, .slice a101 n102 c103]]) co86 rfl) (fun w111 ⟨K109, hS110, hl112⟩ => ((ok_spec_l4Same F) hS110.enter0 hr86 (SliceAt.mono hl112 hs90) hr100 (SliceAt.mono hl112 hs104) hx107).mono fun e w' ⟨K', he, hS'⟩ => ⟨he, K', hS110.call0 hS', hl112.trans hS'.le⟩) ?_
            refine wq_val wn rfl (fun _ _ => (rv_not rfl)) ?_
            refine wq_nil ?_
            rintro w114 ⟨K113, hS115, hl116⟩
            refine qe_seq ?_
            refine wc_cond rfl (fun hb117 => ?_) (fun hb117 => ?_)
            · have h118 := cond_t hb117 h108
              refine wc_seq ?_
              refine wc_region ?_
              refine wl_val wn rfl (rv_assign (v := .bool false) rfl) ?_
              refine wl_nil ?_
              refine qe_seq ?_
              refine wc_ret ?_
              refine qe_block_ret ?_
              refine qe_then_ret ?_
              refine qe_then_ret ?_
              obtain rfl := Option.some.inj h118
              have e119 := hx75 _ rfl
              subst e119
              refine qe_block_ret ?_
              refine qe_then_ret ?_
              obtain rfl := Option.some.inj h66
              refine qe_then_ret ?_
              obtain rfl := Option.some.inj h57
              exact qe_ret (vs := [_]) Try.results68 ⟨rfl, trivial⟩ ⟨K113, rfl, hS115⟩
            · have h118 := cond_f hb117 h108
              refine wc_skip ?_
              refine qe_block ?_
              refine qe_seq ?_
              refine wc_region ?_
              refine wl_val wn rfl (rv_move rfl) ?_
              refine wl_val wn rfl (rv_add rfl rfl) ?_
              refine wl_val wn rfl (rv_assign rfl) ?_
              refine wl_nil ?_
              obtain rfl := Option.some.inj h118
              exact qe_mid' ⟨_, rfl, K113, rfl, hS115, (hl68.trans hl116), (w64_rng _)⟩ ⟨rfl, rfl, rfl, trivial⟩
          · have h77 := cond_f hb76 h74
            refine wc_exit ?_
            refine qe_then_exit ?_
            refine qe_then_exit ?_
            obtain rfl := Option.some.inj h77
            have e120 := hx75 _ rfl
            subst e120
            refine qe_block_eq ?_
            obtain rfl := Option.some.inj h66
            exact qe_mid' ⟨_, K67, rfl, rfl, hS70, hl68⟩ trivial
        · rintro _ w61 ⟨s58, K59, rfl, rfl, hS62, hl60⟩
          refine qe_seq ?_
          refine wc_seq ?_
          refine wc_region ?_
          refine wl_val wn rfl (rv_assign (v := .bool true) rfl) ?_
          refine wl_nil ?_
          refine qe_seq ?_
          refine wc_ret ?_
          obtain rfl := Option.some.inj h57
          exact qe_ret (vs := [_]) Try.results68 ⟨rfl, trivial⟩ ⟨K59, rfl, hS62⟩

theorem ok_spec_DawgOk (F : Nat) {w : World} {K : KMap} {a1 : Option Addr} {n2 c3 : Nat} {p0_d : List GState} {r : Bool} (hS : SH w K [] w K []) (hs4 : SliceAt tGState K a1 n2 c3 p0_d) (hm : M.spec_DawgOk F p0_d = some r) :
    Calls Try.prog 41 #[.slice a1 n2 c3] w fun e w' => ∃ (K' : KMap), e = .returned (.bool r) ∧ SH w K [] w' K' [] := by
  rw [M.spec_DawgOk] at hm
  refine calls_in Try.func41 rfl Try.ntmps41 rfl ?_
  refine wc_seq ?_
  refine wc_region ?_
  refine wl_val wn rfl (rv_assign (v := .bool false) rfl) ?_
  refine wl_nil ?_
  refine qe_seq ?_
  refine wc_seq ?_
  refine wc_region ?_
  refine wl_val wn rfl (rv_move rfl) ?_
  obtain ⟨r5, hx6, h7⟩ := Option.bind_eq_some_iff.1 hm
  refine wl_call wn rfl (rt_call (vs := [.slice a1 n2 c3]) co68 rfl) ((ok_spec_l4Ok F) hS.enter0 hs4 hx6) ?_
  rintro e11 w9 ⟨K8, rfl, hS10⟩
  refine ⟨_, rfl, ?_⟩
  have hS12 : SH _ _ _ _ _ [] := SH.call0 hS hS10
  refine wl_val wn rfl (rv_assign rfl) ?_
  refine wl_nil ?_
  refine qe_seq ?_
  refine wc_ret ?_
  obtain rfl := Option.some.inj h7
  exact qe_ret (vs := [_]) Try.results41 ⟨rfl, trivial⟩ ⟨K8, rfl, hS12⟩

theorem ok_laws_toArc (F : Nat) {w : World} {K : KMap} {p0_a : GArc} {r : GArc} (hS : SH w K [] w K []) (hr1 : rng64 p0_a.To) (hm : M.laws_toArc F p0_a = some r) :
    Calls Try.prog 95 #[.agg #[iv8 p0_a.Byte, .int .i64 p0_a.To]] w fun e w' => ∃ (K' : KMap), e = .returned (.agg #[iv8 r.Byte, .int .i64 r.To]) ∧ SH w K [] w' K' [] ∧ rng64 r.To := by
  rw [M.laws_toArc] at hm
  refine calls_in Try.func95 rfl Try.ntmps95 rfl ?_
  refine wc_seq ?_
  refine wc_region ?_
  refine wl_box wn rfl rfl hS ?_
  intro g2 w3 hS4
  have hS5 : SH _ _ _ _ _ [obj g2 [iv8 p0_a.Byte, .int .i64 p0_a.To] 109] := hS4
  refine wl_alloc wn rfl tf35 hS5 ?_
  intro g6 w7 hS8
  have hS9 : SH _ _ _ _ _ [obj g6 [iv8 0, .int .i64 0] 35, _] := hS8
  refine wl_nil ?_
  refine qe_seq ?_
  refine wc_seq ?_
  refine wc_region ?_
  refine wl_alloc wn rfl tf35 hS9 ?_
  intro g10 w11 hS12
  have hS13 : SH _ _ _ _ _ [obj g10 [iv8 0, .int .i64 0] 35, _, _] := hS12
  refine wl_nil ?_
  refine qe_seq ?_
  refine wc_seq ?_
  refine wc_region ?_
  refine wl_val wn rfl (rv_fieldAddr ff109_0 rfl) ?_
  refine wl_val wn rfl (rv_loadm1 tf5 rfl (.tail _ (.tail _ (.head _))) hS13 rfl) ?_
  refine wl_val wn rfl (rv_fieldAddr ff35_0 rfl) ?_
  refine wl_store (cs' := [iv8 p0_a.Byte, .int .i64 0]) (v := iv8 p0_a.Byte) wn tf5 rfl rfl rfl (by simp [Value.cells, Value.oneCell', iv8]) hS13 rfl rfl ?_
  intro w14 hS15
  refine wl_nil ?_
  refine qe_seq ?_
  refine wc_seq ?_
  refine wc_region ?_
  refine wl_val wn rfl (rv_fieldAddr ff109_1 rfl) ?_
  refine wl_val wn rfl (rv_loadm1 tf3 rfl (.tail _ (.tail _ (.head _))) hS15 rfl) ?_
  refine wl_val wn rfl (rv_fieldAddr ff35_1 rfl) ?_
  refine wl_store (cs' := [iv8 p0_a.Byte, .int .i64 p0_a.To]) (v := .int .i64 p0_a.To) wn tf3 rfl rfl rfl (by simp [Value.cells, Value.oneCell']) hS15 rfl rfl ?_
  intro w16 hS17
  refine wl_nil ?_
  refine qe_seq ?_
  refine wc_seq ?_
  refine wc_region ?_
  refine wl_val wn rfl (rv_loadmS (ds := [iv8 p0_a.Byte, .int .i64 p0_a.To]) tf35 rfl (.head _) hS17 rfl rfl) ?_
  have hS18 : SH _ _ _ _ _ [_, _, _] := SH.front (p := [_]) hS17
  refine wl_store (cs' := [iv8 p0_a.Byte, .int .i64 p0_a.To]) (v := .agg #[iv8 p0_a.Byte, .int .i64 p0_a.To]) wn tf35 rfl rfl rfl (by simp [Value.cells, Value.oneCell', iv8]) hS18 rfl rfl ?_
  intro w19 hS20
  refine wl_nil ?_
  refine qe_seq ?_
  refine wc_ret ?_
  obtain rfl := Option.some.inj hm
  have hS21 : SH _ _ _ _ _ [] := SH.sublist hS20 (.cons _ (.cons _ (.cons _ .slnil)))
  exact qe_ret (vs := [_]) Try.results95 ⟨⟨_, _, rfl, run_loadVar_at tf35 (cs := [iv8 p0_a.Byte, .int .i64 p0_a.To]) (fun j c e => by rw [Nat.zero_add, hS20.mem_obj (.head _)]; exact e) (.inl ⟨rfl, rfl, rfl⟩)⟩, trivial⟩ ⟨K, rfl, hS21, hr1⟩

theorem ok_laws_toArcS (F : Nat) {w : World} {K : KMap} {a1 : Option Addr} {n2 c3 : Nat} {p0_a : List GArc} {r : (List GArc)} (hS : SH w K [] w K []) (hs4 : SliceAt tGArc K a1 n2 c3 p0_a) (hm : M.laws_toArcS F p0_a = some r) :
    Calls Try.prog 88 #[.slice a1 n2 c3] w fun e w' => ∃ (a_1 : Option Addr) (n_2 c_3 : Nat) (K' : KMap), e = .returned (.slice a_1 n_2 c_3) ∧ SH w K [] w' K' [tail (.slice a_1 n_2 c_3) 35 2] ∧ SliceAt tGArc K' a_1 n_2 c_3 r := by
  rw [M.laws_toArcS] at hm
  refine calls_in Try.func88 rfl Try.ntmps88 rfl ?_
  refine wc_seq ?_
  refine wc_region ?_
  refine wl_val wn rfl (rv_assign (v := .slice none 0 0) rfl) ?_
  refine wl_nil ?_
  refine qe_seq ?_
  refine wc_seq ?_
  refine wc_region ?_
  refine wl_val wn rfl (rv_move rfl) ?_
  refine wl_val wn rfl (rv_len (t := tGArc) Try.underlying83 rfl hs4) ?_
  obtain ⟨x5, hx6, h7⟩ := Option.bind_eq_some_iff.1 hm
  refine wl_make (t := tGArc) wn rfl Try.underlying31 tf35 rfl rfl rfl hx6 ⟨rfl, (by decide : rng64 0)⟩ hS ?_
  intro g8 cs9 w10 hmx13 hrow11 hS12
  obtain ⟨m14, hm15⟩ : ∃ m, m = x5.length := ⟨_, rfl⟩
  rw [← hm15] at hmx13
  rw [← hm15]
  refine wl_val wn rfl (rv_assign rfl) ?_
  refine wl_nil ?_
  refine qe_seq ?_
  refine wc_seq ?_
  refine wc_seq ?_
  refine wc_region ?_
  refine wl_val wn rfl (rv_assign (v := .int .i64 0) rfl) ?_
  refine wl_nil ?_
  refine qe_seq ?_
  obtain ⟨o16, h17, h18⟩ := Option.bind_eq_some_iff.1 h7
  refine wc_cutg (fun E' w' => ∃ (cs23 : List Value) (K19 : KMap), E' = [(3, .slice (some ⟨g8, 0, none⟩) m14 m14)] ∧ SH w K [] w' K19 [obj g8 cs23 35] ∧ KLe K K19 ∧ RowAt true tGArc K19 cs23 o16 ∧ m14 = o16.length) ?_ ?_
  · refine wc_block ?_
    obtain ⟨r27, h28, h29⟩ := Option.bind_eq_some_iff.1 h17
    refine wc_while' (fun (s26 : Int × (List GArc)) E' w' => ∃ (cs35 : List Value) (K30 : KMap), E' = [(0, .slice a1 n2 c3), (3, .slice (some ⟨g8, 0, none⟩) m14 m14), (4, .int .i64 s26.1)] ∧ SH w K [] w' K30 [obj g8 cs35 35] ∧ KLe K K30 ∧ rng64 s26.1 ∧ RowAt true tGArc K30 cs35 s26.2 ∧ m14 = s26.2.length) h28 ⟨cs9, K, rfl, hS12, (KLe.refl _), (by decide : rng64 0), hrow11, hm15⟩ ⟨rfl, rfl, rfl, trivial⟩ ?_
    rintro s26 _ w32 r38 h39 hx40 ⟨cs35, K30, rfl, hS33, hl31, hr34, hrow36, hm37⟩
    refine wc_seq ?_
    refine wc_seq ?_
    refine wc_region ?_
    refine wl_val wn rfl (rv_move rfl) ?_
    refine wl_val wn rfl (rv_move rfl) ?_
    refine wl_val wn rfl (rv_len (t := tGArc) Try.underlying83 rfl (SliceAt.mono hl31 hs4)) ?_
    refine wl_val wn rfl (rv_lss rfl rfl) ?_
    refine wl_nil ?_
    refine qe_seq ?_
    refine wc_cond rfl (fun hb41 => ?_) (fun hb41 => ?_)
    · have h42 := cond_t hb41 h39
      refine wc_skip ?_
      refine qe_seq ?_
      refine wc_seq ?_
      refine wc_block ?_
      refine wc_region ?_
      refine wl_val wn rfl (rv_move rfl) ?_
      refine wl_val wn rfl (rv_move rfl) ?_
      refine wl_val wn rfl (rv_move rfl) ?_
      refine wl_val wn rfl (rv_move rfl) ?_
      obtain ⟨x43, hx44, h45⟩ := Option.bind_eq_some_iff.1 h42
      refine wl_indexAddr (t := tGArc) wn rfl Try.underlying83 tf109 rfl rfl (SliceAt.mono hl31 hs4) hx44 ?_
      intro b46 o47 u48 hu49 ha50
      obtain ⟨rfl, hr51⟩ := hu49
      have ha52 : AtK _ b46 o47 [iv8 x43.Byte, .int .i64 x43.To] := ha50
      refine wl_val wn rfl (rv_loadS (cs := [iv8 x43.Byte, .int .i64 x43.To]) tf109 rfl hS33 ha52 rfl) ?_
      obtain ⟨r53, hx54, h55⟩ := Option.bind_eq_some_iff.1 h45
      refine wl_call wn rfl (rt_call (vs := [.agg #[iv8 x43.Byte, .int .i64 x43.To]]) co95 rfl) ((ok_laws_toArc F) hS33.enter0 hr51 hx54) ?_
      rintro e60 w57 ⟨K56, rfl, hS58, hr59⟩
      refine ⟨_, rfl, ?_⟩
      have hS61 : SH _ _ _ _ _ [_] := SH.call0 hS33 hS58
      obtain ⟨x62, hx63, h64⟩ := Option.bind_eq_some_iff.1 h55
      obtain ⟨u65, hu66, hk67⟩ := RowAt.at (RowAt.mono hS58.le hrow36) hx63
      obtain ⟨rfl, hr69⟩ := hu66
      have hk68 : ∀ (j : Nat) (d : Value), [iv8 x62.Byte, .int .i64 x62.To][j]? = some d → cs35[s26.1.toNat * tGArc.size + j]? = some d := hk67
      refine wl_val wn rfl (rv_indexRow (t := tGArc) Try.underlying31 tf35 rfl rfl hm37 hx63) ?_
      refine wl_storeRow (t := tGArc) (v := .agg #[iv8 r53.Byte, .int .i64 r53.To]) (e := r53) wn tf35 rfl rfl ⟨rfl, hr59⟩ hS61 (RowAt.mono hS58.le hrow36) hx63 ?_
      intro cs70 w71 hrow72 hS73
      have hm74 := hm37.trans (List.length_set (i := s26.1.toNat) (a := r53)).symm
      refine wl_nil ?_
      refine qe_block ?_
      refine qe_seq ?_
      refine wc_region ?_
      refine wl_val wn rfl (rv_move rfl) ?_
      refine wl_val wn rfl (rv_add rfl rfl) ?_
      refine wl_val wn rfl (rv_assign rfl) ?_
      refine wl_nil ?_
      obtain rfl := Option.some.inj h64
      exact qe_mid' ⟨_, rfl, cs70, K56, rfl, hS73, (hl31.trans hS58.le), (w64_rng _), hrow72, hm74⟩ ⟨rfl, rfl, rfl, trivial⟩
    · have h42 := cond_f hb41 h39
      refine wc_exit ?_
      refine qe_then_exit ?_
      refine qe_then_exit ?_
      obtain rfl := Option.some.inj h42
      have e75 := hx40 _ rfl
      subst e75
      refine qe_block_eq ?_
      obtain rfl := Option.some.inj h29
      exact qe_mid' ⟨cs35, K30, rfl, hS33, hl31, hrow36, hm37⟩ ⟨rfl, trivial⟩
  · rintro _ w21 ⟨cs23, K19, rfl, hS22, hl20, hrow24, hm25⟩
    refine qe_seq ?_
    refine wc_seq ?_
    refine wc_region ?_
    refine wl_val wn rfl (rv_move rfl) ?_
    refine wl_val wn rfl (rv_assign rfl) ?_
    refine wl_nil ?_
    refine qe_seq ?_
    refine wc_ret ?_
    obtain ⟨K76, hl77, hs78, hS79⟩ := SH.freeze hS22 hrow24 (row_max hm25 hmx13)
    rw [← hm25] at hs78 hS79
    obtain rfl := Option.some.inj h18
    exact qe_ret (vs := [_]) Try.results88 ⟨rfl, trivial⟩ ⟨(some ⟨g8, 0, none⟩), m14, m14, K76, rfl, hS79, hs78⟩

theorem ok_laws_toState (F : Nat) {w : World} {K : KMap} {a2 : Option Addr} {n3 c4 : Nat} {p0_a : GState} {r : GState} (hS : SH w K [] w K []) (hr1 : rng64 p0_a.Many) (hs5 : SliceAt tGArc K a2 n3 c4 p0_a.Arcs) (hm : M.laws_toState F p0_a = some r) :
    Calls Try.prog 72 #[.agg #[.bool p0_a.Final, .int .i64 p0_a.Many, .slice a2 n3 c4]] w fun e w' => ∃ (a_2 : Option Addr) (n_3 c_4 : Nat) (K' : KMap), e = .returned (.agg #[.bool r.Final, .int .i64 r.Many, .slice a_2 n_3 c_4]) ∧ SH w K [] w' K' [] ∧ rng64 r.Many ∧ SliceAt tGArc K' a_2 n_3 c_4 r.Arcs := by
  rw [M.laws_toState] at hm
  refine calls_in Try.func72 rfl Try.ntmps72 rfl ?_
  refine wc_seq ?_
  refine wc_region ?_
  refine wl_box wn rfl rfl hS ?_
  intro g6 w7 hS8
  have hS9 : SH _ _ _ _ _ [obj g6 [.bool p0_a.Final, .int .i64 p0_a.Many, .slice a2 n3 c4] 85] := hS8
  refine wl_alloc wn rfl tf33 hS9 ?_
  intro g10 w11 hS12
  have hS13 : SH _ _ _ _ _ [obj g10 [.bool false, .int .i64 0, .slice none 0 0] 33, _] := hS12
  refine wl_nil ?_
  refine qe_seq ?_
  refine wc_seq ?_
  refine wc_region ?_
  refine wl_alloc wn rfl tf33 hS13 ?_
  intro g14 w15 hS16
  have hS17 : SH _ _ _ _ _ [obj g14 [.bool false, .int .i64 0, .slice none 0 0] 33, _, _] := hS16
  refine wl_nil ?_
  refine qe_seq ?_
  refine wc_seq ?_
  refine wc_region ?_
  refine wl_val wn rfl (rv_fieldAddr ff85_0 rfl) ?_
  refine wl_val wn rfl (rv_loadm1 tf4 rfl (.tail _ (.tail _ (.head _))) hS17 rfl) ?_
  refine wl_val wn rfl (rv_fieldAddr ff33_0 rfl) ?_
  refine wl_store (cs' := [.bool p0_a.Final, .int .i64 0, .slice none 0 0]) (v := .bool p0_a.Final) wn tf4 rfl rfl rfl (by simp [Value.cells, Value.oneCell']) hS17 rfl rfl ?_
  intro w18 hS19
  refine wl_nil ?_
  refine qe_seq ?_
  refine wc_seq ?_
  refine wc_region ?_
  refine wl_val wn rfl (rv_fieldAddr ff85_1 rfl) ?_
  refine wl_val wn rfl (rv_loadm1 tf3 rfl (.tail _ (.tail _ (.head _))) hS19 rfl) ?_
  refine wl_val wn rfl (rv_fieldAddr ff33_1 rfl) ?_
  refine wl_store (cs' := [.bool p0_a.Final, .int .i64 p0_a.Many, .slice none 0 0]) (v := .int .i64 p0_a.Many) wn tf3 rfl rfl rfl (by simp [Value.cells, Value.oneCell']) hS19 rfl rfl ?_
  intro w20 hS21
  refine wl_nil ?_
  refine qe_seq ?_
  refine wc_seq ?_
  refine wc_region ?_
  refine wl_val wn rfl (rv_fieldAddr ff85_2 rfl) ?_
  refine wl_val wn rfl (rv_loadm1 tf83 rfl (.tail _ (.tail _ (.head _))) hS21 rfl) ?_
  obtain ⟨r22, hx23, h24⟩ := Option.bind_eq_some_iff.1 hm
  refine wl_call wn rfl (rt_call (vs := [.slice a2 n3 c4]) co88 rfl) ((ok_laws_toArcS F) hS21.enter0 hs5 hx23) ?_
  rintro e32 w26 ⟨a28, n29, c30, K25, rfl, hS27, hs31⟩
  refine ⟨_, rfl, ?_⟩
  have hS33 : SH _ _ _ _ _ [_, _, _, _] := SH.call0 hS21 hS27
  refine wl_val wn rfl (rv_fieldAddr ff33_2 rfl) ?_
  have hS34 : SH _ _ _ _ _ [_, _, _, _] := SH.front (p := [_]) hS33
  refine wl_store (cs' := [.bool p0_a.Final, .int .i64 p0_a.Many, .slice a28 n29 c30]) (v := .slice a28 n29 c30) wn tf31 rfl rfl rfl (by simp [Value.cells, Value.oneCell']) hS34 rfl rfl ?_
  intro w35 hS36
  refine wl_nil ?_
  refine qe_seq ?_
  refine wc_seq ?_
  refine wc_region ?_
  refine wl_val wn rfl (rv_loadmS (ds := [.bool p0_a.Final, .int .i64 p0_a.Many, .slice a28 n29 c30]) tf33 rfl (.head _) hS36 rfl rfl) ?_
  have hS37 : SH _ _ _ _ _ [_, _, _, _] := SH.front (p := [_, _]) hS36
  refine wl_store (cs' := [.bool p0_a.Final, .int .i64 p0_a.Many, .slice a28 n29 c30]) (v := .agg #[.bool p0_a.Final, .int .i64 p0_a.Many, .slice a28 n29 c30]) wn tf33 rfl rfl rfl (by simp [Value.cells, Value.oneCell']) hS37 rfl rfl ?_
  intro w38 hS39
  refine wl_nil ?_
  refine qe_seq ?_
  refine wc_ret ?_
  obtain rfl := Option.some.inj h24
  have hS40 : SH _ _ _ _ _ [] := SH.sublist hS39 (.cons _ (.cons _ (.cons _ (.cons _ .slnil))))
  exact qe_ret (vs := [_]) Try.results72 ⟨⟨_, _, rfl, run_loadVar_at tf33 (cs := [.bool p0_a.Final, .int .i64 p0_a.Many, .slice a28 n29 c30]) (fun j c e => by rw [Nat.zero_add, hS39.mem_obj (.head _)]; exact e) (.inl ⟨rfl, rfl, rfl⟩)⟩, trivial⟩ ⟨a28, n29, c30, K25, rfl, hS40, hr1, hs31⟩
end Go.Proofs.Ytdopcpaapniioaa
