/-
  Walks of the functions. Printed by gen.py.
-/
import Derived.Test.YtajfhpaokbgmeaaWalkA3
set_option linter.unusedVariables false
set_option maxRecDepth 100000
namespace Go.Proofs.Ytajfhpaokbgmeaa
open Go Go.Fk Go.RowKit

theorem ok_laws_FnShardOf (F : Nat) {w : World} {K : KMap} {a1 : Option Addr} {n2 c3 : Nat} {p0_code : List UInt8} {r : Bool} (hS : SH w K [] w K []) (hs4 : SliceAt tU8 K a1 n2 c3 p0_code) (hm : M.laws_FnShardOf F p0_code = some r) :
    Calls Try.prog 4 #[.slice a1 n2 c3] w fun e w' => ∃ (K' : KMap), e = .returned (.bool r) ∧ SH w K [] w' K' [] := by
  rw [M.laws_FnShardOf] at hm
  refine calls_in Try.func4 rfl Try.ntmps4 rfl ?_
  refine wc_seq ?_
  refine wc_region ?_
  refine wl_val wn rfl (rv_assign (v := .bool false) rfl) ?_
  refine wl_nil ?_
  refine qe_seq ?_
  refine wc_seq ?_
  refine wc_seq ?_
  refine wc_region ?_
  refine wl_val wn rfl (rv_move rfl) ?_
  refine wl_val wn rfl (rv_len (t := tU8) Try.underlying33 rfl hs4) ?_
  refine wl_val wn rfl (rv_gtr rfl rfl) ?_
  refine wl_nil ?_
  refine qe_seq ?_
  refine wc_cond rfl (fun hb5 => ?_) (fun hb5 => ?_)
  · have h6 := cond_t hb5 hm
    refine wc_seq ?_
    refine wc_region ?_
    refine wl_val wn rfl (rv_assign (v := .bool true) rfl) ?_
    refine wl_nil ?_
    refine qe_seq ?_
    refine wc_ret ?_
    refine qe_then_ret ?_
    obtain rfl := Option.some.inj h6
    exact qe_ret (vs := [_]) Try.results4 ⟨rfl, trivial⟩ ⟨K, rfl, hS⟩
  · have h6 := cond_f hb5 hm
    refine wc_skip ?_
    refine qe_seq ?_
    refine wc_seq ?_
    refine wc_region ?_
    refine wl_val wn rfl (rv_move rfl) ?_
    obtain ⟨r7, hx8, h9⟩ := Option.bind_eq_some_iff.1 h6
    refine wl_call wn rfl (rt_call (vs := [.slice a1 n2 c3]) co14 rfl) ((ok_spec_DrawShardOf F) hS.enter0 hs4 hx8) ?_
    rintro e19 w11 ⟨a13, n14, c15, K10, rfl, hS12, hs16, hr17, hr18⟩
    refine ⟨_, rfl, ?_⟩
    have hS20 : SH _ _ _ _ _ [_] := SH.call0 hS hS12
    refine wl_val wn rfl (rv_move rfl) ?_
    refine wl_val wn rfl (rv_extract rfl rfl) ?_
    refine wl_val wn rfl (rv_extract rfl rfl) ?_
    refine wl_val wn rfl (rv_extract rfl rfl) ?_
    refine wl_val wn rfl (rv_assign rfl) ?_
    refine wl_val wn rfl (rv_assign rfl) ?_
    refine wl_val wn rfl (rv_assign rfl) ?_
    refine wl_nil ?_
    refine qe_seq ?_
    refine wc_seq ?_
    refine wc_region ?_
    refine wl_val wn rfl (rv_move rfl) ?_
    refine wl_val wn rfl (rv_move rfl) ?_
    refine wl_val wn rfl (rv_move rfl) ?_
    obtain ⟨r21, hx22, h23⟩ := Option.bind_eq_some_iff.1 h9
    refine wl_call wn rfl (rt_call (vs := [.slice a13 n14 c15, .int .i64 r7.2.1, .int .i64 r7.2.2]) co15 rfl) ((ok_impl_ShardOf F) hS20.enter0 hs16 hr17 hr18 hx22) ?_
    rintro e31 w25 ⟨a27, n28, c29, K24, rfl, hS26, hs30⟩
    refine ⟨_, rfl, ?_⟩
    have hS32 : SH _ _ _ _ _ [_, _] := SH.call0 hS20 hS26
    refine wl_val wn rfl (rv_assign rfl) ?_
    refine wl_nil ?_
    refine qe_seq ?_
    refine wc_seq ?_
    refine wc_seq ?_
    obtain ⟨o33, h34, h35⟩ := Option.bind_eq_some_iff.1 h23
    refine wc_cutg (fun E' w' => ∃ (K36 : KMap), E' = [(3, .slice a13 n14 c15), (4, .int .i64 r7.2.1), (5, .int .i64 r7.2.2), (6, .slice a27 n28 c29), (43, .bool o33)] ∧ SH w K [] w' K36 [] ∧ KLe K24 K36) ?_ ?_
    · refine wc_region ?_
      refine wl_val wn rfl (rv_move rfl) ?_
      refine wl_val wn rfl (rv_move rfl) ?_
      refine wl_val wn rfl (rv_move rfl) ?_
      refine wl_val wn rfl (rv_move rfl) ?_
      obtain ⟨r40, hx41, h42⟩ := Option.bind_eq_some_iff.1 h34
      refine wl_call wn rfl (rt_call (vs := [.slice a13 n14 c15, .int .i64 r7.2.1, .int .i64 r7.2.2]) co17 rfl) ((ok_spec_ShardOf F) hS32.enter0 (SliceAt.mono hS26.le hs16) hr17 hr18 hx41) ?_
      rintro e50 w44 ⟨a46, n47, c48, K43, rfl, hS45, hs49⟩
      refine ⟨_, rfl, ?_⟩
      have hS51 : SH _ _ _ _ _ [_, _, _] := SH.call0 hS32 hS45
      obtain ⟨r52, hx53, h54⟩ := Option.bind_eq_some_iff.1 h42
      refine wl_call wn rfl (rt_call (vs := [.slice a27 n28 c29, .slice a46 n47 c48]) co16 rfl) ((ok_laws_foDocs F) hS51.enter0 (SliceAt.mono hS45.le hs30) hs49 hx53) ?_
      rintro e58 w56 ⟨K55, rfl, hS57⟩
      refine ⟨_, rfl, ?_⟩
      have hS59 : SH _ _ _ _ _ [_, _, _] := SH.call0 hS51 hS57
      refine wl_val wn rfl (rv_not rfl) ?_
      refine wl_val wn rfl (rv_move rfl) ?_
      rcases bool_tf ((!r52)) with hb60 | hb60
      · have h61 := cond_t hb60 h54
        refine wl_un (ug rfl rfl hb60) rfl ?_
        refine wl_un (ug rfl rfl hb60) rfl ?_
        refine wl_un (ug rfl rfl hb60) rfl ?_
        refine wl_val wn rfl (rv_pick_t (v := .bool true) rfl hb60 rfl) ?_
        refine wl_val wn rfl (rv_move rfl) ?_
        refine wl_un (ug rfl rfl rfl) rfl ?_
        refine wl_un (ug rfl rfl rfl) rfl ?_
        refine wl_val wn rfl (rv_pick_t (v := .bool true) rfl rfl rfl) ?_
        refine wl_val wn rfl (rv_move rfl) ?_
        refine wl_un (ug rfl rfl rfl) rfl ?_
        refine wl_un (ug rfl rfl rfl) rfl ?_
        refine wl_val wn rfl (rv_pick_t (v := .bool true) rfl rfl rfl) ?_
        refine wl_nil ?_
        obtain rfl := Option.some.inj h61
        have hS62 : SH _ _ _ _ _ [] := SH.sublist hS59 (.cons _ (.cons _ (.cons _ .slnil)))
        exact qe_mid' ⟨K55, rfl, hS62, (hS45.le.trans hS57.le)⟩ ⟨rfl, rfl, rfl, rfl, rfl, trivial⟩
      · have h61 := cond_f hb60 h54
        refine wl_val (wg rfl rfl hb60) rfl (rv_move rfl) ?_
        obtain ⟨r63, hx64, h65⟩ := Option.bind_eq_some_iff.1 h61
        refine wl_call (wg rfl rfl hb60) rfl (rt_call (vs := [.slice a13 n14 c15]) co18 rfl) ((ok_impl_DocsOk F) hS59.enter0 (SliceAt.mono ((hS26.le.trans hS45.le).trans hS57.le) hs16) hx64) ?_
        rintro e69 w67 ⟨K66, rfl, hS68⟩
        refine ⟨_, rfl, ?_⟩
        have hS70 : SH _ _ _ _ _ [_, _, _] := SH.call0 hS59 hS68
        refine wl_val (wg rfl rfl hb60) rfl (rv_not rfl) ?_
        refine wl_val wn rfl (rv_pick_f rfl hb60 rfl) ?_
        refine wl_val wn rfl (rv_move rfl) ?_
        rcases bool_tf ((!r63)) with hb71 | hb71
        · have h72 := cond_t hb71 h65
          refine wl_un (ug rfl rfl hb71) rfl ?_
          refine wl_un (ug rfl rfl hb71) rfl ?_
          refine wl_val wn rfl (rv_pick_t (v := .bool true) rfl hb71 rfl) ?_
          refine wl_val wn rfl (rv_move rfl) ?_
          refine wl_un (ug rfl rfl rfl) rfl ?_
          refine wl_un (ug rfl rfl rfl) rfl ?_
          refine wl_val wn rfl (rv_pick_t (v := .bool true) rfl rfl rfl) ?_
          refine wl_nil ?_
          obtain rfl := Option.some.inj h72
          have hS73 : SH _ _ _ _ _ [] := SH.sublist hS70 (.cons _ (.cons _ (.cons _ .slnil)))
          exact qe_mid' ⟨K66, rfl, hS73, ((hS45.le.trans hS57.le).trans hS68.le)⟩ ⟨rfl, rfl, rfl, rfl, rfl, trivial⟩
        · have h72 := cond_f hb71 h65
          refine wl_val (wg rfl rfl hb71) rfl (rv_move rfl) ?_
          refine wl_val (wg rfl rfl hb71) rfl (rv_lss rfl rfl) ?_
          refine wl_val wn rfl (rv_pick_f rfl hb71 rfl) ?_
          refine wl_val wn rfl (rv_move rfl) ?_
          rcases bool_tf (decide (r7.2.1 < (1 : Int))) with hb74 | hb74
          · have h75 := cond_t hb74 h72
            refine wl_un (ug rfl rfl hb74) rfl ?_
            refine wl_un (ug rfl rfl hb74) rfl ?_
            refine wl_val wn rfl (rv_pick_t (v := .bool true) rfl hb74 rfl) ?_
            refine wl_nil ?_
            obtain rfl := Option.some.inj h75
            have hS76 : SH _ _ _ _ _ [] := SH.sublist hS70 (.cons _ (.cons _ (.cons _ .slnil)))
            exact qe_mid' ⟨K66, rfl, hS76, ((hS45.le.trans hS57.le).trans hS68.le)⟩ ⟨rfl, rfl, rfl, rfl, rfl, trivial⟩
          · have h75 := cond_f hb74 h72
            refine wl_val (wg rfl rfl hb74) rfl (rv_move rfl) ?_
            refine wl_val (wg rfl rfl hb74) rfl (rv_gtr rfl rfl) ?_
            refine wl_val wn rfl (rv_pick_f rfl hb74 rfl) ?_
            refine wl_nil ?_
            obtain rfl := Option.some.inj h75
            have hS77 : SH _ _ _ _ _ [] := SH.sublist hS70 (.cons _ (.cons _ (.cons _ .slnil)))
            exact qe_mid' ⟨K66, rfl, hS77, ((hS45.le.trans hS57.le).trans hS68.le)⟩ ⟨rfl, rfl, rfl, rfl, rfl, trivial⟩
    · rintro _ w38 ⟨K36, rfl, hS39, hl37⟩
      refine qe_seq ?_
      refine wc_cond rfl (fun hb78 => ?_) (fun hb78 => ?_)
      · have h79 := cond_t hb78 h35
        refine wc_seq ?_
        refine wc_region ?_
        refine wl_val wn rfl (rv_move rfl) ?_
        refine wl_val wn rfl (rv_move rfl) ?_
        refine wl_val wn rfl (rv_move rfl) ?_
        refine wl_val wn rfl (rv_move rfl) ?_
        obtain ⟨r80, hx81, h82⟩ := Option.bind_eq_some_iff.1 h79
        refine wl_call wn rfl (rt_call (vs := [.slice a13 n14 c15, .int .i64 r7.2.1, .int .i64 r7.2.2]) co17 rfl) ((ok_spec_ShardOf F) hS39.enter0 (SliceAt.mono (hS26.le.trans hl37) hs16) hr17 hr18 hx81) ?_
        rintro e90 w84 ⟨a86, n87, c88, K83, rfl, hS85, hs89⟩
        refine ⟨_, rfl, ?_⟩
        have hS91 : SH _ _ _ _ _ [_] := SH.call0 hS39 hS85
        obtain ⟨r92, hx93, h94⟩ := Option.bind_eq_some_iff.1 h82
        refine wl_call wn rfl (rt_call (vs := [.slice a27 n28 c29, .slice a86 n87 c88]) co16 rfl) ((ok_laws_foDocs F) hS91.enter0 (SliceAt.mono (hl37.trans hS85.le) hs30) hs89 hx93) ?_
        rintro e98 w96 ⟨K95, rfl, hS97⟩
        refine ⟨_, rfl, ?_⟩
        have hS99 : SH _ _ _ _ _ [_] := SH.call0 hS91 hS97
        refine wl_val wn rfl (rv_assign rfl) ?_
        refine wl_nil ?_
        refine qe_seq ?_
        refine wc_ret ?_
        refine qe_then_ret ?_
        obtain rfl := Option.some.inj h94
        have hS100 : SH _ _ _ _ _ [] := SH.sublist hS99 (.cons _ .slnil)
        exact qe_ret (vs := [_]) Try.results4 ⟨rfl, trivial⟩ ⟨K95, rfl, hS100⟩
      · have h79 := cond_f hb78 h35
        refine wc_skip ?_
        refine qe_seq ?_
        refine wc_seq ?_
        refine wc_region ?_
        refine wl_val wn rfl (rv_assign (v := .int .i64 0) rfl) ?_
        refine wl_nil ?_
        refine qe_seq ?_
        refine wc_seq ?_
        refine wc_seq ?_
        refine wc_region ?_
        refine wl_val wn rfl (rv_assign (v := .int .i64 0) rfl) ?_
        refine wl_nil ?_
        refine qe_seq ?_
        obtain ⟨o101, h102, h103⟩ := Option.bind_eq_some_iff.1 h79
        refine wc_cutg (fun E' w' => ∃ (s104 : Int) (K105 : KMap), o101 = .inl s104 ∧ E' = [(3, .slice a13 n14 c15), (7, .int .i64 s104)] ∧ SH w K [] w' K105 [] ∧ KLe K36 K105 ∧ rng64 s104) ?_ ?_
        · refine wc_block ?_
          obtain ⟨r111, h112, h113⟩ := Option.bind_eq_some_iff.1 h102
          refine wc_while' (fun (s110 : Int × Int) E' w' => ∃ (K114 : KMap), E' = [(3, .slice a13 n14 c15), (4, .int .i64 r7.2.1), (7, .int .i64 s110.1), (8, .int .i64 s110.2)] ∧ SH w K [] w' K114 [] ∧ KLe K36 K114 ∧ rng64 s110.1 ∧ rng64 s110.2) h112 ⟨K36, rfl, hS39, (KLe.refl _), (by decide : rng64 0), (by decide : rng64 0)⟩ ⟨rfl, rfl, rfl, rfl, trivial⟩ ?_
          rintro s110 _ w116 r120 h121 hx122 ⟨K114, rfl, hS117, hl115, hr118, hr119⟩
          refine wc_seq ?_
          refine wc_seq ?_
          refine wc_region ?_
          refine wl_val wn rfl (rv_move rfl) ?_
          refine wl_val wn rfl (rv_move rfl) ?_
          refine wl_val wn rfl (rv_lss rfl rfl) ?_
          refine wl_nil ?_
          refine qe_seq ?_
          refine wc_cond rfl (fun hb123 => ?_) (fun hb123 => ?_)
          · have h124 := cond_t hb123 h121
            refine wc_skip ?_
            refine qe_seq ?_
            refine wc_seq ?_
            refine wc_block ?_
            refine wc_seq ?_
            refine wc_region ?_
            refine wl_val wn rfl (rv_move rfl) ?_
            refine wl_val wn rfl (rv_move rfl) ?_
            refine wl_val wn rfl (rv_move rfl) ?_
            obtain ⟨r125, hx126, h127⟩ := Option.bind_eq_some_iff.1 h124
            refine wl_call wn rfl (rt_call (vs := [.slice a13 n14 c15, .int .i64 r7.2.1, .int .i64 s110.2]) co15 rfl) ((ok_impl_ShardOf F) hS117.enter0 (SliceAt.mono ((hS26.le.trans hl37).trans hl115) hs16) hr17 hr119 hx126) ?_
            rintro e135 w129 ⟨a131, n132, c133, K128, rfl, hS130, hs134⟩
            refine ⟨_, rfl, ?_⟩
            have hS136 : SH _ _ _ _ _ [_] := SH.call0 hS117 hS130
            refine wl_val wn rfl (rv_assign rfl) ?_
            refine wl_nil ?_
            refine qe_seq ?_
            refine wc_seq ?_
            refine wc_region ?_
            refine wl_val wn rfl (rv_move rfl) ?_
            refine wl_val wn rfl (rv_move rfl) ?_
            refine wl_val wn rfl (rv_len (t := tGDoc) Try.underlying34 rfl hs134) ?_
            refine wl_val wn rfl (rv_add rfl rfl) ?_
            refine wl_val wn rfl (rv_assign rfl) ?_
            refine wl_nil ?_
            refine qe_seq ?_
            refine wc_seq ?_
            refine wc_region ?_
            refine wl_val wn rfl (rv_assign (v := .int .i64 0) rfl) ?_
            refine wl_nil ?_
            refine qe_seq ?_
            obtain ⟨o137, h138, h139⟩ := Option.bind_eq_some_iff.1 h127
            refine wc_cutg (fun E' w' => ∃ (s140 : Unit) (K141 : KMap), o137 = .inl s140 ∧ E' = [(3, .slice a13 n14 c15), (4, .int .i64 r7.2.1), (7, .int .i64 (w64 (s110.1 + (r125.length : Int)))), (8, .int .i64 s110.2)] ∧ SH w K [] w' K141 [] ∧ KLe K128 K141) ?_ ?_
            · refine wc_block ?_
              obtain ⟨r146, h147, h148⟩ := Option.bind_eq_some_iff.1 h138
              have hS154 : SH _ _ _ _ _ [] := SH.sublist hS136 (.cons _ .slnil)
              refine wc_while' (fun (s145 : Int) E' w' => ∃ (K149 : KMap), E' = [(3, .slice a13 n14 c15), (4, .int .i64 r7.2.1), (7, .int .i64 (w64 (s110.1 + (r125.length : Int)))), (8, .int .i64 s110.2), (9, .slice a131 n132 c133), (10, .int .i64 s145)] ∧ SH w K [] w' K149 [] ∧ KLe K128 K149 ∧ rng64 s145) h147 ⟨K128, rfl, hS154, (KLe.refl _), (by decide : rng64 0)⟩ ⟨rfl, rfl, rfl, rfl, rfl, rfl, trivial⟩ ?_
              rintro s145 _ w151 r155 h156 hx157 ⟨K149, rfl, hS152, hl150, hr153⟩
              refine wc_seq ?_
              refine wc_seq ?_
              refine wc_region ?_
              refine wl_val wn rfl (rv_move rfl) ?_
              refine wl_val wn rfl (rv_move rfl) ?_
              refine wl_val wn rfl (rv_len (t := tGDoc) Try.underlying34 rfl (SliceAt.mono hl150 hs134)) ?_
              refine wl_val wn rfl (rv_lss rfl rfl) ?_
              refine wl_nil ?_
              refine qe_seq ?_
              refine wc_cond rfl (fun hb158 => ?_) (fun hb158 => ?_)
              · have h159 := cond_t hb158 h156
                refine wc_skip ?_
                refine qe_seq ?_
                refine wc_seq ?_
                refine wc_block ?_
                refine wc_seq ?_
                obtain ⟨o160, h161, h162⟩ := Option.bind_eq_some_iff.1 h159
                refine wc_cutg (fun E' w' => ∃ (K163 : KMap), E' = [(3, .slice a13 n14 c15), (4, .int .i64 r7.2.1), (7, .int .i64 (w64 (s110.1 + (r125.length : Int)))), (8, .int .i64 s110.2), (9, .slice a131 n132 c133), (10, .int .i64 s145), (92, .bool o160)] ∧ SH w K [] w' K163 [] ∧ KLe K149 K163) ?_ ?_
                · refine wc_held (fun w' => Holds K149 w') (fun w' => True) 24 [] mixed ?_
                  have hS168 := SH.drew hS152
                  refine wg_val (i := 0) (listed' := #[true, false, false, false, false, false, false, false, false, false, false, false, false, false, false, false, false, false, false, false, false, false, false, false]) (fun _ => True) rfl (by kernel_rfl) (pk_then (pk_then (pk_block (pk_then (pk_then (pk_block (pk_then (pk_block (pk_then (pk_then (pk_block (pk_then (pk_then pk_body))))))))))))) (by kernel_rfl) rfl (by kernel_rfl) (by kernel_rfl) rfl (.inl fun _ _ => trivial) ⟨(hS168.hasK (KLe.refl _)), (fun _ => trivial), by decide⟩ wn rfl (fun _ _ => (rv_move rfl)) ?_
                  refine wg_val (i := 1) (listed' := #[true, true, false, false, false, false, false, false, false, false, false, false, false, false, false, false, false, false, false, false, false, false, false, false]) (fun _ => True) rfl (by kernel_rfl) (pk_then (pk_then (pk_block (pk_then (pk_then (pk_block (pk_then (pk_block (pk_then (pk_then (pk_block (pk_then (pk_then pk_body))))))))))))) (by kernel_rfl) rfl (by kernel_rfl) (by kernel_rfl) rfl (.inl fun _ _ => trivial) ⟨(hS168.hasK (KLe.refl _)), (fun _ => trivial), by decide⟩ wn rfl (fun _ _ => (rv_move rfl)) ?_
                  obtain ⟨x169, hx170, h171⟩ := Option.bind_eq_some_iff.1 h161
                  refine wg_indexAddr (t := tGDoc) (j := 2) (listed' := #[true, true, true, false, false, false, false, false, false, false, false, false, false, false, false, false, false, false, false, false, false, false, false, false]) rfl (by kernel_rfl) (pk_then (pk_then (pk_block (pk_then (pk_then (pk_block (pk_then (pk_block (pk_then (pk_then (pk_block (pk_then (pk_then pk_body))))))))))))) (by kernel_rfl) rfl (by kernel_rfl) (by kernel_rfl) rfl ⟨(hS168.hasK (KLe.refl _)), (fun _ => trivial), by decide⟩ wn rfl Try.underlying34 tf43 rfl rfl (SliceAt.mono hl150 hs134) hx170 ?_
                  intro b172 o173 u174 hu175 ha176
                  obtain ⟨a178, n179, c180, a182, n183, c184, rfl, hr177, hs181, hs185⟩ := hu175
                  have ha186 : AtK _ b172 o173 [.int .i64 x169.Id, .slice a178 n179 c180, .slice a182 n183 c184] := ha176
                  refine wg_val (i := 3) (listed' := #[true, true, true, true, false, false, false, false, false, false, false, false, false, false, false, false, false, false, false, false, false, false, false, false]) (fun _ => True) rfl (by kernel_rfl) (pk_then (pk_then (pk_block (pk_then (pk_then (pk_block (pk_then (pk_block (pk_then (pk_then (pk_block (pk_then (pk_then pk_body))))))))))))) (by kernel_rfl) rfl (by kernel_rfl) (by kernel_rfl) rfl (.inl fun _ _ => trivial) ⟨(hS168.hasK (KLe.refl _)), (fun _ => trivial), by decide⟩ wn rfl (fun _ _ => (rv_fieldAddr ff43_0 rfl)) ?_
                  refine wg_val (i := 4) (listed' := #[true, true, true, true, true, false, false, false, false, false, false, false, false, false, false, false, false, false, false, false, false, false, false, false]) (Holds K149) rfl (by kernel_rfl) (pk_then (pk_then (pk_block (pk_then (pk_then (pk_block (pk_then (pk_block (pk_then (pk_then (pk_block (pk_then (pk_then pk_body))))))))))))) (by kernel_rfl) rfl (by kernel_rfl) (by kernel_rfl) rfl (.inl fun _ h => h) ⟨(hS168.hasK (KLe.refl _)), (fun _ => trivial), by decide⟩ wn rfl (fun _ h => rh_load1 tf3 rfl (ha186 0 _ rfl) h) ?_
                  refine wg_val (i := 5) (listed' := #[true, true, true, true, true, true, false, false, false, false, false, false, false, false, false, false, false, false, false, false, false, false, false, false]) (fun _ => True) rfl (by kernel_rfl) (pk_then (pk_then (pk_block (pk_then (pk_then (pk_block (pk_then (pk_block (pk_then (pk_then (pk_block (pk_then (pk_then pk_body))))))))))))) (by kernel_rfl) rfl (by kernel_rfl) (by kernel_rfl) rfl (.inl fun _ _ => trivial) ⟨(hS168.hasK (KLe.refl _)), (fun _ => trivial), by decide⟩ wn rfl (fun _ _ => (rv_move rfl)) ?_
                  obtain ⟨x187, hx188, h189⟩ := Option.bind_eq_some_iff.1 h171
                  refine wg_val (i := 6) (listed' := #[true, true, true, true, true, true, true, false, false, false, false, false, false, false, false, false, false, false, false, false, false, false, false, false]) (fun _ => True) rfl (by kernel_rfl) (pk_then (pk_then (pk_block (pk_then (pk_then (pk_block (pk_then (pk_block (pk_then (pk_then (pk_block (pk_then (pk_then pk_body))))))))))))) (by kernel_rfl) rfl (by kernel_rfl) (by kernel_rfl) rfl (.inl fun _ _ => trivial) ⟨(hS168.hasK (KLe.refl _)), (fun _ => trivial), by decide⟩ wn rfl (fun _ _ => (rv_rem rfl rfl hx188)) ?_
                  refine wg_val (i := 7) (listed' := #[true, true, true, true, true, true, true, true, false, false, false, false, false, false, false, false, false, false, false, false, false, false, false, false]) (fun _ => True) rfl (by kernel_rfl) (pk_then (pk_then (pk_block (pk_then (pk_then (pk_block (pk_then (pk_block (pk_then (pk_then (pk_block (pk_then (pk_then pk_body))))))))))))) (by kernel_rfl) rfl (by kernel_rfl) (by kernel_rfl) rfl (.inl fun _ _ => trivial) ⟨(hS168.hasK (KLe.refl _)), (fun _ => trivial), by decide⟩ wn rfl (fun _ _ => (rv_move rfl)) ?_
                  refine wg_val (i := 8) (listed' := #[true, true, true, true, true, true, true, true, true, false, false, false, false, false, false, false, false, false, false, false, false, false, false, false]) (fun _ => True) rfl (by kernel_rfl) (pk_then (pk_then (pk_block (pk_then (pk_then (pk_block (pk_then (pk_block (pk_then (pk_then (pk_block (pk_then (pk_then pk_body))))))))))))) (by kernel_rfl) rfl (by kernel_rfl) (by kernel_rfl) rfl (.inl fun _ _ => trivial) ⟨(hS168.hasK (KLe.refl _)), (fun _ => trivial), by decide⟩ wn rfl (fun _ _ => (rv_neq rfl rfl)) ?_
                  refine wg_val (i := 9) (listed' := #[true, true, true, true, true, true, true, true, true, true, false, false, false, false, false, false, false, false, false, false, false, false, false, false]) (fun _ => True) rfl (by kernel_rfl) (pk_then (pk_then (pk_block (pk_then (pk_then (pk_block (pk_then (pk_block (pk_then (pk_then (pk_block (pk_then (pk_then pk_body))))))))))))) (by kernel_rfl) rfl (by kernel_rfl) (by kernel_rfl) rfl (.inl fun _ _ => trivial) ⟨(hS168.hasK (KLe.refl _)), (fun _ => trivial), by decide⟩ wn rfl (fun _ _ => (rv_move rfl)) ?_
                  rcases bool_tf ((!(x187 == s110.2))) with hb190 | hb190
                  · have h191 := cond_t hb190 h189
                    refine wg_un (i := 10) (listed' := #[true, true, true, true, true, true, true, true, true, true, true, false, false, false, false, false, false, false, false, false, false, false, false, false]) rfl (by kernel_rfl) (pk_then (pk_then (pk_block (pk_then (pk_then (pk_block (pk_then (pk_block (pk_then (pk_then (pk_block (pk_then (pk_then pk_body))))))))))))) (by kernel_rfl) rfl (by kernel_rfl) (by kernel_rfl) rfl ⟨(hS168.hasK (KLe.refl _)), (fun _ => trivial), by decide⟩ (ug rfl rfl hb190) rfl ?_
                    refine wg_un (i := 11) (listed' := #[true, true, true, true, true, true, true, true, true, true, true, true, false, false, false, false, false, false, false, false, false, false, false, false]) rfl (by kernel_rfl) (pk_then (pk_then (pk_block (pk_then (pk_then (pk_block (pk_then (pk_block (pk_then (pk_then (pk_block (pk_then (pk_then pk_body))))))))))))) (by kernel_rfl) rfl (by kernel_rfl) (by kernel_rfl) rfl ⟨(hS168.hasK (KLe.refl _)), (fun _ => trivial), by decide⟩ (ug rfl rfl hb190) rfl ?_
                    refine wg_un (i := 12) (listed' := #[true, true, true, true, true, true, true, true, true, true, true, true, true, false, false, false, false, false, false, false, false, false, false, false]) rfl (by kernel_rfl) (pk_then (pk_then (pk_block (pk_then (pk_then (pk_block (pk_then (pk_block (pk_then (pk_then (pk_block (pk_then (pk_then pk_body))))))))))))) (by kernel_rfl) rfl (by kernel_rfl) (by kernel_rfl) rfl ⟨(hS168.hasK (KLe.refl _)), (fun _ => trivial), by decide⟩ (ug rfl rfl hb190) rfl ?_
                    refine wg_un (i := 13) (listed' := #[true, true, true, true, true, true, true, true, true, true, true, true, true, true, false, false, false, false, false, false, false, false, false, false]) rfl (by kernel_rfl) (pk_then (pk_then (pk_block (pk_then (pk_then (pk_block (pk_then (pk_block (pk_then (pk_then (pk_block (pk_then (pk_then pk_body))))))))))))) (by kernel_rfl) rfl (by kernel_rfl) (by kernel_rfl) rfl ⟨(hS168.hasK (KLe.refl _)), (fun _ => trivial), by decide⟩ (ug rfl rfl hb190) rfl ?_
                    refine wg_un (i := 14) (listed' := #[true, true, true, true, true, true, true, true, true, true, true, true, true, true, true, false, false, false, false, false, false, false, false, false]) rfl (by kernel_rfl) (pk_then (pk_then (pk_block (pk_then (pk_then (pk_block (pk_then (pk_block (pk_then (pk_then (pk_block (pk_then (pk_then pk_body))))))))))))) (by kernel_rfl) rfl (by kernel_rfl) (by kernel_rfl) rfl ⟨(hS168.hasK (KLe.refl _)), (fun _ => trivial), by decide⟩ (ug rfl rfl hb190) rfl ?_
                    refine wg_un (i := 15) (listed' := #[true, true, true, true, true, true, true, true, true, true, true, true, true, true, true, true, false, false, false, false, false, false, false, false]) rfl (by kernel_rfl) (pk_then (pk_then (pk_block (pk_then (pk_then (pk_block (pk_then (pk_block (pk_then (pk_then (pk_block (pk_then (pk_then pk_body))))))))))))) (by kernel_rfl) rfl (by kernel_rfl) (by kernel_rfl) rfl ⟨(hS168.hasK (KLe.refl _)), (fun _ => trivial), by decide⟩ (ug rfl rfl hb190) rfl ?_
                    refine wg_un (i := 17) (listed' := #[true, true, true, true, true, true, true, true, true, true, true, true, true, true, true, true, false, true, false, false, false, false, false, false]) rfl (by kernel_rfl) (pk_then (pk_then (pk_block (pk_then (pk_then (pk_block (pk_then (pk_block (pk_then (pk_then (pk_block (pk_then (pk_then pk_body))))))))))))) (by kernel_rfl) rfl (by kernel_rfl) (by kernel_rfl) rfl ⟨(hS168.hasK (KLe.refl _)), (fun _ => trivial), by decide⟩ (ug rfl rfl hb190) rfl ?_
                    refine wg_un (i := 18) (listed' := #[true, true, true, true, true, true, true, true, true, true, true, true, true, true, true, true, false, true, true, false, false, false, false, false]) rfl (by kernel_rfl) (pk_then (pk_then (pk_block (pk_then (pk_then (pk_block (pk_then (pk_block (pk_then (pk_then (pk_block (pk_then (pk_then pk_body))))))))))))) (by kernel_rfl) rfl (by kernel_rfl) (by kernel_rfl) rfl ⟨(hS168.hasK (KLe.refl _)), (fun _ => trivial), by decide⟩ (ug rfl rfl hb190) rfl ?_
                    refine wg_un (i := 19) (listed' := #[true, true, true, true, true, true, true, true, true, true, true, true, true, true, true, true, false, true, true, true, false, false, false, false]) rfl (by kernel_rfl) (pk_then (pk_then (pk_block (pk_then (pk_then (pk_block (pk_then (pk_block (pk_then (pk_then (pk_block (pk_then (pk_then pk_body))))))))))))) (by kernel_rfl) rfl (by kernel_rfl) (by kernel_rfl) rfl ⟨(hS168.hasK (KLe.refl _)), (fun _ => trivial), by decide⟩ (ug rfl rfl hb190) rfl ?_
                    refine wg_un (i := 20) (listed' := #[true, true, true, true, true, true, true, true, true, true, true, true, true, true, true, true, false, true, true, true, true, false, false, false]) rfl (by kernel_rfl) (pk_then (pk_then (pk_block (pk_then (pk_then (pk_block (pk_then (pk_block (pk_then (pk_then (pk_block (pk_then (pk_then pk_body))))))))))))) (by kernel_rfl) rfl (by kernel_rfl) (by kernel_rfl) rfl ⟨(hS168.hasK (KLe.refl _)), (fun _ => trivial), by decide⟩ (ug rfl rfl hb190) rfl ?_
                    refine wg_one (i := 16) (by kernel_rfl) rfl ?_
                    refine wl_un (ug rfl rfl hb190) rfl ?_
                    refine wl_nil (qe_held (listed' := #[true, true, true, true, true, true, true, true, true, true, true, true, true, true, true, true, true, true, true, true, true, false, false, false]) rfl ⟨(hS168.hasK (KLe.refl _)), (fun _ => trivial), by decide⟩ ?_)
                    refine wg_one (i := 21) (by kernel_rfl) rfl ?_
                    refine wl_un (ug rfl rfl hb190) rfl ?_
                    refine wl_nil (qe_held (listed' := #[true, true, true, true, true, true, true, true, true, true, true, true, true, true, true, true, true, true, true, true, true, true, false, false]) rfl ⟨(hS168.hasK (KLe.refl _)), (fun _ => trivial), by decide⟩ ?_)
                    refine wg_un (i := 22) (listed' := #[true, true, true, true, true, true, true, true, true, true, true, true, true, true, true, true, true, true, true, true, true, true, true, false]) rfl (by kernel_rfl) (pk_then (pk_then (pk_block (pk_then (pk_then (pk_block (pk_then (pk_block (pk_then (pk_then (pk_block (pk_then (pk_then pk_body))))))))))))) (by kernel_rfl) rfl (by kernel_rfl) (by kernel_rfl) rfl ⟨(hS168.hasK (KLe.refl _)), (fun _ => trivial), by decide⟩ (ug rfl rfl hb190) rfl ?_
                    refine wg_val (i := 23) (listed' := #[true, true, true, true, true, true, true, true, true, true, true, true, true, true, true, true, true, true, true, true, true, true, true, true]) (fun _ => True) rfl (by kernel_rfl) (pk_then (pk_then (pk_block (pk_then (pk_then (pk_block (pk_then (pk_block (pk_then (pk_then (pk_block (pk_then (pk_then pk_body))))))))))))) (by kernel_rfl) rfl (by kernel_rfl) (by kernel_rfl) rfl (.inl fun _ _ => trivial) ⟨(hS168.hasK (KLe.refl _)), (fun _ => trivial), by decide⟩ wn rfl (fun _ _ => (rv_pick_t (v := .bool true) rfl hb190 rfl)) ?_
                    refine wg_done (by kernel_rfl) ?_
                    obtain rfl := Option.some.inj h191
                    exact qe_mid' ⟨K149, rfl, hS168, (KLe.refl _)⟩ ⟨rfl, rfl, rfl, rfl, rfl, rfl, rfl, trivial⟩
                  · have h191 := cond_f hb190 h189
                    refine wg_val (i := 10) (listed' := #[true, true, true, true, true, true, true, true, true, true, true, false, false, false, false, false, false, false, false, false, false, false, false, false]) (fun _ => True) rfl (by kernel_rfl) (pk_then (pk_then (pk_block (pk_then (pk_then (pk_block (pk_then (pk_block (pk_then (pk_then (pk_block (pk_then (pk_then pk_body))))))))))))) (by kernel_rfl) rfl (by kernel_rfl) (by kernel_rfl) rfl (.inl fun _ _ => trivial) ⟨(hS168.hasK (KLe.refl _)), (fun _ => trivial), by decide⟩ (wg rfl rfl hb190) rfl (fun _ _ => (rv_move rfl)) ?_
                    refine wg_val (i := 11) (listed' := #[true, true, true, true, true, true, true, true, true, true, true, true, false, false, false, false, false, false, false, false, false, false, false, false]) (fun _ => True) rfl (by kernel_rfl) (pk_then (pk_then (pk_block (pk_then (pk_then (pk_block (pk_then (pk_block (pk_then (pk_then (pk_block (pk_then (pk_then pk_body))))))))))))) (by kernel_rfl) rfl (by kernel_rfl) (by kernel_rfl) rfl (.inl fun _ _ => trivial) ⟨(hS168.hasK (KLe.refl _)), (fun _ => trivial), by decide⟩ (wg rfl rfl hb190) rfl (fun _ _ => (rv_move rfl)) ?_
                    refine wg_val (i := 12) (listed' := #[true, true, true, true, true, true, true, true, true, true, true, true, true, false, false, false, false, false, false, false, false, false, false, false]) (fun _ => True) rfl (by kernel_rfl) (pk_then (pk_then (pk_block (pk_then (pk_then (pk_block (pk_then (pk_block (pk_then (pk_then (pk_block (pk_then (pk_then pk_body))))))))))))) (by kernel_rfl) rfl (by kernel_rfl) (by kernel_rfl) rfl (.inl fun _ _ => trivial) ⟨(hS168.hasK (KLe.refl _)), (fun _ => trivial), by decide⟩ (wg rfl rfl hb190) rfl (fun _ _ => (rv_move rfl)) ?_
                    obtain ⟨x192, hx193, h194⟩ := Option.bind_eq_some_iff.1 h191
                    refine wg_indexAddr (t := tGDoc) (j := 13) (listed' := #[true, true, true, true, true, true, true, true, true, true, true, true, true, true, false, false, false, false, false, false, false, false, false, false]) rfl (by kernel_rfl) (pk_then (pk_then (pk_block (pk_then (pk_then (pk_block (pk_then (pk_block (pk_then (pk_then (pk_block (pk_then (pk_then pk_body))))))))))))) (by kernel_rfl) rfl (by kernel_rfl) (by kernel_rfl) rfl ⟨(hS168.hasK (KLe.refl _)), (fun _ => trivial), by decide⟩ (wg rfl rfl hb190) rfl Try.underlying34 tf43 rfl rfl (SliceAt.mono hl150 hs134) hx193 ?_
                    intro b195 o196 u197 hu198 ha199
                    obtain ⟨a201, n202, c203, a205, n206, c207, rfl, hr200, hs204, hs208⟩ := hu198
                    have ha209 : AtK _ b195 o196 [.int .i64 x192.Id, .slice a201 n202 c203, .slice a205 n206 c207] := ha199
                    refine wg_val (i := 14) (listed' := #[true, true, true, true, true, true, true, true, true, true, true, true, true, true, true, false, false, false, false, false, false, false, false, false]) (fun _ => True) rfl (by kernel_rfl) (pk_then (pk_then (pk_block (pk_then (pk_then (pk_block (pk_then (pk_block (pk_then (pk_then (pk_block (pk_then (pk_then pk_body))))))))))))) (by kernel_rfl) rfl (by kernel_rfl) (by kernel_rfl) rfl (.inl fun _ _ => trivial) ⟨(hS168.hasK (KLe.refl _)), (fun _ => trivial), by decide⟩ (wg rfl rfl hb190) rfl (fun _ _ => (rv_fieldAddr ff43_0 rfl)) ?_
                    refine wg_val (i := 15) (listed' := #[true, true, true, true, true, true, true, true, true, true, true, true, true, true, true, true, false, false, false, false, false, false, false, false]) (Holds K149) rfl (by kernel_rfl) (pk_then (pk_then (pk_block (pk_then (pk_then (pk_block (pk_then (pk_block (pk_then (pk_then (pk_block (pk_then (pk_then pk_body))))))))))))) (by kernel_rfl) rfl (by kernel_rfl) (by kernel_rfl) rfl (.inl fun _ h => h) ⟨(hS168.hasK (KLe.refl _)), (fun _ => trivial), by decide⟩ (wg rfl rfl hb190) rfl (fun _ h => rh_load1 tf3 rfl (ha209 0 _ rfl) h) ?_
                    refine wg_val (i := 17) (listed' := #[true, true, true, true, true, true, true, true, true, true, true, true, true, true, true, true, false, true, false, false, false, false, false, false]) (fun _ => True) rfl (by kernel_rfl) (pk_then (pk_then (pk_block (pk_then (pk_then (pk_block (pk_then (pk_block (pk_then (pk_then (pk_block (pk_then (pk_then pk_body))))))))))))) (by kernel_rfl) rfl (by kernel_rfl) (by kernel_rfl) rfl (.inl fun _ _ => trivial) ⟨(hS168.hasK (KLe.refl _)), (fun _ => trivial), by decide⟩ (wg rfl rfl hb190) rfl (fun _ _ => (rv_move rfl)) ?_
                    refine wg_val (i := 18) (listed' := #[true, true, true, true, true, true, true, true, true, true, true, true, true, true, true, true, false, true, true, false, false, false, false, false]) (fun _ => True) rfl (by kernel_rfl) (pk_then (pk_then (pk_block (pk_then (pk_then (pk_block (pk_then (pk_block (pk_then (pk_then (pk_block (pk_then (pk_then pk_body))))))))))))) (by kernel_rfl) rfl (by kernel_rfl) (by kernel_rfl) rfl (.inl fun _ _ => trivial) ⟨(hS168.hasK (KLe.refl _)), (fun _ => trivial), by decide⟩ (wg rfl rfl hb190) rfl (fun _ _ => (rv_move rfl)) ?_
                    obtain ⟨x210, hx211, h212⟩ := Option.bind_eq_some_iff.1 h194
                    refine wg_indexAddr (t := tGDoc) (j := 19) (listed' := #[true, true, true, true, true, true, true, true, true, true, true, true, true, true, true, true, false, true, true, true, false, false, false, false]) rfl (by kernel_rfl) (pk_then (pk_then (pk_block (pk_then (pk_then (pk_block (pk_then (pk_block (pk_then (pk_then (pk_block (pk_then (pk_then pk_body))))))))))))) (by kernel_rfl) rfl (by kernel_rfl) (by kernel_rfl) rfl ⟨(hS168.hasK (KLe.refl _)), (fun _ => trivial), by decide⟩ (wg rfl rfl hb190) rfl Try.underlying34 tf43 rfl rfl (SliceAt.mono hl150 hs134) hx211 ?_
                    intro b213 o214 u215 hu216 ha217
                    obtain ⟨a219, n220, c221, a223, n224, c225, rfl, hr218, hs222, hs226⟩ := hu216
                    have ha227 : AtK _ b213 o214 [.int .i64 x210.Id, .slice a219 n220 c221, .slice a223 n224 c225] := ha217
                    refine wg_val (i := 20) (listed' := #[true, true, true, true, true, true, true, true, true, true, true, true, true, true, true, true, false, true, true, true, true, false, false, false]) (Holds K149) rfl (by kernel_rfl) (pk_then (pk_then (pk_block (pk_then (pk_then (pk_block (pk_then (pk_block (pk_then (pk_then (pk_block (pk_then (pk_then pk_body))))))))))))) (by kernel_rfl) rfl (by kernel_rfl) (by kernel_rfl) rfl (.inl fun _ h => h) ⟨(hS168.hasK (KLe.refl _)), (fun _ => trivial), by decide⟩ (wg rfl rfl hb190) rfl (fun _ h => rh_loadS (cs := [.int .i64 x210.Id, .slice a219 n220 c221, .slice a223 n224 c225]) tf43 rfl ha227 rfl h) ?_
                    refine wg_one (i := 16) (by kernel_rfl) rfl ?_
                    obtain ⟨r228, hx229, h230⟩ := Option.bind_eq_some_iff.1 h212
                    refine wl_call (wg rfl rfl hb190) rfl (rt_call (vs := [.slice a13 n14 c15, .int .i64 x192.Id]) co20 rfl) ((ok_laws_foFind F) hS168.enter0 (SliceAt.mono ((((hS26.le.trans hl37).trans hl115).trans hS130.le).trans hl150) hs16) hr200 hx229) ?_
                    rintro e243 w232 ⟨a235, n236, c237, a239, n240, c241, K231, rfl, hS233, hr234, hs238, hs242⟩
                    refine ⟨_, rfl, ?_⟩
                    have hS244 : SH _ _ _ _ _ [] := SH.call0 hS168 hS233
                    refine wl_nil (qe_held (listed' := #[true, true, true, true, true, true, true, true, true, true, true, true, true, true, true, true, true, true, true, true, true, false, false, false]) rfl ⟨(hS244.hasK hS233.le), (fun _ => trivial), by decide⟩ ?_)
                    refine wg_one (i := 21) (by kernel_rfl) rfl ?_
                    obtain ⟨r245, hx246, h247⟩ := Option.bind_eq_some_iff.1 h230
                    refine wl_call (wg rfl rfl hb190) rfl (rt_call (vs := [.agg #[.int .i64 r228.Id, .slice a235 n236 c237, .slice a239 n240 c241], .agg #[.int .i64 x210.Id, .slice a219 n220 c221, .slice a223 n224 c225]]) co19 rfl) ((ok_laws_foDoc F) hS244.enter0 hr234 hs238 hs242 hr218 (SliceAt.mono hS233.le hs222) (SliceAt.mono hS233.le hs226) hx246) ?_
                    rintro e251 w249 ⟨K248, rfl, hS250⟩
                    refine ⟨_, rfl, ?_⟩
                    have hS252 : SH _ _ _ _ _ [] := SH.call0 hS244 hS250
                    refine wl_nil (qe_held (listed' := #[true, true, true, true, true, true, true, true, true, true, true, true, true, true, true, true, true, true, true, true, true, true, false, false]) rfl ⟨(hS252.hasK (hS233.le.trans hS250.le)), (fun _ => trivial), by decide⟩ ?_)
                    refine wg_val (i := 22) (listed' := #[true, true, true, true, true, true, true, true, true, true, true, true, true, true, true, true, true, true, true, true, true, true, true, false]) (fun _ => True) rfl (by kernel_rfl) (pk_then (pk_then (pk_block (pk_then (pk_then (pk_block (pk_then (pk_block (pk_then (pk_then (pk_block (pk_then (pk_then pk_body))))))))))))) (by kernel_rfl) rfl (by kernel_rfl) (by kernel_rfl) rfl (.inl fun _ _ => trivial) ⟨(hS252.hasK (hS233.le.trans hS250.le)), (fun _ => trivial), by decide⟩ (wg rfl rfl hb190) rfl (fun _ _ => (rv_not rfl)) ?_
                    refine wg_val (i := 23) (listed' := #[true, true, true, true, true, true, true, true, true, true, true, true, true, true, true, true, true, true, true, true, true, true, true, true]) (fun _ => True) rfl (by kernel_rfl) (pk_then (pk_then (pk_block (pk_then (pk_then (pk_block (pk_then (pk_block (pk_then (pk_then (pk_block (pk_then (pk_then pk_body))))))))))))) (by kernel_rfl) rfl (by kernel_rfl) (by kernel_rfl) rfl (.inl fun _ _ => trivial) ⟨(hS252.hasK (hS233.le.trans hS250.le)), (fun _ => trivial), by decide⟩ wn rfl (fun _ _ => (rv_pick_f rfl hb190 rfl)) ?_
                    refine wg_done (by kernel_rfl) ?_
                    obtain rfl := Option.some.inj h247
                    exact qe_mid' ⟨K248, rfl, hS252, (hS233.le.trans hS250.le)⟩ ⟨rfl, rfl, rfl, rfl, rfl, rfl, rfl, trivial⟩
                · rintro _ w165 ⟨K163, rfl, hS166, hl164⟩
                  refine qe_seq ?_
                  refine wc_cond rfl (fun hb253 => ?_) (fun hb253 => ?_)
                  · have h254 := cond_t hb253 h162
                    refine wc_seq ?_
                    refine wc_region ?_
                    refine wl_val wn rfl (rv_assign (v := .bool false) rfl) ?_
                    refine wl_nil ?_
                    refine qe_seq ?_
                    refine wc_ret ?_
                    refine qe_block_ret ?_
                    refine qe_then_ret ?_
                    refine qe_then_ret ?_
                    obtain rfl := Option.some.inj h254
                    have e255 := hx157 _ rfl
                    subst e255
                    refine qe_block_ret ?_
                    refine qe_then_ret ?_
                    obtain rfl := Option.some.inj h148
                    refine qe_block_ret ?_
                    refine qe_then_ret ?_
                    refine qe_then_ret ?_
                    obtain rfl := Option.some.inj h139
                    have e256 := hx122 _ rfl
                    subst e256
                    refine qe_block_ret ?_
                    refine qe_then_ret ?_
                    obtain rfl := Option.some.inj h113
                    refine qe_then_ret ?_
                    obtain rfl := Option.some.inj h103
                    exact qe_ret (vs := [_]) Try.results4 ⟨rfl, trivial⟩ ⟨K163, rfl, hS166⟩
                  · have h254 := cond_f hb253 h162
                    refine wc_skip ?_
                    refine qe_block ?_
                    refine qe_seq ?_
                    refine wc_region ?_
                    refine wl_val wn rfl (rv_move rfl) ?_
                    refine wl_val wn rfl (rv_add rfl rfl) ?_
                    refine wl_val wn rfl (rv_assign rfl) ?_
                    refine wl_nil ?_
                    obtain rfl := Option.some.inj h254
                    exact qe_mid' ⟨_, rfl, K163, rfl, hS166, (hl150.trans hl164), (w64_rng _)⟩ ⟨rfl, rfl, rfl, rfl, rfl, rfl, trivial⟩
              · have h159 := cond_f hb158 h156
                refine wc_exit ?_
                refine qe_then_exit ?_
                refine qe_then_exit ?_
                obtain rfl := Option.some.inj h159
                have e257 := hx157 _ rfl
                subst e257
                refine qe_block_eq ?_
                obtain rfl := Option.some.inj h148
                exact qe_mid' ⟨_, K149, rfl, rfl, hS152, hl150⟩ ⟨rfl, rfl, rfl, rfl, trivial⟩
            · rintro _ w143 ⟨s140, K141, rfl, rfl, hS144, hl142⟩
              refine qe_block ?_
              refine qe_seq ?_
              refine wc_region ?_
              refine wl_val wn rfl (rv_move rfl) ?_
              refine wl_val wn rfl (rv_add rfl rfl) ?_
              refine wl_val wn rfl (rv_assign rfl) ?_
              refine wl_nil ?_
              obtain rfl := Option.some.inj h139
              exact qe_mid' ⟨_, rfl, K141, rfl, hS144, ((hl115.trans hS130.le).trans hl142), (w64_rng _), (w64_rng _)⟩ ⟨rfl, rfl, rfl, rfl, trivial⟩
          · have h124 := cond_f hb123 h121
            refine wc_exit ?_
            refine qe_then_exit ?_
            refine qe_then_exit ?_
            obtain rfl := Option.some.inj h124
            have e261 := hx122 _ rfl
            subst e261
            refine qe_block_eq ?_
            obtain rfl := Option.some.inj h113
            exact qe_mid' ⟨_, K114, rfl, rfl, hS117, hl115, hr118⟩ ⟨rfl, rfl, trivial⟩
        · rintro _ w107 ⟨s104, K105, rfl, rfl, hS108, hl106, hr109⟩
          refine qe_seq ?_
          refine wc_seq ?_
          refine wc_region ?_
          refine wl_val wn rfl (rv_move rfl) ?_
          refine wl_val wn rfl (rv_move rfl) ?_
          refine wl_val wn rfl (rv_len (t := tGDoc) Try.underlying34 rfl (SliceAt.mono ((hS26.le.trans hl37).trans hl106) hs16)) ?_
          refine wl_val wn rfl (rv_eql rfl rfl) ?_
          refine wl_val wn rfl (rv_assign rfl) ?_
          refine wl_nil ?_
          refine qe_seq ?_
          refine wc_ret ?_
          obtain rfl := Option.some.inj h103
          exact qe_ret (vs := [_]) Try.results4 ⟨rfl, trivial⟩ ⟨K105, rfl, hS108⟩
end Go.Proofs.Ytajfhpaokbgmeaa
