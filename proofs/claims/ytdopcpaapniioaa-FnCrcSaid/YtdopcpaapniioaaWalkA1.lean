/-
  Walks of the functions. Printed by gen.py.
-/
import Derived.Test.YtdopcpaapniioaaWalkA0
set_option linter.unusedVariables false
namespace Go.Proofs.Ytdopcpaapniioaa
open Go Go.Fk Go.RowKit

theorem ok_spec_Crc (F : Nat) {w : World} {K : KMap} {p0_s : Str} {r : Int} (hS : SH w K [] w K []) (hl1 : p0_s.length ≤ maxLen) (hm : M.spec_Crc F p0_s = some r) :
    Calls Try.prog 17 #[sv p0_s] w fun e w' => ∃ (K' : KMap), e = .returned (.int .i64 r) ∧ SH w K [] w' K' [] ∧ rng64 r := by
  rw [M.spec_Crc] at hm
  refine calls_in Try.func17 rfl Try.ntmps17 rfl ?_
  refine wc_seq ?_
  refine wc_region ?_
  refine wl_val wn rfl (rv_assign (v := .int .i64 0) rfl) ?_
  refine wl_nil ?_
  refine qe_seq ?_
  refine wc_seq ?_
  refine wc_region ?_
  refine wl_val wn rfl (rv_move rfl) ?_
  obtain ⟨r2, hx3, h4⟩ := Option.bind_eq_some_iff.1 hm
  refine wl_call wn rfl (rt_call (vs := [sv p0_s]) co51 rfl) ((ok_spec_l19Crc F) hS.enter0 hl1 hx3) ?_
  rintro e9 w6 ⟨K5, rfl, hS7, hr8⟩
  refine ⟨_, rfl, ?_⟩
  have hS10 : SH _ _ _ _ _ [] := SH.call0 hS hS7
  refine wl_val wn rfl (rv_assign rfl) ?_
  refine wl_nil ?_
  refine qe_seq ?_
  refine wc_ret ?_
  obtain rfl := Option.some.inj h4
  exact qe_ret (vs := [_]) Try.results17 ⟨rfl, trivial⟩ ⟨K5, rfl, hS10, hr8⟩

theorem ok_laws_FnCrc (F : Nat) {w : World} {K : KMap} {a1 : Option Addr} {n2 c3 : Nat} {a5 : Option Addr} {n6 c7 : Nat} {p0_code : List UInt8} {p1_more : List UInt8} {r : Bool} (hS : SH w K [] w K []) (hs4 : SliceAt tU8 K a1 n2 c3 p0_code) (hs8 : SliceAt tU8 K a5 n6 c7 p1_more) (hm : M.laws_FnCrc F p0_code p1_more = some r) :
    Calls Try.prog 3 #[.slice a1 n2 c3, .slice a5 n6 c7] w fun e w' => ∃ (K' : KMap), e = .returned (.bool r) ∧ SH w K [] w' K' [] := by
  rw [M.laws_FnCrc] at hm
  refine calls_in Try.func3 rfl Try.ntmps3 rfl ?_
  refine wc_seq ?_
  refine wc_region ?_
  refine wl_val wn rfl (rv_assign (v := .bool false) rfl) ?_
  refine wl_nil ?_
  refine qe_seq ?_
  refine wc_seq ?_
  refine wc_seq ?_
  obtain ⟨o9, h10, h11⟩ := Option.bind_eq_some_iff.1 hm
  refine wc_cutg (fun E' w' => ∃ (K12 : KMap), E' = [(0, .slice a1 n2 c3), (1, .slice a5 n6 c7), (16, .bool o9)] ∧ SH w K [] w' K12 [] ∧ KLe K K12) ?_ ?_
  · refine wc_region ?_
    refine wl_val wn rfl (rv_move rfl) ?_
    refine wl_val wn rfl (rv_len (t := tU8) Try.underlying22 rfl hs4) ?_
    refine wl_val wn rfl (rv_gtr rfl rfl) ?_
    refine wl_val wn rfl (rv_move rfl) ?_
    rcases bool_tf (decide ((1048576 : Int) < (p0_code.length : Int))) with hb16 | hb16
    · have h17 := cond_t hb16 h10
      refine wl_un (ug rfl rfl hb16) rfl ?_
      refine wl_un (ug rfl rfl hb16) rfl ?_
      refine wl_un (ug rfl rfl hb16) rfl ?_
      refine wl_val wn rfl (rv_pick_t (v := .bool true) rfl hb16 rfl) ?_
      refine wl_nil ?_
      obtain rfl := Option.some.inj h17
      exact qe_mid' ⟨K, rfl, hS, (KLe.refl _)⟩ ⟨rfl, rfl, rfl, trivial⟩
    · have h17 := cond_f hb16 h10
      refine wl_val (wg rfl rfl hb16) rfl (rv_move rfl) ?_
      refine wl_val (wg rfl rfl hb16) rfl (rv_len (t := tU8) Try.underlying22 rfl hs8) ?_
      refine wl_val (wg rfl rfl hb16) rfl (rv_gtr rfl rfl) ?_
      refine wl_val wn rfl (rv_pick_f rfl hb16 rfl) ?_
      refine wl_nil ?_
      obtain rfl := Option.some.inj h17
      exact qe_mid' ⟨K, rfl, hS, (KLe.refl _)⟩ ⟨rfl, rfl, rfl, trivial⟩
  · rintro _ w14 ⟨K12, rfl, hS15, hl13⟩
    refine qe_seq ?_
    refine wc_cond rfl (fun hb18 => ?_) (fun hb18 => ?_)
    · have h19 := cond_t hb18 h11
      refine wc_seq ?_
      refine wc_region ?_
      refine wl_val wn rfl (rv_assign (v := .bool true) rfl) ?_
      refine wl_nil ?_
      refine qe_seq ?_
      refine wc_ret ?_
      refine qe_then_ret ?_
      obtain rfl := Option.some.inj h19
      exact qe_ret (vs := [_]) Try.results3 ⟨rfl, trivial⟩ ⟨K12, rfl, hS15⟩
    · have h19 := cond_f hb18 h11
      refine wc_skip ?_
      refine qe_seq ?_
      refine wc_seq ?_
      refine wc_region ?_
      refine wl_val wn rfl (rv_move rfl) ?_
      obtain ⟨r20, hx21, h22⟩ := Option.bind_eq_some_iff.1 h19
      refine wl_call wn rfl (rt_call (vs := [.slice a1 n2 c3]) co15 rfl) ((ok_spec_DrawCrc F) hS15.enter0 (SliceAt.mono hl13 hs4) hx21) ?_
      rintro e27 w24 ⟨K23, rfl, hS25, hl26⟩
      refine ⟨_, rfl, ?_⟩
      have hS28 : SH _ _ _ _ _ [] := SH.call0 hS15 hS25
      refine wl_val wn rfl (rv_assign rfl) ?_
      refine wl_nil ?_
      refine qe_seq ?_
      refine wc_seq ?_
      refine wc_region ?_
      refine wl_val wn rfl (rv_move rfl) ?_
      obtain ⟨r29, hx30, h31⟩ := Option.bind_eq_some_iff.1 h22
      refine wl_call wn rfl (rt_call (vs := [sv r20]) co16 rfl) ((ok_impl_Crc F) hS28.enter0 hl26 hx30) ?_
      rintro e36 w33 ⟨K32, rfl, hS34, hr35⟩
      refine ⟨_, rfl, ?_⟩
      have hS37 : SH _ _ _ _ _ [] := SH.call0 hS28 hS34
      refine wl_val wn rfl (rv_assign rfl) ?_
      refine wl_nil ?_
      refine qe_seq ?_
      refine wc_seq ?_
      refine wc_seq ?_
      obtain ⟨o38, h39, h40⟩ := Option.bind_eq_some_iff.1 h31
      refine wc_cutg (fun E' w' => ∃ (K41 : KMap), E' = [(1, .slice a5 n6 c7), (5, sv r20), (6, .int .i64 r29), (33, .bool o38)] ∧ SH w K [] w' K41 [] ∧ KLe K32 K41) ?_ ?_
      · refine wc_region ?_
        refine wl_val wn rfl (rv_move rfl) ?_
        refine wl_val wn rfl (rv_move rfl) ?_
        obtain ⟨r45, hx46, h47⟩ := Option.bind_eq_some_iff.1 h39
        refine wl_call wn rfl (rt_call (vs := [sv r20]) co17 rfl) ((ok_spec_Crc F) hS37.enter0 hl26 hx46) ?_
        rintro e52 w49 ⟨K48, rfl, hS50, hr51⟩
        refine ⟨_, rfl, ?_⟩
        have hS53 : SH _ _ _ _ _ [] := SH.call0 hS37 hS50
        refine wl_val wn rfl (rv_neq rfl rfl) ?_
        refine wl_val wn rfl (rv_move rfl) ?_
        rcases bool_tf ((!(r29 == r45))) with hb54 | hb54
        · have h55 := cond_t hb54 h47
          refine wl_un (ug rfl rfl hb54) rfl ?_
          refine wl_un (ug rfl rfl hb54) rfl ?_
          refine wl_val wn rfl (rv_pick_t (v := .bool true) rfl hb54 rfl) ?_
          refine wl_val wn rfl (rv_move rfl) ?_
          refine wl_un (ug rfl rfl rfl) rfl ?_
          refine wl_un (ug rfl rfl rfl) rfl ?_
          refine wl_un (ug rfl rfl rfl) rfl ?_
          refine wl_val wn rfl (rv_pick_t (v := .bool true) rfl rfl rfl) ?_
          refine wl_nil ?_
          obtain rfl := Option.some.inj h55
          exact qe_mid' ⟨K48, rfl, hS53, hS50.le⟩ ⟨rfl, rfl, rfl, rfl, trivial⟩
        · have h55 := cond_f hb54 h47
          obtain ⟨r56, hx57, h58⟩ := Option.bind_eq_some_iff.1 h55
          refine wl_call (wg rfl rfl hb54) rfl (rt_call (vs := [sv [49, 50, 51, 52, 53, 54, 55, 56, 57]]) co16 rfl) ((ok_impl_Crc F) hS53.enter0 (by decide : ([49, 50, 51, 52, 53, 54, 55, 56, 57] : Str).length ≤ maxLen) hx57) ?_
          rintro e63 w60 ⟨K59, rfl, hS61, hr62⟩
          refine ⟨_, rfl, ?_⟩
          have hS64 : SH _ _ _ _ _ [] := SH.call0 hS53 hS61
          refine wl_val (wg rfl rfl hb54) rfl (rv_neq rfl rfl) ?_
          refine wl_val wn rfl (rv_pick_f rfl hb54 rfl) ?_
          refine wl_val wn rfl (rv_move rfl) ?_
          rcases bool_tf ((!(r56 == (3421780262 : Int)))) with hb65 | hb65
          · have h66 := cond_t hb65 h58
            refine wl_un (ug rfl rfl hb65) rfl ?_
            refine wl_un (ug rfl rfl hb65) rfl ?_
            refine wl_un (ug rfl rfl hb65) rfl ?_
            refine wl_val wn rfl (rv_pick_t (v := .bool true) rfl hb65 rfl) ?_
            refine wl_nil ?_
            obtain rfl := Option.some.inj h66
            exact qe_mid' ⟨K59, rfl, hS64, (hS50.le.trans hS61.le)⟩ ⟨rfl, rfl, rfl, rfl, trivial⟩
          · have h66 := cond_f hb65 h58
            refine wl_val (wg rfl rfl hb65) rfl (rv_move rfl) ?_
            refine wl_val (wg rfl rfl hb65) rfl (rv_slen Try.underlying9 rfl) ?_
            refine wl_val (wg rfl rfl hb65) rfl (rv_eql rfl rfl) ?_
            refine wl_val wn rfl (rv_pick_f rfl hb65 rfl) ?_
            refine wl_nil ?_
            obtain rfl := Option.some.inj h66
            exact qe_mid' ⟨K59, rfl, hS64, (hS50.le.trans hS61.le)⟩ ⟨rfl, rfl, rfl, rfl, trivial⟩
      · rintro _ w43 ⟨K41, rfl, hS44, hl42⟩
        refine qe_seq ?_
        refine wc_cond rfl (fun hb67 => ?_) (fun hb67 => ?_)
        · have h68 := cond_t hb67 h40
          refine wc_seq ?_
          obtain ⟨o69, h70, h71⟩ := Option.bind_eq_some_iff.1 h68
          refine wc_cutg (fun E' w' => ∃ (K72 : KMap), E' = [(4, .bool o69)] ∧ SH w K [] w' K72 [] ∧ KLe K41 K72) ?_ ?_
          · refine wc_region ?_
            refine wl_val wn rfl (rv_move rfl) ?_
            refine wl_val wn rfl (rv_move rfl) ?_
            obtain ⟨r76, hx77, h78⟩ := Option.bind_eq_some_iff.1 h70
            refine wl_call wn rfl (rt_call (vs := [sv r20]) co17 rfl) ((ok_spec_Crc F) hS44.enter0 hl26 hx77) ?_
            rintro e83 w80 ⟨K79, rfl, hS81, hr82⟩
            refine ⟨_, rfl, ?_⟩
            have hS84 : SH _ _ _ _ _ [] := SH.call0 hS44 hS81
            refine wl_val wn rfl (rv_eql rfl rfl) ?_
            refine wl_val wn rfl (rv_move rfl) ?_
            rcases bool_tf ((r29 == r76)) with hb85 | hb85
            · have h86 := cond_t hb85 h78
              obtain ⟨r87, hx88, h89⟩ := Option.bind_eq_some_iff.1 h86
              refine wl_call (wg rfl rfl hb85) rfl (rt_call (vs := [sv [49, 50, 51, 52, 53, 54, 55, 56, 57]]) co16 rfl) ((ok_impl_Crc F) hS84.enter0 (by decide : ([49, 50, 51, 52, 53, 54, 55, 56, 57] : Str).length ≤ maxLen) hx88) ?_
              rintro e94 w91 ⟨K90, rfl, hS92, hr93⟩
              refine ⟨_, rfl, ?_⟩
              have hS95 : SH _ _ _ _ _ [] := SH.call0 hS84 hS92
              refine wl_val (wg rfl rfl hb85) rfl (rv_eql rfl rfl) ?_
              refine wl_val wn rfl (rv_pick_t rfl hb85 rfl) ?_
              refine wl_val wn rfl (rv_move rfl) ?_
              rcases bool_tf ((r87 == (3421780262 : Int))) with hb96 | hb96
              · have h97 := cond_t hb96 h89
                refine wl_val (wg rfl rfl hb96) rfl (rv_move rfl) ?_
                refine wl_val (wg rfl rfl hb96) rfl (rv_eql rfl rfl) ?_
                refine wl_val wn rfl (rv_pick_t rfl hb96 rfl) ?_
                refine wl_val wn rfl (rv_assign rfl) ?_
                refine wl_nil ?_
                obtain rfl := Option.some.inj h97
                exact qe_mid' ⟨K90, rfl, hS95, (hS81.le.trans hS92.le)⟩ ⟨rfl, trivial⟩
              · have h97 := cond_f hb96 h89
                refine wl_un (ug rfl rfl hb96) rfl ?_
                refine wl_un (ug rfl rfl hb96) rfl ?_
                refine wl_val wn rfl (rv_pick_f (v := .bool false) rfl hb96 rfl) ?_
                refine wl_val wn rfl (rv_assign rfl) ?_
                refine wl_nil ?_
                obtain rfl := Option.some.inj h97
                exact qe_mid' ⟨K90, rfl, hS95, (hS81.le.trans hS92.le)⟩ ⟨rfl, trivial⟩
            · have h86 := cond_f hb85 h78
              refine wl_un (ug rfl rfl hb85) rfl ?_
              refine wl_un (ug rfl rfl hb85) rfl ?_
              refine wl_val wn rfl (rv_pick_f (v := .bool false) rfl hb85 rfl) ?_
              refine wl_val wn rfl (rv_move rfl) ?_
              refine wl_un (ug rfl rfl rfl) rfl ?_
              refine wl_un (ug rfl rfl rfl) rfl ?_
              refine wl_val wn rfl (rv_pick_f (v := .bool false) rfl rfl rfl) ?_
              refine wl_val wn rfl (rv_assign rfl) ?_
              refine wl_nil ?_
              obtain rfl := Option.some.inj h86
              exact qe_mid' ⟨K79, rfl, hS84, hS81.le⟩ ⟨rfl, trivial⟩
          · rintro _ w74 ⟨K72, rfl, hS75, hl73⟩
            refine qe_seq ?_
            refine wc_ret ?_
            refine qe_then_ret ?_
            obtain rfl := Option.some.inj h71
            exact qe_ret (vs := [_]) Try.results3 ⟨rfl, trivial⟩ ⟨K72, rfl, hS75⟩
        · have h68 := cond_f hb67 h40
          refine wc_skip ?_
          refine qe_seq ?_
          refine wc_seq ?_
          refine wc_region ?_
          refine wl_val wn rfl (rv_move rfl) ?_
          refine wl_s2bRow wn rfl Try.underlying9 Try.underlying22 Try.underlying5 rfl hS44 ?_
          intro g98 cs99 c103 fr104 w100 hrow101 hS102
          have hmx105 := hl26
          obtain ⟨m106, hm107⟩ : ∃ m, m = r20.length := ⟨_, rfl⟩
          rw [← hm107] at hmx105
          rw [← hm107]
          refine wl_val wn rfl (rv_assign rfl) ?_
          refine wl_nil ?_
          refine qe_seq ?_
          refine wc_seq ?_
          refine wc_region ?_
          refine wl_val wn rfl (rv_move rfl) ?_
          refine wl_val wn rfl (rv_len (t := tU8) Try.underlying22 rfl (SliceAt.mono (((hl13.trans hS25.le).trans hS34.le).trans hl42) hs8)) ?_
          refine wl_val wn rfl (rv_move rfl) ?_
          refine wl_val wn rfl (rv_lenRow Try.underlying22 rfl hm107) ?_
          obtain ⟨x108, hx109, h110⟩ := Option.bind_eq_some_iff.1 h68
          refine wl_val wn rfl (rv_rem rfl rfl hx109) ?_
          refine wl_val wn rfl (rv_assign rfl) ?_
          refine wl_nil ?_
          refine qe_seq ?_
          refine wc_seq ?_
          refine wc_held (fun w' => Holds K41 w') (fun w' => HasObj g98 cs99 w') 12 [(5, 10), (5, 11), (5, 12), (10, 11), (10, 12), (11, 12)] mixed ?_
          have hS112 := SH.drew hS102
          refine wg_val (i := 0) (listed' := #[true, false, false, false, false, false, false, false, false, false, false, false, false]) (fun _ => True) rfl (by kernel_rfl) (pk_then pk_body) (by kernel_rfl) rfl (by kernel_rfl) (by kernel_rfl) rfl (.inl fun _ _ => trivial) ⟨(hS112.hasK (KLe.refl _)), (fun _ => hS112.hasObj (.head _)), by decide⟩ wn rfl (fun _ _ => (rv_move rfl)) ?_
          refine wg_val (i := 1) (listed' := #[true, true, false, false, false, false, false, false, false, false, false, false, false]) (fun _ => True) rfl (by kernel_rfl) (pk_then pk_body) (by kernel_rfl) rfl (by kernel_rfl) (by kernel_rfl) rfl (.inl fun _ _ => trivial) ⟨(hS112.hasK (KLe.refl _)), (fun _ => hS112.hasObj (.head _)), by decide⟩ wn rfl (fun _ _ => (rv_move rfl)) ?_
          refine wg_val (i := 2) (listed' := #[true, true, true, false, false, false, false, false, false, false, false, false, false]) (fun _ => True) rfl (by kernel_rfl) (pk_then pk_body) (by kernel_rfl) rfl (by kernel_rfl) (by kernel_rfl) rfl (.inl fun _ _ => trivial) ⟨(hS112.hasK (KLe.refl _)), (fun _ => hS112.hasObj (.head _)), by decide⟩ wn rfl (fun _ _ => (rv_move rfl)) ?_
          refine wg_val (i := 3) (listed' := #[true, true, true, true, false, false, false, false, false, false, false, false, false]) (fun _ => True) rfl (by kernel_rfl) (pk_then pk_body) (by kernel_rfl) rfl (by kernel_rfl) (by kernel_rfl) rfl (.inl fun _ _ => trivial) ⟨(hS112.hasK (KLe.refl _)), (fun _ => hS112.hasObj (.head _)), by decide⟩ wn rfl (fun _ _ => (rv_move rfl)) ?_
          obtain ⟨x114, hx115, h116⟩ := Option.bind_eq_some_iff.1 h110
          obtain ⟨u117, hu118, hk119⟩ := RowAt.at hrow101 hx115
          obtain rfl := hu118
          have hk120 : ∀ (j : Nat) (d : Value), [iv8 x114][j]? = some d → cs99[x108.toNat * tU8.size + j]? = some d := hk119
          refine wg_val (i := 4) (listed' := #[true, true, true, true, true, false, false, false, false, false, false, false, false]) (fun _ => True) rfl (by kernel_rfl) (pk_then pk_body) (by kernel_rfl) rfl (by kernel_rfl) (by kernel_rfl) rfl (.inl fun _ _ => trivial) ⟨(hS112.hasK (KLe.refl _)), (fun _ => hS112.hasObj (.head _)), by decide⟩ wn rfl (fun _ _ => (rv_indexRow (t := tU8) Try.underlying22 tf5 rfl rfl hm107 hx115)) ?_
          refine wg_val (i := 5) (listed' := #[true, true, true, true, true, true, false, false, false, false, false, false, false]) (HasObj g98 cs99) rfl (by kernel_rfl) (pk_then pk_body) (by kernel_rfl) rfl (by kernel_rfl) (by kernel_rfl) rfl (.inr ⟨rfl, fun _ _ h => h⟩) ⟨(hS112.hasK (KLe.refl _)), (fun _ => hS112.hasObj (.head _)), by decide⟩ wn rfl (fun _ h => (rh_loadR1 tf5 rfl rfl (hk120 0 _ rfl) h)) ?_
          refine wg_val (i := 6) (listed' := #[true, true, true, true, true, true, true, false, false, false, false, false, false]) (fun _ => True) rfl (by kernel_rfl) (pk_then pk_body) (by kernel_rfl) rfl (by kernel_rfl) (by kernel_rfl) rfl (.inl fun _ _ => trivial) ⟨(hS112.hasK (KLe.refl _)), (fun _ => hS112.hasObj (.head _)), by decide⟩ wn rfl (fun _ _ => (rv_move rfl)) ?_
          refine wg_val (i := 7) (listed' := #[true, true, true, true, true, true, true, true, false, false, false, false, false]) (fun _ => True) rfl (by kernel_rfl) (pk_then pk_body) (by kernel_rfl) rfl (by kernel_rfl) (by kernel_rfl) rfl (.inl fun _ _ => trivial) ⟨(hS112.hasK (KLe.refl _)), (fun _ => hS112.hasObj (.head _)), by decide⟩ wn rfl (fun _ _ => (rv_len (t := tU8) Try.underlying22 rfl (SliceAt.mono (((hl13.trans hS25.le).trans hS34.le).trans hl42) hs8))) ?_
          obtain ⟨x121, hx122, h123⟩ := Option.bind_eq_some_iff.1 h116
          refine wg_val (i := 8) (listed' := #[true, true, true, true, true, true, true, true, true, false, false, false, false]) (fun _ => True) rfl (by kernel_rfl) (pk_then pk_body) (by kernel_rfl) rfl (by kernel_rfl) (by kernel_rfl) rfl (.inl fun _ _ => trivial) ⟨(hS112.hasK (KLe.refl _)), (fun _ => hS112.hasObj (.head _)), by decide⟩ wn rfl (fun _ _ => (rv_rem rfl rfl hx122)) ?_
          obtain ⟨x124, hx125, h126⟩ := Option.bind_eq_some_iff.1 h123
          refine wg_val (i := 9) (listed' := #[true, true, true, true, true, true, true, true, true, true, false, false, false]) (fun _ => True) rfl (by kernel_rfl) (pk_then pk_body) (by kernel_rfl) rfl (by kernel_rfl) (by kernel_rfl) rfl (.inl fun _ _ => trivial) ⟨(hS112.hasK (KLe.refl _)), (fun _ => hS112.hasObj (.head _)), by decide⟩ wn rfl (fun _ _ => (rv_shl8 (a := (1 : UInt8)) rfl rfl hx125)) ?_
          refine wg_val (i := 10) (listed' := #[true, true, true, true, true, true, true, true, true, true, true, false, false]) (fun _ => True) rfl (by kernel_rfl) (pk_then pk_body) (by kernel_rfl) rfl (by kernel_rfl) (by kernel_rfl) rfl (.inl fun _ _ => trivial) ⟨(hS112.hasK (KLe.refl _)), (fun _ => hS112.hasObj (.head _)), by decide⟩ wn rfl (fun _ _ => (rv_xor8 rfl rfl)) ?_
          obtain ⟨x127, hx128, h129⟩ := Option.bind_eq_some_iff.1 h126
          obtain ⟨u130, hu131, hk132⟩ := RowAt.at hrow101 hx128
          obtain rfl := hu131
          have hk133 : ∀ (j : Nat) (d : Value), [iv8 x127][j]? = some d → cs99[x108.toNat * tU8.size + j]? = some d := hk132
          refine wg_val (i := 11) (listed' := #[true, true, true, true, true, true, true, true, true, true, true, true, false]) (fun _ => True) rfl (by kernel_rfl) (pk_then pk_body) (by kernel_rfl) rfl (by kernel_rfl) (by kernel_rfl) rfl (.inl fun _ _ => trivial) ⟨(hS112.hasK (KLe.refl _)), (fun _ => hS112.hasObj (.head _)), by decide⟩ wn rfl (fun _ _ => (rv_indexRow (t := tU8) Try.underlying22 tf5 rfl rfl hm107 hx128)) ?_
          refine wg_one (i := 12) (by kernel_rfl) rfl ?_
          refine wl_storeRow (t := tU8) (v := iv8 (x114 ^^^ x124)) (e := (x114 ^^^ x124)) wn tf5 rfl rfl rfl hS112 hrow101 hx128 ?_
          intro cs134 w135 hrow136 hS137
          have hm138 := hm107.trans (List.length_set (i := x108.toNat) (a := (x114 ^^^ x124))).symm
          refine wl_nil (qe_held (listed' := #[true, true, true, true, true, true, true, true, true, true, true, true, true]) rfl ⟨(hS137.hasK (KLe.refl _)), (fun h => by cases h), by decide⟩ ?_)
          refine wg_done (by kernel_rfl) ?_
          refine qe_seq ?_
          refine wc_seq ?_
          refine wc_region ?_
          refine wl_val wn rfl (rv_move rfl) ?_
          refine wl_val wn rfl (rv_b2sRow Try.underlying22 Try.underlying5 Try.underlying9 rfl hm138 hrow136 (.head _) hS137) ?_
          obtain ⟨r139, hx140, h141⟩ := Option.bind_eq_some_iff.1 h129
          refine wl_call wn rfl (rt_call (vs := [sv (List.set r20 (x108).toNat (x114 ^^^ x124))]) co16 rfl) ((ok_impl_Crc F) hS137.enter0 (row_max hm138 hmx105) hx140) ?_
          rintro e146 w143 ⟨K142, rfl, hS144, hr145⟩
          refine ⟨_, rfl, ?_⟩
          have hS147 : SH _ _ _ _ _ [_] := SH.call0 hS137 hS144
          refine wl_val wn rfl (rv_move rfl) ?_
          refine wl_val wn rfl (rv_neq rfl rfl) ?_
          refine wl_val wn rfl (rv_assign rfl) ?_
          refine wl_nil ?_
          refine qe_seq ?_
          refine wc_ret ?_
          obtain rfl := Option.some.inj h141
          have hS148 : SH _ _ _ _ _ [] := SH.sublist hS147 (.cons _ .slnil)
          exact qe_ret (vs := [_]) Try.results3 ⟨rfl, trivial⟩ ⟨K142, rfl, hS148⟩
end Go.Proofs.Ytdopcpaapniioaa
