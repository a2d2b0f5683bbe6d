/-
  Walks of the functions. Printed by gen.py.
-/
import Derived.Test.YtajfhpaokbgmeaaWalkA2
set_option linter.unusedVariables false
set_option maxRecDepth 100000
namespace Go.Proofs.Ytajfhpaokbgmeaa
open Go Go.Fk Go.RowKit

theorem ok_laws_foAhead (F : Nat) {w : World} {K : KMap} {p0_a : GHit} {p1_b : GHit} {r : Bool} (hS : SH w K [] w K []) (hr1 : rng64 p0_a.Doc) (hr2 : rng64 p0_a.Points) (hr3 : rng64 p1_b.Doc) (hr4 : rng64 p1_b.Points) (hm : M.laws_foAhead F p0_a p1_b = some r) :
    Calls Try.prog 40 #[.agg #[.int .i64 p0_a.Doc, .int .i64 p0_a.Points], .agg #[.int .i64 p1_b.Doc, .int .i64 p1_b.Points]] w fun e w' => ∃ (K' : KMap), e = .returned (.bool r) ∧ SH w K [] w' K' [] := by
  rw [M.laws_foAhead] at hm
  refine calls_in Try.func40 rfl Try.ntmps40 rfl ?_
  refine wc_seq ?_
  refine wc_region ?_
  refine wl_box wn rfl rfl hS ?_
  intro g5 w6 hS7
  have hS8 : SH _ _ _ _ _ [obj g5 [.int .i64 p0_a.Doc, .int .i64 p0_a.Points] 72] := hS7
  refine wl_box wn rfl rfl hS8 ?_
  intro g9 w10 hS11
  have hS12 : SH _ _ _ _ _ [obj g9 [.int .i64 p1_b.Doc, .int .i64 p1_b.Points] 72, _] := hS11
  refine wl_val wn rfl (rv_assign (v := .bool false) rfl) ?_
  refine wl_nil ?_
  refine qe_seq ?_
  refine wc_seq ?_
  refine wc_region ?_
  refine wl_val wn rfl (rv_fieldAddr ff72_1 rfl) ?_
  refine wl_val wn rfl (rv_loadm1 tf3 rfl (.tail _ (.head _)) hS12 rfl) ?_
  refine wl_val wn rfl (rv_fieldAddr ff72_1 rfl) ?_
  refine wl_val wn rfl (rv_loadm1 tf3 rfl (.head _) hS12 rfl) ?_
  refine wl_val wn rfl (rv_gtr rfl rfl) ?_
  refine wl_val wn rfl (rv_move rfl) ?_
  rcases bool_tf (decide (p1_b.Points < p0_a.Points)) with hb13 | hb13
  · have h14 := cond_t hb13 hm
    refine wl_un (ug rfl rfl hb13) rfl ?_
    refine wl_un (ug rfl rfl hb13) rfl ?_
    refine wl_un (ug rfl rfl hb13) rfl ?_
    refine wl_un (ug rfl rfl hb13) rfl ?_
    refine wl_un (ug rfl rfl hb13) rfl ?_
    refine wl_un (ug rfl rfl hb13) rfl ?_
    refine wl_un (uu rfl rfl) rfl ?_
    refine wl_un (uu rfl rfl) rfl ?_
    refine wl_un (uu rfl rfl) rfl ?_
    refine wl_un (uu rfl rfl) rfl ?_
    refine wl_un (uu rfl rfl) rfl ?_
    refine wl_un (ug rfl rfl hb13) rfl ?_
    refine wl_val wn rfl (rv_pick_t (v := .bool true) rfl hb13 rfl) ?_
    refine wl_val wn rfl (rv_assign rfl) ?_
    refine wl_nil ?_
    refine qe_seq ?_
    refine wc_ret ?_
    obtain rfl := Option.some.inj h14
    have hS15 : SH _ _ _ _ _ [] := SH.sublist hS12 (.cons _ (.cons _ .slnil))
    exact qe_ret (vs := [_]) Try.results40 ⟨rfl, trivial⟩ ⟨K, rfl, hS15⟩
  · have h14 := cond_f hb13 hm
    refine wl_val (wg rfl rfl hb13) rfl (rv_fieldAddr ff72_1 rfl) ?_
    refine wl_val (wg rfl rfl hb13) rfl (rv_loadm1 tf3 rfl (.tail _ (.head _)) hS12 rfl) ?_
    refine wl_val (wg rfl rfl hb13) rfl (rv_fieldAddr ff72_1 rfl) ?_
    refine wl_val (wg rfl rfl hb13) rfl (rv_loadm1 tf3 rfl (.head _) hS12 rfl) ?_
    refine wl_val (wg rfl rfl hb13) rfl (rv_eql rfl rfl) ?_
    refine wl_val (wg rfl rfl hb13) rfl (rv_move rfl) ?_
    rcases bool_tf ((p0_a.Points == p1_b.Points)) with hb16 | hb16
    · have h17 := cond_t hb16 h14
      refine wl_val (wg rfl rfl hb16) rfl (rv_fieldAddr ff72_0 rfl) ?_
      refine wl_val (wg rfl rfl hb16) rfl (rv_loadm1 tf3 rfl (.tail _ (.head _)) hS12 rfl) ?_
      refine wl_val (wg rfl rfl hb16) rfl (rv_fieldAddr ff72_0 rfl) ?_
      refine wl_val (wg rfl rfl hb16) rfl (rv_loadm1 tf3 rfl (.head _) hS12 rfl) ?_
      refine wl_val (wg rfl rfl hb16) rfl (rv_lss rfl rfl) ?_
      refine wl_val (wg rfl rfl hb13) rfl (rv_pick_t rfl hb16 rfl) ?_
      refine wl_val wn rfl (rv_pick_f rfl hb13 rfl) ?_
      refine wl_val wn rfl (rv_assign rfl) ?_
      refine wl_nil ?_
      refine qe_seq ?_
      refine wc_ret ?_
      obtain rfl := Option.some.inj h17
      have hS18 : SH _ _ _ _ _ [] := SH.sublist hS12 (.cons _ (.cons _ .slnil))
      exact qe_ret (vs := [_]) Try.results40 ⟨rfl, trivial⟩ ⟨K, rfl, hS18⟩
    · have h17 := cond_f hb16 h14
      refine wl_un (ug rfl rfl hb16) rfl ?_
      refine wl_un (ug rfl rfl hb16) rfl ?_
      refine wl_un (ug rfl rfl hb16) rfl ?_
      refine wl_un (ug rfl rfl hb16) rfl ?_
      refine wl_un (ug rfl rfl hb16) rfl ?_
      refine wl_val (wg rfl rfl hb13) rfl (rv_pick_f (v := .bool false) rfl hb16 rfl) ?_
      refine wl_val wn rfl (rv_pick_f rfl hb13 rfl) ?_
      refine wl_val wn rfl (rv_assign rfl) ?_
      refine wl_nil ?_
      refine qe_seq ?_
      refine wc_ret ?_
      obtain rfl := Option.some.inj h17
      have hS19 : SH _ _ _ _ _ [] := SH.sublist hS12 (.cons _ (.cons _ .slnil))
      exact qe_ret (vs := [_]) Try.results40 ⟨rfl, trivial⟩ ⟨K, rfl, hS19⟩

set_option maxHeartbeats 2000000 in
theorem ok_laws_FnTopMerge (F : Nat) {w : World} {K : KMap} {a1 : Option Addr} {n2 c3 : Nat} {p0_code : List UInt8} {r : Bool} (hS : SH w K [] w K []) (hs4 : SliceAt tU8 K a1 n2 c3 p0_code) (hm : M.laws_FnTopMerge F p0_code = some r) :
    Calls Try.prog 7 #[.slice a1 n2 c3] w fun e w' => ∃ (K' : KMap), e = .returned (.bool r) ∧ SH w K [] w' K' [] := by
  rw [M.laws_FnTopMerge] at hm
  refine calls_in Try.func7 rfl Try.ntmps7 rfl ?_
  refine wc_seq ?_
  refine wc_region ?_
  refine wl_val wn rfl (rv_assign (v := .bool false) rfl) ?_
  refine wl_nil ?_
  refine qe_seq ?_
  refine wc_seq ?_
  refine wc_seq ?_
  refine wc_region ?_
  refine wl_val wn rfl (rv_move rfl) ?_
  refine wl_val wn rfl (rv_len (t := tU8) Try.underlying33 rfl hs4) ?_
  refine wl_val wn rfl (rv_gtr rfl rfl) ?_
  refine wl_nil ?_
  refine qe_seq ?_
  refine wc_cond rfl (fun hb5 => ?_) (fun hb5 => ?_)
  · have h6 := cond_t hb5 hm
    refine wc_seq ?_
    refine wc_region ?_
    refine wl_val wn rfl (rv_assign (v := .bool true) rfl) ?_
    refine wl_nil ?_
    refine qe_seq ?_
    refine wc_ret ?_
    refine qe_then_ret ?_
    obtain rfl := Option.some.inj h6
    exact qe_ret (vs := [_]) Try.results7 ⟨rfl, trivial⟩ ⟨K, rfl, hS⟩
  · have h6 := cond_f hb5 hm
    refine wc_skip ?_
    refine qe_seq ?_
    refine wc_seq ?_
    refine wc_region ?_
    refine wl_val wn rfl (rv_move rfl) ?_
    obtain ⟨r7, hx8, h9⟩ := Option.bind_eq_some_iff.1 h6
    refine wl_call wn rfl (rt_call (vs := [.slice a1 n2 c3]) co36 rfl) ((ok_spec_DrawTopMerge F) hS.enter0 hs4 hx8) ?_
    rintro e18 w11 ⟨a13, n14, c15, K10, rfl, hS12, hs16, hr17⟩
    refine ⟨_, rfl, ?_⟩
    have hS19 : SH _ _ _ _ _ [_] := SH.call0 hS hS12
    refine wl_val wn rfl (rv_move rfl) ?_
    refine wl_val wn rfl (rv_extract rfl rfl) ?_
    refine wl_val wn rfl (rv_extract rfl rfl) ?_
    refine wl_val wn rfl (rv_assign rfl) ?_
    refine wl_val wn rfl (rv_assign rfl) ?_
    refine wl_nil ?_
    refine qe_seq ?_
    refine wc_seq ?_
    refine wc_region ?_
    refine wl_val wn rfl (rv_move rfl) ?_
    refine wl_val wn rfl (rv_move rfl) ?_
    obtain ⟨r20, hx21, h22⟩ := Option.bind_eq_some_iff.1 h9
    refine wl_call wn rfl (rt_call (vs := [.slice a13 n14 c15, .int .i64 r7.2]) co37 rfl) ((ok_impl_TopMerge F) hS19.enter0 hs16 hr17 hx21) ?_
    rintro e30 w24 ⟨a26, n27, c28, K23, rfl, hS25, hs29⟩
    refine ⟨_, rfl, ?_⟩
    have hS31 : SH _ _ _ _ _ [_, _] := SH.call0 hS19 hS25
    refine wl_val wn rfl (rv_assign rfl) ?_
    refine wl_nil ?_
    refine qe_seq ?_
    refine wc_seq ?_
    refine wc_seq ?_
    obtain ⟨o32, h33, h34⟩ := Option.bind_eq_some_iff.1 h22
    refine wc_cutg (fun E' w' => ∃ (K35 : KMap), E' = [(3, .slice a13 n14 c15), (4, .int .i64 r7.2), (5, .slice a26 n27 c28), (33, .bool o32)] ∧ SH w K [] w' K35 [] ∧ KLe K23 K35) ?_ ?_
    · refine wc_region ?_
      refine wl_val wn rfl (rv_move rfl) ?_
      refine wl_val wn rfl (rv_move rfl) ?_
      refine wl_val wn rfl (rv_move rfl) ?_
      obtain ⟨r39, hx40, h41⟩ := Option.bind_eq_some_iff.1 h33
      refine wl_call wn rfl (rt_call (vs := [.slice a13 n14 c15, .int .i64 r7.2]) co39 rfl) ((ok_spec_TopMerge F) hS31.enter0 (SliceAt.mono hS25.le hs16) hr17 hx40) ?_
      rintro e49 w43 ⟨a45, n46, c47, K42, rfl, hS44, hs48⟩
      refine ⟨_, rfl, ?_⟩
      have hS50 : SH _ _ _ _ _ [_, _] := SH.call0 hS31 hS44
      obtain ⟨r51, hx52, h53⟩ := Option.bind_eq_some_iff.1 h41
      refine wl_call wn rfl (rt_call (vs := [.slice a26 n27 c28, .slice a45 n46 c47]) co38 rfl) ((ok_laws_foHits F) hS50.enter0 (SliceAt.mono hS44.le hs29) hs48 hx52) ?_
      rintro e57 w55 ⟨K54, rfl, hS56⟩
      refine ⟨_, rfl, ?_⟩
      have hS58 : SH _ _ _ _ _ [_, _] := SH.call0 hS50 hS56
      refine wl_val wn rfl (rv_not rfl) ?_
      refine wl_val wn rfl (rv_move rfl) ?_
      rcases bool_tf ((!r51)) with hb59 | hb59
      · have h60 := cond_t hb59 h53
        refine wl_un (ug rfl rfl hb59) rfl ?_
        refine wl_un (ug rfl rfl hb59) rfl ?_
        refine wl_un (ug rfl rfl hb59) rfl ?_
        refine wl_val wn rfl (rv_pick_t (v := .bool true) rfl hb59 rfl) ?_
        refine wl_nil ?_
        obtain rfl := Option.some.inj h60
        have hS61 : SH _ _ _ _ _ [] := SH.sublist hS58 (.cons _ (.cons _ .slnil))
        exact qe_mid' ⟨K54, rfl, hS61, (hS44.le.trans hS56.le)⟩ ⟨rfl, rfl, rfl, rfl, trivial⟩
      · have h60 := cond_f hb59 h53
        refine wl_val (wg rfl rfl hb59) rfl (rv_move rfl) ?_
        refine wl_val (wg rfl rfl hb59) rfl (rv_len (t := tGHit) Try.underlying68 rfl (SliceAt.mono (hS44.le.trans hS56.le) hs29)) ?_
        refine wl_val (wg rfl rfl hb59) rfl (rv_eql rfl rfl) ?_
        refine wl_val wn rfl (rv_pick_f rfl hb59 rfl) ?_
        refine wl_nil ?_
        obtain rfl := Option.some.inj h60
        have hS62 : SH _ _ _ _ _ [] := SH.sublist hS58 (.cons _ (.cons _ .slnil))
        exact qe_mid' ⟨K54, rfl, hS62, (hS44.le.trans hS56.le)⟩ ⟨rfl, rfl, rfl, rfl, trivial⟩
    · rintro _ w37 ⟨K35, rfl, hS38, hl36⟩
      refine qe_seq ?_
      refine wc_cond rfl (fun hb63 => ?_) (fun hb63 => ?_)
      · have h64 := cond_t hb63 h34
        refine wc_seq ?_
        refine wc_region ?_
        refine wl_val wn rfl (rv_move rfl) ?_
        refine wl_val wn rfl (rv_move rfl) ?_
        refine wl_val wn rfl (rv_move rfl) ?_
        obtain ⟨r65, hx66, h67⟩ := Option.bind_eq_some_iff.1 h64
        refine wl_call wn rfl (rt_call (vs := [.slice a13 n14 c15, .int .i64 r7.2]) co39 rfl) ((ok_spec_TopMerge F) hS38.enter0 (SliceAt.mono (hS25.le.trans hl36) hs16) hr17 hx66) ?_
        rintro e75 w69 ⟨a71, n72, c73, K68, rfl, hS70, hs74⟩
        refine ⟨_, rfl, ?_⟩
        have hS76 : SH _ _ _ _ _ [] := SH.call0 hS38 hS70
        obtain ⟨r77, hx78, h79⟩ := Option.bind_eq_some_iff.1 h67
        refine wl_call wn rfl (rt_call (vs := [.slice a26 n27 c28, .slice a71 n72 c73]) co38 rfl) ((ok_laws_foHits F) hS76.enter0 (SliceAt.mono (hl36.trans hS70.le) hs29) hs74 hx78) ?_
        rintro e83 w81 ⟨K80, rfl, hS82⟩
        refine ⟨_, rfl, ?_⟩
        have hS84 : SH _ _ _ _ _ [] := SH.call0 hS76 hS82
        refine wl_val wn rfl (rv_assign rfl) ?_
        refine wl_nil ?_
        refine qe_seq ?_
        refine wc_ret ?_
        refine qe_then_ret ?_
        obtain rfl := Option.some.inj h79
        exact qe_ret (vs := [_]) Try.results7 ⟨rfl, trivial⟩ ⟨K80, rfl, hS84⟩
      · have h64 := cond_f hb63 h34
        refine wc_skip ?_
        refine qe_seq ?_
        refine wc_seq ?_
        refine wc_region ?_
        refine wl_val wn rfl (rv_assign (v := .int .i64 0) rfl) ?_
        refine wl_nil ?_
        refine qe_seq ?_
        refine wc_seq ?_
        refine wc_seq ?_
        refine wc_region ?_
        refine wl_val wn rfl (rv_assign (v := .int .i64 0) rfl) ?_
        refine wl_nil ?_
        refine qe_seq ?_
        obtain ⟨o85, h86, h87⟩ := Option.bind_eq_some_iff.1 h64
        refine wc_cutg (fun E' w' => ∃ (s88 : Int) (K89 : KMap), o85 = .inl s88 ∧ E' = [(4, .int .i64 r7.2), (5, .slice a26 n27 c28), (6, .int .i64 s88)] ∧ SH w K [] w' K89 [] ∧ KLe K35 K89 ∧ rng64 s88) ?_ ?_
        · refine wc_block ?_
          obtain ⟨r95, h96, h97⟩ := Option.bind_eq_some_iff.1 h86
          refine wc_while' (fun (s94 : Int × Int) E' w' => ∃ (K98 : KMap), E' = [(3, .slice a13 n14 c15), (4, .int .i64 r7.2), (5, .slice a26 n27 c28), (6, .int .i64 s94.1), (7, .int .i64 s94.2)] ∧ SH w K [] w' K98 [] ∧ KLe K35 K98 ∧ rng64 s94.1 ∧ rng64 s94.2) h96 ⟨K35, rfl, hS38, (KLe.refl _), (by decide : rng64 0), (by decide : rng64 0)⟩ ⟨rfl, rfl, rfl, rfl, rfl, trivial⟩ ?_
          rintro s94 _ w100 r104 h105 hx106 ⟨K98, rfl, hS101, hl99, hr102, hr103⟩
          refine wc_seq ?_
          refine wc_seq ?_
          refine wc_region ?_
          refine wl_val wn rfl (rv_move rfl) ?_
          refine wl_val wn rfl (rv_move rfl) ?_
          refine wl_val wn rfl (rv_len (t := (tSlice tGHit)) Try.underlying65 rfl (SliceAt.mono ((hS25.le.trans hl36).trans hl99) hs16)) ?_
          refine wl_val wn rfl (rv_lss rfl rfl) ?_
          refine wl_nil ?_
          refine qe_seq ?_
          refine wc_cond rfl (fun hb107 => ?_) (fun hb107 => ?_)
          · have h108 := cond_t hb107 h105
            refine wc_skip ?_
            refine qe_seq ?_
            refine wc_seq ?_
            refine wc_block ?_
            refine wc_seq ?_
            refine wc_region ?_
            refine wl_val wn rfl (rv_assign (v := .int .i64 0) rfl) ?_
            refine wl_nil ?_
            refine qe_seq ?_
            obtain ⟨o109, h110, h111⟩ := Option.bind_eq_some_iff.1 h108
            refine wc_cutg (fun E' w' => ∃ (s112 : Int) (K113 : KMap), o109 = .inl s112 ∧ E' = [(3, .slice a13 n14 c15), (4, .int .i64 r7.2), (5, .slice a26 n27 c28), (6, .int .i64 s112), (7, .int .i64 s94.2)] ∧ SH w K [] w' K113 [] ∧ KLe K98 K113 ∧ rng64 s112) ?_ ?_
            · refine wc_block ?_
              obtain ⟨r119, h120, h121⟩ := Option.bind_eq_some_iff.1 h110
              refine wc_while' (fun (s118 : Int × Int) E' w' => ∃ (K122 : KMap), E' = [(3, .slice a13 n14 c15), (4, .int .i64 r7.2), (5, .slice a26 n27 c28), (6, .int .i64 s118.1), (7, .int .i64 s94.2), (8, .int .i64 s118.2)] ∧ SH w K [] w' K122 [] ∧ KLe K98 K122 ∧ rng64 s118.1 ∧ rng64 s118.2) h120 ⟨K98, rfl, hS101, (KLe.refl _), hr102, (by decide : rng64 0)⟩ ⟨rfl, rfl, rfl, rfl, rfl, rfl, trivial⟩ ?_
              rintro s118 _ w124 r128 h129 hx130 ⟨K122, rfl, hS125, hl123, hr126, hr127⟩
              refine wc_seq ?_
              refine wc_seq ?_
              refine wc_region ?_
              refine wl_val wn rfl (rv_move rfl) ?_
              refine wl_val wn rfl (rv_move rfl) ?_
              refine wl_val wn rfl (rv_move rfl) ?_
              obtain ⟨x131, hx132, h133⟩ := Option.bind_eq_some_iff.1 h129
              refine wl_indexAddr (t := (tSlice tGHit)) wn rfl Try.underlying65 tf68 rfl rfl (SliceAt.mono (((hS25.le.trans hl36).trans hl99).trans hl123) hs16) hx132 ?_
              intro b134 o135 u136 hu137 ha138
              obtain ⟨a139, n140, c141, rfl, hs142⟩ := hu137
              have ha143 : AtK _ b134 o135 [.slice a139 n140 c141] := ha138
              refine wl_val wn rfl (rv_load1 tf68 rfl hS125 (ha143 0 _ rfl)) ?_
              refine wl_val wn rfl (rv_len (t := tGHit) Try.underlying68 rfl hs142) ?_
              refine wl_val wn rfl (rv_lss rfl rfl) ?_
              refine wl_nil ?_
              refine qe_seq ?_
              refine wc_cond rfl (fun hb144 => ?_) (fun hb144 => ?_)
              · have h145 := cond_t hb144 h133
                refine wc_skip ?_
                refine qe_seq ?_
                refine wc_seq ?_
                refine wc_block ?_
                refine wc_seq ?_
                refine wc_region ?_
                refine wl_val wn rfl (rv_move rfl) ?_
                refine wl_val wn rfl (rv_move rfl) ?_
                obtain ⟨x146, hx147, h148⟩ := Option.bind_eq_some_iff.1 h145
                refine wl_indexAddr (t := (tSlice tGHit)) wn rfl Try.underlying65 tf68 rfl rfl (SliceAt.mono (((hS25.le.trans hl36).trans hl99).trans hl123) hs16) hx147 ?_
                intro b149 o150 u151 hu152 ha153
                obtain ⟨a154, n155, c156, rfl, hs157⟩ := hu152
                have ha158 : AtK _ b149 o150 [.slice a154 n155 c156] := ha153
                refine wl_val wn rfl (rv_load1 tf68 rfl hS125 (ha158 0 _ rfl)) ?_
                refine wl_val wn rfl (rv_move rfl) ?_
                obtain ⟨x159, hx160, h161⟩ := Option.bind_eq_some_iff.1 h148
                refine wl_indexAddr (t := tGHit) wn rfl Try.underlying68 tf72 rfl rfl hs157 hx160 ?_
                intro b162 o163 u164 hu165 ha166
                obtain ⟨rfl, hr167, hr168⟩ := hu165
                have ha169 : AtK _ b162 o163 [.int .i64 x159.Doc, .int .i64 x159.Points] := ha166
                refine wl_val wn rfl (rv_loadS (cs := [.int .i64 x159.Doc, .int .i64 x159.Points]) tf72 rfl hS125 ha169 rfl) ?_
                refine wl_alloc wn rfl tf72 hS125 ?_
                intro g170 w171 hS172
                have hS173 : SH _ _ _ _ _ [obj g170 [.int .i64 0, .int .i64 0] 72] := hS172
                refine wl_store (cs' := [.int .i64 x159.Doc, .int .i64 x159.Points]) (v := .agg #[.int .i64 x159.Doc, .int .i64 x159.Points]) wn tf72 rfl rfl rfl (by simp [Value.cells, Value.oneCell']) hS173 rfl rfl ?_
                intro w174 hS175
                refine wl_nil ?_
                refine qe_seq ?_
                refine wc_seq ?_
                refine wc_region ?_
                refine wl_val wn rfl (rv_assign (v := .bool false) rfl) ?_
                refine wl_nil ?_
                refine qe_seq ?_
                refine wc_seq ?_
                refine wc_seq ?_
                refine wc_region ?_
                refine wl_val wn rfl (rv_assign (v := .int .i64 0) rfl) ?_
                refine wl_nil ?_
                refine qe_seq ?_
                obtain ⟨o176, h177, h178⟩ := Option.bind_eq_some_iff.1 h161
                refine wc_cutg (fun E' w' => ∃ (K179 : KMap), E' = [(3, .slice a13 n14 c15), (4, .int .i64 r7.2), (5, .slice a26 n27 c28), (6, .int .i64 s118.1), (7, .int .i64 s94.2), (8, .int .i64 s118.2), (9, .pointer (some ⟨g170, 0, none⟩)), (10, .bool o176)] ∧ SH w K [] w' K179 [obj g170 [.int .i64 x159.Doc, .int .i64 x159.Points] 72] ∧ KLe K122 K179) ?_ ?_
                · refine wc_block ?_
                  obtain ⟨r184, h185, h186⟩ := Option.bind_eq_some_iff.1 h177
                  refine wc_while' (fun (s183 : Bool × Int) E' w' => ∃ (K187 : KMap), E' = [(3, .slice a13 n14 c15), (4, .int .i64 r7.2), (5, .slice a26 n27 c28), (6, .int .i64 s118.1), (7, .int .i64 s94.2), (8, .int .i64 s118.2), (9, .pointer (some ⟨g170, 0, none⟩)), (10, .bool s183.1), (11, .int .i64 s183.2)] ∧ SH w K [] w' K187 [obj g170 [.int .i64 x159.Doc, .int .i64 x159.Points] 72] ∧ KLe K122 K187 ∧ rng64 s183.2) h185 ⟨K122, rfl, hS175, (KLe.refl _), (by decide : rng64 0)⟩ ⟨rfl, rfl, rfl, rfl, rfl, rfl, rfl, rfl, rfl, trivial⟩ ?_
                  rintro s183 _ w189 r192 h193 hx194 ⟨K187, rfl, hS190, hl188, hr191⟩
                  refine wc_seq ?_
                  refine wc_seq ?_
                  refine wc_region ?_
                  refine wl_val wn rfl (rv_move rfl) ?_
                  refine wl_val wn rfl (rv_move rfl) ?_
                  refine wl_val wn rfl (rv_len (t := tGHit) Try.underlying68 rfl (SliceAt.mono (((hl36.trans hl99).trans hl123).trans hl188) hs29)) ?_
                  refine wl_val wn rfl (rv_lss rfl rfl) ?_
                  refine wl_nil ?_
                  refine qe_seq ?_
                  refine wc_cond rfl (fun hb195 => ?_) (fun hb195 => ?_)
                  · have h196 := cond_t hb195 h193
                    refine wc_skip ?_
                    refine qe_seq ?_
                    refine wc_seq ?_
                    refine wc_block ?_
                    obtain ⟨o197, h198, h199⟩ := Option.bind_eq_some_iff.1 h196
                    refine wc_cutg (fun E' w' => ∃ (K200 : KMap), E' = [(3, .slice a13 n14 c15), (4, .int .i64 r7.2), (5, .slice a26 n27 c28), (6, .int .i64 s118.1), (7, .int .i64 s94.2), (8, .int .i64 s118.2), (9, .pointer (some ⟨g170, 0, none⟩)), (10, .bool o197), (11, .int .i64 s183.2)] ∧ SH w K [] w' K200 [obj g170 [.int .i64 x159.Doc, .int .i64 x159.Points] 72] ∧ KLe K187 K200) ?_ ?_
                    · refine wc_quiet mixed (by kernel_rfl) hS190 ?_
                      refine wq_val wn rfl (fun _ _ => (rv_move rfl)) ?_
                      refine wq_val wn rfl (fun _ _ => (rv_move rfl)) ?_
                      rcases bool_tf (s183.1) with hb204 | hb204
                      · have h205 := cond_t hb204 h198
                        refine wq_un (ug rfl rfl hb204) rfl ?_
                        refine wq_un (ug rfl rfl hb204) rfl ?_
                        refine wq_un (ug rfl rfl hb204) rfl ?_
                        refine wq_un (ug rfl rfl hb204) rfl ?_
                        refine wq_un (ug rfl rfl hb204) rfl ?_
                        refine wq_un (ug rfl rfl hb204) rfl ?_
                        refine wq_val wn rfl (fun _ _ => (rv_pick_t (v := .bool true) rfl hb204 rfl)) ?_
                        refine wq_val wn rfl (fun _ _ => (rv_assign rfl)) ?_
                        refine wq_nil ?_
                        rintro w207 ⟨K206, hS208, hl209⟩
                        obtain rfl := Option.some.inj h205
                        exact qe_mid' ⟨K206, rfl, hS208, hl209⟩ ⟨rfl, rfl, rfl, rfl, rfl, rfl, rfl, rfl, rfl, trivial⟩
                      · have h205 := cond_f hb204 h198
                        refine wq_val (wg rfl rfl hb204) rfl (fun _ _ => (rv_move rfl)) ?_
                        refine wq_val (wg rfl rfl hb204) rfl (fun _ _ => (rv_move rfl)) ?_
                        obtain ⟨x210, hx211, h212⟩ := Option.bind_eq_some_iff.1 h205
                        refine wq_indexAddr (t := tGHit) (wg rfl rfl hb204) rfl Try.underlying68 tf72 rfl rfl (SliceAt.mono (((hl36.trans hl99).trans hl123).trans hl188) hs29) hx211 ?_
                        intro b213 o214 u215 hu216 ha217
                        obtain ⟨rfl, hr218, hr219⟩ := hu216
                        have ha220 : AtK _ b213 o214 [.int .i64 x210.Doc, .int .i64 x210.Points] := ha217
                        refine wq_val (wg rfl rfl hb204) rfl (rq_loadS (cs := [.int .i64 x210.Doc, .int .i64 x210.Points]) tf72 rfl ha220 rfl) ?_
                        refine wq_val (wg rfl rfl hb204) rfl (rq_loadmS (ds := [.int .i64 x159.Doc, .int .i64 x159.Points]) tf72 rfl (.head _) rfl rfl) ?_
                        refine wq_val (wg rfl rfl hb204) rfl (fun _ _ => (rv_eqS eqg72 rfl rfl (eqs72 x210.Doc x210.Points x159.Doc x159.Points))) ?_
                        refine wq_val wn rfl (fun _ _ => (rv_pick_f rfl hb204 rfl)) ?_
                        refine wq_val wn rfl (fun _ _ => (rv_assign rfl)) ?_
                        refine wq_nil ?_
                        rintro w222 ⟨K221, hS223, hl224⟩
                        obtain rfl := Option.some.inj h212
                        exact qe_mid' ⟨K221, rfl, hS223, hl224⟩ ⟨rfl, rfl, rfl, rfl, rfl, rfl, rfl, rfl, rfl, trivial⟩
                    · rintro _ w202 ⟨K200, rfl, hS203, hl201⟩
                      refine qe_block ?_
                      refine qe_seq ?_
                      refine wc_region ?_
                      refine wl_val wn rfl (rv_move rfl) ?_
                      refine wl_val wn rfl (rv_add rfl rfl) ?_
                      refine wl_val wn rfl (rv_assign rfl) ?_
                      refine wl_nil ?_
                      obtain rfl := Option.some.inj h199
                      exact qe_mid' ⟨_, rfl, K200, rfl, hS203, (hl188.trans hl201), (w64_rng _)⟩ ⟨rfl, rfl, rfl, rfl, rfl, rfl, rfl, rfl, rfl, trivial⟩
                  · have h196 := cond_f hb195 h193
                    refine wc_exit ?_
                    refine qe_then_exit ?_
                    refine qe_then_exit ?_
                    obtain rfl := Option.some.inj h196
                    have e225 := hx194 _ rfl
                    subst e225
                    refine qe_block_eq ?_
                    obtain rfl := Option.some.inj h186
                    exact qe_mid' ⟨K187, rfl, hS190, hl188⟩ ⟨rfl, rfl, rfl, rfl, rfl, rfl, rfl, rfl, trivial⟩
                · rintro _ w181 ⟨K179, rfl, hS182, hl180⟩
                  refine qe_seq ?_
                  refine wc_seq ?_
                  refine wc_region ?_
                  refine wl_val wn rfl (rv_move rfl) ?_
                  refine wl_nil ?_
                  refine qe_seq ?_
                  refine wc_cond rfl (fun hb226 => ?_) (fun hb226 => ?_)
                  · have h227 := cond_t hb226 h178
                    refine wc_region ?_
                    refine wl_val wn rfl (rv_move rfl) ?_
                    refine wl_val wn rfl (rv_add rfl rfl) ?_
                    refine wl_val wn rfl (rv_assign rfl) ?_
                    refine wl_nil ?_
                    refine qe_block ?_
                    refine qe_seq ?_
                    refine wc_region ?_
                    refine wl_val wn rfl (rv_move rfl) ?_
                    refine wl_val wn rfl (rv_add rfl rfl) ?_
                    refine wl_val wn rfl (rv_assign rfl) ?_
                    refine wl_nil ?_
                    obtain rfl := Option.some.inj h227
                    have hS228 : SH _ _ _ _ _ [] := SH.sublist hS182 (.cons _ .slnil)
                    exact qe_mid' ⟨_, rfl, K179, rfl, hS228, (hl123.trans hl180), (w64_rng _), (w64_rng _)⟩ ⟨rfl, rfl, rfl, rfl, rfl, rfl, trivial⟩
                  · have h227 := cond_f hb226 h178
                    refine wc_seq ?_
                    obtain ⟨o229, h230, h231⟩ := Option.bind_eq_some_iff.1 h227
                    refine wc_cutg (fun E' w' => ∃ (K232 : KMap), E' = [(3, .slice a13 n14 c15), (4, .int .i64 r7.2), (5, .slice a26 n27 c28), (6, .int .i64 s118.1), (7, .int .i64 s94.2), (8, .int .i64 s118.2), (92, .bool o229)] ∧ SH w K [] w' K232 [] ∧ KLe K179 K232) ?_ ?_
                    · refine wc_quiet mixed (by kernel_rfl) hS182 ?_
                      refine wq_val wn rfl (fun _ _ => (rv_move rfl)) ?_
                      refine wq_val wn rfl (fun _ _ => (rv_len (t := tGHit) Try.underlying68 rfl (SliceAt.mono (((hl36.trans hl99).trans hl123).trans hl180) hs29))) ?_
                      refine wq_val wn rfl (fun _ _ => (rv_move rfl)) ?_
                      refine wq_val wn rfl (fun _ _ => (rv_lss rfl rfl)) ?_
                      refine wq_val wn rfl (fun _ _ => (rv_move rfl)) ?_
                      rcases bool_tf (decide ((r20.length : Int) < r7.2)) with hb236 | hb236
                      · have h237 := cond_t hb236 h230
                        refine wq_un (ug rfl rfl hb236) rfl ?_
                        refine wq_un (ug rfl rfl hb236) rfl ?_
                        refine wq_un (ug rfl rfl hb236) rfl ?_
                        refine wq_un (ug rfl rfl hb236) rfl ?_
                        refine wq_un (ug rfl rfl hb236) rfl ?_
                        refine wq_un (ug rfl rfl hb236) rfl ?_
                        refine wq_un (ug rfl rfl hb236) rfl ?_
                        refine wq_un (ug rfl rfl hb236) rfl ?_
                        refine wq_val wn rfl (fun _ _ => (rv_pick_t (v := .bool true) rfl hb236 rfl)) ?_
                        refine wq_nil ?_
                        rintro w239 ⟨K238, hS240, hl241⟩
                        obtain rfl := Option.some.inj h237
                        have hS242 : SH _ _ _ _ _ [] := SH.sublist hS240 (.cons _ .slnil)
                        exact qe_mid' ⟨K238, rfl, hS242, hl241⟩ ⟨rfl, rfl, rfl, rfl, rfl, rfl, rfl, trivial⟩
                      · have h237 := cond_f hb236 h230
                        refine wq_val (wg rfl rfl hb236) rfl (rq_loadmS (ds := [.int .i64 x159.Doc, .int .i64 x159.Points]) tf72 rfl (.head _) rfl rfl) ?_
                        refine wq_val (wg rfl rfl hb236) rfl (fun _ _ => (rv_move rfl)) ?_
                        refine wq_val (wg rfl rfl hb236) rfl (fun _ _ => (rv_move rfl)) ?_
                        refine wq_val (wg rfl rfl hb236) rfl (fun _ _ => (rv_len (t := tGHit) Try.underlying68 rfl (SliceAt.mono (((hl36.trans hl99).trans hl123).trans hl180) hs29))) ?_
                        refine wq_val (wg rfl rfl hb236) rfl (fun _ _ => (rv_sub rfl rfl)) ?_
                        obtain ⟨x243, hx244, h245⟩ := Option.bind_eq_some_iff.1 h237
                        refine wq_indexAddr (t := tGHit) (wg rfl rfl hb236) rfl Try.underlying68 tf72 rfl rfl (SliceAt.mono (((hl36.trans hl99).trans hl123).trans hl180) hs29) hx244 ?_
                        intro b246 o247 u248 hu249 ha250
                        obtain ⟨rfl, hr251, hr252⟩ := hu249
                        have ha253 : AtK _ b246 o247 [.int .i64 x243.Doc, .int .i64 x243.Points] := ha250
                        refine wq_val (wg rfl rfl hb236) rfl (rq_loadS (cs := [.int .i64 x243.Doc, .int .i64 x243.Points]) tf72 rfl ha253 rfl) ?_
                        obtain ⟨r254, hx255, h256⟩ := Option.bind_eq_some_iff.1 h245
                        refine wq_call (v := .bool r254) (wg rfl rfl hb236) rfl (fun _ => rt_call (vs := [.agg #[.int .i64 x159.Doc, .int .i64 x159.Points], .agg #[.int .i64 x243.Doc, .int .i64 x243.Points]]) co40 rfl) (fun w259 ⟨K257, hS258, hl260⟩ => ((ok_laws_foAhead F) hS258.enter0 hr167 hr168 hr251 hr252 hx255).mono fun e w' ⟨K', he, hS'⟩ => ⟨he, K', hS258.call0 hS', hl260.trans hS'.le⟩) ?_
                        refine wq_val wn rfl (fun _ _ => (rv_pick_f rfl hb236 rfl)) ?_
                        refine wq_nil ?_
                        rintro w262 ⟨K261, hS263, hl264⟩
                        obtain rfl := Option.some.inj h256
                        have hS265 : SH _ _ _ _ _ [] := SH.sublist hS263 (.cons _ .slnil)
                        exact qe_mid' ⟨K261, rfl, hS265, hl264⟩ ⟨rfl, rfl, rfl, rfl, rfl, rfl, rfl, trivial⟩
                    · rintro _ w234 ⟨K232, rfl, hS235, hl233⟩
                      refine qe_seq ?_
                      refine wc_cond rfl (fun hb266 => ?_) (fun hb266 => ?_)
                      · have h267 := cond_t hb266 h231
                        refine wc_seq ?_
                        refine wc_region ?_
                        refine wl_val wn rfl (rv_assign (v := .bool false) rfl) ?_
                        refine wl_nil ?_
                        refine qe_seq ?_
                        refine wc_ret ?_
                        refine qe_block_ret ?_
                        refine qe_then_ret ?_
                        refine qe_then_ret ?_
                        obtain rfl := Option.some.inj h267
                        have e268 := hx130 _ rfl
                        subst e268
                        refine qe_block_ret ?_
                        refine qe_then_ret ?_
                        obtain rfl := Option.some.inj h121
                        refine qe_block_ret ?_
                        refine qe_then_ret ?_
                        refine qe_then_ret ?_
                        obtain rfl := Option.some.inj h111
                        have e269 := hx106 _ rfl
                        subst e269
                        refine qe_block_ret ?_
                        refine qe_then_ret ?_
                        obtain rfl := Option.some.inj h97
                        refine qe_then_ret ?_
                        obtain rfl := Option.some.inj h87
                        exact qe_ret (vs := [_]) Try.results7 ⟨rfl, trivial⟩ ⟨K232, rfl, hS235⟩
                      · have h267 := cond_f hb266 h231
                        refine wc_skip ?_
                        refine qe_block ?_
                        refine qe_seq ?_
                        refine wc_region ?_
                        refine wl_val wn rfl (rv_move rfl) ?_
                        refine wl_val wn rfl (rv_add rfl rfl) ?_
                        refine wl_val wn rfl (rv_assign rfl) ?_
                        refine wl_nil ?_
                        obtain rfl := Option.some.inj h267
                        exact qe_mid' ⟨_, rfl, K232, rfl, hS235, ((hl123.trans hl180).trans hl233), hr126, (w64_rng _)⟩ ⟨rfl, rfl, rfl, rfl, rfl, rfl, trivial⟩
              · have h145 := cond_f hb144 h133
                refine wc_exit ?_
                refine qe_then_exit ?_
                refine qe_then_exit ?_
                obtain rfl := Option.some.inj h145
                have e270 := hx130 _ rfl
                subst e270
                refine qe_block_eq ?_
                obtain rfl := Option.some.inj h121
                exact qe_mid' ⟨_, K122, rfl, rfl, hS125, hl123, hr126⟩ ⟨rfl, rfl, rfl, rfl, rfl, trivial⟩
            · rintro _ w115 ⟨s112, K113, rfl, rfl, hS116, hl114, hr117⟩
              refine qe_block ?_
              refine qe_seq ?_
              refine wc_region ?_
              refine wl_val wn rfl (rv_move rfl) ?_
              refine wl_val wn rfl (rv_add rfl rfl) ?_
              refine wl_val wn rfl (rv_assign rfl) ?_
              refine wl_nil ?_
              obtain rfl := Option.some.inj h111
              exact qe_mid' ⟨_, rfl, K113, rfl, hS116, (hl99.trans hl114), hr117, (w64_rng _)⟩ ⟨rfl, rfl, rfl, rfl, rfl, trivial⟩
          · have h108 := cond_f hb107 h105
            refine wc_exit ?_
            refine qe_then_exit ?_
            refine qe_then_exit ?_
            obtain rfl := Option.some.inj h108
            have e274 := hx106 _ rfl
            subst e274
            refine qe_block_eq ?_
            obtain rfl := Option.some.inj h97
            exact qe_mid' ⟨_, K98, rfl, rfl, hS101, hl99, hr102⟩ ⟨rfl, rfl, rfl, trivial⟩
        · rintro _ w91 ⟨s88, K89, rfl, rfl, hS92, hl90, hr93⟩
          refine qe_seq ?_
          refine wc_seq ?_
          refine wc_region ?_
          refine wl_val wn rfl (rv_move rfl) ?_
          obtain ⟨r277, hx278, h279⟩ := Option.bind_eq_some_iff.1 h87
          refine wl_call wn rfl (rt_call (vs := [.slice a26 n27 c28]) co41 rfl) ((ok_impl_HitsOk F) hS92.enter0 (SliceAt.mono (hl36.trans hl90) hs29) hx278) ?_
          rintro e283 w281 ⟨K280, rfl, hS282⟩
          refine ⟨_, rfl, ?_⟩
          have hS284 : SH _ _ _ _ _ [] := SH.call0 hS92 hS282
          refine wl_val wn rfl (rv_move rfl) ?_
          rcases bool_tf (r277) with hb285 | hb285
          · have h286 := cond_t hb285 h279
            refine wl_val (wg rfl rfl hb285) rfl (rv_move rfl) ?_
            refine wl_val (wg rfl rfl hb285) rfl (rv_move rfl) ?_
            refine wl_val (wg rfl rfl hb285) rfl (rv_len (t := tGHit) Try.underlying68 rfl (SliceAt.mono ((hl36.trans hl90).trans hS282.le) hs29)) ?_
            refine wl_val (wg rfl rfl hb285) rfl (rv_eql rfl rfl) ?_
            refine wl_val wn rfl (rv_pick_t rfl hb285 rfl) ?_
            refine wl_val wn rfl (rv_move rfl) ?_
            rcases bool_tf ((s88 == (r20.length : Int))) with hb287 | hb287
            · have h288 := cond_t hb287 h286
              refine wl_val (wg rfl rfl hb287) rfl (rv_move rfl) ?_
              refine wl_val (wg rfl rfl hb287) rfl (rv_len (t := tGHit) Try.underlying68 rfl (SliceAt.mono ((hl36.trans hl90).trans hS282.le) hs29)) ?_
              refine wl_val (wg rfl rfl hb287) rfl (rv_move rfl) ?_
              refine wl_val (wg rfl rfl hb287) rfl (rv_leq rfl rfl) ?_
              refine wl_val wn rfl (rv_pick_t rfl hb287 rfl) ?_
              refine wl_val wn rfl (rv_assign rfl) ?_
              refine wl_nil ?_
              refine qe_seq ?_
              refine wc_ret ?_
              obtain rfl := Option.some.inj h288
              exact qe_ret (vs := [_]) Try.results7 ⟨rfl, trivial⟩ ⟨K280, rfl, hS284⟩
            · have h288 := cond_f hb287 h286
              refine wl_un (ug rfl rfl hb287) rfl ?_
              refine wl_un (ug rfl rfl hb287) rfl ?_
              refine wl_un (ug rfl rfl hb287) rfl ?_
              refine wl_un (ug rfl rfl hb287) rfl ?_
              refine wl_val wn rfl (rv_pick_f (v := .bool false) rfl hb287 rfl) ?_
              refine wl_val wn rfl (rv_assign rfl) ?_
              refine wl_nil ?_
              refine qe_seq ?_
              refine wc_ret ?_
              obtain rfl := Option.some.inj h288
              exact qe_ret (vs := [_]) Try.results7 ⟨rfl, trivial⟩ ⟨K280, rfl, hS284⟩
          · have h286 := cond_f hb285 h279
            refine wl_un (ug rfl rfl hb285) rfl ?_
            refine wl_un (ug rfl rfl hb285) rfl ?_
            refine wl_un (ug rfl rfl hb285) rfl ?_
            refine wl_un (ug rfl rfl hb285) rfl ?_
            refine wl_val wn rfl (rv_pick_f (v := .bool false) rfl hb285 rfl) ?_
            refine wl_val wn rfl (rv_move rfl) ?_
            refine wl_un (ug rfl rfl rfl) rfl ?_
            refine wl_un (ug rfl rfl rfl) rfl ?_
            refine wl_un (ug rfl rfl rfl) rfl ?_
            refine wl_un (ug rfl rfl rfl) rfl ?_
            refine wl_val wn rfl (rv_pick_f (v := .bool false) rfl rfl rfl) ?_
            refine wl_val wn rfl (rv_assign rfl) ?_
            refine wl_nil ?_
            refine qe_seq ?_
            refine wc_ret ?_
            obtain rfl := Option.some.inj h286
            exact qe_ret (vs := [_]) Try.results7 ⟨rfl, trivial⟩ ⟨K280, rfl, hS284⟩
end Go.Proofs.Ytajfhpaokbgmeaa
