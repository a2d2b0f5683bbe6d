/-
  Walks of the functions. Printed by gen.py.
-/
import Derived.Test.YtajfhpaokbgmeaaWalkA1
set_option linter.unusedVariables false
namespace Go.Proofs.Ytajfhpaokbgmeaa
open Go Go.Fk Go.RowKit

theorem ok_laws_eqFileS (F : Nat) {w : World} {K : KMap} {a1 : Option Addr} {n2 c3 : Nat} {a5 : Option Addr} {n6 c7 : Nat} {p0_a : List GFile} {p1_b : List GFile} {r : Bool} (hS : SH w K [] w K []) (hs4 : SliceAt tGFile K a1 n2 c3 p0_a) (hs8 : SliceAt tGFile K a5 n6 c7 p1_b) (hm : M.laws_eqFileS F p0_a p1_b = some r) :
    Calls Try.prog 53 #[.slice a1 n2 c3, .slice a5 n6 c7] w fun e w' => ∃ (K' : KMap), e = .returned (.bool r) ∧ SH w K [] w' K' [] := by
  rw [M.laws_eqFileS] at hm
  refine calls_in Try.func53 rfl Try.ntmps53 rfl ?_
  refine wc_seq ?_
  refine wc_region ?_
  refine wl_val wn rfl (rv_assign (v := .bool false) rfl) ?_
  refine wl_nil ?_
  refine qe_seq ?_
  refine wc_seq ?_
  refine wc_seq ?_
  refine wc_region ?_
  refine wl_val wn rfl (rv_move rfl) ?_
  refine wl_val wn rfl (rv_len (t := tGFile) Try.underlying27 rfl hs4) ?_
  refine wl_val wn rfl (rv_move rfl) ?_
  refine wl_val wn rfl (rv_len (t := tGFile) Try.underlying27 rfl hs8) ?_
  refine wl_val wn rfl (rv_neq rfl rfl) ?_
  refine wl_nil ?_
  refine qe_seq ?_
  refine wc_cond rfl (fun hb9 => ?_) (fun hb9 => ?_)
  · have h10 := cond_t hb9 hm
    refine wc_seq ?_
    refine wc_region ?_
    refine wl_val wn rfl (rv_assign (v := .bool false) rfl) ?_
    refine wl_nil ?_
    refine qe_seq ?_
    refine wc_ret ?_
    refine qe_then_ret ?_
    obtain rfl := Option.some.inj h10
    exact qe_ret (vs := [_]) Try.results53 ⟨rfl, trivial⟩ ⟨K, rfl, hS⟩
  · have h10 := cond_f hb9 hm
    refine wc_skip ?_
    refine qe_seq ?_
    refine wc_seq ?_
    refine wc_seq ?_
    refine wc_region ?_
    refine wl_val wn rfl (rv_assign (v := .int .i64 0) rfl) ?_
    refine wl_nil ?_
    refine qe_seq ?_
    obtain ⟨o11, h12, h13⟩ := Option.bind_eq_some_iff.1 h10
    refine wc_cutg (fun E' w' => ∃ (s14 : Unit) (K15 : KMap), o11 = .inl s14 ∧ E' = [] ∧ SH w K [] w' K15 [] ∧ KLe K K15) ?_ ?_
    · refine wc_block ?_
      obtain ⟨r20, h21, h22⟩ := Option.bind_eq_some_iff.1 h12
      refine wc_while' (fun (s19 : Int) E' w' => ∃ (K23 : KMap), E' = [(0, .slice a1 n2 c3), (1, .slice a5 n6 c7), (5, .int .i64 s19)] ∧ SH w K [] w' K23 [] ∧ KLe K K23 ∧ rng64 s19) h21 ⟨K, rfl, hS, (KLe.refl _), (by decide : rng64 0)⟩ ⟨rfl, rfl, rfl, trivial⟩ ?_
      rintro s19 _ w25 r28 h29 hx30 ⟨K23, rfl, hS26, hl24, hr27⟩
      refine wc_seq ?_
      refine wc_seq ?_
      refine wc_region ?_
      refine wl_val wn rfl (rv_move rfl) ?_
      refine wl_val wn rfl (rv_move rfl) ?_
      refine wl_val wn rfl (rv_len (t := tGFile) Try.underlying27 rfl (SliceAt.mono hl24 hs4)) ?_
      refine wl_val wn rfl (rv_lss rfl rfl) ?_
      refine wl_nil ?_
      refine qe_seq ?_
      refine wc_cond rfl (fun hb31 => ?_) (fun hb31 => ?_)
      · have h32 := cond_t hb31 h29
        refine wc_skip ?_
        refine qe_seq ?_
        refine wc_seq ?_
        refine wc_block ?_
        refine wc_seq ?_
        refine wc_quiet mixed (by kernel_rfl) hS26 ?_
        refine wq_val wn rfl (fun _ _ => (rv_move rfl)) ?_
        refine wq_val wn rfl (fun _ _ => (rv_move rfl)) ?_
        obtain ⟨x33, hx34, h35⟩ := Option.bind_eq_some_iff.1 h32
        refine wq_indexAddr (t := tGFile) wn rfl Try.underlying27 tf85 rfl rfl (SliceAt.mono hl24 hs4) hx34 ?_
        intro b36 o37 u38 hu39 ha40
        obtain ⟨rfl, hl41, hl42⟩ := hu39
        have ha43 : AtK _ b36 o37 [sv x33.Name, sv x33.Text] := ha40
        refine wq_val wn rfl (rq_loadS (cs := [sv x33.Name, sv x33.Text]) tf85 rfl ha43 rfl) ?_
        refine wq_val wn rfl (fun _ _ => (rv_move rfl)) ?_
        refine wq_val wn rfl (fun _ _ => (rv_move rfl)) ?_
        obtain ⟨x44, hx45, h46⟩ := Option.bind_eq_some_iff.1 h35
        refine wq_indexAddr (t := tGFile) wn rfl Try.underlying27 tf85 rfl rfl (SliceAt.mono hl24 hs8) hx45 ?_
        intro b47 o48 u49 hu50 ha51
        obtain ⟨rfl, hl52, hl53⟩ := hu50
        have ha54 : AtK _ b47 o48 [sv x44.Name, sv x44.Text] := ha51
        refine wq_val wn rfl (rq_loadS (cs := [sv x44.Name, sv x44.Text]) tf85 rfl ha54 rfl) ?_
        obtain ⟨r55, hx56, h57⟩ := Option.bind_eq_some_iff.1 h46
        refine wq_call (v := .bool r55) wn rfl (fun _ => rt_call (vs := [.agg #[sv x33.Name, sv x33.Text], .agg #[sv x44.Name, sv x44.Text]]) co99 rfl) (fun w60 ⟨K58, hS59, hl61⟩ => ((ok_laws_eqFile F) hS59.enter0 hl41 hl42 hl52 hl53 hx56).mono fun e w' ⟨K', he, hS'⟩ => ⟨he, K', hS59.call0 hS', hl61.trans hS'.le⟩) ?_
        refine wq_val wn rfl (fun _ _ => (rv_not rfl)) ?_
        refine wq_nil ?_
        rintro w63 ⟨K62, hS64, hl65⟩
        refine qe_seq ?_
        refine wc_cond rfl (fun hb66 => ?_) (fun hb66 => ?_)
        · have h67 := cond_t hb66 h57
          refine wc_seq ?_
          refine wc_region ?_
          refine wl_val wn rfl (rv_assign (v := .bool false) rfl) ?_
          refine wl_nil ?_
          refine qe_seq ?_
          refine wc_ret ?_
          refine qe_block_ret ?_
          refine qe_then_ret ?_
          refine qe_then_ret ?_
          obtain rfl := Option.some.inj h67
          have e68 := hx30 _ rfl
          subst e68
          refine qe_block_ret ?_
          refine qe_then_ret ?_
          obtain rfl := Option.some.inj h22
          refine qe_then_ret ?_
          obtain rfl := Option.some.inj h13
          exact qe_ret (vs := [_]) Try.results53 ⟨rfl, trivial⟩ ⟨K62, rfl, hS64⟩
        · have h67 := cond_f hb66 h57
          refine wc_skip ?_
          refine qe_block ?_
          refine qe_seq ?_
          refine wc_region ?_
          refine wl_val wn rfl (rv_move rfl) ?_
          refine wl_val wn rfl (rv_add rfl rfl) ?_
          refine wl_val wn rfl (rv_assign rfl) ?_
          refine wl_nil ?_
          obtain rfl := Option.some.inj h67
          exact qe_mid' ⟨_, rfl, K62, rfl, hS64, (hl24.trans hl65), (w64_rng _)⟩ ⟨rfl, rfl, rfl, trivial⟩
      · have h32 := cond_f hb31 h29
        refine wc_exit ?_
        refine qe_then_exit ?_
        refine qe_then_exit ?_
        obtain rfl := Option.some.inj h32
        have e69 := hx30 _ rfl
        subst e69
        refine qe_block_eq ?_
        obtain rfl := Option.some.inj h22
        exact qe_mid' ⟨_, K23, rfl, rfl, hS26, hl24⟩ trivial
    · rintro _ w17 ⟨s14, K15, rfl, rfl, hS18, hl16⟩
      refine qe_seq ?_
      refine wc_seq ?_
      refine wc_region ?_
      refine wl_val wn rfl (rv_assign (v := .bool true) rfl) ?_
      refine wl_nil ?_
      refine qe_seq ?_
      refine wc_ret ?_
      obtain rfl := Option.some.inj h13
      exact qe_ret (vs := [_]) Try.results53 ⟨rfl, trivial⟩ ⟨K15, rfl, hS18⟩

theorem ok_laws_eqDisk (F : Nat) {w : World} {K : KMap} {a1 : Option Addr} {n2 c3 : Nat} {a5 : Option Addr} {n6 c7 : Nat} {p0_a : GDisk} {p1_b : GDisk} {r : Bool} (hS : SH w K [] w K []) (hs4 : SliceAt tGFile K a1 n2 c3 p0_a.Files) (hs8 : SliceAt tGFile K a5 n6 c7 p1_b.Files) (hm : M.laws_eqDisk F p0_a p1_b = some r) :
    Calls Try.prog 13 #[.agg #[.slice a1 n2 c3], .agg #[.slice a5 n6 c7]] w fun e w' => ∃ (K' : KMap), e = .returned (.bool r) ∧ SH w K [] w' K' [] := by
  rw [M.laws_eqDisk] at hm
  refine calls_in Try.func13 rfl Try.ntmps13 rfl ?_
  refine wc_seq ?_
  refine wc_region ?_
  refine wl_box wn rfl rfl hS ?_
  intro g9 w10 hS11
  have hS12 : SH _ _ _ _ _ [obj g9 [.slice a1 n2 c3] 29] := hS11
  refine wl_box wn rfl rfl hS12 ?_
  intro g13 w14 hS15
  have hS16 : SH _ _ _ _ _ [obj g13 [.slice a5 n6 c7] 29, _] := hS15
  refine wl_val wn rfl (rv_assign (v := .bool false) rfl) ?_
  refine wl_nil ?_
  refine qe_seq ?_
  refine wc_seq ?_
  refine wc_seq ?_
  refine wc_region ?_
  refine wl_val wn rfl (rv_fieldAddr ff29_0 rfl) ?_
  refine wl_val wn rfl (rv_loadm1 tf27 rfl (.tail _ (.head _)) hS16 rfl) ?_
  refine wl_val wn rfl (rv_fieldAddr ff29_0 rfl) ?_
  refine wl_val wn rfl (rv_loadm1 tf27 rfl (.head _) hS16 rfl) ?_
  obtain ⟨r17, hx18, h19⟩ := Option.bind_eq_some_iff.1 hm
  refine wl_call wn rfl (rt_call (vs := [.slice a1 n2 c3, .slice a5 n6 c7]) co53 rfl) ((ok_laws_eqFileS F) hS16.enter0 hs4 hs8 hx18) ?_
  rintro e23 w21 ⟨K20, rfl, hS22⟩
  refine ⟨_, rfl, ?_⟩
  have hS24 : SH _ _ _ _ _ [_, _] := SH.call0 hS16 hS22
  refine wl_val wn rfl (rv_not rfl) ?_
  refine wl_nil ?_
  refine qe_seq ?_
  refine wc_cond rfl (fun hb25 => ?_) (fun hb25 => ?_)
  · have h26 := cond_t hb25 h19
    refine wc_seq ?_
    refine wc_region ?_
    refine wl_val wn rfl (rv_assign (v := .bool false) rfl) ?_
    refine wl_nil ?_
    refine qe_seq ?_
    refine wc_ret ?_
    refine qe_then_ret ?_
    obtain rfl := Option.some.inj h26
    have hS27 : SH _ _ _ _ _ [] := SH.sublist hS24 (.cons _ (.cons _ .slnil))
    exact qe_ret (vs := [_]) Try.results13 ⟨rfl, trivial⟩ ⟨K20, rfl, hS27⟩
  · have h26 := cond_f hb25 h19
    refine wc_skip ?_
    refine qe_seq ?_
    refine wc_seq ?_
    refine wc_region ?_
    refine wl_val wn rfl (rv_assign (v := .bool true) rfl) ?_
    refine wl_nil ?_
    refine qe_seq ?_
    refine wc_ret ?_
    obtain rfl := Option.some.inj h26
    have hS28 : SH _ _ _ _ _ [] := SH.sublist hS24 (.cons _ (.cons _ .slnil))
    exact qe_ret (vs := [_]) Try.results13 ⟨rfl, trivial⟩ ⟨K20, rfl, hS28⟩

theorem ok_laws_FnExactDiskOk (F : Nat) {w : World} {K : KMap} {a1 : Option Addr} {n2 c3 : Nat} {p0_aD : GDisk} {r : Bool} (hS : SH w K [] w K []) (hs4 : SliceAt tGFile K a1 n2 c3 p0_aD.Files) (hm : M.laws_FnExactDiskOk F p0_aD = some r) :
    Calls Try.prog 3 #[.agg #[.slice a1 n2 c3]] w fun e w' => ∃ (K' : KMap), e = .returned (.bool r) ∧ SH w K [] w' K' [] := by
  rw [M.laws_FnExactDiskOk] at hm
  refine calls_in Try.func3 rfl Try.ntmps3 rfl ?_
  refine wc_seq ?_
  refine wc_region ?_
  refine wl_box wn rfl rfl hS ?_
  intro g5 w6 hS7
  have hS8 : SH _ _ _ _ _ [obj g5 [.slice a1 n2 c3] 24] := hS7
  refine wl_val wn rfl (rv_assign (v := .bool false) rfl) ?_
  refine wl_nil ?_
  refine qe_seq ?_
  refine wc_seq ?_
  refine wc_region ?_
  refine wl_val wn rfl (rv_assign (v := .int .i64 1048576) rfl) ?_
  refine wl_nil ?_
  refine qe_seq ?_
  refine wc_seq ?_
  refine wc_region ?_
  refine wl_val wn rfl (rv_loadmS (ds := [.slice a1 n2 c3]) tf24 rfl (.head _) hS8 rfl rfl) ?_
  refine wl_val wn rfl (rv_move rfl) ?_
  obtain ⟨r9, hx10, h11⟩ := Option.bind_eq_some_iff.1 hm
  refine wl_call wn rfl (rt_call (vs := [.agg #[.slice a1 n2 c3], .int .i64 1048576]) co9 rfl) ((ok_laws_szDisk F) hS8.enter0 hs4 (by decide : rng64 1048576) hx10) ?_
  rintro e16 w13 ⟨K12, rfl, hS14, hr15⟩
  refine ⟨_, rfl, ?_⟩
  have hS17 : SH _ _ _ _ _ [_] := SH.call0 hS8 hS14
  refine wl_val wn rfl (rv_assign rfl) ?_
  refine wl_nil ?_
  refine qe_seq ?_
  refine wc_seq ?_
  refine wc_seq ?_
  refine wc_region ?_
  refine wl_val wn rfl (rv_move rfl) ?_
  refine wl_val wn rfl (rv_lss rfl rfl) ?_
  refine wl_nil ?_
  refine qe_seq ?_
  refine wc_cond rfl (fun hb18 => ?_) (fun hb18 => ?_)
  · have h19 := cond_t hb18 h11
    refine wc_seq ?_
    refine wc_region ?_
    refine wl_val wn rfl (rv_assign (v := .bool true) rfl) ?_
    refine wl_nil ?_
    refine qe_seq ?_
    refine wc_ret ?_
    refine qe_then_ret ?_
    obtain rfl := Option.some.inj h19
    have hS20 : SH _ _ _ _ _ [] := SH.sublist hS17 (.cons _ .slnil)
    exact qe_ret (vs := [_]) Try.results3 ⟨rfl, trivial⟩ ⟨K12, rfl, hS20⟩
  · have h19 := cond_f hb18 h11
    refine wc_skip ?_
    refine qe_seq ?_
    refine wc_seq ?_
    refine wc_region ?_
    refine wl_val wn rfl (rv_loadmS (ds := [.slice a1 n2 c3]) tf24 rfl (.head _) hS17 rfl rfl) ?_
    obtain ⟨r21, hx22, h23⟩ := Option.bind_eq_some_iff.1 h19
    refine wl_call wn rfl (rt_call (vs := [.agg #[.slice a1 n2 c3]]) co11 rfl) ((ok_laws_toDisk F) hS17.enter0 (SliceAt.mono hS14.le hs4) hx22) ?_
    rintro e31 w25 ⟨a27, n28, c29, K24, rfl, hS26, hs30⟩
    refine ⟨_, rfl, ?_⟩
    have hS32 : SH _ _ _ _ _ [_] := SH.call0 hS17 hS26
    obtain ⟨r33, hx34, h35⟩ := Option.bind_eq_some_iff.1 h23
    refine wl_call wn rfl (rt_call (vs := [.agg #[.slice a27 n28 c29]]) co10 rfl) ((ok_spec_DiskOk F) hS32.enter0 hs30 hx34) ?_
    rintro e39 w37 ⟨K36, rfl, hS38⟩
    refine ⟨_, rfl, ?_⟩
    have hS40 : SH _ _ _ _ _ [_] := SH.call0 hS32 hS38
    refine wl_val wn rfl (rv_assign rfl) ?_
    refine wl_nil ?_
    refine qe_seq ?_
    refine wc_seq ?_
    refine wc_region ?_
    refine wl_val wn rfl (rv_loadmS (ds := [.slice a1 n2 c3]) tf24 rfl (.head _) hS40 rfl rfl) ?_
    obtain ⟨r41, hx42, h43⟩ := Option.bind_eq_some_iff.1 h35
    refine wl_call wn rfl (rt_call (vs := [.agg #[.slice a1 n2 c3]]) co11 rfl) ((ok_laws_toDisk F) hS40.enter0 (SliceAt.mono ((hS14.le.trans hS26.le).trans hS38.le) hs4) hx42) ?_
    rintro e51 w45 ⟨a47, n48, c49, K44, rfl, hS46, hs50⟩
    refine ⟨_, rfl, ?_⟩
    have hS52 : SH _ _ _ _ _ [_] := SH.call0 hS40 hS46
    refine wl_alloc wn rfl tf29 hS52 ?_
    intro g53 w54 hS55
    have hS56 : SH _ _ _ _ _ [obj g53 [.slice none 0 0] 29, _] := hS55
    refine wl_store (cs' := [.slice a47 n48 c49]) (v := .agg #[.slice a47 n48 c49]) wn tf29 rfl rfl rfl (by simp [Value.cells, Value.oneCell']) hS56 rfl rfl ?_
    intro w57 hS58
    refine wl_nil ?_
    refine qe_seq ?_
    refine wc_seq ?_
    refine wc_region ?_
    refine wl_val wn rfl (rv_loadmS (ds := [.slice a47 n48 c49]) tf29 rfl (.head _) hS58 rfl rfl) ?_
    obtain ⟨r59, hx60, h61⟩ := Option.bind_eq_some_iff.1 h43
    refine wl_call wn rfl (rt_call (vs := [.agg #[.slice a47 n48 c49]]) co12 rfl) ((ok_impl_DiskOk F) hS58.enter0 hs50 hx60) ?_
    rintro e65 w63 ⟨K62, rfl, hS64⟩
    refine ⟨_, rfl, ?_⟩
    have hS66 : SH _ _ _ _ _ [_, _] := SH.call0 hS58 hS64
    refine wl_val wn rfl (rv_assign rfl) ?_
    refine wl_nil ?_
    refine qe_seq ?_
    refine wc_seq ?_
    refine wc_seq ?_
    refine wc_region ?_
    refine wl_val wn rfl (rv_move rfl) ?_
    refine wl_val wn rfl (rv_move rfl) ?_
    refine wl_val wn rfl (rv_boolne Try.underlying4 rfl rfl) ?_
    refine wl_nil ?_
    refine qe_seq ?_
    refine wc_cond rfl (fun hb67 => ?_) (fun hb67 => ?_)
    · have h68 := cond_t hb67 h61
      refine wc_seq ?_
      refine wc_region ?_
      refine wl_val wn rfl (rv_assign (v := .bool false) rfl) ?_
      refine wl_nil ?_
      refine qe_seq ?_
      refine wc_ret ?_
      refine qe_then_ret ?_
      obtain rfl := Option.some.inj h68
      have hS69 : SH _ _ _ _ _ [] := SH.sublist hS66 (.cons _ (.cons _ .slnil))
      exact qe_ret (vs := [_]) Try.results3 ⟨rfl, trivial⟩ ⟨K62, rfl, hS69⟩
    · have h68 := cond_f hb67 h61
      refine wc_skip ?_
      refine qe_seq ?_
      refine wc_seq ?_
      refine wc_seq ?_
      refine wc_held (fun w' => Holds K62 w' ∧ HasObj g53 [.slice a47 n48 c49] w' ∧ HasObj g5 [.slice a1 n2 c3] w') (fun w' => True) 5 [] mixed ?_
      have hS71 := SH.drew hS66
      refine wg_val (i := 0) (listed' := #[true, false, false, false, false]) (HasObj g53 [.slice a47 n48 c49]) rfl (by kernel_rfl) (pk_then (pk_then pk_body)) (by kernel_rfl) rfl (by kernel_rfl) (by kernel_rfl) rfl (.inl fun _ h => h.2.1) ⟨⟨hS71.hasK (KLe.refl _), hS71.hasObj (.head _), hS71.hasObj (.tail _ (.head _))⟩, (fun _ => trivial), by decide⟩ wn rfl (fun _ h => rh_loadmS (ds := [.slice a47 n48 c49]) tf29 rfl rfl rfl h) ?_
      refine wg_val (i := 1) (listed' := #[true, true, false, false, false]) (HasObj g5 [.slice a1 n2 c3]) rfl (by kernel_rfl) (pk_then (pk_then pk_body)) (by kernel_rfl) rfl (by kernel_rfl) (by kernel_rfl) rfl (.inl fun _ h => h.2.2) ⟨⟨hS71.hasK (KLe.refl _), hS71.hasObj (.head _), hS71.hasObj (.tail _ (.head _))⟩, (fun _ => trivial), by decide⟩ wn rfl (fun _ h => rh_loadmS (ds := [.slice a1 n2 c3]) tf24 rfl rfl rfl h) ?_
      refine wg_one (i := 2) (by kernel_rfl) rfl ?_
      obtain ⟨r73, hx74, h75⟩ := Option.bind_eq_some_iff.1 h68
      refine wl_call wn rfl (rt_call (vs := [.agg #[.slice a1 n2 c3]]) co11 rfl) ((ok_laws_toDisk F) hS71.enter0 (SliceAt.mono ((((hS14.le.trans hS26.le).trans hS38.le).trans hS46.le).trans hS64.le) hs4) hx74) ?_
      rintro e83 w77 ⟨a79, n80, c81, K76, rfl, hS78, hs82⟩
      refine ⟨_, rfl, ?_⟩
      have hS84 : SH _ _ _ _ _ [_, _] := SH.call0 hS71 hS78
      refine wl_nil (qe_held (listed' := #[true, true, true, false, false]) rfl ⟨⟨hS84.hasK hS78.le, hS84.hasObj (.head _), hS84.hasObj (.tail _ (.head _))⟩, (fun _ => trivial), by decide⟩ ?_)
      refine wg_one (i := 3) (by kernel_rfl) rfl ?_
      obtain ⟨r85, hx86, h87⟩ := Option.bind_eq_some_iff.1 h75
      refine wl_call wn rfl (rt_call (vs := [.agg #[.slice a47 n48 c49], .agg #[.slice a79 n80 c81]]) co13 rfl) ((ok_laws_eqDisk F) hS84.enter0 (SliceAt.mono (hS64.le.trans hS78.le) hs50) hs82 hx86) ?_
      rintro e91 w89 ⟨K88, rfl, hS90⟩
      refine ⟨_, rfl, ?_⟩
      have hS92 : SH _ _ _ _ _ [_, _] := SH.call0 hS84 hS90
      refine wl_nil (qe_held (listed' := #[true, true, true, true, false]) rfl ⟨⟨hS92.hasK (hS78.le.trans hS90.le), hS92.hasObj (.head _), hS92.hasObj (.tail _ (.head _))⟩, (fun _ => trivial), by decide⟩ ?_)
      refine wg_val (i := 4) (listed' := #[true, true, true, true, true]) (fun _ => True) rfl (by kernel_rfl) (pk_then (pk_then pk_body)) (by kernel_rfl) rfl (by kernel_rfl) (by kernel_rfl) rfl (.inl fun _ _ => trivial) ⟨⟨hS92.hasK (hS78.le.trans hS90.le), hS92.hasObj (.head _), hS92.hasObj (.tail _ (.head _))⟩, (fun _ => trivial), by decide⟩ wn rfl (fun _ _ => (rv_not rfl)) ?_
      refine wg_done (by kernel_rfl) ?_
      refine qe_seq ?_
      refine wc_cond rfl (fun hb93 => ?_) (fun hb93 => ?_)
      · have h94 := cond_t hb93 h87
        refine wc_seq ?_
        refine wc_region ?_
        refine wl_val wn rfl (rv_assign (v := .bool false) rfl) ?_
        refine wl_nil ?_
        refine qe_seq ?_
        refine wc_ret ?_
        refine qe_then_ret ?_
        obtain rfl := Option.some.inj h94
        have hS95 : SH _ _ _ _ _ [] := SH.sublist hS92 (.cons _ (.cons _ .slnil))
        exact qe_ret (vs := [_]) Try.results3 ⟨rfl, trivial⟩ ⟨K88, rfl, hS95⟩
      · have h94 := cond_f hb93 h87
        refine wc_skip ?_
        refine qe_seq ?_
        refine wc_seq ?_
        refine wc_region ?_
        refine wl_val wn rfl (rv_assign (v := .bool true) rfl) ?_
        refine wl_nil ?_
        refine qe_seq ?_
        refine wc_ret ?_
        obtain rfl := Option.some.inj h94
        have hS96 : SH _ _ _ _ _ [] := SH.sublist hS92 (.cons _ (.cons _ .slnil))
        exact qe_ret (vs := [_]) Try.results3 ⟨rfl, trivial⟩ ⟨K88, rfl, hS96⟩
end Go.Proofs.Ytajfhpaokbgmeaa
