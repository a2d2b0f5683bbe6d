/-
  Walks of the functions. Printed by gen.py.
-/
import Derived.Test.YtajfhpaokbgmeaaWalkA0
set_option linter.unusedVariables false
set_option maxRecDepth 100000
namespace Go.Proofs.Ytajfhpaokbgmeaa
open Go Go.Fk Go.RowKit

theorem ok_spec_l30AnyText (F : Nat) {w : World} {K : KMap} {g1 : Nat} {a2 : Option Addr} {n3 c4 : Nat} {p0_r : GL30Rd} {r : Str × GL30Rd} (hS : SH w K (List.filterMap Item.g [obj g1 [.slice a2 n3 c4, .int .i64 p0_r.p_] 135]) w K [obj g1 [.slice a2 n3 c4, .int .i64 p0_r.p_] 135]) (hs5 : SliceAt tU8 K a2 n3 c4 p0_r.b_) (hr6 : rng64 p0_r.p_) (hm : M.spec_l30AnyText F p0_r = some r) :
    Calls Try.prog 127 #[.pointer (some ⟨g1, 0, none⟩)] w fun e w' => ∃ (a_2 : Option Addr) (n_3 c_4 : Nat) (K' : KMap), e = .returned (sv r.1) ∧ SH w K (List.filterMap Item.g [obj g1 [.slice a2 n3 c4, .int .i64 p0_r.p_] 135]) w' K' [obj g1 [.slice a_2 n_3 c_4, .int .i64 r.2.p_] 135] ∧ r.1.length ≤ maxLen ∧ SliceAt tU8 K' a_2 n_3 c_4 r.2.b_ ∧ rng64 r.2.p_ := by
  rw [M.spec_l30AnyText] at hm
  refine calls_in Try.func127 rfl Try.ntmps127 rfl ?_
  refine wc_seq ?_
  refine wc_region ?_
  refine wl_val wn rfl (rv_assign (v := sv []) rfl) ?_
  refine wl_nil ?_
  refine qe_seq ?_
  refine wc_seq ?_
  refine wc_region ?_
  refine wl_val wn rfl (rv_move rfl) ?_
  obtain ⟨r7, hx8, h9⟩ := Option.bind_eq_some_iff.1 hm
  refine wl_call wn rfl (rt_call (vs := [.pointer (some ⟨g1, 0, none⟩)]) co141 rfl) ((ok_spec_l30Text F) (SH.enter (Lin := [_]) hS) hs5 hr6 hx8) ?_
  rintro e19 w11 ⟨a14, n15, c16, K10, rfl, hS12, hl13, hs17, hr18⟩
  refine ⟨_, rfl, ?_⟩
  have hS20 : SH _ _ _ _ _ [_] := SH.call (Lin := [_]) hS hS12
  refine wl_val wn rfl (rv_assign rfl) ?_
  refine wl_nil ?_
  refine qe_seq ?_
  refine wc_seq ?_
  refine wc_seq ?_
  refine wc_region ?_
  refine wl_val wn rfl (rv_move rfl) ?_
  obtain ⟨r21, hx22, h23⟩ := Option.bind_eq_some_iff.1 h9
  refine wl_call wn rfl (rt_call (vs := [.pointer (some ⟨g1, 0, none⟩), .int .i64 12]) co56 rfl) ((ok_spec_l30Rd_pick F) (SH.enter (Lin := [_]) hS20) hs17 hr18 (by decide : rng64 12) hx22) ?_
  rintro e33 w25 ⟨a28, n29, c30, K24, rfl, hS26, hr27, hs31, hr32⟩
  refine ⟨_, rfl, ?_⟩
  have hS34 : SH _ _ _ _ _ [_] := SH.call (Lin := [_]) hS20 hS26
  refine wl_val wn rfl (rv_eql rfl rfl) ?_
  refine wl_nil ?_
  refine qe_seq ?_
  refine wc_cond rfl (fun hb35 => ?_) (fun hb35 => ?_)
  · have h36 := cond_t hb35 h23
    refine wc_seq ?_
    refine wc_region ?_
    refine wl_val wn rfl (rv_move rfl) ?_
    refine wl_val wn rfl (rv_move rfl) ?_
    refine wl_buildSlice (t := tStr) (n := 3) (pv := [(0, sv [10]), (1, sv [255]), (2, sv [48, 49, 50, 51, 52, 53, 54, 55, 56, 57, 32, 48, 49, 50, 51, 52, 53, 54, 55, 56, 57, 32, 48, 49, 50, 51, 52, 53, 54, 55, 56, 57, 32, 48, 49, 50, 51, 52, 53, 54, 55, 56, 57, 32, 48, 49, 50, 51, 52, 53, 54, 55, 56, 57, 32, 48, 49, 50, 51, 52, 53, 54, 55, 56, 57, 32, 48, 49, 50, 51, 52, 53, 54, 55, 56, 57, 32, 48, 49, 50, 51, 52, 53, 54, 55, 56, 57, 32, 48, 49, 50, 51, 52, 53, 54, 55, 56, 57, 32, 48, 49, 50, 51, 52, 53, 54, 55, 56, 57, 32, 48, 49, 50, 51, 52, 53, 54, 55, 56, 57, 32, 48, 49, 50, 51, 52, 53, 54, 55, 56, 57, 32, 48, 49, 50, 51, 52, 53, 54, 55, 56, 57, 32, 48, 49, 50, 51, 52, 53, 54, 55, 56, 57, 32, 48, 49, 50, 51, 52, 53, 54, 55])]) (cs := [sv [10], sv [255], sv [48, 49, 50, 51, 52, 53, 54, 55, 56, 57, 32, 48, 49, 50, 51, 52, 53, 54, 55, 56, 57, 32, 48, 49, 50, 51, 52, 53, 54, 55, 56, 57, 32, 48, 49, 50, 51, 52, 53, 54, 55, 56, 57, 32, 48, 49, 50, 51, 52, 53, 54, 55, 56, 57, 32, 48, 49, 50, 51, 52, 53, 54, 55, 56, 57, 32, 48, 49, 50, 51, 52, 53, 54, 55, 56, 57, 32, 48, 49, 50, 51, 52, 53, 54, 55, 56, 57, 32, 48, 49, 50, 51, 52, 53, 54, 55, 56, 57, 32, 48, 49, 50, 51, 52, 53, 54, 55, 56, 57, 32, 48, 49, 50, 51, 52, 53, 54, 55, 56, 57, 32, 48, 49, 50, 51, 52, 53, 54, 55, 56, 57, 32, 48, 49, 50, 51, 52, 53, 54, 55, 56, 57, 32, 48, 49, 50, 51, 52, 53, 54, 55, 56, 57, 32, 48, 49, 50, 51, 52, 53, 54, 55]]) (xs := [([10] : Str), ([255] : Str), ([48, 49, 50, 51, 52, 53, 54, 55, 56, 57, 32, 48, 49, 50, 51, 52, 53, 54, 55, 56, 57, 32, 48, 49, 50, 51, 52, 53, 54, 55, 56, 57, 32, 48, 49, 50, 51, 52, 53, 54, 55, 56, 57, 32, 48, 49, 50, 51, 52, 53, 54, 55, 56, 57, 32, 48, 49, 50, 51, 52, 53, 54, 55, 56, 57, 32, 48, 49, 50, 51, 52, 53, 54, 55, 56, 57, 32, 48, 49, 50, 51, 52, 53, 54, 55, 56, 57, 32, 48, 49, 50, 51, 52, 53, 54, 55, 56, 57, 32, 48, 49, 50, 51, 52, 53, 54, 55, 56, 57, 32, 48, 49, 50, 51, 52, 53, 54, 55, 56, 57, 32, 48, 49, 50, 51, 52, 53, 54, 55, 56, 57, 32, 48, 49, 50, 51, 52, 53, 54, 55, 56, 57, 32, 48, 49, 50, 51, 52, 53, 54, 55, 56, 57, 32, 48, 49, 50, 51, 52, 53, 54, 55] : Str)]) wn rfl Try.underlying47 tf9 rfl rfl rfl (by kernel_rfl) rfl rfl (lit_cons (u := sv [10]) (z := ([10] : Str)) ⟨rfl, (by decide : ([10] : Str).length ≤ maxLen)⟩ (lit_cons (u := sv [255]) (z := ([255] : Str)) ⟨rfl, (by decide : ([255] : Str).length ≤ maxLen)⟩ (lit_cons (u := sv [48, 49, 50, 51, 52, 53, 54, 55, 56, 57, 32, 48, 49, 50, 51, 52, 53, 54, 55, 56, 57, 32, 48, 49, 50, 51, 52, 53, 54, 55, 56, 57, 32, 48, 49, 50, 51, 52, 53, 54, 55, 56, 57, 32, 48, 49, 50, 51, 52, 53, 54, 55, 56, 57, 32, 48, 49, 50, 51, 52, 53, 54, 55, 56, 57, 32, 48, 49, 50, 51, 52, 53, 54, 55, 56, 57, 32, 48, 49, 50, 51, 52, 53, 54, 55, 56, 57, 32, 48, 49, 50, 51, 52, 53, 54, 55, 56, 57, 32, 48, 49, 50, 51, 52, 53, 54, 55, 56, 57, 32, 48, 49, 50, 51, 52, 53, 54, 55, 56, 57, 32, 48, 49, 50, 51, 52, 53, 54, 55, 56, 57, 32, 48, 49, 50, 51, 52, 53, 54, 55, 56, 57, 32, 48, 49, 50, 51, 52, 53, 54, 55, 56, 57, 32, 48, 49, 50, 51, 52, 53, 54, 55]) (z := ([48, 49, 50, 51, 52, 53, 54, 55, 56, 57, 32, 48, 49, 50, 51, 52, 53, 54, 55, 56, 57, 32, 48, 49, 50, 51, 52, 53, 54, 55, 56, 57, 32, 48, 49, 50, 51, 52, 53, 54, 55, 56, 57, 32, 48, 49, 50, 51, 52, 53, 54, 55, 56, 57, 32, 48, 49, 50, 51, 52, 53, 54, 55, 56, 57, 32, 48, 49, 50, 51, 52, 53, 54, 55, 56, 57, 32, 48, 49, 50, 51, 52, 53, 54, 55, 56, 57, 32, 48, 49, 50, 51, 52, 53, 54, 55, 56, 57, 32, 48, 49, 50, 51, 52, 53, 54, 55, 56, 57, 32, 48, 49, 50, 51, 52, 53, 54, 55, 56, 57, 32, 48, 49, 50, 51, 52, 53, 54, 55, 56, 57, 32, 48, 49, 50, 51, 52, 53, 54, 55, 56, 57, 32, 48, 49, 50, 51, 52, 53, 54, 55, 56, 57, 32, 48, 49, 50, 51, 52, 53, 54, 55] : Str)) ⟨rfl, (by decide : ([48, 49, 50, 51, 52, 53, 54, 55, 56, 57, 32, 48, 49, 50, 51, 52, 53, 54, 55, 56, 57, 32, 48, 49, 50, 51, 52, 53, 54, 55, 56, 57, 32, 48, 49, 50, 51, 52, 53, 54, 55, 56, 57, 32, 48, 49, 50, 51, 52, 53, 54, 55, 56, 57, 32, 48, 49, 50, 51, 52, 53, 54, 55, 56, 57, 32, 48, 49, 50, 51, 52, 53, 54, 55, 56, 57, 32, 48, 49, 50, 51, 52, 53, 54, 55, 56, 57, 32, 48, 49, 50, 51, 52, 53, 54, 55, 56, 57, 32, 48, 49, 50, 51, 52, 53, 54, 55, 56, 57, 32, 48, 49, 50, 51, 52, 53, 54, 55, 56, 57, 32, 48, 49, 50, 51, 52, 53, 54, 55, 56, 57, 32, 48, 49, 50, 51, 52, 53, 54, 55, 56, 57, 32, 48, 49, 50, 51, 52, 53, 54, 55, 56, 57, 32, 48, 49, 50, 51, 52, 53, 54, 55] : Str).length ≤ maxLen)⟩ lit_nil))) hS34 ?_
    intro a37 w38 K39 hl40 hs41 hS42
    obtain ⟨r43, hx44, h45⟩ := Option.bind_eq_some_iff.1 h36
    have hS46 : SH _ _ _ _ _ [_, _] := SH.front (p := [_]) hS42
    refine wl_call wn rfl (rt_call (vs := [.pointer (some ⟨g1, 0, none⟩), .slice a37 3 3]) co105 rfl) ((ok_spec_l30Rd_of F) (SH.enter (Lin := [_]) hS46) (SliceAt.mono hl40 hs31) hr32 hs41 hx44) ?_
    rintro e56 w48 ⟨a51, n52, c53, K47, rfl, hS49, hl50, hs54, hr55⟩
    refine ⟨_, rfl, ?_⟩
    have hS57 : SH _ _ _ _ _ [_, _] := SH.call (Lin := [_]) hS46 hS49
    obtain ⟨x58, hx59, h60⟩ := Option.bind_eq_some_iff.1 h45
    refine wl_val wn rfl (rv_sadd rfl rfl hx59) ?_
    refine wl_val wn rfl (rv_assign rfl) ?_
    refine wl_nil ?_
    refine qe_seq ?_
    refine wc_ret ?_
    refine qe_then_ret ?_
    obtain rfl := Option.some.inj h60
    have hS61 : SH _ _ _ _ _ [_] := SH.sublist hS57 (.cons_cons _ (.cons _ .slnil))
    exact qe_ret (vs := [_]) Try.results127 ⟨rfl, trivial⟩ ⟨a51, n52, c53, K47, rfl, hS61, (len_cat hx59), hs54, hr55⟩
  · have h36 := cond_f hb35 h23
    refine wc_skip ?_
    refine qe_seq ?_
    refine wc_seq ?_
    refine wc_region ?_
    refine wl_val wn rfl (rv_move rfl) ?_
    refine wl_val wn rfl (rv_assign rfl) ?_
    refine wl_nil ?_
    refine qe_seq ?_
    refine wc_ret ?_
    obtain rfl := Option.some.inj h36
    exact qe_ret (vs := [_]) Try.results127 ⟨rfl, trivial⟩ ⟨a28, n29, c30, K24, rfl, hS34, hl13, hs31, hr32⟩

theorem ok_spec_l30AnyDoc (F : Nat) {w : World} {K : KMap} {g1 : Nat} {a2 : Option Addr} {n3 c4 : Nat} {p0_r : GL30Rd} {r : GDoc × GL30Rd} (hS : SH w K (List.filterMap Item.g [obj g1 [.slice a2 n3 c4, .int .i64 p0_r.p_] 135]) w K [obj g1 [.slice a2 n3 c4, .int .i64 p0_r.p_] 135]) (hs5 : SliceAt tU8 K a2 n3 c4 p0_r.b_) (hr6 : rng64 p0_r.p_) (hm : M.spec_l30AnyDoc F p0_r = some r) :
    Calls Try.prog 101 #[.pointer (some ⟨g1, 0, none⟩)] w fun e w' => ∃ (a_2 : Option Addr) (n_3 c_4 : Nat) (a_6 : Option Addr) (n_7 c_8 : Nat) (a_10 : Option Addr) (n_11 c_12 : Nat) (K' : KMap), e = .returned (.agg #[.int .i64 r.1.Id, .slice a_2 n_3 c_4, .slice a_6 n_7 c_8]) ∧ SH w K (List.filterMap Item.g [obj g1 [.slice a2 n3 c4, .int .i64 p0_r.p_] 135]) w' K' [tail (.slice a_2 n_3 c_4) 96 2, tail (.slice a_6 n_7 c_8) 98 2, obj g1 [.slice a_10 n_11 c_12, .int .i64 r.2.p_] 135] ∧ rng64 r.1.Id ∧ SliceAt tGField K' a_2 n_3 c_4 r.1.Fields ∧ SliceAt tGAttr K' a_6 n_7 c_8 r.1.Nums ∧ SliceAt tU8 K' a_10 n_11 c_12 r.2.b_ ∧ rng64 r.2.p_ := by
  rw [M.spec_l30AnyDoc] at hm
  refine calls_in Try.func101 rfl Try.ntmps101 rfl ?_
  refine wc_seq ?_
  refine wc_region ?_
  refine wl_alloc wn rfl tf43 hS ?_
  intro g7 w8 hS9
  have hS10 : SH _ _ _ _ _ [obj g7 [.int .i64 0, .slice none 0 0, .slice none 0 0] 43, _] := hS9
  refine wl_nil ?_
  refine qe_seq ?_
  refine wc_seq ?_
  refine wc_region ?_
  refine wl_val wn rfl (rv_move rfl) ?_
  refine wl_val wn rfl (rv_move rfl) ?_
  obtain ⟨r11, hx12, h13⟩ := Option.bind_eq_some_iff.1 hm
  have hS14 : SH _ _ _ _ _ [_, _] := SH.front (p := [_]) hS10
  refine wl_call wn rfl (rt_call (vs := [.pointer (some ⟨g1, 0, none⟩), .int .i64 9]) co56 rfl) ((ok_spec_l30Rd_pick F) (SH.enter (Lin := [_]) hS14) hs5 hr6 (by decide : rng64 9) hx12) ?_
  rintro e24 w16 ⟨a19, n20, c21, K15, rfl, hS17, hr18, hs22, hr23⟩
  refine ⟨_, rfl, ?_⟩
  have hS25 : SH _ _ _ _ _ [_, _] := SH.call (Lin := [_]) hS14 hS17
  refine wl_val wn rfl (rv_add rfl rfl) ?_
  obtain ⟨r26, hx27, h28⟩ := Option.bind_eq_some_iff.1 h13
  refine wl_call wn rfl (rt_call (vs := [.pointer (some ⟨g1, 0, none⟩), .int .i64 (w64 ((1 : Int) + r11.1))]) co126 rfl) ((ok_spec_l30Doc F) (SH.enter (Lin := [_]) hS25) hs22 hr23 (w64_rng _) hx27) ?_
  rintro e46 w30 ⟨a33, n34, c35, a37, n38, c39, a41, n42, c43, K29, rfl, hS31, hr32, hs36, hs40, hs44, hr45⟩
  refine ⟨_, rfl, ?_⟩
  have hS47 : SH _ _ _ _ _ [_, _, _, _] := SH.call (Lin := [_]) hS25 hS31
  refine wl_alloc wn rfl tf43 hS47 ?_
  intro g48 w49 hS50
  have hS51 : SH _ _ _ _ _ [obj g48 [.int .i64 0, .slice none 0 0, .slice none 0 0] 43, _, _, _, _] := hS50
  refine wl_store (cs' := [.int .i64 r26.1.Id, .slice a33 n34 c35, .slice a37 n38 c39]) (v := .agg #[.int .i64 r26.1.Id, .slice a33 n34 c35, .slice a37 n38 c39]) wn tf43 rfl rfl rfl (by simp [Value.cells, Value.oneCell']) hS51 rfl rfl ?_
  intro w52 hS53
  refine wl_nil ?_
  refine qe_seq ?_
  refine wc_seq ?_
  refine wc_seq ?_
  refine wc_region ?_
  refine wl_val wn rfl (rv_move rfl) ?_
  obtain ⟨r54, hx55, h56⟩ := Option.bind_eq_some_iff.1 h28
  have hS57 : SH _ _ _ _ _ [_, _, _, _, _] := SH.front (p := [_, _, _]) hS53
  refine wl_call wn rfl (rt_call (vs := [.pointer (some ⟨g1, 0, none⟩), .int .i64 14]) co56 rfl) ((ok_spec_l30Rd_pick F) (SH.enter (Lin := [_]) hS57) hs44 hr45 (by decide : rng64 14) hx55) ?_
  rintro e67 w59 ⟨a62, n63, c64, K58, rfl, hS60, hr61, hs65, hr66⟩
  refine ⟨_, rfl, ?_⟩
  have hS68 : SH _ _ _ _ _ [_, _, _, _, _] := SH.call (Lin := [_]) hS57 hS60
  refine wl_nil ?_
  refine qe_seq ?_
  refine wc_block ?_
  refine wc_seq ?_
  refine wc_region ?_
  refine wl_val wn rfl (rv_eql rfl rfl) ?_
  refine wl_val wn rfl (rv_assign rfl) ?_
  refine wl_nil ?_
  refine qe_seq ?_
  refine wc_cond rfl (fun hb69 => ?_) (fun hb69 => ?_)
  · have h70 := cond_t hb69 h56
    refine wc_region ?_
    refine wl_val wn rfl (rv_move rfl) ?_
    refine wl_buildSlice (t := tInt) (n := 3) (pv := [(0, .int .i64 0), (1, .int .i64 10000), (2, .int .i64 9999)]) (cs := [.int .i64 0, .int .i64 10000, .int .i64 9999]) (xs := [(0 : Int), (10000 : Int), (9999 : Int)]) wn rfl Try.underlying120 tf3 rfl rfl rfl (by kernel_rfl) rfl rfl (lit_cons (u := .int .i64 0) (z := (0 : Int)) ⟨rfl, (by decide : rng64 0)⟩ (lit_cons (u := .int .i64 10000) (z := (10000 : Int)) ⟨rfl, (by decide : rng64 10000)⟩ (lit_cons (u := .int .i64 9999) (z := (9999 : Int)) ⟨rfl, (by decide : rng64 9999)⟩ lit_nil))) hS68 ?_
    intro a71 w72 K73 hl74 hs75 hS76
    obtain ⟨r77, hx78, h79⟩ := Option.bind_eq_some_iff.1 h70
    have hS80 : SH _ _ _ _ _ [_, _, _, _, _, _] := SH.front (p := [_]) hS76
    refine wl_call wn rfl (rt_call (vs := [.pointer (some ⟨g1, 0, none⟩), .slice a71 3 3]) co85 rfl) ((ok_spec_l30Rd_one F) (SH.enter (Lin := [_]) hS80) (SliceAt.mono hl74 hs65) hr66 hs75 hx78) ?_
    rintro e90 w82 ⟨a85, n86, c87, K81, rfl, hS83, hr84, hs88, hr89⟩
    refine ⟨_, rfl, ?_⟩
    have hS91 : SH _ _ _ _ _ [_, _, _, _, _, _] := SH.call (Lin := [_]) hS80 hS83
    refine wl_val wn rfl (rv_fieldAddr ff43_0 rfl) ?_
    have hS92 : SH _ _ _ _ _ [_, _, _, _, _, _] := SH.front (p := [_, _]) hS91
    refine wl_store (cs' := [.int .i64 r77.1, .slice a33 n34 c35, .slice a37 n38 c39]) (v := .int .i64 r77.1) wn tf3 rfl rfl rfl (by simp [Value.cells, Value.oneCell']) hS92 rfl rfl ?_
    intro w93 hS94
    refine wl_nil ?_
    refine qe_block ?_
    refine qe_seq ?_
    refine wc_seq ?_
    refine wc_region ?_
    refine wl_val wn rfl (rv_loadmS (ds := [.int .i64 r77.1, .slice a33 n34 c35, .slice a37 n38 c39]) tf43 rfl (.head _) hS94 rfl rfl) ?_
    have hS95 : SH _ _ _ _ _ [_, _, _, _, _, _] := SH.front (p := [_, _, _, _, _]) hS94
    refine wl_store (cs' := [.int .i64 r77.1, .slice a33 n34 c35, .slice a37 n38 c39]) (v := .agg #[.int .i64 r77.1, .slice a33 n34 c35, .slice a37 n38 c39]) wn tf43 rfl rfl rfl (by simp [Value.cells, Value.oneCell']) hS95 rfl rfl ?_
    intro w96 hS97
    refine wl_nil ?_
    refine qe_seq ?_
    refine wc_ret ?_
    obtain rfl := Option.some.inj h79
    have hS98 : SH _ _ _ _ _ [_, _, _, _, _, _] := SH.front (p := [_, _]) hS97
    have hS99 : SH _ _ _ _ _ [_, _, _, _, _, _] := SH.front (p := [_, _, _, _, _]) hS98
    have hS100 : SH _ _ _ _ _ [_, _, _, _, _, _] := SH.front (p := [_, _, _, _, _]) hS99
    have hS101 : SH _ _ _ _ _ [_, _, _] := SH.sublist hS100 (.cons_cons _ (.cons_cons _ (.cons_cons _ (.cons _ (.cons _ (.cons _ .slnil))))))
    exact qe_ret (vs := [_]) Try.results101 ⟨⟨_, _, rfl, run_loadVar_at tf43 (cs := [.int .i64 r77.1, .slice a33 n34 c35, .slice a37 n38 c39]) (fun j c e => by rw [Nat.zero_add, hS97.mem_obj (.head _)]; exact e) (.inl ⟨rfl, rfl, rfl⟩)⟩, trivial⟩ ⟨a33, n34, c35, a37, n38, c39, a85, n86, c87, K81, rfl, hS101, hr84, (SliceAt.mono ((hS60.le.trans hl74).trans hS83.le) hs36), (SliceAt.mono ((hS60.le.trans hl74).trans hS83.le) hs40), hs88, hr89⟩
  · have h70 := cond_f hb69 h56
    refine wc_seq ?_
    refine wc_region ?_
    refine wl_val wn rfl (rv_eql rfl rfl) ?_
    refine wl_val wn rfl (rv_assign rfl) ?_
    refine wl_nil ?_
    refine qe_seq ?_
    refine wc_cond rfl (fun hb102 => ?_) (fun hb102 => ?_)
    · have h103 := cond_t hb102 h70
      refine wc_region ?_
      refine wl_val wn rfl (rv_fieldAddr ff43_1 rfl) ?_
      refine wl_val wn rfl (rv_loadm1 tf40 rfl (.tail _ (.head _)) hS68 rfl) ?_
      refine wl_val wn rfl (rv_build (cs := #[sv [98, 111, 100, 121], sv [97, 103, 97, 105, 110]]) sp96 tf96 rfl (by kernel_rfl)) ?_
      refine wl_buildSlice (t := tGField) (n := 1) (pv := [(0, .agg #[sv [98, 111, 100, 121], sv [97, 103, 97, 105, 110]])]) (cs := [sv [98, 111, 100, 121], sv [97, 103, 97, 105, 110]]) (xs := [(GField.mk ([98, 111, 100, 121] : Str) ([97, 103, 97, 105, 110] : Str))]) wn rfl Try.underlying40 tf96 rfl rfl rfl (by kernel_rfl) rfl rfl (lit_cons (u := .agg #[sv [98, 111, 100, 121], sv [97, 103, 97, 105, 110]]) (z := (GField.mk ([98, 111, 100, 121] : Str) ([97, 103, 97, 105, 110] : Str))) ⟨rfl, (by decide : ([98, 111, 100, 121] : Str).length ≤ maxLen), (by decide : ([97, 103, 97, 105, 110] : Str).length ≤ maxLen)⟩ lit_nil) hS68 ?_
      intro a104 w105 K106 hl107 hs108 hS109
      have hS110 : SH _ _ _ _ _ [_, _, _, _, _, _] := SH.front (p := [_, _, _]) hS109
      obtain ⟨x111, hx112, h113⟩ := Option.bind_eq_some_iff.1 h103
      refine wl_append (t := tGField) wn rfl Try.underlying40 tf96 rfl rfl rfl rfl rfl (SliceAt.mono (hS60.le.trans hl107) hs36) hs108 hx112 hS110 ?_
      intro a114 n115 c116 w117 K118 hl119 hs120 hS121
      refine wl_val wn rfl (rv_fieldAddr ff43_1 rfl) ?_
      have hS122 : SH _ _ _ _ _ [_, _, _, _, _, _] := SH.front (p := [_, _, _]) hS121
      refine wl_store (cs' := [.int .i64 r26.1.Id, .slice a114 n115 c116, .slice a37 n38 c39]) (v := .slice a114 n115 c116) wn tf40 rfl rfl rfl (by simp [Value.cells, Value.oneCell']) hS122 rfl rfl ?_
      intro w123 hS124
      refine wl_nil ?_
      refine qe_block ?_
      refine qe_seq ?_
      refine wc_seq ?_
      refine wc_region ?_
      refine wl_val wn rfl (rv_loadmS (ds := [.int .i64 r26.1.Id, .slice a114 n115 c116, .slice a37 n38 c39]) tf43 rfl (.head _) hS124 rfl rfl) ?_
      have hS125 : SH _ _ _ _ _ [_, _, _, _, _, _] := SH.front (p := [_, _, _, _, _]) hS124
      refine wl_store (cs' := [.int .i64 r26.1.Id, .slice a114 n115 c116, .slice a37 n38 c39]) (v := .agg #[.int .i64 r26.1.Id, .slice a114 n115 c116, .slice a37 n38 c39]) wn tf43 rfl rfl rfl (by simp [Value.cells, Value.oneCell']) hS125 rfl rfl ?_
      intro w126 hS127
      refine wl_nil ?_
      refine qe_seq ?_
      refine wc_ret ?_
      obtain rfl := Option.some.inj h113
      have hS128 : SH _ _ _ _ _ [_, _, _, _, _, _] := SH.front (p := [_, _, _, _]) hS127
      have hS129 : SH _ _ _ _ _ [_, _, _, _, _, _] := SH.front (p := [_, _, _, _, _]) hS128
      have hS130 : SH _ _ _ _ _ [_, _, _, _, _, _] := SH.front (p := [_, _, _, _]) hS129
      have hS131 : SH _ _ _ _ _ [_, _, _] := SH.sublist hS130 (.cons_cons _ (.cons_cons _ (.cons_cons _ (.cons _ (.cons _ (.cons _ .slnil))))))
      exact qe_ret (vs := [_]) Try.results101 ⟨⟨_, _, rfl, run_loadVar_at tf43 (cs := [.int .i64 r26.1.Id, .slice a114 n115 c116, .slice a37 n38 c39]) (fun j c e => by rw [Nat.zero_add, hS127.mem_obj (.head _)]; exact e) (.inl ⟨rfl, rfl, rfl⟩)⟩, trivial⟩ ⟨a114, n115, c116, a37, n38, c39, a62, n63, c64, K118, rfl, hS131, hr32, hs120, (SliceAt.mono ((hS60.le.trans hl107).trans hl119) hs40), (SliceAt.mono (hl107.trans hl119) hs65), hr66⟩
    · have h103 := cond_f hb102 h70
      refine wc_seq ?_
      refine wc_region ?_
      refine wl_val wn rfl (rv_eql rfl rfl) ?_
      refine wl_val wn rfl (rv_assign rfl) ?_
      refine wl_nil ?_
      refine qe_seq ?_
      refine wc_cond rfl (fun hb132 => ?_) (fun hb132 => ?_)
      · have h133 := cond_t hb132 h103
        refine wc_held (fun w' => Holds K58 w') (fun w' => HasObj g48 [.int .i64 r26.1.Id, .slice a33 n34 c35, .slice a37 n38 c39] w') 9 [(1, 7), (1, 8), (1, 9), (7, 8), (7, 9), (8, 9)] mixed ?_
        have hS135 := SH.drew hS68
        refine wg_val (i := 0) (listed' := #[true, false, false, false, false, false, false, false, false, false]) (fun _ => True) rfl (by kernel_rfl) (pk_block (pk_then pk_body)) (by kernel_rfl) rfl (by kernel_rfl) (by kernel_rfl) rfl (.inl fun _ _ => trivial) ⟨(hS135.hasK (KLe.refl _)), (fun _ => hS135.hasObj (.tail _ (.head _))), by decide⟩ wn rfl (fun _ _ => (rv_fieldAddr ff43_2 rfl)) ?_
        refine wg_val (i := 1) (listed' := #[true, true, false, false, false, false, false, false, false, false]) (HasObj g48 [.int .i64 r26.1.Id, .slice a33 n34 c35, .slice a37 n38 c39]) rfl (by kernel_rfl) (pk_block (pk_then pk_body)) (by kernel_rfl) rfl (by kernel_rfl) (by kernel_rfl) rfl (.inr ⟨rfl, fun _ _ h => h⟩) ⟨(hS135.hasK (KLe.refl _)), (fun _ => hS135.hasObj (.tail _ (.head _))), by decide⟩ wn rfl (fun _ h => rh_loadm1 tf41 rfl rfl h) ?_
        refine wg_val (i := 2) (listed' := #[true, true, true, false, false, false, false, false, false, false]) (fun _ => True) rfl (by kernel_rfl) (pk_block (pk_then pk_body)) (by kernel_rfl) rfl (by kernel_rfl) (by kernel_rfl) rfl (.inl fun _ _ => trivial) ⟨(hS135.hasK (KLe.refl _)), (fun _ => hS135.hasObj (.tail _ (.head _))), by decide⟩ wn rfl (fun _ _ => (rv_move rfl)) ?_
        refine wg_one (i := 3) (by kernel_rfl) rfl ?_
        refine wl_buildSlice (t := tInt) (n := 2) (pv := [(0, .int .i64 (-1)), (1, .int .i64 1000000000)]) (cs := [.int .i64 (-1), .int .i64 1000000000]) (xs := [(-1 : Int), (1000000000 : Int)]) wn rfl Try.underlying120 tf3 rfl rfl rfl (by kernel_rfl) rfl rfl (lit_cons (u := .int .i64 (-1)) (z := (-1 : Int)) ⟨rfl, (by decide : rng64 (-1))⟩ (lit_cons (u := .int .i64 1000000000) (z := (1000000000 : Int)) ⟨rfl, (by decide : rng64 1000000000)⟩ lit_nil)) hS135 ?_
        intro a136 w137 K138 hl139 hs140 hS141
        refine wl_nil (qe_held (listed' := #[true, true, true, true, false, false, false, false, false, false]) rfl ⟨(hS141.hasK hl139), (fun _ => hS141.hasObj (.tail _ (.tail _ (.head _)))), by decide⟩ ?_)
        refine wg_one (i := 4) (by kernel_rfl) rfl ?_
        obtain ⟨r142, hx143, h144⟩ := Option.bind_eq_some_iff.1 h133
        have hS145 : SH _ _ _ _ _ [_, _, _, _, _, _] := SH.front (p := [_]) hS141
        refine wl_call wn rfl (rt_call (vs := [.pointer (some ⟨g1, 0, none⟩), .slice a136 2 2]) co85 rfl) ((ok_spec_l30Rd_one F) (SH.enter (Lin := [_]) hS145) (SliceAt.mono hl139 hs65) hr66 hs140 hx143) ?_
        rintro e155 w147 ⟨a150, n151, c152, K146, rfl, hS148, hr149, hs153, hr154⟩
        refine ⟨_, rfl, ?_⟩
        have hS156 : SH _ _ _ _ _ [_, _, _, _, _, _] := SH.call (Lin := [_]) hS145 hS148
        refine wl_nil (qe_held (listed' := #[true, true, true, true, true, false, false, false, false, false]) rfl ⟨(hS156.hasK (hl139.trans hS148.le)), (fun _ => hS156.hasObj (.tail _ (.tail _ (.head _)))), by decide⟩ ?_)
        refine wg_val (i := 5) (listed' := #[true, true, true, true, true, true, false, false, false, false]) (fun _ => True) rfl (by kernel_rfl) (pk_block (pk_then pk_body)) (by kernel_rfl) rfl (by kernel_rfl) (by kernel_rfl) rfl (.inl fun _ _ => trivial) ⟨(hS156.hasK (hl139.trans hS148.le)), (fun _ => hS156.hasObj (.tail _ (.tail _ (.head _)))), by decide⟩ wn rfl (fun _ _ => (rv_build (cs := #[sv [122, 122], .int .i64 r142.1]) sp98 tf98 rfl (by kernel_rfl))) ?_
        refine wg_one (i := 6) (by kernel_rfl) rfl ?_
        refine wl_buildSlice (t := tGAttr) (n := 1) (pv := [(0, .agg #[sv [122, 122], .int .i64 r142.1])]) (cs := [sv [122, 122], .int .i64 r142.1]) (xs := [(GAttr.mk ([122, 122] : Str) r142.1)]) wn rfl Try.underlying41 tf98 rfl rfl rfl (by kernel_rfl) rfl rfl (lit_cons (u := .agg #[sv [122, 122], .int .i64 r142.1]) (z := (GAttr.mk ([122, 122] : Str) r142.1)) ⟨rfl, (by decide : ([122, 122] : Str).length ≤ maxLen), hr149⟩ lit_nil) hS156 ?_
        intro a157 w158 K159 hl160 hs161 hS162
        refine wl_nil (qe_held (listed' := #[true, true, true, true, true, true, true, false, false, false]) rfl ⟨(hS162.hasK ((hl139.trans hS148.le).trans hl160)), (fun _ => hS162.hasObj (.tail _ (.tail _ (.tail _ (.head _))))), by decide⟩ ?_)
        refine wg_one (i := 7) (by kernel_rfl) rfl ?_
        have hS163 : SH _ _ _ _ _ [_, _, _, _, _, _, _] := SH.front (p := [_, _, _, _, _]) hS162
        obtain ⟨x164, hx165, h166⟩ := Option.bind_eq_some_iff.1 h144
        refine wl_append (t := tGAttr) wn rfl Try.underlying41 tf98 rfl rfl rfl rfl rfl (SliceAt.mono (((hS60.le.trans hl139).trans hS148.le).trans hl160) hs40) hs161 hx165 hS163 ?_
        intro a167 n168 c169 w170 K171 hl172 hs173 hS174
        refine wl_nil (qe_held (listed' := #[true, true, true, true, true, true, true, true, false, false]) rfl ⟨(hS174.hasK (((hl139.trans hS148.le).trans hl160).trans hl172)), (fun _ => hS174.hasObj (.tail _ (.tail _ (.tail _ (.tail _ (.head _)))))), by decide⟩ ?_)
        refine wg_val (i := 8) (listed' := #[true, true, true, true, true, true, true, true, true, false]) (fun _ => True) rfl (by kernel_rfl) (pk_block (pk_then pk_body)) (by kernel_rfl) rfl (by kernel_rfl) (by kernel_rfl) rfl (.inl fun _ _ => trivial) ⟨(hS174.hasK (((hl139.trans hS148.le).trans hl160).trans hl172)), (fun _ => hS174.hasObj (.tail _ (.tail _ (.tail _ (.tail _ (.head _)))))), by decide⟩ wn rfl (fun _ _ => (rv_fieldAddr ff43_2 rfl)) ?_
        refine wg_one (i := 9) (by kernel_rfl) rfl ?_
        have hS175 : SH _ _ _ _ _ [_, _, _, _, _, _, _] := SH.front (p := [_, _, _, _]) hS174
        refine wl_store (cs' := [.int .i64 r26.1.Id, .slice a33 n34 c35, .slice a167 n168 c169]) (v := .slice a167 n168 c169) wn tf41 rfl rfl rfl (by simp [Value.cells, Value.oneCell']) hS175 rfl rfl ?_
        intro w176 hS177
        refine wl_nil (qe_held (listed' := #[true, true, true, true, true, true, true, true, true, true]) rfl ⟨(hS177.hasK (((hl139.trans hS148.le).trans hl160).trans hl172)), (fun h => by cases h), by decide⟩ ?_)
        refine wg_done (by kernel_rfl) ?_
        refine qe_block ?_
        refine qe_seq ?_
        refine wc_seq ?_
        refine wc_region ?_
        refine wl_val wn rfl (rv_loadmS (ds := [.int .i64 r26.1.Id, .slice a33 n34 c35, .slice a167 n168 c169]) tf43 rfl (.head _) hS177 rfl rfl) ?_
        have hS178 : SH _ _ _ _ _ [_, _, _, _, _, _, _] := SH.front (p := [_, _, _, _, _, _]) hS177
        refine wl_store (cs' := [.int .i64 r26.1.Id, .slice a33 n34 c35, .slice a167 n168 c169]) (v := .agg #[.int .i64 r26.1.Id, .slice a33 n34 c35, .slice a167 n168 c169]) wn tf43 rfl rfl rfl (by simp [Value.cells, Value.oneCell']) hS178 rfl rfl ?_
        intro w179 hS180
        refine wl_nil ?_
        refine qe_seq ?_
        refine wc_ret ?_
        obtain rfl := Option.some.inj h166
        have hS181 : SH _ _ _ _ _ [_, _, _, _, _, _, _] := SH.front (p := [_, _, _, _]) hS180
        have hS182 : SH _ _ _ _ _ [_, _, _, _, _, _, _] := SH.front (p := [_, _, _]) hS181
        have hS183 : SH _ _ _ _ _ [_, _, _, _, _, _, _] := SH.front (p := [_, _, _, _, _, _]) hS182
        have hS184 : SH _ _ _ _ _ [_, _, _] := SH.sublist hS183 (.cons_cons _ (.cons_cons _ (.cons_cons _ (.cons _ (.cons _ (.cons _ (.cons _ .slnil)))))))
        exact qe_ret (vs := [_]) Try.results101 ⟨⟨_, _, rfl, run_loadVar_at tf43 (cs := [.int .i64 r26.1.Id, .slice a33 n34 c35, .slice a167 n168 c169]) (fun j c e => by rw [Nat.zero_add, hS180.mem_obj (.head _)]; exact e) (.inl ⟨rfl, rfl, rfl⟩)⟩, trivial⟩ ⟨a33, n34, c35, a167, n168, c169, a150, n151, c152, K171, rfl, hS184, hr32, (SliceAt.mono ((((hS60.le.trans hl139).trans hS148.le).trans hl160).trans hl172) hs36), hs173, (SliceAt.mono (hl160.trans hl172) hs153), hr154⟩
      · have h133 := cond_f hb132 h103
        refine wc_seq ?_
        refine wc_region ?_
        refine wl_val wn rfl (rv_eql rfl rfl) ?_
        refine wl_val wn rfl (rv_assign rfl) ?_
        refine wl_nil ?_
        refine qe_seq ?_
        refine wc_cond rfl (fun hb185 => ?_) (fun hb185 => ?_)
        · have h186 := cond_t hb185 h133
          refine wc_held (fun w' => Holds K58 w') (fun w' => HasObj g48 [.int .i64 r26.1.Id, .slice a33 n34 c35, .slice a37 n38 c39] w') 8 [(1, 6), (1, 7), (1, 8), (6, 7), (6, 8), (7, 8)] mixed ?_
          have hS188 := SH.drew hS68
          refine wg_val (i := 0) (listed' := #[true, false, false, false, false, false, false, false, false]) (fun _ => True) rfl (by kernel_rfl) (pk_block (pk_then pk_body)) (by kernel_rfl) rfl (by kernel_rfl) (by kernel_rfl) rfl (.inl fun _ _ => trivial) ⟨(hS188.hasK (KLe.refl _)), (fun _ => hS188.hasObj (.tail _ (.head _))), by decide⟩ wn rfl (fun _ _ => (rv_fieldAddr ff43_1 rfl)) ?_
          refine wg_val (i := 1) (listed' := #[true, true, false, false, false, false, false, false, false]) (HasObj g48 [.int .i64 r26.1.Id, .slice a33 n34 c35, .slice a37 n38 c39]) rfl (by kernel_rfl) (pk_block (pk_then pk_body)) (by kernel_rfl) rfl (by kernel_rfl) (by kernel_rfl) rfl (.inr ⟨rfl, fun _ _ h => h⟩) ⟨(hS188.hasK (KLe.refl _)), (fun _ => hS188.hasObj (.tail _ (.head _))), by decide⟩ wn rfl (fun _ h => rh_loadm1 tf40 rfl rfl h) ?_
          refine wg_val (i := 2) (listed' := #[true, true, true, false, false, false, false, false, false]) (fun _ => True) rfl (by kernel_rfl) (pk_block (pk_then pk_body)) (by kernel_rfl) rfl (by kernel_rfl) (by kernel_rfl) rfl (.inl fun _ _ => trivial) ⟨(hS188.hasK (KLe.refl _)), (fun _ => hS188.hasObj (.tail _ (.head _))), by decide⟩ wn rfl (fun _ _ => (rv_move rfl)) ?_
          refine wg_one (i := 3) (by kernel_rfl) rfl ?_
          obtain ⟨r189, hx190, h191⟩ := Option.bind_eq_some_iff.1 h186
          refine wl_call wn rfl (rt_call (vs := [.pointer (some ⟨g1, 0, none⟩)]) co127 rfl) ((ok_spec_l30AnyText F) (SH.enter (Lin := [_]) hS188) hs65 hr66 hx190) ?_
          rintro e201 w193 ⟨a196, n197, c198, K192, rfl, hS194, hl195, hs199, hr200⟩
          refine ⟨_, rfl, ?_⟩
          have hS202 : SH _ _ _ _ _ [_, _, _, _, _] := SH.call (Lin := [_]) hS188 hS194
          refine wl_nil (qe_held (listed' := #[true, true, true, true, false, false, false, false, false]) rfl ⟨(hS202.hasK hS194.le), (fun _ => hS202.hasObj (.tail _ (.head _))), by decide⟩ ?_)
          refine wg_val (i := 4) (listed' := #[true, true, true, true, true, false, false, false, false]) (fun _ => True) rfl (by kernel_rfl) (pk_block (pk_then pk_body)) (by kernel_rfl) rfl (by kernel_rfl) (by kernel_rfl) rfl (.inl fun _ _ => trivial) ⟨(hS202.hasK hS194.le), (fun _ => hS202.hasObj (.tail _ (.head _))), by decide⟩ wn rfl (fun _ _ => (rv_build (cs := #[sv [122, 101, 100], sv r189.1]) sp96 tf96 rfl (by kernel_rfl))) ?_
          refine wg_one (i := 5) (by kernel_rfl) rfl ?_
          refine wl_buildSlice (t := tGField) (n := 1) (pv := [(0, .agg #[sv [122, 101, 100], sv r189.1])]) (cs := [sv [122, 101, 100], sv r189.1]) (xs := [(GField.mk ([122, 101, 100] : Str) r189.1)]) wn rfl Try.underlying40 tf96 rfl rfl rfl (by kernel_rfl) rfl rfl (lit_cons (u := .agg #[sv [122, 101, 100], sv r189.1]) (z := (GField.mk ([122, 101, 100] : Str) r189.1)) ⟨rfl, (by decide : ([122, 101, 100] : Str).length ≤ maxLen), hl195⟩ lit_nil) hS202 ?_
          intro a203 w204 K205 hl206 hs207 hS208
          refine wl_nil (qe_held (listed' := #[true, true, true, true, true, true, false, false, false]) rfl ⟨(hS208.hasK (hS194.le.trans hl206)), (fun _ => hS208.hasObj (.tail _ (.tail _ (.head _)))), by decide⟩ ?_)
          refine wg_one (i := 6) (by kernel_rfl) rfl ?_
          have hS209 : SH _ _ _ _ _ [_, _, _, _, _, _] := SH.front (p := [_, _, _]) hS208
          obtain ⟨x210, hx211, h212⟩ := Option.bind_eq_some_iff.1 h191
          refine wl_append (t := tGField) wn rfl Try.underlying40 tf96 rfl rfl rfl rfl rfl (SliceAt.mono ((hS60.le.trans hS194.le).trans hl206) hs36) hs207 hx211 hS209 ?_
          intro a213 n214 c215 w216 K217 hl218 hs219 hS220
          refine wl_nil (qe_held (listed' := #[true, true, true, true, true, true, true, false, false]) rfl ⟨(hS220.hasK ((hS194.le.trans hl206).trans hl218)), (fun _ => hS220.hasObj (.tail _ (.tail _ (.tail _ (.head _))))), by decide⟩ ?_)
          refine wg_val (i := 7) (listed' := #[true, true, true, true, true, true, true, true, false]) (fun _ => True) rfl (by kernel_rfl) (pk_block (pk_then pk_body)) (by kernel_rfl) rfl (by kernel_rfl) (by kernel_rfl) rfl (.inl fun _ _ => trivial) ⟨(hS220.hasK ((hS194.le.trans hl206).trans hl218)), (fun _ => hS220.hasObj (.tail _ (.tail _ (.tail _ (.head _))))), by decide⟩ wn rfl (fun _ _ => (rv_fieldAddr ff43_1 rfl)) ?_
          refine wg_one (i := 8) (by kernel_rfl) rfl ?_
          have hS221 : SH _ _ _ _ _ [_, _, _, _, _, _] := SH.front (p := [_, _, _]) hS220
          refine wl_store (cs' := [.int .i64 r26.1.Id, .slice a213 n214 c215, .slice a37 n38 c39]) (v := .slice a213 n214 c215) wn tf40 rfl rfl rfl (by simp [Value.cells, Value.oneCell']) hS221 rfl rfl ?_
          intro w222 hS223
          refine wl_nil (qe_held (listed' := #[true, true, true, true, true, true, true, true, true]) rfl ⟨(hS223.hasK ((hS194.le.trans hl206).trans hl218)), (fun h => by cases h), by decide⟩ ?_)
          refine wg_done (by kernel_rfl) ?_
          refine qe_block ?_
          refine qe_seq ?_
          refine wc_seq ?_
          refine wc_region ?_
          refine wl_val wn rfl (rv_loadmS (ds := [.int .i64 r26.1.Id, .slice a213 n214 c215, .slice a37 n38 c39]) tf43 rfl (.head _) hS223 rfl rfl) ?_
          have hS224 : SH _ _ _ _ _ [_, _, _, _, _, _] := SH.front (p := [_, _, _, _, _]) hS223
          refine wl_store (cs' := [.int .i64 r26.1.Id, .slice a213 n214 c215, .slice a37 n38 c39]) (v := .agg #[.int .i64 r26.1.Id, .slice a213 n214 c215, .slice a37 n38 c39]) wn tf43 rfl rfl rfl (by simp [Value.cells, Value.oneCell']) hS224 rfl rfl ?_
          intro w225 hS226
          refine wl_nil ?_
          refine qe_seq ?_
          refine wc_ret ?_
          obtain rfl := Option.some.inj h212
          have hS227 : SH _ _ _ _ _ [_, _, _, _, _, _] := SH.front (p := [_, _, _, _]) hS226
          have hS228 : SH _ _ _ _ _ [_, _, _, _, _, _] := SH.front (p := [_, _, _, _, _]) hS227
          have hS229 : SH _ _ _ _ _ [_, _, _, _, _, _] := SH.front (p := [_, _, _, _]) hS228
          have hS230 : SH _ _ _ _ _ [_, _, _] := SH.sublist hS229 (.cons_cons _ (.cons_cons _ (.cons_cons _ (.cons _ (.cons _ (.cons _ .slnil))))))
          exact qe_ret (vs := [_]) Try.results101 ⟨⟨_, _, rfl, run_loadVar_at tf43 (cs := [.int .i64 r26.1.Id, .slice a213 n214 c215, .slice a37 n38 c39]) (fun j c e => by rw [Nat.zero_add, hS226.mem_obj (.head _)]; exact e) (.inl ⟨rfl, rfl, rfl⟩)⟩, trivial⟩ ⟨a213, n214, c215, a37, n38, c39, a196, n197, c198, K217, rfl, hS230, hr32, hs219, (SliceAt.mono (((hS60.le.trans hS194.le).trans hl206).trans hl218) hs40), (SliceAt.mono (hl206.trans hl218) hs199), hr200⟩
        · have h186 := cond_f hb185 h133
          refine wc_skip ?_
          refine qe_block ?_
          refine qe_seq ?_
          refine wc_seq ?_
          refine wc_region ?_
          refine wl_val wn rfl (rv_loadmS (ds := [.int .i64 r26.1.Id, .slice a33 n34 c35, .slice a37 n38 c39]) tf43 rfl (.tail _ (.head _)) hS68 rfl rfl) ?_
          have hS231 : SH _ _ _ _ _ [_, _, _, _, _] := SH.front (p := [_, _, _, _]) hS68
          refine wl_store (cs' := [.int .i64 r26.1.Id, .slice a33 n34 c35, .slice a37 n38 c39]) (v := .agg #[.int .i64 r26.1.Id, .slice a33 n34 c35, .slice a37 n38 c39]) wn tf43 rfl rfl rfl (by simp [Value.cells, Value.oneCell']) hS231 rfl rfl ?_
          intro w232 hS233
          refine wl_nil ?_
          refine qe_seq ?_
          refine wc_ret ?_
          obtain rfl := Option.some.inj h186
          have hS234 : SH _ _ _ _ _ [_, _, _, _, _] := SH.front (p := [_]) hS233
          have hS235 : SH _ _ _ _ _ [_, _, _, _, _] := SH.front (p := [_, _, _, _]) hS234
          have hS236 : SH _ _ _ _ _ [_, _, _, _, _] := SH.front (p := [_, _, _, _]) hS235
          have hS237 : SH _ _ _ _ _ [_, _, _] := SH.sublist hS236 (.cons_cons _ (.cons_cons _ (.cons_cons _ (.cons _ (.cons _ .slnil)))))
          exact qe_ret (vs := [_]) Try.results101 ⟨⟨_, _, rfl, run_loadVar_at tf43 (cs := [.int .i64 r26.1.Id, .slice a33 n34 c35, .slice a37 n38 c39]) (fun j c e => by rw [Nat.zero_add, hS233.mem_obj (.head _)]; exact e) (.inl ⟨rfl, rfl, rfl⟩)⟩, trivial⟩ ⟨a33, n34, c35, a37, n38, c39, a62, n63, c64, K58, rfl, hS237, hr32, (SliceAt.mono hS60.le hs36), (SliceAt.mono hS60.le hs40), hs65, hr66⟩

theorem ok_spec_l30AnyDocs (F : Nat) {w : World} {K : KMap} {g1 : Nat} {a2 : Option Addr} {n3 c4 : Nat} {p0_r : GL30Rd} {r : (List GDoc) × GL30Rd} (hS : SH w K (List.filterMap Item.g [obj g1 [.slice a2 n3 c4, .int .i64 p0_r.p_] 135]) w K [obj g1 [.slice a2 n3 c4, .int .i64 p0_r.p_] 135]) (hs5 : SliceAt tU8 K a2 n3 c4 p0_r.b_) (hr6 : rng64 p0_r.p_) (hm : M.spec_l30AnyDocs F p0_r = some r) :
    Calls Try.prog 55 #[.pointer (some ⟨g1, 0, none⟩)] w fun e w' => ∃ (a_1 : Option Addr) (n_2 c_3 : Nat) (a_5 : Option Addr) (n_6 c_7 : Nat) (K' : KMap), e = .returned (.slice a_1 n_2 c_3) ∧ SH w K (List.filterMap Item.g [obj g1 [.slice a2 n3 c4, .int .i64 p0_r.p_] 135]) w' K' [tail (.slice a_1 n_2 c_3) 43 3, obj g1 [.slice a_5 n_6 c_7, .int .i64 r.2.p_] 135] ∧ SliceAt tGDoc K' a_1 n_2 c_3 r.1 ∧ SliceAt tU8 K' a_5 n_6 c_7 r.2.b_ ∧ rng64 r.2.p_ := by
  rw [M.spec_l30AnyDocs] at hm
  refine calls_in Try.func55 rfl Try.ntmps55 rfl ?_
  refine wc_seq ?_
  refine wc_region ?_
  refine wl_val wn rfl (rv_assign (v := .slice none 0 0) rfl) ?_
  refine wl_nil ?_
  refine qe_seq ?_
  refine wc_seq ?_
  refine wc_region ?_
  refine wl_val wn rfl (rv_move rfl) ?_
  obtain ⟨r7, hx8, h9⟩ := Option.bind_eq_some_iff.1 hm
  refine wl_call wn rfl (rt_call (vs := [.pointer (some ⟨g1, 0, none⟩)]) co100 rfl) ((ok_spec_l30Docs F) (SH.enter (Lin := [_]) hS) hs5 hr6 hx8) ?_
  rintro e22 w11 ⟨a13, n14, c15, a17, n18, c19, K10, rfl, hS12, hs16, hs20, hr21⟩
  refine ⟨_, rfl, ?_⟩
  have hS23 : SH _ _ _ _ _ [_, _] := SH.call (Lin := [_]) hS hS12
  refine wl_val wn rfl (rv_assign rfl) ?_
  refine wl_nil ?_
  refine qe_seq ?_
  refine wc_seq ?_
  refine wc_seq ?_
  refine wc_region ?_
  refine wl_val wn rfl (rv_move rfl) ?_
  obtain ⟨r24, hx25, h26⟩ := Option.bind_eq_some_iff.1 h9
  have hS27 : SH _ _ _ _ _ [_, _] := SH.front (p := [_]) hS23
  refine wl_call wn rfl (rt_call (vs := [.pointer (some ⟨g1, 0, none⟩), .int .i64 10]) co56 rfl) ((ok_spec_l30Rd_pick F) (SH.enter (Lin := [_]) hS27) hs20 hr21 (by decide : rng64 10) hx25) ?_
  rintro e37 w29 ⟨a32, n33, c34, K28, rfl, hS30, hr31, hs35, hr36⟩
  refine ⟨_, rfl, ?_⟩
  have hS38 : SH _ _ _ _ _ [_, _] := SH.call (Lin := [_]) hS27 hS30
  refine wl_val wn rfl (rv_eql rfl rfl) ?_
  refine wl_nil ?_
  refine qe_seq ?_
  refine wc_cond rfl (fun hb39 => ?_) (fun hb39 => ?_)
  · have h40 := cond_t hb39 h26
    refine wc_seq ?_
    refine wc_region ?_
    refine wl_val wn rfl (rv_move rfl) ?_
    refine wl_val wn rfl (rv_move rfl) ?_
    obtain ⟨r41, hx42, h43⟩ := Option.bind_eq_some_iff.1 h40
    refine wl_call wn rfl (rt_call (vs := [.pointer (some ⟨g1, 0, none⟩)]) co101 rfl) ((ok_spec_l30AnyDoc F) (SH.enter (Lin := [_]) hS38) hs35 hr36 hx42) ?_
    rintro e61 w45 ⟨a48, n49, c50, a52, n53, c54, a56, n57, c58, K44, rfl, hS46, hr47, hs51, hs55, hs59, hr60⟩
    refine ⟨_, rfl, ?_⟩
    have hS62 : SH _ _ _ _ _ [_, _, _, _] := SH.call (Lin := [_]) hS38 hS46
    refine wl_buildSlice (t := tGDoc) (n := 1) (pv := [(0, .agg #[.int .i64 r41.1.Id, .slice a48 n49 c50, .slice a52 n53 c54])]) (cs := [.int .i64 r41.1.Id, .slice a48 n49 c50, .slice a52 n53 c54]) (xs := [r41.1]) wn rfl Try.underlying34 tf43 rfl rfl rfl (by kernel_rfl) rfl rfl (lit_cons (u := .agg #[.int .i64 r41.1.Id, .slice a48 n49 c50, .slice a52 n53 c54]) (z := r41.1) ⟨a48, n49, c50, a52, n53, c54, rfl, hr47, hs51, hs55⟩ lit_nil) hS62 ?_
    intro a63 w64 K65 hl66 hs67 hS68
    have hS69 : SH _ _ _ _ _ [_, _, _, _, _] := SH.front (p := [_, _, _, _]) hS68
    obtain ⟨x70, hx71, h72⟩ := Option.bind_eq_some_iff.1 h43
    refine wl_append (t := tGDoc) wn rfl Try.underlying34 tf43 rfl rfl rfl rfl rfl (SliceAt.mono ((hS30.le.trans hS46.le).trans hl66) hs16) hs67 hx71 hS69 ?_
    intro a73 n74 c75 w76 K77 hl78 hs79 hS80
    refine wl_val wn rfl (rv_assign rfl) ?_
    refine wl_nil ?_
    refine qe_seq ?_
    refine wc_ret ?_
    refine qe_then_ret ?_
    obtain rfl := Option.some.inj h72
    have hS81 : SH _ _ _ _ _ [_, _] := SH.sublist hS80 (.cons_cons _ (.cons _ (.cons _ (.cons _ (.cons_cons _ .slnil)))))
    exact qe_ret (vs := [_]) Try.results55 ⟨rfl, trivial⟩ ⟨a73, n74, c75, a56, n57, c58, K77, rfl, hS81, hs79, (SliceAt.mono (hl66.trans hl78) hs59), hr60⟩
  · have h40 := cond_f hb39 h26
    refine wc_skip ?_
    refine qe_seq ?_
    refine wc_seq ?_
    refine wc_region ?_
    refine wl_val wn rfl (rv_move rfl) ?_
    refine wl_val wn rfl (rv_assign rfl) ?_
    refine wl_nil ?_
    refine qe_seq ?_
    refine wc_ret ?_
    obtain rfl := Option.some.inj h40
    have hS82 : SH _ _ _ _ _ [_, _] := SH.front (p := [_]) hS38
    exact qe_ret (vs := [_]) Try.results55 ⟨rfl, trivial⟩ ⟨a13, n14, c15, a32, n33, c34, K28, rfl, hS82, (SliceAt.mono hS30.le hs16), hs35, hr36⟩

theorem ok_spec_DrawShardOf (F : Nat) {w : World} {K : KMap} {a1 : Option Addr} {n2 c3 : Nat} {p0_code : List UInt8} {r : (List GDoc) × Int × Int} (hS : SH w K [] w K []) (hs4 : SliceAt tU8 K a1 n2 c3 p0_code) (hm : M.spec_DrawShardOf F p0_code = some r) :
    Calls Try.prog 14 #[.slice a1 n2 c3] w fun e w' => ∃ (a_1 : Option Addr) (n_2 c_3 : Nat) (K' : KMap), e = .returned (.tuple #[.slice a_1 n_2 c_3, .int .i64 r.2.1, .int .i64 r.2.2]) ∧ SH w K [] w' K' [tail (.slice a_1 n_2 c_3) 43 3] ∧ SliceAt tGDoc K' a_1 n_2 c_3 r.1 ∧ rng64 r.2.1 ∧ rng64 r.2.2 := by
  rw [M.spec_DrawShardOf] at hm
  refine calls_in Try.func14 rfl Try.ntmps14 rfl ?_
  refine wc_seq ?_
  refine wc_region ?_
  refine wl_val wn rfl (rv_assign (v := .slice none 0 0) rfl) ?_
  refine wl_val wn rfl (rv_assign (v := .int .i64 0) rfl) ?_
  refine wl_val wn rfl (rv_assign (v := .int .i64 0) rfl) ?_
  refine wl_nil ?_
  refine qe_seq ?_
  refine wc_seq ?_
  refine wc_region ?_
  refine wl_val wn rfl (rv_move rfl) ?_
  obtain ⟨r5, hx6, h7⟩ := Option.bind_eq_some_iff.1 hm
  refine wl_call wn rfl (rt_call (vs := [.slice a1 n2 c3]) co54 rfl) ((ok_spec_l30Open F) hS.enter0 hs4 hx6) ?_
  rintro e17 w9 ⟨g11, a12, n13, c14, K8, rfl, hS10, hs15, hr16⟩
  refine ⟨_, rfl, ?_⟩
  have hS18 : SH _ _ _ _ _ [_] := SH.call0 hS hS10
  refine wl_val wn rfl (rv_assign rfl) ?_
  refine wl_nil ?_
  refine qe_seq ?_
  refine wc_seq ?_
  refine wc_region ?_
  refine wl_val wn rfl (rv_move rfl) ?_
  obtain ⟨r19, hx20, h21⟩ := Option.bind_eq_some_iff.1 h7
  refine wl_call wn rfl (rt_call (vs := [.pointer (some ⟨g11, 0, none⟩)]) co55 rfl) ((ok_spec_l30AnyDocs F) (SH.enter (Lin := [_]) hS18) hs15 hr16 hx20) ?_
  rintro e34 w23 ⟨a25, n26, c27, a29, n30, c31, K22, rfl, hS24, hs28, hs32, hr33⟩
  refine ⟨_, rfl, ?_⟩
  have hS35 : SH _ _ _ _ _ [_, _] := SH.call (Lin := [_]) hS18 hS24
  refine wl_val wn rfl (rv_assign rfl) ?_
  refine wl_nil ?_
  refine qe_seq ?_
  refine wc_seq ?_
  refine wc_region ?_
  refine wl_val wn rfl (rv_move rfl) ?_
  obtain ⟨r36, hx37, h38⟩ := Option.bind_eq_some_iff.1 h21
  have hS39 : SH _ _ _ _ _ [_, _] := SH.front (p := [_]) hS35
  refine wl_call wn rfl (rt_call (vs := [.pointer (some ⟨g11, 0, none⟩), .int .i64 6]) co56 rfl) ((ok_spec_l30Rd_pick F) (SH.enter (Lin := [_]) hS39) hs32 hr33 (by decide : rng64 6) hx37) ?_
  rintro e49 w41 ⟨a44, n45, c46, K40, rfl, hS42, hr43, hs47, hr48⟩
  refine ⟨_, rfl, ?_⟩
  have hS50 : SH _ _ _ _ _ [_, _] := SH.call (Lin := [_]) hS39 hS42
  refine wl_val wn rfl (rv_assign rfl) ?_
  refine wl_nil ?_
  refine qe_seq ?_
  refine wc_seq ?_
  refine wc_region ?_
  refine wl_val wn rfl (rv_move rfl) ?_
  refine wl_val wn rfl (rv_move rfl) ?_
  refine wl_val wn rfl (rv_move rfl) ?_
  refine wl_val wn rfl (rv_move rfl) ?_
  refine wl_val wn rfl (rv_add rfl rfl) ?_
  obtain ⟨r51, hx52, h53⟩ := Option.bind_eq_some_iff.1 h38
  refine wl_call wn rfl (rt_call (vs := [.pointer (some ⟨g11, 0, none⟩), .int .i64 (w64 (r36.1 + (1 : Int)))]) co56 rfl) ((ok_spec_l30Rd_pick F) (SH.enter (Lin := [_]) hS50) hs47 hr48 (w64_rng _) hx52) ?_
  rintro e63 w55 ⟨a58, n59, c60, K54, rfl, hS56, hr57, hs61, hr62⟩
  refine ⟨_, rfl, ?_⟩
  have hS64 : SH _ _ _ _ _ [_, _] := SH.call (Lin := [_]) hS50 hS56
  refine wl_val wn rfl (rv_move rfl) ?_
  obtain ⟨r65, hx66, h67⟩ := Option.bind_eq_some_iff.1 h53
  refine wl_call wn rfl (rt_call (vs := [.pointer (some ⟨g11, 0, none⟩), .int .i64 2]) co56 rfl) ((ok_spec_l30Rd_pick F) (SH.enter (Lin := [_]) hS64) hs61 hr62 (by decide : rng64 2) hx66) ?_
  rintro e77 w69 ⟨a72, n73, c74, K68, rfl, hS70, hr71, hs75, hr76⟩
  refine ⟨_, rfl, ?_⟩
  have hS78 : SH _ _ _ _ _ [_, _] := SH.call (Lin := [_]) hS64 hS70
  refine wl_val wn rfl (rv_sub rfl rfl) ?_
  refine wl_val wn rfl (rv_assign rfl) ?_
  refine wl_val wn rfl (rv_assign rfl) ?_
  refine wl_val wn rfl (rv_assign rfl) ?_
  refine wl_nil ?_
  refine qe_seq ?_
  refine wc_ret ?_
  obtain rfl := Option.some.inj h67
  have hS79 : SH _ _ _ _ _ [_] := SH.sublist hS78 (.cons _ (.cons_cons _ .slnil))
  exact qe_ret (vs := [_, _, _]) Try.results14 ⟨rfl, rfl, rfl, trivial⟩ ⟨a25, n26, c27, K68, rfl, hS79, (SliceAt.mono ((hS42.le.trans hS56.le).trans hS70.le) hs28), hr43, (w64_rng _)⟩

theorem ok_impl_within (F : Nat) {w : World} {K : KMap} {p0_n : Int} {p1_low : Int} {p2_high : Int} {r : Bool} (hS : SH w K [] w K []) (hr1 : rng64 p0_n) (hr2 : rng64 p1_low) (hr3 : rng64 p2_high) (hm : M.impl_within F p0_n p1_low p2_high = some r) :
    Calls Try.prog 72 #[.int .i64 p0_n, .int .i64 p1_low, .int .i64 p2_high] w fun e w' => ∃ (K' : KMap), e = .returned (.bool r) ∧ SH w K [] w' K' [] := by
  rw [M.impl_within] at hm
  refine calls_in Try.func72 rfl Try.ntmps72 rfl ?_
  refine wc_seq ?_
  refine wc_region ?_
  refine wl_val wn rfl (rv_assign (v := .bool false) rfl) ?_
  refine wl_nil ?_
  refine qe_seq ?_
  refine wc_seq ?_
  refine wc_region ?_
  refine wl_val wn rfl (rv_move rfl) ?_
  refine wl_val wn rfl (rv_move rfl) ?_
  refine wl_val wn rfl (rv_geq rfl rfl) ?_
  refine wl_val wn rfl (rv_move rfl) ?_
  rcases bool_tf (decide (p1_low ≤ p0_n)) with hb4 | hb4
  · have h5 := cond_t hb4 hm
    refine wl_val (wg rfl rfl hb4) rfl (rv_move rfl) ?_
    refine wl_val (wg rfl rfl hb4) rfl (rv_move rfl) ?_
    refine wl_val (wg rfl rfl hb4) rfl (rv_leq rfl rfl) ?_
    refine wl_val wn rfl (rv_pick_t rfl hb4 rfl) ?_
    refine wl_val wn rfl (rv_assign rfl) ?_
    refine wl_nil ?_
    refine qe_seq ?_
    refine wc_ret ?_
    obtain rfl := Option.some.inj h5
    exact qe_ret (vs := [_]) Try.results72 ⟨rfl, trivial⟩ ⟨K, rfl, hS⟩
  · have h5 := cond_f hb4 hm
    refine wl_un (ug rfl rfl hb4) rfl ?_
    refine wl_un (ug rfl rfl hb4) rfl ?_
    refine wl_un (ug rfl rfl hb4) rfl ?_
    refine wl_val wn rfl (rv_pick_f (v := .bool false) rfl hb4 rfl) ?_
    refine wl_val wn rfl (rv_assign rfl) ?_
    refine wl_nil ?_
    refine qe_seq ?_
    refine wc_ret ?_
    obtain rfl := Option.some.inj h5
    exact qe_ret (vs := [_]) Try.results72 ⟨rfl, trivial⟩ ⟨K, rfl, hS⟩

theorem ok_impl_wordByte (F : Nat) {w : World} {K : KMap} {p0_b : UInt8} {r : Bool} (hS : SH w K [] w K []) (hm : M.impl_wordByte F p0_b = some r) :
    Calls Try.prog 98 #[iv8 p0_b] w fun e w' => ∃ (K' : KMap), e = .returned (.bool r) ∧ SH w K [] w' K' [] := by
  rw [M.impl_wordByte] at hm
  refine calls_in Try.func98 rfl Try.ntmps98 rfl ?_
  refine wc_seq ?_
  refine wc_region ?_
  refine wl_val wn rfl (rv_assign (v := .bool false) rfl) ?_
  refine wl_nil ?_
  refine qe_seq ?_
  refine wc_seq ?_
  refine wc_region ?_
  refine wl_val wn rfl (rv_move rfl) ?_
  refine wl_val wn rfl (rv_bge (b := (97 : UInt8)) rfl rfl) ?_
  refine wl_val wn rfl (rv_move rfl) ?_
  rcases bool_tf (decide ((97 : UInt8) ≤ p0_b)) with hb1 | hb1
  · have h2 := cond_t hb1 hm
    refine wl_val (wg rfl rfl hb1) rfl (rv_move rfl) ?_
    refine wl_val (wg rfl rfl hb1) rfl (rv_ble (b := (122 : UInt8)) rfl rfl) ?_
    refine wl_val wn rfl (rv_pick_t rfl hb1 rfl) ?_
    refine wl_val wn rfl (rv_move rfl) ?_
    rcases bool_tf (decide (p0_b ≤ (122 : UInt8))) with hb3 | hb3
    · have h4 := cond_t hb3 h2
      refine wl_un (ug rfl rfl hb3) rfl ?_
      refine wl_un (ug rfl rfl hb3) rfl ?_
      refine wl_un (ug rfl rfl hb3) rfl ?_
      refine wl_un (uu rfl rfl) rfl ?_
      refine wl_un (uu rfl rfl) rfl ?_
      refine wl_un (ug rfl rfl hb3) rfl ?_
      refine wl_val wn rfl (rv_pick_t (v := .bool true) rfl hb3 rfl) ?_
      refine wl_val wn rfl (rv_assign rfl) ?_
      refine wl_nil ?_
      refine qe_seq ?_
      refine wc_ret ?_
      obtain rfl := Option.some.inj h4
      exact qe_ret (vs := [_]) Try.results98 ⟨rfl, trivial⟩ ⟨K, rfl, hS⟩
    · have h4 := cond_f hb3 h2
      refine wl_val (wg rfl rfl hb3) rfl (rv_move rfl) ?_
      refine wl_val (wg rfl rfl hb3) rfl (rv_bge (b := (48 : UInt8)) rfl rfl) ?_
      refine wl_val (wg rfl rfl hb3) rfl (rv_move rfl) ?_
      rcases bool_tf (decide ((48 : UInt8) ≤ p0_b)) with hb5 | hb5
      · have h6 := cond_t hb5 h4
        refine wl_val (wg rfl rfl hb5) rfl (rv_move rfl) ?_
        refine wl_val (wg rfl rfl hb5) rfl (rv_ble (b := (57 : UInt8)) rfl rfl) ?_
        refine wl_val (wg rfl rfl hb3) rfl (rv_pick_t rfl hb5 rfl) ?_
        refine wl_val wn rfl (rv_pick_f rfl hb3 rfl) ?_
        refine wl_val wn rfl (rv_assign rfl) ?_
        refine wl_nil ?_
        refine qe_seq ?_
        refine wc_ret ?_
        obtain rfl := Option.some.inj h6
        exact qe_ret (vs := [_]) Try.results98 ⟨rfl, trivial⟩ ⟨K, rfl, hS⟩
      · have h6 := cond_f hb5 h4
        refine wl_un (ug rfl rfl hb5) rfl ?_
        refine wl_un (ug rfl rfl hb5) rfl ?_
        refine wl_val (wg rfl rfl hb3) rfl (rv_pick_f (v := .bool false) rfl hb5 rfl) ?_
        refine wl_val wn rfl (rv_pick_f rfl hb3 rfl) ?_
        refine wl_val wn rfl (rv_assign rfl) ?_
        refine wl_nil ?_
        refine qe_seq ?_
        refine wc_ret ?_
        obtain rfl := Option.some.inj h6
        exact qe_ret (vs := [_]) Try.results98 ⟨rfl, trivial⟩ ⟨K, rfl, hS⟩
  · have h2 := cond_f hb1 hm
    refine wl_un (ug rfl rfl hb1) rfl ?_
    refine wl_un (ug rfl rfl hb1) rfl ?_
    refine wl_val wn rfl (rv_pick_f (v := .bool false) rfl hb1 rfl) ?_
    refine wl_val wn rfl (rv_move rfl) ?_
    refine wl_val (wg rfl rfl rfl) rfl (rv_move rfl) ?_
    refine wl_val (wg rfl rfl rfl) rfl (rv_bge (b := (48 : UInt8)) rfl rfl) ?_
    refine wl_val (wg rfl rfl rfl) rfl (rv_move rfl) ?_
    rcases bool_tf (decide ((48 : UInt8) ≤ p0_b)) with hb7 | hb7
    · have h8 := cond_t hb7 h2
      refine wl_val (wg rfl rfl hb7) rfl (rv_move rfl) ?_
      refine wl_val (wg rfl rfl hb7) rfl (rv_ble (b := (57 : UInt8)) rfl rfl) ?_
      refine wl_val (wg rfl rfl rfl) rfl (rv_pick_t rfl hb7 rfl) ?_
      refine wl_val wn rfl (rv_pick_f rfl rfl rfl) ?_
      refine wl_val wn rfl (rv_assign rfl) ?_
      refine wl_nil ?_
      refine qe_seq ?_
      refine wc_ret ?_
      obtain rfl := Option.some.inj h8
      exact qe_ret (vs := [_]) Try.results98 ⟨rfl, trivial⟩ ⟨K, rfl, hS⟩
    · have h8 := cond_f hb7 h2
      refine wl_un (ug rfl rfl hb7) rfl ?_
      refine wl_un (ug rfl rfl hb7) rfl ?_
      refine wl_val (wg rfl rfl rfl) rfl (rv_pick_f (v := .bool false) rfl hb7 rfl) ?_
      refine wl_val wn rfl (rv_pick_f rfl rfl rfl) ?_
      refine wl_val wn rfl (rv_assign rfl) ?_
      refine wl_nil ?_
      refine qe_seq ?_
      refine wc_ret ?_
      obtain rfl := Option.some.inj h8
      exact qe_ret (vs := [_]) Try.results98 ⟨rfl, trivial⟩ ⟨K, rfl, hS⟩

theorem ok_impl_WordOk (F : Nat) {w : World} {K : KMap} {p0_s : Str} {r : Bool} (hS : SH w K [] w K []) (hl1 : p0_s.length ≤ maxLen) (hm : M.impl_WordOk F p0_s = some r) :
    Calls Try.prog 52 #[sv p0_s] w fun e w' => ∃ (K' : KMap), e = .returned (.bool r) ∧ SH w K [] w' K' [] := by
  rw [M.impl_WordOk] at hm
  refine calls_in Try.func52 rfl Try.ntmps52 rfl ?_
  refine wc_seq ?_
  refine wc_region ?_
  refine wl_val wn rfl (rv_assign (v := .bool false) rfl) ?_
  refine wl_nil ?_
  refine qe_seq ?_
  refine wc_seq ?_
  refine wc_seq ?_
  refine wc_region ?_
  refine wl_val wn rfl (rv_move rfl) ?_
  refine wl_val wn rfl (rv_slen Try.underlying9 rfl) ?_
  refine wl_val wn rfl (rv_move (v := .int .i64 0) rfl) ?_
  refine wl_nil ?_
  refine qe_seq ?_
  obtain ⟨o2, h3, h4⟩ := Option.bind_eq_some_iff.1 hm
  refine wc_cutg (fun E' w' => ∃ (s5 : Unit) (K6 : KMap), o2 = .inl s5 ∧ E' = [(0, sv p0_s)] ∧ SH w K [] w' K6 [] ∧ KLe K K6) ?_ ?_
  · refine wc_block ?_
    obtain ⟨r11, h12, h13⟩ := Option.bind_eq_some_iff.1 h3
    refine wc_for' (fun (i14 : Nat) (s10 : Unit) E' w' => ∃ (K15 : KMap), E' = [(0, sv p0_s), (5, .int .i64 (p0_s.length : Int)), (6, .int .i64 ((i14 : Nat) : Int))] ∧ SH w K [] w' K15 [] ∧ KLe K K15) h12 ⟨K, rfl, hS, (KLe.refl _)⟩ ⟨rfl, rfl, rfl, trivial⟩ ?_ ?_
    · rintro i14 s10 _ w17 r19 hi20 h21 hx22 ⟨K15, rfl, hS18, hl16⟩
      refine wc_seq (wc_region ?_)
      refine wl_val wn rfl (rv_lss rfl rfl) ?_
      refine wl_nil (qe_seq (wc_seq ?_))
      refine wc_cond_t rfl (decide_eq_true (by omega)) (wc_skip (qe_seq (wc_seq ?_)))
      refine wc_block ?_
      refine wc_seq ?_
      refine wc_region ?_
      refine wl_val wn rfl (rv_move rfl) ?_
      refine wl_val wn rfl (rv_assign rfl) ?_
      refine wl_nil ?_
      refine qe_seq ?_
      refine wc_seq ?_
      refine wc_region ?_
      refine wl_val wn rfl (rv_move rfl) ?_
      refine wl_val wn rfl (rv_move rfl) ?_
      obtain ⟨x23, hx24, h25⟩ := Option.bind_eq_some_iff.1 h21
      refine wl_val wn rfl (rv_sidx Try.underlying9 rfl rfl hx24) ?_
      obtain ⟨r26, hx27, h28⟩ := Option.bind_eq_some_iff.1 h25
      refine wl_call wn rfl (rt_call (vs := [iv8 x23]) co98 rfl) ((ok_impl_wordByte F) hS18.enter0  hx27) ?_
      rintro e32 w30 ⟨K29, rfl, hS31⟩
      refine ⟨_, rfl, ?_⟩
      have hS33 : SH _ _ _ _ _ [] := SH.call0 hS18 hS31
      refine wl_val wn rfl (rv_not rfl) ?_
      refine wl_nil ?_
      refine qe_seq ?_
      refine wc_cond rfl (fun hb34 => ?_) (fun hb34 => ?_)
      · have h35 := cond_t hb34 h28
        refine wc_seq ?_
        refine wc_region ?_
        refine wl_val wn rfl (rv_assign (v := .bool false) rfl) ?_
        refine wl_nil ?_
        refine qe_seq ?_
        refine wc_ret ?_
        refine qe_block_ret ?_
        refine qe_then_ret ?_
        refine qe_then_ret ?_
        obtain rfl := Option.some.inj h35
        have e36 := hx22 _ rfl
        subst e36
        refine qe_block_ret ?_
        refine qe_then_ret ?_
        obtain rfl := Option.some.inj h13
        refine qe_then_ret ?_
        obtain rfl := Option.some.inj h4
        exact qe_ret (vs := [_]) Try.results52 ⟨rfl, trivial⟩ ⟨K29, rfl, hS33⟩
      · have h35 := cond_f hb34 h28
        refine wc_skip ?_
        refine qe_block ?_
        refine qe_seq (wc_region ?_)
        refine wl_val wn rfl (rv_add_to rfl rfl (w64_succ hi20 hl1)) ?_
        refine wl_val wn rfl (rv_move rfl) ?_
        refine wl_nil ?_
        obtain rfl := Option.some.inj h35
        exact qe_mid' ⟨_, rfl, K29, rfl, hS33, (hl16.trans hS31.le)⟩ ⟨rfl, rfl, rfl, trivial⟩
    · rintro s10 _ w17 hr37 ⟨K15, rfl, hS18, hl16⟩
      subst hr37
      refine wc_seq (wc_region ?_)
      refine wl_val wn rfl (rv_lss rfl rfl) ?_
      refine wl_nil (qe_seq (wc_seq ?_))
      refine wc_cond_f rfl (decide_eq_false (by omega)) ?_
      refine wc_exit ?_
      refine qe_then_exit ?_
      refine qe_then_exit ?_
      refine qe_block_eq ?_
      obtain rfl := Option.some.inj h13
      exact qe_mid' ⟨_, K15, rfl, rfl, hS18, hl16⟩ ⟨rfl, trivial⟩
  · rintro _ w8 ⟨s5, K6, rfl, rfl, hS9, hl7⟩
    refine qe_seq ?_
    refine wc_seq ?_
    refine wc_region ?_
    refine wl_val wn rfl (rv_move rfl) ?_
    refine wl_val wn rfl (rv_slen Try.underlying9 rfl) ?_
    obtain ⟨r39, hx40, h41⟩ := Option.bind_eq_some_iff.1 h4
    refine wl_call wn rfl (rt_call (vs := [.int .i64 (p0_s.length : Int), .int .i64 1, .int .i64 12]) co72 rfl) ((ok_impl_within F) hS9.enter0 (rng_nat hl1) (by decide : rng64 1) (by decide : rng64 12) hx40) ?_
    rintro e45 w43 ⟨K42, rfl, hS44⟩
    refine ⟨_, rfl, ?_⟩
    have hS46 : SH _ _ _ _ _ [] := SH.call0 hS9 hS44
    refine wl_val wn rfl (rv_assign rfl) ?_
    refine wl_nil ?_
    refine qe_seq ?_
    refine wc_ret ?_
    obtain rfl := Option.some.inj h41
    exact qe_ret (vs := [_]) Try.results52 ⟨rfl, trivial⟩ ⟨K42, rfl, hS46⟩

theorem ok_impl_TextOk (F : Nat) {w : World} {K : KMap} {p0_s : Str} {r : Bool} (hS : SH w K [] w K []) (hl1 : p0_s.length ≤ maxLen) (hm : M.impl_TextOk F p0_s = some r) :
    Calls Try.prog 103 #[sv p0_s] w fun e w' => ∃ (K' : KMap), e = .returned (.bool r) ∧ SH w K [] w' K' [] := by
  rw [M.impl_TextOk] at hm
  refine calls_in Try.func103 rfl Try.ntmps103 rfl ?_
  refine wc_seq ?_
  refine wc_region ?_
  refine wl_val wn rfl (rv_assign (v := .bool false) rfl) ?_
  refine wl_nil ?_
  refine qe_seq ?_
  refine wc_seq ?_
  refine wc_seq ?_
  refine wc_region ?_
  refine wl_val wn rfl (rv_move rfl) ?_
  refine wl_val wn rfl (rv_slen Try.underlying9 rfl) ?_
  refine wl_val wn rfl (rv_move (v := .int .i64 0) rfl) ?_
  refine wl_nil ?_
  refine qe_seq ?_
  obtain ⟨o2, h3, h4⟩ := Option.bind_eq_some_iff.1 hm
  refine wc_cutg (fun E' w' => ∃ (s5 : Unit) (K6 : KMap), o2 = .inl s5 ∧ E' = [(0, sv p0_s)] ∧ SH w K [] w' K6 [] ∧ KLe K K6) ?_ ?_
  · refine wc_block ?_
    obtain ⟨r11, h12, h13⟩ := Option.bind_eq_some_iff.1 h3
    refine wc_for' (fun (i14 : Nat) (s10 : Unit) E' w' => ∃ (K15 : KMap), E' = [(0, sv p0_s), (5, .int .i64 (p0_s.length : Int)), (6, .int .i64 ((i14 : Nat) : Int))] ∧ SH w K [] w' K15 [] ∧ KLe K K15) h12 ⟨K, rfl, hS, (KLe.refl _)⟩ ⟨rfl, rfl, rfl, trivial⟩ ?_ ?_
    · rintro i14 s10 _ w17 r19 hi20 h21 hx22 ⟨K15, rfl, hS18, hl16⟩
      refine wc_seq (wc_region ?_)
      refine wl_val wn rfl (rv_lss rfl rfl) ?_
      refine wl_nil (qe_seq (wc_seq ?_))
      refine wc_cond_t rfl (decide_eq_true (by omega)) (wc_skip (qe_seq (wc_seq ?_)))
      refine wc_block ?_
      refine wc_seq ?_
      refine wc_region ?_
      refine wl_val wn rfl (rv_move rfl) ?_
      refine wl_val wn rfl (rv_assign rfl) ?_
      refine wl_nil ?_
      refine qe_seq ?_
      refine wc_seq ?_
      obtain ⟨o23, h24, h25⟩ := Option.bind_eq_some_iff.1 h21
      refine wc_cutg (fun E' w' => ∃ (K26 : KMap), E' = [(0, sv p0_s), (5, .int .i64 (p0_s.length : Int)), (6, .int .i64 ((i14 : Nat) : Int)), (18, .bool o23)] ∧ SH w K [] w' K26 [] ∧ KLe K15 K26) ?_ ?_
      · refine wc_region ?_
        refine wl_val wn rfl (rv_move rfl) ?_
        refine wl_val wn rfl (rv_move rfl) ?_
        obtain ⟨x30, hx31, h32⟩ := Option.bind_eq_some_iff.1 h24
        refine wl_val wn rfl (rv_sidx Try.underlying9 rfl rfl hx31) ?_
        refine wl_val wn rfl (rv_bl (b := (32 : UInt8)) rfl rfl) ?_
        refine wl_val wn rfl (rv_move rfl) ?_
        rcases bool_tf (decide (x30 < (32 : UInt8))) with hb33 | hb33
        · have h34 := cond_t hb33 h32
          refine wl_un (ug rfl rfl hb33) rfl ?_
          refine wl_un (ug rfl rfl hb33) rfl ?_
          refine wl_un (ug rfl rfl hb33) rfl ?_
          refine wl_un (ug rfl rfl hb33) rfl ?_
          refine wl_val wn rfl (rv_pick_t (v := .bool true) rfl hb33 rfl) ?_
          refine wl_nil ?_
          obtain rfl := Option.some.inj h34
          exact qe_mid' ⟨K15, rfl, hS18, (KLe.refl _)⟩ ⟨rfl, rfl, rfl, rfl, trivial⟩
        · have h34 := cond_f hb33 h32
          refine wl_val (wg rfl rfl hb33) rfl (rv_move rfl) ?_
          refine wl_val (wg rfl rfl hb33) rfl (rv_move rfl) ?_
          obtain ⟨x35, hx36, h37⟩ := Option.bind_eq_some_iff.1 h34
          refine wl_val (wg rfl rfl hb33) rfl (rv_sidx Try.underlying9 rfl rfl hx36) ?_
          refine wl_val (wg rfl rfl hb33) rfl (rv_bg (b := (126 : UInt8)) rfl rfl) ?_
          refine wl_val wn rfl (rv_pick_f rfl hb33 rfl) ?_
          refine wl_nil ?_
          obtain rfl := Option.some.inj h37
          exact qe_mid' ⟨K15, rfl, hS18, (KLe.refl _)⟩ ⟨rfl, rfl, rfl, rfl, trivial⟩
      · rintro _ w28 ⟨K26, rfl, hS29, hl27⟩
        refine qe_seq ?_
        refine wc_cond rfl (fun hb38 => ?_) (fun hb38 => ?_)
        · have h39 := cond_t hb38 h25
          refine wc_seq ?_
          refine wc_region ?_
          refine wl_val wn rfl (rv_assign (v := .bool false) rfl) ?_
          refine wl_nil ?_
          refine qe_seq ?_
          refine wc_ret ?_
          refine qe_block_ret ?_
          refine qe_then_ret ?_
          refine qe_then_ret ?_
          obtain rfl := Option.some.inj h39
          have e40 := hx22 _ rfl
          subst e40
          refine qe_block_ret ?_
          refine qe_then_ret ?_
          obtain rfl := Option.some.inj h13
          refine qe_then_ret ?_
          obtain rfl := Option.some.inj h4
          exact qe_ret (vs := [_]) Try.results103 ⟨rfl, trivial⟩ ⟨K26, rfl, hS29⟩
        · have h39 := cond_f hb38 h25
          refine wc_skip ?_
          refine qe_block ?_
          refine qe_seq (wc_region ?_)
          refine wl_val wn rfl (rv_add_to rfl rfl (w64_succ hi20 hl1)) ?_
          refine wl_val wn rfl (rv_move rfl) ?_
          refine wl_nil ?_
          obtain rfl := Option.some.inj h39
          exact qe_mid' ⟨_, rfl, K26, rfl, hS29, (hl16.trans hl27)⟩ ⟨rfl, rfl, rfl, trivial⟩
    · rintro s10 _ w17 hr41 ⟨K15, rfl, hS18, hl16⟩
      subst hr41
      refine wc_seq (wc_region ?_)
      refine wl_val wn rfl (rv_lss rfl rfl) ?_
      refine wl_nil (qe_seq (wc_seq ?_))
      refine wc_cond_f rfl (decide_eq_false (by omega)) ?_
      refine wc_exit ?_
      refine qe_then_exit ?_
      refine qe_then_exit ?_
      refine qe_block_eq ?_
      obtain rfl := Option.some.inj h13
      exact qe_mid' ⟨_, K15, rfl, rfl, hS18, hl16⟩ ⟨rfl, trivial⟩
  · rintro _ w8 ⟨s5, K6, rfl, rfl, hS9, hl7⟩
    refine qe_seq ?_
    refine wc_seq ?_
    refine wc_region ?_
    refine wl_val wn rfl (rv_move rfl) ?_
    refine wl_val wn rfl (rv_slen Try.underlying9 rfl) ?_
    refine wl_val wn rfl (rv_leq rfl rfl) ?_
    refine wl_val wn rfl (rv_assign rfl) ?_
    refine wl_nil ?_
    refine qe_seq ?_
    refine wc_ret ?_
    obtain rfl := Option.some.inj h4
    exact qe_ret (vs := [_]) Try.results103 ⟨rfl, trivial⟩ ⟨K6, rfl, hS9⟩
end Go.Proofs.Ytajfhpaokbgmeaa
