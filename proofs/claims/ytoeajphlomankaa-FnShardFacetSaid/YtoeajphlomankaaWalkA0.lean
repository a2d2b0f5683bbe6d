/-
 Walks of the functions. Printed by gen.py.
-/
import Derived.Test.YtoeajphlomankaaFacts
set_option linter.unusedVariables false
set_option maxRecDepth 100000
namespace Go.Proofs.Ytoeajphlomankaa
open Go Go.Fk Go.RowKit

theorem ok_spec_l30Open (F : Nat) {w : World} {K : KMap} {a : Option Addr} {b c : Nat} {p0_code : List UInt8} {r : GL30Rd} (hS : SH w K [] w K []) (d : SliceAt tU8 K a b c p0_code) (hm : M.spec_l30Open F p0_code = some r) :
  Calls Try.prog 11 #[.slice a b c] w fun e w' => ∃ (g_1 : Nat) (a_2 : Option Addr) (n_3 c_4 : Nat) (K' : KMap), e = .returned (.pointer (some ⟨g_1, 0, none⟩)) ∧ SH w K [] w' K' [obj g_1 [.slice a_2 n_3 c_4, .int .i64 r.p_] 58] ∧ SliceAt tU8 K' a_2 n_3 c_4 r.b_ ∧ rng64 r.p_ := by
 rw [M.spec_l30Open] at hm
 refine calls_in Try.func11 rfl Try.ntmps11 rfl (sr (lv (rv_assign (v := .pointer none) rfl) (nsr (mv rfl (lv (rv_len (t := tU8) Try.underlying22 rfl d) (lv (rv_gtr rfl rfl) (nq (wc_cond rfl (fun f => ?_) (fun f => ?_)))))))))
 ·have i := cond_t f hm
  refine wc_region (mv rfl ?_)
  obtain ⟨G, s, x⟩ := ob i
  refine wl_sl_h (t := tU8) wn rfl Try.underlying22 tf5 rfl rfl d s fun k l m y => (av rfl (nr (mv rfl (lv (rv_build (cs := #[.slice k l m, .int .i64 0]) sp58 tf58 rfl (by kernel_rfl)) (bx rfl hS fun o H A => ?_)))))
  have B : SH _ _ _ _ _ [obj o [.slice k l m, .int .i64 0] 58] := A
  refine av rfl (nq (wc_ret ?_))
  obtain rfl := oi x
  exact er Try.results11 ⟨rfl, trivial⟩ ⟨o, k, l, m, K, rfl, B, y, (by decide : rng64 0)⟩
 have i := cond_f f hm
 refine wc_skip (qr (mv rfl (lv (rv_build (cs := #[.slice a b c, .int .i64 0]) sp58 tf58 rfl (by kernel_rfl)) (bx rfl hS fun q I C => ?_))))
 have D : SH _ _ _ _ _ [obj q [.slice a b c, .int .i64 0] 58] := C
 refine av rfl (nq (wc_ret ?_))
 obtain rfl := oi i
 exact er Try.results11 ⟨rfl, trivial⟩ ⟨q, a, b, c, K, rfl, D, d, (by decide : rng64 0)⟩

set_option maxHeartbeats 2000000 in
theorem ok_spec_l30Rd_pick (F : Nat) {w : World} {K : KMap} {g1 : Nat} {c : Option Addr} {d f : Nat} {p0_r : GL30Rd} {p1_n : Int} {r : Int × GL30Rd} (hS : SH w K (List.flatMap Item.gs [obj g1 [.slice c d f, .int .i64 p0_r.p_] 58]) w K [obj g1 [.slice c d f, .int .i64 p0_r.p_] 58]) (b : SliceAt tU8 K c d f p0_r.b_) (aE : rng64 p0_r.p_) (aF : rng64 p1_n) (hm : M.spec_l30Rd_pick F p0_r p1_n = some r) :
  Calls Try.prog 13 #[.pointer (some ⟨g1, 0, none⟩), .int .i64 p1_n] w fun e w' => ∃ (a_2 : Option Addr) (n_3 c_4 : Nat) (K' : KMap), e = .returned (.int .i64 r.1) ∧ SH w K (List.flatMap Item.gs [obj g1 [.slice c d f, .int .i64 p0_r.p_] 58]) w' K' [obj g1 [.slice a_2 n_3 c_4, .int .i64 r.2.p_] 58] ∧ rng64 r.1 ∧ SliceAt tU8 K' a_2 n_3 c_4 r.2.b_ ∧ rng64 r.2.p_ := by
 rw [M.spec_l30Rd_pick] at hm
 refine calls_in Try.func13 rfl Try.ntmps13 rfl (sr (lv (rv_assign (v := .int .i64 0) rfl) (nr (mv rfl (mv rfl (lv (rv_nilCheck rfl) (fa ff58_1 rfl (lv (rv_loadm1 tf3 rfl m0 hS rfl) (lv (rv_add rfl rfl) ?_)))))))))
 refine lv (rv_nilCheck rfl) (fa ff58_1 rfl (ls [.slice c d f, .int .i64 (w64 (p0_r.p_ + (1 : Int)))] (.int .i64 (w64 (p0_r.p_ + (1 : Int)))) tf3 hS fun w8 m => (ns (wc_seq ?_))))
 obtain ⟨B, x, C⟩ := ob hm
 refine wc_cutg (fun E' w' => ∃ l, E' = [(0, pt g1), (1, .int .i64 p1_n), (24, .bool B)] ∧ SH w K (List.flatMap Item.gs [obj g1 [.slice c d f, .int .i64 p0_r.p_] 58]) w' l [obj g1 [.slice c d f, .int .i64 (w64 (p0_r.p_ + (1 : Int)))] 58] ∧ KLe K l) ?_ ?_
 ·refine wc_region (mv rfl (lv (rv_lss rfl rfl) (mv rfl ?_)))
  rcases bool_tf (decide (p1_n < (1 : Int))) with a | a
  ·have o := cond_t a x
   refine lu a (lu a (lu a (lu a (lu a (lu a (lv (rv_pick_t (v := .bool true) rfl a rfl) (wl_nil ?_)))))))
   obtain rfl := oi o
   exact qd ⟨K, rfl, m, (KLe.refl _)⟩
  have o := cond_f a x
  refine lg a (rv_move rfl) (lg a (rv_nilCheck rfl) (lg a (rv_fieldAddr ff58_0 rfl) (lg a (rv_loadm1 tf22 rfl m0 m rfl) (lg a (rv_len (t := tU8) Try.underlying22 rfl b) (lg a (rv_eql rfl rfl) (lv (rv_pick_f rfl a rfl) (wl_nil ?_)))))))
  obtain rfl := oi o
  exact qd ⟨K, rfl, m, (KLe.refl _)⟩
 rintro _ aH ⟨l, rfl, k, i⟩
 refine qe_seq (wcc C rfl (fun D q => ?_) (fun D q => ?_))
 ·refine sr (lv (rv_assign (v := .int .i64 0) rfl) (nq (rr ?_)))
  obtain rfl := oi q
  exact er Try.results13 ⟨rfl, trivial⟩ ⟨c, d, f, l, rfl, k, (by decide : rng64 0), (b.mono i), (w64_rng _)⟩
 refine wc_skip (qr (mv rfl (lv (rv_nilCheck rfl) (fa ff58_1 rfl (lv (rv_loadm1 tf3 rfl m0 k rfl) (lv (rv_sub rfl rfl) (av rfl (nsr (mv rfl ?_)))))))))
 refine mv rfl (lv (rv_nilCheck rfl) (fa ff58_0 rfl (lv (rv_loadm1 tf22 rfl m0 k rfl) (lv (rv_len (t := tU8) Try.underlying22 rfl (b.mono i)) (lv (rv_lss rfl rfl) (nq (wcc q rfl (fun G s => ?_) (fun G s => ?_))))))))
 ·refine sr (mv rfl (lv (rv_nilCheck rfl) (fa ff58_0 rfl (lv (rv_loadm1 tf22 rfl m0 k rfl) (mv rfl ?_)))))
  obtain ⟨H, I, J⟩ := ob s
  refine li Try.underlying22 tf5 (b.mono i) I fun O R aI S T => ?_
  obtain rfl := S
  have U : AtK _ O R [iv8 H] := T
  refine lv (rv_load1 tf5 rfl k (U 0 _ rfl)) (lv (rv_b2i Try.underlying5 Try.underlying3 rfl) (mv rfl ?_))
  obtain ⟨aJ, y, V⟩ := ob J
  refine lv (rv_rem rfl rfl y) (av rfl (nq (rr ?_)))
  obtain rfl := oi V
  exact er Try.results13 ⟨rfl, trivial⟩ ⟨c, d, f, l, rfl, k, (rng_rem (rng_u8 _) y), (b.mono i), (w64_rng _)⟩
 refine wc_skip (qs (wc_quiet mixed (by kernel_rfl) k (km rfl (kv (rv_nilCheck rfl) (kv (rv_fieldAddr ff58_0 rfl) (kh (rq_loadm1 tf22 rfl m0 rfl) (km rfl (km rfl (kv (rv_nilCheck rfl) ?_)))))))))
 refine kv (rv_fieldAddr ff58_0 rfl) (kh (rq_loadm1 tf22 rfl m0 rfl) (kv (rv_len (t := tU8) Try.underlying22 rfl (b.mono i)) ?_))
 obtain ⟨aK, W, X⟩ := ob s
 refine kv (rv_rem rfl rfl W) ?_
 obtain ⟨Y, Z, aa⟩ := ob X
 refine ki Try.underlying22 tf5 (b.mono i) Z fun ab ac aL ad ae => ?_
 obtain rfl := ad
 have af : AtK _ ab ac [iv8 Y] := ae
 refine kh (rq_load1 tf5 rfl (af 0 _ rfl)) (kv (rv_b2i Try.underlying5 Try.underlying3 rfl) (kv (rv_mul rfl rfl) (km rfl (kv (rv_nilCheck rfl) (kv (rv_fieldAddr ff58_0 rfl) (kh (rq_loadm1 tf22 rfl m0 rfl) (km rfl (kv (rv_mul rfl rfl) (kv (rv_add rfl rfl) ?_)))))))))
 refine km rfl (kv (rv_nilCheck rfl) (kv (rv_fieldAddr ff58_0 rfl) (kh (rq_loadm1 tf22 rfl m0 rfl) (kv (rv_len (t := tU8) Try.underlying22 rfl (b.mono i)) ?_))))
 obtain ⟨aM, ag, ah⟩ := ob aa
 refine kv (rv_rem rfl rfl ag) ?_
 obtain ⟨ai, aj, ak⟩ := ob ah
 refine ki Try.underlying22 tf5 (b.mono i) aj fun al am aN an ao => ?_
 obtain rfl := an
 have ap : AtK _ al am [iv8 ai] := ao
 refine kh (rq_load1 tf5 rfl (ap 0 _ rfl)) (kv (rv_b2i Try.underlying5 Try.underlying3 rfl) (kv (rv_mul rfl rfl) (kv (rv_add rfl rfl) (km rfl (kv (rv_mul rfl rfl) (kv (rv_add rfl rfl) (km rfl (km rfl (kv (rv_nilCheck rfl) ?_)))))))))
 refine kv (rv_fieldAddr ff58_0 rfl) (kh (rq_loadm1 tf22 rfl m0 rfl) (kv (rv_len (t := tU8) Try.underlying22 rfl (b.mono i)) ?_))
 obtain ⟨aO, aq, ar⟩ := ob ak
 refine kv (rv_quo rfl rfl aq) (kv (rv_mul rfl rfl) (kv (rv_add rfl rfl) ?_))
 obtain ⟨aP, au, aw⟩ := ob ar
 have ax := oi au
 refine kv (rv_as rfl (congrArg (Value.int .i64) ax)) (wq_nil ?_)
 rintro aQ ⟨ay, az, aA⟩
 refine qr (mv rfl (mv rfl ?_))
 obtain ⟨aR, aB, aC⟩ := ob aw
 refine lv (rv_quo rfl rfl aB) (lv (rv_xor rfl rfl) (av rfl (nr (mv rfl (mv rfl ?_)))))
 obtain ⟨aS, A, aD⟩ := ob aC
 refine lv (rv_rem rfl rfl A) (av rfl (nq (wc_ret ?_)))
 obtain rfl := oi aD
 exact er Try.results13 ⟨rfl, trivial⟩ ⟨c, d, f, ay, rfl, az, (rng_rem (w64_rng _) A), (b.mono (i.trans aA)), (w64_rng _)⟩

theorem ok_spec_l30Rd_of (F : Nat) {w : World} {K : KMap} {g1 : Nat} {a : Option Addr} {b c : Nat} {f : Option Addr} {i k : Nat} {p0_r : GL30Rd} {p1_list : List Str} {r : Str × GL30Rd} (hS : SH w K (List.flatMap Item.gs [obj g1 [.slice a b c, .int .i64 p0_r.p_] 58]) w K [obj g1 [.slice a b c, .int .i64 p0_r.p_] 58]) (o : SliceAt tU8 K a b c p0_r.b_) (q : rng64 p0_r.p_) (d : SliceAt tStr K f i k p1_list) (hm : M.spec_l30Rd_of F p0_r p1_list = some r) :
  Calls Try.prog 15 #[.pointer (some ⟨g1, 0, none⟩), .slice f i k] w fun e w' => ∃ (a_2 : Option Addr) (n_3 c_4 : Nat) (K' : KMap), e = .returned (sv r.1) ∧ SH w K (List.flatMap Item.gs [obj g1 [.slice a b c, .int .i64 p0_r.p_] 58]) w' K' [obj g1 [.slice a_2 n_3 c_4, .int .i64 r.2.p_] 58] ∧ r.1.length ≤ maxLen ∧ SliceAt tU8 K' a_2 n_3 c_4 r.2.b_ ∧ rng64 r.2.p_ := by
 rw [M.spec_l30Rd_of] at hm
 refine calls_in Try.func15 rfl Try.ntmps15 rfl (sr (lv (rv_assign (v := sv []) rfl) (nr (mv rfl (mv rfl (mv rfl (lv (rv_len (t := tStr) Try.underlying46 rfl d) ?_)))))))
 obtain ⟨W, s, x⟩ := ob hm
 refine lc (vs := [pt g1, .int .i64 (p1_list.length : Int)]) co13 ((ok_spec_l30Rd_pick F) hS.e1 o q (rng_nat (SliceAt.max d)) s) ?_
 rintro X Y ⟨y, A, B, C, rfl, l, Z, D, G⟩
 refine ⟨_, rfl, ?_⟩
 have m := (hS.c1 l).t1
 obtain ⟨H, I, J⟩ := ob x
 refine li Try.underlying46 tf9 (d.mono l.le) I fun O R aa S T => ?_
 obtain ⟨rfl, U⟩ := S
 have V : AtK _ O R [sv H] := T
 refine lv (rv_load1 tf9 rfl m (V 0 _ rfl)) (av rfl (nq (wc_ret ?_)))
 obtain rfl := oi J
 exact er Try.results15 ⟨rfl, trivial⟩ ⟨y, A, B, C, rfl, m, U, D, G⟩

theorem ok_spec_l30Raw (F : Nat) {w : World} {K : KMap} {g1 : Nat} {a : Option Addr} {b c : Nat} {p0_r : GL30Rd} {r : Str × GL30Rd} (hS : SH w K (List.flatMap Item.gs [obj g1 [.slice a b c, .int .i64 p0_r.p_] 58]) w K [obj g1 [.slice a b c, .int .i64 p0_r.p_] 58]) (f : SliceAt tU8 K a b c p0_r.b_) (i : rng64 p0_r.p_) (hm : M.spec_l30Raw F p0_r = some r) :
  Calls Try.prog 67 #[.pointer (some ⟨g1, 0, none⟩)] w fun e w' => ∃ (a_2 : Option Addr) (n_3 c_4 : Nat) (K' : KMap), e = .returned (sv r.1) ∧ SH w K (List.flatMap Item.gs [obj g1 [.slice a b c, .int .i64 p0_r.p_] 58]) w' K' [obj g1 [.slice a_2 n_3 c_4, .int .i64 r.2.p_] 58] ∧ r.1.length ≤ maxLen ∧ SliceAt tU8 K' a_2 n_3 c_4 r.2.b_ ∧ rng64 r.2.p_ := by
 rw [M.spec_l30Raw] at hm
 refine calls_in Try.func67 rfl Try.ntmps67 rfl (sr (lv (rv_assign (v := sv []) rfl) (nr (mv rfl ?_))))
 refine wl_buildSlice (t := tStr) (n := 16) (pv := [(0, sv [99, 97, 116]), (1, sv [67, 97, 116, 115]), (2, sv [100, 111, 103]), (3, sv [100, 111, 103, 115]), (4, sv [114, 117, 110]), (5, sv [82, 85, 78, 78, 73, 78, 71]), (6, sv [116, 104, 101]), (7, sv [114, 101, 100]), (8, sv [98, 105, 103]), (9, sv [110, 101, 119, 32, 121, 111, 114, 107]), (10, sv [78, 101, 119, 32, 32, 89, 111, 114, 107]), (11, sv [110, 121]), (12, sv [102, 111, 120]), (13, sv [112, 97, 115, 115, 101, 100]), (14, sv [120, 49]), (15, sv [97, 118, 101, 114, 121, 118, 101, 114, 121, 108, 111, 110, 103, 119, 111, 114, 100])]) (cs := [sv [99, 97, 116], sv [67, 97, 116, 115], sv [100, 111, 103], sv [100, 111, 103, 115], sv [114, 117, 110], sv [82, 85, 78, 78, 73, 78, 71], sv [116, 104, 101], sv [114, 101, 100], sv [98, 105, 103], sv [110, 101, 119, 32, 121, 111, 114, 107], sv [78, 101, 119, 32, 32, 89, 111, 114, 107], sv [110, 121], sv [102, 111, 120], sv [112, 97, 115, 115, 101, 100], sv [120, 49], sv [97, 118, 101, 114, 121, 118, 101, 114, 121, 108, 111, 110, 103, 119, 111, 114, 100]]) (xs := [([99, 97, 116] : Str), ([67, 97, 116, 115] : Str), ([100, 111, 103] : Str), ([100, 111, 103, 115] : Str), ([114, 117, 110] : Str), ([82, 85, 78, 78, 73, 78, 71] : Str), ([116, 104, 101] : Str), ([114, 101, 100] : Str), ([98, 105, 103] : Str), ([110, 101, 119, 32, 121, 111, 114, 107] : Str), ([78, 101, 119, 32, 32, 89, 111, 114, 107] : Str), ([110, 121] : Str), ([102, 111, 120] : Str), ([112, 97, 115, 115, 101, 100] : Str), ([120, 49] : Str), ([97, 118, 101, 114, 121, 118, 101, 114, 121, 108, 111, 110, 103, 119, 111, 114, 100] : Str)]) wn rfl Try.underlying46 tf9 rfl rfl rfl (by kernel_rfl) rfl rfl (lit_cons (u := sv [99, 97, 116]) (z := ([99, 97, 116] : Str)) ⟨rfl, (by decide : ([99, 97, 116] : Str).length ≤ maxLen)⟩ (lit_cons (u := sv [67, 97, 116, 115]) (z := ([67, 97, 116, 115] : Str)) ⟨rfl, (by decide : ([67, 97, 116, 115] : Str).length ≤ maxLen)⟩ (lit_cons (u := sv [100, 111, 103]) (z := ([100, 111, 103] : Str)) ⟨rfl, (by decide : ([100, 111, 103] : Str).length ≤ maxLen)⟩ (lit_cons (u := sv [100, 111, 103, 115]) (z := ([100, 111, 103, 115] : Str)) ⟨rfl, (by decide : ([100, 111, 103, 115] : Str).length ≤ maxLen)⟩ (lit_cons (u := sv [114, 117, 110]) (z := ([114, 117, 110] : Str)) ⟨rfl, (by decide : ([114, 117, 110] : Str).length ≤ maxLen)⟩ (lit_cons (u := sv [82, 85, 78, 78, 73, 78, 71]) (z := ([82, 85, 78, 78, 73, 78, 71] : Str)) ⟨rfl, (by decide : ([82, 85, 78, 78, 73, 78, 71] : Str).length ≤ maxLen)⟩ (lit_cons (u := sv [116, 104, 101]) (z := ([116, 104, 101] : Str)) ⟨rfl, (by decide : ([116, 104, 101] : Str).length ≤ maxLen)⟩ (lit_cons (u := sv [114, 101, 100]) (z := ([114, 101, 100] : Str)) ⟨rfl, (by decide : ([114, 101, 100] : Str).length ≤ maxLen)⟩ (lit_cons (u := sv [98, 105, 103]) (z := ([98, 105, 103] : Str)) ⟨rfl, (by decide : ([98, 105, 103] : Str).length ≤ maxLen)⟩ (lit_cons (u := sv [110, 101, 119, 32, 121, 111, 114, 107]) (z := ([110, 101, 119, 32, 121, 111, 114, 107] : Str)) ⟨rfl, (by decide : ([110, 101, 119, 32, 121, 111, 114, 107] : Str).length ≤ maxLen)⟩ (lit_cons (u := sv [78, 101, 119, 32, 32, 89, 111, 114, 107]) (z := ([78, 101, 119, 32, 32, 89, 111, 114, 107] : Str)) ⟨rfl, (by decide : ([78, 101, 119, 32, 32, 89, 111, 114, 107] : Str).length ≤ maxLen)⟩ (lit_cons (u := sv [110, 121]) (z := ([110, 121] : Str)) ⟨rfl, (by decide : ([110, 121] : Str).length ≤ maxLen)⟩ (lit_cons (u := sv [102, 111, 120]) (z := ([102, 111, 120] : Str)) ⟨rfl, (by decide : ([102, 111, 120] : Str).length ≤ maxLen)⟩ (lit_cons (u := sv [112, 97, 115, 115, 101, 100]) (z := ([112, 97, 115, 115, 101, 100] : Str)) ⟨rfl, (by decide : ([112, 97, 115, 115, 101, 100] : Str).length ≤ maxLen)⟩ (lit_cons (u := sv [120, 49]) (z := ([120, 49] : Str)) ⟨rfl, (by decide : ([120, 49] : Str).length ≤ maxLen)⟩ (lit_cons (u := sv [97, 118, 101, 114, 121, 118, 101, 114, 121, 108, 111, 110, 103, 119, 111, 114, 100]) (z := ([97, 118, 101, 114, 121, 118, 101, 114, 121, 108, 111, 110, 103, 119, 111, 114, 100] : Str)) ⟨rfl, (by decide : ([97, 118, 101, 114, 121, 118, 101, 114, 121, 108, 111, 110, 103, 119, 111, 114, 100] : Str).length ≤ maxLen)⟩ lit_nil)))))))))))))))) hS ?_
 intro k O R l m o
 obtain ⟨S, q, s⟩ := ob hm
 have d := o.f1
 refine lc (vs := [pt g1, .slice k 16 16]) co15 ((ok_spec_l30Rd_of F) d.e1 (f.mono l) i m q) ?_
 rintro T U ⟨x, y, A, B, rfl, C, D, G, H⟩
 refine ⟨_, rfl, ?_⟩
 have I := (d.c1 C).t2
 refine av rfl (nq (wc_ret ?_))
 obtain rfl := oi s
 have J := I.sb (sk (sd sz))
 exact er Try.results67 ⟨rfl, trivial⟩ ⟨x, y, A, B, rfl, J, D, G, H⟩

theorem ok_spec_l30Text (F : Nat) {w : World} {K : KMap} {g1 : Nat} {b : Option Addr} {c d : Nat} {p0_r : GL30Rd} {r : Str × GL30Rd} (hS : SH w K (List.flatMap Item.gs [obj g1 [.slice b c d, .int .i64 p0_r.p_] 58]) w K [obj g1 [.slice b c d, .int .i64 p0_r.p_] 58]) (S : SliceAt tU8 K b c d p0_r.b_) (T : rng64 p0_r.p_) (hm : M.spec_l30Text F p0_r = some r) :
  Calls Try.prog 60 #[.pointer (some ⟨g1, 0, none⟩)] w fun e w' => ∃ (a_2 : Option Addr) (n_3 c_4 : Nat) (K' : KMap), e = .returned (sv r.1) ∧ SH w K (List.flatMap Item.gs [obj g1 [.slice b c d, .int .i64 p0_r.p_] 58]) w' K' [obj g1 [.slice a_2 n_3 c_4, .int .i64 r.2.p_] 58] ∧ r.1.length ≤ maxLen ∧ SliceAt tU8 K' a_2 n_3 c_4 r.2.b_ ∧ rng64 r.2.p_ := by
 rw [M.spec_l30Text] at hm
 refine calls_in Try.func60 rfl Try.ntmps60 rfl (sr (lv (rv_assign (v := sv []) rfl) (nr (lv (rv_assign (v := sv []) rfl) (nsr (mv rfl ?_))))))
 obtain ⟨r7, U, V⟩ := ob hm
 refine lc (vs := [pt g1, .int .i64 9]) co13 ((ok_spec_l30Rd_pick F) hS.e1 S T (by decide : rng64 9) U) ?_
 rintro aQ aR ⟨W, X, Y, y, rfl, Z, aa, ab, ac⟩
 refine ⟨_, rfl, ?_⟩
 have ad := (hS.c1 Z).t1
 refine av rfl (nq ?_)
 obtain ⟨f, ae, af⟩ := ob V
 refine wc_cutg (fun E' w' => ∃ l m o i, E' = [(0, pt g1), (3, sv f.1)] ∧ SH w K (List.flatMap Item.gs [obj g1 [.slice b c d, .int .i64 p0_r.p_] 58]) w' i [obj g1 [.slice l m o, .int .i64 f.2.p_] 58] ∧ KLe y i ∧ f.1.length ≤ maxLen ∧ SliceAt tU8 i l m o f.2.b_ ∧ rng64 f.2.p_) ?_ ?_
 ·refine wc_block ?_
  obtain ⟨aS, ag, ah⟩ := ob ae
  refine qw (fun (a : Str × Int × GL30Rd) E' w' => ∃ q s x k, E' = [(0, pt g1), (3, sv a.1), (4, .int .i64 a.2.1)] ∧ SH w K (List.flatMap Item.gs [obj g1 [.slice b c d, .int .i64 p0_r.p_] 58]) w' k [obj g1 [.slice q s x, .int .i64 a.2.2.p_] 58] ∧ KLe y k ∧ a.1.length ≤ maxLen ∧ rng64 a.2.1 ∧ SliceAt tU8 k q s x a.2.2.b_ ∧ rng64 a.2.2.p_) ag ⟨W, X, Y, y, rfl, ad, (KLe.refl _), (by decide : ([] : Str).length ≤ maxLen), aa, ab, ac⟩ ?_
  rintro a _ aT aU ai aj ⟨q, s, x, k, rfl, A, C, ak, aV, D, G⟩
  refine wc_seq (sr (mv rfl (lv (rv_gtr rfl rfl) (nq (wcc ai rfl (fun al B => ?_) (fun al B => ?_))))))
  ·refine wc_skip (qs (wc_block (wc_region (mv rfl (mv rfl ?_)))))
   obtain ⟨aW, am, an⟩ := ob B
   refine lc (vs := [pt g1]) co67 ((ok_spec_l30Raw F) A.e1 D G am) ?_
   rintro aX aY ⟨aZ, a0, a1, a3, rfl, H, a4, ao, ap⟩
   refine ⟨_, rfl, ?_⟩
   have aq := (A.c1 H).t1
   obtain ⟨a5, ar, au⟩ := ob an
   refine lv (rv_sadd rfl rfl ar) (mv rfl (wl_buildSlice (t := tStr) (n := 5) (pv := [(0, sv [32]), (1, sv [32]), (2, sv [44, 32]), (3, sv [45]), (4, sv [46, 32])]) (cs := [sv [32], sv [32], sv [44, 32], sv [45], sv [46, 32]]) (xs := [([32] : Str), ([32] : Str), ([44, 32] : Str), ([45] : Str), ([46, 32] : Str)]) wn rfl Try.underlying46 tf9 rfl rfl rfl (by kernel_rfl) rfl rfl (lit_cons (u := sv [32]) (z := ([32] : Str)) ⟨rfl, (by decide : ([32] : Str).length ≤ maxLen)⟩ (lit_cons (u := sv [32]) (z := ([32] : Str)) ⟨rfl, (by decide : ([32] : Str).length ≤ maxLen)⟩ (lit_cons (u := sv [44, 32]) (z := ([44, 32] : Str)) ⟨rfl, (by decide : ([44, 32] : Str).length ≤ maxLen)⟩ (lit_cons (u := sv [45]) (z := ([45] : Str)) ⟨rfl, (by decide : ([45] : Str).length ≤ maxLen)⟩ (lit_cons (u := sv [46, 32]) (z := ([46, 32] : Str)) ⟨rfl, (by decide : ([46, 32] : Str).length ≤ maxLen)⟩ lit_nil))))) aq fun aw a6 a7 I ax ay => ?_))
   obtain ⟨a8, az, aA⟩ := ob au
   have J := ay.f1
   refine lc (vs := [pt g1, .slice aw 5 5]) co15 ((ok_spec_l30Rd_of F) J.e1 (ao.mono I) ap ax az) ?_
   rintro a9 ba ⟨aB, aC, aD, aE, rfl, O, bb, aF, aG⟩
   refine ⟨_, rfl, ?_⟩
   have aH := (J.c1 O).t2
   obtain ⟨bc, R, aI⟩ := ob aA
   refine lv (rv_sadd rfl rfl R) (av rfl (nb (qe_seq (wc_region (mv rfl (lv (rv_sub rfl rfl) (av rfl (wl_nil ?_))))))))
   obtain rfl := oi aI
   have aJ := aH.sb (sk (sd sz))
   exact qd ⟨_, rfl, aB, aC, aD, aE, rfl, aJ, (((C.trans H.le).trans I).trans O.le), (len_cat R), (w64_rng _), aF, aG⟩
  refine wc_exit (qe_then_exit (qe_then_exit ?_))
  obtain rfl := oi B
  have aK := aj _ rfl
  subst aK
  refine qe_block_eq ?_
  obtain rfl := oi ah
  exact qd ⟨q, s, x, k, rfl, A, C, ak, D, G⟩
 rintro _ bd ⟨l, m, o, i, rfl, aL, be, aM, aN, aO⟩
 refine qr (mv rfl (av rfl (nq (wc_ret ?_))))
 obtain rfl := oi af
 exact er Try.results60 ⟨rfl, trivial⟩ ⟨l, m, o, i, rfl, aL, aM, aN, aO⟩

set_option maxHeartbeats 2000000 in
theorem ok_spec_l30Doc (F : Nat) {w : World} {K : KMap} {g1 : Nat} {G : Option Addr} {H I : Nat} {p0_r : GL30Rd} {p1_id : Int} {r : GDoc × GL30Rd} (hS : SH w K (List.flatMap Item.gs [obj g1 [.slice G H I, .int .i64 p0_r.p_] 58]) w K [obj g1 [.slice G H I, .int .i64 p0_r.p_] 58]) (bL : SliceAt tU8 K G H I p0_r.b_) (bM : rng64 p0_r.p_) (bf : rng64 p1_id) (hm : M.spec_l30Doc F p0_r p1_id = some r) :
  Calls Try.prog 43 #[.pointer (some ⟨g1, 0, none⟩), .int .i64 p1_id] w fun e w' => ∃ (a_2 : Option Addr) (n_3 c_4 : Nat) (a_6 : Option Addr) (n_7 c_8 : Nat) (a_10 : Option Addr) (n_11 c_12 : Nat) (K' : KMap), e = .returned (.agg #[.int .i64 r.1.Id, .slice a_2 n_3 c_4, .slice a_6 n_7 c_8]) ∧ SH w K (List.flatMap Item.gs [obj g1 [.slice G H I, .int .i64 p0_r.p_] 58]) w' K' [tail (.slice a_2 n_3 c_4) 69 2, tail (.slice a_6 n_7 c_8) 72 2, obj g1 [.slice a_10 n_11 c_12, .int .i64 r.2.p_] 58] ∧ rng64 r.1.Id ∧ SliceAt tGField K' a_2 n_3 c_4 r.1.Fields ∧ SliceAt tGAttr K' a_6 n_7 c_8 r.1.Nums ∧ SliceAt tU8 K' a_10 n_11 c_12 r.2.b_ ∧ rng64 r.2.p_ := by
 rw [M.spec_l30Doc] at hm
 refine calls_in Try.func43 rfl Try.ntmps43 rfl (sr (al tf44 hS fun J w9 bN => ?_))
 have bO : SH _ _ _ _ _ [obj J [.int .i64 0, .slice none 0 0, .slice none 0 0] 44, _] := bN
 refine nr (mv rfl (lv (rv_build (cs := #[.int .i64 p1_id, .slice none 0 0, .slice none 0 0]) sp44 tf44 rfl (by kernel_rfl)) (al tf44 bO fun i dx bP => ?_)))
 have bQ : SH _ _ _ _ _ [obj i [.int .i64 0, .slice none 0 0, .slice none 0 0] 44, _, _] := bP
 refine ls [.int .i64 p1_id, .slice none 0 0, .slice none 0 0] (.agg #[.int .i64 p1_id, .slice none 0 0, .slice none 0 0]) tf44 bQ fun dy bR => (nsr (mv rfl ?_))
 obtain ⟨dz, bS, bT⟩ := ob hm
 have bg := bR.f2
 refine lc (vs := [pt g1, .int .i64 6]) co13 ((ok_spec_l30Rd_pick F) bg.e1 bL bM (by decide : rng64 6) bS) ?_
 rintro dA dB ⟨bU, bV, bW, aB, rfl, bX, dC, bh, bi⟩
 refine ⟨_, rfl, ?_⟩
 have bj := (bg.c1 bX).t3
 refine lv (rv_gtr rfl rfl) (nq ?_)
 obtain ⟨o, bY, bZ⟩ := ob bT
 refine wc_cutg (fun E' w' => ∃ aC aD aE W X Y s v x Z, E' = [(0, pt g1), (4, pt J), (5, pt i)] ∧ SH w K (List.flatMap Item.gs [obj g1 [.slice G H I, .int .i64 p0_r.p_] 58]) w' Z [obj g1 [.slice aC aD aE, .int .i64 o.1.p_] 58, obj J [.int .i64 0, .slice none 0 0, .slice none 0 0] 44, obj i [.int .i64 o.2.Id, .slice W X Y, .slice s v x] 44, tail (.slice W X Y) 69 2, tail (.slice s v x) 72 2] ∧ KLe aB Z ∧ SliceAt tU8 Z aC aD aE o.1.b_ ∧ rng64 o.1.p_ ∧ rng64 o.2.Id ∧ SliceAt tGField Z W X Y o.2.Fields ∧ SliceAt tGAttr Z s v x o.2.Nums) ?_ ?_
 ·refine wcc bY rfl (fun b0 aF => ?_) (fun b0 aF => ?_)
  ·have ao := bj.drew
   refine wh1 (fun w' => Holds aB w') (fun w' => HasObj i [.int .i64 p1_id, .slice none 0 0, .slice none 0 0] w') 8 [(1, 6), (1, 7), (1, 8), (6, 7), (6, 8), (7, 8)] mixed (ao.hasK (KLe.refl _)) (fun _ => ao.hasObj (.tail _ (.head _))) (gt (rv_fieldAddr ff44_1 rfl) (gf (fun _ h => rh_loadm1 tf41 rfl rfl h) (gt (rv_move rfl) (gn ?_))))
   obtain ⟨ap, b1, b2⟩ := ob aF
   refine lc (vs := [pt g1]) co60 ((ok_spec_l30Text F) ao.e1 bh bi b1) ?_
   rintro dD dE ⟨b3, b4, b5, dF, rfl, aa, b6, b7, b8⟩
   refine ⟨_, rfl, ?_⟩
   have aG := (ao.c1 aa).t3
   refine wl_nil (qh (aG.hasK aa.le) (fun _ => aG.hasObj (.tail _ (.head _))) (gt (rv_build (cs := #[sv [98, 111, 100, 121], sv ap.1]) sp69 tf69 rfl (by kernel_rfl)) (gn (lb tGField (.agg #[sv [98, 111, 100, 121], sv ap.1]) [sv [98, 111, 100, 121], sv ap.1] (GField.mk ([98, 111, 100, 121] : Str) ap.1) Try.underlying41 tf69 ⟨rfl, (by decide : ([98, 111, 100, 121] : Str).length ≤ maxLen), b6⟩ aG fun dG dH dI ah b9 aH => (wl_nil (qh (aH.hasK (aa.le.trans ah)) (fun _ => aH.hasObj (.tail _ (.tail _ (.head _)))) (gn ?_)))))))
   have ca := aH.nil 69 2
   obtain ⟨dJ, cb, cc⟩ := ob b2
   refine lp Try.underlying41 tf69 (SliceAt.nil _ _) b9 cb ca fun aI aJ aK dK cd aq ce aL => (wl_nil (qh (aL.hasK ((aa.le.trans ah).trans aq)) (fun _ => aL.hasObj (.tail _ (.tail _ (.tail _ (.head _))))) (gt (rv_fieldAddr ff44_1 rfl) (gn (ls [.int .i64 p1_id, .slice aI aJ aK, .slice none 0 0] (.slice aI aJ aK) tf41 aL.f3 fun dL bk => (wl_nil (qh (bk.hasK ((aa.le.trans ah).trans aq)) (fun h => nomatch h) (gd' ?_))))))))
   obtain rfl := oi cc
   have cf := bk.nil 72 2
   have cg := cf.f2.f2.f5.f5.sb (sk (sk (sk (sk (sk (sd sz))))))
   exact qd ⟨b3, b4, b5, aI, aJ, aK, none, 0, 0, cd, rfl, cg, ((aa.le.trans ah).trans aq), (b7.mono (ah.trans aq)), b8, bf, ce, (SliceAt.nil _ _)⟩
  refine wc_skip ?_
  obtain rfl := oi aF
  have ch := bj.nil 69 2
  have ci := ch.nil 72 2
  exact qd ⟨bU, bV, bW, none, 0, 0, none, 0, 0, aB, rfl, ci.f1.f3.f4.f4, (KLe.refl _), bh, bi, bf, (SliceAt.nil _ _), (SliceAt.nil _ _)⟩
 rintro _ dM ⟨aC, aD, aE, W, X, Y, s, v, x, Z, rfl, bl, dN, cj, ck, bm, bn, bo⟩
 refine qs (sr (mv rfl ?_))
 obtain ⟨dO, cl, cm⟩ := ob bZ
 refine lc (vs := [pt g1, .int .i64 3]) co13 ((ok_spec_l30Rd_pick F) bl.e1 cj ck (by decide : rng64 3) cl) ?_
 rintro dP dQ ⟨cn, cp, cq, aM, rfl, ai, dR, bp, bq⟩
 refine ⟨_, rfl, ?_⟩
 have br := (bl.c1 ai).t5
 refine lv (rv_eql rfl rfl) (nq ?_)
 obtain ⟨q, cr, ct⟩ := ob cm
 refine wc_cutg (fun E' w' => ∃ aN aO aP y A B ab ac ad ae, E' = [(0, pt g1), (4, pt J), (5, pt i)] ∧ SH w K (List.flatMap Item.gs [obj g1 [.slice G H I, .int .i64 p0_r.p_] 58]) w' ae [obj g1 [.slice aN aO aP, .int .i64 q.1.p_] 58, obj J [.int .i64 0, .slice none 0 0, .slice none 0 0] 44, obj i [.int .i64 q.2.Id, .slice y A B, .slice ab ac ad] 44, tail (.slice y A B) 69 2, tail (.slice ab ac ad) 72 2] ∧ KLe aM ae ∧ SliceAt tU8 ae aN aO aP q.1.b_ ∧ rng64 q.1.p_ ∧ rng64 q.2.Id ∧ SliceAt tGField ae y A B q.2.Fields ∧ SliceAt tGAttr ae ab ac ad q.2.Nums) ?_ ?_
 ·refine wcc cr rfl (fun cu aQ => ?_) (fun cu aQ => ?_)
  ·have ar := br.drew
   refine wh1 (fun w' => Holds aM w') (fun w' => HasObj i [.int .i64 o.2.Id, .slice W X Y, .slice s v x] w') 8 [(1, 6), (1, 7), (1, 8), (6, 7), (6, 8), (7, 8)] mixed (ar.hasK (KLe.refl _)) (fun _ => ar.hasObj (.tail _ (.tail _ (.head _)))) (gt (rv_fieldAddr ff44_1 rfl) (gf (fun _ h => rh_loadm1 tf41 rfl rfl h) (gt (rv_move rfl) (gn ?_))))
   obtain ⟨au, cv, cw⟩ := ob aQ
   refine lc (vs := [pt g1]) co60 ((ok_spec_l30Text F) ar.e1 bp bq cv) ?_
   rintro dS dT ⟨cx, cy, cz, dU, rfl, C, cA, cB, cC⟩
   refine ⟨_, rfl, ?_⟩
   have aR := (ar.c1 C).t5
   refine wl_nil (qh (aR.hasK C.le) (fun _ => aR.hasObj (.tail _ (.tail _ (.head _)))) (gt (rv_build (cs := #[sv [116, 105, 116, 108, 101], sv au.1]) sp69 tf69 rfl (by kernel_rfl)) (gn (lb tGField (.agg #[sv [116, 105, 116, 108, 101], sv au.1]) [sv [116, 105, 116, 108, 101], sv au.1] (GField.mk ([116, 105, 116, 108, 101] : Str) au.1) Try.underlying41 tf69 ⟨rfl, (by decide : ([116, 105, 116, 108, 101] : Str).length ≤ maxLen), cA⟩ aR fun dV dW dX O cD aS => (wl_nil (qh (aS.hasK (C.le.trans O)) (fun _ => aS.hasObj (.tail _ (.tail _ (.tail _ (.head _))))) (gn ?_)))))))
   obtain ⟨dY, cE, cF⟩ := ob cw
   refine lp Try.underlying41 tf69 (bn.mono ((ai.le.trans C.le).trans O)) cD cE aS.f4 fun aT aU aV dZ cG aj cH aW => (wl_nil (qh (aW.hasK ((C.le.trans O).trans aj)) (fun _ => aW.hasObj (.tail _ (.tail _ (.tail _ (.tail _ (.head _)))))) (gt (rv_fieldAddr ff44_1 rfl) (gn (ls [.int .i64 o.2.Id, .slice aT aU aV, .slice s v x] (.slice aT aU aV) tf41 aW.f4 fun d0 bs => (wl_nil (qh (bs.hasK ((C.le.trans O).trans aj)) (fun h => nomatch h) (gd' ?_))))))))
   obtain rfl := oi cF
   have cI := bs.f5.f2.f2.f5.f5.sb (sk (sk (sk (sk (sk (sd sz))))))
   exact qd ⟨cx, cy, cz, aT, aU, aV, s, v, x, cG, rfl, cI, ((C.le.trans O).trans aj), (cB.mono (O.trans aj)), cC, bm, cH, (SliceAt.mono (((ai.le.trans C.le).trans O).trans aj) bo)⟩
  refine wc_skip ?_
  obtain rfl := oi aQ
  exact qd ⟨cn, cp, cq, W, X, Y, s, v, x, aM, rfl, br, (KLe.refl _), bp, bq, bm, (bn.mono ai.le), (bo.mono ai.le)⟩
 rintro _ d1 ⟨aN, aO, aP, y, A, B, ab, ac, ad, ae, rfl, bt, d2, cJ, cK, bu, bv, bw⟩
 refine qs (sr (mv rfl ?_))
 obtain ⟨d3, cL, cM⟩ := ob ct
 refine lc (vs := [pt g1, .int .i64 3]) co13 ((ok_spec_l30Rd_pick F) bt.e1 cJ cK (by decide : rng64 3) cL) ?_
 rintro d4 d5 ⟨cN, cO, cP, aX, rfl, ak, d6, bx, bz⟩
 refine ⟨_, rfl, ?_⟩
 have bA := (bt.c1 ak).t5
 refine lv (rv_gtr rfl rfl) (nq ?_)
 obtain ⟨a, cQ, cR⟩ := ob cM
 refine wc_cutg (fun E' w' => ∃ aY aZ a0 b d f k l m af, E' = [(0, pt g1), (4, pt J), (5, pt i)] ∧ SH w K (List.flatMap Item.gs [obj g1 [.slice G H I, .int .i64 p0_r.p_] 58]) w' af [obj g1 [.slice aY aZ a0, .int .i64 a.1.p_] 58, obj J [.int .i64 0, .slice none 0 0, .slice none 0 0] 44, obj i [.int .i64 a.2.Id, .slice b d f, .slice k l m] 44, tail (.slice b d f) 69 2, tail (.slice k l m) 72 2] ∧ KLe aX af ∧ SliceAt tU8 af aY aZ a0 a.1.b_ ∧ rng64 a.1.p_ ∧ rng64 a.2.Id ∧ SliceAt tGField af b d f a.2.Fields ∧ SliceAt tGAttr af k l m a.2.Nums) ?_ ?_
 ·refine wcc cQ rfl (fun cS a1 => ?_) (fun cS a1 => ?_)
  ·have aw := bA.drew
   refine wh1 (fun w' => Holds aX w') (fun w' => HasObj i [.int .i64 q.2.Id, .slice y A B, .slice ab ac ad] w') 8 [(1, 6), (1, 7), (1, 8), (6, 7), (6, 8), (7, 8)] mixed (aw.hasK (KLe.refl _)) (fun _ => aw.hasObj (.tail _ (.tail _ (.head _)))) (gt (rv_fieldAddr ff44_2 rfl) (gf (fun _ h => rh_loadm1 tf42 rfl rfl h) (gt (rv_move rfl) (gn ?_))))
   obtain ⟨ax, cT, cU⟩ := ob a1
   refine lc (vs := [pt g1, .int .i64 4]) co13 ((ok_spec_l30Rd_pick F) aw.e1 bx bz (by decide : rng64 4) cT) ?_
   rintro d7 d8 ⟨cV, cW, cX, d9, rfl, D, cY, cZ, c0⟩
   refine ⟨_, rfl, ?_⟩
   have a3 := (aw.c1 D).t5
   refine wl_nil (qh (a3.hasK D.le) (fun _ => a3.hasObj (.tail _ (.tail _ (.head _)))) (gt (rv_build (cs := #[sv [114, 97, 116, 101], .int .i64 ax.1]) sp72 tf72 rfl (by kernel_rfl)) (gn (lb tGAttr (.agg #[sv [114, 97, 116, 101], .int .i64 ax.1]) [sv [114, 97, 116, 101], .int .i64 ax.1] (GAttr.mk ([114, 97, 116, 101] : Str) ax.1) Try.underlying42 tf72 ⟨rfl, (by decide : ([114, 97, 116, 101] : Str).length ≤ maxLen), cY⟩ a3 fun ea eb ec R c1 a4 => (wl_nil (qh (a4.hasK (D.le.trans R)) (fun _ => a4.hasObj (.tail _ (.tail _ (.tail _ (.head _))))) (gn ?_)))))))
   obtain ⟨ed, c2, c3⟩ := ob cU
   refine lp Try.underlying42 tf72 (bw.mono ((ak.le.trans D.le).trans R)) c1 c2 a4.f5 fun a5 a6 a7 ee c5 am c6 a8 => (wl_nil (qh (a8.hasK ((D.le.trans R).trans am)) (fun _ => a8.hasObj (.tail _ (.tail _ (.tail _ (.tail _ (.head _)))))) (gt (rv_fieldAddr ff44_2 rfl) (gn (ls [.int .i64 q.2.Id, .slice y A B, .slice a5 a6 a7] (.slice a5 a6 a7) tf42 a8.f4 fun ef bB => (wl_nil (qh (bB.hasK ((D.le.trans R).trans am)) (fun h => nomatch h) (gd' ?_))))))))
   obtain rfl := oi c3
   have c7 := bB.f1.f5.f2.f5.f5.sb (sk (sk (sk (sk (sk (sd sz))))))
   exact qd ⟨cV, cW, cX, y, A, B, a5, a6, a7, c5, rfl, c7, ((D.le.trans R).trans am), (cZ.mono (R.trans am)), c0, bu, (SliceAt.mono (((ak.le.trans D.le).trans R).trans am) bv), c6⟩
  refine wc_skip ?_
  obtain rfl := oi a1
  exact qd ⟨cN, cO, cP, y, A, B, ab, ac, ad, aX, rfl, bA, (KLe.refl _), bx, bz, bu, (bv.mono ak.le), (bw.mono ak.le)⟩
 rintro _ eg ⟨aY, aZ, a0, b, d, f, k, l, m, af, rfl, bC, eh, c8, c9, bD, bE, bF⟩
 refine qs (sr (mv rfl ?_))
 obtain ⟨ei, da, db⟩ := ob cR
 refine lc (vs := [pt g1, .int .i64 3]) co13 ((ok_spec_l30Rd_pick F) bC.e1 c8 c9 (by decide : rng64 3) da) ?_
 rintro ej ek ⟨dc, dd, de, bG, rfl, an, el, bH, bI⟩
 refine ⟨_, rfl, ?_⟩
 have a9 := (bC.c1 an).t5
 refine lv (rv_eql rfl rfl) (nq (wcc db rfl (fun df ba => ?_) (fun df ba => ?_)))
 ·have ay := a9.drew
  refine wh1 (fun w' => Holds bG w') (fun w' => HasObj i [.int .i64 a.2.Id, .slice b d f, .slice k l m] w') 9 [(1, 7), (1, 8), (1, 9), (7, 8), (7, 9), (8, 9)] mixed (ay.hasK (KLe.refl _)) (fun _ => ay.hasObj (.tail _ (.tail _ (.head _)))) (gt (rv_fieldAddr ff44_2 rfl) (gf (fun _ h => rh_loadm1 tf42 rfl rfl h) (gt (rv_move rfl) (gn ?_))))
  obtain ⟨az, dg, dh⟩ := ob ba
  refine lc (vs := [pt g1, .int .i64 30]) co13 ((ok_spec_l30Rd_pick F) ay.e1 bH bI (by decide : rng64 30) dg) ?_
  rintro em en ⟨di, dj, dk, eo, rfl, S, ep, dl, dm⟩
  refine ⟨_, rfl, ?_⟩
  have bb := (ay.c1 S).t5
  refine wl_nil (qh (bb.hasK S.le) (fun _ => bb.hasObj (.tail _ (.tail _ (.head _)))) (gt (rv_add rfl rfl) (gt (rv_build (cs := #[sv [121, 101, 97, 114], .int .i64 (w64 ((2000 : Int) + az.1))]) sp72 tf72 rfl (by kernel_rfl)) (gn (lb tGAttr (.agg #[sv [121, 101, 97, 114], .int .i64 (w64 ((2000 : Int) + az.1))]) [sv [121, 101, 97, 114], .int .i64 (w64 ((2000 : Int) + az.1))] (GAttr.mk ([121, 101, 97, 114] : Str) (w64 ((2000 : Int) + az.1))) Try.underlying42 tf72 ⟨rfl, (by decide : ([121, 101, 97, 114] : Str).length ≤ maxLen), (w64_rng _)⟩ bb fun eq es et ag dn bc => (wl_nil (qh (bc.hasK (S.le.trans ag)) (fun _ => bc.hasObj (.tail _ (.tail _ (.tail _ (.head _))))) (gn ?_))))))))
  obtain ⟨eu, dp, dq⟩ := ob dh
  refine lp Try.underlying42 tf72 (bF.mono ((an.le.trans S.le).trans ag)) dn dp bc.f5 fun T U V ev dr aA dt bd => (wl_nil (qh (bd.hasK ((S.le.trans ag).trans aA)) (fun _ => bd.hasObj (.tail _ (.tail _ (.tail _ (.tail _ (.head _)))))) (gt (rv_fieldAddr ff44_2 rfl) (gn (ls [.int .i64 a.2.Id, .slice b d f, .slice T U V] (.slice T U V) tf42 bd.f4 fun ew be => (wl_nil (qh (be.hasK ((S.le.trans ag).trans aA)) (fun h => nomatch h) (gd' (qr (lv (rv_loadmS (ds := [.int .i64 a.2.Id, .slice b d f, .slice T U V]) tf44 rfl m0 be rfl rfl) (ls [.int .i64 a.2.Id, .slice b d f, .slice T U V] (.agg #[.int .i64 a.2.Id, .slice b d f, .slice T U V]) tf44 be.f4 fun ex bJ => ?_)))))))))))
  refine nq (wc_ret ?_)
  obtain rfl := oi dq
  have du := bJ.f4.f3.f5.sb (sk (sk (sk (sd (sd (sd sz))))))
  exact qe_ret (vs := [_]) Try.results43 ⟨⟨_, _, rfl, run_loadVar_at tf44 (cs := [.int .i64 a.2.Id, .slice b d f, .slice T U V]) (fun j c e => by rw [Nat.zero_add, bJ.mem_obj m0]; exact e) (.inl ⟨rfl, rfl, rfl⟩)⟩, trivial⟩ ⟨b, d, f, T, U, V, di, dj, dk, dr, rfl, du, bD, (SliceAt.mono (((an.le.trans S.le).trans ag).trans aA) bE), dt, (dl.mono (ag.trans aA)), dm⟩
 refine wc_skip (qr (lv (rv_loadmS (ds := [.int .i64 a.2.Id, .slice b d f, .slice k l m]) tf44 rfl m2 a9 rfl rfl) (ls [.int .i64 a.2.Id, .slice b d f, .slice k l m] (.agg #[.int .i64 a.2.Id, .slice b d f, .slice k l m]) tf44 a9.f1 fun ey bK => (nq (wc_ret ?_)))))
 obtain rfl := oi ba
 have dv := bK.f1.f4.f4.sb (sk (sk (sk (sd (sd sz)))))
 exact qe_ret (vs := [_]) Try.results43 ⟨⟨_, _, rfl, run_loadVar_at tf44 (cs := [.int .i64 a.2.Id, .slice b d f, .slice k l m]) (fun j c e => by rw [Nat.zero_add, bK.mem_obj m0]; exact e) (.inl ⟨rfl, rfl, rfl⟩)⟩, trivial⟩ ⟨b, d, f, k, l, m, dc, dd, de, bG, rfl, dv, bD, (bE.mono an.le), (bF.mono an.le), bH, bI⟩

theorem ok_spec_l30Docs (F : Nat) {w : World} {K : KMap} {g1 : Nat} {b : Option Addr} {c d : Nat} {p0_r : GL30Rd} {r : (List GDoc) × GL30Rd} (hS : SH w K (List.flatMap Item.gs [obj g1 [.slice b c d, .int .i64 p0_r.p_] 58]) w K [obj g1 [.slice b c d, .int .i64 p0_r.p_] 58]) (ai : SliceAt tU8 K b c d p0_r.b_) (aj : rng64 p0_r.p_) (hm : M.spec_l30Docs F p0_r = some r) :
  Calls Try.prog 28 #[.pointer (some ⟨g1, 0, none⟩)] w fun e w' => ∃ (a_1 : Option Addr) (n_2 c_3 : Nat) (a_5 : Option Addr) (n_6 c_7 : Nat) (K' : KMap), e = .returned (.slice a_1 n_2 c_3) ∧ SH w K (List.flatMap Item.gs [obj g1 [.slice b c d, .int .i64 p0_r.p_] 58]) w' K' [tail (.slice a_1 n_2 c_3) 44 3, obj g1 [.slice a_5 n_6 c_7, .int .i64 r.2.p_] 58] ∧ SliceAt tGDoc K' a_1 n_2 c_3 r.1 ∧ SliceAt tU8 K' a_5 n_6 c_7 r.2.b_ ∧ rng64 r.2.p_ := by
 rw [M.spec_l30Docs] at hm
 refine calls_in Try.func28 rfl Try.ntmps28 rfl (sr (lv (rv_assign (v := .slice none 0 0) rfl) (nr (b0 tGDoc Try.underlying23 tf44 hS fun a7 w8 K9 al am an => (av rfl (nr (lv (rv_assign (v := .int .i64 0) rfl) (nsr (mv rfl ?_)))))))))
 obtain ⟨bh, ao, ap⟩ := ob hm
 have aa := an.f1
 refine lc (vs := [pt g1, .int .i64 6]) co13 ((ok_spec_l30Rd_pick F) aa.e1 (ai.mono al) aj (by decide : rng64 6) ao) ?_
 rintro bi bj ⟨aq, ar, au, H, rfl, ab, aw, ax, ay⟩
 refine ⟨_, rfl, ?_⟩
 have az := (aa.c1 ab).t2
 refine av rfl (nq ?_)
 obtain ⟨x, aA, aB⟩ := ob ap
 refine wc_cutg (fun E' w' => ∃ k l m y A B f, E' = [(0, pt g1), (3, .slice k l m)] ∧ SH w K (List.flatMap Item.gs [obj g1 [.slice b c d, .int .i64 p0_r.p_] 58]) w' f [obj g1 [.slice y A B, .int .i64 x.2.p_] 58, tail (.slice k l m) 44 3] ∧ KLe H f ∧ SliceAt tGDoc f k l m x.1 ∧ SliceAt tU8 f y A B x.2.b_ ∧ rng64 x.2.p_) ?_ ?_
 ·refine wc_block ?_
  obtain ⟨bk, aC, aD⟩ := ob aA
  refine qw (fun (a : (List GDoc) × Int × Int × GL30Rd) E' w' => ∃ o q s C D G i, E' = [(0, pt g1), (3, .slice o q s), (4, .int .i64 a.2.1), (5, .int .i64 a.2.2.1)] ∧ SH w K (List.flatMap Item.gs [obj g1 [.slice b c d, .int .i64 p0_r.p_] 58]) w' i [obj g1 [.slice C D G, .int .i64 a.2.2.2.p_] 58, tail (.slice o q s) 44 3] ∧ KLe H i ∧ SliceAt tGDoc i o q s a.1 ∧ rng64 a.2.1 ∧ rng64 a.2.2.1 ∧ SliceAt tU8 i C D G a.2.2.2.b_ ∧ rng64 a.2.2.2.p_) aC ⟨a7, 0, 0, aq, ar, au, H, rfl, az, (KLe.refl _), (am.mono ab.le), (by decide : rng64 0), aw, ax, ay⟩ ?_
  rintro a _ bl bm aE aF ⟨o, q, s, C, D, G, i, rfl, I, ac, ad, bn, bo, ae, af⟩
  refine wc_seq (sr (mv rfl (lv (rv_gtr rfl rfl) (nq (wcc aE rfl (fun aG J => ?_) (fun aG J => ?_))))))
  ·refine wc_skip (qs (wc_block (sr (mv rfl (lv (rv_add rfl rfl) (mv rfl ?_))))))
   obtain ⟨aH, aI, aJ⟩ := ob J
   refine lc (vs := [pt g1, .int .i64 3]) co13 ((ok_spec_l30Rd_pick F) I.e1 ae af (by decide : rng64 3) aI) ?_
   rintro bp bq ⟨br, bs, bt, bu, rfl, O, bv, aK, aL⟩
   refine ⟨_, rfl, ?_⟩
   have ag := (I.c1 O).t2
   refine lv (rv_add rfl rfl) (av rfl (nq (wc_region (mv rfl (mv rfl (mv rfl ?_))))))
   obtain ⟨R, aM, aN⟩ := ob aJ
   refine lc (vs := [pt g1, .int .i64 (w64 ((w64 (a.2.1 + (1 : Int))) + aH.1))]) co43 ((ok_spec_l30Doc F) ag.e1 aK aL (w64_rng _) aM) ?_
   rintro bw bx ⟨S, T, U, V, W, X, aO, aP, aQ, bz, rfl, Y, aR, aS, aT, aU, aV⟩
   refine ⟨_, rfl, ?_⟩
   have aW := (ag.c1 Y).t4
   refine lb tGDoc (.agg #[.int .i64 R.1.Id, .slice S T U, .slice V W X]) [.int .i64 R.1.Id, .slice S T U, .slice V W X] R.1 Try.underlying23 tf44 ⟨S, T, U, V, W, X, rfl, aR, aS, aT⟩ aW fun bA bB bC Z aX aY => ?_
   obtain ⟨bD, aZ, a0⟩ := ob aN
   refine lp Try.underlying23 tf44 (ad.mono ((O.le.trans Y.le).trans Z)) aX aZ aY.f4 fun a1 a3 a4 bE a5 ah a6 a8 => (av rfl (nb (qe_seq (wc_region (mv rfl (lv (rv_sub rfl rfl) (av rfl (wl_nil ?_))))))))
   obtain rfl := oi a0
   have a9 := a8.f4.sb (sk (sk (sd (sd (sd sz)))))
   exact qd ⟨_, rfl, a1, a3, a4, aO, aP, aQ, a5, rfl, a9, ((((ac.trans O.le).trans Y.le).trans Z).trans ah), a6, (w64_rng _), (w64_rng _), (aU.mono (Z.trans ah)), aV⟩
  refine wc_exit (qe_then_exit (qe_then_exit ?_))
  obtain rfl := oi J
  have ba := aF _ rfl
  subst ba
  refine qe_block_eq ?_
  obtain rfl := oi aD
  exact qd ⟨o, q, s, C, D, G, i, rfl, I, ac, ad, ae, af⟩
 rintro _ bF ⟨k, l, m, y, A, B, f, rfl, bb, bG, bc, bd, be⟩
 refine qr (mv rfl (av rfl (nq (wc_ret ?_))))
 obtain rfl := oi aB
 exact er Try.results28 ⟨rfl, trivial⟩ ⟨k, l, m, y, A, B, f, rfl, bb.f1, bc, bd, be⟩

theorem ok_spec_l30Rd_one (F : Nat) {w : World} {K : KMap} {g1 : Nat} {a : Option Addr} {b c : Nat} {f : Option Addr} {i k : Nat} {p0_r : GL30Rd} {p1_list : List Int} {r : Int × GL30Rd} (hS : SH w K (List.flatMap Item.gs [obj g1 [.slice a b c, .int .i64 p0_r.p_] 58]) w K [obj g1 [.slice a b c, .int .i64 p0_r.p_] 58]) (o : SliceAt tU8 K a b c p0_r.b_) (q : rng64 p0_r.p_) (d : SliceAt tInt K f i k p1_list) (hm : M.spec_l30Rd_one F p0_r p1_list = some r) :
  Calls Try.prog 44 #[.pointer (some ⟨g1, 0, none⟩), .slice f i k] w fun e w' => ∃ (a_2 : Option Addr) (n_3 c_4 : Nat) (K' : KMap), e = .returned (.int .i64 r.1) ∧ SH w K (List.flatMap Item.gs [obj g1 [.slice a b c, .int .i64 p0_r.p_] 58]) w' K' [obj g1 [.slice a_2 n_3 c_4, .int .i64 r.2.p_] 58] ∧ rng64 r.1 ∧ SliceAt tU8 K' a_2 n_3 c_4 r.2.b_ ∧ rng64 r.2.p_ := by
 rw [M.spec_l30Rd_one] at hm
 refine calls_in Try.func44 rfl Try.ntmps44 rfl (sr (lv (rv_assign (v := .int .i64 0) rfl) (nr (mv rfl (mv rfl (mv rfl (lv (rv_len (t := tInt) Try.underlying24 rfl d) ?_)))))))
 obtain ⟨W, s, x⟩ := ob hm
 refine lc (vs := [pt g1, .int .i64 (p1_list.length : Int)]) co13 ((ok_spec_l30Rd_pick F) hS.e1 o q (rng_nat (SliceAt.max d)) s) ?_
 rintro X Y ⟨y, A, B, C, rfl, l, Z, D, G⟩
 refine ⟨_, rfl, ?_⟩
 have m := (hS.c1 l).t1
 obtain ⟨H, I, J⟩ := ob x
 refine li Try.underlying24 tf3 (d.mono l.le) I fun O R aa S T => ?_
 obtain ⟨rfl, U⟩ := S
 have V : AtK _ O R [.int .i64 H] := T
 refine lv (rv_load1 tf3 rfl m (V 0 _ rfl)) (av rfl (nq (wc_ret ?_)))
 obtain rfl := oi J
 exact er Try.results44 ⟨rfl, trivial⟩ ⟨y, A, B, C, rfl, m, U, D, G⟩

theorem ok_spec_l30AnyText (F : Nat) {w : World} {K : KMap} {g1 : Nat} {a : Option Addr} {b c : Nat} {p0_r : GL30Rd} {r : Str × GL30Rd} (hS : SH w K (List.flatMap Item.gs [obj g1 [.slice a b c, .int .i64 p0_r.p_] 58]) w K [obj g1 [.slice a b c, .int .i64 p0_r.p_] 58]) (q : SliceAt tU8 K a b c p0_r.b_) (s : rng64 p0_r.p_) (hm : M.spec_l30AnyText F p0_r = some r) :
  Calls Try.prog 45 #[.pointer (some ⟨g1, 0, none⟩)] w fun e w' => ∃ (a_2 : Option Addr) (n_3 c_4 : Nat) (K' : KMap), e = .returned (sv r.1) ∧ SH w K (List.flatMap Item.gs [obj g1 [.slice a b c, .int .i64 p0_r.p_] 58]) w' K' [obj g1 [.slice a_2 n_3 c_4, .int .i64 r.2.p_] 58] ∧ r.1.length ≤ maxLen ∧ SliceAt tU8 K' a_2 n_3 c_4 r.2.b_ ∧ rng64 r.2.p_ := by
 rw [M.spec_l30AnyText] at hm
 refine calls_in Try.func45 rfl Try.ntmps45 rfl (sr (lv (rv_assign (v := sv []) rfl) (nr (mv rfl ?_))))
 obtain ⟨r7, x, y⟩ := ob hm
 refine lc (vs := [pt g1]) co60 ((ok_spec_l30Text F) hS.e1 q s x) ?_
 rintro al am ⟨an, ao, ap, aq, rfl, A, B, C, D⟩
 refine ⟨_, rfl, ?_⟩
 have f := (hS.c1 A).t1
 refine av rfl (nsr (mv rfl ?_))
 obtain ⟨ar, G, H⟩ := ob y
 refine lc (vs := [pt g1, .int .i64 12]) co13 ((ok_spec_l30Rd_pick F) f.e1 C D (by decide : rng64 12) G) ?_
 rintro au aw ⟨I, J, O, R, rfl, S, ax, i, k⟩
 refine ⟨_, rfl, ?_⟩
 have l := (f.c1 S).t1
 refine lv (rv_eql rfl rfl) (nq (wcc H rfl (fun T d => ?_) (fun T d => ?_)))
 ·refine sr (mv rfl (mv rfl ?_))
  refine wl_buildSlice (t := tStr) (n := 3) (pv := [(0, sv [10]), (1, sv [255]), (2, sv [48, 49, 50, 51, 52, 53, 54, 55, 56, 57, 32, 48, 49, 50, 51, 52, 53, 54, 55, 56, 57, 32, 48, 49, 50, 51, 52, 53, 54, 55, 56, 57, 32, 48, 49, 50, 51, 52, 53, 54, 55, 56, 57, 32, 48, 49, 50, 51, 52, 53, 54, 55, 56, 57, 32, 48, 49, 50, 51, 52, 53, 54, 55, 56, 57, 32, 48, 49, 50, 51, 52, 53, 54, 55, 56, 57, 32, 48, 49, 50, 51, 52, 53, 54, 55, 56, 57, 32, 48, 49, 50, 51, 52, 53, 54, 55, 56, 57, 32, 48, 49, 50, 51, 52, 53, 54, 55, 56, 57, 32, 48, 49, 50, 51, 52, 53, 54, 55, 56, 57, 32, 48, 49, 50, 51, 52, 53, 54, 55, 56, 57, 32, 48, 49, 50, 51, 52, 53, 54, 55, 56, 57, 32, 48, 49, 50, 51, 52, 53, 54, 55, 56, 57, 32, 48, 49, 50, 51, 52, 53, 54, 55])]) (cs := [sv [10], sv [255], sv [48, 49, 50, 51, 52, 53, 54, 55, 56, 57, 32, 48, 49, 50, 51, 52, 53, 54, 55, 56, 57, 32, 48, 49, 50, 51, 52, 53, 54, 55, 56, 57, 32, 48, 49, 50, 51, 52, 53, 54, 55, 56, 57, 32, 48, 49, 50, 51, 52, 53, 54, 55, 56, 57, 32, 48, 49, 50, 51, 52, 53, 54, 55, 56, 57, 32, 48, 49, 50, 51, 52, 53, 54, 55, 56, 57, 32, 48, 49, 50, 51, 52, 53, 54, 55, 56, 57, 32, 48, 49, 50, 51, 52, 53, 54, 55, 56, 57, 32, 48, 49, 50, 51, 52, 53, 54, 55, 56, 57, 32, 48, 49, 50, 51, 52, 53, 54, 55, 56, 57, 32, 48, 49, 50, 51, 52, 53, 54, 55, 56, 57, 32, 48, 49, 50, 51, 52, 53, 54, 55, 56, 57, 32, 48, 49, 50, 51, 52, 53, 54, 55, 56, 57, 32, 48, 49, 50, 51, 52, 53, 54, 55]]) (xs := [([10] : Str), ([255] : Str), ([48, 49, 50, 51, 52, 53, 54, 55, 56, 57, 32, 48, 49, 50, 51, 52, 53, 54, 55, 56, 57, 32, 48, 49, 50, 51, 52, 53, 54, 55, 56, 57, 32, 48, 49, 50, 51, 52, 53, 54, 55, 56, 57, 32, 48, 49, 50, 51, 52, 53, 54, 55, 56, 57, 32, 48, 49, 50, 51, 52, 53, 54, 55, 56, 57, 32, 48, 49, 50, 51, 52, 53, 54, 55, 56, 57, 32, 48, 49, 50, 51, 52, 53, 54, 55, 56, 57, 32, 48, 49, 50, 51, 52, 53, 54, 55, 56, 57, 32, 48, 49, 50, 51, 52, 53, 54, 55, 56, 57, 32, 48, 49, 50, 51, 52, 53, 54, 55, 56, 57, 32, 48, 49, 50, 51, 52, 53, 54, 55, 56, 57, 32, 48, 49, 50, 51, 52, 53, 54, 55, 56, 57, 32, 48, 49, 50, 51, 52, 53, 54, 55, 56, 57, 32, 48, 49, 50, 51, 52, 53, 54, 55] : Str)]) wn rfl Try.underlying46 tf9 rfl rfl rfl (by kernel_rfl) rfl rfl (lit_cons (u := sv [10]) (z := ([10] : Str)) ⟨rfl, (by decide : ([10] : Str).length ≤ maxLen)⟩ (lit_cons (u := sv [255]) (z := ([255] : Str)) ⟨rfl, (by decide : ([255] : Str).length ≤ maxLen)⟩ (lit_cons (u := sv [48, 49, 50, 51, 52, 53, 54, 55, 56, 57, 32, 48, 49, 50, 51, 52, 53, 54, 55, 56, 57, 32, 48, 49, 50, 51, 52, 53, 54, 55, 56, 57, 32, 48, 49, 50, 51, 52, 53, 54, 55, 56, 57, 32, 48, 49, 50, 51, 52, 53, 54, 55, 56, 57, 32, 48, 49, 50, 51, 52, 53, 54, 55, 56, 57, 32, 48, 49, 50, 51, 52, 53, 54, 55, 56, 57, 32, 48, 49, 50, 51, 52, 53, 54, 55, 56, 57, 32, 48, 49, 50, 51, 52, 53, 54, 55, 56, 57, 32, 48, 49, 50, 51, 52, 53, 54, 55, 56, 57, 32, 48, 49, 50, 51, 52, 53, 54, 55, 56, 57, 32, 48, 49, 50, 51, 52, 53, 54, 55, 56, 57, 32, 48, 49, 50, 51, 52, 53, 54, 55, 56, 57, 32, 48, 49, 50, 51, 52, 53, 54, 55, 56, 57, 32, 48, 49, 50, 51, 52, 53, 54, 55]) (z := ([48, 49, 50, 51, 52, 53, 54, 55, 56, 57, 32, 48, 49, 50, 51, 52, 53, 54, 55, 56, 57, 32, 48, 49, 50, 51, 52, 53, 54, 55, 56, 57, 32, 48, 49, 50, 51, 52, 53, 54, 55, 56, 57, 32, 48, 49, 50, 51, 52, 53, 54, 55, 56, 57, 32, 48, 49, 50, 51, 52, 53, 54, 55, 56, 57, 32, 48, 49, 50, 51, 52, 53, 54, 55, 56, 57, 32, 48, 49, 50, 51, 52, 53, 54, 55, 56, 57, 32, 48, 49, 50, 51, 52, 53, 54, 55, 56, 57, 32, 48, 49, 50, 51, 52, 53, 54, 55, 56, 57, 32, 48, 49, 50, 51, 52, 53, 54, 55, 56, 57, 32, 48, 49, 50, 51, 52, 53, 54, 55, 56, 57, 32, 48, 49, 50, 51, 52, 53, 54, 55, 56, 57, 32, 48, 49, 50, 51, 52, 53, 54, 55, 56, 57, 32, 48, 49, 50, 51, 52, 53, 54, 55] : Str)) ⟨rfl, (by decide : ([48, 49, 50, 51, 52, 53, 54, 55, 56, 57, 32, 48, 49, 50, 51, 52, 53, 54, 55, 56, 57, 32, 48, 49, 50, 51, 52, 53, 54, 55, 56, 57, 32, 48, 49, 50, 51, 52, 53, 54, 55, 56, 57, 32, 48, 49, 50, 51, 52, 53, 54, 55, 56, 57, 32, 48, 49, 50, 51, 52, 53, 54, 55, 56, 57, 32, 48, 49, 50, 51, 52, 53, 54, 55, 56, 57, 32, 48, 49, 50, 51, 52, 53, 54, 55, 56, 57, 32, 48, 49, 50, 51, 52, 53, 54, 55, 56, 57, 32, 48, 49, 50, 51, 52, 53, 54, 55, 56, 57, 32, 48, 49, 50, 51, 52, 53, 54, 55, 56, 57, 32, 48, 49, 50, 51, 52, 53, 54, 55, 56, 57, 32, 48, 49, 50, 51, 52, 53, 54, 55, 56, 57, 32, 48, 49, 50, 51, 52, 53, 54, 55, 56, 57, 32, 48, 49, 50, 51, 52, 53, 54, 55] : Str).length ≤ maxLen)⟩ lit_nil))) l ?_
  intro U ay az V W X
  obtain ⟨aA, Y, Z⟩ := ob d
  have m := X.f1
  refine lc (vs := [pt g1, .slice U 3 3]) co15 ((ok_spec_l30Rd_of F) m.e1 (i.mono V) k W Y) ?_
  rintro aB aC ⟨aa, ab, ac, ad, rfl, ae, aD, af, ag⟩
  refine ⟨_, rfl, ?_⟩
  have ah := (m.c1 ae).t2
  obtain ⟨aE, o, ai⟩ := ob Z
  refine lv (rv_sadd rfl rfl o) (av rfl (nq (rr ?_)))
  obtain rfl := oi ai
  have aj := ah.sb (sk (sd sz))
  exact er Try.results45 ⟨rfl, trivial⟩ ⟨aa, ab, ac, ad, rfl, aj, (len_cat o), af, ag⟩
 refine wc_skip (qr (mv rfl (av rfl (nq (wc_ret ?_)))))
 obtain rfl := oi d
 exact er Try.results45 ⟨rfl, trivial⟩ ⟨I, J, O, R, rfl, l, B, i, k⟩

set_option maxHeartbeats 2000000 in
theorem ok_spec_l30AnyDoc (F : Nat) {w : World} {K : KMap} {g1 : Nat} {W : Option Addr} {X Y : Nat} {p0_r : GL30Rd} {r : GDoc × GL30Rd} (hS : SH w K (List.flatMap Item.gs [obj g1 [.slice W X Y, .int .i64 p0_r.p_] 58]) w K [obj g1 [.slice W X Y, .int .i64 p0_r.p_] 58]) (aS : SliceAt tU8 K W X Y p0_r.b_) (aT : rng64 p0_r.p_) (hm : M.spec_l30AnyDoc F p0_r = some r) :
  Calls Try.prog 29 #[.pointer (some ⟨g1, 0, none⟩)] w fun e w' => ∃ (a_2 : Option Addr) (n_3 c_4 : Nat) (a_6 : Option Addr) (n_7 c_8 : Nat) (a_10 : Option Addr) (n_11 c_12 : Nat) (K' : KMap), e = .returned (.agg #[.int .i64 r.1.Id, .slice a_2 n_3 c_4, .slice a_6 n_7 c_8]) ∧ SH w K (List.flatMap Item.gs [obj g1 [.slice W X Y, .int .i64 p0_r.p_] 58]) w' K' [tail (.slice a_2 n_3 c_4) 69 2, tail (.slice a_6 n_7 c_8) 72 2, obj g1 [.slice a_10 n_11 c_12, .int .i64 r.2.p_] 58] ∧ rng64 r.1.Id ∧ SliceAt tGField K' a_2 n_3 c_4 r.1.Fields ∧ SliceAt tGAttr K' a_6 n_7 c_8 r.1.Nums ∧ SliceAt tU8 K' a_10 n_11 c_12 r.2.b_ ∧ rng64 r.2.p_ := by
 rw [M.spec_l30AnyDoc] at hm
 refine calls_in Try.func29 rfl Try.ntmps29 rfl (sr (al tf44 hS fun g7 w8 aV => ?_))
 have aW : SH _ _ _ _ _ [obj g7 [.int .i64 0, .slice none 0 0, .slice none 0 0] 44, _] := aV
 refine nr (mv rfl (mv rfl ?_))
 obtain ⟨aX, aY, aZ⟩ := ob hm
 have aC := aW.f1
 refine lc (vs := [pt g1, .int .i64 9]) co13 ((ok_spec_l30Rd_pick F) aC.e1 aS aT (by decide : rng64 9) aY) ?_
 rintro cc cd ⟨ce, cf, cg, ch, rfl, a0, ci, a1, a3⟩
 refine ⟨_, rfl, ?_⟩
 have aD := (aC.c1 a0).t2
 refine lv (rv_add rfl rfl) ?_
 obtain ⟨f, a4, a5⟩ := ob aZ
 refine lc (vs := [pt g1, .int .i64 (w64 ((1 : Int) + aX.1))]) co43 ((ok_spec_l30Doc F) aD.e1 a1 a3 (w64_rng _) a4) ?_
 rintro cj ck ⟨i, k, l, a, b, d, cl, cm, cn, cp, rfl, a6, Z, S, T, a7, a8⟩
 refine ⟨_, rfl, ?_⟩
 have a9 := (aD.c1 a6).t4
 refine al tf44 a9 fun af cq ba => ?_
 have bb : SH _ _ _ _ _ [obj af [.int .i64 0, .slice none 0 0, .slice none 0 0] 44, _, _, _, _] := ba
 refine ls [.int .i64 f.1.Id, .slice i k l, .slice a b d] (.agg #[.int .i64 f.1.Id, .slice i k l, .slice a b d]) tf44 bb fun cr bc => (nsr (mv rfl ?_))
 obtain ⟨ct, bd, be⟩ := ob a5
 have aE := bc.f3
 refine lc (vs := [pt g1, .int .i64 14]) co13 ((ok_spec_l30Rd_pick F) aE.e1 a7 a8 (by decide : rng64 14) bd) ?_
 rintro cu cv ⟨aF, aG, aH, ag, rfl, m, cw, U, V⟩
 refine ⟨_, rfl, ?_⟩
 have q := (aE.c1 m).t5
 refine nq (wc_block (sr (lv (rv_eql rfl rfl) (av rfl (nq (wcc be rfl (fun bf ah => ?_) (fun bf ah => ?_)))))))
 ·refine wc_region (mv rfl (wl_buildSlice (t := tInt) (n := 3) (pv := [(0, .int .i64 0), (1, .int .i64 10000), (2, .int .i64 9999)]) (cs := [.int .i64 0, .int .i64 10000, .int .i64 9999]) (xs := [(0 : Int), (10000 : Int), (9999 : Int)]) wn rfl Try.underlying24 tf3 rfl rfl rfl (by kernel_rfl) rfl rfl (lit_cons (u := .int .i64 0) (z := (0 : Int)) ⟨rfl, (by decide : rng64 0)⟩ (lit_cons (u := .int .i64 10000) (z := (10000 : Int)) ⟨rfl, (by decide : rng64 10000)⟩ (lit_cons (u := .int .i64 9999) (z := (9999 : Int)) ⟨rfl, (by decide : rng64 9999)⟩ lit_nil))) q fun bg cx cy ai bh bi => ?_))
  obtain ⟨J, bj, bk⟩ := ob ah
  have aI := bi.f1
  refine lc (vs := [pt g1, .slice bg 3 3]) co44 ((ok_spec_l30Rd_one F) aI.e1 (U.mono ai) V bh bj) ?_
  rintro cz cA ⟨bl, bm, bn, bo, rfl, aj, bp, bq, br⟩
  refine ⟨_, rfl, ?_⟩
  have bs := (aI.c1 aj).t6
  refine fa ff44_0 rfl (ls [.int .i64 J.1, .slice i k l, .slice a b d] (.int .i64 J.1) tf3 bs.f2 fun cB aJ => (nb (qr (lv (rv_loadmS (ds := [.int .i64 J.1, .slice i k l, .slice a b d]) tf44 rfl m0 aJ rfl rfl) (ls [.int .i64 J.1, .slice i k l, .slice a b d] (.agg #[.int .i64 J.1, .slice i k l, .slice a b d]) tf44 aJ.f5 fun cC aK => (nq (wc_ret ?_)))))))
  obtain rfl := oi bk
  have bt := aK.f2.f5.f5.sb (sk (sk (sk (sd (sd (sd sz))))))
  exact qe_ret (vs := [_]) Try.results29 ⟨⟨_, _, rfl, run_loadVar_at tf44 (cs := [.int .i64 J.1, .slice i k l, .slice a b d]) (fun j c e => by rw [Nat.zero_add, aK.mem_obj m0]; exact e) (.inl ⟨rfl, rfl, rfl⟩)⟩, trivial⟩ ⟨i, k, l, a, b, d, bl, bm, bn, bo, rfl, bt, bp, (S.mono ((m.le.trans ai).trans aj.le)), (T.mono ((m.le.trans ai).trans aj.le)), bq, br⟩
 refine sr (lv (rv_eql rfl rfl) (av rfl (nq (wcc ah rfl (fun bu ak => ?_) (fun bu ak => ?_)))))
 ·refine wc_region (fa ff44_1 rfl (lv (rv_loadm1 tf41 rfl m1 q rfl) (lv (rv_build (cs := #[sv [98, 111, 100, 121], sv [97, 103, 97, 105, 110]]) sp69 tf69 rfl (by kernel_rfl)) (lb tGField (.agg #[sv [98, 111, 100, 121], sv [97, 103, 97, 105, 110]]) [sv [98, 111, 100, 121], sv [97, 103, 97, 105, 110]] (GField.mk ([98, 111, 100, 121] : Str) ([97, 103, 97, 105, 110] : Str)) Try.underlying41 tf69 ⟨rfl, (by decide : ([98, 111, 100, 121] : Str).length ≤ maxLen), (by decide : ([97, 103, 97, 105, 110] : Str).length ≤ maxLen)⟩ q fun cD cE cF am bv bw => ?_))))
  obtain ⟨cG, bx, bz⟩ := ob ak
  refine lp Try.underlying41 tf69 (S.mono (m.le.trans am)) bv bx bw.f3 fun s v x cH bA aL bB bC => (fa ff44_1 rfl (ls [.int .i64 f.1.Id, .slice s v x, .slice a b d] (.slice s v x) tf41 bC.f3 fun cI aM => (nb (qr (lv (rv_loadmS (ds := [.int .i64 f.1.Id, .slice s v x, .slice a b d]) tf44 rfl m0 aM rfl rfl) (ls [.int .i64 f.1.Id, .slice s v x, .slice a b d] (.agg #[.int .i64 f.1.Id, .slice s v x, .slice a b d]) tf44 aM.f5 fun cJ aN => (nq (wc_ret ?_))))))))
  obtain rfl := oi bz
  have bD := aN.f4.f5.f4.sb (sk (sk (sk (sd (sd (sd sz))))))
  exact qe_ret (vs := [_]) Try.results29 ⟨⟨_, _, rfl, run_loadVar_at tf44 (cs := [.int .i64 f.1.Id, .slice s v x, .slice a b d]) (fun j c e => by rw [Nat.zero_add, aN.mem_obj m0]; exact e) (.inl ⟨rfl, rfl, rfl⟩)⟩, trivial⟩ ⟨s, v, x, a, b, d, aF, aG, aH, bA, rfl, bD, Z, bB, (T.mono ((m.le.trans am).trans aL)), (U.mono (am.trans aL)), V⟩
 refine sr (lv (rv_eql rfl rfl) (av rfl (nq (wcc ak rfl (fun bE an => ?_) (fun bE an => ?_)))))
 ·have ao := q.drew
  refine wh1 (fun w' => Holds ag w') (fun w' => HasObj af [.int .i64 f.1.Id, .slice i k l, .slice a b d] w') 9 [(1, 7), (1, 8), (1, 9), (7, 8), (7, 9), (8, 9)] mixed (ao.hasK (KLe.refl _)) (fun _ => ao.hasObj (.tail _ (.head _))) (gt (rv_fieldAddr ff44_2 rfl) (gf (fun _ h => rh_loadm1 tf42 rfl rfl h) (gt (rv_move rfl) (gn (wl_buildSlice (t := tInt) (n := 2) (pv := [(0, .int .i64 (-1)), (1, .int .i64 1000000000)]) (cs := [.int .i64 (-1), .int .i64 1000000000]) (xs := [(-1 : Int), (1000000000 : Int)]) wn rfl Try.underlying24 tf3 rfl rfl rfl (by kernel_rfl) rfl rfl (lit_cons (u := .int .i64 (-1)) (z := (-1 : Int)) ⟨rfl, (by decide : rng64 (-1))⟩ (lit_cons (u := .int .i64 1000000000) (z := (1000000000 : Int)) ⟨rfl, (by decide : rng64 1000000000)⟩ lit_nil)) ao fun bF cK cL o bG ap => (wl_nil (qh (ap.hasK o) (fun _ => ap.hasObj (.tail _ (.tail _ (.head _)))) (gn ?_))))))))
  obtain ⟨aa, bH, bI⟩ := ob an
  have aO := ap.f1
  refine lc (vs := [pt g1, .slice bF 2 2]) co44 ((ok_spec_l30Rd_one F) aO.e1 (U.mono o) V bG bH) ?_
  rintro cM cN ⟨bJ, bK, bL, cO, rfl, y, bM, bN, bO⟩
  refine ⟨_, rfl, ?_⟩
  have aq := (aO.c1 y).t6
  refine wl_nil (qh (aq.hasK (o.trans y.le)) (fun _ => aq.hasObj (.tail _ (.tail _ (.head _)))) (gt (rv_build (cs := #[sv [122, 122], .int .i64 aa.1]) sp72 tf72 rfl (by kernel_rfl)) (gn (lb tGAttr (.agg #[sv [122, 122], .int .i64 aa.1]) [sv [122, 122], .int .i64 aa.1] (GAttr.mk ([122, 122] : Str) aa.1) Try.underlying42 tf72 ⟨rfl, (by decide : ([122, 122] : Str).length ≤ maxLen), bM⟩ aq fun cP cQ cR O bP ar => (wl_nil (qh (ar.hasK ((o.trans y.le).trans O)) (fun _ => ar.hasObj (.tail _ (.tail _ (.tail _ (.head _))))) (gn ?_)))))))
  obtain ⟨cS, bQ, bR⟩ := ob bI
  refine lp Try.underlying42 tf72 (SliceAt.mono (((m.le.trans o).trans y.le).trans O) T) bP bQ ar.f5 fun A B C cT bS ab bT au => (wl_nil (qh (au.hasK (((o.trans y.le).trans O).trans ab)) (fun _ => au.hasObj (.tail _ (.tail _ (.tail _ (.tail _ (.head _)))))) (gt (rv_fieldAddr ff44_2 rfl) (gn (ls [.int .i64 f.1.Id, .slice i k l, .slice A B C] (.slice A B C) tf42 au.f4 fun cU aw => (wl_nil (qh (aw.hasK (((o.trans y.le).trans O).trans ab)) (fun h => nomatch h) (gd' (qe_block (qr (lv (rv_loadmS (ds := [.int .i64 f.1.Id, .slice i k l, .slice A B C]) tf44 rfl m0 aw rfl rfl) ?_)))))))))))
  refine ls [.int .i64 f.1.Id, .slice i k l, .slice A B C] (.agg #[.int .i64 f.1.Id, .slice i k l, .slice A B C]) tf44 aw.f6 fun cV aP => (nq (wc_ret ?_))
  obtain rfl := oi bR
  have bU := aP.f4.f3.f6.sb (sk (sk (sk (sd (sd (sd (sd sz)))))))
  exact qe_ret (vs := [_]) Try.results29 ⟨⟨_, _, rfl, run_loadVar_at tf44 (cs := [.int .i64 f.1.Id, .slice i k l, .slice A B C]) (fun j c e => by rw [Nat.zero_add, aP.mem_obj m0]; exact e) (.inl ⟨rfl, rfl, rfl⟩)⟩, trivial⟩ ⟨i, k, l, A, B, C, bJ, bK, bL, bS, rfl, bU, Z, (SliceAt.mono ((((m.le.trans o).trans y.le).trans O).trans ab) S), bT, (bN.mono (O.trans ab)), bO⟩
 refine sr (lv (rv_eql rfl rfl) (av rfl (nq (wcc an rfl (fun bV ax => ?_) (fun bV ax => ?_)))))
 ·have ac := q.drew
  refine wh1 (fun w' => Holds ag w') (fun w' => HasObj af [.int .i64 f.1.Id, .slice i k l, .slice a b d] w') 8 [(1, 6), (1, 7), (1, 8), (6, 7), (6, 8), (7, 8)] mixed (ac.hasK (KLe.refl _)) (fun _ => ac.hasObj (.tail _ (.head _))) (gt (rv_fieldAddr ff44_1 rfl) (gf (fun _ h => rh_loadm1 tf41 rfl rfl h) (gt (rv_move rfl) (gn ?_))))
  obtain ⟨ad, bW, bX⟩ := ob ax
  refine lc (vs := [pt g1]) co45 ((ok_spec_l30AnyText F) ac.e1 U V bW) ?_
  rintro cW cX ⟨bY, bZ, b0, cY, rfl, D, b1, b2, b3⟩
  refine ⟨_, rfl, ?_⟩
  have ay := (ac.c1 D).t5
  refine wl_nil (qh (ay.hasK D.le) (fun _ => ay.hasObj (.tail _ (.head _))) (gt (rv_build (cs := #[sv [122, 101, 100], sv ad.1]) sp69 tf69 rfl (by kernel_rfl)) (gn (lb tGField (.agg #[sv [122, 101, 100], sv ad.1]) [sv [122, 101, 100], sv ad.1] (GField.mk ([122, 101, 100] : Str) ad.1) Try.underlying41 tf69 ⟨rfl, (by decide : ([122, 101, 100] : Str).length ≤ maxLen), b1⟩ ay fun cZ c0 c1 R b4 az => (wl_nil (qh (az.hasK (D.le.trans R)) (fun _ => az.hasObj (.tail _ (.tail _ (.head _)))) (gn ?_)))))))
  obtain ⟨c2, b5, b6⟩ := ob bX
  refine lp Try.underlying41 tf69 (S.mono ((m.le.trans D.le).trans R)) b4 b5 az.f3 fun G H I c3 b7 ae b8 aA => (wl_nil (qh (aA.hasK ((D.le.trans R).trans ae)) (fun _ => aA.hasObj (.tail _ (.tail _ (.tail _ (.head _))))) (gt (rv_fieldAddr ff44_1 rfl) (gn (ls [.int .i64 f.1.Id, .slice G H I, .slice a b d] (.slice G H I) tf41 aA.f3 fun c5 aB => (wl_nil (qh (aB.hasK ((D.le.trans R).trans ae)) (fun h => nomatch h) (gd' (qe_block (qr (lv (rv_loadmS (ds := [.int .i64 f.1.Id, .slice G H I, .slice a b d]) tf44 rfl m0 aB rfl rfl) ?_)))))))))))
  refine ls [.int .i64 f.1.Id, .slice G H I, .slice a b d] (.agg #[.int .i64 f.1.Id, .slice G H I, .slice a b d]) tf44 aB.f5 fun c6 aQ => (nq (wc_ret ?_))
  obtain rfl := oi b6
  have b9 := aQ.f4.f5.f4.sb (sk (sk (sk (sd (sd (sd sz))))))
  exact qe_ret (vs := [_]) Try.results29 ⟨⟨_, _, rfl, run_loadVar_at tf44 (cs := [.int .i64 f.1.Id, .slice G H I, .slice a b d]) (fun j c e => by rw [Nat.zero_add, aQ.mem_obj m0]; exact e) (.inl ⟨rfl, rfl, rfl⟩)⟩, trivial⟩ ⟨G, H, I, a, b, d, bY, bZ, b0, b7, rfl, b9, Z, b8, (SliceAt.mono (((m.le.trans D.le).trans R).trans ae) T), (b2.mono (R.trans ae)), b3⟩
 refine wc_skip (qe_block (qr (lv (rv_loadmS (ds := [.int .i64 f.1.Id, .slice i k l, .slice a b d]) tf44 rfl m1 q rfl rfl) (ls [.int .i64 f.1.Id, .slice i k l, .slice a b d] (.agg #[.int .i64 f.1.Id, .slice i k l, .slice a b d]) tf44 q.f4 fun c7 aR => (nq (wc_ret ?_))))))
 obtain rfl := oi ax
 have ca := aR.f1.f4.f4.sb (sk (sk (sk (sd (sd sz)))))
 exact qe_ret (vs := [_]) Try.results29 ⟨⟨_, _, rfl, run_loadVar_at tf44 (cs := [.int .i64 f.1.Id, .slice i k l, .slice a b d]) (fun j c e => by rw [Nat.zero_add, aR.mem_obj m0]; exact e) (.inl ⟨rfl, rfl, rfl⟩)⟩, trivial⟩ ⟨i, k, l, a, b, d, aF, aG, aH, ag, rfl, ca, Z, (S.mono m.le), (T.mono m.le), U, V⟩

theorem ok_spec_l30AnyDocs (F : Nat) {w : World} {K : KMap} {g1 : Nat} {a : Option Addr} {b c : Nat} {p0_r : GL30Rd} {r : (List GDoc) × GL30Rd} (hS : SH w K (List.flatMap Item.gs [obj g1 [.slice a b c, .int .i64 p0_r.p_] 58]) w K [obj g1 [.slice a b c, .int .i64 p0_r.p_] 58]) (H : SliceAt tU8 K a b c p0_r.b_) (I : rng64 p0_r.p_) (hm : M.spec_l30AnyDocs F p0_r = some r) :
  Calls Try.prog 12 #[.pointer (some ⟨g1, 0, none⟩)] w fun e w' => ∃ (a_1 : Option Addr) (n_2 c_3 : Nat) (a_5 : Option Addr) (n_6 c_7 : Nat) (K' : KMap), e = .returned (.slice a_1 n_2 c_3) ∧ SH w K (List.flatMap Item.gs [obj g1 [.slice a b c, .int .i64 p0_r.p_] 58]) w' K' [tail (.slice a_1 n_2 c_3) 44 3, obj g1 [.slice a_5 n_6 c_7, .int .i64 r.2.p_] 58] ∧ SliceAt tGDoc K' a_1 n_2 c_3 r.1 ∧ SliceAt tU8 K' a_5 n_6 c_7 r.2.b_ ∧ rng64 r.2.p_ := by
 rw [M.spec_l30AnyDocs] at hm
 refine calls_in Try.func12 rfl Try.ntmps12 rfl (sr (lv (rv_assign (v := .slice none 0 0) rfl) (nr (mv rfl ?_))))
 obtain ⟨r7, J, O⟩ := ob hm
 refine lc (vs := [pt g1]) co28 ((ok_spec_l30Docs F) hS.e1 H I J) ?_
 rintro aG aH ⟨R, S, T, aI, aJ, aK, aL, rfl, U, y, V, W⟩
 refine ⟨_, rfl, ?_⟩
 have X := (hS.c1 U).t2
 refine av rfl (nsr (mv rfl ?_))
 obtain ⟨aM, Y, Z⟩ := ob O
 have A := X.f1
 refine lc (vs := [pt g1, .int .i64 10]) co13 ((ok_spec_l30Rd_pick F) A.e1 V W (by decide : rng64 10) Y) ?_
 rintro aN aO ⟨aa, ab, ac, ad, rfl, d, aP, B, C⟩
 refine ⟨_, rfl, ?_⟩
 have f := (A.c1 d).t2
 refine lv (rv_eql rfl rfl) (nq (wcc Z rfl (fun ae i => ?_) (fun ae i => ?_)))
 ·refine sr (mv rfl (mv rfl ?_))
  obtain ⟨k, af, ag⟩ := ob i
  refine lc (vs := [pt g1]) co29 ((ok_spec_l30AnyDoc F) f.e1 B C af) ?_
  rintro aQ aR ⟨l, m, o, q, s, x, ah, ai, aj, aS, rfl, D, ak, al, am, an, ao⟩
  refine ⟨_, rfl, ?_⟩
  have ap := (f.c1 D).t4
  refine lb tGDoc (.agg #[.int .i64 k.1.Id, .slice l m o, .slice q s x]) [.int .i64 k.1.Id, .slice l m o, .slice q s x] k.1 Try.underlying23 tf44 ⟨l, m, o, q, s, x, rfl, ak, al, am⟩ ap fun aT w64 aU G aq ar => ?_
  obtain ⟨aV, au, aw⟩ := ob ag
  refine lp Try.underlying23 tf44 (y.mono ((d.le.trans D.le).trans G)) aq au ar.f4 fun ax ay az aW aA aB aC aD => (av rfl (nq (rr ?_)))
  obtain rfl := oi aw
  have aE := aD.sb (sk (sd (sd (sd (sk sz)))))
  exact er Try.results12 ⟨rfl, trivial⟩ ⟨ax, ay, az, ah, ai, aj, aA, rfl, aE, aC, (an.mono (G.trans aB)), ao⟩
 refine wc_skip (qr (mv rfl (av rfl (nq (wc_ret ?_)))))
 obtain rfl := oi i
 exact er Try.results12 ⟨rfl, trivial⟩ ⟨R, S, T, aa, ab, ac, ad, rfl, f.f1, (y.mono d.le), B, C⟩

set_option maxHeartbeats 2000000 in
theorem ok_spec_l8Put (F : Nat) {w : World} {K : KMap} {c : Option Addr} {d f : Nat} {p0_list : List Int} {p1_n : Int} {r : (List Int)} (hS : SH w K [] w K []) (i : SliceAt tInt K c d f p0_list) (W : rng64 p1_n) (hm : M.spec_l8Put F p0_list p1_n = some r) :
  Calls Try.prog 14 #[.slice c d f, .int .i64 p1_n] w fun e w' => ∃ (a_1 : Option Addr) (n_2 c_3 : Nat) (K' : KMap), e = .returned (.slice a_1 n_2 c_3) ∧ SH w K [] w' K' [] ∧ SliceAt tInt K' a_1 n_2 c_3 r := by
 rw [M.spec_l8Put] at hm
 refine calls_in Try.func14 rfl Try.ntmps14 rfl (sr (lv (rv_assign (v := .slice none 0 0) rfl) (nr (lv (rv_assign (v := .int .i64 0) rfl) (ns ?_)))))
 obtain ⟨s, X, Y⟩ := ob hm
 refine wc_cutg (fun E' w' => ∃ k, E' = [(0, .slice c d f), (1, .int .i64 p1_n), (5, .int .i64 s)] ∧ SH w K [] w' k [] ∧ KLe K k ∧ rng64 s) ?_ ?_
 ·refine wc_block ?_
  obtain ⟨a8, Z, aa⟩ := ob X
  refine qw (fun (m : Int) E' w' => ∃ l, E' = [(0, .slice c d f), (1, .int .i64 p1_n), (5, .int .i64 m)] ∧ SH w K [] w' l [] ∧ KLe K l ∧ rng64 m) Z ⟨K, rfl, hS, (KLe.refl _), (by decide : rng64 0)⟩ ?_
  rintro m _ a9 ba ab ac ⟨l, rfl, A, x, ad⟩
  refine wc_seq (wc_seq ?_)
  obtain ⟨ae, J, af⟩ := ob ab
  refine wc_cutg (fun E' w' => ∃ o, E' = [(0, .slice c d f), (1, .int .i64 p1_n), (5, .int .i64 m), (18, .bool ae)] ∧ SH w K [] w' o [] ∧ KLe l o) ?_ ?_
  ·refine wc_region (mv rfl (mv rfl (lv (rv_len (t := tInt) Try.underlying24 rfl (i.mono x)) (lv (rv_lss rfl rfl) (mv rfl ?_)))))
   rcases bool_tf (decide (m < (p0_list.length : Int))) with a | a
   ·have B := cond_t a J
    refine lg a (rv_move rfl) (lg a (rv_move rfl) ?_)
    obtain ⟨ag, ah, ai⟩ := ob B
    refine wl_indexAddr (t := tInt) (wg rfl rfl a) rfl Try.underlying24 tf3 rfl rfl (i.mono x) ah fun aj ak bb al am => ?_
    obtain ⟨rfl, bc⟩ := al
    have an : AtK _ aj ak [.int .i64 ag] := am
    refine lg a (rv_load1 tf3 rfl A (an 0 _ rfl)) (lg a (rv_move rfl) (lg a (rv_lss rfl rfl) (lv (rv_pick_t rfl a rfl) (wl_nil ?_))))
    obtain rfl := oi ai
    exact qd ⟨l, rfl, A, (KLe.refl _)⟩
   have B := cond_f a J
   refine lu a (lu a (lu a (lu a (lu a (lu a (lv (rv_pick_f (v := .bool false) rfl a rfl) (wl_nil ?_)))))))
   obtain rfl := oi B
   exact qd ⟨l, rfl, A, (KLe.refl _)⟩
  rintro _ bd ⟨o, rfl, O, R⟩
  refine qe_seq (wcc af rfl (fun ao C => ?_) (fun ao C => ?_))
  ·refine wc_skip (qe_seq (wc_block (wc_region (mv rfl (lv (rv_add rfl rfl) (av rfl (nb ?_)))))))
   obtain rfl := oi C
   exact qd ⟨_, rfl, o, rfl, O, (x.trans R), (w64_rng _)⟩
  refine wc_exit (qe_then_exit (qe_then_exit ?_))
  obtain rfl := oi C
  have ap := ac _ rfl
  subst ap
  refine qe_block_eq ?_
  obtain rfl := oi aa
  exact qd ⟨o, rfl, O, (x.trans R), ad⟩
 rintro _ be ⟨k, rfl, D, q, bf⟩
 refine qs (wc_seq ?_)
 obtain ⟨aq, S, ar⟩ := ob Y
 refine wc_cutg (fun E' w' => ∃ y, E' = [(0, .slice c d f), (1, .int .i64 p1_n), (5, .int .i64 s), (32, .bool aq)] ∧ SH w K [] w' y [] ∧ KLe k y) ?_ ?_
 ·refine wc_region (mv rfl (mv rfl (lv (rv_len (t := tInt) Try.underlying24 rfl (i.mono q)) (lv (rv_lss rfl rfl) (mv rfl ?_)))))
  rcases bool_tf (decide (s < (p0_list.length : Int))) with b | b
  ·have G := cond_t b S
   refine lg b (rv_move rfl) (lg b (rv_move rfl) ?_)
   obtain ⟨au, aw, ax⟩ := ob G
   refine wl_indexAddr (t := tInt) (wg rfl rfl b) rfl Try.underlying24 tf3 rfl rfl (i.mono q) aw fun ay az bg aA aB => ?_
   obtain ⟨rfl, bh⟩ := aA
   have aC : AtK _ ay az [.int .i64 au] := aB
   refine lg b (rv_load1 tf3 rfl D (aC 0 _ rfl)) (lg b (rv_move rfl) (lg b (rv_eql rfl rfl) (lv (rv_pick_t rfl b rfl) (wl_nil ?_))))
   obtain rfl := oi ax
   exact qd ⟨k, rfl, D, (KLe.refl _)⟩
  have G := cond_f b S
  refine lu b (lu b (lu b (lu b (lu b (lu b (lv (rv_pick_f (v := .bool false) rfl b rfl) (wl_nil ?_)))))))
  obtain rfl := oi G
  exact qd ⟨k, rfl, D, (KLe.refl _)⟩
 rintro _ bi ⟨y, rfl, T, H⟩
 refine qe_seq (wcc ar rfl (fun aD I => ?_) (fun aD I => ?_))
 ·refine sr (mv rfl (av rfl (nq (rr ?_))))
  obtain rfl := oi I
  exact er Try.results14 ⟨rfl, trivial⟩ ⟨c, d, f, y, rfl, T, (i.mono (q.trans H))⟩
 refine wc_skip (qr (b0 tInt Try.underlying24 tf3 T fun bj bk bl U aE aF => (mv rfl (mv rfl ?_))))
 obtain ⟨bm, aG, aH⟩ := ob I
 refine wl_sl_h (t := tInt) wn rfl Try.underlying24 tf3 rfl rfl (i.mono ((q.trans H).trans U)) aG fun bn bo bp aI => ?_
 obtain ⟨bq, aJ, aK⟩ := ob aH
 refine lp Try.underlying24 tf3 aE aI aJ aF fun br bs bt bu bv aL aM aN => (av rfl (nr (mv rfl (mv rfl (lb tInt (.int .i64 p1_n) [.int .i64 p1_n] p1_n Try.underlying24 tf3 ⟨rfl, W⟩ aN fun bw bx bz V aO aP => ?_)))))
 obtain ⟨bA, aQ, aR⟩ := ob aK
 refine lp Try.underlying24 tf3 (aM.mono V) aO aQ aP.f1 fun bB bC bD bE bF aS aT aU => (av rfl (nr (mv rfl (mv rfl (mv rfl ?_)))))
 obtain ⟨bG, aV, aW⟩ := ob aR
 refine wl_sl_l (t := tInt) wn rfl Try.underlying24 tf3 rfl rfl (SliceAt.mono (((((q.trans H).trans U).trans aL).trans V).trans aS) i) aV fun bH bI bJ aX => ?_
 obtain ⟨bK, aY, aZ⟩ := ob aW
 refine lp Try.underlying24 tf3 aT aX aY aU fun a0 a2 a3 bL a4 bM a5 a6 => (av rfl (nq (wc_ret ?_)))
 obtain rfl := oi aZ
 have a7 := a6.sb (sd (sd sz))
 exact er Try.results14 ⟨rfl, trivial⟩ ⟨a0, a2, a3, a4, rfl, a7, a5⟩

set_option maxHeartbeats 2000000 in
theorem ok_spec_DrawFacetOf (F : Nat) {w : World} {K : KMap} {J : Option Addr} {O R : Nat} {p0_code : List UInt8} {r : (List GDoc) × (List Int) × Str} (hS : SH w K [] w K []) (ao : SliceAt tU8 K J O R p0_code) (hm : M.spec_DrawFacetOf F p0_code = some r) :
  Calls Try.prog 4 #[.slice J O R] w fun e w' => ∃ (a_1 : Option Addr) (n_2 c_3 : Nat) (a_5 : Option Addr) (n_6 c_7 : Nat) (K' : KMap), e = .returned (.tuple #[.slice a_1 n_2 c_3, .slice a_5 n_6 c_7, sv r.2.2]) ∧ SH w K [] w' K' [tail (.slice a_1 n_2 c_3) 44 3] ∧ SliceAt tGDoc K' a_1 n_2 c_3 r.1 ∧ SliceAt tInt K' a_5 n_6 c_7 r.2.1 ∧ r.2.2.length ≤ maxLen := by
 rw [M.spec_DrawFacetOf] at hm
 refine calls_in Try.func4 rfl Try.ntmps4 rfl (sr (lv (rv_assign (v := .slice none 0 0) rfl) (lv (rv_assign (v := .slice none 0 0) rfl) (lv (rv_assign (v := sv []) rfl) (nr (mv rfl ?_))))))
 obtain ⟨r5, ap, h7⟩ := ob hm
 refine lc (vs := [.slice J O R]) co11 ((ok_spec_l30Open F) hS.enter0 ao ap) ?_
 rintro bz w9 ⟨a, bB, bC, bD, K8, rfl, ar, au, aw⟩
 refine ⟨_, rfl, ?_⟩
 have ae := (hS.c0 ar).t1
 refine av rfl (nr (mv rfl ?_))
 obtain ⟨bF, ax, ay⟩ := ob h7
 refine lc (vs := [pt a]) co12 ((ok_spec_l30AnyDocs F) ae.e1 au aw ax) ?_
 rintro bG bH ⟨l, m, o, az, aA, aB, bI, rfl, aC, S, aD, aE⟩
 refine ⟨_, rfl, ?_⟩
 have aF := (ae.c1 aC).t2
 refine av rfl (nr (b0 tInt Try.underlying24 tf3 aF fun aG bJ T x aH aI => (av rfl (nsr (lv (rv_assign (v := .int .i64 0) rfl) (nq ?_))))))
 obtain ⟨y, aJ, aK⟩ := ob ay
 refine wc_cutg (fun E' w' => ∃ A B C U V W q, E' = [(5, pt a), (6, .slice l m o), (7, .slice A B C)] ∧ SH w K [] w' q [obj a [.slice U V W, .int .i64 y.2.p_] 58, tail (.slice l m o) 44 3] ∧ KLe T q ∧ SliceAt tInt q A B C y.1 ∧ SliceAt tU8 q U V W y.2.b_ ∧ rng64 y.2.p_) ?_ ?_
 ·refine wc_block ?_
  obtain ⟨bK, aL, aM⟩ := ob aJ
  have aN := aI.f1.f2.sb (sk (sk (sd sz)))
  refine qw (fun (b : (List Int) × Int × GL30Rd) E' w' => ∃ c d f D G H i, E' = [(5, pt a), (6, .slice l m o), (7, .slice c d f), (8, .int .i64 b.2.1)] ∧ SH w K [] w' i [obj a [.slice D G H, .int .i64 b.2.2.p_] 58, tail (.slice l m o) 44 3] ∧ KLe T i ∧ SliceAt tInt i c d f b.1 ∧ rng64 b.2.1 ∧ SliceAt tU8 i D G H b.2.2.b_ ∧ rng64 b.2.2.p_) aL ⟨aG, 0, 0, az, aA, aB, T, rfl, aN, (KLe.refl _), aH, (by decide : rng64 0), (aD.mono x), aE⟩ ?_
  rintro b _ w64 bL aO aP ⟨c, d, f, D, G, H, i, rfl, X, s, Y, bM, af, ag⟩
  refine wc_seq (sr (mv rfl (mv rfl (lv (rv_len (t := tGDoc) Try.underlying23 rfl (S.mono (x.trans s))) (lv (rv_lss rfl rfl) (nq (wcc aO rfl (fun aQ Z => ?_) (fun aQ Z => ?_))))))))
  ·refine wc_skip (qs (wc_block (sr (mv rfl ?_))))
   obtain ⟨bN, aR, aS⟩ := ob Z
   refine lc (vs := [pt a, .int .i64 4]) co13 ((ok_spec_l30Rd_pick F) X.e1 af ag (by decide : rng64 4) aR) ?_
   rintro bO bP ⟨ah, ai, aj, aT, rfl, k, bQ, ak, al⟩
   refine ⟨_, rfl, ?_⟩
   have I := (X.c1 k).t2
   refine lv (rv_gtr rfl rfl) (nq (wcc aS rfl (fun aU aa => ?_) (fun aU aa => ?_)))
   ·refine wc_region (mv rfl (mv rfl (mv rfl ?_)))
    obtain ⟨am, aV, aW⟩ := ob aa
    refine li Try.underlying23 tf44 (S.mono ((x.trans s).trans k.le)) aV fun aX aY bR aZ a0 => ?_
    obtain ⟨a2, a3, a4, a5, a6, a7, rfl, a8, bS, bT⟩ := aZ
    have a9 : AtK _ aX aY [.int .i64 am.Id, .slice a2 a3 a4, .slice a5 a6 a7] := a0
    refine fa ff44_0 rfl (lv (rv_load1 tf3 rfl I (a9 0 _ rfl)) ?_)
    obtain ⟨bU, ba, bb⟩ := ob aW
    refine lc (vs := [.slice c d f, .int .i64 am.Id]) co14 ((ok_spec_l8Put F) I.enter0 (Y.mono k.le) a8 ba) ?_
    rintro bV bW ⟨bc, bd, be, bf, rfl, ab, bg⟩
    refine ⟨_, rfl, ?_⟩
    have bh := (I.c0 ab).t2
    refine av rfl (nb (qe_seq (wc_region (mv rfl (lv (rv_add rfl rfl) (av rfl (wl_nil ?_)))))))
    obtain rfl := oi bb
    exact qd ⟨_, rfl, bc, bd, be, ah, ai, aj, bf, rfl, bh, ((s.trans k.le).trans ab.le), bg, (w64_rng _), (ak.mono ab.le), al⟩
   refine wc_skip (qe_block (qe_seq (wc_region (mv rfl (lv (rv_add rfl rfl) (av rfl (wl_nil ?_)))))))
   obtain rfl := oi aa
   exact qd ⟨_, rfl, c, d, f, ah, ai, aj, aT, rfl, I, (s.trans k.le), (Y.mono k.le), (w64_rng _), ak, al⟩
  refine wc_exit (qe_then_exit (qe_then_exit ?_))
  obtain rfl := oi Z
  have bi := aP _ rfl
  subst bi
  refine qe_block_eq ?_
  obtain rfl := oi aM
  exact qd ⟨c, d, f, D, G, H, i, rfl, X, s, Y, af, ag⟩
 rintro _ bX ⟨A, B, C, U, V, W, q, rfl, bj, bk, bl, bm, bn⟩
 refine qr (mv rfl (mv rfl (mv rfl (wl_buildSlice (t := tStr) (n := 3) (pv := [(0, sv [114, 97, 116, 101]), (1, sv [121, 101, 97, 114]), (2, sv [110, 111, 110, 101])]) (cs := [sv [114, 97, 116, 101], sv [121, 101, 97, 114], sv [110, 111, 110, 101]]) (xs := [([114, 97, 116, 101] : Str), ([121, 101, 97, 114] : Str), ([110, 111, 110, 101] : Str)]) wn rfl Try.underlying46 tf9 rfl rfl rfl (by kernel_rfl) rfl rfl (lit_cons (u := sv [114, 97, 116, 101]) (z := ([114, 97, 116, 101] : Str)) ⟨rfl, (by decide : ([114, 97, 116, 101] : Str).length ≤ maxLen)⟩ (lit_cons (u := sv [121, 101, 97, 114]) (z := ([121, 101, 97, 114] : Str)) ⟨rfl, (by decide : ([121, 101, 97, 114] : Str).length ≤ maxLen)⟩ (lit_cons (u := sv [110, 111, 110, 101]) (z := ([110, 111, 110, 101] : Str)) ⟨rfl, (by decide : ([110, 111, 110, 101] : Str).length ≤ maxLen)⟩ lit_nil))) bj fun bo bY bZ ac bp bq => ?_))))
 obtain ⟨b1, br, bs⟩ := ob aK
 have an := bq.f1
 refine lc (vs := [pt a, .slice bo 3 3]) co15 ((ok_spec_l30Rd_of F) an.e1 (bm.mono ac) bn bp br) ?_
 rintro b2 b3 ⟨b4, b5, b6, bt, rfl, ad, bu, b7, b8⟩
 refine ⟨_, rfl, ?_⟩
 have bv := (an.c1 ad).t3
 refine av rfl (av rfl (av rfl (nq (wc_ret ?_))))
 obtain rfl := oi bs
 have bw := bv.sb (sd (sd (sk sz)))
 exact qe_ret (vs := [_, _, _]) Try.results4 ⟨rfl, rfl, rfl, trivial⟩ ⟨l, m, o, A, B, C, bt, rfl, bw, (SliceAt.mono (((x.trans bk).trans ac).trans ad.le) S), (bl.mono (ac.trans ad.le)), bu⟩

theorem ok_impl_within (F : Nat) {w : World} {K : KMap} {p0_n : Int} {p1_low : Int} {p2_high : Int} {r : Bool} (hS : SH w K [] w K []) (c : rng64 p0_n) (d : rng64 p1_low) (f : rng64 p2_high) (hm : M.impl_within F p0_n p1_low p2_high = some r) :
  Calls Try.prog 25 #[.int .i64 p0_n, .int .i64 p1_low, .int .i64 p2_high] w fun e w' => ∃ (K' : KMap), e = .returned (.bool r) ∧ SH w K [] w' K' [] := by
 rw [M.impl_within] at hm
 refine calls_in Try.func25 rfl Try.ntmps25 rfl (sr (lv (rv_assign (v := .bool false) rfl) (nr (mv rfl (mv rfl (lv (rv_geq rfl rfl) (mv rfl ?_)))))))
 rcases bool_tf (decide (p1_low ≤ p0_n)) with a | a
 ·have b := cond_t a hm
  refine lg a (rv_move rfl) (lg a (rv_move rfl) (lg a (rv_leq rfl rfl) (lv (rv_pick_t rfl a rfl) (av rfl (nq (wc_ret ?_))))))
  obtain rfl := oi b
  exact er Try.results25 ⟨rfl, trivial⟩ ⟨K, rfl, hS⟩
 have b := cond_f a hm
 refine lu a (lu a (lu a (lv (rv_pick_f (v := .bool false) rfl a rfl) (av rfl (nq (wc_ret ?_))))))
 obtain rfl := oi b
 exact er Try.results25 ⟨rfl, trivial⟩ ⟨K, rfl, hS⟩

theorem ok_impl_wordByte (F : Nat) {w : World} {K : KMap} {p0_b : UInt8} {r : Bool} (hS : SH w K [] w K []) (hm : M.impl_wordByte F p0_b = some r) :
  Calls Try.prog 59 #[iv8 p0_b] w fun e w' => ∃ (K' : KMap), e = .returned (.bool r) ∧ SH w K [] w' K' [] := by
 rw [M.impl_wordByte] at hm
 refine calls_in Try.func59 rfl Try.ntmps59 rfl (sr (lv (rv_assign (v := .bool false) rfl) (nr (mv rfl (lv (rv_bge (b := (97 : UInt8)) rfl rfl) (mv rfl ?_))))))
 rcases bool_tf (decide ((97 : UInt8) ≤ p0_b)) with c | c
 ·have i := cond_t c hm
  refine lg c (rv_move rfl) (lg c (rv_ble (b := (122 : UInt8)) rfl rfl) (lv (rv_pick_t rfl c rfl) (mv rfl ?_)))
  rcases bool_tf (decide (p0_b ≤ (122 : UInt8))) with a | a
  ·have k := cond_t a i
   refine lu a (lu a (lu a (wl_un (uu rfl rfl) rfl (wl_un (uu rfl rfl) rfl (lu a (lv (rv_pick_t (v := .bool true) rfl a rfl) (av rfl (nq (wc_ret ?_)))))))))
   obtain rfl := oi k
   exact er Try.results59 ⟨rfl, trivial⟩ ⟨K, rfl, hS⟩
  have k := cond_f a i
  refine lg a (rv_move rfl) (lg a (rv_bge (b := (48 : UInt8)) rfl rfl) (lg a (rv_move rfl) ?_))
  rcases bool_tf (decide ((48 : UInt8) ≤ p0_b)) with d | d
  ·have l := cond_t d k
   refine lg d (rv_move rfl) (lg d (rv_ble (b := (57 : UInt8)) rfl rfl) (lg a (rv_pick_t rfl d rfl) (lv (rv_pick_f rfl a rfl) (av rfl (nq (wc_ret ?_))))))
   obtain rfl := oi l
   exact er Try.results59 ⟨rfl, trivial⟩ ⟨K, rfl, hS⟩
  have l := cond_f d k
  refine lu d (lu d (lg a (rv_pick_f (v := .bool false) rfl d rfl) (lv (rv_pick_f rfl a rfl) (av rfl (nq (wc_ret ?_))))))
  obtain rfl := oi l
  exact er Try.results59 ⟨rfl, trivial⟩ ⟨K, rfl, hS⟩
 have i := cond_f c hm
 refine lu c (lu c (lv (rv_pick_f (v := .bool false) rfl c rfl) (mv rfl (lg rfl (rv_move rfl) (lg rfl (rv_bge (b := (48 : UInt8)) rfl rfl) (lg rfl (rv_move rfl) ?_))))))
 rcases bool_tf (decide ((48 : UInt8) ≤ p0_b)) with f | f
 ·have m := cond_t f i
  refine lg f (rv_move rfl) (lg f (rv_ble (b := (57 : UInt8)) rfl rfl) (lg rfl (rv_pick_t rfl f rfl) (lv (rv_pick_f rfl rfl rfl) (av rfl (nq (wc_ret ?_))))))
  obtain rfl := oi m
  exact er Try.results59 ⟨rfl, trivial⟩ ⟨K, rfl, hS⟩
 have m := cond_f f i
 refine lu f (lu f (lg rfl (rv_pick_f (v := .bool false) rfl f rfl) (lv (rv_pick_f rfl rfl rfl) (av rfl (nq (wc_ret ?_))))))
 obtain rfl := oi m
 exact er Try.results59 ⟨rfl, trivial⟩ ⟨K, rfl, hS⟩

theorem ok_impl_WordOk (F : Nat) {w : World} {K : KMap} {p0_s : Str} {r : Bool} (hS : SH w K [] w K []) (i : p0_s.length ≤ maxLen) (hm : M.impl_WordOk F p0_s = some r) :
  Calls Try.prog 41 #[sv p0_s] w fun e w' => ∃ (K' : KMap), e = .returned (.bool r) ∧ SH w K [] w' K' [] := by
 rw [M.impl_WordOk] at hm
 refine calls_in Try.func41 rfl Try.ntmps41 rfl (sr (lv (rv_assign (v := .bool false) rfl) (nsr (mv rfl (lv (rv_slen Try.underlying9 rfl) (lv (rv_move (v := .int .i64 0) rfl) (nq ?_)))))))
 obtain ⟨B, C, k⟩ := ob hm
 refine wc_cutg (fun E' w' => ∃ l c, B = .inl l ∧ E' = [(0, sv p0_s)] ∧ SH w K [] w' c [] ∧ KLe K c) ?_ ?_
 ·refine wc_block ?_
  obtain ⟨ac, D, m⟩ := ob C
  refine qf (fun (o : Nat) (q : Unit) E' w' => ∃ a, E' = [(0, sv p0_s), (5, .int .i64 (p0_s.length : Int)), (6, .int .i64 ((o : Nat) : Int))] ∧ SH w K [] w' a [] ∧ KLe K a) D ⟨K, rfl, hS, (KLe.refl _)⟩ ?_ ?_
  ·rintro o q _ G ad hi20 H I ⟨a, rfl, b, d⟩
   refine sr (lv (rv_lss rfl rfl) (ns (wc_cond_t rfl (decide_eq_true (by omega)) (wc_skip (qe_seq (wc_seq (wc_block (sr (mv rfl (av rfl (nr (mv rfl ?_))))))))))))
   refine mv rfl ?_
   obtain ⟨J, O, R⟩ := ob H
   refine lv (rv_sidx Try.underlying9 rfl rfl O) ?_
   obtain ⟨ae, S, T⟩ := ob R
   refine lc (vs := [iv8 J]) co59 ((ok_impl_wordByte F) b.enter0  S) ?_
   rintro af ag ⟨s, rfl, x⟩
   refine ⟨_, rfl, ?_⟩
   have y := (b.c0 x).t0
   refine lv (rv_not rfl) (nq (wcc T rfl (fun U f => ?_) (fun U f => ?_)))
   ·refine sr (lv (rv_assign (v := .bool false) rfl) (nq (wc_ret (qe_block_ret (qe_then_ret (qe_then_ret ?_))))))
    obtain rfl := oi f
    have V := I _ rfl
    subst V
    refine qe_block_ret (qe_then_ret ?_)
    obtain rfl := oi m
    refine qe_then_ret ?_
    obtain rfl := oi k
    exact er Try.results41 ⟨rfl, trivial⟩ ⟨s, rfl, y⟩
   refine wc_skip (qe_block (qg (lv (rv_add_to rfl rfl (w64_succ hi20 i)) (mv rfl (wl_nil ?_)))))
   obtain rfl := oi f
   exact qd ⟨_, rfl, s, rfl, y, (d.trans x.le)⟩
  rintro q _ G W ⟨a, rfl, b, d⟩
  subst W
  refine sr (lv (rv_lss rfl rfl) (ns (wc_cond_f rfl (decide_eq_false (by omega)) (wc_exit (qe_then_exit (qe_then_exit (qe_block_eq ?_)))))))
  obtain rfl := oi m
  exact qd ⟨_, a, rfl, rfl, b, d⟩
 rintro _ w8 ⟨l, c, rfl, rfl, A, ai⟩
 refine qr (mv rfl (lv (rv_slen Try.underlying9 rfl) ?_))
 obtain ⟨aj, X, Y⟩ := ob k
 refine lc (vs := [.int .i64 (p0_s.length : Int), .int .i64 1, .int .i64 12]) co25 ((ok_impl_within F) A.enter0 (rng_nat i) (by decide : rng64 1) (by decide : rng64 12) X) ?_
 rintro ak al ⟨Z, rfl, aa⟩
 refine ⟨_, rfl, ?_⟩
 have ab := (A.c0 aa).t0
 refine av rfl (nq (wc_ret ?_))
 obtain rfl := oi Y
 exact er Try.results41 ⟨rfl, trivial⟩ ⟨Z, rfl, ab⟩
end Go.Proofs.Ytoeajphlomankaa
