/-
 Walks of the functions. Printed by gen.py.
-/
import Derived.Test.YtoeajphlomankaaGreatDoorFacts
set_option linter.unusedVariables false
set_option maxRecDepth 100000
namespace Go.Proofs.YtoeajphlomankaaGreatDoor
open Go Go.Fk Go.RowKit Tryz

theorem ok_spec_l30Open (F : Nat) {w : World} {K : KMap} {a : Option Addr} {b c : Nat} {p0_code : List UInt8} {r : GL30Rd} (hS : SH w K [] w K []) (d : SliceAt tU8 K a b c p0_code) (hm : M.spec_l30Open F p0_code = some r) :
  Calls Tryz.prog 49 #[.slice a b c] w fun e w' => ∃ g_1 a_2 n_3 c_4 K', e = .returned (.pointer (some ⟨g_1, 0, none⟩)) ∧ SH w K [] w' K' [obj g_1 [.slice a_2 n_3 c_4, .int .i64 r.p_] 154] ∧ SliceAt tU8 K' a_2 n_3 c_4 r.b_ ∧ rng64 r.p_ := by
 rw [M.spec_l30Open] at hm
 refine calls_in func49 rfl ntmps49 rfl (sr (lv (rv_assign (v := .pointer none) rfl) (nsr (mv rfl (lv (rv_len (t := tU8) underlying22 rfl d) (lv (rv_gtr rfl rfl) (nq (wc_cond rfl (fun f => ?_) (fun f => ?_)))))))))
 ·have i := cond_t f hm
  refine wc_region (mv rfl ?_)
  obtain ⟨G, s, x⟩ := ob i
  refine wl_sl_h (t := tU8) wn rfl underlying22 tf5 rfl rfl d s fun k l m y => (av rfl (nr (mv rfl (lv (rv_build (cs := #[.slice k l m, .int .i64 0]) sp154 tf154 rfl (by kernel_rfl)) (bx rfl hS fun o H A => ?_)))))
  have B : SH _ _ _ _ _ [obj o [.slice k l m, .int .i64 0] 154] := A
  refine av rfl (nq (wc_ret ?_))
  obtain rfl := oi x
  exact er results49 ⟨rfl, trivial⟩ ⟨o, k, l, m, K, rfl, B, y, (by decide : rng64 0)⟩
 have i := cond_f f hm
 refine wc_skip (qr (mv rfl (lv (rv_build (cs := #[.slice a b c, .int .i64 0]) sp154 tf154 rfl (by kernel_rfl)) (bx rfl hS fun q I C => ?_))))
 have D : SH _ _ _ _ _ [obj q [.slice a b c, .int .i64 0] 154] := C
 refine av rfl (nq (wc_ret ?_))
 obtain rfl := oi i
 exact er results49 ⟨rfl, trivial⟩ ⟨q, a, b, c, K, rfl, D, d, (by decide : rng64 0)⟩

set_option maxHeartbeats 2000000 in
theorem ok_spec_l30Rd_pick (F : Nat) {w : World} {K : KMap} {g1 : Nat} {c : Option Addr} {d f : Nat} {p0_r : GL30Rd} {p1_n : Int} {r : Int × GL30Rd} (hS : SH w K (List.flatMap Item.gs [obj g1 [.slice c d f, .int .i64 p0_r.p_] 154]) w K [obj g1 [.slice c d f, .int .i64 p0_r.p_] 154]) (b : SliceAt tU8 K c d f p0_r.b_) (aE : rng64 p0_r.p_) (aF : rng64 p1_n) (hm : M.spec_l30Rd_pick F p0_r p1_n = some r) :
  Calls Tryz.prog 65 #[.pointer (some ⟨g1, 0, none⟩), .int .i64 p1_n] w fun e w' => ∃ a_2 n_3 c_4 K', e = .returned (.int .i64 r.1) ∧ SH w K (List.flatMap Item.gs [obj g1 [.slice c d f, .int .i64 p0_r.p_] 154]) w' K' [obj g1 [.slice a_2 n_3 c_4, .int .i64 r.2.p_] 154] ∧ rng64 r.1 ∧ SliceAt tU8 K' a_2 n_3 c_4 r.2.b_ ∧ rng64 r.2.p_ := by
 rw [M.spec_l30Rd_pick] at hm
 refine calls_in func65 rfl ntmps65 rfl (sr (lv (rv_assign (v := .int .i64 0) rfl) (nr (mv rfl (mv rfl (lv (rv_nilCheck rfl) (fa ff154_1 rfl (lv (rv_loadm1 tf3 rfl m0 hS rfl) (lv (rv_add rfl rfl) ?_)))))))))
 refine lv (rv_nilCheck rfl) (fa ff154_1 rfl (ls [.slice c d f, .int .i64 (w64 (p0_r.p_ + (1 : Int)))] (.int .i64 (w64 (p0_r.p_ + (1 : Int)))) tf3 hS fun w8 m => (ns (wc_seq ?_))))
 obtain ⟨B, x, C⟩ := ob hm
 refine wc_cutg (fun E' w' => ∃ l, E' = [(0, pt g1), (1, .int .i64 p1_n), (24, .bool B)] ∧ SH w K (List.flatMap Item.gs [obj g1 [.slice c d f, .int .i64 p0_r.p_] 154]) w' l [obj g1 [.slice c d f, .int .i64 (w64 (p0_r.p_ + (1 : Int)))] 154] ∧ KLe K l) ?_ ?_
 ·refine wc_region (mv rfl (lv (rv_lss rfl rfl) (mv rfl ?_)))
  rcases bool_tf (decide (p1_n < (1 : Int))) with a | a
  ·have o := cond_t a x
   refine lu a (lu a (lu a (lu a (lu a (lu a (lv (rv_pick_t (v := .bool true) rfl a rfl) (wl_nil ?_)))))))
   obtain rfl := oi o
   exact qd ⟨K, rfl, m, (KLe.refl _)⟩
  have o := cond_f a x
  refine lg a (rv_move rfl) (lg a (rv_nilCheck rfl) (lg a (rv_fieldAddr ff154_0 rfl) (lg a (rv_loadm1 tf22 rfl m0 m rfl) (lg a (rv_len (t := tU8) underlying22 rfl b) (lg a (rv_eql rfl rfl) (lv (rv_pick_f rfl a rfl) (wl_nil ?_)))))))
  obtain rfl := oi o
  exact qd ⟨K, rfl, m, (KLe.refl _)⟩
 rintro _ aH ⟨l, rfl, k, i⟩
 refine qe_seq (wcc C rfl (fun D q => ?_) (fun D q => ?_))
 ·refine sr (lv (rv_assign (v := .int .i64 0) rfl) (nq (rr ?_)))
  obtain rfl := oi q
  exact er results65 ⟨rfl, trivial⟩ ⟨c, d, f, l, rfl, k, (by decide : rng64 0), (b.mono i), (w64_rng _)⟩
 refine wc_skip (qr (mv rfl (lv (rv_nilCheck rfl) (fa ff154_1 rfl (lv (rv_loadm1 tf3 rfl m0 k rfl) (lv (rv_sub rfl rfl) (av rfl (nsr (mv rfl ?_)))))))))
 refine mv rfl (lv (rv_nilCheck rfl) (fa ff154_0 rfl (lv (rv_loadm1 tf22 rfl m0 k rfl) (lv (rv_len (t := tU8) underlying22 rfl (b.mono i)) (lv (rv_lss rfl rfl) (nq (wcc q rfl (fun G s => ?_) (fun G s => ?_))))))))
 ·refine sr (mv rfl (lv (rv_nilCheck rfl) (fa ff154_0 rfl (lv (rv_loadm1 tf22 rfl m0 k rfl) (mv rfl ?_)))))
  obtain ⟨H, I, J⟩ := ob s
  refine li underlying22 tf5 (b.mono i) I fun O R aI S T => ?_
  obtain rfl := S
  have U : AtK _ O R [iv8 H] := T
  refine lv (rv_load1 tf5 rfl k (U 0 _ rfl)) (lv (rv_b2i underlying5 underlying3 rfl) (mv rfl ?_))
  obtain ⟨aJ, y, V⟩ := ob J
  refine lv (rv_rem rfl rfl y) (av rfl (nq (rr ?_)))
  obtain rfl := oi V
  exact er results65 ⟨rfl, trivial⟩ ⟨c, d, f, l, rfl, k, (rng_rem (rng_u8 _) y), (b.mono i), (w64_rng _)⟩
 refine wc_skip (qs (wc_quiet mixed (by kernel_rfl) k (km rfl (kv (rv_nilCheck rfl) (kv (rv_fieldAddr ff154_0 rfl) (kh (rq_loadm1 tf22 rfl m0 rfl) (km rfl (km rfl (kv (rv_nilCheck rfl) ?_)))))))))
 refine kv (rv_fieldAddr ff154_0 rfl) (kh (rq_loadm1 tf22 rfl m0 rfl) (kv (rv_len (t := tU8) underlying22 rfl (b.mono i)) ?_))
 obtain ⟨aK, W, X⟩ := ob s
 refine kv (rv_rem rfl rfl W) ?_
 obtain ⟨Y, Z, aa⟩ := ob X
 refine ki underlying22 tf5 (b.mono i) Z fun ab ac aL ad ae => ?_
 obtain rfl := ad
 have af : AtK _ ab ac [iv8 Y] := ae
 refine kh (rq_load1 tf5 rfl (af 0 _ rfl)) (kv (rv_b2i underlying5 underlying3 rfl) (kv (rv_mul rfl rfl) (km rfl (kv (rv_nilCheck rfl) (kv (rv_fieldAddr ff154_0 rfl) (kh (rq_loadm1 tf22 rfl m0 rfl) (km rfl (kv (rv_mul rfl rfl) (kv (rv_add rfl rfl) ?_)))))))))
 refine km rfl (kv (rv_nilCheck rfl) (kv (rv_fieldAddr ff154_0 rfl) (kh (rq_loadm1 tf22 rfl m0 rfl) (kv (rv_len (t := tU8) underlying22 rfl (b.mono i)) ?_))))
 obtain ⟨aM, ag, ah⟩ := ob aa
 refine kv (rv_rem rfl rfl ag) ?_
 obtain ⟨ai, aj, ak⟩ := ob ah
 refine ki underlying22 tf5 (b.mono i) aj fun al am aN an ao => ?_
 obtain rfl := an
 have ap : AtK _ al am [iv8 ai] := ao
 refine kh (rq_load1 tf5 rfl (ap 0 _ rfl)) (kv (rv_b2i underlying5 underlying3 rfl) (kv (rv_mul rfl rfl) (kv (rv_add rfl rfl) (km rfl (kv (rv_mul rfl rfl) (kv (rv_add rfl rfl) (km rfl (km rfl (kv (rv_nilCheck rfl) ?_)))))))))
 refine kv (rv_fieldAddr ff154_0 rfl) (kh (rq_loadm1 tf22 rfl m0 rfl) (kv (rv_len (t := tU8) underlying22 rfl (b.mono i)) ?_))
 obtain ⟨aO, aq, ar⟩ := ob ak
 refine kv (rv_quo rfl rfl aq) (kv (rv_mul rfl rfl) (kv (rv_add rfl rfl) ?_))
 obtain ⟨aP, au, aw⟩ := ob ar
 have ax := oi au
 refine kv (rv_as rfl (congrArg (Value.int .i64) ax)) (wq_nil ?_)
 rintro aQ ⟨ay, az, aA⟩
 refine qr (mv rfl (mv rfl ?_))
 obtain ⟨aR, aB, aC⟩ := ob aw
 refine lv (rv_quo rfl rfl aB) (lv (rv_xor rfl rfl) (av rfl (nr (mv rfl (mv rfl ?_)))))
 obtain ⟨aS, A, aD⟩ := ob aC
 refine lv (rv_rem rfl rfl A) (av rfl (nq (wc_ret ?_)))
 obtain rfl := oi aD
 exact er results65 ⟨rfl, trivial⟩ ⟨c, d, f, ay, rfl, az, (rng_rem (w64_rng _) A), (b.mono (i.trans aA)), (w64_rng _)⟩

set_option maxHeartbeats 2000000 in
theorem ok_spec_l7Put (F : Nat) {w : World} {K : KMap} {a : Option Addr} {b c : Nat} {p0_list : List Str} {p1_s : Str} {r : (List Str)} (hS : SH w K (List.flatMap Item.gs [tail (.slice a b c) 9 1]) w K [tail (.slice a b c) 9 1]) (i : SliceAt tStr K a b c p0_list) (W : p1_s.length ≤ maxLen) (hm : M.spec_l7Put F p0_list p1_s = some r) :
  Calls Tryz.prog 170 #[.slice a b c, sv p1_s] w fun e w' => ∃ a_1 n_2 c_3 K', e = .returned (.slice a_1 n_2 c_3) ∧ SH w K (List.flatMap Item.gs [tail (.slice a b c) 9 1]) w' K' [tail (.slice a_1 n_2 c_3) 9 1] ∧ SliceAt tStr K' a_1 n_2 c_3 r := by
 rw [M.spec_l7Put] at hm
 refine calls_in func170 rfl ntmps170 rfl (sr (lv (rv_assign (v := .slice none 0 0) rfl) (nr (lv (rv_assign (v := .int .i64 0) rfl) (ns ?_)))))
 obtain ⟨s, X, Y⟩ := ob hm
 refine wc_cutg (fun E' w' => ∃ k, E' = [(0, .slice a b c), (1, sv p1_s), (5, .int .i64 s)] ∧ SH w K (List.flatMap Item.gs [tail (.slice a b c) 9 1]) w' k [tail (.slice a b c) 9 1] ∧ KLe K k ∧ rng64 s) ?_ ?_
 ·refine wc_block ?_
  obtain ⟨a8, Z, aa⟩ := ob X
  refine qw (fun (m : Int) E' w' => ∃ l, E' = [(0, .slice a b c), (1, sv p1_s), (5, .int .i64 m)] ∧ SH w K (List.flatMap Item.gs [tail (.slice a b c) 9 1]) w' l [tail (.slice a b c) 9 1] ∧ KLe K l ∧ rng64 m) Z ⟨K, rfl, hS, (KLe.refl _), (by decide : rng64 0)⟩ ?_
  rintro m _ a9 ba ab ac ⟨l, rfl, A, x, ad⟩
  refine wc_seq (wc_seq ?_)
  obtain ⟨ae, J, af⟩ := ob ab
  refine wc_cutg (fun E' w' => ∃ o, E' = [(0, .slice a b c), (1, sv p1_s), (5, .int .i64 m), (18, .bool ae)] ∧ SH w K (List.flatMap Item.gs [tail (.slice a b c) 9 1]) w' o [tail (.slice a b c) 9 1] ∧ KLe l o) ?_ ?_
  ·refine wc_region (mv rfl (mv rfl (lv (rv_len (t := tStr) underlying23 rfl (i.mono x)) (lv (rv_lss rfl rfl) (mv rfl ?_)))))
   rcases bool_tf (decide (m < (p0_list.length : Int))) with d | d
   ·have B := cond_t d J
    refine lg d (rv_move rfl) (lg d (rv_move rfl) ?_)
    obtain ⟨ag, ah, ai⟩ := ob B
    refine wl_indexAddr (t := tStr) (wg rfl rfl d) rfl underlying23 tf9 rfl rfl (i.mono x) ah fun aj ak bb al am => ?_
    obtain ⟨rfl, bc⟩ := al
    have an : AtK _ aj ak [sv ag] := am
    refine lg d (rv_load1 tf9 rfl A (an 0 _ rfl)) (lg d (rv_move rfl) (lg d (rv_slss rfl rfl) (lv (rv_pick_t rfl d rfl) (wl_nil ?_))))
    obtain rfl := oi ai
    exact qd ⟨l, rfl, A, (KLe.refl _)⟩
   have B := cond_f d J
   refine lu d (lu d (lu d (lu d (lu d (lu d (lv (rv_pick_f (v := .bool false) rfl d rfl) (wl_nil ?_)))))))
   obtain rfl := oi B
   exact qd ⟨l, rfl, A, (KLe.refl _)⟩
  rintro _ bd ⟨o, rfl, O, R⟩
  refine qe_seq (wcc af rfl (fun ao C => ?_) (fun ao C => ?_))
  ·refine wc_skip (qe_seq (wc_block (wc_region (mv rfl (lv (rv_add rfl rfl) (av rfl (nb ?_)))))))
   obtain rfl := oi C
   exact qd ⟨_, rfl, o, rfl, O, (x.trans R), (w64_rng _)⟩
  refine wc_exit (qe_then_exit (qe_then_exit ?_))
  obtain rfl := oi C
  have ap := ac _ rfl
  subst ap
  refine qe_block_eq ?_
  obtain rfl := oi aa
  exact qd ⟨o, rfl, O, (x.trans R), ad⟩
 rintro _ be ⟨k, rfl, D, q, bf⟩
 refine qs (wc_seq ?_)
 obtain ⟨aq, S, ar⟩ := ob Y
 refine wc_cutg (fun E' w' => ∃ y, E' = [(0, .slice a b c), (1, sv p1_s), (5, .int .i64 s), (32, .bool aq)] ∧ SH w K (List.flatMap Item.gs [tail (.slice a b c) 9 1]) w' y [tail (.slice a b c) 9 1] ∧ KLe k y) ?_ ?_
 ·refine wc_region (mv rfl (mv rfl (lv (rv_len (t := tStr) underlying23 rfl (i.mono q)) (lv (rv_lss rfl rfl) (mv rfl ?_)))))
  rcases bool_tf (decide (s < (p0_list.length : Int))) with f | f
  ·have G := cond_t f S
   refine lg f (rv_move rfl) (lg f (rv_move rfl) ?_)
   obtain ⟨au, aw, ax⟩ := ob G
   refine wl_indexAddr (t := tStr) (wg rfl rfl f) rfl underlying23 tf9 rfl rfl (i.mono q) aw fun ay az bg aA aB => ?_
   obtain ⟨rfl, bh⟩ := aA
   have aC : AtK _ ay az [sv au] := aB
   refine lg f (rv_load1 tf9 rfl D (aC 0 _ rfl)) (lg f (rv_move rfl) (lg f (rv_seql rfl rfl) (lv (rv_pick_t rfl f rfl) (wl_nil ?_))))
   obtain rfl := oi ax
   exact qd ⟨k, rfl, D, (KLe.refl _)⟩
  have G := cond_f f S
  refine lu f (lu f (lu f (lu f (lu f (lu f (lv (rv_pick_f (v := .bool false) rfl f rfl) (wl_nil ?_)))))))
  obtain rfl := oi G
  exact qd ⟨k, rfl, D, (KLe.refl _)⟩
 rintro _ bi ⟨y, rfl, T, H⟩
 refine qe_seq (wcc ar rfl (fun aD I => ?_) (fun aD I => ?_))
 ·refine sr (mv rfl (av rfl (nq (rr ?_))))
  obtain rfl := oi I
  exact er results170 ⟨rfl, trivial⟩ ⟨a, b, c, y, rfl, T, (i.mono (q.trans H))⟩
 refine wc_skip (qr (b0 tStr underlying23 tf9 T fun bj bk bl U aE aF => (mv rfl (mv rfl ?_))))
 obtain ⟨bm, aG, aH⟩ := ob I
 refine wl_sl_h (t := tStr) wn rfl underlying23 tf9 rfl rfl (i.mono ((q.trans H).trans U)) aG fun bn bo bp aI => ?_
 obtain ⟨bq, aJ, aK⟩ := ob aH
 refine lp underlying23 tf9 aE aI aJ aF fun br bs bt bu bv aL aM aN => (av rfl (nr (mv rfl (mv rfl (lb tStr (sv p1_s) [sv p1_s] p1_s underlying23 tf9 ⟨rfl, W⟩ aN fun bw bx bz V aO aP => ?_)))))
 obtain ⟨bA, aQ, aR⟩ := ob aK
 refine lp underlying23 tf9 (aM.mono V) aO aQ aP.f1 fun bB bC bD bE bF aS aT aU => (av rfl (nr (mv rfl (mv rfl (mv rfl ?_)))))
 obtain ⟨bG, aV, aW⟩ := ob aR
 refine wl_sl_l (t := tStr) wn rfl underlying23 tf9 rfl rfl (SliceAt.mono (((((q.trans H).trans U).trans aL).trans V).trans aS) i) aV fun bH bI bJ aX => ?_
 obtain ⟨bK, aY, aZ⟩ := ob aW
 refine lp underlying23 tf9 aT aX aY aU fun a0 a2 a3 bL a4 bM a5 a6 => (av rfl (nq (wc_ret ?_)))
 obtain rfl := oi aZ
 have a7 := a6.sb (sk (sd (sd sz)))
 exact er results170 ⟨rfl, trivial⟩ ⟨a0, a2, a3, a4, rfl, a7, a5⟩

set_option maxHeartbeats 2000000 in
theorem ok_spec_l7Names (F : Nat) {w : World} {K : KMap} {o : Option Addr} {q s : Nat} {p0_docs : List GDoc} {r : (List Str)} (hS : SH w K [] w K []) (S : SliceAt tGDoc K o q s p0_docs) (hm : M.spec_l7Names F p0_docs = some r) :
  Calls Tryz.prog 132 #[.slice o q s] w fun e w' => ∃ a_1 n_2 c_3 K', e = .returned (.slice a_1 n_2 c_3) ∧ SH w K [] w' K' [tail (.slice a_1 n_2 c_3) 9 1] ∧ SliceAt tStr K' a_1 n_2 c_3 r := by
 rw [M.spec_l7Names] at hm
 refine calls_in func132 rfl ntmps132 rfl (sr (lv (rv_assign (v := .slice none 0 0) rfl) (nr (b0 tStr underlying23 tf9 hS fun a5 w6 T U ad ae => (av rfl (nsr (lv (rv_assign (v := .int .i64 0) rfl) (nq ?_))))))))
 obtain ⟨af, ag, ah⟩ := ob hm
 refine wc_cutg (fun E' w' => ∃ x y A B, E' = [(3, .slice x y A)] ∧ SH w K [] w' B [tail (.slice x y A) 9 1] ∧ KLe T B ∧ SliceAt tStr B x y A af) ?_ ?_
 ·refine wc_block ?_
  obtain ⟨bs, ai, aj⟩ := ob ag
  refine qw (fun (b : (List Str) × Int) E' w' => ∃ c d f a, E' = [(0, .slice o q s), (3, .slice c d f), (4, .int .i64 b.2)] ∧ SH w K [] w' a [tail (.slice c d f) 9 1] ∧ KLe T a ∧ SliceAt tStr a c d f b.1 ∧ rng64 b.2) ai ⟨a5, 0, 0, T, rfl, ae, (KLe.refl _), ad, (by decide : rng64 0)⟩ ?_
  rintro b _ bt bu ak al ⟨c, d, f, a, rfl, Y, C, Z, bv⟩
  refine wc_seq (sr (mv rfl (mv rfl (lv (rv_len (t := tGDoc) underlying27 rfl (S.mono (U.trans C))) (lv (rv_lss rfl rfl) (nq (wcc ak rfl (fun am V => ?_) (fun am V => ?_))))))))
  ·refine wc_skip (qs (wc_block (sr (lv (rv_assign (v := .int .i64 0) rfl) (nq ?_)))))
   obtain ⟨an, ao, ap⟩ := ob V
   refine wc_cutg (fun E' w' => ∃ D G H I, E' = [(0, .slice o q s), (3, .slice D G H), (4, .int .i64 b.2)] ∧ SH w K [] w' I [tail (.slice D G H) 9 1] ∧ KLe a I ∧ SliceAt tStr I D G H an) ?_ ?_
   ·refine wc_block ?_
    obtain ⟨bw, aq, ar⟩ := ob ao
    refine qw (fun (O : (List Str) × Int) E' w' => ∃ i k l J, E' = [(0, .slice o q s), (3, .slice i k l), (4, .int .i64 b.2), (5, .int .i64 O.2)] ∧ SH w K [] w' J [tail (.slice i k l) 9 1] ∧ KLe a J ∧ SliceAt tStr J i k l O.1 ∧ rng64 O.2) aq ⟨c, d, f, a, rfl, Y, (KLe.refl _), Z, (by decide : rng64 0)⟩ ?_
    rintro O _ bx bz au aw ⟨i, k, l, J, rfl, m, R, aa, bA⟩
    refine wc_seq (sr (mv rfl (mv rfl (mv rfl ?_))))
    obtain ⟨ax, ay, az⟩ := ob au
    refine li underlying27 tf71 (S.mono ((U.trans C).trans R)) ay fun aA aB bB aC aD => ?_
    obtain ⟨aE, aF, aG, aH, aI, aJ, rfl, bC, aK, bD⟩ := aC
    have aL : AtK _ aA aB [.int .i64 ax.Id, .slice aE aF aG, .slice aH aI aJ] := aD
    refine fa ff71_1 rfl (lv (rv_load1 tf68 rfl m (aL 1 _ rfl)) (lv (rv_len (t := tGField) underlying68 rfl aK) (lv (rv_lss rfl rfl) (nq (wcc az rfl (fun aM W => ?_) (fun aM W => ?_))))))
    ·refine wc_skip (qs (wc_block (wc_region (mv rfl (mv rfl (mv rfl ?_))))))
     obtain ⟨aN, aO, aP⟩ := ob W
     refine li underlying27 tf71 (S.mono ((U.trans C).trans R)) aO fun aQ aR bE aS aT => ?_
     obtain ⟨aU, aV, aW, aX, aY, aZ, rfl, bF, a0, bG⟩ := aS
     have a2 : AtK _ aQ aR [.int .i64 aN.Id, .slice aU aV aW, .slice aX aY aZ] := aT
     refine fa ff71_1 rfl (lv (rv_load1 tf68 rfl m (a2 1 _ rfl)) (mv rfl ?_))
     obtain ⟨X, a3, a4⟩ := ob aP
     refine li underlying68 tf141 a0 a3 fun a6 a7 bH a8 a9 => ?_
     obtain ⟨rfl, ba, bI⟩ := a8
     have bb : AtK _ a6 a7 [sv X.Name, sv X.Text] := a9
     refine fa ff141_0 rfl (lv (rv_load1 tf9 rfl m (bb 0 _ rfl)) ?_)
     obtain ⟨bJ, bc, bd⟩ := ob a4
     refine lc (vs := [.slice i k l, sv X.Name]) co170 ((ok_spec_l7Put F) m.e1 aa ba bc) ?_
     rintro bK bL ⟨be, bf, bg, bh, rfl, ab, bi⟩
     refine ⟨_, rfl, ?_⟩
     have bj := (m.c1 ab).t1
     refine av rfl (nb (qe_seq (wc_region (mv rfl (lv (rv_add rfl rfl) (av rfl (wl_nil ?_)))))))
     obtain rfl := oi bd
     exact qd ⟨_, rfl, be, bf, bg, bh, rfl, bj, (R.trans ab.le), bi, (w64_rng _)⟩
    refine wc_exit (qe_then_exit (qe_then_exit ?_))
    obtain rfl := oi W
    have bk := aw _ rfl
    subst bk
    refine qe_block_eq ?_
    obtain rfl := oi ar
    exact qd ⟨i, k, l, J, rfl, m, R, aa⟩
   rintro _ bM ⟨D, G, H, I, rfl, bl, bm, bn⟩
   refine qe_block (qe_seq (wc_region (mv rfl (lv (rv_add rfl rfl) (av rfl (wl_nil ?_))))))
   obtain rfl := oi ap
   exact qd ⟨_, rfl, D, G, H, I, rfl, bl, (C.trans bm), bn, (w64_rng _)⟩
  refine wc_exit (qe_then_exit (qe_then_exit ?_))
  obtain rfl := oi V
  have bo := al _ rfl
  subst bo
  refine qe_block_eq ?_
  obtain rfl := oi aj
  exact qd ⟨c, d, f, a, rfl, Y, C, Z⟩
 rintro _ bN ⟨x, y, A, B, rfl, bp, bO, bq⟩
 refine qr (mv rfl (av rfl (nq (wc_ret ?_))))
 obtain rfl := oi ah
 exact er results132 ⟨rfl, trivial⟩ ⟨x, y, A, B, rfl, bp, bq⟩

theorem ok_spec_l2Has (F : Nat) {w : World} {K : KMap} {i : Option Addr} {k l : Nat} {p0_list : List Str} {p1_s : Str} {r : Bool} (hS : SH w K [] w K []) (s : SliceAt tStr K i k l p0_list) (aa : p1_s.length ≤ maxLen) (hm : M.spec_l2Has F p0_list p1_s = some r) :
  Calls Tryz.prog 76 #[.slice i k l, sv p1_s] w fun e w' => ∃ K', e = .returned (.bool r) ∧ SH w K [] w' K' [] := by
 rw [M.spec_l2Has] at hm
 refine calls_in func76 rfl ntmps76 rfl (sr (lv (rv_assign (v := .bool false) rfl) (nsr (lv (rv_assign (v := .int .i64 0) rfl) (nq ?_)))))
 obtain ⟨B, C, b⟩ := ob hm
 refine wc_cutg (fun E' w' => ∃ x c, B = .inl x ∧ E' = [] ∧ SH w K [] w' c [] ∧ KLe K c) ?_ ?_
 ·refine wc_block ?_
  obtain ⟨ab, D, y⟩ := ob C
  refine qw (fun (m : Int) E' w' => ∃ a, E' = [(0, .slice i k l), (1, sv p1_s), (5, .int .i64 m)] ∧ SH w K [] w' a [] ∧ KLe K a ∧ rng64 m) D ⟨K, rfl, hS, (KLe.refl _), (by decide : rng64 0)⟩ ?_
  rintro m _ ac ad G A ⟨a, rfl, d, f, ae⟩
  refine wc_seq (sr (mv rfl (mv rfl (lv (rv_len (t := tStr) underlying23 rfl (s.mono f)) (lv (rv_lss rfl rfl) (nq (wcc G rfl (fun H o => ?_) (fun H o => ?_))))))))
  ·refine wc_skip (qs (wc_block (sr (mv rfl (mv rfl ?_)))))
   obtain ⟨I, J, O⟩ := ob o
   refine li underlying23 tf9 (s.mono f) J fun R S af T U => ?_
   obtain ⟨rfl, ag⟩ := T
   have V : AtK _ R S [sv I] := U
   refine lv (rv_load1 tf9 rfl d (V 0 _ rfl)) (mv rfl (lv (rv_seql rfl rfl) (nq (wcc O rfl (fun W q => ?_) (fun W q => ?_)))))
   ·refine sr (lv (rv_assign (v := .bool true) rfl) (nq (wc_ret (qe_block_ret (qe_then_ret (qe_then_ret ?_))))))
    obtain rfl := oi q
    have X := A _ rfl
    subst X
    refine qe_block_ret (qe_then_ret ?_)
    obtain rfl := oi y
    refine qe_then_ret ?_
    obtain rfl := oi b
    exact er results76 ⟨rfl, trivial⟩ ⟨a, rfl, d⟩
   refine wc_skip (qe_block (qe_seq (wc_region (mv rfl (lv (rv_add rfl rfl) (av rfl (wl_nil ?_)))))))
   obtain rfl := oi q
   exact qd ⟨_, rfl, a, rfl, d, f, (w64_rng _)⟩
  refine wc_exit (qe_then_exit (qe_then_exit ?_))
  obtain rfl := oi o
  have Y := A _ rfl
  subst Y
  refine qe_block_eq ?_
  obtain rfl := oi y
  exact qe_mid' ⟨_, a, rfl, rfl, d, f⟩ trivial
 rintro _ ah ⟨x, c, rfl, rfl, Z, ai⟩
 have b := elim_l b
 refine qr (lv (rv_assign (v := .bool false) rfl) (nq (wc_ret ?_)))
 obtain rfl := oi b
 exact er results76 ⟨rfl, trivial⟩ ⟨c, rfl, Z⟩

theorem ok_spec_l2Ends (F : Nat) {w : World} {K : KMap} {r : (List Str)} (hS : SH w K [] w K []) (hm : M.spec_l2Ends F  = some r) :
  Calls Tryz.prog 186 #[] w fun e w' => ∃ a_1 n_2 c_3 K', e = .returned (.slice a_1 n_2 c_3) ∧ SH w K [] w' K' [tail (.slice a_1 n_2 c_3) 9 1] ∧ SliceAt tStr K' a_1 n_2 c_3 r := by
 rw [M.spec_l2Ends] at hm
 refine calls_in func186 rfl ntmps186 rfl (sr (lv (rv_assign (v := .slice none 0 0) rfl) (nr (wl_buildSlice (t := tStr) (n := 5) (pv := [(0, sv [105, 110, 103]), (1, sv [101, 100]), (2, sv [101, 115]), (3, sv [108, 121]), (4, sv [115])]) (cs := [sv [105, 110, 103], sv [101, 100], sv [101, 115], sv [108, 121], sv [115]]) (xs := [([105, 110, 103] : Str), ([101, 100] : Str), ([101, 115] : Str), ([108, 121] : Str), ([115] : Str)]) wn rfl underlying23 tf9 rfl rfl rfl (by kernel_rfl) rfl rfl (lit_cons (u := sv [105, 110, 103]) (z := ([105, 110, 103] : Str)) ⟨rfl, (by decide : ([105, 110, 103] : Str).length ≤ maxLen)⟩ (lit_cons (u := sv [101, 100]) (z := ([101, 100] : Str)) ⟨rfl, (by decide : ([101, 100] : Str).length ≤ maxLen)⟩ (lit_cons (u := sv [101, 115]) (z := ([101, 115] : Str)) ⟨rfl, (by decide : ([101, 115] : Str).length ≤ maxLen)⟩ (lit_cons (u := sv [108, 121]) (z := ([108, 121] : Str)) ⟨rfl, (by decide : ([108, 121] : Str).length ≤ maxLen)⟩ (lit_cons (u := sv [115]) (z := ([115] : Str)) ⟨rfl, (by decide : ([115] : Str).length ≤ maxLen)⟩ lit_nil))))) hS fun a f b i c d => (av rfl (nq (wc_ret ?_)))))))
 obtain rfl := oi hm
 exact er results186 ⟨rfl, trivial⟩ ⟨a, 5, 5, b, rfl, d, c⟩

set_option maxHeartbeats 2000000 in
theorem ok_spec_l2Once (F : Nat) {w : World} {K : KMap} {p0_s : Str} {r : Str} (hS : SH w K [] w K []) (A : p0_s.length ≤ maxLen) (hm : M.spec_l2Once F p0_s = some r) :
  Calls Tryz.prog 152 #[sv p0_s] w fun e w' => ∃ K', e = .returned (sv r) ∧ SH w K [] w' K' [] ∧ r.length ≤ maxLen := by
 rw [M.spec_l2Once] at hm
 refine calls_in func152 rfl ntmps152 rfl (sr (lv (rv_assign (v := sv []) rfl) (nsr (lv (rv_assign (v := .int .i64 0) rfl) (nq ?_)))))
 obtain ⟨S, T, c⟩ := ob hm
 refine wc_cutg (fun E' w' => ∃ B d, S = .inl B ∧ E' = [(0, sv p0_s)] ∧ SH w K [] w' d [] ∧ KLe K d) ?_ ?_
 ·refine wc_block ?_
  obtain ⟨aB, U, C⟩ := ob T
  refine qw (fun (f : Int) E' w' => ∃ i, E' = [(0, sv p0_s), (3, .int .i64 f)] ∧ SH w K [] w' i [] ∧ KLe K i ∧ rng64 f) U ⟨K, rfl, hS, (KLe.refl _), (by decide : rng64 0)⟩ ?_
  rintro f _ aC aD V D ⟨i, rfl, G, H, aE⟩
  refine wc_seq (sr (mv rfl ?_))
  obtain ⟨aF, W, X⟩ := ob V
  refine lc (vs := []) co186 ((ok_spec_l2Ends F) G.enter0  W) ?_
  rintro aG aH ⟨aI, aJ, aK, Y, rfl, k, Z⟩
  refine ⟨_, rfl, ?_⟩
  have l := (G.c0 k).t1
  refine lv (rv_len (t := tStr) underlying23 rfl Z) (lv (rv_lss rfl rfl) (nq (wcc X rfl (fun aa m => ?_) (fun aa m => ?_))))
  ·refine wc_skip (qs (wc_block (sr ?_)))
   obtain ⟨aL, ab, ac⟩ := ob m
   refine lc (vs := []) co186 ((ok_spec_l2Ends F) l.enter0  ab) ?_
   rintro aM aN ⟨aO, aP, aQ, o, rfl, I, ad⟩
   refine ⟨_, rfl, ?_⟩
   have q := (l.c0 I).t2
   refine mv rfl ?_
   obtain ⟨s, ae, af⟩ := ob ac
   refine li underlying23 tf9 ad ae fun ag ah aR ai aj => ?_
   obtain ⟨rfl, aS⟩ := ai
   have ak : AtK _ ag ah [sv s] := aj
   refine lv (rv_load1 tf9 rfl q (ak 0 _ rfl)) (av rfl (nr (mv rfl (lv (rv_slen underlying9 rfl) (mv rfl (lv (rv_slen underlying9 rfl) (lv (rv_sub rfl rfl) (av rfl (ns ?_)))))))))
   obtain ⟨al, J, am⟩ := ob af
   refine wc_cutg (fun E' w' => ∃ b, E' = [(0, sv p0_s), (3, .int .i64 f), (5, .int .i64 (w64 ((p0_s.length : Int) - (s.length : Int)))), (29, .bool al)] ∧ SH w K [] w' b [] ∧ KLe o b) ?_ ?_
   ·refine wc_region (mv rfl (lv (rv_geq rfl rfl) (mv rfl ?_)))
    rcases bool_tf (decide ((3 : Int) ≤ (w64 ((p0_s.length : Int) - (s.length : Int))))) with a | a
    ·have x := cond_t a J
     refine lg a (rv_move rfl) (lg a (rv_move rfl) ?_)
     obtain ⟨aT, an, ao⟩ := ob x
     refine lg a (rv_ssl_l underlying9 rfl rfl an) (lg a (rv_move rfl) (lg a (rv_seql rfl rfl) (lv (rv_pick_t rfl a rfl) (wl_nil ?_))))
     obtain rfl := oi ao
     have ap := q.sb (sd (sd sz))
     exact qd ⟨o, rfl, ap, (KLe.refl _)⟩
    have x := cond_f a J
    refine lu a (lu a (lu a (lu a (lu a (lv (rv_pick_f (v := .bool false) rfl a rfl) (wl_nil ?_))))))
    obtain rfl := oi x
    have aq := q.sb (sd (sd sz))
    exact qd ⟨o, rfl, aq, (KLe.refl _)⟩
   rintro _ aU ⟨b, rfl, O, ar⟩
   refine qe_seq (wcc am rfl (fun au y => ?_) (fun au y => ?_))
   ·refine sr (mv rfl (mv rfl ?_))
    obtain ⟨aV, R, aw⟩ := ob y
    refine lv (rv_ssl_h underlying9 rfl rfl R) (av rfl (nq (wc_ret (qe_block_ret (qe_then_ret (qe_then_ret ?_))))))
    obtain rfl := oi aw
    have ax := D _ rfl
    subst ax
    refine qe_block_ret (qe_then_ret ?_)
    obtain rfl := oi C
    refine qe_then_ret ?_
    obtain rfl := oi c
    exact er results152 ⟨rfl, trivial⟩ ⟨b, rfl, O, (len_sub A R)⟩
   refine wc_skip (qe_block (qe_seq (wc_region (mv rfl (lv (rv_add rfl rfl) (av rfl (wl_nil ?_)))))))
   obtain rfl := oi y
   exact qd ⟨_, rfl, b, rfl, O, (((H.trans k.le).trans I.le).trans ar), (w64_rng _)⟩
  refine wc_exit (qe_then_exit (qe_then_exit ?_))
  obtain rfl := oi m
  have ay := D _ rfl
  subst ay
  refine qe_block_eq ?_
  obtain rfl := oi C
  have az := l.sb (sd sz)
  exact qd ⟨_, Y, rfl, rfl, az, (H.trans k.le)⟩
 rintro _ w8 ⟨B, d, rfl, rfl, aA, aX⟩
 have c := elim_l c
 refine qr (mv rfl (av rfl (nq (wc_ret ?_))))
 obtain rfl := oi c
 exact er results152 ⟨rfl, trivial⟩ ⟨d, rfl, aA, A⟩

theorem ok_spec_l2Stem (F : Nat) {w : World} {K : KMap} {p0_s : Str} {r : Str} (hS : SH w K [] w K []) (s : p0_s.length ≤ maxLen) (hm : M.spec_l2Stem F p0_s = some r) :
  Calls Tryz.prog 102 #[sv p0_s] w fun e w' => ∃ K', e = .returned (sv r) ∧ SH w K [] w' K' [] ∧ r.length ≤ maxLen := by
 rw [M.spec_l2Stem] at hm
 refine calls_in func102 rfl ntmps102 rfl (sr (lv (rv_assign (v := sv []) rfl) (ns ?_)))
 obtain ⟨l, x, y⟩ := ob hm
 refine wc_cutg (fun E' w' => ∃ b, E' = [(0, sv l)] ∧ SH w K [] w' b [] ∧ KLe K b ∧ l.length ≤ maxLen) ?_ ?_
 ·refine wc_block ?_
  obtain ⟨Y, A, B⟩ := ob x
  refine qw (fun (a : Str) E' w' => ∃ c, E' = [(0, sv a)] ∧ SH w K [] w' c [] ∧ KLe K c ∧ a.length ≤ maxLen) A ⟨K, rfl, hS, (KLe.refl _), s⟩ ?_
  rintro a _ Z aa C D ⟨c, rfl, m, o, d⟩
  refine wc_seq (sr (mv rfl ?_))
  obtain ⟨ab, G, H⟩ := ob C
  refine lc (vs := [sv a]) co152 ((ok_spec_l2Once F) m.enter0 d G) ?_
  rintro ac ad ⟨I, rfl, f, ae⟩
  refine ⟨_, rfl, ?_⟩
  have i := (m.c0 f).t0
  refine mv rfl (lv (rv_sneq rfl rfl) (nq (wcc H rfl (fun J k => ?_) (fun J k => ?_))))
  ·refine wc_skip (qe_seq (wc_block (wc_region (mv rfl ?_))))
   obtain ⟨af, O, R⟩ := ob k
   refine lc (vs := [sv a]) co152 ((ok_spec_l2Once F) i.enter0 d O) ?_
   rintro ag ah ⟨S, rfl, q, T⟩
   refine ⟨_, rfl, ?_⟩
   have U := (i.c0 q).t0
   refine av rfl (nb ?_)
   obtain rfl := oi R
   exact qd ⟨_, rfl, S, rfl, U, ((o.trans f.le).trans q.le), T⟩
  refine wc_exit (qe_then_exit (qe_then_exit ?_))
  obtain rfl := oi k
  have V := D _ rfl
  subst V
  refine qe_block_eq ?_
  obtain rfl := oi B
  exact qd ⟨I, rfl, i, (o.trans f.le), d⟩
 rintro _ w7 ⟨b, rfl, W, aj, X⟩
 refine qr (mv rfl (av rfl (nq (wc_ret ?_))))
 obtain rfl := oi y
 exact er results102 ⟨rfl, trivial⟩ ⟨b, rfl, W, X⟩

set_option maxHeartbeats 2000000 in
theorem ok_spec_l1Fold (F : Nat) {w : World} {K : KMap} {p0_b : UInt8} {r : UInt8} (hS : SH w K [] w K []) (hm : M.spec_l1Fold F p0_b = some r) :
  Calls Tryz.prog 117 #[iv8 p0_b] w fun e w' => ∃ K', e = .returned (iv8 r) ∧ SH w K [] w' K' [] := by
 rw [M.spec_l1Fold] at hm
 refine calls_in func117 rfl ntmps117 rfl (sr (lv (rv_assign (v := iv8 0) rfl) (ns (wc_block (wc_seq ?_)))))
 obtain ⟨H, C, I⟩ := ob hm
 refine wc_cutg (fun E' w' => ∃ c, E' = [(0, iv8 p0_b), (3, .bool H)] ∧ SH w K [] w' c [] ∧ KLe K c) ?_ ?_
 ·refine wc_region (mv rfl (lv (rv_bge (b := (65 : UInt8)) rfl rfl) (mv rfl ?_)))
  rcases bool_tf (decide ((65 : UInt8) ≤ p0_b)) with d | d
  ·have s := cond_t d C
   refine lg d (rv_move rfl) (lg d (rv_ble (b := (90 : UInt8)) rfl rfl) (lv (rv_pick_t rfl d rfl) (av rfl (wl_nil ?_))))
   obtain rfl := oi s
   exact qd ⟨K, rfl, hS, (KLe.refl _)⟩
  have s := cond_f d C
  refine lu d (lu d (lv (rv_pick_f (v := .bool false) rfl d rfl) (av rfl (wl_nil ?_))))
  obtain rfl := oi s
  exact qd ⟨K, rfl, hS, (KLe.refl _)⟩
 rintro _ T ⟨c, rfl, l, U⟩
 refine qe_seq (wcc I rfl (fun J x => ?_) (fun J x => ?_))
 ·refine sr (mv rfl (lv (rv_badd (b := (32 : UInt8)) rfl rfl) (av rfl (nq (wc_ret (qe_block_ret (qe_then_ret ?_)))))))
  obtain rfl := oi x
  exact er results117 ⟨rfl, trivial⟩ ⟨c, rfl, l⟩
 refine wc_seq ?_
 obtain ⟨O, D, R⟩ := ob x
 refine wc_cutg (fun E' w' => ∃ m, E' = [(0, iv8 p0_b), (12, .bool O)] ∧ SH w K [] w' m [] ∧ KLe c m) ?_ ?_
 ·refine wc_region (mv rfl (lv (rv_bge (b := (97 : UInt8)) rfl rfl) (mv rfl ?_)))
  rcases bool_tf (decide ((97 : UInt8) ≤ p0_b)) with f | f
  ·have o := cond_t f D
   refine lg f (rv_move rfl) (lg f (rv_ble (b := (122 : UInt8)) rfl rfl) (lv (rv_pick_t rfl f rfl) (mv rfl ?_)))
   rcases bool_tf (decide (p0_b ≤ (122 : UInt8))) with a | a
   ·have q := cond_t a o
    refine lu a (lu a (lu a (wl_un (uu rfl rfl) rfl (wl_un (uu rfl rfl) rfl (lu a (lv (rv_pick_t (v := .bool true) rfl a rfl) (av rfl (wl_nil ?_))))))))
    obtain rfl := oi q
    exact qd ⟨c, rfl, l, (KLe.refl _)⟩
   have q := cond_f a o
   refine lg a (rv_move rfl) (lg a (rv_bge (b := (48 : UInt8)) rfl rfl) (lg a (rv_move rfl) ?_))
   rcases bool_tf (decide ((48 : UInt8) ≤ p0_b)) with i | i
   ·have y := cond_t i q
    refine lg i (rv_move rfl) (lg i (rv_ble (b := (57 : UInt8)) rfl rfl) (lg a (rv_pick_t rfl i rfl) (lv (rv_pick_f rfl a rfl) (av rfl (wl_nil ?_)))))
    obtain rfl := oi y
    exact qd ⟨c, rfl, l, (KLe.refl _)⟩
   have y := cond_f i q
   refine lu i (lu i (lg a (rv_pick_f (v := .bool false) rfl i rfl) (lv (rv_pick_f rfl a rfl) (av rfl (wl_nil ?_)))))
   obtain rfl := oi y
   exact qd ⟨c, rfl, l, (KLe.refl _)⟩
  have o := cond_f f D
  refine lu f (lu f (lv (rv_pick_f (v := .bool false) rfl f rfl) (mv rfl (lg rfl (rv_move rfl) (lg rfl (rv_bge (b := (48 : UInt8)) rfl rfl) (lg rfl (rv_move rfl) ?_))))))
  rcases bool_tf (decide ((48 : UInt8) ≤ p0_b)) with k | k
  ·have A := cond_t k o
   refine lg k (rv_move rfl) (lg k (rv_ble (b := (57 : UInt8)) rfl rfl) (lg rfl (rv_pick_t rfl k rfl) (lv (rv_pick_f rfl rfl rfl) (av rfl (wl_nil ?_)))))
   obtain rfl := oi A
   exact qd ⟨c, rfl, l, (KLe.refl _)⟩
  have A := cond_f k o
  refine lu k (lu k (lg rfl (rv_pick_f (v := .bool false) rfl k rfl) (lv (rv_pick_f rfl rfl rfl) (av rfl (wl_nil ?_)))))
  obtain rfl := oi A
  exact qd ⟨c, rfl, l, (KLe.refl _)⟩
 rintro _ V ⟨m, rfl, G, W⟩
 refine qe_seq (wcc R rfl (fun S B => ?_) (fun S B => ?_))
 ·refine sr (mv rfl (av rfl (nq (wc_ret (qe_block_ret (qe_then_ret ?_))))))
  obtain rfl := oi B
  exact er results117 ⟨rfl, trivial⟩ ⟨m, rfl, G⟩
 refine wc_skip (qe_block (qr (lv (rv_assign (v := iv8 0) rfl) (nq (wc_ret ?_)))))
 obtain rfl := oi B
 exact er results117 ⟨rfl, trivial⟩ ⟨m, rfl, G⟩

set_option maxHeartbeats 2000000 in
theorem ok_spec_l1Words (F : Nat) {w : World} {K : KMap} {p0_s : Str} {r : (List GWord)} (hS : SH w K [] w K []) (bT : p0_s.length ≤ maxLen) (hm : M.spec_l1Words F p0_s = some r) :
  Calls Tryz.prog 198 #[sv p0_s] w fun e w' => ∃ a_1 n_2 c_3 K', e = .returned (.slice a_1 n_2 c_3) ∧ SH w K [] w' K' [tail (.slice a_1 n_2 c_3) 174 4] ∧ SliceAt tGWord K' a_1 n_2 c_3 r := by
 rw [M.spec_l1Words] at hm
 refine calls_in func198 rfl ntmps198 rfl (sr (lv (rv_assign (v := .slice none 0 0) rfl) (nr (b0 tGWord underlying171 tf174 hS fun a2 w3 X bV aC aD => (av rfl (nsr (lv (rv_assign (v := .int .i64 0) rfl) (nq ?_))))))))
 obtain ⟨o8, h9, aG⟩ := ob hm
 refine wc_cutg (fun E' w' => ∃ C D G H, E' = [(3, .slice C D G)] ∧ SH w K [] w' H [tail (.slice C D G) 174 4] ∧ KLe X H ∧ SliceAt tGWord H C D G o8) ?_ ?_
 ·refine wc_block ?_
  obtain ⟨bW, aH, aI⟩ := ob h9
  refine qw (fun (a : (List GWord) × Int) E' w' => ∃ d f i I, E' = [(0, sv p0_s), (3, .slice d f i), (4, .int .i64 a.2)] ∧ SH w K [] w' I [tail (.slice d f i) 174 4] ∧ KLe X I ∧ SliceAt tGWord I d f i a.1 ∧ rng64 a.2) aH ⟨a2, 0, 0, X, rfl, aD, (KLe.refl _), aC, (by decide : rng64 0)⟩ ?_
  rintro a _ bX bY aJ aK ⟨d, f, i, I, rfl, ap, Y, J, aq⟩
  refine wc_seq (sr (mv rfl (mv rfl (lv (rv_slen underlying9 rfl) (lv (rv_lss rfl rfl) (nq (wcc aJ rfl (fun aL Z => ?_) (fun aL Z => ?_))))))))
  ·refine wc_skip (qs (wc_block (sr (b0 tU8 underlying22 tf5 ap fun aM bZ aa s aN aO => (av rfl (nr (mv rfl (av rfl (ns ?_)))))))))
   obtain ⟨k, aP, aQ⟩ := ob Z
   refine wc_cutg (fun E' w' => ∃ O R S l, E' = [(0, sv p0_s), (3, .slice d f i), (4, .int .i64 k.1), (5, .slice O R S), (6, .int .i64 a.2)] ∧ SH w K [] w' l [tail (.slice d f i) 174 4, tail (.slice O R S) 5 1] ∧ KLe aa l ∧ rng64 k.1 ∧ SliceAt tU8 l O R S k.2) ?_ ?_
   ·refine wc_block ?_
    obtain ⟨b1, aR, aS⟩ := ob aP
    refine qw (fun (x : Int × (List UInt8)) E' w' => ∃ m o q y, E' = [(0, sv p0_s), (3, .slice d f i), (4, .int .i64 x.1), (5, .slice m o q), (6, .int .i64 a.2)] ∧ SH w K [] w' y [tail (.slice d f i) 174 4, tail (.slice m o q) 5 1] ∧ KLe aa y ∧ rng64 x.1 ∧ SliceAt tU8 y m o q x.2) aR ⟨aM, 0, 0, aa, rfl, aO.f1, (KLe.refl _), aq, aN⟩ ?_
    rintro x _ b2 b3 aT aU ⟨m, o, q, y, rfl, ab, ar, aV, au⟩
    refine wc_seq (wc_seq ?_)
    obtain ⟨aW, aw, aX⟩ := ob aT
    refine wc_cutg (fun E' w' => ∃ V, E' = [(0, sv p0_s), (3, .slice d f i), (4, .int .i64 x.1), (5, .slice m o q), (6, .int .i64 a.2), (26, .bool aW)] ∧ SH w K [] w' V [tail (.slice d f i) 174 4, tail (.slice m o q) 5 1] ∧ KLe y V) ?_ ?_
    ·refine wc_region (mv rfl (mv rfl (lv (rv_slen underlying9 rfl) (lv (rv_lss rfl rfl) (mv rfl ?_)))))
     rcases bool_tf (decide (x.1 < (p0_s.length : Int))) with c | c
     ·have ac := cond_t c aw
      refine lg c (rv_move rfl) (lg c (rv_move rfl) ?_)
      obtain ⟨aY, aZ, a0⟩ := ob ac
      refine lg c (rv_sidx underlying9 rfl rfl aZ) ?_
      obtain ⟨b4, a1, a3⟩ := ob a0
      refine wl_call (wg rfl rfl c) rfl (rt_call (vs := [iv8 aY]) co117 rfl) ((ok_spec_l1Fold F) ab.enter0  a1) ?_
      rintro b5 b6 ⟨a4, rfl, ax⟩
      refine ⟨_, rfl, ?_⟩
      have a5 := (ab.c0 ax).t2
      refine lg c (rv_bne (b := (0 : UInt8)) rfl rfl) (lv (rv_pick_t rfl c rfl) (wl_nil ?_))
      obtain rfl := oi a3
      exact qd ⟨a4, rfl, a5, ax.le⟩
     have ac := cond_f c aw
     refine lu c (lu c (lu c (lu c (lu c (lv (rv_pick_f (v := .bool false) rfl c rfl) (wl_nil ?_))))))
     obtain rfl := oi ac
     exact qd ⟨y, rfl, ab, (KLe.refl _)⟩
    rintro _ b7 ⟨V, rfl, ad, W⟩
    refine qe_seq (wcc aX rfl (fun a6 ae => ?_) (fun a6 ae => ?_))
    ·refine wc_skip (qe_seq (wc_block (sr (mv rfl (mv rfl (mv rfl ?_))))))
     obtain ⟨a7, a8, a9⟩ := ob ae
     refine lv (rv_sidx underlying9 rfl rfl a8) ?_
     obtain ⟨af, ba, bb⟩ := ob a9
     refine lc (vs := [iv8 a7]) co117 ((ok_spec_l1Fold F) ad.enter0  ba) ?_
     rintro b8 b9 ⟨ca, rfl, ag⟩
     refine ⟨_, rfl, ?_⟩
     have bc := (ad.c0 ag).t2
     refine lb tU8 (iv8 af) [iv8 af] af underlying22 tf5 rfl bc fun cb cc cd ay bd be => ?_
     obtain ⟨ce, bf, bg⟩ := ob bb
     refine lp underlying22 tf5 (au.mono ((W.trans ag.le).trans ay)) bd bf be.f2 fun bh bi bj cf bk bl bm bn => (av rfl (nq (wc_region (mv rfl (lv (rv_add rfl rfl) (av rfl (nb ?_)))))))
     obtain rfl := oi bg
     have bo := bn.f2.sb (sk (sk (sd sz)))
     exact qd ⟨_, rfl, bh, bi, bj, bk, rfl, bo, ((((ar.trans W).trans ag.le).trans ay).trans bl), (w64_rng _), bm⟩
    refine wc_exit (qe_then_exit (qe_then_exit ?_))
    obtain rfl := oi ae
    have bp := aU _ rfl
    subst bp
    refine qe_block_eq ?_
    obtain rfl := oi aS
    exact qd ⟨m, o, q, V, rfl, ad, (ar.trans W), aV, (au.mono W)⟩
   rintro _ cg ⟨O, R, S, l, rfl, az, A, bq, ah⟩
   refine qs (sr (mv rfl (lv (rv_len (t := tU8) underlying22 rfl ah) (lv (rv_gtr rfl rfl) (nq ?_)))))
   obtain ⟨T, br, bs⟩ := ob aQ
   refine wc_cutg (fun E' w' => ∃ ai aj ak U, E' = [(0, sv p0_s), (3, .slice d f i), (4, .int .i64 k.1), (5, .slice ai aj ak), (6, .int .i64 a.2)] ∧ SH w K [] w' U [tail (.slice d f i) 174 4] ∧ KLe l U ∧ SliceAt tU8 U ai aj ak T) ?_ ?_
   ·refine wcc br rfl (fun bt al => ?_) (fun bt al => ?_)
    ·refine wc_region (mv rfl ?_)
     obtain ⟨ch, bu, bv⟩ := ob al
     refine wl_sl_h (t := tU8) wn rfl underlying22 tf5 rfl rfl ah bu fun bw bx bz bA => (av rfl (wl_nil ?_))
     obtain rfl := oi bv
     have bB := az.sb (sk (sd sz))
     exact qd ⟨bw, bx, bz, l, rfl, bB, (KLe.refl _), bA⟩
    refine wc_skip ?_
    obtain rfl := oi al
    have bC := az.sb (sk (sd sz))
    exact qd ⟨O, R, S, l, rfl, bC, (KLe.refl _), ah⟩
   rintro _ ci ⟨ai, aj, ak, U, rfl, am, B, an⟩
   refine qr (mv rfl (lv (rv_len (t := tU8) underlying22 rfl an) (lv (rv_gtr rfl rfl) (nq (wcc bs rfl (fun bD ao => ?_) (fun bD ao => ?_))))))
   ·refine wc_region (mv rfl (mv rfl (lv (rv_b2s underlying22 underlying5 underlying9 rfl an am) (mv rfl (lv (rv_len (t := tGWord) underlying171 rfl (J.mono ((s.trans A).trans B))) (mv rfl (mv rfl (lv (rv_build (cs := #[sv T, .int .i64 (a.1.length : Int), .int .i64 a.2, .int .i64 k.1]) sp174 tf174 rfl (by kernel_rfl)) (lb tGWord (.agg #[sv T, .int .i64 (a.1.length : Int), .int .i64 a.2, .int .i64 k.1]) [sv T, .int .i64 (a.1.length : Int), .int .i64 a.2, .int .i64 k.1] (GWord.mk T (a.1.length : Int) a.2 k.1) underlying171 tf174 ⟨rfl, (SliceAt.max an), (rng_nat (SliceAt.max (J.mono ((s.trans A).trans B)))), aq, bq⟩ am fun cj ck cl aA bE bF => ?_)))))))))
    obtain ⟨cm, bG, bH⟩ := ob ao
    refine lp underlying171 tf174 (SliceAt.mono (((s.trans A).trans B).trans aA) J) bE bG bF.f1 fun bI bJ bK cn bL bM bN bO => (av rfl (nb (qe_seq (wc_region (mv rfl (lv (rv_add rfl rfl) (av rfl (wl_nil ?_))))))))
    obtain rfl := oi bH
    have bP := bO.sb (sk (sd sz))
    exact qd ⟨_, rfl, bI, bJ, bK, bL, rfl, bP, (((((Y.trans s).trans A).trans B).trans aA).trans bM), bN, (w64_rng _)⟩
   refine wc_skip (qe_block (qe_seq (wc_region (mv rfl (lv (rv_add rfl rfl) (av rfl (wl_nil ?_)))))))
   obtain rfl := oi ao
   exact qd ⟨_, rfl, d, f, i, U, rfl, am, (((Y.trans s).trans A).trans B), (J.mono ((s.trans A).trans B)), (w64_rng _)⟩
  refine wc_exit (qe_then_exit (qe_then_exit ?_))
  obtain rfl := oi Z
  have bQ := aK _ rfl
  subst bQ
  refine qe_block_eq ?_
  obtain rfl := oi aI
  exact qd ⟨d, f, i, I, rfl, ap, Y, J⟩
 rintro _ cp ⟨C, D, G, H, rfl, bR, cq, bS⟩
 refine qr (mv rfl (av rfl (nq (wc_ret ?_))))
 obtain rfl := oi aG
 exact er results198 ⟨rfl, trivial⟩ ⟨C, D, G, H, rfl, bR, bS⟩

set_option maxHeartbeats 2000000 in
theorem ok_spec_l2Plain (F : Nat) {w : World} {K : KMap} {l : Option Addr} {m o : Nat} {s : Option Addr} {x y : Nat} {p0_c : GConf} {p1_s : Str} {r : (List GTerm)} (hS : SH w K [] w K []) (ac : SliceAt tStr K l m o p0_c.Stops) (bK : SliceAt tGSyn K s x y p0_c.Syns) (aq : p1_s.length ≤ maxLen) (hm : M.spec_l2Plain F p0_c p1_s = some r) :
  Calls Tryz.prog 161 #[.agg #[.slice l m o, .slice s x y], sv p1_s] w fun e w' => ∃ a_1 n_2 c_3 K', e = .returned (.slice a_1 n_2 c_3) ∧ SH w K [] w' K' [tail (.slice a_1 n_2 c_3) 130 2] ∧ SliceAt tGTerm K' a_1 n_2 c_3 r := by
 rw [M.spec_l2Plain] at hm
 refine calls_in func161 rfl ntmps161 rfl (sr (bx rfl hS fun A bL ar => ?_))
 have au : SH _ _ _ _ _ [obj A [.slice l m o, .slice s x y] 26] := ar
 refine lv (rv_assign (v := .slice none 0 0) rfl) (nr (b0 tGTerm underlying127 tf130 au fun aw bM bN ad ax ae => (av rfl (nr (mv rfl ?_)))))
 obtain ⟨bO, ay, az⟩ := ob hm
 refine lc (vs := [sv p1_s]) co198 ((ok_spec_l1Words F) ae.enter0 aq ay) ?_
 rintro bP bQ ⟨af, ag, ah, W, rfl, S, T⟩
 refine ⟨_, rfl, ?_⟩
 have aA := (ae.c0 S).t3
 refine av rfl (nsr (lv (rv_assign (v := .int .i64 0) rfl) (nq ?_)))
 obtain ⟨aB, aC, aD⟩ := ob az
 refine wc_cutg (fun E' w' => ∃ B C D G, E' = [(5, .slice B C D)] ∧ SH w K [] w' G [tail (.slice B C D) 130 2] ∧ KLe W G ∧ SliceAt tGTerm G B C D aB) ?_ ?_
 ·refine wc_block ?_
  obtain ⟨bR, aE, aF⟩ := ob aC
  have aG := aA.f1.f2.sb (sk (sk (sd sz)))
  refine qw (fun (H : (List GTerm) × Int) E' w' => ∃ d f i I, E' = [(2, pt A), (5, .slice d f i), (6, .slice af ag ah), (7, .int .i64 H.2)] ∧ SH w K [] w' I [obj A [.slice l m o, .slice s x y] 26, tail (.slice d f i) 130 2] ∧ KLe W I ∧ SliceAt tGTerm I d f i H.1 ∧ rng64 H.2) aE ⟨aw, 0, 0, W, rfl, aG, (KLe.refl _), (ax.mono S.le), (by decide : rng64 0)⟩ ?_
  rintro H _ bS bT aH aI ⟨d, f, i, I, rfl, U, b, X, bU⟩
  refine wc_seq (sr (mv rfl (mv rfl (lv (rv_len (t := tGWord) underlying171 rfl (T.mono b)) (lv (rv_lss rfl rfl) (nq (wcc aH rfl (fun aJ Y => ?_) (fun aJ Y => ?_))))))))
  ·refine wc_skip (qs (wc_block (sr (mv rfl (mv rfl ?_)))))
   obtain ⟨J, aK, aL⟩ := ob Y
   refine li underlying171 tf174 (T.mono b) aK fun aM aN bV aO aP => ?_
   obtain ⟨rfl, aQ, bW, bX, bY⟩ := aO
   have aR : AtK _ aM aN [sv J.Text, .int .i64 J.At, .int .i64 J.From, .int .i64 J.To] := aP
   refine fa ff174_0 rfl (lv (rv_load1 tf9 rfl U (aR 0 _ rfl)) ?_)
   obtain ⟨q, aS, aT⟩ := ob aL
   refine lc (vs := [sv J.Text]) co102 ((ok_spec_l2Stem F) U.enter0 aQ aS) ?_
   rintro bZ b1 ⟨aU, rfl, c, ai⟩
   refine ⟨_, rfl, ?_⟩
   have aV := (U.c0 c).t2
   refine av rfl (ns ?_)
   obtain ⟨aW, aX, aY⟩ := ob aT
   refine wc_cutg (fun E' w' => ∃ V, E' = [(2, pt A), (5, .slice d f i), (6, .slice af ag ah), (7, .int .i64 H.2), (8, sv q), (39, .bool aW)] ∧ SH w K [] w' V [obj A [.slice l m o, .slice s x y] 26, tail (.slice d f i) 130 2] ∧ KLe aU V) ?_ ?_
   ·refine wc_quiet mixed (by kernel_rfl) aV (kv (rv_fieldAddr ff26_0 rfl) (kh (rq_loadm1 tf23 rfl m0 rfl) (km rfl (km rfl ?_))))
    obtain ⟨O, aZ, a0⟩ := ob aX
    refine ki underlying171 tf174 (T.mono (b.trans c.le)) aZ fun a2 a3 b2 a4 a6 => ?_
    obtain ⟨rfl, a7, b3, b4, b5⟩ := a4
    have a8 : AtK _ a2 a3 [sv O.Text, .int .i64 O.At, .int .i64 O.From, .int .i64 O.To] := a6
    refine kv (rv_fieldAddr ff174_0 rfl) (kh (rq_load1 tf9 rfl (a8 0 _ rfl)) ?_)
    obtain ⟨aj, a9, ak⟩ := ob a0
    refine wq_call (v := .bool aj) wn rfl (fun _ => rt_call (vs := [.slice l m o, sv O.Text]) co76 rfl) (fun b6 ⟨b7, al, am⟩ => ((ok_spec_l2Has F) al.enter0 (SliceAt.mono ((((ad.trans S.le).trans b).trans c.le).trans am) ac) a7 a9).mono fun e w' ⟨K', he, hS'⟩ => ⟨he, K', al.call0 hS', am.trans hS'.le⟩) (kv (rv_not rfl) (km rfl ?_))
    rcases bool_tf ((!aj)) with a | a
    ·have Z := cond_t a ak
     refine kg a (rv_fieldAddr ff26_0 rfl) (kgh a (rq_loadm1 tf23 rfl m0 rfl) (kg a (rv_move rfl) ?_))
     obtain ⟨ba, bb, bc⟩ := ob Z
     refine wq_call (v := .bool ba) (wg rfl rfl a) rfl (fun _ => rt_call (vs := [.slice l m o, sv q]) co76 rfl) (fun b8 ⟨b9, an, ao⟩ => ((ok_spec_l2Has F) an.enter0 (SliceAt.mono ((((ad.trans S.le).trans b).trans c.le).trans ao) ac) ai bb).mono fun e w' ⟨K', he, hS'⟩ => ⟨he, K', an.call0 hS', ao.trans hS'.le⟩) (kg a (rv_not rfl) (kv (rv_pick_t rfl a rfl) (wq_nil ?_)))
     rintro ca ⟨bd, be, bf⟩
     obtain rfl := oi bc
     exact qd ⟨bd, rfl, be, bf⟩
    have Z := cond_f a ak
    refine kn a (kn a (kn a (kn a (kn a (kv (rv_pick_f (v := .bool false) rfl a rfl) (wq_nil ?_))))))
    rintro cb ⟨bg, bh, bi⟩
    obtain rfl := oi Z
    exact qd ⟨bg, rfl, bh, bi⟩
   rintro _ cc ⟨V, rfl, aa, R⟩
   refine qe_seq (wcc aY rfl (fun bj ab => ?_) (fun bj ab => ?_))
   ·refine wc_region (mv rfl (mv rfl (mv rfl (mv rfl ?_))))
    obtain ⟨k, bk, bl⟩ := ob ab
    refine li underlying171 tf174 (T.mono ((b.trans c.le).trans R)) bk fun bm bn cd bo bp => ?_
    obtain ⟨rfl, ce, bq, cf, cg⟩ := bo
    have br : AtK _ bm bn [sv k.Text, .int .i64 k.At, .int .i64 k.From, .int .i64 k.To] := bp
    refine fa ff174_1 rfl (lv (rv_load1 tf3 rfl aa (br 1 _ rfl)) (lv (rv_build (cs := #[sv q, .int .i64 k.At]) sp130 tf130 rfl (by kernel_rfl)) (lb tGTerm (.agg #[sv q, .int .i64 k.At]) [sv q, .int .i64 k.At] (GTerm.mk q k.At) underlying127 tf130 ⟨rfl, ai, bq⟩ aa fun ch ci cj ap bs bt => ?_)))
    obtain ⟨ck, bu, bv⟩ := ob bl
    refine lp underlying127 tf130 (X.mono ((c.le.trans R).trans ap)) bs bu bt.f2 fun bw bz bA cl bB bC bD bE => (av rfl (nb (qe_seq (wc_region (mv rfl (lv (rv_add rfl rfl) (av rfl (wl_nil ?_))))))))
    obtain rfl := oi bv
    have bF := bE.f2.sb (sk (sk (sd sz)))
    exact qd ⟨_, rfl, bw, bz, bA, bB, rfl, bF, ((((b.trans c.le).trans R).trans ap).trans bC), bD, (w64_rng _)⟩
   refine wc_skip (qe_block (qe_seq (wc_region (mv rfl (lv (rv_add rfl rfl) (av rfl (wl_nil ?_)))))))
   obtain rfl := oi ab
   exact qd ⟨_, rfl, d, f, i, V, rfl, aa, ((b.trans c.le).trans R), (X.mono (c.le.trans R)), (w64_rng _)⟩
  refine wc_exit (qe_then_exit (qe_then_exit ?_))
  obtain rfl := oi Y
  have bG := aI _ rfl
  subst bG
  refine qe_block_eq ?_
  obtain rfl := oi aF
  have bH := U.sb (sd (sk sz))
  exact qd ⟨d, f, i, I, rfl, bH, b, X⟩
 rintro _ cm ⟨B, C, D, G, rfl, bI, cn, bJ⟩
 refine qr (mv rfl (av rfl (nq (wc_ret ?_))))
 obtain rfl := oi aD
 exact er results161 ⟨rfl, trivial⟩ ⟨B, C, D, G, rfl, bI, bJ⟩

set_option maxHeartbeats 2000000 in
theorem ok_spec_l2Begins (F : Nat) {w : World} {K : KMap} {k : Option Addr} {l m : Nat} {o : Option Addr} {q s : Nat} {p0_list : List GTerm} {p1_from : List Str} {r : Bool} (hS : SH w K [] w K []) (x : SliceAt tGTerm K k l m p0_list) (I : SliceAt tStr K o q s p1_from) (hm : M.spec_l2Begins F p0_list p1_from = some r) :
  Calls Tryz.prog 199 #[.slice k l m, .slice o q s] w fun e w' => ∃ K', e = .returned (.bool r) ∧ SH w K [] w' K' [] := by
 rw [M.spec_l2Begins] at hm
 refine calls_in func199 rfl ntmps199 rfl (sr (lv (rv_assign (v := .bool false) rfl) (nsr (lv (rv_assign (v := .int .i64 0) rfl) (nq ?_)))))
 obtain ⟨Z, aa, y⟩ := ob hm
 refine wc_cutg (fun E' w' => ∃ J A, Z = .inl J ∧ E' = [] ∧ SH w K [] w' A [] ∧ KLe K A) ?_ ?_
 ·refine wc_block ?_
  obtain ⟨aY, ab, O⟩ := ob aa
  refine qw (fun (d : Int) E' w' => ∃ f, E' = [(0, .slice k l m), (1, .slice o q s), (5, .int .i64 d)] ∧ SH w K [] w' f [] ∧ KLe K f ∧ rng64 d) ab ⟨K, rfl, hS, (KLe.refl _), (by decide : rng64 0)⟩ ?_
  rintro d _ aZ a0 ac R ⟨f, rfl, S, c, a2⟩
  refine wc_seq (sr (mv rfl (mv rfl (lv (rv_len (t := tStr) underlying23 rfl (I.mono c)) (lv (rv_lss rfl rfl) (nq (wcc ac rfl (fun ad B => ?_) (fun ad B => ?_))))))))
  ·refine wc_skip (qs (wc_block (wc_seq ?_)))
   obtain ⟨ae, T, af⟩ := ob B
   refine wc_cutg (fun E' w' => ∃ i, E' = [(0, .slice k l m), (1, .slice o q s), (5, .int .i64 d), (41, .bool ae)] ∧ SH w K [] w' i [] ∧ KLe f i) ?_ ?_
   ·refine wc_quiet mixed (by kernel_rfl) S (km rfl (km rfl (kv (rv_len (t := tGTerm) underlying127 rfl (x.mono c)) (kv (rv_geq rfl rfl) (km rfl ?_)))))
    rcases bool_tf (decide ((p0_list.length : Int) ≤ d)) with b | b
    ·have C := cond_t b T
     refine kn b (kn b (kn b (kn b (kn b (kn b (kn b (kn b (kn b (kn b ?_)))))))))
     refine kv (rv_pick_t (v := .bool true) rfl b rfl) (km rfl (qv rfl rfl rfl rfl (qv rfl rfl rfl rfl (qv rfl rfl rfl rfl (qv rfl rfl rfl rfl (qv rfl rfl rfl rfl (qv rfl rfl rfl rfl (qv rfl rfl rfl rfl (qv rfl rfl rfl rfl ?_)))))))))
     refine qv rfl rfl rfl rfl (qv rfl rfl rfl rfl (qv rfl rfl rfl rfl (qv rfl rfl rfl rfl (kv (rv_pick_t (v := .bool true) rfl rfl rfl) (wq_nil ?_)))))
     rintro a3 ⟨ag, ah, ai⟩
     obtain rfl := oi C
     exact qd ⟨ag, rfl, ah, ai⟩
    have C := cond_f b T
    refine kg b (rv_move rfl) (kg b (rv_move rfl) ?_)
    obtain ⟨D, aj, ak⟩ := ob C
    refine wq_indexAddr (t := tGTerm) (wg rfl rfl b) rfl underlying127 tf130 rfl rfl (x.mono c) aj fun al am a4 an ao => ?_
    obtain ⟨rfl, a6, a7⟩ := an
    have ap : AtK _ al am [sv D.Text, .int .i64 D.At] := ao
    refine kg b (rv_fieldAddr ff130_0 rfl) (kgh b (rq_load1 tf9 rfl (ap 0 _ rfl)) (kg b (rv_move rfl) (kg b (rv_move rfl) ?_)))
    obtain ⟨U, aq, V⟩ := ob ak
    refine wq_indexAddr (t := tStr) (wg rfl rfl b) rfl underlying23 tf9 rfl rfl (I.mono c) aq fun ar au a8 aw ax => ?_
    obtain ⟨rfl, a9⟩ := aw
    have ay : AtK _ ar au [sv U] := ax
    refine kgh b (rq_load1 tf9 rfl (ay 0 _ rfl)) (kg b (rv_sneq rfl rfl) (kv (rv_pick_f rfl b rfl) (km rfl ?_)))
    rcases bool_tf ((!(D.Text == U))) with a | a
    ·have G := cond_t a V
     refine kn a (kn a (kn a (kn a (kn a (kn a (kn a (kn a (kn a (kn a ?_)))))))))
     refine kn a (kn a (kv (rv_pick_t (v := .bool true) rfl a rfl) (wq_nil ?_)))
     rintro ba ⟨az, aA, aB⟩
     obtain rfl := oi G
     exact qd ⟨az, rfl, aA, aB⟩
    have G := cond_f a V
    refine kg a (rv_move rfl) (kg a (rv_move rfl) ?_)
    obtain ⟨W, aC, aD⟩ := ob G
    refine wq_indexAddr (t := tGTerm) (wg rfl rfl a) rfl underlying127 tf130 rfl rfl (x.mono c) aC fun aE aF bb aG aH => ?_
    obtain ⟨rfl, bc, bd⟩ := aG
    have aI : AtK _ aE aF [sv W.Text, .int .i64 W.At] := aH
    refine kg a (rv_fieldAddr ff130_1 rfl) (kgh a (rq_load1 tf3 rfl (aI 1 _ rfl)) (kg a (rv_move rfl) ?_))
    obtain ⟨X, aJ, aK⟩ := ob aD
    refine wq_indexAddr (t := tGTerm) (wg rfl rfl a) rfl underlying127 tf130 rfl rfl (x.mono c) aJ fun aL aM be aN aO => ?_
    obtain ⟨rfl, bf, bg⟩ := aN
    have aP : AtK _ aL aM [sv X.Text, .int .i64 X.At] := aO
    refine kg a (rv_fieldAddr ff130_1 rfl) (kgh a (rq_load1 tf3 rfl (aP 1 _ rfl)) (kg a (rv_move rfl) (kg a (rv_add rfl rfl) (kg a (rv_neq rfl rfl) (kv (rv_pick_f rfl a rfl) (wq_nil ?_))))))
    rintro bh ⟨aQ, aR, aS⟩
    obtain rfl := oi aK
    exact qd ⟨aQ, rfl, aR, aS⟩
   rintro _ bi ⟨i, rfl, Y, aT⟩
   refine qe_seq (wcc af rfl (fun aU H => ?_) (fun aU H => ?_))
   ·refine sr (lv (rv_assign (v := .bool false) rfl) (nq (wc_ret (qe_block_ret (qe_then_ret (qe_then_ret ?_))))))
    obtain rfl := oi H
    have aV := R _ rfl
    subst aV
    refine qe_block_ret (qe_then_ret ?_)
    obtain rfl := oi O
    refine qe_then_ret ?_
    obtain rfl := oi y
    exact er results199 ⟨rfl, trivial⟩ ⟨i, rfl, Y⟩
   refine wc_skip (qe_block (qe_seq (wc_region (mv rfl (lv (rv_add rfl rfl) (av rfl (wl_nil ?_)))))))
   obtain rfl := oi H
   exact qd ⟨_, rfl, i, rfl, Y, (c.trans aT), (w64_rng _)⟩
  refine wc_exit (qe_then_exit (qe_then_exit ?_))
  obtain rfl := oi B
  have aW := R _ rfl
  subst aW
  refine qe_block_eq ?_
  obtain rfl := oi O
  exact qe_mid' ⟨_, f, rfl, rfl, S, c⟩ trivial
 rintro _ bj ⟨J, A, rfl, rfl, aX, bk⟩
 have y := elim_l y
 refine qr (lv (rv_assign (v := .bool true) rfl) (nq (wc_ret ?_)))
 obtain rfl := oi y
 exact er results199 ⟨rfl, trivial⟩ ⟨A, rfl, aX⟩

set_option maxHeartbeats 2000000 in
theorem ok_spec_l2Syn (F : Nat) {w : World} {K : KMap} {f : Option Addr} {i k : Nat} {l : Option Addr} {m o : Nat} {q : Option Addr} {s x : Nat} {p0_c : GConf} {p1_list : List GTerm} {r : Int} (hS : SH w K [] w K []) (bi : SliceAt tStr K f i k p0_c.Stops) (C : SliceAt tGSyn K l m o p0_c.Syns) (ac : SliceAt tGTerm K q s x p1_list) (hm : M.spec_l2Syn F p0_c p1_list = some r) :
  Calls Tryz.prog 162 #[.agg #[.slice f i k, .slice l m o], .slice q s x] w fun e w' => ∃ K', e = .returned (.int .i64 r) ∧ SH w K [] w' K' [] ∧ rng64 r := by
 rw [M.spec_l2Syn] at hm
 refine calls_in func162 rfl ntmps162 rfl (sr (bx rfl hS fun y bj ad => ?_))
 have ae : SH _ _ _ _ _ [obj y [.slice f i k, .slice l m o] 26] := ad
 refine lv (rv_assign (v := .int .i64 0) rfl) (nr (lv (rv_assign (v := .int .i64 (-1)) rfl) (nsr (lv (rv_assign (v := .int .i64 0) rfl) (nq ?_)))))
 obtain ⟨S, af, ag⟩ := ob hm
 refine wc_cutg (fun E' w' => ∃ D, E' = [(5, .int .i64 S)] ∧ SH w K [] w' D [] ∧ KLe K D ∧ rng64 S) ?_ ?_
 ·refine wc_block ?_
  obtain ⟨bk, ah, ai⟩ := ob af
  refine qw (fun (c : Int × Int) E' w' => ∃ A, E' = [(1, .slice q s x), (2, pt y), (5, .int .i64 c.1), (6, .int .i64 c.2)] ∧ SH w K [] w' A [obj y [.slice f i k, .slice l m o] 26] ∧ KLe K A ∧ rng64 c.1 ∧ rng64 c.2) ah ⟨K, rfl, ae, (KLe.refl _), (by decide : rng64 (-1)), (by decide : rng64 0)⟩ ?_
  rintro c _ bl bm aj ak ⟨A, rfl, H, d, T, al⟩
  refine wc_seq (sr (mv rfl (fa ff26_1 rfl (lv (rv_loadm1 tf24 rfl m0 H rfl) (lv (rv_len (t := tGSyn) underlying24 rfl (C.mono d)) (lv (rv_lss rfl rfl) (nq (wcc aj rfl (fun am I => ?_) (fun am I => ?_)))))))))
  ·refine wc_skip (qs (wc_block (wc_seq ?_)))
   obtain ⟨an, ao, ap⟩ := ob I
   refine wc_cutg (fun E' w' => ∃ B, E' = [(1, .slice q s x), (2, pt y), (5, .int .i64 c.1), (6, .int .i64 c.2), (42, .bool an)] ∧ SH w K [] w' B [obj y [.slice f i k, .slice l m o] 26] ∧ KLe A B) ?_ ?_
   ·refine wc_quiet mixed (by kernel_rfl) H (km rfl (kv (rv_fieldAddr ff26_1 rfl) (kh (rq_loadm1 tf24 rfl m0 rfl) (km rfl ?_))))
    obtain ⟨aq, ar, au⟩ := ob ao
    refine ki underlying24 tf105 (C.mono d) ar fun aw ax bn ay az => ?_
    obtain ⟨U, V, W, rfl, aA, bo⟩ := ay
    have aB : AtK _ aw ax [.slice U V W, sv aq.To] := az
    refine kv (rv_fieldAddr ff105_0 rfl) (kh (rq_load1 tf23 rfl (aB 0 _ rfl)) ?_)
    obtain ⟨X, aC, Y⟩ := ob au
    refine wq_call (v := .bool X) wn rfl (fun _ => rt_call (vs := [.slice q s x, .slice U V W]) co199 rfl) (fun bp ⟨bq, Z, J⟩ => ((ok_spec_l2Begins F) Z.enter0 (ac.mono (d.trans J)) (aA.mono J) aC).mono fun e w' ⟨K', he, hS'⟩ => ⟨he, K', Z.call0 hS', J.trans hS'.le⟩) (km rfl ?_)
    rcases bool_tf (X) with b | b
    ·have G := cond_t b Y
     refine kg b (rv_move rfl) (kg b (rv_lss rfl rfl) (kg b (rv_move rfl) ?_))
     rcases bool_tf (decide (c.1 < (0 : Int))) with a | a
     ·have O := cond_t a G
      refine kn a (kn a (kn a (kn a (kn a (kn a (kn a (kn a (kn a (kn a ?_)))))))))
      refine kn a (kn a (kn a (kn a (kn a (kg b (rv_pick_t (v := .bool true) rfl a rfl) (kv (rv_pick_t rfl b rfl) (wq_nil ?_)))))))
      rintro br ⟨aD, aE, aF⟩
      obtain rfl := oi O
      exact qd ⟨aD, rfl, aE, aF⟩
     have O := cond_f a G
     refine kg a (rv_fieldAddr ff26_1 rfl) (kgh a (rq_loadm1 tf24 rfl m0 rfl) (kg a (rv_move rfl) ?_))
     obtain ⟨aG, aH, aI⟩ := ob O
     refine wq_indexAddr (t := tGSyn) (wg rfl rfl a) rfl underlying24 tf105 rfl rfl (C.mono d) aH fun aJ aK bs aL aM => ?_
     obtain ⟨aN, aO, aP, rfl, aQ, bt⟩ := aL
     have aR : AtK _ aJ aK [.slice aN aO aP, sv aG.To] := aM
     refine kg a (rv_fieldAddr ff105_0 rfl) (kgh a (rq_load1 tf23 rfl (aR 0 _ rfl)) (kg a (rv_len (t := tStr) underlying23 rfl aQ) (kg a (rv_fieldAddr ff26_1 rfl) (kgh a (rq_loadm1 tf24 rfl m0 rfl) (kg a (rv_move rfl) ?_)))))
     obtain ⟨aS, aT, aU⟩ := ob aI
     refine wq_indexAddr (t := tGSyn) (wg rfl rfl a) rfl underlying24 tf105 rfl rfl (C.mono d) aT fun aV aW bu aX aY => ?_
     obtain ⟨aZ, a0, a2, rfl, a3, bv⟩ := aX
     have a4 : AtK _ aV aW [.slice aZ a0 a2, sv aS.To] := aY
     refine kg a (rv_fieldAddr ff105_0 rfl) (kgh a (rq_load1 tf23 rfl (a4 0 _ rfl)) (kg a (rv_len (t := tStr) underlying23 rfl a3) (kg a (rv_gtr rfl rfl) (kg b (rv_pick_f rfl a rfl) (kv (rv_pick_t rfl b rfl) (wq_nil ?_))))))
     rintro bw ⟨a6, a7, a8⟩
     obtain rfl := oi aU
     exact qd ⟨a6, rfl, a7, a8⟩
    have G := cond_f b Y
    refine kn b (kn b (kn b (ku (ku (ku (ku (ku (ku (ku ?_)))))))))
    refine ku (ku (ku (ku (ku (ku (ku (ku (kn b (kv (rv_pick_f (v := .bool false) rfl b rfl) ?_)))))))))
    refine wq_nil ?_
    rintro bz ⟨ba, bb, bc⟩
    obtain rfl := oi G
    exact qd ⟨ba, rfl, bb, bc⟩
   rintro _ bA ⟨B, rfl, aa, ab⟩
   refine qe_seq (wcc ap rfl (fun bd R => ?_) (fun bd R => ?_))
   ·refine wc_region (mv rfl (av rfl (nb (qe_seq (wc_region (mv rfl (lv (rv_add rfl rfl) (av rfl (wl_nil ?_)))))))))
    obtain rfl := oi R
    exact qd ⟨_, rfl, B, rfl, aa, (d.trans ab), al, (w64_rng _)⟩
   refine wc_skip (qe_block (qe_seq (wc_region (mv rfl (lv (rv_add rfl rfl) (av rfl (wl_nil ?_)))))))
   obtain rfl := oi R
   exact qd ⟨_, rfl, B, rfl, aa, (d.trans ab), T, (w64_rng _)⟩
  refine wc_exit (qe_then_exit (qe_then_exit ?_))
  obtain rfl := oi I
  have be := ak _ rfl
  subst be
  refine qe_block_eq ?_
  obtain rfl := oi ai
  have bf := H.sb (sd sz)
  exact qd ⟨A, rfl, bf, d, T⟩
 rintro _ bB ⟨D, rfl, bg, bC, bh⟩
 refine qr (mv rfl (av rfl (nq (wc_ret ?_))))
 obtain rfl := oi ag
 exact er results162 ⟨rfl, trivial⟩ ⟨D, rfl, bg, bh⟩

set_option maxHeartbeats 2000000 in
theorem ok_spec_l2Terms (F : Nat) {w : World} {K : KMap} {b : Option Addr} {c d : Nat} {f : Option Addr} {i k : Nat} {p0_c : GConf} {p1_s : Str} {r : (List GTerm)} (hS : SH w K [] w K []) (aj : SliceAt tStr K b c d p0_c.Stops) (S : SliceAt tGSyn K f i k p0_c.Syns) (al : p1_s.length ≤ maxLen) (hm : M.spec_l2Terms F p0_c p1_s = some r) :
  Calls Tryz.prog 118 #[.agg #[.slice b c d, .slice f i k], sv p1_s] w fun e w' => ∃ a_1 n_2 c_3 K', e = .returned (.slice a_1 n_2 c_3) ∧ SH w K [] w' K' [tail (.slice a_1 n_2 c_3) 130 2] ∧ SliceAt tGTerm K' a_1 n_2 c_3 r := by
 rw [M.spec_l2Terms] at hm
 refine calls_in func118 rfl ntmps118 rfl (sr (bx rfl hS fun T b6 am => ?_))
 have an : SH _ _ _ _ _ [obj T [.slice b c d, .slice f i k] 26] := am
 refine lv (rv_assign (v := .slice none 0 0) rfl) (nr (b0 tGTerm underlying127 tf130 an fun ao b7 b8 o ap Z => (av rfl (nr (lv (rv_loadmS (ds := [.slice b c d, .slice f i k]) tf26 rfl m1 Z rfl rfl) (mv rfl ?_))))))
 obtain ⟨b9, aq, ar⟩ := ob hm
 refine lc (vs := [.agg #[.slice b c d, .slice f i k], sv p1_s]) co161 ((ok_spec_l2Plain F) Z.enter0 (aj.mono o) (S.mono o) al aq) ?_
 rintro ca cb ⟨au, aw, ax, aa, rfl, q, ay⟩
 refine ⟨_, rfl, ?_⟩
 have az := (Z.c0 q).t3
 refine av rfl (ns ?_)
 obtain ⟨aA, aB, aC⟩ := ob ar
 refine wc_cutg (fun E' w' => ∃ B C D G, E' = [(5, .slice B C D)] ∧ SH w K [] w' G [tail (.slice B C D) 130 2] ∧ KLe aa G ∧ SliceAt tGTerm G B C D aA) ?_ ?_
 ·refine wc_block ?_
  obtain ⟨cc, aD, aE⟩ := ob aB
  have aF := az.f1.f2.sb (sk (sk (sd sz)))
  refine qw (fun (ab : (List GTerm) × (List GTerm)) E' w' => ∃ H I J U V W s, E' = [(2, pt T), (5, .slice H I J), (6, .slice U V W)] ∧ SH w K [] w' s [obj T [.slice b c d, .slice f i k] 26, tail (.slice H I J) 130 2] ∧ KLe aa s ∧ SliceAt tGTerm s H I J ab.1 ∧ SliceAt tGTerm s U V W ab.2) aD ⟨ao, 0, 0, au, aw, ax, aa, rfl, aF, (KLe.refl _), (ap.mono q.le), ay⟩ ?_
  rintro ab _ cd ce aG aH ⟨H, I, J, U, V, W, s, rfl, X, m, ac, x⟩
  refine wc_seq (sr (mv rfl (lv (rv_len (t := tGTerm) underlying127 rfl x) (lv (rv_gtr rfl rfl) (nq (wcc aG rfl (fun aI ad => ?_) (fun aI ad => ?_)))))))
  ·refine wc_skip (qe_seq (wc_block (sr (lv (rv_loadmS (ds := [.slice b c d, .slice f i k]) tf26 rfl m0 X rfl rfl) (mv rfl ?_)))))
   obtain ⟨cf, aJ, aK⟩ := ob ad
   refine lc (vs := [.agg #[.slice b c d, .slice f i k], .slice U V W]) co162 ((ok_spec_l2Syn F) X.enter0 (aj.mono ((o.trans q.le).trans m)) (S.mono ((o.trans q.le).trans m)) x aJ) ?_
   rintro cg ch ⟨aL, rfl, a, ci⟩
   refine ⟨_, rfl, ?_⟩
   have ae := (X.c0 a).t2
   refine av rfl (nsr (mv rfl (lv (rv_lss rfl rfl) (nq (wcc aK rfl (fun aM af => ?_) (fun aM af => ?_))))))
   ·refine sr (mv rfl (mv rfl ?_))
    obtain ⟨l, aN, aO⟩ := ob af
    refine li underlying127 tf130 (x.mono a.le) aN fun aP aQ cj aR aS => ?_
    obtain ⟨rfl, aT, aU⟩ := aR
    have aV : AtK _ aP aQ [sv l.Text, .int .i64 l.At] := aS
    refine lv (rv_loadS (cs := [sv l.Text, .int .i64 l.At]) tf130 rfl ae aV rfl) (lb tGTerm (.agg #[sv l.Text, .int .i64 l.At]) [sv l.Text, .int .i64 l.At] l underlying127 tf130 ⟨rfl, aT, aU⟩ ae fun ck cl cm ag aW aX => ?_)
    obtain ⟨cn, aY, aZ⟩ := ob aO
    refine lp underlying127 tf130 (ac.mono (a.le.trans ag)) aW aY aX.f2 fun a0 a2 a3 cp a4 ak a6 a7 => (av rfl (nr (mv rfl ?_)))
    obtain ⟨cq, a8, a9⟩ := ob aZ
    refine wl_sl_l (t := tGTerm) wn rfl underlying127 tf130 rfl rfl (x.mono ((a.le.trans ag).trans ak)) a8 fun ba bb bc bd => (av rfl (nq (wc_exit (qe_then_exit (qe_block_eq ?_)))))
    obtain rfl := oi a9
    have be := a7.f2.sb (sk (sk (sd sz)))
    exact qd ⟨_, rfl, a0, a2, a3, ba, bb, bc, a4, rfl, be, (((m.trans a.le).trans ag).trans ak), a6, bd⟩
   refine wc_skip (qs ?_)
   have ah := ae.drew
   refine wh1 (fun w' => Holds aL w' ∧ HasObj T [.slice b c d, .slice f i k] w') (fun w' => True) 15 [] mixed ⟨ah.hasK (KLe.refl _), ah.hasObj m0⟩ (fun _ => trivial) (gt (rv_move rfl) (gt (rv_fieldAddr ff26_1 rfl) (gh (fun _ h => rh_loadm1 tf24 rfl rfl h.2) (gt (rv_move rfl) ?_))))
   obtain ⟨O, bf, bg⟩ := ob af
   refine gi underlying24 tf105 (SliceAt.mono (((o.trans q.le).trans m).trans a.le) S) bf fun bh bi cr bj bk => ?_
   obtain ⟨bl, bm, bn, rfl, ct, bo⟩ := bj
   have bp : AtK _ bh bi [.slice bl bm bn, sv O.To] := bk
   refine gt (rv_fieldAddr ff105_1 rfl) (gh (fun _ h => rh_load1 tf9 rfl (bp 1 _ rfl) h.1) (gt (rv_move rfl) ?_))
   obtain ⟨y, bq, br⟩ := ob bg
   refine gi underlying127 tf130 (x.mono a.le) bq fun bs bt cu bu bv => ?_
   obtain ⟨rfl, cv, bw⟩ := bu
   have bz : AtK _ bs bt [sv y.Text, .int .i64 y.At] := bv
   refine gt (rv_fieldAddr ff130_1 rfl) (gh (fun _ h => rh_load1 tf3 rfl (bz 1 _ rfl) h.1) (gt (rv_build (cs := #[sv O.To, .int .i64 y.At]) sp130 tf130 rfl (by kernel_rfl)) (gn (lb tGTerm (.agg #[sv O.To, .int .i64 y.At]) [sv O.To, .int .i64 y.At] (GTerm.mk O.To y.At) underlying127 tf130 ⟨rfl, bo, bw⟩ ah fun cw cx cy A bA ai => (wl_nil (qh ⟨ai.hasK A, ai.hasObj m1⟩ (fun _ => trivial) (gn ?_)))))))
   obtain ⟨cz, bB, bC⟩ := ob br
   refine lp underlying127 tf130 (ac.mono (a.le.trans A)) bA bB ai.f2 fun bD bE bF cA bG Y bH R => (wl_nil (qh ⟨R.hasK (A.trans Y), R.hasObj m2⟩ (fun _ => trivial) (gt (rv_assign rfl) (gd' (qe_seq (wc_region (mv rfl (fa ff26_1 rfl (lv (rv_loadm1 tf24 rfl m2 R rfl) (mv rfl ?_))))))))))
   obtain ⟨bI, bJ, bK⟩ := ob bC
   refine li underlying24 tf105 (SliceAt.mono (((((o.trans q.le).trans m).trans a.le).trans A).trans Y) S) bJ fun bL bM cB bN bO => ?_
   obtain ⟨bP, bQ, bR, rfl, bS, cC⟩ := bN
   have bT : AtK _ bL bM [.slice bP bQ bR, sv bI.To] := bO
   refine fa ff105_0 rfl (lv (rv_load1 tf23 rfl R (bT 0 _ rfl)) (lv (rv_len (t := tStr) underlying23 rfl bS) ?_))
   obtain ⟨cD, bU, bV⟩ := ob bK
   refine wl_sl_l (t := tGTerm) wn rfl underlying127 tf130 rfl rfl (x.mono ((a.le.trans A).trans Y)) bU fun bW bX bY bZ => (av rfl (nb ?_))
   obtain rfl := oi bV
   have b1 := R.f2.sb (sk (sk (sd sz)))
   exact qd ⟨_, rfl, bD, bE, bF, bW, bX, bY, bG, rfl, b1, (((m.trans a.le).trans A).trans Y), bH, bZ⟩
  refine wc_exit (qe_then_exit (qe_then_exit ?_))
  obtain rfl := oi ad
  have b2 := aH _ rfl
  subst b2
  refine qe_block_eq ?_
  obtain rfl := oi aE
  have b3 := X.sb (sd (sk sz))
  exact qd ⟨H, I, J, s, rfl, b3, m, ac⟩
 rintro _ cE ⟨B, C, D, G, rfl, b4, cF, b5⟩
 refine qr (mv rfl (av rfl (nq (wc_ret ?_))))
 obtain rfl := oi aC
 exact er results118 ⟨rfl, trivial⟩ ⟨B, C, D, G, rfl, b4, b5⟩

theorem ok_spec_l6Field (F : Nat) {w : World} {K : KMap} {d : Option Addr} {f i : Nat} {k : Option Addr} {l m : Nat} {p0_d : GDoc} {p1_name : Str} {r : Str} (hS : SH w K [] w K []) (ar : rng64 p0_d.Id) (s : SliceAt tGField K d f i p0_d.Fields) (au : SliceAt tGAttr K k l m p0_d.Nums) (aw : p1_name.length ≤ maxLen) (hm : M.spec_l6Field F p0_d p1_name = some r) :
  Calls Tryz.prog 171 #[.agg #[.int .i64 p0_d.Id, .slice d f i, .slice k l m], sv p1_name] w fun e w' => ∃ K', e = .returned (sv r) ∧ SH w K [] w' K' [] ∧ r.length ≤ maxLen := by
 rw [M.spec_l6Field] at hm
 refine calls_in func171 rfl ntmps171 rfl (sr (bx rfl hS fun x ax J => ?_))
 have O : SH _ _ _ _ _ [obj x [.int .i64 p0_d.Id, .slice d f i, .slice k l m] 71] := J
 refine lv (rv_assign (v := sv []) rfl) (nsr (lv (rv_assign (v := .int .i64 0) rfl) (nq ?_)))
 obtain ⟨R, S, o⟩ := ob hm
 refine wc_cutg (fun E' w' => ∃ C q, R = .inl C ∧ E' = [] ∧ SH w K [] w' q [] ∧ KLe K q) ?_ ?_
 ·refine wc_block ?_
  obtain ⟨ay, T, D⟩ := ob S
  refine qw (fun (y : Int) E' w' => ∃ b, E' = [(1, sv p1_name), (2, pt x), (5, .int .i64 y)] ∧ SH w K [] w' b [obj x [.int .i64 p0_d.Id, .slice d f i, .slice k l m] 71] ∧ KLe K b ∧ rng64 y) T ⟨K, rfl, O, (KLe.refl _), (by decide : rng64 0)⟩ ?_
  rintro y _ az aA U G ⟨b, rfl, a, c, aB⟩
  refine wc_seq (sr (mv rfl (fa ff71_1 rfl (lv (rv_loadm1 tf68 rfl m0 a rfl) (lv (rv_len (t := tGField) underlying68 rfl (s.mono c)) (lv (rv_lss rfl rfl) (nq (wcc U rfl (fun V A => ?_) (fun V A => ?_)))))))))
  ·refine wc_skip (qs (wc_block (sr (fa ff71_1 rfl (lv (rv_loadm1 tf68 rfl m0 a rfl) (mv rfl ?_))))))
   obtain ⟨H, W, X⟩ := ob A
   refine li underlying68 tf141 (s.mono c) W fun Y Z aC aa ab => ?_
   obtain ⟨rfl, aD, aE⟩ := aa
   have ac : AtK _ Y Z [sv H.Name, sv H.Text] := ab
   refine fa ff141_0 rfl (lv (rv_load1 tf9 rfl a (ac 0 _ rfl)) (mv rfl (lv (rv_seql rfl rfl) (nq (wcc X rfl (fun ad B => ?_) (fun ad B => ?_))))))
   ·refine sr (fa ff71_1 rfl (lv (rv_loadm1 tf68 rfl m0 a rfl) (mv rfl ?_)))
    obtain ⟨I, ae, af⟩ := ob B
    refine li underlying68 tf141 (s.mono c) ae fun ag ah aF ai aj => ?_
    obtain ⟨rfl, aG, ak⟩ := ai
    have al : AtK _ ag ah [sv I.Name, sv I.Text] := aj
    refine fa ff141_1 rfl (lv (rv_load1 tf9 rfl a (al 1 _ rfl)) (av rfl (nq (wc_ret (qe_block_ret (qe_then_ret (qe_then_ret ?_)))))))
    obtain rfl := oi af
    have am := G _ rfl
    subst am
    refine qe_block_ret (qe_then_ret ?_)
    obtain rfl := oi D
    refine qe_then_ret ?_
    obtain rfl := oi o
    have an := a.sb (sd sz)
    exact er results171 ⟨rfl, trivial⟩ ⟨b, rfl, an, ak⟩
   refine wc_skip (qe_block (qe_seq (wc_region (mv rfl (lv (rv_add rfl rfl) (av rfl (wl_nil ?_)))))))
   obtain rfl := oi B
   exact qd ⟨_, rfl, b, rfl, a, c, (w64_rng _)⟩
  refine wc_exit (qe_then_exit (qe_then_exit ?_))
  obtain rfl := oi A
  have ao := G _ rfl
  subst ao
  refine qe_block_eq ?_
  obtain rfl := oi D
  have ap := a.sb (sd sz)
  exact qe_mid' ⟨_, b, rfl, rfl, ap, c⟩ trivial
 rintro _ aH ⟨C, q, rfl, rfl, aq, aI⟩
 have o := elim_l o
 refine qr (lv (rv_assign (v := sv []) rfl) (nq (wc_ret ?_)))
 obtain rfl := oi o
 exact er results171 ⟨rfl, trivial⟩ ⟨q, rfl, aq, (by decide : ([] : Str).length ≤ maxLen)⟩

set_option maxHeartbeats 2000000 in
theorem ok_spec_l7Terms (F : Nat) {w : World} {K : KMap} {a : Option Addr} {b c : Nat} {d : Option Addr} {f i : Nat} {D : Option Addr} {G H : Nat} {p0_c : GConf} {p1_docs : List GDoc} {p2_field : Str} {r : (List Str)} (hS : SH w K [] w K []) (aB : SliceAt tStr K a b c p0_c.Stops) (aC : SliceAt tGSyn K d f i p0_c.Syns) (ar : SliceAt tGDoc K D G H p1_docs) (aD : p2_field.length ≤ maxLen) (hm : M.spec_l7Terms F p0_c p1_docs p2_field = some r) :
  Calls Tryz.prog 133 #[.agg #[.slice a b c, .slice d f i], .slice D G H, sv p2_field] w fun e w' => ∃ a_1 n_2 c_3 K', e = .returned (.slice a_1 n_2 c_3) ∧ SH w K [] w' K' [tail (.slice a_1 n_2 c_3) 9 1] ∧ SliceAt tStr K' a_1 n_2 c_3 r := by
 rw [M.spec_l7Terms] at hm
 refine calls_in func133 rfl ntmps133 rfl (sr (bx rfl hS fun k bM aE => ?_))
 have aF : SH _ _ _ _ _ [obj k [.slice a b c, .slice d f i] 26] := aE
 refine lv (rv_assign (v := .slice none 0 0) rfl) (nr (b0 tStr underlying23 tf9 aF fun aG bN ad X aH aI => (av rfl (nsr (lv (rv_assign (v := .int .i64 0) rfl) (nq ?_))))))
 obtain ⟨aJ, aK, aL⟩ := ob hm
 refine wc_cutg (fun E' w' => ∃ I J O R, E' = [(7, .slice I J O)] ∧ SH w K [] w' R [tail (.slice I J O) 9 1] ∧ KLe ad R ∧ SliceAt tStr R I J O aJ) ?_ ?_
 ·refine wc_block ?_
  obtain ⟨bO, aM, aN⟩ := ob aK
  refine qw (fun (m : (List Str) × Int) E' w' => ∃ o q s x, E' = [(1, .slice D G H), (2, sv p2_field), (3, pt k), (7, .slice o q s), (8, .int .i64 m.2)] ∧ SH w K [] w' x [obj k [.slice a b c, .slice d f i] 26, tail (.slice o q s) 9 1] ∧ KLe ad x ∧ SliceAt tStr x o q s m.1 ∧ rng64 m.2) aM ⟨aG, 0, 0, ad, rfl, aI.f1, (KLe.refl _), aH, (by decide : rng64 0)⟩ ?_
  rintro m _ bP bQ aO aP ⟨o, q, s, x, rfl, au, y, aw, bR⟩
  refine wc_seq (sr (mv rfl (mv rfl (lv (rv_len (t := tGDoc) underlying27 rfl (ar.mono (X.trans y))) (lv (rv_lss rfl rfl) (nq (wcc aO rfl (fun aQ ae => ?_) (fun aQ ae => ?_))))))))
  ·refine wc_skip (qs (wc_block (wc_seq ?_)))
   have Y := au.drew
   refine wh1 (fun w' => Holds x w' ∧ HasObj k [.slice a b c, .slice d f i] w') (fun w' => True) 9 [] mixed ⟨Y.hasK (KLe.refl _), Y.hasObj m0⟩ (fun _ => trivial) (gh (fun _ h => rh_loadmS (ds := [.slice a b c, .slice d f i]) tf26 rfl rfl rfl h.2) (gt (rv_move rfl) (gt (rv_move rfl) ?_)))
   obtain ⟨af, aR, aS⟩ := ob ae
   refine gi underlying27 tf71 (ar.mono (X.trans y)) aR fun aT aU bS aV aW => ?_
   obtain ⟨ag, ah, ai, aj, ak, al, rfl, aX, aY, aZ⟩ := aV
   have a0 : AtK _ aT aU [.int .i64 af.Id, .slice ag ah ai, .slice aj ak al] := aW
   refine gh (fun _ h => rh_loadS (cs := [.int .i64 af.Id, .slice ag ah ai, .slice aj ak al]) tf71 rfl a0 rfl h.1) (gt (rv_move rfl) (gn ?_))
   obtain ⟨a2, a3, a4⟩ := ob aS
   refine lc (vs := [.agg #[.int .i64 af.Id, .slice ag ah ai, .slice aj ak al], sv p2_field]) co171 ((ok_spec_l6Field F) Y.enter0 aX aY aZ aD a3) ?_
   rintro bT bU ⟨bV, rfl, l, a6⟩
   refine ⟨_, rfl, ?_⟩
   have Z := (Y.c0 l).t2
   refine wl_nil (qh ⟨Z.hasK l.le, Z.hasObj m0⟩ (fun _ => trivial) (gn ?_))
   obtain ⟨bW, a7, a8⟩ := ob a4
   refine lc (vs := [.agg #[.slice a b c, .slice d f i], sv a2]) co118 ((ok_spec_l2Terms F) Z.enter0 (aB.mono ((X.trans y).trans l.le)) (aC.mono ((X.trans y).trans l.le)) a6 a7) ?_
   rintro bX bY ⟨ba, bb, bc, am, rfl, aa, ax⟩
   refine ⟨_, rfl, ?_⟩
   have an := (Z.c0 aa).t3
   refine wl_nil (qh ⟨an.hasK (l.le.trans aa.le), an.hasObj m1⟩ (fun _ => trivial) (gt (rv_assign rfl) (gd' (qr (lv (rv_assign (v := .int .i64 0) rfl) (nq ?_))))))
   obtain ⟨bd, be, bf⟩ := ob a8
   refine wc_cutg (fun E' w' => ∃ S T U V, E' = [(1, .slice D G H), (2, sv p2_field), (3, pt k), (7, .slice S T U), (8, .int .i64 m.2)] ∧ SH w K [] w' V [obj k [.slice a b c, .slice d f i] 26, tail (.slice S T U) 9 1] ∧ KLe am V ∧ SliceAt tStr V S T U bd) ?_ ?_
   ·refine wc_block ?_
    obtain ⟨bZ, bg, bh⟩ := ob be
    have bi := an.sb (sd (sk (sk sz)))
    refine qw (fun (ab : (List Str) × Int) E' w' => ∃ A B C W, E' = [(1, .slice D G H), (2, sv p2_field), (3, pt k), (7, .slice A B C), (8, .int .i64 m.2), (9, .slice ba bb bc), (10, .int .i64 ab.2)] ∧ SH w K [] w' W [obj k [.slice a b c, .slice d f i] 26, tail (.slice A B C) 9 1] ∧ KLe am W ∧ SliceAt tStr W A B C ab.1 ∧ rng64 ab.2) bg ⟨o, q, s, am, rfl, bi, (KLe.refl _), (aw.mono (l.le.trans aa.le)), (by decide : rng64 0)⟩ ?_
    rintro ab _ b1 b2 bj bk ⟨A, B, C, W, rfl, ao, ac, ay, b3⟩
    refine wc_seq (sr (mv rfl (mv rfl (lv (rv_len (t := tGTerm) underlying127 rfl (ax.mono ac)) (lv (rv_lss rfl rfl) (nq (wcc bj rfl (fun bl ap => ?_) (fun bl ap => ?_))))))))
    ·refine wc_skip (qs (wc_block (wc_region (mv rfl (mv rfl (mv rfl ?_))))))
     obtain ⟨aq, bm, bn⟩ := ob ap
     refine li underlying127 tf130 (ax.mono ac) bm fun bo bp b4 bq br => ?_
     obtain ⟨rfl, bs, b5⟩ := bq
     have bt : AtK _ bo bp [sv aq.Text, .int .i64 aq.At] := br
     refine fa ff130_0 rfl (lv (rv_load1 tf9 rfl ao (bt 0 _ rfl)) ?_)
     obtain ⟨b6, bu, bv⟩ := ob bn
     have az := ao.f1
     refine lc (vs := [.slice A B C, sv aq.Text]) co170 ((ok_spec_l7Put F) az.e1 ay bs bu) ?_
     rintro b7 b8 ⟨bw, bz, bA, bB, rfl, aA, bC⟩
     refine ⟨_, rfl, ?_⟩
     have bD := (az.c1 aA).t2
     refine av rfl (nb (qe_seq (wc_region (mv rfl (lv (rv_add rfl rfl) (av rfl (wl_nil ?_)))))))
     obtain rfl := oi bv
     exact qd ⟨_, rfl, bw, bz, bA, bB, rfl, bD.f1, (ac.trans aA.le), bC, (w64_rng _)⟩
    refine wc_exit (qe_then_exit (qe_then_exit ?_))
    obtain rfl := oi ap
    have bE := bk _ rfl
    subst bE
    refine qe_block_eq ?_
    obtain rfl := oi bh
    exact qd ⟨A, B, C, W, rfl, ao, ac, ay⟩
   rintro _ b9 ⟨S, T, U, V, rfl, bF, bG, bH⟩
   refine qe_block (qe_seq (wc_region (mv rfl (lv (rv_add rfl rfl) (av rfl (wl_nil ?_))))))
   obtain rfl := oi bf
   exact qd ⟨_, rfl, S, T, U, V, rfl, bF, (((y.trans l.le).trans aa.le).trans bG), bH, (w64_rng _)⟩
  refine wc_exit (qe_then_exit (qe_then_exit ?_))
  obtain rfl := oi ae
  have bI := aP _ rfl
  subst bI
  refine qe_block_eq ?_
  obtain rfl := oi aN
  have bJ := au.sb (sd (sk sz))
  exact qd ⟨o, q, s, x, rfl, bJ, y, aw⟩
 rintro _ ca ⟨I, J, O, R, rfl, bK, cb, bL⟩
 refine qr (mv rfl (av rfl (nq (wc_ret ?_))))
 obtain rfl := oi aL
 exact er results133 ⟨rfl, trivial⟩ ⟨I, J, O, R, rfl, bK, bL⟩
end Go.Proofs.YtoeajphlomankaaGreatDoor
