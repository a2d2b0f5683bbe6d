/-
 Walks of the functions. Printed by gen.py.
-/
import Derived.Test.YtoeajphlomankaaGreatDoorWalkA2
set_option linter.unusedVariables false
set_option maxRecDepth 100000
namespace Go.Proofs.YtoeajphlomankaaGreatDoor
open Go Go.Fk Go.RowKit Tryz

set_option maxHeartbeats 2000000 in
theorem ok_impl_WordsOf (F : Nat) {w : World} {K : KMap} {p0_s : Str} {r : (List GWord)} (hS : SH w K [] w K []) (aI : p0_s.length ≤ maxLen) (hm : M.impl_WordsOf F p0_s = some r) :
  Calls Tryz.prog 122 #[sv p0_s] w fun e w' => ∃ a_1 n_2 c_3 K', e = .returned (.slice a_1 n_2 c_3) ∧ SH w K [] w' K' [tail (.slice a_1 n_2 c_3) 174 4] ∧ SliceAt tGWord K' a_1 n_2 c_3 r := by
 rw [M.impl_WordsOf] at hm
 refine calls_in func122 rfl ntmps122 rfl (sr (lv (rv_assign (v := .slice none 0 0) rfl) (nr (b0 tGWord underlying171 tf174 hS fun a2 w3 K4 b9 an ao => (av rfl (nsr (mv rfl ?_)))))))
 obtain ⟨r8, aJ, aK⟩ := ob hm
 refine lc (vs := [sv p0_s]) co121 ((ok_impl_TextOk F) ao.enter0 aI aJ) ?_
 rintro cb cc ⟨O, rfl, X⟩
 refine ⟨_, rfl, ?_⟩
 have ap := (ao.c0 X).t1
 refine lv (rv_not rfl) (nq (wcc aK rfl (fun aL Y => ?_) (fun aL Y => ?_)))
 ·refine sr (mv rfl (av rfl (nq (rr ?_))))
  obtain rfl := oi Y
  exact er results122 ⟨rfl, trivial⟩ ⟨a2, 0, 0, O, rfl, ap, (an.mono X.le)⟩
 refine wc_skip (qs (sr (lv (rv_assign (v := .int .i64 0) rfl) (nq ?_))))
 obtain ⟨aM, aN, aO⟩ := ob Y
 refine wc_cutg (fun E' w' => ∃ B C D G, E' = [(3, .slice B C D)] ∧ SH w K [] w' G [tail (.slice B C D) 174 4] ∧ KLe O G ∧ SliceAt tGWord G B C D aM) ?_ ?_
 ·refine wc_block ?_
  obtain ⟨cd, aP, aQ⟩ := ob aN
  refine qw (fun (a : (List GWord) × Int) E' w' => ∃ d f i H, E' = [(0, sv p0_s), (3, .slice d f i), (4, .int .i64 a.2)] ∧ SH w K [] w' H [tail (.slice d f i) 174 4] ∧ KLe O H ∧ SliceAt tGWord H d f i a.1 ∧ rng64 a.2) aP ⟨a2, 0, 0, O, rfl, ap, (KLe.refl _), (an.mono X.le), (by decide : rng64 0)⟩ ?_
  rintro a _ ce cf aR aS ⟨d, f, i, H, rfl, Z, aa, I, aq⟩
  refine wc_seq (sr (mv rfl (mv rfl (lv (rv_slen underlying9 rfl) (lv (rv_lss rfl rfl) (nq (wcc aR rfl (fun aT ab => ?_) (fun aT ab => ?_))))))))
  ·refine wc_skip (qe_seq (wc_block (wc_seq (sr (mv rfl (mv rfl ?_))))))
   obtain ⟨aU, aV, aW⟩ := ob ab
   refine lv (rv_sidx underlying9 rfl rfl aV) ?_
   obtain ⟨aX, aY, aZ⟩ := ob aW
   refine lc (vs := [iv8 aU]) co164 ((ok_impl_lower F) Z.enter0  aY) ?_
   rintro cg ch ⟨ci, rfl, o⟩
   refine ⟨_, rfl, ?_⟩
   have ar := (Z.c0 o).t1
   obtain ⟨cj, a0, a1⟩ := ob aZ
   refine lc (vs := [iv8 aX]) co103 ((ok_impl_wordByte F) ar.enter0  a0) ?_
   rintro ck cl ⟨a3, rfl, q⟩
   refine ⟨_, rfl, ?_⟩
   have au := (ar.c0 q).t1
   refine lv (rv_not rfl) (nq (wcc a1 rfl (fun a4 ac => ?_) (fun a4 ac => ?_)))
   ·refine sr (mv rfl (lv (rv_add rfl rfl) (av rfl (nq (wc_exit (qe_then_exit (qe_block_eq ?_)))))))
    obtain rfl := oi ac
    exact qd ⟨_, rfl, d, f, i, a3, rfl, au, ((aa.trans o.le).trans q.le), (I.mono (o.le.trans q.le)), (w64_rng _)⟩
   refine wc_skip (qr (mv rfl (lv (rv_len (t := tGWord) underlying171 rfl (I.mono (o.le.trans q.le))) (mv rfl (lv (rv_build (cs := #[sv [], .int .i64 (a.1.length : Int), .int .i64 a.2, .int .i64 0]) sp174 tf174 rfl (by kernel_rfl)) (al tf174 au fun s cm a5 => ?_))))))
   have a6 : SH _ _ _ _ _ [obj s [sv [], .int .i64 0, .int .i64 0, .int .i64 0] 174, _] := a5
   refine ls [sv [], .int .i64 (a.1.length : Int), .int .i64 a.2, .int .i64 0] (.agg #[sv [], .int .i64 (a.1.length : Int), .int .i64 a.2, .int .i64 0]) tf174 a6 fun cn a7 => (nr (b0 tU8 underlying22 tf5 a7 fun a8 cp ad aw a9 ba => (av rfl (ns ?_))))
   obtain ⟨b, bb, bc⟩ := ob ac
   refine wc_cutg (fun E' w' => ∃ R S T U, E' = [(0, sv p0_s), (3, .slice d f i), (4, .int .i64 b.1), (5, pt s), (6, .slice R S T)] ∧ SH w K [] w' U [obj s [sv [], .int .i64 (a.1.length : Int), .int .i64 a.2, .int .i64 0] 174, tail (.slice d f i) 174 4, tail (.slice R S T) 5 1] ∧ KLe ad U ∧ rng64 b.1 ∧ SliceAt tU8 U R S T b.2) ?_ ?_
   ·refine wc_block ?_
    obtain ⟨cq, bd, be⟩ := ob bb
    refine qw (fun (y : Int × (List UInt8)) E' w' => ∃ k l m A, E' = [(0, sv p0_s), (3, .slice d f i), (4, .int .i64 y.1), (5, pt s), (6, .slice k l m)] ∧ SH w K [] w' A [obj s [sv [], .int .i64 (a.1.length : Int), .int .i64 a.2, .int .i64 0] 174, tail (.slice d f i) 174 4, tail (.slice k l m) 5 1] ∧ KLe ad A ∧ rng64 y.1 ∧ SliceAt tU8 A k l m y.2) bd ⟨a8, 0, 0, ad, rfl, ba.f2.f2, (KLe.refl _), aq, a9⟩ ?_
    rintro y _ cr ct bf bg ⟨k, l, m, A, rfl, ae, af, bh, V⟩
    refine wc_seq (wc_seq ?_)
    obtain ⟨bi, ax, bj⟩ := ob bf
    refine wc_cutg (fun E' w' => ∃ J, E' = [(0, sv p0_s), (3, .slice d f i), (4, .int .i64 y.1), (5, pt s), (6, .slice k l m), (39, .bool bi)] ∧ SH w K [] w' J [obj s [sv [], .int .i64 (a.1.length : Int), .int .i64 a.2, .int .i64 0] 174, tail (.slice d f i) 174 4, tail (.slice k l m) 5 1] ∧ KLe A J) ?_ ?_
    ·refine wc_region (mv rfl (mv rfl (lv (rv_slen underlying9 rfl) (lv (rv_lss rfl rfl) (mv rfl ?_)))))
     rcases bool_tf (decide (y.1 < (p0_s.length : Int))) with c | c
     ·have ag := cond_t c ax
      refine lg c (rv_move rfl) (lg c (rv_move rfl) ?_)
      obtain ⟨bk, bl, bm⟩ := ob ag
      refine lg c (rv_sidx underlying9 rfl rfl bl) ?_
      obtain ⟨bn, bo, bp⟩ := ob bm
      refine wl_call (wg rfl rfl c) rfl (rt_call (vs := [iv8 bk]) co164 rfl) ((ok_impl_lower F) ae.enter0  bo) ?_
      rintro cu cv ⟨cw, rfl, ay⟩
      refine ⟨_, rfl, ?_⟩
      have az := (ae.c0 ay).t3
      obtain ⟨cx, bq, br⟩ := ob bp
      refine wl_call (wg rfl rfl c) rfl (rt_call (vs := [iv8 bn]) co103 rfl) ((ok_impl_wordByte F) az.enter0  bq) ?_
      rintro cy cz ⟨bs, rfl, aA⟩
      refine ⟨_, rfl, ?_⟩
      have bt := (az.c0 aA).t3
      refine lv (rv_pick_t rfl c rfl) (wl_nil ?_)
      obtain rfl := oi br
      exact qd ⟨bs, rfl, bt, (ay.le.trans aA.le)⟩
     have ag := cond_f c ax
     refine lu c (lu c (lu c (lu c (lu c (lv (rv_pick_f (v := .bool false) rfl c rfl) (wl_nil ?_))))))
     obtain rfl := oi ag
     exact qd ⟨A, rfl, ae, (KLe.refl _)⟩
    rintro _ cA ⟨J, rfl, W, x⟩
    refine qe_seq (wcc bj rfl (fun bu ah => ?_) (fun bu ah => ?_))
    ·refine wc_skip (qe_seq (wc_block (wc_seq (sr (mv rfl (lv (rv_len (t := tU8) underlying22 rfl (V.mono x)) (lv (rv_lss rfl rfl) (nq (wcc ah rfl (fun bv ai => ?_) (fun bv ai => ?_))))))))))
     ·refine wc_region (mv rfl (mv rfl (mv rfl ?_)))
      obtain ⟨bw, bx, bz⟩ := ob ai
      refine lv (rv_sidx underlying9 rfl rfl bx) ?_
      obtain ⟨aj, bA, bB⟩ := ob bz
      refine lc (vs := [iv8 bw]) co164 ((ok_impl_lower F) W.enter0  bA) ?_
      rintro cB cC ⟨cD, rfl, ak⟩
      refine ⟨_, rfl, ?_⟩
      have bC := (W.c0 ak).t3
      refine lb tU8 (iv8 aj) [iv8 aj] aj underlying22 tf5 rfl bC fun cE cF cG aB bD bE => ?_
      obtain ⟨cH, bF, bG⟩ := ob bB
      refine lp underlying22 tf5 (V.mono ((x.trans ak.le).trans aB)) bD bF bE.f3 fun bH bI bJ cI bK bL bM bN => (av rfl (nq (wc_region (mv rfl (lv (rv_add rfl rfl) (av rfl (nb ?_)))))))
      obtain rfl := oi bG
      have bO := bN.f3.f3.sb (sk (sk (sk (sd sz))))
      exact qd ⟨_, rfl, bH, bI, bJ, bK, rfl, bO, ((((af.trans x).trans ak.le).trans aB).trans bL), (w64_rng _), bM⟩
     refine wc_skip (qe_seq (wc_region (mv rfl (lv (rv_add rfl rfl) (av rfl (nb ?_))))))
     obtain rfl := oi ai
     exact qd ⟨_, rfl, k, l, m, J, rfl, W, (af.trans x), (w64_rng _), (V.mono x)⟩
    refine wc_exit (qe_then_exit (qe_then_exit ?_))
    obtain rfl := oi ah
    have bP := bg _ rfl
    subst bP
    refine qe_block_eq ?_
    obtain rfl := oi be
    exact qd ⟨k, l, m, J, rfl, W, (af.trans x), bh, (V.mono x)⟩
   rintro _ cJ ⟨R, S, T, U, rfl, aC, aD, aE, aF⟩
   refine qr (mv rfl (lv (rv_b2s underlying22 underlying5 underlying9 rfl aF aC) (mv rfl (fa ff174_0 rfl (ls [sv b.2, .int .i64 (a.1.length : Int), .int .i64 a.2, .int .i64 0] (sv b.2) tf9 aC fun cK bQ => (fa ff174_3 rfl (ls [sv b.2, .int .i64 (a.1.length : Int), .int .i64 a.2, .int .i64 b.1] (.int .i64 b.1) tf3 bQ fun cL aG => (nq (wc_region ?_)))))))))
   refine mv rfl (lv (rv_loadmS (ds := [sv b.2, .int .i64 (a.1.length : Int), .int .i64 a.2, .int .i64 b.1]) tf174 rfl m0 aG rfl rfl) (lb tGWord (.agg #[sv b.2, .int .i64 (a.1.length : Int), .int .i64 a.2, .int .i64 b.1]) [sv b.2, .int .i64 (a.1.length : Int), .int .i64 a.2, .int .i64 b.1] (GWord.mk b.2 (a.1.length : Int) a.2 b.1) underlying171 tf174 ⟨rfl, (SliceAt.max aF), (rng_nat (SliceAt.max (I.mono (o.le.trans q.le)))), aq, aE⟩ aG fun cM cN cO aH bR bS => ?_))
   obtain ⟨cP, bT, bU⟩ := ob bc
   refine lp underlying171 tf174 (SliceAt.mono ((((o.le.trans q.le).trans aw).trans aD).trans aH) I) bR bT bS.f2 fun bV bW bX cQ bY bZ b1 b2 => (av rfl (nb ?_))
   obtain rfl := oi bU
   have b3 := b2.sb (sk (sd (sd (sd sz))))
   exact qd ⟨_, rfl, bV, bW, bX, bY, rfl, b3, ((((((aa.trans o.le).trans q.le).trans aw).trans aD).trans aH).trans bZ), b1, aE⟩
  refine wc_exit (qe_then_exit (qe_then_exit ?_))
  obtain rfl := oi ab
  have b4 := aS _ rfl
  subst b4
  refine qe_block_eq ?_
  obtain rfl := oi aQ
  exact qd ⟨d, f, i, H, rfl, Z, aa, I⟩
 rintro _ cR ⟨B, C, D, G, rfl, b5, cS, b6⟩
 refine qr (mv rfl (av rfl (nq (wc_ret ?_))))
 obtain rfl := oi aO
 exact er results122 ⟨rfl, trivial⟩ ⟨B, C, D, G, rfl, b5, b6⟩

set_option maxHeartbeats 2000000 in
theorem ok_impl_ruleAt (F : Nat) {w : World} {K : KMap} {q : Option Addr} {s x : Nat} {y : Option Addr} {A B : Nat} {G : Option Addr} {H I : Nat} {p0_c : GConf} {p1_terms : List GTerm} {p2_at : Int} {r : (Option GSyn)} (hS : SH w K [] w K []) (b1 : SliceAt tStr K q s x p0_c.Stops) (R : SliceAt tGSyn K y A B p0_c.Syns) (ai : SliceAt tGTerm K G H I p1_terms) (b2 : rng64 p2_at) (hm : M.impl_ruleAt F p0_c p1_terms p2_at = some r) :
  Calls Tryz.prog 123 #[.agg #[.slice q s x, .slice y A B], .slice G H I, .int .i64 p2_at] w fun e w' => ∃ v_1 K', e = .returned (v_1) ∧ SH w K [] w' K' [] ∧ PtrO tGSyn K' v_1 r := by
 rw [M.impl_ruleAt] at hm
 refine calls_in func123 rfl ntmps123 rfl (sr (bx rfl hS fun i b3 az => ?_))
 have ap : SH _ _ _ _ _ [obj i [.slice q s x, .slice y A B] 26] := az
 refine lv (rv_assign (v := .pointer none) rfl) (nr (lv (rv_assign (v := .pointer none) rfl) (nsr (fa ff26_1 rfl (lv (rv_loadm1 tf24 rfl m0 ap rfl) (lv (rv_len (t := tGSyn) underlying24 rfl R) (lv (rv_move (v := .int .i64 0) rfl) (nq ?_))))))))
 obtain ⟨aA, aB, aC⟩ := ob hm
 refine wc_cutg (fun E' w' => ∃ v25 S, E' = [(7, v25)] ∧ SH w K [] w' S [] ∧ KLe K S ∧ PtrO tGSyn S v25 aA) ?_ ?_
 ·refine wc_block ?_
  obtain ⟨b4, aD, aE⟩ := ob aB
  refine qF (fun (T : Nat) (Y : (Option GSyn)) E' w' => ∃ v36 C, E' = [(1, .slice G H I), (2, .int .i64 p2_at), (3, pt i), (7, v36), (16, .int .i64 (p0_c.Syns.length : Int)), (17, .int .i64 ((T : Nat) : Int))] ∧ SH w K [] w' C [obj i [.slice q s x, .slice y A B] 26] ∧ KLe K C ∧ PtrO tGSyn C v36 Y) aD ⟨(.pointer none), K, rfl, ap, (KLe.refl _), (show PtrO tGSyn _ _ none from rfl)⟩ ?_ ?_
  ·rintro T Y _ aF b5 hi39 aG ⟨v36, C, rfl, Z, k, hp37⟩
   refine sr (lv (rv_lss rfl rfl) (ns (wc_cond_t rfl (decide_eq_true (by omega)) (wc_skip (qe_seq (wc_seq (wc_block (sr (mv rfl (av rfl (nr (fa ff26_1 rfl ?_))))))))))))
   refine lv (rv_loadm1 tf24 rfl m0 Z rfl) (mv rfl ?_)
   obtain ⟨aa, aH, aI⟩ := ob aG
   refine li underlying24 tf105 (R.mono k) aH fun J O b6 aJ aK => ?_
   obtain ⟨ab, ac, ad, rfl, m, aL⟩ := aJ
   have ae : AtK _ J O [.slice ab ac ad, sv aa.To] := aK
   refine av rfl (ns (wc_seq ?_))
   obtain ⟨aM, aq, aN⟩ := ob aI
   refine wc_cutg (fun E' w' => ∃ D, E' = [(1, .slice G H I), (2, .int .i64 p2_at), (3, pt i), (7, v36), (9, .pointer (some ⟨J, O, none⟩)), (16, .int .i64 (p0_c.Syns.length : Int)), (17, .int .i64 ((T : Nat) : Int)), (50, .bool aM)] ∧ SH w K [] w' D [obj i [.slice q s x, .slice y A B] 26] ∧ KLe C D) ?_ ?_
   ·refine wc_quiet mixed (by kernel_rfl) Z (km rfl (kv (rv_nilCheck rfl) (kv (rv_fieldAddr ff105_0 rfl) (kh (rq_load1 tf23 rfl (ae 0 _ rfl)) (kv (rv_len (t := tStr) underlying23 rfl m) (km rfl (kv (rv_len (t := tGTerm) underlying127 rfl (ai.mono k)) (km rfl (kv (rv_sub rfl rfl) ?_)))))))))
    refine kv (rv_gtr rfl rfl) (km rfl ?_)
    rcases bool_tf (decide ((w64 ((p1_terms.length : Int) - p2_at)) < (aa.From.length : Int))) with c | c
    ·have af := cond_t c aq
     refine kn c (kn c (kn c (ku (ku (ku (ku (ku (ku (ku ?_)))))))))
     refine ku (ku (ku (ku (kn c (kv (rv_pick_t (v := .bool true) rfl c rfl) (wq_nil ?_))))))
     rintro b7 ⟨aO, aP, aQ⟩
     obtain rfl := oi af
     exact qd ⟨aO, rfl, aP, aQ⟩
    have af := cond_f c aq
    refine kg c (rv_move rfl) (kg c (rv_pnotnil underlying175 rfl rfl hp37) (kg c (rv_move rfl) ?_))
    rcases bool_tf (Y.isSome) with a | a
    ·have aj := cond_t a af
     refine kg a (rv_move rfl) (kg a (rv_nilCheck rfl) (kg a (rv_fieldAddr ff105_0 rfl) (kgh a (rq_load1 tf23 rfl (ae 0 _ rfl)) (kg a (rv_len (t := tStr) underlying23 rfl m) (kg a (rv_move rfl) ?_)))))
     obtain ⟨aR, aS, aT⟩ := ob aj
     obtain ⟨aU, aV, b8, rfl, aW, aX⟩ := PtrO.get hp37 aS
     obtain ⟨aY, aZ, a0, rfl, a2, b9⟩ := aW
     have a3 : AtK _ aU aV [.slice aY aZ a0, sv aR.To] := aX
     refine kg a (rv_nilCheck rfl) (kg a (rv_fieldAddr ff105_0 rfl) (kgh a (rq_load1 tf23 rfl (a3 0 _ rfl)) (kg a (rv_len (t := tStr) underlying23 rfl a2) (kg a (rv_leq rfl rfl) (kg c (rv_pick_t rfl a rfl) (kv (rv_pick_f rfl c rfl) (wq_nil ?_)))))))
     rintro ca ⟨a4, a6, a7⟩
     obtain rfl := oi aT
     exact qd ⟨a4, rfl, a6, a7⟩
    have aj := cond_f a af
    refine kn a (kn a (kn a (kn a (kn a (kn a (kn a (kn a (kn a (kn a ?_)))))))))
    refine kn a (kg c (rv_pick_f (v := .bool false) rfl a rfl) (kv (rv_pick_f rfl c rfl) (wq_nil ?_)))
    rintro cb ⟨a8, ba, bb⟩
    obtain rfl := oi aj
    exact qd ⟨a8, rfl, ba, bb⟩
   rintro _ cc ⟨D, rfl, ak, d⟩
   refine qe_seq (wcc aN rfl (fun bc am => ?_) (fun bc am => ?_))
   ·refine wc_exit (qe_then_exit (qe_block_eq (qg (lv (rv_add_to rfl rfl (w64_succ hi39 (SliceAt.max R))) (mv rfl (wl_nil ?_))))))
    obtain rfl := oi am
    exact qd ⟨v36, D, rfl, ak, (k.trans d), (PtrO.mono d hp37)⟩
   refine wc_skip (qr (lv (rv_assign (v := .bool true) rfl) (nsr (mv rfl (lv (rv_nilCheck rfl) (fa ff105_0 rfl (lv (rv_load1 tf23 rfl ak ((AtK.mono d ae) 0 _ rfl)) (lv (rv_len (t := tStr) underlying23 rfl (m.mono d)) (lv (rv_move (v := .int .i64 0) rfl) ?_)))))))))
   refine nq ?_
   obtain ⟨bd, be, bf⟩ := ob am
   refine wc_cutg (fun E' w' => ∃ U, E' = [(1, .slice G H I), (2, .int .i64 p2_at), (3, pt i), (7, v36), (9, .pointer (some ⟨J, O, none⟩)), (10, .bool bd), (16, .int .i64 (p0_c.Syns.length : Int)), (17, .int .i64 ((T : Nat) : Int))] ∧ SH w K [] w' U [obj i [.slice q s x, .slice y A B] 26] ∧ KLe D U) ?_ ?_
   ·refine wc_block ?_
    obtain ⟨cd, bg, bh⟩ := ob be
    refine qF (fun (ar : Nat) (ag : Bool) E' w' => ∃ V, E' = [(1, .slice G H I), (2, .int .i64 p2_at), (3, pt i), (7, v36), (9, .pointer (some ⟨J, O, none⟩)), (10, .bool ag), (16, .int .i64 (p0_c.Syns.length : Int)), (17, .int .i64 ((T : Nat) : Int)), (54, .slice ab ac ad), (55, .int .i64 (aa.From.length : Int)), (56, .int .i64 ((ar : Nat) : Int))] ∧ SH w K [] w' V [obj i [.slice q s x, .slice y A B] 26] ∧ KLe D V) bg ⟨D, rfl, ak, (KLe.refl _)⟩ ?_ ?_
    ·rintro ar ag _ bi ce hi112 bj ⟨V, rfl, W, o⟩
     refine sr (lv (rv_lss rfl rfl) (ns (wc_cond_t rfl (decide_eq_true (by omega)) (wc_skip (qe_seq (wc_seq (wc_block (sr (mv rfl ?_)))))))))
     obtain ⟨au, bk, bl⟩ := ob bj
     refine li underlying23 tf9 (m.mono (d.trans o)) bk fun bm bn cf bo bp => ?_
     obtain ⟨rfl, cg⟩ := bo
     have bq : AtK _ bm bn [sv au] := bp
     refine lv (rv_load1 tf9 rfl W (bq 0 _ rfl)) (av rfl (av rfl (nr (mv rfl (mv rfl (mv rfl (lv (rv_add rfl rfl) ?_)))))))
     obtain ⟨l, br, aw⟩ := ob bl
     refine li underlying127 tf130 (ai.mono ((k.trans d).trans o)) br fun bs bt ch bu bv => ?_
     obtain ⟨rfl, ci, cj⟩ := bu
     have bw : AtK _ bs bt [sv l.Text, .int .i64 l.At] := bv
     refine lv (rv_loadS (cs := [sv l.Text, .int .i64 l.At]) tf130 rfl W bw rfl) (al tf130 W fun bz ck bA => ?_)
     have bB : SH _ _ _ _ _ [obj bz [sv [], .int .i64 0] 130, _] := bA
     refine ls [sv l.Text, .int .i64 l.At] (.agg #[sv l.Text, .int .i64 l.At]) tf130 bB fun cl bC => (nq (wc_quiet mixed (by kernel_rfl) bC (km rfl (km rfl ?_))))
     rcases bool_tf (ag) with f | f
     ·have ah := cond_t f aw
      refine kg f (rv_fieldAddr ff130_0 rfl) (kgh f (rq_loadm1 tf9 rfl m0 rfl) (kg f (rv_move rfl) (kg f (rv_seql rfl rfl) (kv (rv_pick_t rfl f rfl) (km rfl ?_)))))
      rcases bool_tf ((l.Text == au)) with b | b
      ·have an := cond_t b ah
       refine kg b (rv_fieldAddr ff130_1 rfl) (kgh b (rq_loadm1 tf3 rfl m0 rfl) (kg b (rv_move rfl) (kg b (rv_move rfl) ?_)))
       obtain ⟨ax, bD, bE⟩ := ob an
       refine wq_indexAddr (t := tGTerm) (wg rfl rfl b) rfl underlying127 tf130 rfl rfl (ai.mono ((k.trans d).trans o)) bD fun bF bG cm bH bI => ?_
       obtain ⟨rfl, cn, cp⟩ := bH
       have bJ : AtK _ bF bG [sv ax.Text, .int .i64 ax.At] := bI
       refine kg b (rv_fieldAddr ff130_1 rfl) (kgh b (rq_load1 tf3 rfl (bJ 1 _ rfl)) (kg b (rv_move rfl) (kg b (rv_add rfl rfl) (kg b (rv_eql rfl rfl) (kv (rv_pick_t rfl b rfl) (kv (rv_assign rfl) (wq_nil ?_)))))))
       rintro cq ⟨bK, bL, bM⟩
       refine qe_block (qg (lv (rv_add_to rfl rfl (w64_succ hi112 (SliceAt.max (m.mono d)))) (mv rfl (wl_nil ?_))))
       obtain rfl := oi bE
       have bN := bL.sb (sd (sk sz))
       exact qd ⟨bK, rfl, bN, (o.trans bM)⟩
      have an := cond_f b ah
      refine kn b (kn b (kn b (kn b (kn b (kn b (kn b (kn b (kn b (kn b ?_)))))))))
      refine kv (rv_pick_f (v := .bool false) rfl b rfl) (kv (rv_assign rfl) (wq_nil ?_))
      rintro cr ⟨bO, bP, bQ⟩
      refine qe_block (qg (lv (rv_add_to rfl rfl (w64_succ hi112 (SliceAt.max (m.mono d)))) (mv rfl (wl_nil ?_))))
      obtain rfl := oi an
      have bR := bP.sb (sd (sk sz))
      exact qd ⟨bO, rfl, bR, (o.trans bQ)⟩
     have ah := cond_f f aw
     refine kn f (kn f (kn f (kn f (kv (rv_pick_f (v := .bool false) rfl f rfl) (km rfl (qv rfl rfl rfl rfl (qv rfl rfl rfl rfl (qv rfl rfl rfl rfl (qv rfl rfl rfl rfl ?_)))))))))
     refine qv rfl rfl rfl rfl (qv rfl rfl rfl rfl (qv rfl rfl rfl rfl (qv rfl rfl rfl rfl (qv rfl rfl rfl rfl (qv rfl rfl rfl rfl (kv (rv_pick_f (v := .bool false) rfl rfl rfl) (kv (rv_assign rfl) (wq_nil ?_))))))))
     rintro ct ⟨bS, bT, bU⟩
     refine qe_block (qg (lv (rv_add_to rfl rfl (w64_succ hi112 (SliceAt.max (m.mono d)))) (mv rfl (wl_nil ?_))))
     obtain rfl := oi ah
     have bV := bT.sb (sd (sk sz))
     exact qd ⟨bS, rfl, bV, (o.trans bU)⟩
    rintro ag _ bi bW ⟨V, rfl, W, o⟩
    subst bW
    refine sr (lv (rv_lss rfl rfl) (ns (wc_cond_f rfl (decide_eq_false (by omega)) (wc_exit (qe_then_exit (qe_then_exit (qe_block_eq ?_)))))))
    obtain rfl := oi bh
    exact qd ⟨V, rfl, W, o⟩
   rintro _ cu ⟨U, rfl, ay, X⟩
   refine qr (mv rfl (nq (wcc bf rfl (fun bX ao => ?_) (fun bX ao => ?_))))
   ·refine wc_region (mv rfl (av rfl (nb (qg (lv (rv_add_to rfl rfl (w64_succ hi39 (SliceAt.max R))) (mv rfl (wl_nil ?_)))))))
    obtain rfl := oi ao
    exact qd ⟨(.pointer (some ⟨J, O, none⟩)), U, rfl, ay, ((k.trans d).trans X), ⟨J, O, .agg #[.slice ab ac ad, sv aa.To], rfl, ⟨ab, ac, ad, rfl, (m.mono (d.trans X)), aL⟩, (AtK.mono (d.trans X) ae)⟩⟩
   refine wc_skip (qe_block (qg (lv (rv_add_to rfl rfl (w64_succ hi39 (SliceAt.max R))) (mv rfl (wl_nil ?_)))))
   obtain rfl := oi ao
   exact qd ⟨v36, U, rfl, ay, ((k.trans d).trans X), (PtrO.mono (d.trans X) hp37)⟩
  rintro Y _ aF bY ⟨v36, C, rfl, Z, k, hp37⟩
  subst bY
  refine sr (lv (rv_lss rfl rfl) (ns (wc_cond_f rfl (decide_eq_false (by omega)) (wc_exit (qe_then_exit (qe_then_exit (qe_block_eq ?_)))))))
  obtain rfl := oi aE
  have bZ := Z.sb (sd sz)
  exact qd ⟨v36, C, rfl, bZ, k, hp37⟩
 rintro _ cv ⟨v25, S, rfl, b0, cw, hp26⟩
 refine qr (mv rfl (av rfl (nq (wc_ret ?_))))
 obtain rfl := oi aC
 exact er results123 ⟨rfl, trivial⟩ ⟨v25, S, rfl, b0, hp26⟩

set_option maxHeartbeats 2000000 in
theorem ok_impl_TermsOf (F : Nat) {w : World} {K : KMap} {c : Option Addr} {d f : Nat} {i : Option Addr} {k l : Nat} {p0_c : GConf} {p1_s : Str} {r : (List GTerm)} (hS : SH w K [] w K []) (aj : SliceAt tStr K c d f p0_c.Stops) (aT : SliceAt tGSyn K i k l p0_c.Syns) (aU : p1_s.length ≤ maxLen) (hm : M.impl_TermsOf F p0_c p1_s = some r) :
  Calls Tryz.prog 78 #[.agg #[.slice c d f, .slice i k l], sv p1_s] w fun e w' => ∃ a_1 n_2 c_3 K', e = .returned (.slice a_1 n_2 c_3) ∧ SH w K [] w' K' [tail (.slice a_1 n_2 c_3) 130 2] ∧ SliceAt tGTerm K' a_1 n_2 c_3 r := by
 rw [M.impl_TermsOf] at hm
 refine calls_in func78 rfl ntmps78 rfl (sr (bx rfl hS fun m dx bf => ?_))
 have bg : SH _ _ _ _ _ [obj m [.slice c d f, .slice i k l] 26] := bf
 refine lv (rv_assign (v := .slice none 0 0) rfl) (nr (b0 tGTerm underlying127 tf130 bg fun q dy bh S aV aA => (av rfl (ns (wc_seq ?_)))))
 obtain ⟨bi, bj, bk⟩ := ob hm
 refine wc_cutg (fun E' w' => ∃ ak, E' = [(1, sv p1_s), (2, pt m), (5, .slice q 0 0), (20, .bool bi)] ∧ SH w K [] w' ak [obj m [.slice c d f, .slice i k l] 26, tail (.slice q 0 0) 130 2] ∧ KLe bh ak) ?_ ?_
 ·refine wc_region (lv (rv_loadmS (ds := [.slice c d f, .slice i k l]) tf26 rfl m1 aA rfl rfl) ?_)
  obtain ⟨bl, bm, aW⟩ := ob bj
  refine lc (vs := [.agg #[.slice c d f, .slice i k l]]) co20 ((ok_impl_ConfOk F) aA.enter0 (aj.mono S) (aT.mono S) bm) ?_
  rintro dz dA ⟨bn, rfl, aB⟩
  refine ⟨_, rfl, ?_⟩
  have aC := (aA.c0 aB).t2
  refine lv (rv_not rfl) (mv rfl ?_)
  rcases bool_tf ((!bl)) with o | o
  ·have aD := cond_t o aW
   refine lu o (lu o (lu o (lv (rv_pick_t (v := .bool true) rfl o rfl) (wl_nil ?_))))
   obtain rfl := oi aD
   exact qd ⟨bn, rfl, aC.f1, aB.le⟩
  have aD := cond_f o aW
  refine lg o (rv_move rfl) ?_
  obtain ⟨dB, bo, bp⟩ := ob aD
  refine wl_call (wg rfl rfl o) rfl (rt_call (vs := [sv p1_s]) co121 rfl) ((ok_impl_TextOk F) aC.enter0 aU bo) ?_
  rintro dC dD ⟨bq, rfl, aX⟩
  refine ⟨_, rfl, ?_⟩
  have br := (aC.c0 aX).t2
  refine lg o (rv_not rfl) (lv (rv_pick_f rfl o rfl) (wl_nil ?_))
  obtain rfl := oi bp
  exact qd ⟨bq, rfl, br.f1, (aB.le.trans aX.le)⟩
 rintro _ dE ⟨ak, rfl, aY, T⟩
 refine qe_seq (wcc bk rfl (fun bs aE => ?_) (fun bs aE => ?_))
 ·refine sr (mv rfl (av rfl (nq (rr ?_))))
  obtain rfl := oi aE
  have bt := aY.sb (sd (sk sz))
  exact er results78 ⟨rfl, trivial⟩ ⟨q, 0, 0, ak, rfl, bt, (aV.mono T)⟩
 refine wc_skip (qr (b0 tGTerm underlying127 tf130 aY fun bu dF dG Y bv aZ => (av rfl (nsr (mv rfl ?_)))))
 obtain ⟨a0, bw, bz⟩ := ob aE
 refine lc (vs := [sv p1_s]) co122 ((ok_impl_WordsOf F) aZ.enter0 aU bw) ?_
 rintro dH dI ⟨a2, a3, a4, aF, rfl, C, am⟩
 refine ⟨_, rfl, ?_⟩
 have bA := (aZ.c0 C).t4
 refine lv (rv_len (t := tGWord) underlying171 rfl am) (lv (rv_move (v := .int .i64 0) rfl) (nq ?_))
 obtain ⟨bB, bC, bD⟩ := ob bz
 refine wc_cutg (fun E' w' => ∃ D G H I, E' = [(2, pt m), (5, .slice q 0 0), (6, .slice D G H)] ∧ SH w K [] w' I [obj m [.slice c d f, .slice i k l] 26, tail (.slice q 0 0) 130 2, tail (.slice D G H) 130 2] ∧ KLe aF I ∧ SliceAt tGTerm I D G H bB) ?_ ?_
 ·refine wc_block ?_
  obtain ⟨dJ, bE, bF⟩ := ob bC
  have bG := bA.f1.f3.f3.sb (sk (sk (sk (sd sz))))
  refine qF (fun (aG : Nat) (aH : (List GTerm)) E' w' => ∃ s x y U, E' = [(2, pt m), (5, .slice q 0 0), (6, .slice s x y), (24, .slice a2 a3 a4), (25, .int .i64 (a0.length : Int)), (26, .int .i64 ((aG : Nat) : Int))] ∧ SH w K [] w' U [obj m [.slice c d f, .slice i k l] 26, tail (.slice q 0 0) 130 2, tail (.slice s x y) 130 2] ∧ KLe aF U ∧ SliceAt tGTerm U s x y aH) bE ⟨bu, 0, 0, aF, rfl, bG, (KLe.refl _), (bv.mono C.le)⟩ ?_ ?_
  ·rintro aG aH _ bH dK hi97 bI ⟨s, x, y, U, rfl, an, J, ao⟩
   refine sr (lv (rv_lss rfl rfl) (ns (wc_cond_t rfl (decide_eq_true (by omega)) (wc_skip (qe_seq (wc_seq (wc_block (sr ?_))))))))
   obtain ⟨a, bJ, bK⟩ := ob bI
   refine li underlying171 tf174 (am.mono J) bJ fun bL bM dL bN bO => ?_
   obtain ⟨rfl, a6, bP, dM, dN⟩ := bN
   have bQ : AtK _ bL bM [sv a.Text, .int .i64 a.At, .int .i64 a.From, .int .i64 a.To] := bO
   refine lv (rv_loadS (cs := [sv a.Text, .int .i64 a.At, .int .i64 a.From, .int .i64 a.To]) tf174 rfl an bQ rfl) (al tf174 an fun aI dO bR => ?_)
   have bS : SH _ _ _ _ _ [obj aI [sv [], .int .i64 0, .int .i64 0, .int .i64 0] 174, _, _, _] := bR
   refine ls [sv a.Text, .int .i64 a.At, .int .i64 a.From, .int .i64 a.To] (.agg #[sv a.Text, .int .i64 a.At, .int .i64 a.From, .int .i64 a.To]) tf174 bS fun dP aJ => (nr (fa ff174_0 rfl (lv (rv_loadm1 tf9 rfl m0 aJ rfl) ?_)))
   obtain ⟨V, bT, bU⟩ := ob bK
   refine lc (vs := [sv a.Text]) co57 ((ok_impl_StemOf F) aJ.enter0 a6 bT) ?_
   rintro dQ dR ⟨bV, rfl, O, a7⟩
   refine ⟨_, rfl, ?_⟩
   have ap := (aJ.c0 O).t4
   refine av rfl (ns ?_)
   obtain ⟨bW, bX, bY⟩ := ob bU
   refine wc_cutg (fun E' w' => ∃ aq, E' = [(2, pt m), (5, .slice q 0 0), (6, .slice s x y), (8, pt aI), (9, sv V), (24, .slice a2 a3 a4), (25, .int .i64 (a0.length : Int)), (26, .int .i64 ((aG : Nat) : Int)), (45, .bool bW)] ∧ SH w K [] w' aq [obj m [.slice c d f, .slice i k l] 26, obj aI [sv a.Text, .int .i64 a.At, .int .i64 a.From, .int .i64 a.To] 174, tail (.slice q 0 0) 130 2, tail (.slice s x y) 130 2] ∧ KLe bV aq) ?_ ?_
   ·refine wc_region (fa ff26_0 rfl (lv (rv_loadm1 tf23 rfl m1 ap rfl) (fa ff174_0 rfl (lv (rv_loadm1 tf9 rfl m0 ap rfl) ?_))))
    obtain ⟨bZ, b1, a8⟩ := ob bX
    refine lc (vs := [.slice c d f, sv a.Text]) co58 ((ok_slices_Contains_string F) ap.enter0 (SliceAt.mono (((((S.trans T).trans Y).trans C.le).trans J).trans O.le) aj) a6 b1) ?_
    rintro dS dT ⟨b2, rfl, ar⟩
    refine ⟨_, rfl, ?_⟩
    have au := (ap.c0 ar).t4
    refine lv (rv_not rfl) (mv rfl ?_)
    rcases bool_tf ((!bZ)) with b | b
    ·have aK := cond_t b a8
     refine lg b (rv_fieldAddr ff26_0 rfl) (lg b (rv_loadm1 tf23 rfl m1 au rfl) (lg b (rv_move rfl) ?_))
     obtain ⟨dU, b3, b4⟩ := ob aK
     refine wl_call (wg rfl rfl b) rfl (rt_call (vs := [.slice c d f, sv V]) co58 rfl) ((ok_slices_Contains_string F) au.enter0 (SliceAt.mono ((((((S.trans T).trans Y).trans C.le).trans J).trans O.le).trans ar.le) aj) a7 b3) ?_
     rintro dV dW ⟨b5, rfl, a9⟩
     refine ⟨_, rfl, ?_⟩
     have b6 := (au.c0 a9).t4
     refine lg b (rv_not rfl) (lv (rv_pick_t rfl b rfl) (wl_nil ?_))
     obtain rfl := oi b4
     exact qd ⟨b5, rfl, b6.f3.f3.f2.f3, (ar.le.trans a9.le)⟩
    have aK := cond_f b a8
    refine lu b (lu b (lu b (lu b (lu b (lv (rv_pick_f (v := .bool false) rfl b rfl) (wl_nil ?_))))))
    obtain rfl := oi aK
    exact qd ⟨b2, rfl, au.f3.f3.f2.f3, ar.le⟩
   rintro _ dX ⟨aq, rfl, aL, aw⟩
   refine qe_seq (wcc bY rfl (fun b7 aM => ?_) (fun b7 aM => ?_))
   ·refine wc_region (mv rfl (mv rfl (fa ff174_1 rfl (lv (rv_loadm1 tf3 rfl m1 aL rfl) (lv (rv_build (cs := #[sv V, .int .i64 a.At]) sp130 tf130 rfl (by kernel_rfl)) (lb tGTerm (.agg #[sv V, .int .i64 a.At]) [sv V, .int .i64 a.At] (GTerm.mk V a.At) underlying127 tf130 ⟨rfl, a7, bP⟩ aL fun dY dZ d0 ba b8 b9 => ?_))))))
    obtain ⟨d1, ca, cb⟩ := ob aM
    refine lp underlying127 tf130 (ao.mono ((O.le.trans aw).trans ba)) b8 ca b9.f4 fun cc cd ce d2 cf cg ch ci => (av rfl (nb (qg (lv (rv_add_to rfl rfl (w64_succ hi97 (SliceAt.max am))) (mv rfl (wl_nil ?_))))))
    obtain rfl := oi cb
    have cj := ci.f4.f3.sb (sk (sk (sk (sd (sd sz)))))
    exact qd ⟨cc, cd, ce, cf, rfl, cj, ((((J.trans O.le).trans aw).trans ba).trans cg), ch⟩
   refine wc_skip (qe_block (qg (lv (rv_add_to rfl rfl (w64_succ hi97 (SliceAt.max am))) (mv rfl (wl_nil ?_)))))
   obtain rfl := oi aM
   have ck := aL.sb (sk (sd (sk (sk sz))))
   exact qd ⟨s, x, y, aq, rfl, ck, ((J.trans O.le).trans aw), (ao.mono (O.le.trans aw))⟩
  rintro aH _ bH cl ⟨s, x, y, U, rfl, an, J, ao⟩
  subst cl
  refine sr (lv (rv_lss rfl rfl) (ns (wc_cond_f rfl (decide_eq_false (by omega)) (wc_exit (qe_then_exit (qe_then_exit (qe_block_eq ?_)))))))
  obtain rfl := oi bF
  exact qd ⟨s, x, y, U, rfl, an, J, ao⟩
 rintro _ d3 ⟨D, G, H, I, rfl, cm, aN, ax⟩
 refine qs (sr (lv (rv_assign (v := .int .i64 0) rfl) (nq ?_)))
 obtain ⟨cn, cp, cq⟩ := ob bD
 refine wc_cutg (fun E' w' => ∃ Z aa ab ac, E' = [(5, .slice Z aa ab)] ∧ SH w K [] w' ac [tail (.slice Z aa ab) 130 2] ∧ KLe I ac ∧ SliceAt tGTerm ac Z aa ab cn) ?_ ?_
 ·refine wc_block ?_
  obtain ⟨d4, cr, ct⟩ := ob cp
  refine qw (fun (ad : (List GTerm) × Int) E' w' => ∃ ae af ag ah, E' = [(2, pt m), (5, .slice ae af ag), (6, .slice D G H), (10, .int .i64 ad.2)] ∧ SH w K [] w' ah [obj m [.slice c d f, .slice i k l] 26, tail (.slice ae af ag) 130 2, tail (.slice D G H) 130 2] ∧ KLe I ah ∧ SliceAt tGTerm ah ae af ag ad.1 ∧ rng64 ad.2) cr ⟨q, 0, 0, I, rfl, cm, (KLe.refl _), (SliceAt.mono (((T.trans Y).trans C.le).trans aN) aV), (by decide : rng64 0)⟩ ?_
  rintro ad _ d5 d6 cu cv ⟨ae, af, ag, ah, rfl, ay, A, aO, cw⟩
  refine wc_seq (sr (mv rfl (mv rfl (lv (rv_len (t := tGTerm) underlying127 rfl (ax.mono A)) (lv (rv_lss rfl rfl) (nq (wcc cu rfl (fun cx aP => ?_) (fun cx aP => ?_))))))))
  ·refine wc_skip (qe_seq (wc_block (sr (lv (rv_loadmS (ds := [.slice c d f, .slice i k l]) tf26 rfl m0 ay rfl rfl) (mv rfl (mv rfl ?_))))))
   obtain ⟨d7, cy, cz⟩ := ob aP
   refine lc (vs := [.agg #[.slice c d f, .slice i k l], .slice D G H, .int .i64 ad.2]) co123 ((ok_impl_ruleAt F) ay.enter0 (SliceAt.mono (((((S.trans T).trans Y).trans C.le).trans aN).trans A) aj) (SliceAt.mono (((((S.trans T).trans Y).trans C.le).trans aN).trans A) aT) (ax.mono A) cw cy) ?_
   rintro d8 d9 ⟨v221, cA, rfl, R, hp222⟩
   refine ⟨_, rfl, ?_⟩
   have aQ := (ay.c0 R).t3
   refine av rfl (nsr (mv rfl (lv (rv_pnil underlying175 rfl rfl hp222) (nq (wcc cz rfl (fun cB aR => ?_) (fun cB aR => ?_))))))
   ·refine sr (mv rfl (mv rfl (mv rfl ?_)))
    obtain ⟨B, cC, cD⟩ := ob aR
    refine li underlying127 tf130 (ax.mono (A.trans R.le)) cC fun cE cF ea cG cH => ?_
    obtain ⟨rfl, cI, cJ⟩ := cG
    have cK : AtK _ cE cF [sv B.Text, .int .i64 B.At] := cH
    refine lv (rv_loadS (cs := [sv B.Text, .int .i64 B.At]) tf130 rfl aQ cK rfl) (lb tGTerm (.agg #[sv B.Text, .int .i64 B.At]) [sv B.Text, .int .i64 B.At] B underlying127 tf130 ⟨rfl, cI, cJ⟩ aQ fun eb ec ed bb cL cM => ?_)
    obtain ⟨ee, cN, cO⟩ := ob cD
    refine lp underlying127 tf130 (aO.mono (R.le.trans bb)) cL cN cM.f2 fun cP cQ cR ef cS cT cU cV => (av rfl (nr (mv rfl (lv (rv_add rfl rfl) (av rfl (nq (wc_exit (qe_then_exit (qe_block_eq ?_)))))))))
    obtain rfl := oi cO
    have cW := cV.f3.f1.f3.sb (sk (sk (sk (sd sz))))
    exact qd ⟨_, rfl, cP, cQ, cR, cS, rfl, cW, (((A.trans R.le).trans bb).trans cT), cU, (w64_rng _)⟩
   refine wc_skip (qs ?_)
   have bc := aQ.drew
   refine wh1 (fun w' => Holds cA w') (fun w' => True) 14 [] mixed (bc.hasK (KLe.refl _)) (fun _ => trivial) (gt (rv_move rfl) (gt (rv_move rfl) ?_))
   obtain ⟨ai, cX, cY⟩ := ob aR
   obtain ⟨cZ, c0, eg, rfl, c1, c2⟩ := PtrO.get hp222 cX
   obtain ⟨c4, c5, c6, rfl, c8, c9⟩ := c1
   have bd : AtK _ cZ c0 [.slice c4 c5 c6, sv ai.To] := c2
   refine gt (rv_nilCheck rfl) (gt (rv_fieldAddr ff105_1 rfl) (gh (fun _ h => rh_load1 tf9 rfl (bd 1 _ rfl) h) (gt (rv_move rfl) (gt (rv_move rfl) ?_))))
   obtain ⟨W, da, db⟩ := ob cY
   refine gi underlying127 tf130 (ax.mono (A.trans R.le)) da fun dc dd eh de df => ?_
   obtain ⟨rfl, ei, dg⟩ := de
   have dh : AtK _ dc dd [sv W.Text, .int .i64 W.At] := df
   refine gt (rv_fieldAddr ff130_1 rfl) (gh (fun _ h => rh_load1 tf3 rfl (dh 1 _ rfl) h) (gt (rv_build (cs := #[sv ai.To, .int .i64 W.At]) sp130 tf130 rfl (by kernel_rfl)) (gn (lb tGTerm (.agg #[sv ai.To, .int .i64 W.At]) [sv ai.To, .int .i64 W.At] (GTerm.mk ai.To W.At) underlying127 tf130 ⟨rfl, c9, dg⟩ bc fun ej ek el X di be => (wl_nil (qh (be.hasK X) (fun _ => trivial) (gn ?_)))))))
   obtain ⟨em, dj, dk⟩ := ob db
   refine lp underlying127 tf130 (aO.mono (R.le.trans X)) di dj be.f2 fun dl dm dn en dp az dq aS => (wl_nil (qh (aS.hasK (X.trans az)) (fun _ => trivial) (gt (rv_assign rfl) (gd' (qe_seq (wc_region (mv rfl (mv rfl (lv (rv_nilCheck rfl) (fa ff105_0 rfl ?_))))))))))
   refine lv (rv_load1 tf23 rfl aS ((AtK.mono (X.trans az) bd) 0 _ rfl)) (lv (rv_len (t := tStr) underlying23 rfl (c8.mono (X.trans az))) (lv (rv_add rfl rfl) (av rfl (nb ?_))))
   obtain rfl := oi dk
   have dr := aS.f3.f1.f3.sb (sk (sk (sk (sd sz))))
   exact qd ⟨_, rfl, dl, dm, dn, dp, rfl, dr, (((A.trans R.le).trans X).trans az), dq, (w64_rng _)⟩
  refine wc_exit (qe_then_exit (qe_then_exit ?_))
  obtain rfl := oi aP
  have dt := cv _ rfl
  subst dt
  refine qe_block_eq ?_
  obtain rfl := oi ct
  have du := ay.sb (sd (sk (sd sz)))
  exact qd ⟨ae, af, ag, ah, rfl, du, A, aO⟩
 rintro _ eo ⟨Z, aa, ab, ac, rfl, dv, ep, dw⟩
 refine qr (mv rfl (av rfl (nq (wc_ret ?_))))
 obtain rfl := oi cq
 exact er results78 ⟨rfl, trivial⟩ ⟨Z, aa, ab, ac, rfl, dv, dw⟩

theorem ok_impl_Seg_put_1 (F : Nat) {w : World} {K : KMap} {f : Option Addr} {i k : Nat} {c : Nat} {d : Nat} {p0_e : GEntry} {p1_x : Str} {p2_x : GTerm} {r : Bool} (hS : SH w K (List.flatMap Item.gs [obj c [sv p1_x] 9, obj d [sv p2_x.Text, .int .i64 p2_x.At] 130]) w K [obj c [sv p1_x] 9, obj d [sv p2_x.Text, .int .i64 p2_x.At] 130]) (x : p0_e.Field.length ≤ maxLen) (y : p0_e.Term.length ≤ maxLen) (A : SliceAt tGPost K f i k p0_e.Posts) (B : p1_x.length ≤ maxLen) (C : p2_x.Text.length ≤ maxLen) (D : rng64 p2_x.At) (hm : M.impl_Seg_put_1 F p0_e p1_x p2_x = some r) :
  Calls Tryz.prog 142 #[.agg #[sv p0_e.Field, sv p0_e.Term, .slice f i k], .pointer (some ⟨c, 0, none⟩), .pointer (some ⟨d, 0, none⟩)] w fun e w' => ∃ K', e = .returned (.bool r) ∧ SH w K (List.flatMap Item.gs [obj c [sv p1_x] 9, obj d [sv p2_x.Text, .int .i64 p2_x.At] 130]) w' K' [obj c [sv p1_x] 9, obj d [sv p2_x.Text, .int .i64 p2_x.At] 130] := by
 rw [M.impl_Seg_put_1] at hm
 refine calls_in func142 rfl ntmps142 rfl (sr (bx rfl hS fun m G o => ?_))
 have b : SH _ _ _ _ _ [obj m [sv p0_e.Field, sv p0_e.Term, .slice f i k] 86, _, _] := o
 refine lv (rv_assign (v := .bool false) rfl) (nr (fa ff86_0 rfl (lv (rv_loadm1 tf9 rfl m0 b rfl) (lv (rv_loadm1 tf9 rfl m1 b rfl) (lv (rv_seql rfl rfl) (mv rfl ?_))))))
 rcases bool_tf ((p0_e.Field == p1_x)) with a | a
 ·have l := cond_t a hm
  refine lg a (rv_fieldAddr ff86_1 rfl) (lg a (rv_loadm1 tf9 rfl m0 b rfl) (lg a (rv_fieldAddr ff130_0 rfl) (lg a (rv_loadm1 tf9 rfl m2 b rfl) (lg a (rv_seql rfl rfl) (lv (rv_pick_t rfl a rfl) (av rfl (nq (wc_ret ?_))))))))
  obtain rfl := oi l
  have q := b.sb (sd (sk (sk sz)))
  exact er results142 ⟨rfl, trivial⟩ ⟨K, rfl, q⟩
 have l := cond_f a hm
 refine lu a (lu a (lu a (lu a (lu a (lv (rv_pick_f (v := .bool false) rfl a rfl) (av rfl (nq (wc_ret ?_))))))))
 obtain rfl := oi l
 have s := b.sb (sd (sk (sk sz)))
 exact er results142 ⟨rfl, trivial⟩ ⟨K, rfl, s⟩

theorem ok_slices_IndexFunc_Entry__impl_Seg_put_1 (F : Nat) {w : World} {K : KMap} {o : Option Addr} {q s : Nat} {a : Nat} {b : Nat} {p0_s : List GEntry} {p1_f_c0 : Str} {p1_f_c1 : GTerm} {r : Int} (hS : SH w K (List.flatMap Item.gs [obj a [sv p1_f_c0] 9, obj b [sv p1_f_c1.Text, .int .i64 p1_f_c1.At] 130]) w K [obj a [sv p1_f_c0] 9, obj b [sv p1_f_c1.Text, .int .i64 p1_f_c1.At] 130]) (f : SliceAt tGEntry K o q s p0_s) (S : p1_f_c0.length ≤ maxLen) (T : p1_f_c1.Text.length ≤ maxLen) (U : rng64 p1_f_c1.At) (hm : M.slices_IndexFunc_Entry__impl_Seg_put_1 F p0_s p1_f_c0 p1_f_c1 = some r) :
  Calls Tryz.prog 141 #[.slice o q s, .func (.func 142) #[] #[.pointer (some ⟨a, 0, none⟩), .pointer (some ⟨b, 0, none⟩)]] w fun e w' => ∃ K', e = .returned (.int .i64 r) ∧ SH w K (List.flatMap Item.gs [obj a [sv p1_f_c0] 9, obj b [sv p1_f_c1.Text, .int .i64 p1_f_c1.At] 130]) w' K' [obj a [sv p1_f_c0] 9, obj b [sv p1_f_c1.Text, .int .i64 p1_f_c1.At] 130] ∧ rng64 r := by
 rw [M.slices_IndexFunc_Entry__impl_Seg_put_1] at hm
 refine calls_in func141 rfl ntmps141 rfl (sr (lv (rv_assign (v := .int .i64 0) rfl) (nsr (mv rfl (lv (rv_len (t := tGEntry) underlying28 rfl f) (lv (rv_move (v := .int .i64 0) rfl) (nq ?_)))))))
 obtain ⟨V, W, i⟩ := ob hm
 refine wc_cutg (fun E' w' => ∃ C k, V = .inl C ∧ E' = [] ∧ SH w K (List.flatMap Item.gs [obj a [sv p1_f_c0] 9, obj b [sv p1_f_c1.Text, .int .i64 p1_f_c1.At] 130]) w' k [obj a [sv p1_f_c0] 9, obj b [sv p1_f_c1.Text, .int .i64 p1_f_c1.At] 130] ∧ KLe K k) ?_ ?_
 ·refine wc_block ?_
  obtain ⟨ar, X, D⟩ := ob W
  refine qf (fun (G : Nat) (H : Unit) E' w' => ∃ d, E' = [(0, .slice o q s), (1, .func (.func 142) #[] #[pt a, pt b]), (7, .int .i64 (p0_s.length : Int)), (8, .int .i64 ((G : Nat) : Int))] ∧ SH w K (List.flatMap Item.gs [obj a [sv p1_f_c0] 9, obj b [sv p1_f_c1.Text, .int .i64 p1_f_c1.At] 130]) w' d [obj a [sv p1_f_c0] 9, obj b [sv p1_f_c1.Text, .int .i64 p1_f_c1.At] 130] ∧ KLe K d) X ⟨K, rfl, hS, (KLe.refl _)⟩ ?_ ?_
  ·rintro G H _ Y au hi28 Z aa ⟨d, rfl, l, m⟩
   refine sr (lv (rv_lss rfl rfl) (ns (wc_cond_t rfl (decide_eq_true (by omega)) (wc_skip (qe_seq (wc_seq (wc_block (sr (mv rfl (av rfl (nr (mv rfl ?_))))))))))))
   refine mv rfl (mv rfl ?_)
   obtain ⟨c, ab, ac⟩ := ob Z
   refine li underlying28 tf86 (f.mono m) ab fun ad ae aw af ag => ?_
   obtain ⟨x, y, A, rfl, ah, ai, aj⟩ := af
   have ak : AtK _ ad ae [sv c.Field, sv c.Term, .slice x y A] := ag
   refine lv (rv_loadS (cs := [sv c.Field, sv c.Term, .slice x y A]) tf86 rfl l ak rfl) ?_
   obtain ⟨ax, al, am⟩ := ob ac
   have I := l.f1.f1
   refine wl_call wn rfl (rt_callv (vs := [.agg #[sv c.Field, sv c.Term, .slice x y A]]) (cap := #[pt a, pt b]) co142 rfl rfl) ((ok_impl_Seg_put_1 F) I.e2 ah ai aj S T U al) ?_
   rintro ay az ⟨J, rfl, O⟩
   refine ⟨_, rfl, ?_⟩
   have R := (I.c2 O).t2
   refine nq (wcc am rfl (fun an B => ?_) (fun an B => ?_))
   ·refine sr (mv rfl (av rfl (nq (wc_ret (qe_block_ret (qe_then_ret (qe_then_ret ?_)))))))
    obtain rfl := oi B
    have ao := aa _ rfl
    subst ao
    refine qe_block_ret (qe_then_ret ?_)
    obtain rfl := oi D
    refine qe_then_ret ?_
    obtain rfl := oi i
    exact er results141 ⟨rfl, trivial⟩ ⟨J, rfl, R, (rng_idx hi28 (SliceAt.max f))⟩
   refine wc_skip (qe_block (qg (lv (rv_add_to rfl rfl (w64_succ hi28 (SliceAt.max f))) (mv rfl (wl_nil ?_)))))
   obtain rfl := oi B
   exact qd ⟨_, rfl, J, rfl, R, (m.trans O.le)⟩
  rintro H _ Y ap ⟨d, rfl, l, m⟩
  subst ap
  refine sr (lv (rv_lss rfl rfl) (ns (wc_cond_f rfl (decide_eq_false (by omega)) (wc_exit (qe_then_exit (qe_then_exit (qe_block_eq ?_)))))))
  obtain rfl := oi D
  exact qe_mid' ⟨_, d, rfl, rfl, l, m⟩ trivial
 rintro _ aA ⟨C, k, rfl, rfl, aq, aB⟩
 have i := elim_l i
 refine qr (lv (rv_assign (v := .int .i64 (-1)) rfl) (nq (wc_ret ?_)))
 obtain rfl := oi i
 exact er results141 ⟨rfl, trivial⟩ ⟨k, rfl, aq, (by decide : rng64 (-1))⟩

set_option maxHeartbeats 2000000 in
theorem ok_impl_Seg_put (F : Nat) {w : World} {K : KMap} {g : Nat} {d : Option Addr} {f i : Nat} {a : Option Addr} {n c : Nat} {lay : List ELay} {p0_s : GSeg} {p1_field : Str} {p2_t : GTerm} {p3_id : Int} {r : GSeg} (aM : SH w K (List.flatMap Item.gs [obj g [.slice d f i, .slice a n c] 30, pack (segItems 86 42 3 a n c lay)]) w K [obj g [.slice d f i, .slice a n c] 30, pack (segItems 86 42 3 a n c lay)]) (aN : SliceAt tGDoc K d f i p0_s.Docs) (X : LayOk lay p0_s.Entries) (au : p1_field.length ≤ maxLen) (aw : p2_t.Text.length ≤ maxLen) (ai : rng64 p2_t.At) (aO : rng64 p3_id) (hm : M.impl_Seg_put F p0_s p1_field p2_t p3_id = some r) :
  Calls Tryz.prog 89 #[.pointer (some ⟨g, 0, none⟩), sv p1_field, .agg #[sv p2_t.Text, .int .i64 p2_t.At], .int .i64 p3_id] w fun e w' => ∃ a_1 n_2 c_3 a_4 n_5 c_6 lay_7 K', e = .returned (.tuple #[]) ∧ SH w K (List.flatMap Item.gs [obj g [.slice d f i, .slice a n c] 30, pack (segItems 86 42 3 a n c lay)]) w' K' [obj g [.slice a_1 n_2 c_3, .slice a_4 n_5 c_6] 30, pack (segItems 86 42 3 a_4 n_5 c_6 lay_7)] ∧ SliceAt tGDoc K' a_1 n_2 c_3 r.Docs ∧ LayOk lay_7 r.Entries := by
 rw [M.impl_Seg_put] at hm
 obtain ⟨k, aP, h1⟩ := ob hm
 obtain ⟨es, C, h2⟩ := ob h1
 obtain ⟨en, ax, h3⟩ := ob h2
 obtain ⟨ps, D, h4⟩ := ob h3
 obtain ⟨p, aj, h5⟩ := ob h4
 obtain ⟨at_, Y, h6⟩ := ob h5
 obtain rfl := oi h6
 have aW : SH w K (List.flatMap Item.gs [obj g [.slice d f i, .slice a n c] 30, pack (segItems 86 42 3 a n c lay)]) w K (segTop 86 a n c lay :: ((lay).flatMap (ELay.items 42 3) ++ [obj g [.slice d f i, .slice a n c] 30])) := (aM.perm (List.Perm.swap _ _ _)).unpack
 have aX : SH w K (List.flatMap Item.gs [obj g [.slice d f i, .slice a n c] 30, pack (segItems 86 42 3 a n c lay)]) w K (obj g [.slice d f i, .slice a n c] 30 :: segTop 86 a n c lay :: (lay).flatMap (ELay.items 42 3)) := aW.perm (by rw [← List.cons_append]; exact List.perm_append_singleton _ _ |>.symm)
 generalize hMM : (List.flatMap Item.gs [obj g [.slice d f i, .slice a n c] 30, pack (segItems 86 42 3 a n c lay)]) = MM at *
 refine calls_in func89 rfl ntmps89 rfl (sr (bx rfl aX fun m w5 hS3' => ?_))
 have aZ : SH w K MM w5 K (obj m [sv p1_field] 9 :: obj g [.slice d f i, .slice a n c] 30 :: segTop 86 a n c lay :: (lay).flatMap (ELay.items 42 3)) := hS3'
 refine bx rfl aZ fun l w6 hS4' => ?_
 have ay : SH w K MM w6 K (obj l [sv p2_t.Text, .int .i64 p2_t.At] 130 :: obj m [sv p1_field] 9 :: obj g [.slice d f i, .slice a n c] 30 :: segTop 86 a n c lay :: (lay).flatMap (ELay.items 42 3)) := hS4'
 refine nr (mv rfl (lv (rv_nilCheck rfl) (fa ff30_1 rfl (lv (rv_loadm1 tf28 rfl m2 ay rfl) (lv (rv_makeFunc (vs := [pt m, pt l]) rfl) ?_)))))
 obtain ⟨gs, hgs⟩ : ∃ gs, gs = (segTop 86 a n c lay :: (lay).flatMap (ELay.items 42 3)).flatMap Item.gs := ⟨_, rfl⟩
 have A : SH w K MM w6 K ([obj m [sv p1_field] 9, obj l [sv p2_t.Text, .int .i64 p2_t.At] 130] ++ (obj g [.slice d f i, .slice a n c] 30 :: segTop 86 a n c lay :: (lay).flatMap (ELay.items 42 3))) := ay.perm (List.Perm.swap _ _ _)
 have hnd := A.nodup
 rw [List.flatMap_append, List.nodup_append, List.flatMap_cons] at hnd
 have hg56 : m ∉ gs ∧ l ∉ gs := by
  rw [hgs]
  exact ⟨fun hb => hnd.2.2 m (by simp [obj, Go.Fk.one]) m (List.mem_append_right _ hb) rfl, fun hb => hnd.2.2 l (by simp [obj, Go.Fk.one]) l (List.mem_append_right _ hb) rfl⟩
 have hseg := seg_lent (TE := 86) (TP := 42) (TI := 3) (gs := gs) A (fun it hi => List.mem_append_right _ (List.mem_cons_of_mem _ hi)) (fun it hi b hb => by rw [hgs]; exact List.mem_flatMap.2 ⟨it, hi, hb⟩) X
 have hlnd := A.lend (Kin := seeK K w6 gs) (see_holds A.holds) (fun it hi => by
  rcases List.mem_cons.1 hi with rfl | hi
  ·exact obj_see (A.items _ (List.mem_cons_self ..)) hg56.1
  rcases List.mem_singleton.1 hi with rfl
  exact obj_see (A.items _ (List.mem_cons_of_mem _ (List.mem_cons_self ..))) hg56.2)
 refine lc (vs := [.slice a n c, .func (.func 142) #[] #[pt m, pt l]]) co141 ((ok_slices_IndexFunc_Entry__impl_Seg_put_1 F) hlnd hseg.1 au aw ai aP) ?_
 rintro e7 w7 ⟨K7, rfl, hS7', br⟩
 refine ⟨_, rfl, ?_⟩
 have a0 : SH w K MM w7 K ([obj m [sv p1_field] 9, obj l [sv p2_t.Text, .int .i64 p2_t.At] 130] ++ (obj g [.slice d f i, .slice a n c] 30 :: segTop 86 a n c lay :: (lay).flatMap (ELay.items 42 3))) := A.lent (see_le A.holds) hS7' rfl (fun it hi => by
  rcases List.mem_cons.1 hi with rfl | hi
  ·exact obj_on (hS7'.items _ (List.mem_cons_self ..)) ((see_le A.holds).trans hS7'.le)
  rcases List.mem_singleton.1 hi with rfl
  exact obj_on (hS7'.items _ (List.mem_cons_of_mem _ (List.mem_cons_self ..))) ((see_le A.holds).trans hS7'.le))
 have al : SH w K MM w7 K (obj l [sv p2_t.Text, .int .i64 p2_t.At] 130 :: obj m [sv p1_field] 9 :: obj g [.slice d f i, .slice a n c] 30 :: segTop 86 a n c lay :: (lay).flatMap (ELay.items 42 3)) := a0.perm (List.Perm.swap _ _ _)
 refine av rfl (nsr (mv rfl (lv (rv_lss rfl rfl) (nq (wc_cutg (fun E' w' => ∃ a2 s y lay2 H, E' = [(0, pt g), (3, .int .i64 p3_id), (6, pt l), (8, .int .i64 (cond (decide (k < 0)) (p0_s.Entries.length : Int) k))] ∧ SH w K MM w' H (obj l [sv p2_t.Text, .int .i64 p2_t.At] 130 :: obj m [sv p1_field] 9 :: obj g [.slice d f i, .slice a2 s y] 30 :: segTop 86 a2 s y lay2 :: (lay2).flatMap (ELay.items 42 3)) ∧ KLe K H ∧ LayOk lay2 es) ?_ ?_)))))
 ·refine wc_cond rfl (fun hb => ?_) (fun hb => ?_)
  ·rw [hb] at C ⊢
   simp only [cond_true] at C ⊢
   refine sr (mv rfl (lv (rv_nilCheck rfl) (fa ff30_1 rfl (lv (rv_loadm1 tf28 rfl m2 al rfl) (lv (rv_lenRow underlying28 rfl hseg.2) (av rfl (nq ?_)))))))
   have I := al.drew
   refine wh1 (fun w' => Holds K w' ∧ HasObj m [sv p1_field] w' ∧ HasObj l [sv p2_t.Text, .int .i64 p2_t.At] w') (fun w' => HasObj g [.slice d f i, .slice a n c] w') 13 [(4, 10), (10, 13)] mixed ⟨I.hasK (KLe.refl _), I.hasObj m1, I.hasObj m0⟩ (fun _ => I.hasObj (.tail _ (.tail _ (.head _)))) (gt (rv_move rfl) (gt (rv_move rfl) (gt (rv_nilCheck rfl) (gt (rv_fieldAddr ff30_1 rfl) (gf (fun _ h => rh_loadm1 tf28 rfl rfl h) (gh (fun _ h => rh_loadm1 tf9 rfl rfl h.2.1) (gt (rv_fieldAddr ff130_0 rfl) (gh (fun _ h => rh_loadm1 tf9 rfl rfl h.2.2) (gt (rv_build (cs := #[sv p1_field, sv p2_t.Text, .slice none 0 0]) sp86 tf86 rfl (by kernel_rfl)) ?_)))))))))
   refine gn (wl_buildSlice (t := tRaw 3) (n := 1) (pv := [(0, .agg #[sv p1_field, sv p2_t.Text, .slice none 0 0])]) (cs := [sv p1_field, sv p2_t.Text, .slice none 0 0]) (xs := [([sv p1_field, sv p2_t.Text, .slice none 0 0] : List Value)]) wn rfl underlying28 tf86 rfl rfl rfl (by kernel_rfl) rfl rfl (lit_cons (t := tRaw 3) (u := .agg #[sv p1_field, sv p2_t.Text, .slice none 0 0]) (z := ([sv p1_field, sv p2_t.Text, .slice none 0 0] : List Value)) ⟨rfl, rfl, by simp [Value.oneCell', sv]⟩ lit_nil) I fun a9 w9 K9 Z aB hS9' => ?_)
   obtain ⟨b9, o9, rfl⟩ := raw_addr aB
   have a4 := raw_lit aB
   have J := hS9'.drop
   refine wl_nil (qh ⟨J.hasK Z, J.hasObj m1, J.hasObj m0⟩ (fun _ => J.hasObj (.tail _ (.tail _ (.head _)))) ?_)
   unfold catL at C
   split at C
   case isFalse => cases C
   rename_i hbd
   cases C
   have hnl : n = p0_s.Entries.length := hseg.2
   have hS9t : SH w K MM w9 K9 (rowI (.slice a n c) (lay.flatMap ELay.cells) 86 3 :: (obj l [sv p2_t.Text, .int .i64 p2_t.At] 130 :: obj m [sv p1_field] 9 :: obj g [.slice d f i, .slice a n c] 30 :: (lay).flatMap (ELay.items 42 3))) := J.perm (List.perm_middle (l₁ := [_, _, _])).symm
   refine gn ?_
   have hcl9 : (lay.flatMap ELay.cells).length = n * 3 := by rw [sg_cells3, ← sg_top_len hS9t (List.mem_cons_self ..)]
   refine wl_appendI wn rfl underlying28 tf86 rfl rfl rfl (by decide) rfl a4 (by simp [Value.oneCell', sv]) hcl9 (by simp at hbd; omega) (by simp at hbd; omega) hS9t fun aa ab bv O => (wl_nil (qh ⟨O.hasK Z, O.hasObj m2, O.hasObj m1⟩ (fun _ => O.hasObj (.tail _ (.tail _ (.tail _ (.head _))))) (gt (rv_nilCheck rfl) (gt (rv_fieldAddr ff30_1 rfl) (gn (ls [.slice d f i, .slice (some ⟨aa, 0, none⟩) (n + 1) ab] (.slice (some ⟨aa, 0, none⟩) (n + 1) ab) tf28 O.f3 fun a5 ac => (wl_nil (qh ⟨ac.hasK Z, ac.hasObj m3, ac.hasObj m2⟩ (fun h => nomatch h) (gd' ?_)))))))))
   have a6 := SH.rowNil ac 42 2
   have a7 : SH w K MM a5 K9 (obj l [sv p2_t.Text, .int .i64 p2_t.At] 130 :: obj m [sv p1_field] 9 :: obj g [.slice d f i, .slice (some ⟨aa, 0, none⟩) (n + 1) ab] 30 :: segTop 86 (some ⟨aa, 0, none⟩) (n + 1) ab (lay ++ [ELay.mk p1_field p2_t.Text [] none 0 0]) :: ((lay ++ [ELay.mk p1_field p2_t.Text [] none 0 0])).flatMap (ELay.items 42 3)) := by
    have G : (lay ++ [ELay.mk p1_field p2_t.Text [] none 0 0]).flatMap ELay.cells = lay.flatMap ELay.cells ++ [sv p1_field, sv p2_t.Text, .slice none 0 0] := by rw [List.flatMap_append]; rfl
    have S : ((lay ++ [ELay.mk p1_field p2_t.Text [] none 0 0])).flatMap (ELay.items 42 3) = (lay).flatMap (ELay.items 42 3) ++ [rowI (.slice none 0 0) [] 42 2] := by rw [List.flatMap_append]; rfl
    unfold segTop
    rw [G, S]
    exact a6.perm ((show List.Perm ((_ :: _ :: _ :: _ :: (lay).flatMap (ELay.items 42 3)) ++ [_]) _ from List.perm_append_singleton _ _).trans (.cons _ (List.Perm.append_right ((lay).flatMap (ELay.items 42 3)) (List.perm_append_comm (l₁ := [_, _]) (l₂ := [_, _])))))
   refine qe_mid' ⟨_, _, _, _, K9, rfl, a7, Z, fun x hx => ?_, ?_⟩ ⟨rfl, rfl, rfl, rfl, trivial⟩
   ·rcases List.mem_append.1 hx with hx | hx
    ·exact X.1 x hx
    rcases List.mem_singleton.1 hx with rfl
    exact ⟨au, aw, by simp⟩
   rw [List.map_append, X.2]; rfl
  rw [hb] at C ⊢
  simp only [cond_false] at C ⊢
  obtain rfl := oi C
  exact wc_skip (qd ⟨a, n, c, lay, K, rfl, al, .refl _, X⟩)
 rintro _ aC ⟨a2, s, y, lay2, H, rfl, ao, aD, hlay2⟩
 generalize hkk : (cond (decide (k < 0)) (p0_s.Entries.length : Int) k) = kk at *
 obtain ⟨hok2, hes⟩ := hlay2
 obtain ⟨el, aE, hel⟩ := sg_getI_map (hes ▸ ax : getI (lay2.map ELay.x) kk = some en)
 obtain ⟨pre, post, hsplit, hpre, bw⟩ := sg_split aE
 have hn2 := sg_top_len ao m3
 have hn2e : s = es.length := by rw [← hes, List.length_map]; exact hn2
 obtain ⟨gE, rfl⟩ := SH.rowI_at ao m3 hn2 aE
 obtain ⟨R, hR⟩ : ∃ R, R = ((pre).flatMap (ELay.items 42 3) ++ (post).flatMap (ELay.items 42 3)) := ⟨_, rfl⟩
 have B : SH w K MM aC H (obj l [sv p2_t.Text, .int .i64 p2_t.At] 130 :: obj m [sv p1_field] 9 :: obj g [.slice d f i, .slice (some ⟨gE, 0, none⟩) s y] 30 :: segTop 86 (some ⟨gE, 0, none⟩) s y (pre ++ el :: post) :: ELay.row 42 el :: (el.posts.map (PLay.item 3) ++ R)) := by
  rw [hR]
  have T := ao
  rw [hsplit] at T
  exact T.perm ((List.Perm.append_left [_, _, _] (seg_focus (TE := 86) (TP := 42) (TI := 3))).symm)
 have helok : el.ok := hok2 el (by rw [hsplit]; simp)
 have hnP : el.n = el.posts.length := sg_row_len B m4
 have hhead := sg_head_at (pre := pre) (post := post) (e := el) (o := kk.toNat * 3 + 2) (by rw [hpre])
 have hpl : el.posts.length ≤ maxLen := rowI_max B m4 hnP
 have henp : en.Posts = el.posts.map PLay.x := by rw [← hel]; rfl
 refine qr (mv rfl (lv (rv_nilCheck rfl) (fa ff30_1 rfl (lv (rv_loadm1 tf28 rfl m2 B rfl) (mv rfl (lv (rv_indexI (t := tGEntry) underlying28 tf86 rfl rfl rfl hn2e ax) (av rfl (nr (mv rfl ?_)))))))))
 refine lv (rv_nilCheck rfl) (fa ff86_2 rfl (lv (rh_loadI1 tf37 rfl rfl hhead rfl (B.hasRow (.tail _ (.tail _ (.tail _ (.head _)))))) (lv (rv_lenRow underlying37 rfl hnP) (lv (rv_sub rfl rfl) (av rfl (ns (wc_seq (wc_cutg (fun E' w' => E' = [(3, .int .i64 p3_id), (6, pt l), (9, .pointer (some ⟨gE, kk.toNat * tGEntry.size, none⟩)), (10, .int .i64 (w64 ((el.posts.length : Int) - 1))), (62, .bool (needPost en.Posts p3_id))] ∧ w' = aC) ?_ ?_))))))))
 ·refine wc_region (mv rfl (lv (rv_lss rfl rfl) (mv rfl ?_)))
  rcases List.eq_nil_or_concat el.posts with hnil | ⟨ps0, p0, hcat⟩
  ·have hb : decide (w64 ((el.posts.length : Int) - 1) < 0) = true := by rw [sg_pred hpl, hnil]; rfl
   have hnp : needPost en.Posts p3_id = true := by rw [henp, hnil]; rfl
   rw [hnp]
   refine lu hb (lu hb (lu hb (lu hb (lu hb (lu hb (lu hb (lu hb (lu hb (lu hb ?_)))))))))
   refine lv (rv_pick_t (v := .bool true) rfl hb rfl) (wl_nil ?_)
   exact qd ⟨rfl, rfl⟩
  rw [List.concat_eq_append] at hcat
  have hlp : el.posts.length = ps0.length + 1 := by rw [hcat]; simp
  have hw : w64 ((el.posts.length : Int) - 1) = (ps0.length : Int) := by rw [sg_pred hpl, hlp]; omega
  have hb : decide (w64 ((el.posts.length : Int) - 1) < 0) = false := by rw [hw]; exact decide_eq_false (by omega)
  have hnp : needPost en.Posts p3_id = !(p0.doc == p3_id) := by rw [henp, hcat, List.map_append]; simp [needPost, PLay.x]
  rw [hnp]
  have hzp : getI en.Posts (w64 ((el.posts.length : Int) - 1)) = some p0.x := by rw [henp, hcat, List.map_append]; exact sg_last (by rw [← hcat, hw]; simp)
  have hnPe : el.n = en.Posts.length := by rw [henp, List.length_map]; exact hnP
  obtain ⟨gP, hgP⟩ := SH.rowI_at B m4 hnPe hzp
  have hdoc : (el.posts.flatMap PLay.cells)[(w64 ((el.posts.length : Int) - 1)).toNat * 2 + 0]? = some (.int .i64 p0.doc) := by rw [hcat]; exact sg_post_at (k := 0) (by rw [← hcat, hw]; simp)
  refine lg hb (rv_move rfl) (lg hb (rv_nilCheck rfl) (lg hb (rv_fieldAddr ff86_2 rfl) (lg hb (rh_loadI1 tf37 rfl rfl hhead rfl (B.hasRow (.tail _ (.tail _ (.tail _ (.head _)))))) (lg hb (rv_move rfl) (lg hb (rv_indexI (t := tGPost) underlying37 tf42 rfl rfl hgP hnPe hzp) (lg hb (rv_fieldAddr ff42_0 rfl) (lg hb (rh_loadI1 tf3 rfl rfl hdoc hgP (B.hasRow (.tail _ (.tail _ (.tail _ (.tail _ (.head _))))))) (lg hb (rv_move rfl) (lg hb (rv_neq rfl rfl) ?_)))))))))
  refine lv (rv_pick_f rfl hb rfl) (wl_nil ?_)
  exact qd ⟨rfl, rfl⟩
 rintro _ _ ⟨rfl, rfl⟩
 refine qe_seq (wc_cutg (fun E' w' => ∃ el2 ps0 pl K3, E' = [(6, pt l), (9, .pointer (some ⟨gE, kk.toNat * tGEntry.size, none⟩)), (10, .int .i64 (ps0.length : Int))] ∧ SH w K MM w' K3 (obj l [sv p2_t.Text, .int .i64 p2_t.At] 130 :: obj m [sv p1_field] 9 :: obj g [.slice d f i, .slice (some ⟨gE, 0, none⟩) s y] 30 :: segTop 86 (some ⟨gE, 0, none⟩) s y (pre ++ el2 :: post) :: ELay.row 42 el2 :: (pl.item 3 :: (ps0.map (PLay.item 3) ++ R))) ∧ KLe K K3 ∧ el2.ok ∧ el2.field = el.field ∧ el2.term = el.term ∧ el2.posts = ps0 ++ [pl] ∧ ps = el2.posts.map PLay.x) ?_ ?_)
 ·refine wc_cond rfl (fun hb => ?_) (fun hb => ?_)
  ·rw [hb] at D
   simp only [cond_true] at D
   refine sr (mv rfl (mv rfl (lv (rv_nilCheck rfl) (fa ff86_2 rfl (lv (rh_loadI1 tf37 rfl rfl hhead rfl (B.hasRow (.tail _ (.tail _ (.tail _ (.head _)))))) (mv rfl (lv (rv_build (cs := #[.int .i64 p3_id, .slice none 0 0]) sp42 tf42 rfl (by kernel_rfl)) (wl_buildSlice (t := tRaw 2) (n := 1) (pv := [(0, .agg #[.int .i64 p3_id, .slice none 0 0])]) (cs := [.int .i64 p3_id, .slice none 0 0]) (xs := [([.int .i64 p3_id, .slice none 0 0] : List Value)]) wn rfl underlying37 tf42 rfl rfl rfl (by kernel_rfl) rfl rfl (lit_cons (t := tRaw 2) (u := .agg #[.int .i64 p3_id, .slice none 0 0]) (z := ([.int .i64 p3_id, .slice none 0 0] : List Value)) ⟨rfl, rfl, by simp [Value.oneCell']⟩ lit_nil) B fun bz bA aF a8 aG hS22' => ?_))))))))
   obtain ⟨bB, bC, rfl⟩ := raw_addr aG
   have ba := raw_lit aG
   have bb := hS22'.drop
   unfold catL at D
   split at D
   case isFalse => cases D
   rename_i hbd
   cases D
   have hbd2 : (el.n + 1) * 32 ≤ 140737488355328 := by rw [henp] at hbd; simp at hbd; rw [hnP]; exact hbd
   refine wl_appendI wn rfl underlying37 tf42 rfl rfl rfl (by decide) rfl ba (by simp [Value.oneCell']) (by rw [sg_cells2, hnP]) (by omega) hbd2 bb.f4 fun aH c24 bD bc => (lv (rv_nilCheck rfl) (fa ff86_2 rfl (wl_storeC wn tf37 rfl rfl rfl bc.f4 (by have := (List.getElem?_eq_some_iff.1 hhead).1; exact this) ?_)))
   intro bd be
   refine nq (wc_region (mv rfl (lv (rv_add rfl rfl) (lv (rv_as rfl (congrArg (Value.int .i64) (sg_back hpl))) (wl_nil ?_)))))
   obtain ⟨el2, hel2⟩ : ∃ el2 : ELay, el2 = ⟨el.field, el.term, el.posts ++ [⟨p3_id, [], none, 0, 0⟩], some ⟨aH, 0, none⟩, el.n + 1, c24⟩ := ⟨_, rfl⟩
   have hset := sg_head_set (pre := pre) (post := post) (e := el) (e' := el2) (o := kk.toNat * 3 + 2) (by rw [hpre]) (by rw [hel2]) (by rw [hel2])
   have bf : SH w K MM bd aF (rowI (.slice (some ⟨gE, 0, none⟩) s y) ((pre ++ el2 :: post).flatMap ELay.cells) 86 3 :: ELay.row 42 el2 :: obj l [sv p2_t.Text, .int .i64 p2_t.At] 130 :: obj m [sv p1_field] 9 :: obj g [.slice d f i, .slice (some ⟨gE, 0, none⟩) s y] 30 :: (el.posts.map (PLay.item 3) ++ R)) := by
    have G : el2.posts.flatMap PLay.cells = el.posts.flatMap PLay.cells ++ [.int .i64 p3_id, .slice none 0 0] := by rw [hel2, List.flatMap_append]; rfl
    have S : el2.a = some ⟨aH, 0, none⟩ := by rw [hel2]
    have e3 : el2.n = el.n + 1 := by rw [hel2]
    have e4 : el2.c = c24 := by rw [hel2]
    rw [← hset]
    unfold ELay.row
    rw [G, S, e3, e4]
    exact be
   have bg := SH.rowNil bf 3 1
   refine qe_mid' ⟨el2, el.posts, ⟨p3_id, [], none, 0, 0⟩, aF, rfl, bg.perm ?_, aD.trans a8, ?_, by rw [hel2], by rw [hel2], by rw [hel2], ?_⟩ ⟨rfl, rfl, rfl, trivial⟩
   ·exact (List.Perm.append_left [_, _, _, _, _] (List.Perm.refl _)).trans ((List.perm_middle (l₁ := [_, _, _, _, _])).trans (.cons _ (List.Perm.append_right _ (List.perm_append_comm (l₁ := [_, _, _]) (l₂ := [_, _])))))
   ·rw [hel2]
    refine ⟨helok.1, helok.2.1, fun q hq => ?_⟩
    rcases List.mem_append.1 hq with hq | hq
    ·exact helok.2.2 q hq
    rcases List.mem_singleton.1 hq with rfl
    exact ⟨aO, by simp⟩
   rw [hel2, henp, List.map_append]; rfl
  rw [hb] at D
  simp only [cond_false] at D
  obtain rfl := oi D
  refine wc_skip ?_
  rcases List.eq_nil_or_concat el.posts with hnil | ⟨ps0, p0, hcat⟩
  ·rw [henp, hnil] at hb; cases hb
  rw [List.concat_eq_append] at hcat
  have hlp : el.posts.length = ps0.length + 1 := by rw [hcat]; simp
  have hw : w64 ((el.posts.length : Int) - 1) = (ps0.length : Int) := by rw [sg_pred hpl, hlp]; omega
  rw [hw]
  refine qe_mid' ⟨el, ps0, p0, H, rfl, ?_, aD, helok, rfl, rfl, hcat, henp⟩ ⟨rfl, rfl, rfl, trivial⟩
  have T := B
  rw [hcat] at T
  exact T.perm (List.Perm.append_left [_, _, _, _, _] (post_focus (TI := 3)).symm)
 rintro _ bE ⟨el2, ps0, pl, K3, rfl, ae, bh, hel2ok, hf2, ht2, hcat2, hps⟩
 refine qe_seq ?_
 have hpx : p = pl.x := by rw [hps, hcat2, List.map_append] at aj; simp at aj; exact aj.symm
 have hn30 : el2.n = el2.posts.length := sg_row_len ae m4
 have bi : getI el2.posts (ps0.length : Int) = some pl := by rw [hcat2]; exact sg_last rfl
 obtain ⟨gP, hgP⟩ := SH.rowI_at ae m4 hn30 bi
 have hpn : pl.n = pl.at_.length := sg_item_len ae m5
 have hhead2 := sg_head_at (pre := pre) (post := post) (e := el2) (o := kk.toNat * 3 + 2) (by rw [hpre])
 have aI : getI (el2.posts.map PLay.x) (ps0.length : Int) = some pl.x := by rw [hcat2, List.map_append]; exact sg_last (by simp)
 have hn31 : el2.n = (el2.posts.map PLay.x).length := by rw [List.length_map]; exact hn30
 have hat : (el2.posts.flatMap PLay.cells)[(ps0.length : Int).toNat * 2 + 1]? = some (.slice pl.a pl.n pl.c) := by rw [hcat2]; exact sg_post_at (k := 1) (by simp)
 have U := ae.drew
 refine wh1 (fun w' => Holds K3 w' ∧ HasRow (some ⟨gE, 0, none⟩) ((pre ++ el2 :: post).flatMap ELay.cells) w' ∧ HasObj l [sv p2_t.Text, .int .i64 p2_t.At] w') (fun w' => HasRow el2.a (el2.posts.flatMap PLay.cells) w') 19 [(12, 16), (16, 19)] mixed ⟨U.hasK (KLe.refl _), U.hasRow m3, U.hasObj m0⟩ (fun _ => U.hasRow (.tail _ (.tail _ (.tail _ (.tail _ (.head _)))))) (gt (rv_move rfl) (gt (rv_nilCheck rfl) (gt (rv_fieldAddr ff86_2 rfl) (gh (fun _ h => rh_loadI1 tf37 rfl rfl hhead2 rfl h.2.1) (gt (rv_move rfl) (gt (rv_move rfl) (gt (rv_nilCheck rfl) (gt (rv_fieldAddr ff86_2 rfl) (gh (fun _ h => rh_loadI1 tf37 rfl rfl hhead2 rfl h.2.1) ?_)))))))))
 refine gt (rv_move rfl) (gt (rv_indexI (t := tGPost) underlying37 tf42 rfl rfl hgP hn31 aI) (gt (rv_fieldAddr ff42_1 rfl) (gf (fun _ h => rh_loadI1 tf39 rfl rfl hat hgP h) (gt (rv_fieldAddr ff130_1 rfl) (gh (fun _ h => rh_loadm1 tf3 rfl rfl h.2.2) (gn (lb tInt (.int .i64 p2_t.At) [.int .i64 p2_t.At] p2_t.At underlying39 tf3 ⟨rfl, ai⟩ U fun bF bG af ag aJ hS35' => ?_)))))))
 obtain ⟨bH, bI, rfl⟩ := sg_addr aJ
 have bj := int_lit aJ
 have V := hS35'.drop
 refine wl_nil (qh ⟨V.hasK ag, V.hasRow m3, V.hasObj m0⟩ (fun _ => V.hasRow (.tail _ (.tail _ (.tail _ (.tail _ (.head _)))))) (gn ?_))
 unfold catL at Y
 split at Y
 case isFalse => cases Y
 rename_i hbd
 cases Y
 have hbd2 : (pl.n + 1) * 8 ≤ 140737488355328 := by rw [hpx] at hbd; simp [PLay.x] at hbd; rw [hpn]; exact hbd
 refine wl_appendI wn rfl underlying39 tf3 rfl rfl rfl (by decide) rfl bj (by simp [Value.oneCell']) (by rw [List.length_map, hpn, Nat.mul_one]) (by omega) hbd2 V.f5 fun aK c37 bJ W => (wl_nil (qh ⟨W.hasK ag, W.hasRow m4, W.hasObj m1⟩ (fun _ => W.hasRow (.tail _ (.tail _ (.tail _ (.tail _ (.tail _ (.head _))))))) (gt (rv_indexI (t := tGPost) underlying37 tf42 rfl rfl hgP hn31 aI) (gt (rv_fieldAddr ff42_1 rfl) (gn ?_)))))
 obtain ⟨fl2, tm2, po2, a2', m2', c2'⟩ := el2
 simp only at hgP hat hcat2 hf2 ht2 hn30
 subst hgP
 refine wl_storeC wn tf39 rfl rfl rfl W.f5 (by have := (List.getElem?_eq_some_iff.1 hat).1; exact this) ?_
 intro ar ah
 refine wl_nil (qh ⟨ah.hasK ag, ah.hasRow m5, ah.hasObj m2⟩ (fun h => nomatch h) (gd' ?_))
 subst hR
 subst hcat2
 obtain ⟨pl2, hpl2⟩ : ∃ pl2 : PLay, pl2 = ⟨pl.doc, pl.at_ ++ [p2_t.At], some ⟨aK, 0, none⟩, pl.n + 1, c37⟩ := ⟨_, rfl⟩
 obtain ⟨el3, hel3⟩ : ∃ el3 : ELay, el3 = ⟨fl2, tm2, ps0 ++ [pl2], some ⟨gP, 0, none⟩, m2', c2'⟩ := ⟨_, rfl⟩
 have bk : SH w K MM ar af (ELay.row 42 el3 :: pl2.item 3 :: obj l [sv p2_t.Text, .int .i64 p2_t.At] 130 :: obj m [sv p1_field] 9 :: obj g [.slice d f i, .slice (some ⟨gE, 0, none⟩) s y] 30 :: segTop 86 (some ⟨gE, 0, none⟩) s y (pre ++ el3 :: post) :: (ps0.map (PLay.item 3) ++ ((pre).flatMap (ELay.items 42 3) ++ (post).flatMap (ELay.items 42 3)))) := by
  have G := sg_post_set (ps := ps0) (p := pl) (p' := pl2) (o := (ps0.length : Int).toNat * 2 + 1) (by simp) (by rw [hpl2])
  have S : pl2.a = some ⟨aK, 0, none⟩ := by rw [hpl2]
  have e3 : pl2.n = pl.n + 1 := by rw [hpl2]
  have e4 : pl2.c = c37 := by rw [hpl2]
  have e5 : pl2.at_.map intC = pl.at_.map intC ++ [.int .i64 p2_t.At] := by rw [hpl2, List.map_append]; rfl
  have e6 : (pre ++ el3 :: post).flatMap ELay.cells = (pre ++ ⟨fl2, tm2, ps0 ++ [pl], some ⟨gP, 0, none⟩, m2', c2'⟩ :: post).flatMap ELay.cells := by rw [hel3, List.flatMap_append, List.flatMap_append, List.flatMap_cons, List.flatMap_cons]; rfl
  have e7 : ELay.row 42 el3 = rowI (.slice (some ⟨gP, 0, none⟩) m2' c2') ((ps0 ++ [pl2]).flatMap PLay.cells) 42 2 := by rw [hel3]; rfl
  rw [e7, ← G]
  unfold segTop
  rw [e6]
  show SH w K MM ar af (_ :: rowI (.slice pl2.a pl2.n pl2.c) (pl2.at_.map intC) 3 1 :: _)
  rw [S, e3, e4, e5]
  exact ah
 have bn := bk.sublist (.cons_cons _ (.cons_cons _ (.cons _ (.cons _ (List.Sublist.refl _)))))
 have hpo3 : el3.posts = ps0 ++ [pl2] := by rw [hel3]
 have bo : SH w K MM ar af (segItems 86 42 3 (some ⟨gE, 0, none⟩) s y (pre ++ el3 :: post) ++ [obj g [.slice d f i, .slice (some ⟨gE, 0, none⟩) s y] 30]) := by
  refine bn.perm ((List.perm_append_singleton _ _).trans ((List.Perm.cons _ (seg_focus (TE := 86) (TP := 42) (TI := 3))).trans ?_))
  rw [hpo3]
  exact (List.Perm.append_left [_, _, _] (post_focus (TI := 3))).trans (List.Perm.append_right _ (List.perm_append_comm (l₁ := [_, _]) (l₂ := [_, _])))
 have bp := bo.packUp.perm (List.Perm.swap _ _ _)
 refine qe_ret_normal (qe_ret (vs := []) results89 trivial ⟨d, f, i, some ⟨gE, 0, none⟩, s, y, pre ++ el3 :: post, af, rfl, bp, aN.mono (bh.trans ag), ?_, ?_⟩)
 ·intro x hx
  rw [hsplit] at hok2
  rcases List.mem_append.1 hx with hx | hx
  ·exact hok2 x (List.mem_append_left _ hx)
  rcases List.mem_cons.1 hx with rfl | hx
  ·rw [hel3, hpl2]
   refine ⟨hel2ok.1, hel2ok.2.1, fun q hq => ?_⟩
   rcases List.mem_append.1 hq with hq | hq
   ·exact hel2ok.2.2 q (List.mem_append_left _ hq)
   rcases List.mem_singleton.1 hq with rfl
   have h8 := hel2ok.2.2 pl (List.mem_append_right _ (List.mem_singleton.2 rfl))
   refine ⟨h8.1, fun z hz => ?_⟩
   rcases List.mem_append.1 hz with hz | hz
   ·exact h8.2 z hz
   rcases List.mem_singleton.1 hz with rfl
   exact ai
  exact hok2 x (List.mem_append_right _ (List.mem_cons_of_mem _ hx))
 show _ = es.set kk.toNat _
 rw [← hes, hsplit, List.map_append, List.map_cons, List.map_append, List.map_cons, List.set_append_right _ _ (by rw [List.length_map, hpre]; exact Nat.le_refl _), List.length_map, hpre, Nat.sub_self, List.set_cons_zero]
 have G : el3.x = GEntry.mk en.Field en.Term (ps.dropLast ++ [GPost.mk p.Doc (p.At ++ [p2_t.At])]) := by
  rw [hel3, hps, hpx, hpl2, ← hel]
  simp [ELay.x, PLay.x, hf2, ht2]
 rw [G]

theorem ok_cmp_Or_int (F : Nat) {w : World} {K : KMap} {i : Option Addr} {k l : Nat} {p0_vals : List Int} {r : Int} (hS : SH w K [] w K []) (m : SliceAt tInt K i k l p0_vals) (hm : M.cmp_Or_int F p0_vals = some r) :
  Calls Tryz.prog 92 #[.slice i k l] w fun e w' => ∃ K', e = .returned (.int .i64 r) ∧ SH w K [] w' K' [] ∧ rng64 r := by
 rw [M.cmp_Or_int] at hm
 refine calls_in func92 rfl ntmps92 rfl (sr (lv (rv_assign (v := .int .i64 0) rfl) (nr (lv (rv_assign (v := .int .i64 0) rfl) (nsr (mv rfl (lv (rv_len (t := tInt) underlying39 rfl m) (lv (rv_move (v := .int .i64 0) rfl) (nq ?_)))))))))
 obtain ⟨A, B, c⟩ := ob hm
 refine wc_cutg (fun E' w' => ∃ q d, A = .inl q ∧ E' = [(3, .int .i64 0)] ∧ SH w K [] w' d [] ∧ KLe K d) ?_ ?_
 ·refine wc_block ?_
  obtain ⟨ab, C, s⟩ := ob B
  refine qf (fun (x : Nat) (y : Unit) E' w' => ∃ a, E' = [(3, .int .i64 0), (6, .slice i k l), (7, .int .i64 (p0_vals.length : Int)), (8, .int .i64 ((x : Nat) : Int))] ∧ SH w K [] w' a [] ∧ KLe K a) C ⟨K, rfl, hS, (KLe.refl _)⟩ ?_ ?_
  ·rintro x y _ D ac hi23 G H ⟨a, rfl, b, f⟩
   refine sr (lv (rv_lss rfl rfl) (ns (wc_cond_t rfl (decide_eq_true (by omega)) (wc_skip (qe_seq (wc_seq (wc_block (sr ?_))))))))
   obtain ⟨I, J, O⟩ := ob G
   refine li underlying39 tf3 (m.mono f) J fun R S ad T U => ?_
   obtain ⟨rfl, V⟩ := T
   have W : AtK _ R S [.int .i64 I] := U
   refine lv (rv_load1 tf3 rfl b (W 0 _ rfl)) (av rfl (nr (mv rfl (mv rfl (lv (rv_neq rfl rfl) (nq (wcc O rfl (fun X o => ?_) (fun X o => ?_))))))))
   ·refine sr (mv rfl (av rfl (nq (wc_ret (qe_block_ret (qe_then_ret (qe_then_ret ?_)))))))
    obtain rfl := oi o
    have Y := H _ rfl
    subst Y
    refine qe_block_ret (qe_then_ret ?_)
    obtain rfl := oi s
    refine qe_then_ret ?_
    obtain rfl := oi c
    exact er results92 ⟨rfl, trivial⟩ ⟨a, rfl, b, V⟩
   refine wc_skip (qe_block (qg (lv (rv_add_to rfl rfl (w64_succ hi23 (SliceAt.max m))) (mv rfl (wl_nil ?_)))))
   obtain rfl := oi o
   exact qd ⟨_, rfl, a, rfl, b, f⟩
  rintro y _ D Z ⟨a, rfl, b, f⟩
  subst Z
  refine sr (lv (rv_lss rfl rfl) (ns (wc_cond_f rfl (decide_eq_false (by omega)) (wc_exit (qe_then_exit (qe_then_exit (qe_block_eq ?_)))))))
  obtain rfl := oi s
  exact qd ⟨_, a, rfl, rfl, b, f⟩
 rintro _ ae ⟨q, d, rfl, rfl, aa, af⟩
 have c := elim_l c
 refine qr (mv rfl (av rfl (nq (wc_ret ?_))))
 obtain rfl := oi c
 exact er results92 ⟨rfl, trivial⟩ ⟨d, rfl, aa, (by decide : rng64 0)⟩

theorem ok_cmp_isNaN_string (F : Nat) {w : World} {K : KMap} {p0_x : Str} {r : Bool} (hS : SH w K [] w K []) (a : p0_x.length ≤ maxLen) (hm : M.cmp_isNaN_string F p0_x = some r) :
  Calls Tryz.prog 145 #[sv p0_x] w fun e w' => ∃ K', e = .returned (.bool r) ∧ SH w K [] w' K' [] := by
 rw [M.cmp_isNaN_string] at hm
 refine calls_in func145 rfl ntmps145 rfl (sr (lv (rv_assign (v := .bool false) rfl) (nr (mv rfl (mv rfl (lv (rv_sneq rfl rfl) (av rfl (nq (wc_ret ?_)))))))))
 obtain rfl := oi hm
 exact er results145 ⟨rfl, trivial⟩ ⟨K, rfl, hS⟩

theorem ok_cmp_Compare_string (F : Nat) {w : World} {K : KMap} {p0_x : Str} {p1_y : Str} {r : Int} (hS : SH w K [] w K []) (m : p0_x.length ≤ maxLen) (o : p1_y.length ≤ maxLen) (hm : M.cmp_Compare_string F p0_x p1_y = some r) :
  Calls Tryz.prog 93 #[sv p0_x, sv p1_y] w fun e w' => ∃ K', e = .returned (.int .i64 r) ∧ SH w K [] w' K' [] ∧ rng64 r := by
 rw [M.cmp_Compare_string] at hm
 refine calls_in func93 rfl ntmps93 rfl (sr (lv (rv_assign (v := .int .i64 0) rfl) (nr (mv rfl ?_))))
 obtain ⟨J, q, s⟩ := ob hm
 refine lc (vs := [sv p0_x]) co145 ((ok_cmp_isNaN_string F) hS.enter0 m q) ?_
 rintro O R ⟨S, rfl, x⟩
 refine ⟨_, rfl, ?_⟩
 have l := (hS.c0 x).t0
 refine av rfl (nr (mv rfl ?_))
 obtain ⟨T, y, A⟩ := ob s
 refine lc (vs := [sv p1_y]) co145 ((ok_cmp_isNaN_string F) l.enter0 o y) ?_
 rintro U V ⟨a, rfl, B⟩
 refine ⟨_, rfl, ?_⟩
 have b := (l.c0 B).t0
 refine av rfl (nsr (mv rfl (nq (wcc A rfl (fun C c => ?_) (fun C c => ?_)))))
 ·refine wc_seq (sr (mv rfl (nq (wcc c rfl (fun D d => ?_) (fun D d => ?_)))))
  ·refine sr (lv (rv_assign (v := .int .i64 0) rfl) (nq (rr (qe_then_ret ?_))))
   obtain rfl := oi d
   exact er results93 ⟨rfl, trivial⟩ ⟨a, rfl, b, (by decide : rng64 0)⟩
  refine wc_skip (qr (lv (rv_assign (v := .int .i64 (-1)) rfl) (nq (rr ?_))))
  obtain rfl := oi d
  exact er results93 ⟨rfl, trivial⟩ ⟨a, rfl, b, (by decide : rng64 (-1))⟩
 refine wc_skip (qs (sr (mv rfl (nq (wcc c rfl (fun G f => ?_) (fun G f => ?_))))))
 ·refine sr (lv (rv_assign (v := .int .i64 1) rfl) (nq (rr ?_)))
  obtain rfl := oi f
  exact er results93 ⟨rfl, trivial⟩ ⟨a, rfl, b, (by decide : rng64 1)⟩
 refine wc_skip (qs (sr (mv rfl (mv rfl (lv (rv_slss rfl rfl) (nq (wcc f rfl (fun H i => ?_) (fun H i => ?_))))))))
 ·refine sr (lv (rv_assign (v := .int .i64 (-1)) rfl) (nq (rr ?_)))
  obtain rfl := oi i
  exact er results93 ⟨rfl, trivial⟩ ⟨a, rfl, b, (by decide : rng64 (-1))⟩
 refine wc_skip (qs (sr (mv rfl (mv rfl (lv (rv_sgtr rfl rfl) (nq (wcc i rfl (fun I k => ?_) (fun I k => ?_))))))))
 ·refine sr (lv (rv_assign (v := .int .i64 1) rfl) (nq (rr ?_)))
  obtain rfl := oi k
  exact er results93 ⟨rfl, trivial⟩ ⟨a, rfl, b, (by decide : rng64 1)⟩
 refine wc_skip (qr (lv (rv_assign (v := .int .i64 0) rfl) (nq (wc_ret ?_))))
 obtain rfl := oi k
 exact er results93 ⟨rfl, trivial⟩ ⟨a, rfl, b, (by decide : rng64 0)⟩

theorem ok_impl_SegOf_1 (F : Nat) {w : World} {K : KMap} {c : Option Addr} {d f : Nat} {k : Option Addr} {l m : Nat} {p0_a : GEntry} {p1_b : GEntry} {r : Int} (hS : SH w K [] w K []) (I : p0_a.Field.length ≤ maxLen) (J : p0_a.Term.length ≤ maxLen) (aj : SliceAt tGPost K c d f p0_a.Posts) (O : p1_b.Field.length ≤ maxLen) (R : p1_b.Term.length ≤ maxLen) (ak : SliceAt tGPost K k l m p1_b.Posts) (hm : M.impl_SegOf_1 F p0_a p1_b = some r) :
  Calls Tryz.prog 91 #[.agg #[sv p0_a.Field, sv p0_a.Term, .slice c d f], .agg #[sv p1_b.Field, sv p1_b.Term, .slice k l m]] w fun e w' => ∃ K', e = .returned (.int .i64 r) ∧ SH w K [] w' K' [] ∧ rng64 r := by
 rw [M.impl_SegOf_1] at hm
 refine calls_in func91 rfl ntmps91 rfl (sr (bx rfl hS fun B al S => ?_))
 have T : SH _ _ _ _ _ [obj B [sv p0_a.Field, sv p0_a.Term, .slice c d f] 86] := S
 refine bx rfl T fun C am U => ?_
 have V : SH _ _ _ _ _ [obj C [sv p1_b.Field, sv p1_b.Term, .slice k l m] 86, _] := U
 refine lv (rv_assign (v := .int .i64 0) rfl) (ns (wc_held (fun w' => Holds K w' ∧ HasObj B [sv p0_a.Field, sv p0_a.Term, .slice c d f] w' ∧ HasObj C [sv p1_b.Field, sv p1_b.Term, .slice k l m] w') (fun w' => True) 13 [] mixed ?_))
 have a := V.drew
 refine wg_val (i := 0) (listed' := #[true, false, false, false, false, false, false, false, false, false, false, false, false]) (fun _ => True) rfl (by kernel_rfl) (pk_then pk_body) (by kernel_rfl) rfl (by kernel_rfl) (by kernel_rfl) rfl (.inl fun _ _ => trivial) ⟨⟨a.hasK (KLe.refl _), a.hasObj m1, a.hasObj m0⟩, (fun _ => trivial), by decide⟩ wn rfl (fun _ _ => (rv_fieldAddr ff86_0 rfl)) (wg_val (i := 1) (listed' := #[true, true, false, false, false, false, false, false, false, false, false, false, false]) (HasObj B [sv p0_a.Field, sv p0_a.Term, .slice c d f]) rfl (by kernel_rfl) (pk_then pk_body) (by kernel_rfl) rfl (by kernel_rfl) (by kernel_rfl) rfl (.inl fun _ h => h.2.1) ⟨⟨a.hasK (KLe.refl _), a.hasObj m1, a.hasObj m0⟩, (fun _ => trivial), by decide⟩ wn rfl (fun _ h => rh_loadm1 tf9 rfl rfl h) (wg_val (i := 2) (listed' := #[true, true, true, false, false, false, false, false, false, false, false, false, false]) (fun _ => True) rfl (by kernel_rfl) (pk_then pk_body) (by kernel_rfl) rfl (by kernel_rfl) (by kernel_rfl) rfl (.inl fun _ _ => trivial) ⟨⟨a.hasK (KLe.refl _), a.hasObj m1, a.hasObj m0⟩, (fun _ => trivial), by decide⟩ wn rfl (fun _ _ => (rv_fieldAddr ff86_0 rfl)) ?_))
 refine wg_val (i := 3) (listed' := #[true, true, true, true, false, false, false, false, false, false, false, false, false]) (HasObj C [sv p1_b.Field, sv p1_b.Term, .slice k l m]) rfl (by kernel_rfl) (pk_then pk_body) (by kernel_rfl) rfl (by kernel_rfl) (by kernel_rfl) rfl (.inl fun _ h => h.2.2) ⟨⟨a.hasK (KLe.refl _), a.hasObj m1, a.hasObj m0⟩, (fun _ => trivial), by decide⟩ wn rfl (fun _ h => rh_loadm1 tf9 rfl rfl h) (wg_val (i := 5) (listed' := #[true, true, true, true, false, true, false, false, false, false, false, false, false]) (fun _ => True) rfl (by kernel_rfl) (pk_then pk_body) (by kernel_rfl) rfl (by kernel_rfl) (by kernel_rfl) rfl (.inl fun _ _ => trivial) ⟨⟨a.hasK (KLe.refl _), a.hasObj m1, a.hasObj m0⟩, (fun _ => trivial), by decide⟩ wn rfl (fun _ _ => (rv_fieldAddr ff86_1 rfl)) (wg_val (i := 6) (listed' := #[true, true, true, true, false, true, true, false, false, false, false, false, false]) (HasObj B [sv p0_a.Field, sv p0_a.Term, .slice c d f]) rfl (by kernel_rfl) (pk_then pk_body) (by kernel_rfl) rfl (by kernel_rfl) (by kernel_rfl) rfl (.inl fun _ h => h.2.1) ⟨⟨a.hasK (KLe.refl _), a.hasObj m1, a.hasObj m0⟩, (fun _ => trivial), by decide⟩ wn rfl (fun _ h => rh_loadm1 tf9 rfl rfl h) ?_))
 refine wg_val (i := 7) (listed' := #[true, true, true, true, false, true, true, true, false, false, false, false, false]) (fun _ => True) rfl (by kernel_rfl) (pk_then pk_body) (by kernel_rfl) rfl (by kernel_rfl) (by kernel_rfl) rfl (.inl fun _ _ => trivial) ⟨⟨a.hasK (KLe.refl _), a.hasObj m1, a.hasObj m0⟩, (fun _ => trivial), by decide⟩ wn rfl (fun _ _ => (rv_fieldAddr ff86_1 rfl)) (wg_val (i := 8) (listed' := #[true, true, true, true, false, true, true, true, true, false, false, false, false]) (HasObj C [sv p1_b.Field, sv p1_b.Term, .slice k l m]) rfl (by kernel_rfl) (pk_then pk_body) (by kernel_rfl) rfl (by kernel_rfl) (by kernel_rfl) rfl (.inl fun _ h => h.2.2) ⟨⟨a.hasK (KLe.refl _), a.hasObj m1, a.hasObj m0⟩, (fun _ => trivial), by decide⟩ wn rfl (fun _ h => rh_loadm1 tf9 rfl rfl h) (wg_one (i := 4) (by kernel_rfl) rfl ?_))
 obtain ⟨q, W, X⟩ := ob hm
 refine lc (vs := [sv p0_a.Field, sv p1_b.Field]) co93 ((ok_cmp_Compare_string F) a.enter0 I O W) ?_
 rintro an ao ⟨ap, rfl, o, Y⟩
 refine ⟨_, rfl, ?_⟩
 have s := (a.c0 o).t2
 refine wl_nil (qe_held (listed' := #[true, true, true, true, true, true, true, true, true, false, false, false, false]) rfl ⟨⟨s.hasK o.le, s.hasObj m1, s.hasObj m0⟩, (fun _ => trivial), by decide⟩ (wg_one (i := 9) (by kernel_rfl) rfl ?_))
 obtain ⟨x, Z, aa⟩ := ob X
 refine lc (vs := [sv p0_a.Term, sv p1_b.Term]) co93 ((ok_cmp_Compare_string F) s.enter0 J R Z) ?_
 rintro aq ar ⟨au, rfl, y, ab⟩
 refine ⟨_, rfl, ?_⟩
 have D := (s.c0 y).t2
 refine wl_nil (qe_held (listed' := #[true, true, true, true, true, true, true, true, true, true, false, false, false]) rfl ⟨⟨D.hasK (o.le.trans y.le), D.hasObj m1, D.hasObj m0⟩, (fun _ => trivial), by decide⟩ (wg_one (i := 10) (by kernel_rfl) rfl (wl_buildSlice (t := tInt) (n := 2) (pv := [(0, .int .i64 q), (1, .int .i64 x)]) (cs := [.int .i64 q, .int .i64 x]) (xs := [q, x]) wn rfl underlying39 tf3 rfl rfl rfl (by kernel_rfl) rfl rfl (lit_cons (u := .int .i64 q) (z := q) ⟨rfl, Y⟩ (lit_cons (u := .int .i64 x) (z := x) ⟨rfl, ab⟩ lit_nil)) D fun ac aw ax G ad A => (wl_nil (qe_held (listed' := #[true, true, true, true, true, true, true, true, true, true, true, false, false]) rfl ⟨⟨A.hasK ((o.le.trans y.le).trans G), A.hasObj m2, A.hasObj m1⟩, (fun _ => trivial), by decide⟩ (wg_one (i := 11) (by kernel_rfl) rfl ?_))))))
 obtain ⟨ay, ae, af⟩ := ob aa
 refine lc (vs := [.slice ac 2 2]) co92 ((ok_cmp_Or_int F) A.enter0 ad ae) ?_
 rintro az aA ⟨ag, rfl, H, ah⟩
 refine ⟨_, rfl, ?_⟩
 have b := (A.c0 H).t3
 refine wl_nil (qe_held (listed' := #[true, true, true, true, true, true, true, true, true, true, true, true, false]) rfl ⟨⟨b.hasK (((o.le.trans y.le).trans G).trans H.le), b.hasObj m2, b.hasObj m1⟩, (fun _ => trivial), by decide⟩ (wg_val (i := 12) (listed' := #[true, true, true, true, true, true, true, true, true, true, true, true, true]) (fun _ => True) rfl (by kernel_rfl) (pk_then pk_body) (by kernel_rfl) rfl (by kernel_rfl) (by kernel_rfl) rfl (.inl fun _ _ => trivial) ⟨⟨b.hasK (((o.le.trans y.le).trans G).trans H.le), b.hasObj m2, b.hasObj m1⟩, (fun _ => trivial), by decide⟩ wn rfl (fun _ _ => (rv_assign rfl)) (wg_done (by kernel_rfl) (qe_seq (wc_ret ?_)))))
 obtain rfl := oi af
 have ai := b.sb (sd (sd (sd sz)))
 exact er results91 ⟨rfl, trivial⟩ ⟨ag, rfl, ai, ah⟩

set_option maxHeartbeats 2000000 in
theorem ok_impl_SegOf (F : Nat) {w : World} {K : KMap} {i : Option Addr} {k l : Nat} {m : Option Addr} {o q : Nat} {G : Option Addr} {H I : Nat} {p0_c : GConf} {p1_docs : List GDoc} {r : GSeg} (hS : SH w K [] w K []) (bB : SliceAt tStr K i k l p0_c.Stops) (bC : SliceAt tGSyn K m o q p0_c.Syns) (aD : SliceAt tGDoc K G H I p1_docs) (hm : M.impl_SegOf F p0_c p1_docs = some r) :
  Calls Tryz.prog 42 #[.agg #[.slice i k l, .slice m o q], .slice G H I] w fun e w' => ∃ a_1 n_2 c_3 a_5 n_6 c_7 K', e = .returned (.agg #[.slice a_1 n_2 c_3, .slice a_5 n_6 c_7]) ∧ SH w K [] w' K' [tail (.slice a_5 n_6 c_7) 86 3] ∧ SliceAt tGDoc K' a_1 n_2 c_3 r.Docs ∧ SliceAt tGEntry K' a_5 n_6 c_7 r.Entries := by
 rw [M.impl_SegOf] at hm
 refine calls_in func42 rfl ntmps42 rfl (sr (bx rfl hS fun s d4 bQ => ?_))
 have bR : SH _ _ _ _ _ [obj s [.slice i k l, .slice m o q] 26] := bQ
 refine al tf30 bR fun d d5 bS => ?_
 have bi : SH _ _ _ _ _ [obj d [.slice none 0 0, .slice none 0 0] 30, _] := bS
 refine ns (wc_seq ?_)
 obtain ⟨bT, bU, bV⟩ := ob hm
 refine wc_cutg (fun E' w' => ∃ aM, E' = [(1, .slice G H I), (2, pt s), (4, pt d), (19, .bool bT)] ∧ SH w K [] w' aM [obj s [.slice i k l, .slice m o q] 26, obj d [.slice none 0 0, .slice none 0 0] 30] ∧ KLe K aM) ?_ ?_
 ·refine wc_region (lv (rv_loadmS (ds := [.slice i k l, .slice m o q]) tf26 rfl m1 bi rfl rfl) ?_)
  obtain ⟨bW, bX, bD⟩ := ob bU
  refine lc (vs := [.agg #[.slice i k l, .slice m o q]]) co20 ((ok_impl_ConfOk F) bi.enter0 bB bC bX) ?_
  rintro d6 w32 ⟨bY, rfl, aN⟩
  refine ⟨_, rfl, ?_⟩
  have bj := (bi.c0 aN).t2
  refine lv (rv_not rfl) (mv rfl ?_)
  rcases bool_tf ((!bW)) with C | C
  ·have bk := cond_t C bD
   refine lu C (lu C (lu C (lv (rv_pick_t (v := .bool true) rfl C rfl) (wl_nil ?_))))
   obtain rfl := oi bk
   exact qd ⟨bY, rfl, bj.f1, aN.le⟩
  have bk := cond_f C bD
  refine lg C (rv_move rfl) ?_
  obtain ⟨d7, bZ, b1⟩ := ob bk
  refine wl_call (wg rfl rfl C) rfl (rt_call (vs := [.slice G H I]) co40 rfl) ((ok_impl_DocsOk F) bj.enter0 (aD.mono aN.le) bZ) ?_
  rintro d8 d9 ⟨b2, rfl, bE⟩
  refine ⟨_, rfl, ?_⟩
  have b3 := (bj.c0 bE).t2
  refine lg C (rv_not rfl) (lv (rv_pick_f rfl C rfl) (wl_nil ?_))
  obtain rfl := oi b1
  exact qd ⟨b2, rfl, b3.f1, (aN.le.trans bE.le)⟩
 rintro _ ea ⟨aM, rfl, bl, af⟩
 refine qe_seq (wcc bV rfl (fun b4 bm => ?_) (fun b4 bm => ?_))
 ·refine sr (lv (rv_build (cs := #[.slice none 0 0, .slice none 0 0]) sp30 tf30 rfl (by kernel_rfl)) (ls [.slice none 0 0, .slice none 0 0] (.agg #[.slice none 0 0, .slice none 0 0]) tf30 bl.f1 fun eb bF => (nq (rr ?_))))
  obtain rfl := oi bm
  have b5 := bF.nil 86 3
  have b6 := b5.sb (sk (sd (sd sz)))
  exact qe_ret (vs := [_]) results42 ⟨⟨_, _, rfl, run_loadVar_at tf30 (cs := [.slice none 0 0, .slice none 0 0]) (fun j c e => by rw [Nat.zero_add, bF.mem_obj m0]; exact e) (.inl ⟨rfl, rfl, rfl⟩)⟩, trivial⟩ ⟨none, 0, 0, none, 0, 0, aM, rfl, b6, (SliceAt.nil _ _), (SliceAt.nil _ _)⟩
 refine wc_skip (qr (mv rfl ?_))
 obtain ⟨ec, b7, b8⟩ := ob bm
 refine lc (vs := [.slice G H I]) co61 ((ok_impl_cloneDocs F) bl.enter0 (aD.mono af) b7) ?_
 rintro ed ee ⟨aO, aP, aQ, ef, rfl, ag, b9⟩
 refine ⟨_, rfl, ?_⟩
 have ca := (bl.c0 ag).t3
 refine b0 tGEntry underlying28 tf86 ca fun aR eg bn ah eh cb => (lv (rv_build (cs := #[.slice aO aP aQ, .slice aR 0 0]) sp30 tf30 rfl (by kernel_rfl)) (al tf30 cb fun f ei cc => ?_))
 have cd : SH _ _ _ _ _ [obj f [.slice none 0 0, .slice none 0 0] 30, _, _, _, _] := cc
 refine ls [.slice aO aP aQ, .slice aR 0 0] (.agg #[.slice aO aP aQ, .slice aR 0 0]) tf30 cd fun ej ce => (nsr (mv rfl (lv (rv_len (t := tGDoc) underlying27 rfl (aD.mono ((af.trans ag.le).trans ah))) (lv (rv_move (v := .int .i64 0) rfl) (nq ?_)))))
 obtain ⟨bG, cf, cg⟩ := ob b8
 refine wc_cutg (fun E' w' => ∃ Y Z aa S U V lay93 aS, E' = [(4, pt d), (5, pt f)] ∧ SH w K [] w' aS [obj d [.slice none 0 0, .slice none 0 0] 30, obj f [.slice Y Z aa, .slice S U V] 30, pack (segItems 86 42 3 S U V lay93)] ∧ KLe bn aS ∧ SliceAt tGDoc aS Y Z aa bG.Docs ∧ LayOk lay93 bG.Entries) ?_ ?_
 ·refine wc_block ?_
  obtain ⟨ek, ch, ci⟩ := ob cf
  have cj := seg_empty (TP := 42) (TI := 3) ce.f1
  have ck := cj.f1.f4.f4.sb (sk (sk (sk (sk (sd sz)))))
  refine qF (fun (ai : Nat) (aT : GSeg) E' w' => ∃ aj ak am an ao ap lay111 X, E' = [(2, pt s), (4, pt d), (5, pt f), (25, .slice G H I), (26, .int .i64 (p1_docs.length : Int)), (27, .int .i64 ((ai : Nat) : Int))] ∧ SH w K [] w' X [obj s [.slice i k l, .slice m o q] 26, obj d [.slice none 0 0, .slice none 0 0] 30, obj f [.slice aj ak am, .slice an ao ap] 30, pack (segItems 86 42 3 an ao ap lay111)] ∧ KLe bn X ∧ SliceAt tGDoc X aj ak am aT.Docs ∧ LayOk lay111 aT.Entries) ch ⟨aO, aP, aQ, aR, 0, 0, [], bn, rfl, ck, (KLe.refl _), (b9.mono ah), ⟨(fun _ h => nomatch h), rfl⟩⟩ ?_ ?_
  ·rintro ai aT _ cl el hi120 cm ⟨aj, ak, am, an, ao, ap, lay111, X, rfl, aU, aq, bo, bp⟩
   refine sr (lv (rv_lss rfl rfl) (ns (wc_cond_t rfl (decide_eq_true (by omega)) (wc_skip (qe_seq (wc_seq (wc_block (sr ?_))))))))
   obtain ⟨D, cn, cp⟩ := ob cm
   refine li underlying27 tf71 (SliceAt.mono (((af.trans ag.le).trans ah).trans aq) aD) cn fun cq cr em ct cu => ?_
   obtain ⟨J, O, R, ab, ac, ad, rfl, cv, bq, en⟩ := ct
   have cw : AtK _ cq cr [.int .i64 D.Id, .slice J O R, .slice ab ac ad] := cu
   refine lv (rv_loadS (cs := [.int .i64 D.Id, .slice J O R, .slice ab ac ad]) tf71 rfl aU cw rfl) (al tf71 aU fun ae eo cx => ?_)
   have cy : SH _ _ _ _ _ [obj ae [.int .i64 0, .slice none 0 0, .slice none 0 0] 71, _, _, _, _] := cx
   refine ls [.int .i64 D.Id, .slice J O R, .slice ab ac ad] (.agg #[.int .i64 D.Id, .slice J O R, .slice ab ac ad]) tf71 cy fun ep bH => (nr (fa ff71_1 rfl (lv (rv_loadm1 tf68 rfl m0 bH rfl) (lv (rv_len (t := tGField) underlying68 rfl bq) (lv (rv_move (v := .int .i64 0) rfl) (nq ?_))))))
   obtain ⟨bI, cz, cA⟩ := ob cp
   refine wc_cutg (fun E' w' => ∃ aV aW aX aY aZ a0 lay161 aE, E' = [(2, pt s), (4, pt d), (5, pt f), (25, .slice G H I), (26, .int .i64 (p1_docs.length : Int)), (27, .int .i64 ((ai : Nat) : Int))] ∧ SH w K [] w' aE [obj s [.slice i k l, .slice m o q] 26, obj d [.slice none 0 0, .slice none 0 0] 30, obj f [.slice aV aW aX, .slice aY aZ a0] 30, pack (segItems 86 42 3 aY aZ a0 lay161)] ∧ KLe X aE ∧ SliceAt tGDoc aE aV aW aX bI.Docs ∧ LayOk lay161 bI.Entries) ?_ ?_
   ·refine wc_block ?_
    obtain ⟨eq, cB, cC⟩ := ob cz
    refine qF (fun (a2 : Nat) (a3 : GSeg) E' w' => ∃ ar au aw ax ay az lay179 aA, E' = [(2, pt s), (4, pt d), (5, pt f), (7, pt ae), (25, .slice G H I), (26, .int .i64 (p1_docs.length : Int)), (27, .int .i64 ((ai : Nat) : Int)), (32, .slice J O R), (33, .int .i64 (D.Fields.length : Int)), (34, .int .i64 ((a2 : Nat) : Int))] ∧ SH w K [] w' aA [obj s [.slice i k l, .slice m o q] 26, obj d [.slice none 0 0, .slice none 0 0] 30, obj f [.slice ar au aw, .slice ax ay az] 30, pack (segItems 86 42 3 ax ay az lay179), obj ae [.int .i64 D.Id, .slice J O R, .slice ab ac ad] 71] ∧ KLe X aA ∧ SliceAt tGDoc aA ar au aw a3.Docs ∧ LayOk lay179 a3.Entries) cB ⟨aj, ak, am, an, ao, ap, lay111, X, rfl, bH.f4.f4.f4.f4, (KLe.refl _), bo, bp⟩ ?_ ?_
    ·rintro a2 a3 _ cD es hi186 cE ⟨ar, au, aw, ax, ay, az, lay179, aA, rfl, a4, aB, br, bs⟩
     refine sr (lv (rv_lss rfl rfl) (ns (wc_cond_t rfl (decide_eq_true (by omega)) (wc_skip (qe_seq (wc_seq (wc_block (sr ?_))))))))
     obtain ⟨A, cF, cG⟩ := ob cE
     refine li underlying68 tf141 (bq.mono aB) cF fun cH cI et cJ cK => ?_
     obtain ⟨rfl, cL, cM⟩ := cJ
     have cN : AtK _ cH cI [sv A.Name, sv A.Text] := cK
     refine lv (rv_loadS (cs := [sv A.Name, sv A.Text]) tf141 rfl a4 cN rfl) (al tf141 a4 fun bt eu cO => ?_)
     have cP : SH _ _ _ _ _ [obj bt [sv [], sv []] 141, _, _, _, _, _] := cO
     refine ls [sv A.Name, sv A.Text] (.agg #[sv A.Name, sv A.Text]) tf141 cP fun ev a6 => (nr (lv (rv_loadmS (ds := [.slice i k l, .slice m o q]) tf26 rfl m1 a6 rfl rfl) (fa ff141_1 rfl (lv (rv_loadm1 tf9 rfl m0 a6 rfl) ?_))))
     obtain ⟨cQ, cR, cS⟩ := ob cG
     refine lc (vs := [.agg #[.slice i k l, .slice m o q], sv A.Text]) co78 ((ok_impl_TermsOf F) a6.enter0 (SliceAt.mono ((((af.trans ag.le).trans ah).trans aq).trans aB) bB) (SliceAt.mono ((((af.trans ag.le).trans ah).trans aq).trans aB) bC) cM cR) ?_
     rintro ew ex ⟨cT, cU, cV, bu, rfl, bv, bw⟩
     refine ⟨_, rfl, ?_⟩
     have cW := (a6.c0 bv).t7
     refine lv (rv_len (t := tGTerm) underlying127 rfl bw) (lv (rv_move (v := .int .i64 0) rfl) (nq ?_))
     obtain ⟨bJ, cX, cY⟩ := ob cS
     refine wc_cutg (fun E' w' => ∃ a7 a8 ba bb bc bd lay232 aF, E' = [(2, pt s), (4, pt d), (5, pt f), (7, pt ae), (25, .slice G H I), (26, .int .i64 (p1_docs.length : Int)), (27, .int .i64 ((ai : Nat) : Int)), (32, .slice J O R), (33, .int .i64 (D.Fields.length : Int)), (34, .int .i64 ((a2 : Nat) : Int))] ∧ SH w K [] w' aF [obj s [.slice i k l, .slice m o q] 26, obj d [.slice none 0 0, .slice none 0 0] 30, obj f [.slice a7 a8 ba, .slice bb bc bd] 30, pack (segItems 86 42 3 bb bc bd lay232), obj ae [.int .i64 D.Id, .slice J O R, .slice ab ac ad] 71] ∧ KLe bu aF ∧ SliceAt tGDoc aF a7 a8 ba bJ.Docs ∧ LayOk lay232 bJ.Entries) ?_ ?_
     ·refine wc_block ?_
      obtain ⟨ey, cZ, c0⟩ := ob cX
      have c1 := cW.f1.f6.f6.f6.f6.f6.sb (sk (sk (sk (sk (sk (sk (sd sz)))))))
      refine qF (fun (bK : Nat) (be : GSeg) E' w' => ∃ aG aH aI aJ aK aL lay250 aC, E' = [(2, pt s), (4, pt d), (5, pt f), (7, pt ae), (9, pt bt), (25, .slice G H I), (26, .int .i64 (p1_docs.length : Int)), (27, .int .i64 ((ai : Nat) : Int)), (32, .slice J O R), (33, .int .i64 (D.Fields.length : Int)), (34, .int .i64 ((a2 : Nat) : Int)), (41, .slice cT cU cV), (42, .int .i64 (cQ.length : Int)), (43, .int .i64 ((bK : Nat) : Int))] ∧ SH w K [] w' aC [obj s [.slice i k l, .slice m o q] 26, obj d [.slice none 0 0, .slice none 0 0] 30, obj f [.slice aG aH aI, .slice aJ aK aL] 30, pack (segItems 86 42 3 aJ aK aL lay250), obj ae [.int .i64 D.Id, .slice J O R, .slice ab ac ad] 71, obj bt [sv A.Name, sv A.Text] 141] ∧ KLe bu aC ∧ SliceAt tGDoc aC aG aH aI be.Docs ∧ LayOk lay250 be.Entries) cZ ⟨ar, au, aw, ax, ay, az, lay179, bu, rfl, c1, (KLe.refl _), (br.mono bv.le), bs⟩ ?_ ?_
      ·rintro bK be _ c2 ez hi260 c4 ⟨aG, aH, aI, aJ, aK, aL, lay250, aC, rfl, bf, bg, bz, bA⟩
       refine sr (lv (rv_lss rfl rfl) (ns (wc_cond_t rfl (decide_eq_true (by omega)) (wc_skip (qe_seq (wc_seq (wc_block (sr ?_))))))))
       obtain ⟨B, c5, c6⟩ := ob c4
       refine li underlying127 tf130 (bw.mono bg) c5 fun c8 c9 eA da db => ?_
       obtain ⟨rfl, dc, dd⟩ := da
       have de : AtK _ c8 c9 [sv B.Text, .int .i64 B.At] := db
       refine lv (rv_loadS (cs := [sv B.Text, .int .i64 B.At]) tf130 rfl bf de rfl) (al tf130 bf fun df eB dg => ?_)
       have dh : SH _ _ _ _ _ [obj df [sv [], .int .i64 0] 130, _, _, _, _, _, _] := dg
       refine ls [sv B.Text, .int .i64 B.At] (.agg #[sv B.Text, .int .i64 B.At]) tf130 dh fun eC bh => (nq (wc_region (fa ff141_0 rfl (lv (rv_loadm1 tf9 rfl m6 bh rfl) (lv (rv_loadmS (ds := [sv B.Text, .int .i64 B.At]) tf130 rfl m0 bh rfl rfl) (fa ff71_0 rfl (lv (rv_loadm1 tf3 rfl m5 bh rfl) ?_)))))))
       obtain ⟨eD, di, dj⟩ := ob c6
       have bL := bh.f4.f4
       refine lc (vs := [pt f, sv A.Name, .agg #[sv B.Text, .int .i64 B.At], .int .i64 D.Id]) co89 ((ok_impl_Seg_put F) bL.e2 bz bA cL dc dd cv di) ?_
       rintro eE eF ⟨dk, dl, dm, dn, dp, dq, lay295, dr, rfl, bM, dt, du⟩
       refine ⟨_, rfl, ?_⟩
       have dv := (bL.c2 bM).t7
       refine nb (qg (lv (rv_add_to rfl rfl (w64_succ hi260 (SliceAt.max bw))) (mv rfl (wl_nil ?_))))
       obtain rfl := oi dj
       have dw := dv.f6.f6.f3.f3.f6.f6.sb (sk (sk (sk (sk (sk (sk (sd sz)))))))
       exact qd ⟨dk, dl, dm, dn, dp, dq, lay295, dr, rfl, dw, (bg.trans bM.le), dt, du⟩
      rintro be _ c2 dx ⟨aG, aH, aI, aJ, aK, aL, lay250, aC, rfl, bf, bg, bz, bA⟩
      subst dx
      refine sr (lv (rv_lss rfl rfl) (ns (wc_cond_f rfl (decide_eq_false (by omega)) (wc_exit (qe_then_exit (qe_then_exit (qe_block_eq ?_)))))))
      obtain rfl := oi c0
      have dy := bf.sb (sk (sk (sk (sk (sk (sd sz))))))
      exact qd ⟨aG, aH, aI, aJ, aK, aL, lay250, aC, rfl, dy, bg, bz, bA⟩
     rintro _ eG ⟨a7, a8, ba, bb, bc, bd, lay232, aF, rfl, dz, dA, dB, dC⟩
     refine qe_block (qg (lv (rv_add_to rfl rfl (w64_succ hi186 (SliceAt.max bq))) (mv rfl (wl_nil ?_))))
     obtain rfl := oi cY
     exact qd ⟨a7, a8, ba, bb, bc, bd, lay232, aF, rfl, dz, ((aB.trans bv.le).trans dA), dB, dC⟩
    rintro a3 _ cD dD ⟨ar, au, aw, ax, ay, az, lay179, aA, rfl, a4, aB, br, bs⟩
    subst dD
    refine sr (lv (rv_lss rfl rfl) (ns (wc_cond_f rfl (decide_eq_false (by omega)) (wc_exit (qe_then_exit (qe_then_exit (qe_block_eq ?_)))))))
    obtain rfl := oi cC
    have dE := a4.sb (sk (sk (sk (sk (sd sz)))))
    exact qd ⟨ar, au, aw, ax, ay, az, lay179, aA, rfl, dE, aB, br, bs⟩
   rintro _ eH ⟨aV, aW, aX, aY, aZ, a0, lay161, aE, rfl, dF, dG, dH, dI⟩
   refine qe_block (qg (lv (rv_add_to rfl rfl (w64_succ hi120 (SliceAt.max (aD.mono ((af.trans ag.le).trans ah))))) (mv rfl (wl_nil ?_))))
   obtain rfl := oi cA
   exact qd ⟨aV, aW, aX, aY, aZ, a0, lay161, aE, rfl, dF, (aq.trans dG), dH, dI⟩
  rintro aT _ cl dJ ⟨aj, ak, am, an, ao, ap, lay111, X, rfl, aU, aq, bo, bp⟩
  subst dJ
  refine sr (lv (rv_lss rfl rfl) (ns (wc_cond_f rfl (decide_eq_false (by omega)) (wc_exit (qe_then_exit (qe_then_exit (qe_block_eq ?_)))))))
  obtain rfl := oi ci
  have dK := aU.sb (sd (sk (sk (sk sz))))
  exact qd ⟨aj, ak, am, an, ao, ap, lay111, X, rfl, dK, aq, bo, bp⟩
 rintro _ eI ⟨Y, Z, aa, S, U, V, lay93, aS, rfl, bN, eJ, dL, dM⟩
 refine qr (fa ff30_1 rfl (lv (rv_loadm1 tf28 rfl m1 bN rfl) ?_))
 obtain ⟨eK, cs314, dN, hrow316, hm317, dO⟩ := seg_see bN.f2 dM
 obtain ⟨eL, dP, dQ⟩ := ob cg
 refine wl_call wn rfl (rt_call (vs := [.slice S U V, .func (.func 91) #[] #[]]) co90 rfl) (sort_rowI (T := tGEntry) sortLay90 sortNone90 rfl (fun w => Go.Fk.run_isAgg tf86 w) (fun w => Go.Fk.run_sizeOf tf86 w) (fun a b => M.impl_SegOf_1 F a b) 91 (Go.Proofs.enters_of func91 (by kernel_rfl) rfl) dO hrow316 hm317 (fun K1 W v x u y r hW h1 h2 hm => by
  obtain ⟨eN, eO, eP, rfl, dT, dU, dV⟩ := h1
  obtain ⟨eQ, eR, eS, rfl, dW, dX, dY⟩ := h2
  exact (ok_impl_SegOf_1 F (SH.start hW) dT dU dV dW dX dY hm).mono fun e w' ⟨K', he, hS', _⟩ => ⟨K', he, hS'⟩) dP) ?_
 rintro eT eU ⟨cs334, rfl, bO, hrow336, hm337⟩
 refine ⟨_, rfl, ?_⟩
 refine nr (lv (rv_loadmS (ds := [.slice Y Z aa, .slice S U V]) tf30 rfl m2 bO rfl rfl) (ls [.slice Y Z aa, .slice S U V] (.agg #[.slice Y Z aa, .slice S U V]) tf30 bO.f1 fun eV dZ => (nq (wc_ret ?_))))
 obtain ⟨d0, d1, d2, bP⟩ := SH.freezeI dZ.f1 hrow336 hm337
 obtain rfl := oi dQ
 have d3 := bP.sb (sk (sd (sd sz)))
 exact qe_ret (vs := [_]) results42 ⟨⟨_, _, rfl, run_loadVar_at tf30 (cs := [.slice Y Z aa, .slice S U V]) (fun j c e => by rw [Nat.zero_add, bP.mem_obj m1]; exact e) (.inl ⟨rfl, rfl, rfl⟩)⟩, trivial⟩ ⟨Y, Z, aa, S, U, V, d0, rfl, d3, (dL.mono (dN.trans d1)), d2⟩

theorem ok_slices_Equal_int (F : Nat) {w : World} {K : KMap} {i : Option Addr} {k l : Nat} {m : Option Addr} {o q : Nat} {p0_s1 : List Int} {p1_s2 : List Int} {r : Bool} (hS : SH w K [] w K []) (c : SliceAt tInt K i k l p0_s1) (B : SliceAt tInt K m o q p1_s2) (hm : M.slices_Equal_int F p0_s1 p1_s2 = some r) :
  Calls Tryz.prog 146 #[.slice i k l, .slice m o q] w fun e w' => ∃ K', e = .returned (.bool r) ∧ SH w K [] w' K' [] := by
 rw [M.slices_Equal_int] at hm
 refine calls_in func146 rfl ntmps146 rfl (sr (lv (rv_assign (v := .bool false) rfl) (nsr (mv rfl (lv (rv_len (t := tInt) underlying39 rfl c) (mv rfl (lv (rv_len (t := tInt) underlying39 rfl B) (lv (rv_neq rfl rfl) (nq ?_)))))))))
 refine wc_cond rfl (fun s => ?_) (fun s => ?_)
 ·have x := cond_t s hm
  refine sr (lv (rv_assign (v := .bool false) rfl) (nq (rr ?_)))
  obtain rfl := oi x
  exact er results146 ⟨rfl, trivial⟩ ⟨K, rfl, hS⟩
 have x := cond_f s hm
 refine wc_skip (qs (sr (mv rfl (lv (rv_len (t := tInt) underlying39 rfl c) (lv (rv_move (v := .int .i64 0) rfl) (nq ?_))))))
 obtain ⟨O, R, d⟩ := ob x
 refine wc_cutg (fun E' w' => ∃ C f, O = .inl C ∧ E' = [] ∧ SH w K [] w' f [] ∧ KLe K f) ?_ ?_
 ·refine wc_block ?_
  obtain ⟨ar, S, D⟩ := ob R
  refine qf (fun (G : Nat) (H : Unit) E' w' => ∃ a, E' = [(0, .slice i k l), (1, .slice m o q), (12, .int .i64 (p0_s1.length : Int)), (13, .int .i64 ((G : Nat) : Int))] ∧ SH w K [] w' a [] ∧ KLe K a) S ⟨K, rfl, hS, (KLe.refl _)⟩ ?_ ?_
  ·rintro G H _ T au hi29 U V ⟨a, rfl, y, b⟩
   refine sr (lv (rv_lss rfl rfl) (ns (wc_cond_t rfl (decide_eq_true (by omega)) (wc_skip (qe_seq (wc_seq (wc_block (sr (mv rfl (av rfl (ns (wc_quiet mixed (by kernel_rfl) y ?_))))))))))))
   refine km rfl (km rfl ?_)
   obtain ⟨W, X, Y⟩ := ob U
   refine ki underlying39 tf3 (c.mono b) X fun Z aa aw ab ac => ?_
   obtain ⟨rfl, ax⟩ := ab
   have ad : AtK _ Z aa [.int .i64 W] := ac
   refine kh (rq_load1 tf3 rfl (ad 0 _ rfl)) (km rfl (km rfl ?_))
   obtain ⟨ae, af, ag⟩ := ob Y
   refine ki underlying39 tf3 (B.mono b) af fun ah ai ay aj ak => ?_
   obtain ⟨rfl, az⟩ := aj
   have al : AtK _ ah ai [.int .i64 ae] := ak
   refine kh (rq_load1 tf3 rfl (al 0 _ rfl)) (kv (rv_neq rfl rfl) (wq_nil ?_))
   rintro aA ⟨I, J, am⟩
   refine qe_seq (wcc ag rfl (fun an A => ?_) (fun an A => ?_))
   ·refine sr (lv (rv_assign (v := .bool false) rfl) (nq (wc_ret (qe_block_ret (qe_then_ret (qe_then_ret ?_))))))
    obtain rfl := oi A
    have ao := V _ rfl
    subst ao
    refine qe_block_ret (qe_then_ret ?_)
    obtain rfl := oi D
    refine qe_then_ret ?_
    obtain rfl := oi d
    exact er results146 ⟨rfl, trivial⟩ ⟨I, rfl, J⟩
   refine wc_skip (qe_block (qg (lv (rv_add_to rfl rfl (w64_succ hi29 (SliceAt.max c))) (mv rfl (wl_nil ?_)))))
   obtain rfl := oi A
   exact qd ⟨_, rfl, I, rfl, J, (b.trans am)⟩
  rintro H _ T ap ⟨a, rfl, y, b⟩
  subst ap
  refine sr (lv (rv_lss rfl rfl) (ns (wc_cond_f rfl (decide_eq_false (by omega)) (wc_exit (qe_then_exit (qe_then_exit (qe_block_eq ?_)))))))
  obtain rfl := oi D
  exact qe_mid' ⟨_, a, rfl, rfl, y, b⟩ trivial
 rintro _ aB ⟨C, f, rfl, rfl, aq, aC⟩
 have d := elim_l d
 refine qr (lv (rv_assign (v := .bool true) rfl) (nq (wc_ret ?_)))
 obtain rfl := oi d
 exact er results146 ⟨rfl, trivial⟩ ⟨f, rfl, aq⟩

theorem ok_impl_samePost (F : Nat) {w : World} {K : KMap} {c : Option Addr} {d f : Nat} {i : Option Addr} {k l : Nat} {p0_a : GPost} {p1_b : GPost} {r : Bool} (hS : SH w K [] w K []) (R : rng64 p0_a.Doc) (o : SliceAt tInt K c d f p0_a.At) (S : rng64 p1_b.Doc) (q : SliceAt tInt K i k l p1_b.At) (hm : M.impl_samePost F p0_a p1_b = some r) :
  Calls Tryz.prog 95 #[.agg #[.int .i64 p0_a.Doc, .slice c d f], .agg #[.int .i64 p1_b.Doc, .slice i k l]] w fun e w' => ∃ K', e = .returned (.bool r) ∧ SH w K [] w' K' [] := by
 rw [M.impl_samePost] at hm
 refine calls_in func95 rfl ntmps95 rfl (sr (bx rfl hS fun s T x => ?_))
 have y : SH _ _ _ _ _ [obj s [.int .i64 p0_a.Doc, .slice c d f] 42] := x
 refine bx rfl y fun A U B => ?_
 have b : SH _ _ _ _ _ [obj A [.int .i64 p1_b.Doc, .slice i k l] 42, _] := B
 refine lv (rv_assign (v := .bool false) rfl) (nr (fa ff42_0 rfl (lv (rv_loadm1 tf3 rfl m1 b rfl) (fa ff42_0 rfl (lv (rv_loadm1 tf3 rfl m0 b rfl) (lv (rv_eql rfl rfl) (mv rfl ?_)))))))
 rcases bool_tf ((p0_a.Doc == p1_b.Doc)) with a | a
 ·have m := cond_t a hm
  refine lg a (rv_fieldAddr ff42_1 rfl) (lg a (rv_loadm1 tf39 rfl m1 b rfl) (lg a (rv_fieldAddr ff42_1 rfl) (lg a (rv_loadm1 tf39 rfl m0 b rfl) ?_)))
  obtain ⟨V, C, D⟩ := ob m
  refine wl_call (wg rfl rfl a) rfl (rt_call (vs := [.slice c d f, .slice i k l]) co146 rfl) ((ok_slices_Equal_int F) b.enter0 o q C) ?_
  rintro W X ⟨G, rfl, H⟩
  refine ⟨_, rfl, ?_⟩
  have I := (b.c0 H).t2
  refine lv (rv_pick_t rfl a rfl) (av rfl (nq (wc_ret ?_)))
  obtain rfl := oi D
  have J := I.sb (sd (sd sz))
  exact er results95 ⟨rfl, trivial⟩ ⟨G, rfl, J⟩
 have m := cond_f a hm
 refine lu a (lu a (lu a (lu a (lu a (lv (rv_pick_f (v := .bool false) rfl a rfl) (av rfl (nq (wc_ret ?_))))))))
 obtain rfl := oi m
 have O := b.sb (sd (sd sz))
 exact er results95 ⟨rfl, trivial⟩ ⟨K, rfl, O⟩

set_option maxHeartbeats 2000000 in
theorem ok_slices_EqualFunc_Post__impl_samePost (F : Nat) {w : World} {K : KMap} {B : Option Addr} {C D : Nat} {G : Option Addr} {H I : Nat} {p0_s1 : List GPost} {p1_s2 : List GPost} {r : Bool} (hS : SH w K [] w K []) (q : SliceAt tGPost K B C D p0_s1) (S : SliceAt tGPost K G H I p1_s2) (hm : M.slices_EqualFunc_Post__impl_samePost F p0_s1 p1_s2 = some r) :
  Calls Tryz.prog 94 #[.slice B C D, .slice G H I, .func (.func 95) #[] #[]] w fun e w' => ∃ K', e = .returned (.bool r) ∧ SH w K [] w' K' [] := by
 rw [M.slices_EqualFunc_Post__impl_samePost] at hm
 refine calls_in func94 rfl ntmps94 rfl (sr (lv (rv_assign (v := .bool false) rfl) (nsr (mv rfl (lv (rv_len (t := tGPost) underlying37 rfl q) (mv rfl (lv (rv_len (t := tGPost) underlying37 rfl S) (lv (rv_neq rfl rfl) (nq ?_)))))))))
 refine wc_cond rfl (fun J => ?_) (fun J => ?_)
 ·have O := cond_t J hm
  refine sr (lv (rv_assign (v := .bool false) rfl) (nq (rr ?_)))
  obtain rfl := oi O
  exact er results94 ⟨rfl, trivial⟩ ⟨K, rfl, hS⟩
 have O := cond_f J hm
 refine wc_skip (qs (sr (mv rfl (lv (rv_len (t := tGPost) underlying37 rfl q) (lv (rv_move (v := .int .i64 0) rfl) (nq ?_))))))
 obtain ⟨ab, ac, s⟩ := ob O
 refine wc_cutg (fun E' w' => ∃ T x, ab = .inl T ∧ E' = [] ∧ SH w K [] w' x [] ∧ KLe K x) ?_ ?_
 ·refine wc_block ?_
  obtain ⟨aR, ad, U⟩ := ob ac
  refine qf (fun (V : Nat) (W : Unit) E' w' => ∃ m, E' = [(1, .slice G H I), (2, .func (.func 95) #[] #[]), (15, .slice B C D), (16, .int .i64 (p0_s1.length : Int)), (17, .int .i64 ((V : Nat) : Int))] ∧ SH w K [] w' m [] ∧ KLe K m) ad ⟨K, rfl, hS, (KLe.refl _)⟩ ?_ ?_
  ·rintro V W _ ae aS hi29 af ag ⟨m, rfl, y, o⟩
   refine sr (lv (rv_lss rfl rfl) (ns (wc_cond_t rfl (decide_eq_true (by omega)) (wc_skip (qe_seq (wc_seq (wc_block (sr (mv rfl ?_)))))))))
   obtain ⟨a, ah, ai⟩ := ob af
   refine li underlying37 tf42 (q.mono o) ah fun aj ak aT am an => ?_
   obtain ⟨b, c, d, rfl, ao, ap⟩ := am
   have aq : AtK _ aj ak [.int .i64 a.Doc, .slice b c d] := an
   refine lv (rv_loadS (cs := [.int .i64 a.Doc, .slice b c d]) tf42 rfl y aq rfl) (al tf42 y fun ar aU au => ?_)
   have aw : SH _ _ _ _ _ [obj ar [.int .i64 0, .slice none 0 0] 42] := au
   refine av rfl (ls [.int .i64 a.Doc, .slice b c d] (.agg #[.int .i64 a.Doc, .slice b c d]) tf42 aw fun aV X => (nr (mv rfl (mv rfl ?_))))
   obtain ⟨f, ax, ay⟩ := ob ai
   refine li underlying37 tf42 (S.mono o) ax fun az aA aW aB aC => ?_
   obtain ⟨i, k, l, rfl, aD, aE⟩ := aB
   have aF : AtK _ az aA [.int .i64 f.Doc, .slice i k l] := aC
   refine lv (rv_loadS (cs := [.int .i64 f.Doc, .slice i k l]) tf42 rfl X aF rfl) (al tf42 X fun aG aX aH => ?_)
   have aI : SH _ _ _ _ _ [obj aG [.int .i64 0, .slice none 0 0] 42, _] := aH
   refine ls [.int .i64 f.Doc, .slice i k l] (.agg #[.int .i64 f.Doc, .slice i k l]) tf42 aI fun aY A => (nr (mv rfl (lv (rv_loadmS (ds := [.int .i64 a.Doc, .slice b c d]) tf42 rfl m1 A rfl rfl) (lv (rv_loadmS (ds := [.int .i64 f.Doc, .slice i k l]) tf42 rfl m0 A rfl rfl) ?_))))
   obtain ⟨aZ, aJ, aK⟩ := ob ay
   refine wl_call wn rfl (rt_callv (vs := [.agg #[.int .i64 a.Doc, .slice b c d], .agg #[.int .i64 f.Doc, .slice i k l]]) (cap := #[]) co95 rfl rfl) ((ok_impl_samePost F) A.enter0 ao ap aD aE aJ) ?_
   rintro a0 a2 ⟨Y, rfl, Z⟩
   refine ⟨_, rfl, ?_⟩
   have aa := (A.c0 Z).t2
   refine lv (rv_not rfl) (nq (wcc aK rfl (fun aL R => ?_) (fun aL R => ?_)))
   ·refine sr (lv (rv_assign (v := .bool false) rfl) (nq (wc_ret (qe_block_ret (qe_then_ret (qe_then_ret ?_))))))
    obtain rfl := oi R
    have aM := ag _ rfl
    subst aM
    refine qe_block_ret (qe_then_ret ?_)
    obtain rfl := oi U
    refine qe_then_ret ?_
    obtain rfl := oi s
    have aN := aa.sb (sd (sd sz))
    exact er results94 ⟨rfl, trivial⟩ ⟨Y, rfl, aN⟩
   refine wc_skip (qe_block (qg (lv (rv_add_to rfl rfl (w64_succ hi29 (SliceAt.max q))) (mv rfl (wl_nil ?_)))))
   obtain rfl := oi R
   have aO := aa.sb (sd (sd sz))
   exact qd ⟨_, rfl, Y, rfl, aO, (o.trans Z.le)⟩
  rintro W _ ae aP ⟨m, rfl, y, o⟩
  subst aP
  refine sr (lv (rv_lss rfl rfl) (ns (wc_cond_f rfl (decide_eq_false (by omega)) (wc_exit (qe_then_exit (qe_then_exit (qe_block_eq ?_)))))))
  obtain rfl := oi U
  exact qe_mid' ⟨_, m, rfl, rfl, y, o⟩ trivial
 rintro _ a3 ⟨T, x, rfl, rfl, aQ, a4⟩
 have s := elim_l s
 refine qr (lv (rv_assign (v := .bool true) rfl) (nq (wc_ret ?_)))
 obtain rfl := oi s
 exact er results94 ⟨rfl, trivial⟩ ⟨x, rfl, aQ⟩

theorem ok_impl_sameEntry (F : Nat) {w : World} {K : KMap} {d : Option Addr} {f i : Nat} {k : Option Addr} {l m : Nat} {p0_a : GEntry} {p1_b : GEntry} {r : Bool} (hS : SH w K [] w K []) (U : p0_a.Field.length ≤ maxLen) (V : p0_a.Term.length ≤ maxLen) (s : SliceAt tGPost K d f i p0_a.Posts) (W : p1_b.Field.length ≤ maxLen) (X : p1_b.Term.length ≤ maxLen) (x : SliceAt tGPost K k l m p1_b.Posts) (hm : M.impl_sameEntry F p0_a p1_b = some r) :
  Calls Tryz.prog 43 #[.agg #[sv p0_a.Field, sv p0_a.Term, .slice d f i], .agg #[sv p1_b.Field, sv p1_b.Term, .slice k l m]] w fun e w' => ∃ K', e = .returned (.bool r) ∧ SH w K [] w' K' [] := by
 rw [M.impl_sameEntry] at hm
 refine calls_in func43 rfl ntmps43 rfl (sr (bx rfl hS fun y Y A => ?_))
 have B : SH _ _ _ _ _ [obj y [sv p0_a.Field, sv p0_a.Term, .slice d f i] 86] := A
 refine bx rfl B fun C Z D => ?_
 have c : SH _ _ _ _ _ [obj C [sv p1_b.Field, sv p1_b.Term, .slice k l m] 86, _] := D
 refine lv (rv_assign (v := .bool false) rfl) (nr (fa ff86_0 rfl (lv (rv_loadm1 tf9 rfl m1 c rfl) (fa ff86_0 rfl (lv (rv_loadm1 tf9 rfl m0 c rfl) (lv (rv_seql rfl rfl) (mv rfl ?_)))))))
 rcases bool_tf ((p0_a.Field == p1_b.Field)) with a | a
 ·have o := cond_t a hm
  refine lg a (rv_fieldAddr ff86_1 rfl) (lg a (rv_loadm1 tf9 rfl m1 c rfl) (lg a (rv_fieldAddr ff86_1 rfl) (lg a (rv_loadm1 tf9 rfl m0 c rfl) (lg a (rv_seql rfl rfl) (lv (rv_pick_t rfl a rfl) (mv rfl ?_))))))
  rcases bool_tf ((p0_a.Term == p1_b.Term)) with b | b
  ·have q := cond_t b o
   refine lg b (rv_fieldAddr ff86_2 rfl) (lg b (rv_loadm1 tf37 rfl m1 c rfl) (lg b (rv_fieldAddr ff86_2 rfl) (lg b (rv_loadm1 tf37 rfl m0 c rfl) ?_)))
   obtain ⟨aa, G, H⟩ := ob q
   refine wl_call (wg rfl rfl b) rfl (rt_call (vs := [.slice d f i, .slice k l m, .func (.func 95) #[] #[]]) co94 rfl) ((ok_slices_EqualFunc_Post__impl_samePost F) c.enter0 s x G) ?_
   rintro ab ac ⟨I, rfl, J⟩
   refine ⟨_, rfl, ?_⟩
   have O := (c.c0 J).t2
   refine lv (rv_pick_t rfl b rfl) (av rfl (nq (wc_ret ?_)))
   obtain rfl := oi H
   have R := O.sb (sd (sd sz))
   exact er results43 ⟨rfl, trivial⟩ ⟨I, rfl, R⟩
  have q := cond_f b o
  refine lu b (lu b (lu b (lu b (lu b (lv (rv_pick_f (v := .bool false) rfl b rfl) (av rfl (nq (wc_ret ?_))))))))
  obtain rfl := oi q
  have S := c.sb (sd (sd sz))
  exact er results43 ⟨rfl, trivial⟩ ⟨K, rfl, S⟩
 have o := cond_f a hm
 refine lu a (lu a (lu a (lu a (lu a (lv (rv_pick_f (v := .bool false) rfl a rfl) (mv rfl (lu rfl (lu rfl (lu rfl ?_)))))))))
 refine lu rfl (lu rfl (lv (rv_pick_f (v := .bool false) rfl rfl rfl) (av rfl (nq (wc_ret ?_)))))
 obtain rfl := oi o
 have T := c.sb (sd (sd sz))
 exact er results43 ⟨rfl, trivial⟩ ⟨K, rfl, T⟩

set_option maxHeartbeats 2000000 in
theorem ok_slices_EqualFunc_Entry__impl_sameEntry (F : Nat) {w : World} {K : KMap} {B : Option Addr} {C D : Nat} {G : Option Addr} {H I : Nat} {p0_s1 : List GEntry} {p1_s2 : List GEntry} {r : Bool} (hS : SH w K [] w K []) (q : SliceAt tGEntry K B C D p0_s1) (S : SliceAt tGEntry K G H I p1_s2) (hm : M.slices_EqualFunc_Entry__impl_sameEntry F p0_s1 p1_s2 = some r) :
  Calls Tryz.prog 41 #[.slice B C D, .slice G H I, .func (.func 43) #[] #[]] w fun e w' => ∃ K', e = .returned (.bool r) ∧ SH w K [] w' K' [] := by
 rw [M.slices_EqualFunc_Entry__impl_sameEntry] at hm
 refine calls_in func41 rfl ntmps41 rfl (sr (lv (rv_assign (v := .bool false) rfl) (nsr (mv rfl (lv (rv_len (t := tGEntry) underlying28 rfl q) (mv rfl (lv (rv_len (t := tGEntry) underlying28 rfl S) (lv (rv_neq rfl rfl) (nq ?_)))))))))
 refine wc_cond rfl (fun J => ?_) (fun J => ?_)
 ·have O := cond_t J hm
  refine sr (lv (rv_assign (v := .bool false) rfl) (nq (rr ?_)))
  obtain rfl := oi O
  exact er results41 ⟨rfl, trivial⟩ ⟨K, rfl, hS⟩
 have O := cond_f J hm
 refine wc_skip (qs (sr (mv rfl (lv (rv_len (t := tGEntry) underlying28 rfl q) (lv (rv_move (v := .int .i64 0) rfl) (nq ?_))))))
 obtain ⟨ab, ac, s⟩ := ob O
 refine wc_cutg (fun E' w' => ∃ T x, ab = .inl T ∧ E' = [] ∧ SH w K [] w' x [] ∧ KLe K x) ?_ ?_
 ·refine wc_block ?_
  obtain ⟨aT, ad, U⟩ := ob ac
  refine qf (fun (V : Nat) (W : Unit) E' w' => ∃ m, E' = [(1, .slice G H I), (2, .func (.func 43) #[] #[]), (15, .slice B C D), (16, .int .i64 (p0_s1.length : Int)), (17, .int .i64 ((V : Nat) : Int))] ∧ SH w K [] w' m [] ∧ KLe K m) ad ⟨K, rfl, hS, (KLe.refl _)⟩ ?_ ?_
  ·rintro V W _ ae aU hi29 af ag ⟨m, rfl, y, o⟩
   refine sr (lv (rv_lss rfl rfl) (ns (wc_cond_t rfl (decide_eq_true (by omega)) (wc_skip (qe_seq (wc_seq (wc_block (sr (mv rfl ?_)))))))))
   obtain ⟨a, ah, ai⟩ := ob af
   refine li underlying28 tf86 (q.mono o) ah fun aj ak aV am an => ?_
   obtain ⟨c, d, f, rfl, ao, ap, aq⟩ := am
   have ar : AtK _ aj ak [sv a.Field, sv a.Term, .slice c d f] := an
   refine lv (rv_loadS (cs := [sv a.Field, sv a.Term, .slice c d f]) tf86 rfl y ar rfl) (al tf86 y fun au aW aw => ?_)
   have ax : SH _ _ _ _ _ [obj au [sv [], sv [], .slice none 0 0] 86] := aw
   refine av rfl (ls [sv a.Field, sv a.Term, .slice c d f] (.agg #[sv a.Field, sv a.Term, .slice c d f]) tf86 ax fun aX X => (nr (mv rfl (mv rfl ?_))))
   obtain ⟨b, ay, az⟩ := ob ai
   refine li underlying28 tf86 (S.mono o) ay fun aA aB aY aC aD => ?_
   obtain ⟨i, k, l, rfl, aE, aF, aG⟩ := aC
   have aH : AtK _ aA aB [sv b.Field, sv b.Term, .slice i k l] := aD
   refine lv (rv_loadS (cs := [sv b.Field, sv b.Term, .slice i k l]) tf86 rfl X aH rfl) (al tf86 X fun aI aZ aJ => ?_)
   have aK : SH _ _ _ _ _ [obj aI [sv [], sv [], .slice none 0 0] 86, _] := aJ
   refine ls [sv b.Field, sv b.Term, .slice i k l] (.agg #[sv b.Field, sv b.Term, .slice i k l]) tf86 aK fun a0 A => (nr (mv rfl (lv (rv_loadmS (ds := [sv a.Field, sv a.Term, .slice c d f]) tf86 rfl m1 A rfl rfl) (lv (rv_loadmS (ds := [sv b.Field, sv b.Term, .slice i k l]) tf86 rfl m0 A rfl rfl) ?_))))
   obtain ⟨a2, aL, aM⟩ := ob az
   refine wl_call wn rfl (rt_callv (vs := [.agg #[sv a.Field, sv a.Term, .slice c d f], .agg #[sv b.Field, sv b.Term, .slice i k l]]) (cap := #[]) co43 rfl rfl) ((ok_impl_sameEntry F) A.enter0 ao ap aq aE aF aG aL) ?_
   rintro a3 a4 ⟨Y, rfl, Z⟩
   refine ⟨_, rfl, ?_⟩
   have aa := (A.c0 Z).t2
   refine lv (rv_not rfl) (nq (wcc aM rfl (fun aN R => ?_) (fun aN R => ?_)))
   ·refine sr (lv (rv_assign (v := .bool false) rfl) (nq (wc_ret (qe_block_ret (qe_then_ret (qe_then_ret ?_))))))
    obtain rfl := oi R
    have aO := ag _ rfl
    subst aO
    refine qe_block_ret (qe_then_ret ?_)
    obtain rfl := oi U
    refine qe_then_ret ?_
    obtain rfl := oi s
    have aP := aa.sb (sd (sd sz))
    exact er results41 ⟨rfl, trivial⟩ ⟨Y, rfl, aP⟩
   refine wc_skip (qe_block (qg (lv (rv_add_to rfl rfl (w64_succ hi29 (SliceAt.max q))) (mv rfl (wl_nil ?_)))))
   obtain rfl := oi R
   have aQ := aa.sb (sd (sd sz))
   exact qd ⟨_, rfl, Y, rfl, aQ, (o.trans Z.le)⟩
  rintro W _ ae aR ⟨m, rfl, y, o⟩
  subst aR
  refine sr (lv (rv_lss rfl rfl) (ns (wc_cond_f rfl (decide_eq_false (by omega)) (wc_exit (qe_then_exit (qe_then_exit (qe_block_eq ?_)))))))
  obtain rfl := oi U
  exact qe_mid' ⟨_, m, rfl, rfl, y, o⟩ trivial
 rintro _ a6 ⟨T, x, rfl, rfl, aS, a7⟩
 have s := elim_l s
 refine qr (lv (rv_assign (v := .bool true) rfl) (nq (wc_ret ?_)))
 obtain rfl := oi s
 exact er results41 ⟨rfl, trivial⟩ ⟨x, rfl, aS⟩
end Go.Proofs.YtoeajphlomankaaGreatDoor
