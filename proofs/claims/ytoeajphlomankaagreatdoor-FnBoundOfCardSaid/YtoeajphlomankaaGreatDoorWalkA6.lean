/-
 Walks of the functions. Printed by gen.py.
-/
import Derived.Test.YtoeajphlomankaaGreatDoorWalkA5
set_option linter.unusedVariables false
set_option maxRecDepth 100000
namespace Go.Proofs.YtoeajphlomankaaGreatDoor
open Go Go.Fk Go.RowKit

theorem ok_spec_l12Term (F : Nat) {w : World} {K : KMap} {p0_tf : Int} {p1_long : Int} {p2_total : Int} {p3_docs : Int} {p4_df : Int} {r : GRat} (hS : SH w K [] w K []) (Y : rng64 p0_tf) (Z : rng64 p1_long) (aa : rng64 p2_total) (s : rng64 p3_docs) (x : rng64 p4_df) (hm : M.spec_l12Term F p0_tf p1_long p2_total p3_docs p4_df = some r) :
  Calls Tryz.prog 138 #[.int .i64 p0_tf, .int .i64 p1_long, .int .i64 p2_total, .int .i64 p3_docs, .int .i64 p4_df] w fun e w' => ∃ (K' : KMap), e = .returned (.agg #[.int .i64 r.Up, .int .i64 r.Down]) ∧ SH w K [] w' K' [] ∧ rng64 r.Up ∧ rng64 r.Down := by
 rw [M.spec_l12Term] at hm
 refine calls_in Tryz.func138 rfl Tryz.ntmps138 rfl (sr (al tf92 hS fun b w7 y => ?_))
 have k : SH _ _ _ _ _ [obj b [.int .i64 0, .int .i64 0] 92] := y
 refine nr (lv (rv_assign (v := .int .i64 1) rfl) (nsr (mv rfl (lv (rv_gtr rfl rfl) (nq ?_)))))
 obtain ⟨d, A, B⟩ := ob hm
 refine wc_cutg (fun E' w' => ∃ f, E' = [(0, .int .i64 p0_tf), (3, .int .i64 p3_docs), (4, .int .i64 p4_df), (10, pt b), (11, .int .i64 d)] ∧ SH w K [] w' f [obj b [.int .i64 0, .int .i64 0] 92] ∧ KLe K f ∧ rng64 d) ?_ ?_
 ·refine wcc A rfl (fun C i => ?_) (fun C i => ?_)
  ·refine wc_region (mv rfl (mv rfl (lv (rv_mul rfl rfl) (lv (rv_mul rfl rfl) (mv rfl ?_)))))
   obtain ⟨ac, l, D⟩ := ob i
   refine lv (rv_quo rfl rfl l) (av rfl (wl_nil ?_))
   obtain rfl := oi D
   exact qd ⟨K, rfl, k, (KLe.refl _), (rng_quo l)⟩
  refine wc_skip ?_
  obtain rfl := oi i
  exact qd ⟨K, rfl, k, (KLe.refl _), (by decide : rng64 1)⟩
 rintro _ ad ⟨f, rfl, m, ae, af⟩
 refine qr (mv rfl (mv rfl ?_))
 obtain ⟨G, H, I⟩ := ob B
 refine lc (vs := [.int .i64 p4_df, .int .i64 p3_docs]) co174 ((ok_spec_l12Rare F) m.enter0 x s H) ?_
 rintro ag ah ⟨ai, rfl, J, aj⟩
 refine ⟨_, rfl, ?_⟩
 have o := (m.c0 J).t1
 refine lv (rv_add rfl rfl) (lv (rv_mul rfl rfl) (mv rfl (lv (rv_mul rfl rfl) (mv rfl (lv (rv_mul rfl rfl) (lv (rv_add rfl rfl) (mv rfl (lv (rv_add rfl rfl) ?_))))))))
 obtain ⟨a, O, R⟩ := ob I
 refine lc (vs := [.int .i64 (w64 ((w64 ((w64 ((1 : Int) + G)) * (22 : Int))) * p0_tf)), .int .i64 (w64 ((w64 ((w64 ((10 : Int) * p0_tf)) + (3 : Int))) + d))]) co173 ((ok_spec_l10Make F) o.enter0 (w64_rng _) (w64_rng _) O) ?_
 rintro ak am ⟨S, rfl, T, U, V⟩
 refine ⟨_, rfl, ?_⟩
 have W := (o.c0 T).t1
 refine ls [.int .i64 a.Up, .int .i64 a.Down] (.agg #[.int .i64 a.Up, .int .i64 a.Down]) tf92 W fun an q => (nq (wc_ret ?_))
 obtain rfl := oi R
 have X := q.sb (sd sz)
 exact qe_ret (vs := [_]) Tryz.results138 ⟨⟨_, _, rfl, run_loadVar_at tf92 (cs := [.int .i64 a.Up, .int .i64 a.Down]) (fun j c e => by rw [Nat.zero_add, q.mem_obj m0]; exact e) (.inl ⟨rfl, rfl, rfl⟩)⟩, trivial⟩ ⟨S, rfl, X, U, V⟩

set_option maxHeartbeats 2000000 in
theorem ok_spec_l7Long (F : Nat) {w : World} {K : KMap} {i : Option Addr} {k l : Nat} {m : Option Addr} {o q : Nat} {p0_s : GSeg} {p1_field : Str} {p2_id : Int} {r : Int} (hS : SH w K [] w K []) (bP : SliceAt tGDoc K i k l p0_s.Docs) (D : SliceAt tGEntry K m o q p0_s.Entries) (bQ : p1_field.length ≤ maxLen) (bR : rng64 p2_id) (hm : M.spec_l7Long F p0_s p1_field p2_id = some r) :
  Calls Tryz.prog 139 #[.agg #[.slice i k l, .slice m o q], sv p1_field, .int .i64 p2_id] w fun e w' => ∃ (K' : KMap), e = .returned (.int .i64 r) ∧ SH w K [] w' K' [] ∧ rng64 r := by
 rw [M.spec_l7Long] at hm
 refine calls_in Tryz.func139 rfl Tryz.ntmps139 rfl (sr (bx rfl hS fun b bS ad => ?_))
 have ae : SH _ _ _ _ _ [obj b [.slice i k l, .slice m o q] 30] := ad
 refine lv (rv_assign (v := .int .i64 0) rfl) (nr (lv (rv_assign (v := .int .i64 0) rfl) (nsr (lv (rv_assign (v := .int .i64 0) rfl) (nq ?_)))))
 obtain ⟨V, af, ag⟩ := ob hm
 refine wc_cutg (fun E' w' => ∃ H, E' = [(7, .int .i64 V)] ∧ SH w K [] w' H [] ∧ KLe K H ∧ rng64 V) ?_ ?_
 ·refine wc_block ?_
  obtain ⟨bT, ah, ai⟩ := ob af
  refine qw (fun (d : Int × Int) E' w' => ∃ s, E' = [(1, sv p1_field), (2, .int .i64 p2_id), (3, pt b), (7, .int .i64 d.1), (8, .int .i64 d.2)] ∧ SH w K [] w' s [obj b [.slice i k l, .slice m o q] 30] ∧ KLe K s ∧ rng64 d.1 ∧ rng64 d.2) ah ⟨K, rfl, ae, (KLe.refl _), (by decide : rng64 0), (by decide : rng64 0)⟩ ?_
  rintro d _ bU bV aj ak ⟨s, rfl, J, x, W, bW⟩
  refine wc_seq (sr (mv rfl (fa ff30_1 rfl (lv (rv_loadm1 tf28 rfl m0 J rfl) (lv (rv_len (t := tGEntry) Tryz.underlying28 rfl (D.mono x)) (lv (rv_lss rfl rfl) (nq (wcc aj rfl (fun al O => ?_) (fun al O => ?_)))))))))
  ·refine wc_skip (qs (wc_block (sr (lv (rv_assign (v := .int .i64 0) rfl) (nq ?_)))))
   obtain ⟨X, am, an⟩ := ob O
   refine wc_cutg (fun E' w' => ∃ I, E' = [(1, sv p1_field), (2, .int .i64 p2_id), (3, pt b), (7, .int .i64 X), (8, .int .i64 d.2)] ∧ SH w K [] w' I [obj b [.slice i k l, .slice m o q] 30] ∧ KLe s I ∧ rng64 X) ?_ ?_
   ·refine wc_block ?_
    obtain ⟨bX, ao, ap⟩ := ob am
    refine qw (fun (f : Int × Int) E' w' => ∃ A, E' = [(1, sv p1_field), (2, .int .i64 p2_id), (3, pt b), (7, .int .i64 f.1), (8, .int .i64 d.2), (9, .int .i64 f.2)] ∧ SH w K [] w' A [obj b [.slice i k l, .slice m o q] 30] ∧ KLe s A ∧ rng64 f.1 ∧ rng64 f.2) ao ⟨s, rfl, J, (KLe.refl _), W, (by decide : rng64 0)⟩ ?_
    rintro f _ bY bZ aq ar ⟨A, rfl, B, y, Y, b0⟩
    refine wc_seq (wc_seq ?_)
    obtain ⟨au, aw, ax⟩ := ob aq
    refine wc_cutg (fun E' w' => ∃ C, E' = [(1, sv p1_field), (2, .int .i64 p2_id), (3, pt b), (7, .int .i64 f.1), (8, .int .i64 d.2), (9, .int .i64 f.2), (35, .bool au)] ∧ SH w K [] w' C [obj b [.slice i k l, .slice m o q] 30] ∧ KLe A C) ?_ ?_
    ·refine wc_region (mv rfl (fa ff30_1 rfl (lv (rv_loadm1 tf28 rfl m0 B rfl) (mv rfl ?_))))
     obtain ⟨R, ay, Z⟩ := ob aw
     refine li Tryz.underlying28 tf86 (D.mono (x.trans y)) ay fun az aA b1 aB aC => ?_
     obtain ⟨aD, aE, aF, rfl, b2, b3, aG⟩ := aB
     have aH : AtK _ az aA [sv R.Field, sv R.Term, .slice aD aE aF] := aC
     refine fa ff86_2 rfl (lv (rv_load1 tf37 rfl B (aH 2 _ rfl)) (lv (rv_len (t := tGPost) Tryz.underlying37 rfl aG) (lv (rv_lss rfl rfl) (mv rfl ?_))))
     rcases bool_tf (decide (f.2 < (R.Posts.length : Int))) with a | a
     ·have S := cond_t a Z
      refine lg a (rv_fieldAddr ff30_1 rfl) (lg a (rv_loadm1 tf28 rfl m0 B rfl) (lg a (rv_move rfl) ?_))
      obtain ⟨aa, aI, aJ⟩ := ob S
      refine wl_indexAddr (t := tGEntry) (wg rfl rfl a) rfl Tryz.underlying28 tf86 rfl rfl (D.mono (x.trans y)) aI fun aK aL b4 aM aN => ?_
      obtain ⟨aO, aP, aQ, rfl, b5, b6, b7⟩ := aM
      have aR : AtK _ aK aL [sv aa.Field, sv aa.Term, .slice aO aP aQ] := aN
      refine lg a (rv_fieldAddr ff86_0 rfl) (lg a (rv_load1 tf9 rfl B (aR 0 _ rfl)) (lg a (rv_move rfl) (lg a (rv_seql rfl rfl) (lv (rv_pick_t rfl a rfl) (wl_nil ?_)))))
      obtain rfl := oi aJ
      exact qd ⟨A, rfl, B, (KLe.refl _)⟩
     have S := cond_f a Z
     refine lu a (lu a (lu a (lu a (lu a (lu a (lu a (lu a (lv (rv_pick_f (v := .bool false) rfl a rfl) (wl_nil ?_)))))))))
     obtain rfl := oi S
     exact qd ⟨A, rfl, B, (KLe.refl _)⟩
    rintro _ w64 ⟨C, rfl, c, G⟩
    refine qe_seq (wcc ax rfl (fun aS T => ?_) (fun aS T => ?_))
    ·refine wc_skip (qs (wc_block (sr (fa ff30_1 rfl (lv (rv_loadm1 tf28 rfl m0 c rfl) (mv rfl ?_))))))
     obtain ⟨ab, aT, aU⟩ := ob T
     refine li Tryz.underlying28 tf86 (D.mono ((x.trans y).trans G)) aT fun aV aW b8 aX aY => ?_
     obtain ⟨aZ, a0, a2, rfl, b9, ca, a3⟩ := aX
     have a4 : AtK _ aV aW [sv ab.Field, sv ab.Term, .slice aZ a0 a2] := aY
     refine fa ff86_2 rfl (lv (rv_load1 tf37 rfl c (a4 2 _ rfl)) (mv rfl ?_))
     obtain ⟨a6, a7, a8⟩ := ob aU
     refine li Tryz.underlying37 tf42 a3 a7 fun a9 ba cb bb bc => ?_
     obtain ⟨bd, be, bf, rfl, cc, cd⟩ := bb
     have bg : AtK _ a9 ba [.int .i64 a6.Doc, .slice bd be bf] := bc
     refine fa ff42_0 rfl (lv (rv_load1 tf3 rfl c (bg 0 _ rfl)) (mv rfl (lv (rv_eql rfl rfl) (nq (wcc a8 rfl (fun bh U => ?_) (fun bh U => ?_))))))
     ·refine wc_region (mv rfl (fa ff30_1 rfl (lv (rv_loadm1 tf28 rfl m0 c rfl) (mv rfl ?_))))
      obtain ⟨ac, bi, bj⟩ := ob U
      refine li Tryz.underlying28 tf86 (D.mono ((x.trans y).trans G)) bi fun bk bl ce bm bn => ?_
      obtain ⟨bo, bp, bq, rfl, cf, cg, br⟩ := bm
      have bs : AtK _ bk bl [sv ac.Field, sv ac.Term, .slice bo bp bq] := bn
      refine fa ff86_2 rfl (lv (rv_load1 tf37 rfl c (bs 2 _ rfl)) (mv rfl ?_))
      obtain ⟨bt, bu, bv⟩ := ob bj
      refine li Tryz.underlying37 tf42 br bu fun bw bz ch bA bB => ?_
      obtain ⟨bC, bD, bE, rfl, ci, bF⟩ := bA
      have bG : AtK _ bw bz [.int .i64 bt.Doc, .slice bC bD bE] := bB
      refine fa ff42_1 rfl (lv (rv_load1 tf39 rfl c (bG 1 _ rfl)) (lv (rv_len (t := tInt) Tryz.underlying39 rfl bF) (lv (rv_add rfl rfl) (av rfl (nb (qe_seq (wc_region (mv rfl (lv (rv_add rfl rfl) ?_)))))))))
      refine av rfl (wl_nil ?_)
      obtain rfl := oi bv
      exact qd ⟨_, rfl, C, rfl, c, (y.trans G), (w64_rng _), (w64_rng _)⟩
     refine wc_skip (qe_block (qe_seq (wc_region (mv rfl (lv (rv_add rfl rfl) (av rfl (wl_nil ?_)))))))
     obtain rfl := oi U
     exact qd ⟨_, rfl, C, rfl, c, (y.trans G), Y, (w64_rng _)⟩
    refine wc_exit (qe_then_exit (qe_then_exit ?_))
    obtain rfl := oi T
    have bH := ar _ rfl
    subst bH
    refine qe_block_eq ?_
    obtain rfl := oi ap
    exact qd ⟨C, rfl, c, (y.trans G), Y⟩
   rintro _ cj ⟨I, rfl, bI, bJ, bK⟩
   refine qe_block (qe_seq (wc_region (mv rfl (lv (rv_add rfl rfl) (av rfl (wl_nil ?_))))))
   obtain rfl := oi an
   exact qd ⟨_, rfl, I, rfl, bI, (x.trans bJ), bK, (w64_rng _)⟩
  refine wc_exit (qe_then_exit (qe_then_exit ?_))
  obtain rfl := oi O
  have bL := ak _ rfl
  subst bL
  refine qe_block_eq ?_
  obtain rfl := oi ai
  have bM := J.sb (sd sz)
  exact qd ⟨s, rfl, bM, x, W⟩
 rintro _ ck ⟨H, rfl, bN, cl, bO⟩
 refine qr (mv rfl (av rfl (nq (wc_ret ?_))))
 obtain rfl := oi ag
 exact er Tryz.results139 ⟨rfl, trivial⟩ ⟨H, rfl, bN, bO⟩

set_option maxHeartbeats 2000000 in
theorem ok_spec_l12Total (F : Nat) {w : World} {K : KMap} {f : Option Addr} {i k : Nat} {l : Option Addr} {m o : Nat} {p0_s : GSeg} {p1_field : Str} {r : Int} (hS : SH w K [] w K []) (bo : SliceAt tGDoc K f i k p0_s.Docs) (D : SliceAt tGEntry K l m o p0_s.Entries) (bp : p1_field.length ≤ maxLen) (hm : M.spec_l12Total F p0_s p1_field = some r) :
  Calls Tryz.prog 140 #[.agg #[.slice f i k, .slice l m o], sv p1_field] w fun e w' => ∃ (K' : KMap), e = .returned (.int .i64 r) ∧ SH w K [] w' K' [] ∧ rng64 r := by
 rw [M.spec_l12Total] at hm
 refine calls_in Tryz.func140 rfl Tryz.ntmps140 rfl (sr (bx rfl hS fun b bq aa => ?_))
 have ab : SH _ _ _ _ _ [obj b [.slice f i k, .slice l m o] 30] := aa
 refine lv (rv_assign (v := .int .i64 0) rfl) (nr (lv (rv_assign (v := .int .i64 0) rfl) (nsr (lv (rv_assign (v := .int .i64 0) rfl) (nq ?_)))))
 obtain ⟨U, ac, ad⟩ := ob hm
 refine wc_cutg (fun E' w' => ∃ G, E' = [(5, .int .i64 U)] ∧ SH w K [] w' G [] ∧ KLe K G ∧ rng64 U) ?_ ?_
 ·refine wc_block ?_
  obtain ⟨br, ae, af⟩ := ob ac
  refine qw (fun (c : Int × Int) E' w' => ∃ q, E' = [(1, sv p1_field), (2, pt b), (5, .int .i64 c.1), (6, .int .i64 c.2)] ∧ SH w K [] w' q [obj b [.slice f i k, .slice l m o] 30] ∧ KLe K q ∧ rng64 c.1 ∧ rng64 c.2) ae ⟨K, rfl, ab, (KLe.refl _), (by decide : rng64 0), (by decide : rng64 0)⟩ ?_
  rintro c _ bs bt ag ah ⟨q, rfl, I, s, V, bu⟩
  refine wc_seq (sr (mv rfl (fa ff30_1 rfl (lv (rv_loadm1 tf28 rfl m0 I rfl) (lv (rv_len (t := tGEntry) Tryz.underlying28 rfl (D.mono s)) (lv (rv_lss rfl rfl) (nq (wcc ag rfl (fun ai J => ?_) (fun ai J => ?_)))))))))
  ·refine wc_skip (qs (wc_block (sr (lv (rv_assign (v := .int .i64 0) rfl) (nq ?_)))))
   obtain ⟨W, aj, ak⟩ := ob J
   refine wc_cutg (fun E' w' => ∃ H, E' = [(1, sv p1_field), (2, pt b), (5, .int .i64 W), (6, .int .i64 c.2)] ∧ SH w K [] w' H [obj b [.slice f i k, .slice l m o] 30] ∧ KLe q H ∧ rng64 W) ?_ ?_
   ·refine wc_block ?_
    obtain ⟨bv, al, am⟩ := ob aj
    refine qw (fun (d : Int × Int) E' w' => ∃ x, E' = [(1, sv p1_field), (2, pt b), (5, .int .i64 d.1), (6, .int .i64 c.2), (7, .int .i64 d.2)] ∧ SH w K [] w' x [obj b [.slice f i k, .slice l m o] 30] ∧ KLe q x ∧ rng64 d.1 ∧ rng64 d.2) al ⟨q, rfl, I, (KLe.refl _), V, (by decide : rng64 0)⟩ ?_
    rintro d _ bw bz an ao ⟨x, rfl, y, A, ap, bA⟩
    refine wc_seq (wc_seq ?_)
    obtain ⟨aq, ar, au⟩ := ob an
    refine wc_cutg (fun E' w' => ∃ B, E' = [(1, sv p1_field), (2, pt b), (5, .int .i64 d.1), (6, .int .i64 c.2), (7, .int .i64 d.2), (33, .bool aq)] ∧ SH w K [] w' B [obj b [.slice f i k, .slice l m o] 30] ∧ KLe x B) ?_ ?_
    ·refine wc_region (mv rfl (fa ff30_1 rfl (lv (rv_loadm1 tf28 rfl m0 y rfl) (mv rfl ?_))))
     obtain ⟨O, aw, X⟩ := ob ar
     refine li Tryz.underlying28 tf86 (D.mono (s.trans A)) aw fun ax ay bB az aA => ?_
     obtain ⟨aB, aC, aD, rfl, bC, bD, aE⟩ := az
     have aF : AtK _ ax ay [sv O.Field, sv O.Term, .slice aB aC aD] := aA
     refine fa ff86_2 rfl (lv (rv_load1 tf37 rfl y (aF 2 _ rfl)) (lv (rv_len (t := tGPost) Tryz.underlying37 rfl aE) (lv (rv_lss rfl rfl) (mv rfl ?_))))
     rcases bool_tf (decide (d.2 < (O.Posts.length : Int))) with a | a
     ·have R := cond_t a X
      refine lg a (rv_fieldAddr ff30_1 rfl) (lg a (rv_loadm1 tf28 rfl m0 y rfl) (lg a (rv_move rfl) ?_))
      obtain ⟨Y, aG, aH⟩ := ob R
      refine wl_indexAddr (t := tGEntry) (wg rfl rfl a) rfl Tryz.underlying28 tf86 rfl rfl (D.mono (s.trans A)) aG fun aI aJ bE aK aL => ?_
      obtain ⟨aM, aN, aO, rfl, bF, bG, bH⟩ := aK
      have aP : AtK _ aI aJ [sv Y.Field, sv Y.Term, .slice aM aN aO] := aL
      refine lg a (rv_fieldAddr ff86_0 rfl) (lg a (rv_load1 tf9 rfl y (aP 0 _ rfl)) (lg a (rv_move rfl) (lg a (rv_seql rfl rfl) (lv (rv_pick_t rfl a rfl) (wl_nil ?_)))))
      obtain rfl := oi aH
      exact qd ⟨x, rfl, y, (KLe.refl _)⟩
     have R := cond_f a X
     refine lu a (lu a (lu a (lu a (lu a (lu a (lu a (lu a (lv (rv_pick_f (v := .bool false) rfl a rfl) (wl_nil ?_)))))))))
     obtain rfl := oi R
     exact qd ⟨x, rfl, y, (KLe.refl _)⟩
    rintro _ bI ⟨B, rfl, C, S⟩
    refine qe_seq (wcc au rfl (fun aQ T => ?_) (fun aQ T => ?_))
    ·refine wc_skip (qs (wc_block (wc_region (mv rfl (fa ff30_1 rfl (lv (rv_loadm1 tf28 rfl m0 C rfl) (mv rfl ?_)))))))
     obtain ⟨Z, aR, aS⟩ := ob T
     refine li Tryz.underlying28 tf86 (D.mono ((s.trans A).trans S)) aR fun aT aU bJ aV aW => ?_
     obtain ⟨aX, aY, aZ, rfl, bK, bL, a0⟩ := aV
     have a2 : AtK _ aT aU [sv Z.Field, sv Z.Term, .slice aX aY aZ] := aW
     refine fa ff86_2 rfl (lv (rv_load1 tf37 rfl C (a2 2 _ rfl)) (mv rfl ?_))
     obtain ⟨a3, a4, a6⟩ := ob aS
     refine li Tryz.underlying37 tf42 a0 a4 fun a7 a8 bM a9 ba => ?_
     obtain ⟨bb, bc, bd, rfl, bN, be⟩ := a9
     have bf : AtK _ a7 a8 [.int .i64 a3.Doc, .slice bb bc bd] := ba
     refine fa ff42_1 rfl (lv (rv_load1 tf39 rfl C (bf 1 _ rfl)) (lv (rv_len (t := tInt) Tryz.underlying39 rfl be) (lv (rv_add rfl rfl) (av rfl (nb (qe_seq (wc_region (mv rfl (lv (rv_add rfl rfl) ?_)))))))))
     refine av rfl (wl_nil ?_)
     obtain rfl := oi a6
     exact qd ⟨_, rfl, B, rfl, C, (A.trans S), (w64_rng _), (w64_rng _)⟩
    refine wc_exit (qe_then_exit (qe_then_exit ?_))
    obtain rfl := oi T
    have bg := ao _ rfl
    subst bg
    refine qe_block_eq ?_
    obtain rfl := oi am
    exact qd ⟨B, rfl, C, (A.trans S), ap⟩
   rintro _ bO ⟨H, rfl, bh, bi, bj⟩
   refine qe_block (qe_seq (wc_region (mv rfl (lv (rv_add rfl rfl) (av rfl (wl_nil ?_))))))
   obtain rfl := oi ak
   exact qd ⟨_, rfl, H, rfl, bh, (s.trans bi), bj, (w64_rng _)⟩
  refine wc_exit (qe_then_exit (qe_then_exit ?_))
  obtain rfl := oi J
  have bk := ah _ rfl
  subst bk
  refine qe_block_eq ?_
  obtain rfl := oi af
  have bl := I.sb (sd sz)
  exact qd ⟨q, rfl, bl, s, V⟩
 rintro _ bP ⟨G, rfl, bm, bQ, bn⟩
 refine qr (mv rfl (av rfl (nq (wc_ret ?_))))
 obtain rfl := oi ad
 exact er Tryz.results140 ⟨rfl, trivial⟩ ⟨G, rfl, bm, bn⟩

set_option maxHeartbeats 2000000 in
theorem ok_spec_l12Points (F : Nat) {w : World} {K : KMap} {d : Option Addr} {f k : Nat} {m : Option Addr} {o q : Nat} {p0_s : GSeg} {p1_field : Str} {p2_term : Str} {p3_id : Int} {r : Int} (hS : SH w K [] w K []) (y : SliceAt tGDoc K d f k p0_s.Docs) (C : SliceAt tGEntry K m o q p0_s.Entries) (D : p1_field.length ≤ maxLen) (X : p2_term.length ≤ maxLen) (aA : rng64 p3_id) (hm : M.spec_l12Points F p0_s p1_field p2_term p3_id = some r) :
  Calls Tryz.prog 87 #[.agg #[.slice d f k, .slice m o q], sv p1_field, sv p2_term, .int .i64 p3_id] w fun e w' => ∃ (K' : KMap), e = .returned (.int .i64 r) ∧ SH w K [] w' K' [] ∧ rng64 r := by
 rw [M.spec_l12Points] at hm
 refine calls_in Tryz.func87 rfl Tryz.ntmps87 rfl (sr (bx rfl hS fun J bN a7 => ?_))
 have aB : SH _ _ _ _ _ [obj J [.slice d f k, .slice m o q] 30] := a7
 refine lv (rv_assign (v := .int .i64 0) rfl) (nr (lv (rv_loadmS (ds := [.slice d f k, .slice m o q]) tf30 rfl m0 aB rfl rfl) (mv rfl (mv rfl (mv rfl ?_)))))
 obtain ⟨Y, a8, a9⟩ := ob hm
 refine lc (vs := [.agg #[.slice d f k, .slice m o q], sv p1_field, sv p2_term, .int .i64 p3_id]) co137 ((ok_spec_l12At F) aB.enter0 y C D X aA a8) ?_
 rintro bO bP ⟨bQ, bR, bS, aC, rfl, c, O⟩
 refine ⟨_, rfl, ?_⟩
 have aU := (aB.c0 c).t1
 refine lv (rv_len (t := tInt) Tryz.underlying39 rfl O) (av rfl (nsr (mv rfl (lv (rv_eql rfl rfl) (nq (wcc a9 rfl (fun ba aD => ?_) (fun ba aD => ?_)))))))
 ·refine sr (lv (rv_assign (v := .int .i64 0) rfl) (nq (rr ?_)))
  obtain rfl := oi aD
  have bb := aU.sb (sd sz)
  exact er Tryz.results87 ⟨rfl, trivial⟩ ⟨aC, rfl, bb, (by decide : rng64 0)⟩
 refine wc_skip (qs ?_)
 obtain ⟨ah, bc, bd⟩ := ob aD
 refine wc_cutg (fun E' w' => ∃ aE ai, E' = [(10, pt aE)] ∧ SH w K [] w' ai [obj aE [.int .i64 ah.Up, .int .i64 ah.Down] 92] ∧ KLe aC ai ∧ rng64 ah.Up ∧ rng64 ah.Down) ?_ ?_
 ·obtain ⟨Z, aV, be⟩ := ob bc
  obtain ⟨aa, aF, bf⟩ := ob be
  obtain ⟨ab, aj, bg⟩ := ob bf
  obtain ⟨x, ac, ad⟩ := ob bg
  refine wc_held (fun w' => Holds aC w' ∧ HasObj J [.slice d f k, .slice m o q] w') (fun w' => True) 19 [] mixed ?_
  have b := aU.drew
  refine wg_val (i := 0) (listed' := #[true, false, false, false, false, false, false, false, false, false, false, false, false, false, false, false, false, false, false]) (fun _ => True) rfl (by kernel_rfl) (pk_then (pk_then pk_body)) (by kernel_rfl) rfl (by kernel_rfl) (by kernel_rfl) rfl (.inl fun _ _ => trivial) ⟨⟨b.hasK (KLe.refl _), b.hasObj m0⟩, (fun _ => trivial), by decide⟩ wn rfl (fun _ _ => (rv_move rfl)) (wg_val (i := 1) (listed' := #[true, true, false, false, false, false, false, false, false, false, false, false, false, false, false, false, false, false, false]) (HasObj J [.slice d f k, .slice m o q]) rfl (by kernel_rfl) (pk_then (pk_then pk_body)) (by kernel_rfl) rfl (by kernel_rfl) (by kernel_rfl) rfl (.inl fun _ h => h.2) ⟨⟨b.hasK (KLe.refl _), b.hasObj m0⟩, (fun _ => trivial), by decide⟩ wn rfl (fun _ h => rh_loadmS (ds := [.slice d f k, .slice m o q]) tf30 rfl rfl rfl h) (wg_val (i := 2) (listed' := #[true, true, true, false, false, false, false, false, false, false, false, false, false, false, false, false, false, false, false]) (fun _ => True) rfl (by kernel_rfl) (pk_then (pk_then pk_body)) (by kernel_rfl) rfl (by kernel_rfl) (by kernel_rfl) rfl (.inl fun _ _ => trivial) ⟨⟨b.hasK (KLe.refl _), b.hasObj m0⟩, (fun _ => trivial), by decide⟩ wn rfl (fun _ _ => (rv_move rfl)) ?_))
  refine wg_val (i := 3) (listed' := #[true, true, true, true, false, false, false, false, false, false, false, false, false, false, false, false, false, false, false]) (fun _ => True) rfl (by kernel_rfl) (pk_then (pk_then pk_body)) (by kernel_rfl) rfl (by kernel_rfl) (by kernel_rfl) rfl (.inl fun _ _ => trivial) ⟨⟨b.hasK (KLe.refl _), b.hasObj m0⟩, (fun _ => trivial), by decide⟩ wn rfl (fun _ _ => (rv_move rfl)) (wg_val (i := 5) (listed' := #[true, true, true, true, false, true, false, false, false, false, false, false, false, false, false, false, false, false, false]) (HasObj J [.slice d f k, .slice m o q]) rfl (by kernel_rfl) (pk_then (pk_then pk_body)) (by kernel_rfl) rfl (by kernel_rfl) (by kernel_rfl) rfl (.inl fun _ h => h.2) ⟨⟨b.hasK (KLe.refl _), b.hasObj m0⟩, (fun _ => trivial), by decide⟩ wn rfl (fun _ h => rh_loadmS (ds := [.slice d f k, .slice m o q]) tf30 rfl rfl rfl h) (wg_val (i := 6) (listed' := #[true, true, true, true, false, true, true, false, false, false, false, false, false, false, false, false, false, false, false]) (fun _ => True) rfl (by kernel_rfl) (pk_then (pk_then pk_body)) (by kernel_rfl) rfl (by kernel_rfl) (by kernel_rfl) rfl (.inl fun _ _ => trivial) ⟨⟨b.hasK (KLe.refl _), b.hasObj m0⟩, (fun _ => trivial), by decide⟩ wn rfl (fun _ _ => (rv_move rfl)) ?_))
  refine wg_val (i := 8) (listed' := #[true, true, true, true, false, true, true, false, true, false, false, false, false, false, false, false, false, false, false]) (fun _ => True) rfl (by kernel_rfl) (pk_then (pk_then pk_body)) (by kernel_rfl) rfl (by kernel_rfl) (by kernel_rfl) rfl (.inl fun _ _ => trivial) ⟨⟨b.hasK (KLe.refl _), b.hasObj m0⟩, (fun _ => trivial), by decide⟩ wn rfl (fun _ _ => (rv_fieldAddr ff30_0 rfl)) (wg_val (i := 9) (listed' := #[true, true, true, true, false, true, true, false, true, true, false, false, false, false, false, false, false, false, false]) (HasObj J [.slice d f k, .slice m o q]) rfl (by kernel_rfl) (pk_then (pk_then pk_body)) (by kernel_rfl) rfl (by kernel_rfl) (by kernel_rfl) rfl (.inl fun _ h => h.2) ⟨⟨b.hasK (KLe.refl _), b.hasObj m0⟩, (fun _ => trivial), by decide⟩ wn rfl (fun _ h => rh_loadm1 tf27 rfl rfl h) (wg_val (i := 10) (listed' := #[true, true, true, true, false, true, true, false, true, true, true, false, false, false, false, false, false, false, false]) (fun _ => True) rfl (by kernel_rfl) (pk_then (pk_then pk_body)) (by kernel_rfl) rfl (by kernel_rfl) (by kernel_rfl) rfl (.inl fun _ _ => trivial) ⟨⟨b.hasK (KLe.refl _), b.hasObj m0⟩, (fun _ => trivial), by decide⟩ wn rfl (fun _ _ => (rv_len (t := tGDoc) Tryz.underlying27 rfl (y.mono c.le))) ?_))
  refine wg_val (i := 11) (listed' := #[true, true, true, true, false, true, true, false, true, true, true, true, false, false, false, false, false, false, false]) (HasObj J [.slice d f k, .slice m o q]) rfl (by kernel_rfl) (pk_then (pk_then pk_body)) (by kernel_rfl) rfl (by kernel_rfl) (by kernel_rfl) rfl (.inl fun _ h => h.2) ⟨⟨b.hasK (KLe.refl _), b.hasObj m0⟩, (fun _ => trivial), by decide⟩ wn rfl (fun _ h => rh_loadmS (ds := [.slice d f k, .slice m o q]) tf30 rfl rfl rfl h) (wg_val (i := 12) (listed' := #[true, true, true, true, false, true, true, false, true, true, true, true, true, false, false, false, false, false, false]) (fun _ => True) rfl (by kernel_rfl) (pk_then (pk_then pk_body)) (by kernel_rfl) rfl (by kernel_rfl) (by kernel_rfl) rfl (.inl fun _ _ => trivial) ⟨⟨b.hasK (KLe.refl _), b.hasObj m0⟩, (fun _ => trivial), by decide⟩ wn rfl (fun _ _ => (rv_move rfl)) (wg_val (i := 13) (listed' := #[true, true, true, true, false, true, true, false, true, true, true, true, true, true, false, false, false, false, false]) (fun _ => True) rfl (by kernel_rfl) (pk_then (pk_then pk_body)) (by kernel_rfl) rfl (by kernel_rfl) (by kernel_rfl) rfl (.inl fun _ _ => trivial) ⟨⟨b.hasK (KLe.refl _), b.hasObj m0⟩, (fun _ => trivial), by decide⟩ wn rfl (fun _ _ => (rv_move rfl)) ?_))
  refine wg_many (l := [4, 17]) (by kernel_rfl) rfl ⟨⟨_, rfl, ?_⟩, ⟨_, rfl, ?_⟩, trivial⟩
  ·refine lc (vs := [.agg #[.slice d f k, .slice m o q], sv p1_field, .int .i64 p3_id]) co139 ((ok_spec_l7Long F) b.enter0 (y.mono c.le) (C.mono c.le) D aA aV) ?_
   rintro bT bU ⟨bV, rfl, a, ak⟩
   refine ⟨_, rfl, ?_⟩
   have ae := (b.c0 a).t1
   refine wl_nil (qe_held (listed' := #[true, true, true, true, true, true, true, false, true, true, true, true, true, true, false, false, false, false, false]) rfl ⟨⟨ae.hasK a.le, ae.hasObj m0⟩, (fun _ => trivial), by decide⟩ (wg_many (l := [7, 17]) (by kernel_rfl) rfl ⟨⟨_, rfl, ?_⟩, ⟨_, rfl, ?_⟩, trivial⟩))
   ·refine lc (vs := [.agg #[.slice d f k, .slice m o q], sv p1_field]) co140 ((ok_spec_l12Total F) ae.enter0 (y.mono (c.le.trans a.le)) (C.mono (c.le.trans a.le)) D aF) ?_
    rintro bW bX ⟨bY, rfl, s, aG⟩
    refine ⟨_, rfl, ?_⟩
    have af := (ae.c0 s).t1
    refine wl_nil (qe_held (listed' := #[true, true, true, true, true, true, true, true, true, true, true, true, true, true, false, false, false, false, false]) rfl ⟨⟨af.hasK (a.le.trans s.le), af.hasObj m0⟩, (fun _ => trivial), by decide⟩ (wg_many (l := [14, 17]) (by kernel_rfl) rfl ⟨⟨_, rfl, ?_⟩, ⟨_, rfl, ?_⟩, trivial⟩))
    ·refine lc (vs := [.agg #[.slice d f k, .slice m o q], sv p1_field, sv p2_term]) co86 ((ok_spec_l7Posts F) af.enter0 (y.mono ((c.le.trans a.le).trans s.le)) (C.mono ((c.le.trans a.le).trans s.le)) D X aj) ?_
     rintro bZ b0 ⟨b1, b2, b3, b4, rfl, B, aH⟩
     refine ⟨_, rfl, ?_⟩
     have I := (af.c0 B).t1
     refine wl_nil (qe_held (listed' := #[true, true, true, true, true, true, true, true, true, true, true, true, true, true, true, false, false, false, false]) rfl ⟨⟨I.hasK ((a.le.trans s.le).trans B.le), I.hasObj m0⟩, (fun _ => trivial), by decide⟩ (wg_val (i := 15) (listed' := #[true, true, true, true, true, true, true, true, true, true, true, true, true, true, true, true, false, false, false]) (fun _ => True) rfl (by kernel_rfl) (pk_then (pk_then pk_body)) (by kernel_rfl) rfl (by kernel_rfl) (by kernel_rfl) rfl (.inl fun _ _ => trivial) ⟨⟨I.hasK ((a.le.trans s.le).trans B.le), I.hasObj m0⟩, (fun _ => trivial), by decide⟩ wn rfl (fun _ _ => (rv_len (t := tGPost) Tryz.underlying37 rfl aH)) (wg_many (l := [16, 17]) (by kernel_rfl) rfl ⟨⟨_, rfl, ?_⟩, ⟨_, rfl, ?_⟩, trivial⟩)))
     ·refine lc (vs := [.int .i64 (Y.length : Int), .int .i64 Z, .int .i64 aa, .int .i64 (p0_s.Docs.length : Int), .int .i64 (ab.length : Int)]) co138 ((ok_spec_l12Term F) I.enter0 (rng_nat (SliceAt.max O)) ak aG (rng_nat (SliceAt.max (y.mono c.le))) (rng_nat (SliceAt.max aH)) ac) ?_
      rintro b5 b6 ⟨bh, rfl, ag, bi, bj⟩
      refine ⟨_, rfl, ?_⟩
      have aI := (I.c0 ag).t1
      refine wl_nil (qe_held (listed' := #[true, true, true, true, true, true, true, true, true, true, true, true, true, true, true, true, true, false, false]) rfl ⟨⟨aI.hasK (((a.le.trans s.le).trans B.le).trans ag.le), aI.hasObj m0⟩, (fun _ => trivial), by decide⟩ (wg_one (i := 17) (by kernel_rfl) rfl (al tf92 aI fun aW b7 bk => ?_)))
      have aJ : SH _ _ _ _ _ [obj aW [.int .i64 0, .int .i64 0] 92, _] := bk
      refine wl_nil (qe_held (listed' := #[true, true, true, true, true, true, true, true, true, true, true, true, true, true, true, true, true, true, false]) rfl ⟨⟨aJ.hasK (((a.le.trans s.le).trans B.le).trans ag.le), aJ.hasObj m1⟩, (fun _ => trivial), by decide⟩ (wg_one (i := 18) (by kernel_rfl) rfl (ls [.int .i64 x.Up, .int .i64 x.Down] (.agg #[.int .i64 x.Up, .int .i64 x.Down]) tf92 aJ fun b8 aK => (wl_nil (qe_held (listed' := #[true, true, true, true, true, true, true, true, true, true, true, true, true, true, true, true, true, true, true]) rfl ⟨⟨aK.hasK (((a.le.trans s.le).trans B.le).trans ag.le), aK.hasObj m1⟩, (fun _ => trivial), by decide⟩ (wg_done (by kernel_rfl) ?_))))))
      obtain rfl := oi ad
      have bl := aK.sb (sk (sd sz))
      exact qd ⟨aW, bh, rfl, bl, (((a.le.trans s.le).trans B.le).trans ag.le), bi, bj⟩
     refine al tf92 I fun aX b9 bm => ?_
     have am : SH _ _ _ _ _ [obj aX [.int .i64 0, .int .i64 0] 92, _] := bm
     refine wl_nil (qe_held (listed' := #[true, true, true, true, true, true, true, true, true, true, true, true, true, true, true, true, false, true, false]) rfl ⟨⟨am.hasK ((a.le.trans s.le).trans B.le), am.hasObj m1⟩, (fun _ => trivial), by decide⟩ (wg_one (i := 16) (by kernel_rfl) rfl (lc (vs := [.int .i64 (Y.length : Int), .int .i64 Z, .int .i64 aa, .int .i64 (p0_s.Docs.length : Int), .int .i64 (ab.length : Int)]) co138 ((ok_spec_l12Term F) am.enter0 (rng_nat (SliceAt.max O)) ak aG (rng_nat (SliceAt.max (y.mono c.le))) (rng_nat (SliceAt.max aH)) ac) ?_)))
     rintro ca cb ⟨bn, rfl, an, bo, bp⟩
     refine ⟨_, rfl, ?_⟩
     have aL := (am.c0 an).t2
     refine wl_nil (qe_held (listed' := #[true, true, true, true, true, true, true, true, true, true, true, true, true, true, true, true, true, true, false]) rfl ⟨⟨aL.hasK (((a.le.trans s.le).trans B.le).trans an.le), aL.hasObj m1⟩, (fun _ => trivial), by decide⟩ (wg_one (i := 18) (by kernel_rfl) rfl (ls [.int .i64 x.Up, .int .i64 x.Down] (.agg #[.int .i64 x.Up, .int .i64 x.Down]) tf92 aL fun cc aM => (wl_nil (qe_held (listed' := #[true, true, true, true, true, true, true, true, true, true, true, true, true, true, true, true, true, true, true]) rfl ⟨⟨aM.hasK (((a.le.trans s.le).trans B.le).trans an.le), aM.hasObj m1⟩, (fun _ => trivial), by decide⟩ (wg_done (by kernel_rfl) ?_))))))
     obtain rfl := oi ad
     have bq := aM.sb (sk (sd sz))
     exact qd ⟨aX, bn, rfl, bq, (((a.le.trans s.le).trans B.le).trans an.le), bo, bp⟩
    refine al tf92 af fun aY cd br => ?_
    have ao : SH _ _ _ _ _ [obj aY [.int .i64 0, .int .i64 0] 92, _] := br
    refine wl_nil (qe_held (listed' := #[true, true, true, true, true, true, true, true, true, true, true, true, true, true, false, false, false, true, false]) rfl ⟨⟨ao.hasK (a.le.trans s.le), ao.hasObj m1⟩, (fun _ => trivial), by decide⟩ (wg_one (i := 14) (by kernel_rfl) rfl (lc (vs := [.agg #[.slice d f k, .slice m o q], sv p1_field, sv p2_term]) co86 ((ok_spec_l7Posts F) ao.enter0 (y.mono ((c.le.trans a.le).trans s.le)) (C.mono ((c.le.trans a.le).trans s.le)) D X aj) ?_)))
    rintro ce cf ⟨cg, ch, ci, cj, rfl, R, aZ⟩
    refine ⟨_, rfl, ?_⟩
    have S := (ao.c0 R).t2
    refine wl_nil (qe_held (listed' := #[true, true, true, true, true, true, true, true, true, true, true, true, true, true, true, false, false, true, false]) rfl ⟨⟨S.hasK ((a.le.trans s.le).trans R.le), S.hasObj m1⟩, (fun _ => trivial), by decide⟩ (wg_val (i := 15) (listed' := #[true, true, true, true, true, true, true, true, true, true, true, true, true, true, true, true, false, true, false]) (fun _ => True) rfl (by kernel_rfl) (pk_then (pk_then pk_body)) (by kernel_rfl) rfl (by kernel_rfl) (by kernel_rfl) rfl (.inl fun _ _ => trivial) ⟨⟨S.hasK ((a.le.trans s.le).trans R.le), S.hasObj m1⟩, (fun _ => trivial), by decide⟩ wn rfl (fun _ _ => (rv_len (t := tGPost) Tryz.underlying37 rfl aZ)) (wg_one (i := 16) (by kernel_rfl) rfl (lc (vs := [.int .i64 (Y.length : Int), .int .i64 Z, .int .i64 aa, .int .i64 (p0_s.Docs.length : Int), .int .i64 (ab.length : Int)]) co138 ((ok_spec_l12Term F) S.enter0 (rng_nat (SliceAt.max O)) ak aG (rng_nat (SliceAt.max (y.mono c.le))) (rng_nat (SliceAt.max aZ)) ac) ?_))))
    rintro ck cl ⟨bs, rfl, ap, bt, bu⟩
    refine ⟨_, rfl, ?_⟩
    have aN := (S.c0 ap).t2
    refine wl_nil (qe_held (listed' := #[true, true, true, true, true, true, true, true, true, true, true, true, true, true, true, true, true, true, false]) rfl ⟨⟨aN.hasK (((a.le.trans s.le).trans R.le).trans ap.le), aN.hasObj m1⟩, (fun _ => trivial), by decide⟩ (wg_one (i := 18) (by kernel_rfl) rfl (ls [.int .i64 x.Up, .int .i64 x.Down] (.agg #[.int .i64 x.Up, .int .i64 x.Down]) tf92 aN fun cm aO => (wl_nil (qe_held (listed' := #[true, true, true, true, true, true, true, true, true, true, true, true, true, true, true, true, true, true, true]) rfl ⟨⟨aO.hasK (((a.le.trans s.le).trans R.le).trans ap.le), aO.hasObj m1⟩, (fun _ => trivial), by decide⟩ (wg_done (by kernel_rfl) ?_))))))
    obtain rfl := oi ad
    have bv := aO.sb (sk (sd sz))
    exact qd ⟨aY, bs, rfl, bv, (((a.le.trans s.le).trans R.le).trans ap.le), bt, bu⟩
   refine al tf92 ae fun a0 cn bw => ?_
   have aq : SH _ _ _ _ _ [obj a0 [.int .i64 0, .int .i64 0] 92, _] := bw
   refine wl_nil (qe_held (listed' := #[true, true, true, true, true, true, true, false, true, true, true, true, true, true, false, false, false, true, false]) rfl ⟨⟨aq.hasK a.le, aq.hasObj m1⟩, (fun _ => trivial), by decide⟩ (wg_one (i := 7) (by kernel_rfl) rfl (lc (vs := [.agg #[.slice d f k, .slice m o q], sv p1_field]) co140 ((ok_spec_l12Total F) aq.enter0 (y.mono (c.le.trans a.le)) (C.mono (c.le.trans a.le)) D aF) ?_)))
   rintro cp cq ⟨cr, rfl, G, bz⟩
   refine ⟨_, rfl, ?_⟩
   have ar := (aq.c0 G).t2
   refine wl_nil (qe_held (listed' := #[true, true, true, true, true, true, true, true, true, true, true, true, true, true, false, false, false, true, false]) rfl ⟨⟨ar.hasK (a.le.trans G.le), ar.hasObj m1⟩, (fun _ => trivial), by decide⟩ (wg_one (i := 14) (by kernel_rfl) rfl (lc (vs := [.agg #[.slice d f k, .slice m o q], sv p1_field, sv p2_term]) co86 ((ok_spec_l7Posts F) ar.enter0 (y.mono ((c.le.trans a.le).trans G.le)) (C.mono ((c.le.trans a.le).trans G.le)) D X aj) ?_)))
   rintro cs ct ⟨cu, cv, cw, cx, rfl, T, a2⟩
   refine ⟨_, rfl, ?_⟩
   have U := (ar.c0 T).t2
   refine wl_nil (qe_held (listed' := #[true, true, true, true, true, true, true, true, true, true, true, true, true, true, true, false, false, true, false]) rfl ⟨⟨U.hasK ((a.le.trans G.le).trans T.le), U.hasObj m1⟩, (fun _ => trivial), by decide⟩ (wg_val (i := 15) (listed' := #[true, true, true, true, true, true, true, true, true, true, true, true, true, true, true, true, false, true, false]) (fun _ => True) rfl (by kernel_rfl) (pk_then (pk_then pk_body)) (by kernel_rfl) rfl (by kernel_rfl) (by kernel_rfl) rfl (.inl fun _ _ => trivial) ⟨⟨U.hasK ((a.le.trans G.le).trans T.le), U.hasObj m1⟩, (fun _ => trivial), by decide⟩ wn rfl (fun _ _ => (rv_len (t := tGPost) Tryz.underlying37 rfl a2)) (wg_one (i := 16) (by kernel_rfl) rfl (lc (vs := [.int .i64 (Y.length : Int), .int .i64 Z, .int .i64 aa, .int .i64 (p0_s.Docs.length : Int), .int .i64 (ab.length : Int)]) co138 ((ok_spec_l12Term F) U.enter0 (rng_nat (SliceAt.max O)) ak bz (rng_nat (SliceAt.max (y.mono c.le))) (rng_nat (SliceAt.max a2)) ac) ?_))))
   rintro cy cz ⟨bA, rfl, au, bB, bC⟩
   refine ⟨_, rfl, ?_⟩
   have aP := (U.c0 au).t2
   refine wl_nil (qe_held (listed' := #[true, true, true, true, true, true, true, true, true, true, true, true, true, true, true, true, true, true, false]) rfl ⟨⟨aP.hasK (((a.le.trans G.le).trans T.le).trans au.le), aP.hasObj m1⟩, (fun _ => trivial), by decide⟩ (wg_one (i := 18) (by kernel_rfl) rfl (ls [.int .i64 x.Up, .int .i64 x.Down] (.agg #[.int .i64 x.Up, .int .i64 x.Down]) tf92 aP fun cA aQ => (wl_nil (qe_held (listed' := #[true, true, true, true, true, true, true, true, true, true, true, true, true, true, true, true, true, true, true]) rfl ⟨⟨aQ.hasK (((a.le.trans G.le).trans T.le).trans au.le), aQ.hasObj m1⟩, (fun _ => trivial), by decide⟩ (wg_done (by kernel_rfl) ?_))))))
   obtain rfl := oi ad
   have bD := aQ.sb (sk (sd sz))
   exact qd ⟨a0, bA, rfl, bD, (((a.le.trans G.le).trans T.le).trans au.le), bB, bC⟩
  refine al tf92 b fun a3 cB bE => ?_
  have aw : SH _ _ _ _ _ [obj a3 [.int .i64 0, .int .i64 0] 92, _] := bE
  refine wl_nil (qe_held (listed' := #[true, true, true, true, false, true, true, false, true, true, true, true, true, true, false, false, false, true, false]) rfl ⟨⟨aw.hasK (KLe.refl _), aw.hasObj m1⟩, (fun _ => trivial), by decide⟩ (wg_one (i := 4) (by kernel_rfl) rfl (lc (vs := [.agg #[.slice d f k, .slice m o q], sv p1_field, .int .i64 p3_id]) co139 ((ok_spec_l7Long F) aw.enter0 (y.mono c.le) (C.mono c.le) D aA aV) ?_)))
  rintro cC cD ⟨cE, rfl, A, bF⟩
  refine ⟨_, rfl, ?_⟩
  have ax := (aw.c0 A).t2
  refine wl_nil (qe_held (listed' := #[true, true, true, true, true, true, true, false, true, true, true, true, true, true, false, false, false, true, false]) rfl ⟨⟨ax.hasK A.le, ax.hasObj m1⟩, (fun _ => trivial), by decide⟩ (wg_one (i := 7) (by kernel_rfl) rfl (lc (vs := [.agg #[.slice d f k, .slice m o q], sv p1_field]) co140 ((ok_spec_l12Total F) ax.enter0 (y.mono (c.le.trans A.le)) (C.mono (c.le.trans A.le)) D aF) ?_)))
  rintro cF cG ⟨cH, rfl, H, bG⟩
  refine ⟨_, rfl, ?_⟩
  have ay := (ax.c0 H).t2
  refine wl_nil (qe_held (listed' := #[true, true, true, true, true, true, true, true, true, true, true, true, true, true, false, false, false, true, false]) rfl ⟨⟨ay.hasK (A.le.trans H.le), ay.hasObj m1⟩, (fun _ => trivial), by decide⟩ (wg_one (i := 14) (by kernel_rfl) rfl (lc (vs := [.agg #[.slice d f k, .slice m o q], sv p1_field, sv p2_term]) co86 ((ok_spec_l7Posts F) ay.enter0 (y.mono ((c.le.trans A.le).trans H.le)) (C.mono ((c.le.trans A.le).trans H.le)) D X aj) ?_)))
  rintro cI cJ ⟨cK, cL, cM, cN, rfl, V, a4⟩
  refine ⟨_, rfl, ?_⟩
  have W := (ay.c0 V).t2
  refine wl_nil (qe_held (listed' := #[true, true, true, true, true, true, true, true, true, true, true, true, true, true, true, false, false, true, false]) rfl ⟨⟨W.hasK ((A.le.trans H.le).trans V.le), W.hasObj m1⟩, (fun _ => trivial), by decide⟩ (wg_val (i := 15) (listed' := #[true, true, true, true, true, true, true, true, true, true, true, true, true, true, true, true, false, true, false]) (fun _ => True) rfl (by kernel_rfl) (pk_then (pk_then pk_body)) (by kernel_rfl) rfl (by kernel_rfl) (by kernel_rfl) rfl (.inl fun _ _ => trivial) ⟨⟨W.hasK ((A.le.trans H.le).trans V.le), W.hasObj m1⟩, (fun _ => trivial), by decide⟩ wn rfl (fun _ _ => (rv_len (t := tGPost) Tryz.underlying37 rfl a4)) (wg_one (i := 16) (by kernel_rfl) rfl (lc (vs := [.int .i64 (Y.length : Int), .int .i64 Z, .int .i64 aa, .int .i64 (p0_s.Docs.length : Int), .int .i64 (ab.length : Int)]) co138 ((ok_spec_l12Term F) W.enter0 (rng_nat (SliceAt.max O)) bF bG (rng_nat (SliceAt.max (y.mono c.le))) (rng_nat (SliceAt.max a4)) ac) ?_))))
  rintro cO cP ⟨bH, rfl, az, bI, bJ⟩
  refine ⟨_, rfl, ?_⟩
  have aR := (W.c0 az).t2
  refine wl_nil (qe_held (listed' := #[true, true, true, true, true, true, true, true, true, true, true, true, true, true, true, true, true, true, false]) rfl ⟨⟨aR.hasK (((A.le.trans H.le).trans V.le).trans az.le), aR.hasObj m1⟩, (fun _ => trivial), by decide⟩ (wg_one (i := 18) (by kernel_rfl) rfl (ls [.int .i64 x.Up, .int .i64 x.Down] (.agg #[.int .i64 x.Up, .int .i64 x.Down]) tf92 aR fun cQ aS => (wl_nil (qe_held (listed' := #[true, true, true, true, true, true, true, true, true, true, true, true, true, true, true, true, true, true, true]) rfl ⟨⟨aS.hasK (((A.le.trans H.le).trans V.le).trans az.le), aS.hasObj m1⟩, (fun _ => trivial), by decide⟩ (wg_done (by kernel_rfl) ?_))))))
  obtain rfl := oi ad
  have bK := aS.sb (sk (sd sz))
  exact qd ⟨a3, bH, rfl, bK, (((A.le.trans H.le).trans V.le).trans az.le), bI, bJ⟩
 rintro _ cR ⟨aE, ai, rfl, aT, cS, cT, cU⟩
 refine qr (fa ff92_0 rfl (lv (rv_loadm1 tf3 rfl m0 aT rfl) (lv (rv_mul rfl rfl) (fa ff92_1 rfl (lv (rv_loadm1 tf3 rfl m0 aT rfl) ?_)))))
 obtain ⟨cV, a6, bL⟩ := ob bd
 refine lv (rv_quo rfl rfl a6) (av rfl (nq (wc_ret ?_)))
 obtain rfl := oi bL
 have bM := aT.sb (sd sz)
 exact er Tryz.results87 ⟨rfl, trivial⟩ ⟨ai, rfl, bM, (rng_quo a6)⟩

set_option maxHeartbeats 2000000 in
theorem ok_spec_l14Blocks (F : Nat) {w : World} {K : KMap} {b : Option Addr} {c f : Nat} {i : Option Addr} {k l : Nat} {p0_s : GSeg} {p1_field : Str} {p2_term : Str} {r : (List GBlock)} (hS : SH w K [] w K []) (aa : SliceAt tGDoc K b c f p0_s.Docs) (ab : SliceAt tGEntry K i k l p0_s.Entries) (ac : p1_field.length ≤ maxLen) (ad : p2_term.length ≤ maxLen) (hm : M.spec_l14Blocks F p0_s p1_field p2_term = some r) :
  Calls Tryz.prog 39 #[.agg #[.slice b c f, .slice i k l], sv p1_field, sv p2_term] w fun e w' => ∃ (a_1 : Option Addr) (n_2 c_3 : Nat) (K' : KMap), e = .returned (.slice a_1 n_2 c_3) ∧ SH w K [] w' K' [tail (.slice a_1 n_2 c_3) 45 2] ∧ SliceAt tGBlock K' a_1 n_2 c_3 r := by
 rw [M.spec_l14Blocks] at hm
 refine calls_in Tryz.func39 rfl Tryz.ntmps39 rfl (sr (bx rfl hS fun D b2 aH => ?_))
 have aI : SH _ _ _ _ _ [obj D [.slice b c f, .slice i k l] 30] := aH
 refine lv (rv_assign (v := .slice none 0 0) rfl) (nr (wl_buildSlice0R tGBlock wn rfl Tryz.underlying33 tf45 aI fun aJ b3 ae => (av rfl (nr (lv (rv_loadmS (ds := [.slice b c f, .slice i k l]) tf30 rfl m1 ae rfl rfl) (mv rfl (mv rfl ?_)))))))
 obtain ⟨b4, aK, aL⟩ := ob hm
 refine lc (vs := [.agg #[.slice b c f, .slice i k l], sv p1_field, sv p2_term]) co86 ((ok_spec_l7Posts F) ae.enter0 aa ab ac ad aK) ?_
 rintro b5 b6 ⟨ap, aq, ar, af, rfl, G, ag⟩
 refine ⟨_, rfl, ?_⟩
 have aM := (ae.c0 G).t2
 refine av rfl (nsr (lv (rv_assign (v := .int .i64 0) rfl) (nq ?_)))
 obtain ⟨au, aN, aO⟩ := ob aL
 refine wc_cutg (fun E' w' => ∃ X H Y cs40 Z, E' = [(7, .slice X H Y)] ∧ SH w K [] w' Z [rowI (.slice X H Y) cs40 45 2] ∧ KLe af Z ∧ RowAt true tGBlock Z cs40 au ∧ H = au.length) ?_ ?_
 ·refine wc_block ?_
  obtain ⟨b7, aP, aQ⟩ := ob aN
  refine qw (fun (y : (List GBlock) × Int) E' w' => ∃ I A J cs54 O, E' = [(1, sv p1_field), (2, sv p2_term), (3, pt D), (7, .slice I A J), (8, .slice ap aq ar), (9, .int .i64 y.2)] ∧ SH w K [] w' O [obj D [.slice b c f, .slice i k l] 30, rowI (.slice I A J) cs54 45 2] ∧ KLe af O ∧ RowAt true tGBlock O cs54 y.1 ∧ A = y.1.length ∧ rng64 y.2) aP ⟨aJ, 0, 0, [], af, rfl, aM.f1, (KLe.refl _), (RowAt.nil tGBlock _), rfl, (by decide : rng64 0)⟩ ?_
  rintro y _ b8 b9 aR aS ⟨I, A, J, cs54, O, rfl, ah, a, hrow55, hm56, ca⟩
  refine wc_seq (sr (mv rfl (mv rfl (lv (rv_len (t := tGPost) Tryz.underlying37 rfl (ag.mono a)) (lv (rv_lss rfl rfl) (nq (wcc aR rfl (fun aT ai => ?_) (fun aT ai => ?_))))))))
  ·refine wc_skip (qs (wc_block (wc_seq (wc_quiet mixed (by kernel_rfl) ah (kh (rq_loadmS (ds := [.slice b c f, .slice i k l]) tf30 rfl m0 rfl rfl) (km rfl (km rfl (km rfl (km rfl ?_)))))))))
   obtain ⟨aw, aU, aV⟩ := ob ai
   refine ki Tryz.underlying37 tf42 (ag.mono a) aU fun aW aX cb aY aZ => ?_
   obtain ⟨a0, a2, a3, rfl, ax, cc⟩ := aY
   have a4 : AtK _ aW aX [.int .i64 aw.Doc, .slice a0 a2 a3] := aZ
   refine kv (rv_fieldAddr ff42_0 rfl) (kh (rq_load1 tf3 rfl (a4 0 _ rfl)) ?_)
   obtain ⟨q, ay, a6⟩ := ob aV
   refine wq_call (v := .int .i64 q) wn rfl (fun _ => rt_call (vs := [.agg #[.slice b c f, .slice i k l], sv p1_field, sv p2_term, .int .i64 aw.Doc]) co87 rfl) (fun cd ⟨ce, az, aj⟩ => ((ok_spec_l12Points F) az.enter0 (aa.mono ((G.le.trans a).trans aj)) (ab.mono ((G.le.trans a).trans aj)) ac ad ax ay).mono fun e w' ⟨K', he, hS', _⟩ => ⟨he, K', az.call0 hS', aj.trans hS'.le⟩) ?_
   obtain ⟨_, _, _, ⟨_, _, _, a7⟩, _⟩ := (ok_spec_l12Points F) ah.enter0 (aa.mono (G.le.trans a)) (ab.mono (G.le.trans a)) ac ad ax ay []
   refine kv (rv_assign rfl) (wq_nil ?_)
   rintro cf ⟨aA, aB, R⟩
   refine qs (sr (mv rfl ?_))
   obtain ⟨cg, a8, a9⟩ := ob a6
   refine lv (rv_rem rfl rfl a8) (lv (rv_eql rfl rfl) (nq ?_))
   obtain ⟨s, ba, bb⟩ := ob a9
   refine wc_cutg (fun E' w' => ∃ S B T cs103 C, E' = [(1, sv p1_field), (2, sv p2_term), (3, pt D), (7, .slice S B T), (8, .slice ap aq ar), (9, .int .i64 y.2), (10, .int .i64 q)] ∧ SH w K [] w' C [obj D [.slice b c f, .slice i k l] 30, rowI (.slice S B T) cs103 45 2] ∧ KLe aA C ∧ RowAt true tGBlock C cs103 s ∧ B = s.length) ?_ ?_
   ·refine wcc ba rfl (fun bc ak => ?_) (fun bc ak => ?_)
    ·refine wc_region (mv rfl (lv (rv_build (cs := #[.int .i64 0, .int .i64 0]) sp45 tf45 rfl (by kernel_rfl)) (lb tGBlock (.agg #[.int .i64 0, .int .i64 0]) [.int .i64 0, .int .i64 0] (GBlock.mk (0 : Int) (0 : Int)) Tryz.underlying33 tf45 ⟨rfl, (by decide : rng64 0), (by decide : rng64 0)⟩ aB fun ch ci bd aC be bf => ?_)))
     obtain ⟨cj, bg, bh⟩ := ob ak
     refine wl_appendR (t := tGBlock) wn rfl Tryz.underlying33 tf45 rfl rfl rfl rfl (RowAt.mono (R.trans aC) hrow55) hm56 be bg bf.f2 fun bi bj bk cs121 ck hrow123 hm124 bl => (av rfl (wl_nil ?_))
     obtain rfl := oi bh
     have bm := bl.f2.sb (sk (sk (sd sz)))
     exact qd ⟨bi, bj, bk, cs121, bd, rfl, bm, aC, hrow123, hm124⟩
    refine wc_skip ?_
    obtain rfl := oi ak
    exact qd ⟨I, A, J, cs54, aA, rfl, aB, (KLe.refl _), (RowAt.mono R hrow55), hm56⟩
   rintro _ cl ⟨S, B, T, cs103, C, rfl, al, am, hrow104, hm105⟩
   refine qr (mv rfl (lv (rv_lenRow Tryz.underlying33 rfl hm105) (lv (rv_sub rfl rfl) (av rfl (nr (mv rfl (mv rfl (mv rfl (mv rfl ?_)))))))))
   obtain ⟨x, bn, bo⟩ := ob bb
   refine li Tryz.underlying37 tf42 (ag.mono ((a.trans R).trans am)) bn fun bp bq cm br bs => ?_
   obtain ⟨bt, bu, bv, rfl, bw, cn⟩ := br
   have bz : AtK _ bp bq [.int .i64 x.Doc, .slice bt bu bv] := bs
   refine fa ff42_0 rfl (lv (rv_load1 tf3 rfl al (bz 0 _ rfl)) ?_)
   obtain ⟨m, U, bA⟩ := ob bo
   obtain ⟨cp, aD⟩ := SH.rowI_at al m1 hm105 U
   obtain ⟨cq, bB, bC⟩ := RowAt.at hrow104 U
   obtain ⟨rfl, cr, bD⟩ := bB
   have bE : ∀ (j : Nat) (d : Value), [.int .i64 m.Last, .int .i64 m.Most][j]? = some d → cs103[(w64 ((s.length : Int) - (1 : Int))).toNat * tGBlock.size + j]? = some d := bC
   refine lv (rv_indexI (t := tGBlock) Tryz.underlying33 tf45 rfl rfl aD hm105 U) (fa ff45_0 rfl (wl_storeI (t := tGBlock) (off := 0) (ds := [.int .i64 m.Last, .int .i64 m.Most]) (v := .int .i64 x.Doc) (u := .agg #[.int .i64 x.Doc, .int .i64 m.Most]) (e := (GBlock.mk x.Doc m.Most)) wn tf3 rfl rfl rfl rfl (by simp [Value.cells, Value.oneCell']) aD al.f1 hrow104 hm105 U bE rfl rfl ⟨rfl, bw, bD⟩ fun cs154 ct hrow156 hm157 V => ?_))
   have bF := getI_set (e := (GBlock.mk x.Doc m.Most)) U
   obtain ⟨cu, bG, bH⟩ := RowAt.at hrow156 bF
   obtain ⟨rfl, cv, cw⟩ := bG
   have cx : ∀ (j : Nat) (d : Value), [.int .i64 ((GBlock.mk x.Doc m.Most).Last), .int .i64 ((GBlock.mk x.Doc m.Most).Most)][j]? = some d → cs154[(w64 ((s.length : Int) - (1 : Int))).toNat * tGBlock.size + j]? = some d := bH
   refine nr (mv rfl (mv rfl (mv rfl ?_)))
   obtain ⟨aE, an, bI⟩ := ob bA
   obtain ⟨cy, aF⟩ := SH.rowI_at V m0 hm157 an
   obtain ⟨cz, bJ, bK⟩ := RowAt.at hrow156 an
   obtain ⟨rfl, cA, cB⟩ := bJ
   have bL : ∀ (j : Nat) (d : Value), [.int .i64 aE.Last, .int .i64 aE.Most][j]? = some d → cs154[(w64 ((s.length : Int) - (1 : Int))).toNat * tGBlock.size + j]? = some d := bK
   refine lv (rv_indexI (t := tGBlock) Tryz.underlying33 tf45 rfl rfl aF hm157 an) (fa ff45_1 rfl (lv (rh_loadI1 tf3 rfl rfl (bL 1 _ rfl) aF (SH.hasRow V (.head _))) (lv (rv_gtr rfl rfl) (nq (wcc bI rfl (fun bM ao => ?_) (fun bM ao => ?_))))))
   ·refine wc_region (mv rfl (mv rfl (mv rfl ?_)))
    obtain ⟨o, W, bN⟩ := ob ao
    obtain ⟨cC, aG⟩ := SH.rowI_at V m0 hm157 W
    obtain ⟨cD, bO, bP⟩ := RowAt.at hrow156 W
    obtain ⟨rfl, bQ, cE⟩ := bO
    have bR : ∀ (j : Nat) (d : Value), [.int .i64 o.Last, .int .i64 o.Most][j]? = some d → cs154[(w64 ((s.length : Int) - (1 : Int))).toNat * tGBlock.size + j]? = some d := bP
    refine lv (rv_indexI (t := tGBlock) Tryz.underlying33 tf45 rfl rfl aG hm157 W) (fa ff45_1 rfl (wl_storeI (t := tGBlock) (off := 1) (ds := [.int .i64 o.Last, .int .i64 o.Most]) (v := .int .i64 q) (u := .agg #[.int .i64 o.Last, .int .i64 q]) (e := (GBlock.mk o.Last q)) wn tf3 rfl rfl rfl rfl (by simp [Value.cells, Value.oneCell']) aG V hrow156 hm157 W bR rfl rfl ⟨rfl, bQ, a7⟩ fun cs190 cF hrow192 hm193 bS => ?_))
    have bT := getI_set (e := (GBlock.mk o.Last q)) W
    obtain ⟨cG, bU, bV⟩ := RowAt.at hrow192 bT
    obtain ⟨rfl, cH, cI⟩ := bU
    have cJ : ∀ (j : Nat) (d : Value), [.int .i64 ((GBlock.mk o.Last q).Last), .int .i64 ((GBlock.mk o.Last q).Most)][j]? = some d → cs190[(w64 ((s.length : Int) - (1 : Int))).toNat * tGBlock.size + j]? = some d := bV
    refine nb (qe_seq (wc_region (mv rfl (lv (rv_add rfl rfl) (av rfl (wl_nil ?_))))))
    obtain rfl := oi bN
    exact qd ⟨_, rfl, S, B, T, cs190, C, rfl, bS.f1, ((a.trans R).trans am), hrow192, hm193, (w64_rng _)⟩
   refine wc_skip (qe_block (qe_seq (wc_region (mv rfl (lv (rv_add rfl rfl) (av rfl (wl_nil ?_)))))))
   obtain rfl := oi ao
   exact qd ⟨_, rfl, S, B, T, cs154, C, rfl, V.f1, ((a.trans R).trans am), hrow156, hm157, (w64_rng _)⟩
  refine wc_exit (qe_then_exit (qe_then_exit ?_))
  obtain rfl := oi ai
  have bW := aS _ rfl
  subst bW
  refine qe_block_eq ?_
  obtain rfl := oi aQ
  have bX := ah.sb (sd (sk sz))
  exact qd ⟨I, A, J, cs54, O, rfl, bX, a, hrow55, hm56⟩
 rintro _ cK ⟨X, H, Y, cs40, Z, rfl, bY, cL, hrow41, hm42⟩
 refine qr (mv rfl (av rfl (nq (wc_ret ?_))))
 obtain ⟨bZ, cM, b0, b1⟩ := SH.freezeI bY hrow41 hm42
 obtain rfl := oi aO
 exact er Tryz.results39 ⟨rfl, trivial⟩ ⟨X, H, Y, bZ, rfl, b1, b0⟩

theorem ok_spec_BoundOf (F : Nat) {w : World} {K : KMap} {k : Option Addr} {l m : Nat} {o : Option Addr} {q s : Nat} {a : Option Addr} {b c : Nat} {d : Option Addr} {f i : Nat} {p0_c : GConf} {p1_s : GSeg} {p2_field : Str} {p3_term : Str} {r : (List GBlock)} (hS : SH w K [] w K []) (G : SliceAt tStr K k l m p0_c.Stops) (H : SliceAt tGSyn K o q s p0_c.Syns) (C : SliceAt tGDoc K a b c p1_s.Docs) (D : SliceAt tGEntry K d f i p1_s.Entries) (I : p2_field.length ≤ maxLen) (J : p3_term.length ≤ maxLen) (hm : M.spec_BoundOf F p0_c p1_s p2_field p3_term = some r) :
  Calls Tryz.prog 11 #[.agg #[.slice k l m, .slice o q s], .agg #[.slice a b c, .slice d f i], sv p2_field, sv p3_term] w fun e w' => ∃ (a_1 : Option Addr) (n_2 c_3 : Nat) (K' : KMap), e = .returned (.slice a_1 n_2 c_3) ∧ SH w K [] w' K' [tail (.slice a_1 n_2 c_3) 45 2] ∧ SliceAt tGBlock K' a_1 n_2 c_3 r := by
 rw [M.spec_BoundOf] at hm
 refine calls_in Tryz.func11 rfl Tryz.ntmps11 rfl (sr (bx rfl hS fun O al R => ?_))
 have S : SH _ _ _ _ _ [obj O [.slice k l m, .slice o q s] 26] := R
 refine bx rfl S fun T am U => ?_
 have x : SH _ _ _ _ _ [obj T [.slice a b c, .slice d f i] 30, _] := U
 refine lv (rv_assign (v := .slice none 0 0) rfl) (nsr (lv (rv_loadmS (ds := [.slice k l m, .slice o q s]) tf26 rfl m1 x rfl rfl) (lv (rv_loadmS (ds := [.slice a b c, .slice d f i]) tf30 rfl m0 x rfl rfl) ?_)))
 obtain ⟨an, V, W⟩ := ob hm
 refine lc (vs := [.agg #[.slice k l m, .slice o q s], .agg #[.slice a b c, .slice d f i]]) co38 ((ok_spec_l7Ok F) x.enter0 G H C D V) ?_
 rintro ao ap ⟨X, rfl, A⟩
 refine ⟨_, rfl, ?_⟩
 have y := (x.c0 A).t2
 refine lv (rv_not rfl) (nq (wcc W rfl (fun Y B => ?_) (fun Y B => ?_)))
 ·refine sr (lv (rv_assign (v := .slice none 0 0) rfl) (nq (rr ?_)))
  obtain rfl := oi B
  have Z := y.nil 45 2
  have aa := Z.sb (sk (sd (sd sz)))
  exact er Tryz.results11 ⟨rfl, trivial⟩ ⟨none, 0, 0, X, rfl, aa, (SliceAt.nil _ _)⟩
 refine wc_skip (qr (lv (rv_loadmS (ds := [.slice a b c, .slice d f i]) tf30 rfl m0 y rfl rfl) (mv rfl (mv rfl ?_))))
 obtain ⟨aq, ab, ac⟩ := ob B
 refine lc (vs := [.agg #[.slice a b c, .slice d f i], sv p2_field, sv p3_term]) co39 ((ok_spec_l14Blocks F) y.enter0 (C.mono A.le) (D.mono A.le) I J ab) ?_
 rintro ar au ⟨ad, ae, af, ag, rfl, ah, ai⟩
 refine ⟨_, rfl, ?_⟩
 have aj := (y.c0 ah).t3
 refine av rfl (nq (wc_ret ?_))
 obtain rfl := oi ac
 have ak := aj.sb (sk (sd (sd sz)))
 exact er Tryz.results11 ⟨rfl, trivial⟩ ⟨ad, ae, af, ag, rfl, ak, ai⟩

set_option maxHeartbeats 2000000 in
theorem ok_impl_SegPosts (F : Nat) {w : World} {K : KMap} {y : Option Addr} {A B : Nat} {C : Option Addr} {D G : Nat} {H : Option Addr} {I J : Nat} {O : Option Addr} {R S : Nat} {p0_c : GConf} {p1_s : GSeg} {p2_field : Str} {p3_term : Str} {r : (List GPost)} (hS : SH w K [] w K []) (aD : SliceAt tStr K y A B p0_c.Stops) (aE : SliceAt tGSyn K C D G p0_c.Syns) (ar : SliceAt tGDoc K H I J p1_s.Docs) (au : SliceAt tGEntry K O R S p1_s.Entries) (aF : p2_field.length ≤ maxLen) (aG : p3_term.length ≤ maxLen) (hm : M.impl_SegPosts F p0_c p1_s p2_field p3_term = some r) :
  Calls Tryz.prog 13 #[.agg #[.slice y A B, .slice C D G], .agg #[.slice H I J, .slice O R S], sv p2_field, sv p3_term] w fun e w' => ∃ (a_1 : Option Addr) (n_2 c_3 : Nat) (K' : KMap), e = .returned (.slice a_1 n_2 c_3) ∧ SH w K [] w' K' [tail (.slice a_1 n_2 c_3) 42 2] ∧ SliceAt tGPost K' a_1 n_2 c_3 r := by
 rw [M.impl_SegPosts] at hm
 refine calls_in Tryz.func13 rfl Tryz.ntmps13 rfl (sr (bx rfl hS fun aH bE aI => ?_))
 have aJ : SH _ _ _ _ _ [obj aH [.slice y A B, .slice C D G] 26] := aI
 refine bx rfl aJ fun aw bF aK => ?_
 have aL : SH _ _ _ _ _ [obj aw [.slice H I J, .slice O R S] 30, _] := aK
 refine lv (rv_assign (v := .slice none 0 0) rfl) (nr (b0 tGPost Tryz.underlying37 tf42 aL fun ax bG bH o ay ab => (av rfl (nsr (lv (rv_loadmS (ds := [.slice y A B, .slice C D G]) tf26 rfl m2 ab rfl rfl) (lv (rv_loadmS (ds := [.slice H I J, .slice O R S]) tf30 rfl m1 ab rfl rfl) ?_))))))
 obtain ⟨bI, aM, aN⟩ := ob hm
 refine lc (vs := [.agg #[.slice y A B, .slice C D G], .agg #[.slice H I J, .slice O R S]]) co12 ((ok_impl_SegOk F) ab.enter0 (aD.mono o) (aE.mono o) (ar.mono o) (au.mono o) aM) ?_
 rintro bJ bK ⟨aO, rfl, T⟩
 refine ⟨_, rfl, ?_⟩
 have az := (ab.c0 T).t3
 refine lv (rv_not rfl) (nq (wcc aN rfl (fun aP ai => ?_) (fun aP ai => ?_)))
 ·refine sr (mv rfl (av rfl (nq (rr ?_))))
  obtain rfl := oi ai
  have aQ := az.sb (sk (sd (sd sz)))
  exact er Tryz.results13 ⟨rfl, trivial⟩ ⟨ax, 0, 0, aO, rfl, aQ, (ay.mono T.le)⟩
 refine wc_skip (qs (sr (mv rfl (mv rfl ?_))))
 obtain ⟨aR, aS, aT⟩ := ob ai
 have aA := az.f1
 refine lc (vs := [pt aw, sv p2_field, sv p3_term]) co44 ((ok_impl_Seg_posts F) aA.e1 (ar.mono (o.trans T.le)) (au.mono (o.trans T.le)) aF aG aS) ?_
 rintro bL bM ⟨aU, aV, aW, aj, rfl, aB, ak⟩
 refine ⟨_, rfl, ?_⟩
 have aX := (aA.c1 aB).t3
 refine lv (rv_len (t := tGPost) Tryz.underlying37 rfl ak) (lv (rv_move (v := .int .i64 0) rfl) (nq ?_))
 obtain ⟨aY, aZ, a0⟩ := ob aT
 refine wc_cutg (fun E' w' => ∃ U V W X, E' = [(9, .slice U V W)] ∧ SH w K [] w' X [tail (.slice U V W) 42 2] ∧ KLe aj X ∧ SliceAt tGPost X U V W aY) ?_ ?_
 ·refine wc_block ?_
  obtain ⟨bN, a2, a3⟩ := ob aZ
  have a4 := aX.sb (sd (sk (sd sz)))
  refine qF (fun (aC : Nat) (am : (List GPost)) E' w' => ∃ q s x d, E' = [(9, .slice q s x), (20, .slice aU aV aW), (21, .int .i64 (aR.length : Int)), (22, .int .i64 ((aC : Nat) : Int))] ∧ SH w K [] w' d [tail (.slice q s x) 42 2] ∧ KLe aj d ∧ SliceAt tGPost d q s x am) a2 ⟨ax, 0, 0, aj, rfl, a4, (KLe.refl _), (ay.mono (T.le.trans aB.le))⟩ ?_ ?_
  ·rintro aC am _ a6 bO hi83 a7 ⟨q, s, x, d, rfl, ac, ad, an⟩
   refine sr (lv (rv_lss rfl rfl) (ns (wc_cond_t rfl (decide_eq_true (by omega)) (wc_skip (qe_seq (wc_seq (wc_block (sr ?_))))))))
   obtain ⟨a, a8, ba⟩ := ob a7
   refine li Tryz.underlying37 tf42 (ak.mono ad) a8 fun bb bc bP bd be => ?_
   obtain ⟨f, k, l, rfl, bf, bg⟩ := bd
   have bh : AtK _ bb bc [.int .i64 a.Doc, .slice f k l] := be
   refine lv (rv_loadS (cs := [.int .i64 a.Doc, .slice f k l]) tf42 rfl ac bh rfl) (al tf42 ac fun ae bQ bi => ?_)
   have bj : SH _ _ _ _ _ [obj ae [.int .i64 0, .slice none 0 0] 42, _] := bi
   refine ls [.int .i64 a.Doc, .slice f k l] (.agg #[.int .i64 a.Doc, .slice f k l]) tf42 bj fun bR bk => (nq (wc_held (fun w' => Holds d w' ∧ HasObj ae [.int .i64 a.Doc, .slice f k l] w') (fun w' => True) 11 [] mixed ?_))
   have b := bk.drew
   refine wg_val (i := 0) (listed' := #[true, false, false, false, false, false, false, false, false, false, false]) (fun _ => True) rfl (by kernel_rfl) (pk_block (pk_then (pk_then (pk_block (pk_then (pk_then pk_body)))))) (by kernel_rfl) rfl (by kernel_rfl) (by kernel_rfl) rfl (.inl fun _ _ => trivial) ⟨⟨b.hasK (KLe.refl _), b.hasObj m0⟩, (fun _ => trivial), by decide⟩ wn rfl (fun _ _ => (rv_move rfl)) (wg_val (i := 1) (listed' := #[true, true, false, false, false, false, false, false, false, false, false]) (fun _ => True) rfl (by kernel_rfl) (pk_block (pk_then (pk_then (pk_block (pk_then (pk_then pk_body)))))) (by kernel_rfl) rfl (by kernel_rfl) (by kernel_rfl) rfl (.inl fun _ _ => trivial) ⟨⟨b.hasK (KLe.refl _), b.hasObj m0⟩, (fun _ => trivial), by decide⟩ wn rfl (fun _ _ => (rv_fieldAddr ff42_0 rfl)) (wg_val (i := 2) (listed' := #[true, true, true, false, false, false, false, false, false, false, false]) (HasObj ae [.int .i64 a.Doc, .slice f k l]) rfl (by kernel_rfl) (pk_block (pk_then (pk_then (pk_block (pk_then (pk_then pk_body)))))) (by kernel_rfl) rfl (by kernel_rfl) (by kernel_rfl) rfl (.inl fun _ h => h.2) ⟨⟨b.hasK (KLe.refl _), b.hasObj m0⟩, (fun _ => trivial), by decide⟩ wn rfl (fun _ h => rh_loadm1 tf3 rfl rfl h) ?_))
   refine wg_val (i := 4) (listed' := #[true, true, true, false, true, false, false, false, false, false, false]) (fun _ => True) rfl (by kernel_rfl) (pk_block (pk_then (pk_then (pk_block (pk_then (pk_then pk_body)))))) (by kernel_rfl) rfl (by kernel_rfl) (by kernel_rfl) rfl (.inl fun _ _ => trivial) ⟨⟨b.hasK (KLe.refl _), b.hasObj m0⟩, (fun _ => trivial), by decide⟩ wn rfl (fun _ _ => (rv_fieldAddr ff42_1 rfl)) (wg_val (i := 5) (listed' := #[true, true, true, false, true, true, false, false, false, false, false]) (HasObj ae [.int .i64 a.Doc, .slice f k l]) rfl (by kernel_rfl) (pk_block (pk_then (pk_then (pk_block (pk_then (pk_then pk_body)))))) (by kernel_rfl) rfl (by kernel_rfl) (by kernel_rfl) rfl (.inl fun _ h => h.2) ⟨⟨b.hasK (KLe.refl _), b.hasObj m0⟩, (fun _ => trivial), by decide⟩ wn rfl (fun _ h => rh_loadm1 tf39 rfl rfl h) (wg_one (i := 3) (by kernel_rfl) rfl (b0 tInt Tryz.underlying39 tf3 b fun bS bT bU c bl ao => (wl_nil (qe_held (listed' := #[true, true, true, true, true, true, false, false, false, false, false]) rfl ⟨⟨ao.hasK c, ao.hasObj m1⟩, (fun _ => trivial), by decide⟩ (wg_one (i := 6) (by kernel_rfl) rfl ?_))))))
   obtain ⟨bm, bn, bo⟩ := ob ba
   refine lp Tryz.underlying39 tf3 bl (bg.mono c) bn ao fun af ag ah bV bW m bp Y => (wl_nil (qe_held (listed' := #[true, true, true, true, true, true, true, false, false, false, false]) rfl ⟨⟨Y.hasK (c.trans m), Y.hasObj m1⟩, (fun _ => trivial), by decide⟩ (wg_val (i := 7) (listed' := #[true, true, true, true, true, true, true, true, false, false, false]) (fun _ => True) rfl (by kernel_rfl) (pk_block (pk_then (pk_then (pk_block (pk_then (pk_then pk_body)))))) (by kernel_rfl) rfl (by kernel_rfl) (by kernel_rfl) rfl (.inl fun _ _ => trivial) ⟨⟨Y.hasK (c.trans m), Y.hasObj m1⟩, (fun _ => trivial), by decide⟩ wn rfl (fun _ _ => (rv_build (cs := #[.int .i64 a.Doc, .slice af ag ah]) sp42 tf42 rfl (by kernel_rfl))) (wg_one (i := 8) (by kernel_rfl) rfl (lb tGPost (.agg #[.int .i64 a.Doc, .slice af ag ah]) [.int .i64 a.Doc, .slice af ag ah] (GPost.mk a.Doc bm) Tryz.underlying37 tf42 ⟨af, ag, ah, rfl, bf, bp⟩ Y fun bX bY bZ Z bq ap => (wl_nil (qe_held (listed' := #[true, true, true, true, true, true, true, true, true, false, false]) rfl ⟨⟨ap.hasK ((c.trans m).trans Z), ap.hasObj m2⟩, (fun _ => trivial), by decide⟩ (wg_one (i := 9) (by kernel_rfl) rfl ?_))))))))
   obtain ⟨b1, br, bs⟩ := ob bo
   refine lp Tryz.underlying37 tf42 (an.mono ((c.trans m).trans Z)) bq br ap.f3 fun bt bu bv b2 bw aq bz aa => (wl_nil (qe_held (listed' := #[true, true, true, true, true, true, true, true, true, true, false]) rfl ⟨⟨aa.hasK (((c.trans m).trans Z).trans aq), aa.hasObj m3⟩, (fun _ => trivial), by decide⟩ (wg_val (i := 10) (listed' := #[true, true, true, true, true, true, true, true, true, true, true]) (fun _ => True) rfl (by kernel_rfl) (pk_block (pk_then (pk_then (pk_block (pk_then (pk_then pk_body)))))) (by kernel_rfl) rfl (by kernel_rfl) (by kernel_rfl) rfl (.inl fun _ _ => trivial) ⟨⟨aa.hasK (((c.trans m).trans Z).trans aq), aa.hasObj m3⟩, (fun _ => trivial), by decide⟩ wn rfl (fun _ _ => (rv_assign rfl)) (wg_done (by kernel_rfl) (qe_block (qg (lv (rv_add_to rfl rfl (w64_succ hi83 (SliceAt.max ak))) (mv rfl (wl_nil ?_)))))))))
   obtain rfl := oi bs
   have bA := aa.sb (sk (sd (sd (sd sz))))
   exact qd ⟨bt, bu, bv, bw, rfl, bA, ((((ad.trans c).trans m).trans Z).trans aq), bz⟩
  rintro am _ a6 bB ⟨q, s, x, d, rfl, ac, ad, an⟩
  subst bB
  refine sr (lv (rv_lss rfl rfl) (ns (wc_cond_f rfl (decide_eq_false (by omega)) (wc_exit (qe_then_exit (qe_then_exit (qe_block_eq ?_)))))))
  obtain rfl := oi a3
  exact qd ⟨q, s, x, d, rfl, ac, ad, an⟩
 rintro _ b3 ⟨U, V, W, X, rfl, bC, b4, bD⟩
 refine qr (mv rfl (av rfl (nq (wc_ret ?_))))
 obtain rfl := oi a0
 exact er Tryz.results13 ⟨rfl, trivial⟩ ⟨U, V, W, X, rfl, bC, bD⟩

theorem ok_laws_foAt (F : Nat) {w : World} {K : KMap} {i : Option Addr} {k l : Nat} {p0_list : List GPost} {p1_id : Int} {r : (List Int)} (hS : SH w K [] w K []) (m : SliceAt tGPost K i k l p0_list) (ap : rng64 p1_id) (hm : M.laws_foAt F p0_list p1_id = some r) :
  Calls Tryz.prog 32 #[.slice i k l, .int .i64 p1_id] w fun e w' => ∃ (a_1 : Option Addr) (n_2 c_3 : Nat) (K' : KMap), e = .returned (.slice a_1 n_2 c_3) ∧ SH w K [] w' K' [] ∧ SliceAt tInt K' a_1 n_2 c_3 r := by
 rw [M.laws_foAt] at hm
 refine calls_in Tryz.func32 rfl Tryz.ntmps32 rfl (sr (lv (rv_assign (v := .slice none 0 0) rfl) (nsr (lv (rv_assign (v := .int .i64 0) rfl) (nq ?_)))))
 obtain ⟨G, H, d⟩ := ob hm
 refine wc_cutg (fun E' w' => ∃ x f, G = .inl x ∧ E' = [] ∧ SH w K [] w' f [] ∧ KLe K f) ?_ ?_
 ·refine wc_block ?_
  obtain ⟨aq, I, y⟩ := ob H
  refine qw (fun (o : Int) E' w' => ∃ a, E' = [(0, .slice i k l), (1, .int .i64 p1_id), (5, .int .i64 o)] ∧ SH w K [] w' a [] ∧ KLe K a ∧ rng64 o) I ⟨K, rfl, hS, (KLe.refl _), (by decide : rng64 0)⟩ ?_
  rintro o _ ar au J A ⟨a, rfl, b, c, aw⟩
  refine wc_seq (sr (mv rfl (mv rfl (lv (rv_len (t := tGPost) Tryz.underlying37 rfl (m.mono c)) (lv (rv_lss rfl rfl) (nq (wcc J rfl (fun O q => ?_) (fun O q => ?_))))))))
  ·refine wc_skip (qs (wc_block (sr (mv rfl (mv rfl ?_)))))
   obtain ⟨R, S, T⟩ := ob q
   refine li Tryz.underlying37 tf42 (m.mono c) S fun U V ax W X => ?_
   obtain ⟨Y, Z, aa, rfl, ay, az⟩ := W
   have ab : AtK _ U V [.int .i64 R.Doc, .slice Y Z aa] := X
   refine fa ff42_0 rfl (lv (rv_load1 tf3 rfl b (ab 0 _ rfl)) (mv rfl (lv (rv_eql rfl rfl) (nq (wcc T rfl (fun ac s => ?_) (fun ac s => ?_))))))
   ·refine sr (mv rfl (mv rfl ?_))
    obtain ⟨ad, ae, af⟩ := ob s
    refine li Tryz.underlying37 tf42 (m.mono c) ae fun ag ah aA ai aj => ?_
    obtain ⟨B, C, D, rfl, aB, ak⟩ := ai
    have al : AtK _ ag ah [.int .i64 ad.Doc, .slice B C D] := aj
    refine fa ff42_1 rfl (lv (rv_load1 tf39 rfl b (al 1 _ rfl)) (av rfl (nq (wc_ret (qe_block_ret (qe_then_ret (qe_then_ret ?_)))))))
    obtain rfl := oi af
    have am := A _ rfl
    subst am
    refine qe_block_ret (qe_then_ret ?_)
    obtain rfl := oi y
    refine qe_then_ret ?_
    obtain rfl := oi d
    exact er Tryz.results32 ⟨rfl, trivial⟩ ⟨B, C, D, a, rfl, b, ak⟩
   refine wc_skip (qe_block (qe_seq (wc_region (mv rfl (lv (rv_add rfl rfl) (av rfl (wl_nil ?_)))))))
   obtain rfl := oi s
   exact qd ⟨_, rfl, a, rfl, b, c, (w64_rng _)⟩
  refine wc_exit (qe_then_exit (qe_then_exit ?_))
  obtain rfl := oi q
  have an := A _ rfl
  subst an
  refine qe_block_eq ?_
  obtain rfl := oi y
  exact qe_mid' ⟨_, a, rfl, rfl, b, c⟩ trivial
 rintro _ aC ⟨x, f, rfl, rfl, ao, aD⟩
 have d := elim_l d
 refine qr (lv (rv_assign (v := .slice none 0 0) rfl) (nq (wc_ret ?_)))
 obtain rfl := oi d
 exact er Tryz.results32 ⟨rfl, trivial⟩ ⟨none, 0, 0, f, rfl, ao, (SliceAt.nil _ _)⟩

theorem ok_impl_SegLong (F : Nat) {w : World} {K : KMap} {a : Option Addr} {b c : Nat} {d : Option Addr} {f i : Nat} {k : Option Addr} {l m : Nat} {o : Option Addr} {q s : Nat} {p0_c : GConf} {p1_s : GSeg} {p2_field : Str} {p3_id : Int} {r : Int} (hS : SH w K [] w K []) (C : SliceAt tStr K a b c p0_c.Stops) (D : SliceAt tGSyn K d f i p0_c.Syns) (G : SliceAt tGDoc K k l m p1_s.Docs) (H : SliceAt tGEntry K o q s p1_s.Entries) (J : p2_field.length ≤ maxLen) (O : rng64 p3_id) (hm : M.impl_SegLong F p0_c p1_s p2_field p3_id = some r) :
  Calls Tryz.prog 45 #[.agg #[.slice a b c, .slice d f i], .agg #[.slice k l m, .slice o q s], sv p2_field, .int .i64 p3_id] w fun e w' => ∃ (K' : KMap), e = .returned (.int .i64 r) ∧ SH w K [] w' K' [] ∧ rng64 r := by
 rw [M.impl_SegLong] at hm
 refine calls_in Tryz.func45 rfl Tryz.ntmps45 rfl (sr (bx rfl hS fun R ah S => ?_))
 have T : SH _ _ _ _ _ [obj R [.slice a b c, .slice d f i] 26] := S
 refine bx rfl T fun I ai U => ?_
 have y : SH _ _ _ _ _ [obj I [.slice k l m, .slice o q s] 30, _] := U
 refine lv (rv_assign (v := .int .i64 0) rfl) (nsr (lv (rv_loadmS (ds := [.slice a b c, .slice d f i]) tf26 rfl m1 y rfl rfl) (lv (rv_loadmS (ds := [.slice k l m, .slice o q s]) tf30 rfl m0 y rfl rfl) ?_)))
 obtain ⟨aj, V, W⟩ := ob hm
 refine lc (vs := [.agg #[.slice a b c, .slice d f i], .agg #[.slice k l m, .slice o q s]]) co12 ((ok_impl_SegOk F) y.enter0 C D G H V) ?_
 rintro ak al ⟨X, rfl, x⟩
 refine ⟨_, rfl, ?_⟩
 have A := (y.c0 x).t2
 refine lv (rv_not rfl) (nq (wcc W rfl (fun Y B => ?_) (fun Y B => ?_)))
 ·refine sr (lv (rv_assign (v := .int .i64 (-1)) rfl) (nq (rr ?_)))
  obtain rfl := oi B
  have Z := A.sb (sd (sd sz))
  exact er Tryz.results45 ⟨rfl, trivial⟩ ⟨X, rfl, Z, (by decide : rng64 (-1))⟩
 refine wc_skip (qr (lv (rv_loadmS (ds := [.slice a b c, .slice d f i]) tf26 rfl m1 A rfl rfl) (mv rfl (mv rfl ?_))))
 obtain ⟨am, aa, ab⟩ := ob B
 refine lc (vs := [pt I, .agg #[.slice a b c, .slice d f i], sv p2_field, .int .i64 p3_id]) co96 ((ok_impl_Seg_long F) A.e1 (G.mono x.le) (H.mono x.le) (C.mono x.le) (D.mono x.le) J O aa) ?_
 rintro an ao ⟨ac, rfl, ad, ae⟩
 refine ⟨_, rfl, ?_⟩
 have af := (A.c1 ad).t2
 refine av rfl (nq (wc_ret ?_))
 obtain rfl := oi ab
 have ag := af.sb (sd (sd sz))
 exact er Tryz.results45 ⟨rfl, trivial⟩ ⟨ac, rfl, ag, ae⟩

set_option maxHeartbeats 2000000 in
theorem ok_laws_foPoints (F : Nat) {w : World} {K : KMap} {y : Option Addr} {A B : Nat} {C : Option Addr} {D G : Nat} {k : Option Addr} {m o : Nat} {q : Option Addr} {s x : Nat} {p0_c : GConf} {p1_s : GSeg} {p2_field : Str} {p3_term : Str} {p4_id : Int} {r : Int} (hS : SH w K [] w K []) (ae : SliceAt tStr K y A B p0_c.Stops) (af : SliceAt tGSyn K C D G p0_c.Syns) (S : SliceAt tGDoc K k m o p1_s.Docs) (ag : SliceAt tGEntry K q s x p1_s.Entries) (ah : p2_field.length ≤ maxLen) (a4 : p3_term.length ≤ maxLen) (aA : rng64 p4_id) (hm : M.laws_foPoints F p0_c p1_s p2_field p3_term p4_id = some r) :
  Calls Tryz.prog 14 #[.agg #[.slice y A B, .slice C D G], .agg #[.slice k m o, .slice q s x], sv p2_field, sv p3_term, .int .i64 p4_id] w fun e w' => ∃ (K' : KMap), e = .returned (.int .i64 r) ∧ SH w K [] w' K' [] ∧ rng64 r := by
 rw [M.laws_foPoints] at hm
 refine calls_in Tryz.func14 rfl Tryz.ntmps14 rfl (sr (bx rfl hS fun Z cd a6 => ?_))
 have a7 : SH _ _ _ _ _ [obj Z [.slice y A B, .slice C D G] 26] := a6
 refine bx rfl a7 fun V ce a8 => ?_
 have au : SH _ _ _ _ _ [obj V [.slice k m o, .slice q s x] 30, _] := a8
 refine lv (rv_assign (v := .int .i64 0) rfl) (nr (lv (rv_loadmS (ds := [.slice y A B, .slice C D G]) tf26 rfl m1 au rfl rfl) (lv (rv_loadmS (ds := [.slice k m o, .slice q s x]) tf30 rfl m0 au rfl rfl) (mv rfl (mv rfl ?_)))))
 obtain ⟨aB, ba, bb⟩ := ob hm
 refine lc (vs := [.agg #[.slice y A B, .slice C D G], .agg #[.slice k m o, .slice q s x], sv p2_field, sv p3_term]) co13 ((ok_impl_SegPosts F) au.enter0 ae af S ag ah a4 ba) ?_
 rintro cf w32 ⟨aC, aD, aE, cg, rfl, c, ai⟩
 refine ⟨_, rfl, ?_⟩
 have aP := (au.c0 c).t3
 refine av rfl (nr (mv rfl (mv rfl ?_)))
 obtain ⟨aF, bc, bd⟩ := ob bb
 refine lc (vs := [.slice aC aD aE, .int .i64 p4_id]) co32 ((ok_laws_foAt F) aP.enter0 ai aA bc) ?_
 rintro ch ci ⟨aQ, aR, aS, aw, rfl, b, aj⟩
 refine ⟨_, rfl, ?_⟩
 have aT := (aP.c0 b).t3
 refine av rfl (nsr (mv rfl (lv (rv_len (t := tInt) Tryz.underlying39 rfl aj) (lv (rv_eql rfl rfl) (nq (wcc bd rfl (fun be aG => ?_) (fun be aG => ?_)))))))
 ·refine sr (lv (rv_assign (v := .int .i64 0) rfl) (nq (rr ?_)))
  obtain rfl := oi aG
  have bf := aT.sb (sd (sd (sd sz)))
  exact er Tryz.results14 ⟨rfl, trivial⟩ ⟨aw, rfl, bf, (by decide : rng64 0)⟩
 refine wc_skip (qr (lv (rv_assign (v := .int .i64 0) rfl) (nsr (lv (rv_assign (v := .int .i64 0) rfl) (nq ?_)))))
 obtain ⟨ak, bg, bh⟩ := ob aG
 refine wc_cutg (fun E' w' => ∃ am, E' = [(2, sv p2_field), (4, .int .i64 p4_id), (5, pt Z), (6, pt V), (11, .slice aC aD aE), (12, .slice aQ aR aS), (13, .int .i64 ak)] ∧ SH w K [] w' am [obj Z [.slice y A B, .slice C D G] 26, obj V [.slice k m o, .slice q s x] 30] ∧ KLe aw am ∧ rng64 ak) ?_ ?_
 ·refine wc_block ?_
  obtain ⟨cj, bi, bj⟩ := ob bg
  have bk := aT.f1.f2.sb (sk (sk (sd sz)))
  refine qw (fun (an : Int × Int) E' w' => ∃ ax, E' = [(2, sv p2_field), (4, .int .i64 p4_id), (5, pt Z), (6, pt V), (11, .slice aC aD aE), (12, .slice aQ aR aS), (13, .int .i64 an.1), (14, .int .i64 an.2)] ∧ SH w K [] w' ax [obj Z [.slice y A B, .slice C D G] 26, obj V [.slice k m o, .slice q s x] 30] ∧ KLe aw ax ∧ rng64 an.1 ∧ rng64 an.2) bi ⟨aw, rfl, bk, (KLe.refl _), (by decide : rng64 0), (by decide : rng64 0)⟩ ?_
  rintro an _ ck cl bl bm ⟨ax, rfl, ay, O, bn, cm⟩
  refine wc_seq (sr (mv rfl (fa ff30_0 rfl (lv (rv_loadm1 tf27 rfl m1 ay rfl) (lv (rv_len (t := tGDoc) Tryz.underlying27 rfl (S.mono ((c.le.trans b.le).trans O))) (lv (rv_lss rfl rfl) (nq (wcc bl rfl (fun bo aH => ?_) (fun bo aH => ?_)))))))))
  ·refine wc_skip (qs (wc_block (wc_quiet mixed (by kernel_rfl) ay (km rfl (kh (rq_loadmS (ds := [.slice y A B, .slice C D G]) tf26 rfl m0 rfl rfl) (kh (rq_loadmS (ds := [.slice k m o, .slice q s x]) tf30 rfl m1 rfl rfl) (km rfl (kv (rv_fieldAddr ff30_0 rfl) (kh (rq_loadm1 tf27 rfl m1 rfl) ?_)))))))))
   refine km rfl ?_
   obtain ⟨aU, bp, bq⟩ := ob aH
   refine ki Tryz.underlying27 tf71 (S.mono ((c.le.trans b.le).trans O)) bp fun br bs cn bt bu => ?_
   obtain ⟨bv, bw, bz, bA, bB, bC, rfl, aV, cp, cq⟩ := bt
   have bD : AtK _ br bs [.int .i64 aU.Id, .slice bv bw bz, .slice bA bB bC] := bu
   refine kv (rv_fieldAddr ff71_0 rfl) (kh (rq_load1 tf3 rfl (bD 0 _ rfl)) ?_)
   obtain ⟨bE, aW, bF⟩ := ob bq
   refine wq_call (v := .int .i64 bE) wn rfl (fun _ => rt_call (vs := [.agg #[.slice y A B, .slice C D G], .agg #[.slice k m o, .slice q s x], sv p2_field, .int .i64 aU.Id]) co45 rfl) (fun cr ⟨cs, aX, ao⟩ => ((ok_impl_SegLong F) aX.enter0 (SliceAt.mono (((c.le.trans b.le).trans O).trans ao) ae) (SliceAt.mono (((c.le.trans b.le).trans O).trans ao) af) (SliceAt.mono (((c.le.trans b.le).trans O).trans ao) S) (SliceAt.mono (((c.le.trans b.le).trans O).trans ao) ag) ah aV aW).mono fun e w' ⟨K', he, hS', _⟩ => ⟨he, K', aX.call0 hS', ao.trans hS'.le⟩) ?_
   obtain ⟨_, _, _, ⟨_, _, _, ct⟩, _⟩ := (ok_impl_SegLong F) ay.enter0 (ae.mono ((c.le.trans b.le).trans O)) (af.mono ((c.le.trans b.le).trans O)) (S.mono ((c.le.trans b.le).trans O)) (ag.mono ((c.le.trans b.le).trans O)) ah aV aW []
   refine kv (rv_add rfl rfl) (kv (rv_assign rfl) (wq_nil ?_))
   rintro cu ⟨bG, bH, bI⟩
   refine qe_block (qe_seq (wc_region (mv rfl (lv (rv_add rfl rfl) (av rfl (wl_nil ?_))))))
   obtain rfl := oi bF
   exact qd ⟨_, rfl, bG, rfl, bH, (O.trans bI), (w64_rng _), (w64_rng _)⟩
  refine wc_exit (qe_then_exit (qe_then_exit ?_))
  obtain rfl := oi aH
  have bJ := bm _ rfl
  subst bJ
  refine qe_block_eq ?_
  obtain rfl := oi bj
  exact qd ⟨ax, rfl, ay, O, bn⟩
 rintro _ cv ⟨am, rfl, bK, d, aI⟩
 refine qs ?_
 obtain ⟨W, bL, bM⟩ := ob bh
 refine wc_cutg (fun E' w' => ∃ aJ aK, E' = [(15, pt aJ)] ∧ SH w K [] w' aK [obj aJ [.int .i64 W.Up, .int .i64 W.Down] 92] ∧ KLe am aK ∧ rng64 W.Up ∧ rng64 W.Down) ?_ ?_
 ·obtain ⟨aL, aY, bN⟩ := ob bL
  obtain ⟨R, aM, aN⟩ := ob bN
  refine wc_held (fun w' => Holds am w' ∧ HasObj Z [.slice y A B, .slice C D G] w' ∧ HasObj V [.slice k m o, .slice q s x] w') (fun w' => True) 20 [] mixed ?_
  have a := bK.drew
  refine wg_val (i := 0) (listed' := #[true, false, false, false, false, false, false, false, false, false, false, false, false, false, false, false, false, false, false, false]) (fun _ => True) rfl (by kernel_rfl) (pk_then (pk_then pk_body)) (by kernel_rfl) rfl (by kernel_rfl) (by kernel_rfl) rfl (.inl fun _ _ => trivial) ⟨⟨a.hasK (KLe.refl _), a.hasObj m0, a.hasObj m1⟩, (fun _ => trivial), by decide⟩ wn rfl (fun _ _ => (rv_move rfl)) (wg_val (i := 1) (listed' := #[true, true, false, false, false, false, false, false, false, false, false, false, false, false, false, false, false, false, false, false]) (fun _ => True) rfl (by kernel_rfl) (pk_then (pk_then pk_body)) (by kernel_rfl) rfl (by kernel_rfl) (by kernel_rfl) rfl (.inl fun _ _ => trivial) ⟨⟨a.hasK (KLe.refl _), a.hasObj m0, a.hasObj m1⟩, (fun _ => trivial), by decide⟩ wn rfl (fun _ _ => (rv_len (t := tInt) Tryz.underlying39 rfl (aj.mono d))) ?_)
  refine wg_val (i := 2) (listed' := #[true, true, true, false, false, false, false, false, false, false, false, false, false, false, false, false, false, false, false, false]) (HasObj Z [.slice y A B, .slice C D G]) rfl (by kernel_rfl) (pk_then (pk_then pk_body)) (by kernel_rfl) rfl (by kernel_rfl) (by kernel_rfl) rfl (.inl fun _ h => h.2.1) ⟨⟨a.hasK (KLe.refl _), a.hasObj m0, a.hasObj m1⟩, (fun _ => trivial), by decide⟩ wn rfl (fun _ h => rh_loadmS (ds := [.slice y A B, .slice C D G]) tf26 rfl rfl rfl h) (wg_val (i := 3) (listed' := #[true, true, true, true, false, false, false, false, false, false, false, false, false, false, false, false, false, false, false, false]) (HasObj V [.slice k m o, .slice q s x]) rfl (by kernel_rfl) (pk_then (pk_then pk_body)) (by kernel_rfl) rfl (by kernel_rfl) (by kernel_rfl) rfl (.inl fun _ h => h.2.2) ⟨⟨a.hasK (KLe.refl _), a.hasObj m0, a.hasObj m1⟩, (fun _ => trivial), by decide⟩ wn rfl (fun _ h => rh_loadmS (ds := [.slice k m o, .slice q s x]) tf30 rfl rfl rfl h) ?_)
  refine wg_val (i := 4) (listed' := #[true, true, true, true, true, false, false, false, false, false, false, false, false, false, false, false, false, false, false, false]) (fun _ => True) rfl (by kernel_rfl) (pk_then (pk_then pk_body)) (by kernel_rfl) rfl (by kernel_rfl) (by kernel_rfl) rfl (.inl fun _ _ => trivial) ⟨⟨a.hasK (KLe.refl _), a.hasObj m0, a.hasObj m1⟩, (fun _ => trivial), by decide⟩ wn rfl (fun _ _ => (rv_move rfl)) (wg_val (i := 5) (listed' := #[true, true, true, true, true, true, false, false, false, false, false, false, false, false, false, false, false, false, false, false]) (fun _ => True) rfl (by kernel_rfl) (pk_then (pk_then pk_body)) (by kernel_rfl) rfl (by kernel_rfl) (by kernel_rfl) rfl (.inl fun _ _ => trivial) ⟨⟨a.hasK (KLe.refl _), a.hasObj m0, a.hasObj m1⟩, (fun _ => trivial), by decide⟩ wn rfl (fun _ _ => (rv_move rfl)) (wg_val (i := 7) (listed' := #[true, true, true, true, true, true, false, true, false, false, false, false, false, false, false, false, false, false, false, false]) (fun _ => True) rfl (by kernel_rfl) (pk_then (pk_then pk_body)) (by kernel_rfl) rfl (by kernel_rfl) (by kernel_rfl) rfl (.inl fun _ _ => trivial) ⟨⟨a.hasK (KLe.refl _), a.hasObj m0, a.hasObj m1⟩, (fun _ => trivial), by decide⟩ wn rfl (fun _ _ => (rv_move rfl)) ?_))
  refine wg_val (i := 8) (listed' := #[true, true, true, true, true, true, false, true, true, false, false, false, false, false, false, false, false, false, false, false]) (fun _ => True) rfl (by kernel_rfl) (pk_then (pk_then pk_body)) (by kernel_rfl) rfl (by kernel_rfl) (by kernel_rfl) rfl (.inl fun _ _ => trivial) ⟨⟨a.hasK (KLe.refl _), a.hasObj m0, a.hasObj m1⟩, (fun _ => trivial), by decide⟩ wn rfl (fun _ _ => (rv_fieldAddr ff30_0 rfl)) (wg_val (i := 9) (listed' := #[true, true, true, true, true, true, false, true, true, true, false, false, false, false, false, false, false, false, false, false]) (HasObj V [.slice k m o, .slice q s x]) rfl (by kernel_rfl) (pk_then (pk_then pk_body)) (by kernel_rfl) rfl (by kernel_rfl) (by kernel_rfl) rfl (.inl fun _ h => h.2.2) ⟨⟨a.hasK (KLe.refl _), a.hasObj m0, a.hasObj m1⟩, (fun _ => trivial), by decide⟩ wn rfl (fun _ h => rh_loadm1 tf27 rfl rfl h) ?_)
  refine wg_val (i := 10) (listed' := #[true, true, true, true, true, true, false, true, true, true, true, false, false, false, false, false, false, false, false, false]) (fun _ => True) rfl (by kernel_rfl) (pk_then (pk_then pk_body)) (by kernel_rfl) rfl (by kernel_rfl) (by kernel_rfl) rfl (.inl fun _ _ => trivial) ⟨⟨a.hasK (KLe.refl _), a.hasObj m0, a.hasObj m1⟩, (fun _ => trivial), by decide⟩ wn rfl (fun _ _ => (rv_len (t := tGDoc) Tryz.underlying27 rfl (S.mono ((c.le.trans b.le).trans d)))) (wg_val (i := 11) (listed' := #[true, true, true, true, true, true, false, true, true, true, true, true, false, false, false, false, false, false, false, false]) (fun _ => True) rfl (by kernel_rfl) (pk_then (pk_then pk_body)) (by kernel_rfl) rfl (by kernel_rfl) (by kernel_rfl) rfl (.inl fun _ _ => trivial) ⟨⟨a.hasK (KLe.refl _), a.hasObj m0, a.hasObj m1⟩, (fun _ => trivial), by decide⟩ wn rfl (fun _ _ => (rv_move rfl)) ?_)
  refine wg_val (i := 12) (listed' := #[true, true, true, true, true, true, false, true, true, true, true, true, true, false, false, false, false, false, false, false]) (fun _ => True) rfl (by kernel_rfl) (pk_then (pk_then pk_body)) (by kernel_rfl) rfl (by kernel_rfl) (by kernel_rfl) rfl (.inl fun _ _ => trivial) ⟨⟨a.hasK (KLe.refl _), a.hasObj m0, a.hasObj m1⟩, (fun _ => trivial), by decide⟩ wn rfl (fun _ _ => (rv_len (t := tGPost) Tryz.underlying37 rfl (ai.mono (b.le.trans d)))) (wg_many (l := [6, 17]) (by kernel_rfl) rfl ⟨⟨_, rfl, ?_⟩, ⟨_, rfl, ?_⟩, trivial⟩)
  ·refine lc (vs := [.agg #[.slice y A B, .slice C D G], .agg #[.slice k m o, .slice q s x], sv p2_field, .int .i64 p4_id]) co45 ((ok_impl_SegLong F) a.enter0 (ae.mono ((c.le.trans b.le).trans d)) (af.mono ((c.le.trans b.le).trans d)) (S.mono ((c.le.trans b.le).trans d)) (ag.mono ((c.le.trans b.le).trans d)) ah aA aY) ?_
   rintro cw cx ⟨cy, rfl, f, aZ⟩
   refine ⟨_, rfl, ?_⟩
   have ad := (a.c0 f).t2
   refine wl_nil (qe_held (listed' := #[true, true, true, true, true, true, true, true, true, true, true, true, true, false, false, false, false, false, false, false]) rfl ⟨⟨ad.hasK f.le, ad.hasObj m0, ad.hasObj m1⟩, (fun _ => trivial), by decide⟩ (wg_many (l := [13, 17]) (by kernel_rfl) rfl ⟨⟨_, rfl, ?_⟩, ⟨_, rfl, ?_⟩, trivial⟩))
   ·refine lc (vs := [.int .i64 (aF.length : Int), .int .i64 aL, .int .i64 ak, .int .i64 (p1_s.Docs.length : Int), .int .i64 (aB.length : Int)]) co46 ((ok_impl_TermScore F) ad.enter0 (rng_nat (SliceAt.max (aj.mono d))) aZ aI (rng_nat (SliceAt.max (S.mono ((c.le.trans b.le).trans d)))) (rng_nat (SliceAt.max (ai.mono (b.le.trans d)))) aM) ?_
    rintro cz cA ⟨bO, rfl, T, bP, bQ⟩
    refine ⟨_, rfl, ?_⟩
    have H := (ad.c0 T).t2
    refine wl_nil (qe_held (listed' := #[true, true, true, true, true, true, true, true, true, true, true, true, true, true, false, false, false, false, false, false]) rfl ⟨⟨H.hasK (f.le.trans T.le), H.hasObj m0, H.hasObj m1⟩, (fun _ => trivial), by decide⟩ (wg_val (i := 14) (listed' := #[true, true, true, true, true, true, true, true, true, true, true, true, true, true, true, false, false, false, false, false]) (fun _ => True) rfl (by kernel_rfl) (pk_then (pk_then pk_body)) (by kernel_rfl) rfl (by kernel_rfl) (by kernel_rfl) rfl (.inl fun _ _ => trivial) ⟨⟨H.hasK (f.le.trans T.le), H.hasObj m0, H.hasObj m1⟩, (fun _ => trivial), by decide⟩ wn rfl (fun _ _ => (rv_move rfl)) (wg_val (i := 15) (listed' := #[true, true, true, true, true, true, true, true, true, true, true, true, true, true, true, true, false, false, false, false]) (fun _ => True) rfl (by kernel_rfl) (pk_then (pk_then pk_body)) (by kernel_rfl) rfl (by kernel_rfl) (by kernel_rfl) rfl (.inl fun _ _ => trivial) ⟨⟨H.hasK (f.le.trans T.le), H.hasObj m0, H.hasObj m1⟩, (fun _ => trivial), by decide⟩ wn rfl (fun _ _ => (rv_extract rfl rfl)) ?_)))
    refine wg_val (i := 16) (listed' := #[true, true, true, true, true, true, true, true, true, true, true, true, true, true, true, true, true, false, false, false]) (fun _ => True) rfl (by kernel_rfl) (pk_then (pk_then pk_body)) (by kernel_rfl) rfl (by kernel_rfl) (by kernel_rfl) rfl (.inl fun _ _ => trivial) ⟨⟨H.hasK (f.le.trans T.le), H.hasObj m0, H.hasObj m1⟩, (fun _ => trivial), by decide⟩ wn rfl (fun _ _ => (rv_extract rfl rfl)) (wg_one (i := 17) (by kernel_rfl) rfl (al tf92 H fun a0 cB bR => ?_))
    have az : SH _ _ _ _ _ [obj a0 [.int .i64 0, .int .i64 0] 92, _, _] := bR
    refine wl_nil (qe_held (listed' := #[true, true, true, true, true, true, true, true, true, true, true, true, true, true, true, true, true, true, false, false]) rfl ⟨⟨az.hasK (f.le.trans T.le), az.hasObj m1, az.hasObj m2⟩, (fun _ => trivial), by decide⟩ (wg_one (i := 18) (by kernel_rfl) rfl (ls [.int .i64 R.1.Up, .int .i64 R.1.Down] (.agg #[.int .i64 R.1.Up, .int .i64 R.1.Down]) tf92 az fun cC aa => (wl_nil (qe_held (listed' := #[true, true, true, true, true, true, true, true, true, true, true, true, true, true, true, true, true, true, true, false]) rfl ⟨⟨aa.hasK (f.le.trans T.le), aa.hasObj m1, aa.hasObj m2⟩, (fun _ => trivial), by decide⟩ (wg_val (i := 19) (listed' := #[true, true, true, true, true, true, true, true, true, true, true, true, true, true, true, true, true, true, true, true]) (fun _ => True) rfl (by kernel_rfl) (pk_then (pk_then pk_body)) (by kernel_rfl) rfl (by kernel_rfl) (by kernel_rfl) rfl (.inl fun _ _ => trivial) ⟨⟨aa.hasK (f.le.trans T.le), aa.hasObj m1, aa.hasObj m2⟩, (fun _ => trivial), by decide⟩ wn rfl (fun _ _ => (rv_assign rfl)) (wg_done (by kernel_rfl) ?_)))))))
    obtain rfl := oi aN
    have bS := aa.sb (sk (sd (sd sz)))
    exact qd ⟨a0, bO, rfl, bS, (f.le.trans T.le), bP, bQ⟩
   refine al tf92 ad fun a2 cD bT => ?_
   have ap : SH _ _ _ _ _ [obj a2 [.int .i64 0, .int .i64 0] 92, _, _] := bT
   refine wl_nil (qe_held (listed' := #[true, true, true, true, true, true, true, true, true, true, true, true, true, false, false, false, false, true, false, false]) rfl ⟨⟨ap.hasK f.le, ap.hasObj m1, ap.hasObj m2⟩, (fun _ => trivial), by decide⟩ (wg_one (i := 13) (by kernel_rfl) rfl (lc (vs := [.int .i64 (aF.length : Int), .int .i64 aL, .int .i64 ak, .int .i64 (p1_s.Docs.length : Int), .int .i64 (aB.length : Int)]) co46 ((ok_impl_TermScore F) ap.enter0 (rng_nat (SliceAt.max (aj.mono d))) aZ aI (rng_nat (SliceAt.max (S.mono ((c.le.trans b.le).trans d)))) (rng_nat (SliceAt.max (ai.mono (b.le.trans d)))) aM) ?_)))
   rintro cE cF ⟨bU, rfl, X, bV, bW⟩
   refine ⟨_, rfl, ?_⟩
   have I := (ap.c0 X).t3
   refine wl_nil (qe_held (listed' := #[true, true, true, true, true, true, true, true, true, true, true, true, true, true, false, false, false, true, false, false]) rfl ⟨⟨I.hasK (f.le.trans X.le), I.hasObj m1, I.hasObj m2⟩, (fun _ => trivial), by decide⟩ (wg_val (i := 14) (listed' := #[true, true, true, true, true, true, true, true, true, true, true, true, true, true, true, false, false, true, false, false]) (fun _ => True) rfl (by kernel_rfl) (pk_then (pk_then pk_body)) (by kernel_rfl) rfl (by kernel_rfl) (by kernel_rfl) rfl (.inl fun _ _ => trivial) ⟨⟨I.hasK (f.le.trans X.le), I.hasObj m1, I.hasObj m2⟩, (fun _ => trivial), by decide⟩ wn rfl (fun _ _ => (rv_move rfl)) (wg_val (i := 15) (listed' := #[true, true, true, true, true, true, true, true, true, true, true, true, true, true, true, true, false, true, false, false]) (fun _ => True) rfl (by kernel_rfl) (pk_then (pk_then pk_body)) (by kernel_rfl) rfl (by kernel_rfl) (by kernel_rfl) rfl (.inl fun _ _ => trivial) ⟨⟨I.hasK (f.le.trans X.le), I.hasObj m1, I.hasObj m2⟩, (fun _ => trivial), by decide⟩ wn rfl (fun _ _ => (rv_extract rfl rfl)) ?_)))
   refine wg_val (i := 16) (listed' := #[true, true, true, true, true, true, true, true, true, true, true, true, true, true, true, true, true, true, false, false]) (fun _ => True) rfl (by kernel_rfl) (pk_then (pk_then pk_body)) (by kernel_rfl) rfl (by kernel_rfl) (by kernel_rfl) rfl (.inl fun _ _ => trivial) ⟨⟨I.hasK (f.le.trans X.le), I.hasObj m1, I.hasObj m2⟩, (fun _ => trivial), by decide⟩ wn rfl (fun _ _ => (rv_extract rfl rfl)) (wg_one (i := 18) (by kernel_rfl) rfl (ls [.int .i64 R.1.Up, .int .i64 R.1.Down] (.agg #[.int .i64 R.1.Up, .int .i64 R.1.Down]) tf92 I fun cG ab => (wl_nil (qe_held (listed' := #[true, true, true, true, true, true, true, true, true, true, true, true, true, true, true, true, true, true, true, false]) rfl ⟨⟨ab.hasK (f.le.trans X.le), ab.hasObj m1, ab.hasObj m2⟩, (fun _ => trivial), by decide⟩ (wg_val (i := 19) (listed' := #[true, true, true, true, true, true, true, true, true, true, true, true, true, true, true, true, true, true, true, true]) (fun _ => True) rfl (by kernel_rfl) (pk_then (pk_then pk_body)) (by kernel_rfl) rfl (by kernel_rfl) (by kernel_rfl) rfl (.inl fun _ _ => trivial) ⟨⟨ab.hasK (f.le.trans X.le), ab.hasObj m1, ab.hasObj m2⟩, (fun _ => trivial), by decide⟩ wn rfl (fun _ _ => (rv_assign rfl)) (wg_done (by kernel_rfl) ?_))))))
   obtain rfl := oi aN
   have bX := ab.sb (sk (sd (sd sz)))
   exact qd ⟨a2, bU, rfl, bX, (f.le.trans X.le), bV, bW⟩
  refine al tf92 a fun a3 cH bY => ?_
  have aq : SH _ _ _ _ _ [obj a3 [.int .i64 0, .int .i64 0] 92, _, _] := bY
  refine wl_nil (qe_held (listed' := #[true, true, true, true, true, true, false, true, true, true, true, true, true, false, false, false, false, true, false, false]) rfl ⟨⟨aq.hasK (KLe.refl _), aq.hasObj m1, aq.hasObj m2⟩, (fun _ => trivial), by decide⟩ (wg_one (i := 6) (by kernel_rfl) rfl (lc (vs := [.agg #[.slice y A B, .slice C D G], .agg #[.slice k m o, .slice q s x], sv p2_field, .int .i64 p4_id]) co45 ((ok_impl_SegLong F) aq.enter0 (ae.mono ((c.le.trans b.le).trans d)) (af.mono ((c.le.trans b.le).trans d)) (S.mono ((c.le.trans b.le).trans d)) (ag.mono ((c.le.trans b.le).trans d)) ah aA aY) ?_)))
  rintro cI cJ ⟨cK, rfl, U, bZ⟩
  refine ⟨_, rfl, ?_⟩
  have ar := (aq.c0 U).t3
  refine wl_nil (qe_held (listed' := #[true, true, true, true, true, true, true, true, true, true, true, true, true, false, false, false, false, true, false, false]) rfl ⟨⟨ar.hasK U.le, ar.hasObj m1, ar.hasObj m2⟩, (fun _ => trivial), by decide⟩ (wg_one (i := 13) (by kernel_rfl) rfl (lc (vs := [.int .i64 (aF.length : Int), .int .i64 aL, .int .i64 ak, .int .i64 (p1_s.Docs.length : Int), .int .i64 (aB.length : Int)]) co46 ((ok_impl_TermScore F) ar.enter0 (rng_nat (SliceAt.max (aj.mono d))) bZ aI (rng_nat (SliceAt.max (S.mono ((c.le.trans b.le).trans d)))) (rng_nat (SliceAt.max (ai.mono (b.le.trans d)))) aM) ?_)))
  rintro cL cM ⟨b0, rfl, Y, b1, b2⟩
  refine ⟨_, rfl, ?_⟩
  have J := (ar.c0 Y).t3
  refine wl_nil (qe_held (listed' := #[true, true, true, true, true, true, true, true, true, true, true, true, true, true, false, false, false, true, false, false]) rfl ⟨⟨J.hasK (U.le.trans Y.le), J.hasObj m1, J.hasObj m2⟩, (fun _ => trivial), by decide⟩ (wg_val (i := 14) (listed' := #[true, true, true, true, true, true, true, true, true, true, true, true, true, true, true, false, false, true, false, false]) (fun _ => True) rfl (by kernel_rfl) (pk_then (pk_then pk_body)) (by kernel_rfl) rfl (by kernel_rfl) (by kernel_rfl) rfl (.inl fun _ _ => trivial) ⟨⟨J.hasK (U.le.trans Y.le), J.hasObj m1, J.hasObj m2⟩, (fun _ => trivial), by decide⟩ wn rfl (fun _ _ => (rv_move rfl)) (wg_val (i := 15) (listed' := #[true, true, true, true, true, true, true, true, true, true, true, true, true, true, true, true, false, true, false, false]) (fun _ => True) rfl (by kernel_rfl) (pk_then (pk_then pk_body)) (by kernel_rfl) rfl (by kernel_rfl) (by kernel_rfl) rfl (.inl fun _ _ => trivial) ⟨⟨J.hasK (U.le.trans Y.le), J.hasObj m1, J.hasObj m2⟩, (fun _ => trivial), by decide⟩ wn rfl (fun _ _ => (rv_extract rfl rfl)) ?_)))
  refine wg_val (i := 16) (listed' := #[true, true, true, true, true, true, true, true, true, true, true, true, true, true, true, true, true, true, false, false]) (fun _ => True) rfl (by kernel_rfl) (pk_then (pk_then pk_body)) (by kernel_rfl) rfl (by kernel_rfl) (by kernel_rfl) rfl (.inl fun _ _ => trivial) ⟨⟨J.hasK (U.le.trans Y.le), J.hasObj m1, J.hasObj m2⟩, (fun _ => trivial), by decide⟩ wn rfl (fun _ _ => (rv_extract rfl rfl)) (wg_one (i := 18) (by kernel_rfl) rfl (ls [.int .i64 R.1.Up, .int .i64 R.1.Down] (.agg #[.int .i64 R.1.Up, .int .i64 R.1.Down]) tf92 J fun cN ac => (wl_nil (qe_held (listed' := #[true, true, true, true, true, true, true, true, true, true, true, true, true, true, true, true, true, true, true, false]) rfl ⟨⟨ac.hasK (U.le.trans Y.le), ac.hasObj m1, ac.hasObj m2⟩, (fun _ => trivial), by decide⟩ (wg_val (i := 19) (listed' := #[true, true, true, true, true, true, true, true, true, true, true, true, true, true, true, true, true, true, true, true]) (fun _ => True) rfl (by kernel_rfl) (pk_then (pk_then pk_body)) (by kernel_rfl) rfl (by kernel_rfl) (by kernel_rfl) rfl (.inl fun _ _ => trivial) ⟨⟨ac.hasK (U.le.trans Y.le), ac.hasObj m1, ac.hasObj m2⟩, (fun _ => trivial), by decide⟩ wn rfl (fun _ _ => (rv_assign rfl)) (wg_done (by kernel_rfl) ?_))))))
  obtain rfl := oi aN
  have b3 := ac.sb (sk (sd (sd sz)))
  exact qd ⟨a3, b0, rfl, b3, (U.le.trans Y.le), b1, b2⟩
 rintro _ cO ⟨aJ, aK, rfl, aO, cP, b4, b5⟩
 refine qr (lv (rv_loadmS (ds := [.int .i64 W.Up, .int .i64 W.Down]) tf92 rfl m0 aO rfl rfl) ?_)
 obtain ⟨cQ, b6, b7⟩ := ob bM
 refine lc (vs := [.agg #[.int .i64 W.Up, .int .i64 W.Down], .int .i64 1000]) co47 ((ok_impl_RatFloor F) aO.enter0 b4 b5 (by decide : rng64 1000) b6) ?_
 rintro cR cS ⟨b8, rfl, b9, ca⟩
 refine ⟨_, rfl, ?_⟩
 have cb := (aO.c0 b9).t1
 refine av rfl (nq (wc_ret ?_))
 obtain rfl := oi b7
 have cc := cb.sb (sd sz)
 exact er Tryz.results14 ⟨rfl, trivial⟩ ⟨b8, rfl, cc, ca⟩

set_option maxHeartbeats 2000000 in
theorem ok_impl_BoundAt (F : Nat) {w : World} {K : KMap} {f : Option Addr} {i k : Nat} {p0_blocks : List GBlock} {p1_id : Int} {r : Int} (hS : SH w K [] w K []) (c : SliceAt tGBlock K f i k p0_blocks) (aZ : rng64 p1_id) (hm : M.impl_BoundAt F p0_blocks p1_id = some r) :
  Calls Tryz.prog 15 #[.slice f i k, .int .i64 p1_id] w fun e w' => ∃ (K' : KMap), e = .returned (.int .i64 r) ∧ SH w K [] w' K' [] ∧ rng64 r := by
 rw [M.impl_BoundAt] at hm
 refine calls_in Tryz.func15 rfl Tryz.ntmps15 rfl (sr (lv (rv_assign (v := .int .i64 0) rfl) (nsr (lv (rv_assign (v := .int .i64 1) rfl) (nq ?_)))))
 obtain ⟨o6, h7, m⟩ := ob hm
 refine wc_cutg (fun E' w' => ∃ I d, o6 = .inl I ∧ E' = [(0, .slice f i k), (1, .int .i64 p1_id)] ∧ SH w K [] w' d [] ∧ KLe K d) ?_ ?_
 ·refine wc_block ?_
  obtain ⟨a0, ac, J⟩ := ob h7
  refine qw (fun (B : Int) E' w' => ∃ o, E' = [(0, .slice f i k), (1, .int .i64 p1_id), (5, .int .i64 B)] ∧ SH w K [] w' o [] ∧ KLe K o ∧ rng64 B) ac ⟨K, rfl, hS, (KLe.refl _), (by decide : rng64 1)⟩ ?_
  rintro B _ a2 a3 ad O ⟨o, rfl, R, l, a4⟩
  refine wc_seq (sr (mv rfl (mv rfl (lv (rv_len (t := tGBlock) Tryz.underlying33 rfl (c.mono l)) (lv (rv_lss rfl rfl) (nq (wcc ad rfl (fun ae C => ?_) (fun ae C => ?_))))))))
  ·refine wc_skip (qs (wc_block (wc_seq (wc_quiet mixed (by kernel_rfl) R (km rfl (km rfl (kv (rv_sub rfl rfl) ?_)))))))
   obtain ⟨S, af, ag⟩ := ob C
   refine ki Tryz.underlying33 tf45 (c.mono l) af fun ah ai a5 aj ak => ?_
   obtain ⟨rfl, a6, a7⟩ := aj
   have am : AtK _ ah ai [.int .i64 S.Last, .int .i64 S.Most] := ak
   refine kv (rv_fieldAddr ff45_0 rfl) (kh (rq_load1 tf3 rfl (am 0 _ rfl)) (km rfl (km rfl ?_)))
   obtain ⟨T, an, ao⟩ := ob ag
   refine ki Tryz.underlying33 tf45 (c.mono l) an fun ap aq a8 ar au => ?_
   obtain ⟨rfl, a9, ba⟩ := ar
   have aw : AtK _ ap aq [.int .i64 T.Last, .int .i64 T.Most] := au
   refine kv (rv_fieldAddr ff45_0 rfl) (kh (rq_load1 tf3 rfl (aw 0 _ rfl)) (kv (rv_geq rfl rfl) (wq_nil ?_)))
   rintro bb ⟨U, V, ax⟩
   refine qe_seq (wcc ao rfl (fun ay D => ?_) (fun ay D => ?_))
   ·refine sr (lv (rv_assign (v := .int .i64 (-1)) rfl) (nq (wc_ret (qe_block_ret (qe_then_ret (qe_then_ret ?_))))))
    obtain rfl := oi D
    have az := O _ rfl
    subst az
    refine qe_block_ret (qe_then_ret ?_)
    obtain rfl := oi J
    refine qe_then_ret ?_
    obtain rfl := oi m
    exact er Tryz.results15 ⟨rfl, trivial⟩ ⟨U, rfl, V, (by decide : rng64 (-1))⟩
   refine wc_skip (qe_block (qe_seq (wc_region (mv rfl (lv (rv_add rfl rfl) (av rfl (wl_nil ?_)))))))
   obtain rfl := oi D
   exact qd ⟨_, rfl, U, rfl, V, (l.trans ax), (w64_rng _)⟩
  refine wc_exit (qe_then_exit (qe_then_exit ?_))
  obtain rfl := oi C
  have aA := O _ rfl
  subst aA
  refine qe_block_eq ?_
  obtain rfl := oi J
  exact qd ⟨_, o, rfl, rfl, R, l⟩
 rintro _ bc ⟨I, d, rfl, rfl, aB, G⟩
 have m := elim_l m
 refine qs (sr (mv rfl (lv (rv_len (t := tGBlock) Tryz.underlying33 rfl (c.mono G)) (lv (rv_move (v := .int .i64 0) rfl) (nq ?_)))))
 obtain ⟨aC, aD, q⟩ := ob m
 refine wc_cutg (fun E' w' => ∃ W s, aC = .inl W ∧ E' = [] ∧ SH w K [] w' s [] ∧ KLe d s) ?_ ?_
 ·refine wc_block ?_
  obtain ⟨bd, aE, X⟩ := ob aD
  refine qf (fun (Y : Nat) (Z : Unit) E' w' => ∃ b, E' = [(1, .int .i64 p1_id), (26, .slice f i k), (27, .int .i64 (p0_blocks.length : Int)), (28, .int .i64 ((Y : Nat) : Int))] ∧ SH w K [] w' b [] ∧ KLe d b) aE ⟨d, rfl, aB, (KLe.refl _)⟩ ?_ ?_
  ·rintro Y Z _ aF be hi78 aG aH ⟨b, rfl, x, y⟩
   refine sr (lv (rv_lss rfl rfl) (ns (wc_cond_t rfl (decide_eq_true (by omega)) (wc_skip (qe_seq (wc_seq (wc_block (sr ?_))))))))
   obtain ⟨a, aI, aJ⟩ := ob aG
   refine li Tryz.underlying33 tf45 (c.mono (G.trans y)) aI fun aK aL bf aM aN => ?_
   obtain ⟨rfl, bg, aO⟩ := aM
   have aP : AtK _ aK aL [.int .i64 a.Last, .int .i64 a.Most] := aN
   refine lv (rv_loadS (cs := [.int .i64 a.Last, .int .i64 a.Most]) tf45 rfl x aP rfl) (al tf45 x fun aQ bh aR => ?_)
   have aS : SH _ _ _ _ _ [obj aQ [.int .i64 0, .int .i64 0] 45] := aR
   refine ls [.int .i64 a.Last, .int .i64 a.Most] (.agg #[.int .i64 a.Last, .int .i64 a.Most]) tf45 aS fun bi A => (nr (fa ff45_0 rfl (lv (rv_loadm1 tf3 rfl m0 A rfl) (mv rfl (lv (rv_geq rfl rfl) (nq (wcc aJ rfl (fun aT H => ?_) (fun aT H => ?_))))))))
   ·refine sr (fa ff45_1 rfl (lv (rv_loadm1 tf3 rfl m0 A rfl) (av rfl (nq (wc_ret (qe_block_ret (qe_then_ret (qe_then_ret ?_))))))))
    obtain rfl := oi H
    have aU := aH _ rfl
    subst aU
    refine qe_block_ret (qe_then_ret ?_)
    obtain rfl := oi X
    refine qe_then_ret ?_
    obtain rfl := oi q
    have aV := A.sb (sd sz)
    exact er Tryz.results15 ⟨rfl, trivial⟩ ⟨b, rfl, aV, aO⟩
   refine wc_skip (qe_block (qg (lv (rv_add_to rfl rfl (w64_succ hi78 (SliceAt.max (c.mono G)))) (mv rfl (wl_nil ?_)))))
   obtain rfl := oi H
   have aW := A.sb (sd sz)
   exact qd ⟨_, rfl, b, rfl, aW, y⟩
  rintro Z _ aF aX ⟨b, rfl, x, y⟩
  subst aX
  refine sr (lv (rv_lss rfl rfl) (ns (wc_cond_f rfl (decide_eq_false (by omega)) (wc_exit (qe_then_exit (qe_then_exit (qe_block_eq ?_)))))))
  obtain rfl := oi X
  exact qe_mid' ⟨_, b, rfl, rfl, x, y⟩ trivial
 rintro _ bj ⟨W, s, rfl, rfl, aY, bk⟩
 have q := elim_l q
 refine qr (lv (rv_assign (v := .int .i64 0) rfl) (nq (wc_ret ?_)))
 obtain rfl := oi q
 exact er Tryz.results15 ⟨rfl, trivial⟩ ⟨s, rfl, aY, (by decide : rng64 0)⟩

set_option maxHeartbeats 2000000 in
theorem ok_laws_FnBoundOf (F : Nat) {w : World} {K : KMap} {a1 : Option Addr} {n2 c3 : Nat} {p0_code : List UInt8} {r : Bool} (hS : SH w K [] w K []) (a6 : SliceAt tU8 K a1 n2 c3 p0_code) (hm : M.laws_FnBoundOf F p0_code = some r) :
  Calls Tryz.prog 3 #[.slice a1 n2 c3] w fun e w' => ∃ (K' : KMap), e = .returned (.bool r) ∧ SH w K [] w' K' [] := by
 rw [M.laws_FnBoundOf] at hm
 refine calls_in Tryz.func3 rfl Tryz.ntmps3 rfl (sr (lv (rv_assign (v := .bool false) rfl) (nsr (mv rfl (lv (rv_len (t := tU8) Tryz.underlying22 rfl a6) (lv (rv_gtr rfl rfl) (nq (wc_cond rfl (fun aO => ?_) (fun aO => ?_)))))))))
 ·have h6 := cond_t aO hm
  refine sr (lv (rv_assign (v := .bool true) rfl) (nq (rr ?_)))
  obtain rfl := oi h6
  exact er Tryz.results3 ⟨rfl, trivial⟩ ⟨K, rfl, hS⟩
 have h6 := cond_f aO hm
 refine wc_skip (qr (mv rfl ?_))
 obtain ⟨O, bw, h9⟩ := ob h6
 refine lc (vs := [.slice a1 n2 c3]) co8 ((ok_spec_DrawBoundOf F) hS.enter0 a6 bw) ?_
 rintro d4 d5 ⟨k, l, o, q, s, x, y, A, B, C, D, G, d6, rfl, bz, aa, ab, ac, ad, ai, aj⟩
 refine ⟨_, rfl, ?_⟩
 have bA := (hS.c0 bz).t3
 refine mv rfl (lv (rv_extract rfl rfl) (lv (rv_extract rfl rfl) (lv (rv_extract rfl rfl) (lv (rv_extract rfl rfl) (al tf26 bA fun an d7 bB => ?_)))))
 have bC : SH _ _ _ _ _ [obj an [.slice none 0 0, .slice none 0 0] 26, _, _, _] := bB
 refine al tf30 bC fun ao d8 bD => ?_
 have bE : SH _ _ _ _ _ [obj ao [.slice none 0 0, .slice none 0 0] 30, _, _, _, _] := bD
 refine ls [.slice k l o, .slice q s x] (.agg #[.slice k l o, .slice q s x]) tf26 bE.f1 fun d9 bF => (ls [.slice y A B, .slice C D G] (.agg #[.slice y A B, .slice C D G]) tf30 bF.f1 fun ea aB => (av rfl (av rfl (nr (lv (rv_loadmS (ds := [.slice k l o, .slice q s x]) tf26 rfl m1 aB rfl rfl) (lv (rv_loadmS (ds := [.slice y A B, .slice C D G]) tf30 rfl m0 aB rfl rfl) (mv rfl (mv rfl ?_))))))))
 obtain ⟨eb, bG, bH⟩ := ob h9
 refine lc (vs := [.agg #[.slice k l o, .slice q s x], .agg #[.slice y A B, .slice C D G], sv O.2.2.1, sv O.2.2.2]) co9 ((ok_impl_BoundOf F) aB.enter0 aa ab ac ad ai aj bG) ?_
 rintro ec ed ⟨S, T, U, bI, rfl, c, V⟩
 refine ⟨_, rfl, ?_⟩
 have aC := (aB.c0 c).t6
 refine av rfl (ns (wc_seq ?_))
 obtain ⟨bJ, bK, bL⟩ := ob bH
 refine wc_cutg (fun E' w' => ∃ aQ, E' = [(3, pt an), (4, pt ao), (5, sv O.2.2.1), (6, sv O.2.2.2), (7, .slice S T U), (41, .bool bJ)] ∧ SH w K [] w' aQ [obj an [.slice k l o, .slice q s x] 26, obj ao [.slice y A B, .slice C D G] 30] ∧ KLe bI aQ) ?_ ?_
 ·refine wc_region (mv rfl (lv (rv_loadmS (ds := [.slice k l o, .slice q s x]) tf26 rfl m2 aC rfl rfl) (lv (rv_loadmS (ds := [.slice y A B, .slice C D G]) tf30 rfl m1 aC rfl rfl) (mv rfl (mv rfl ?_)))))
  obtain ⟨ee, bM, bN⟩ := ob bK
  refine lc (vs := [.agg #[.slice k l o, .slice q s x], .agg #[.slice y A B, .slice C D G], sv O.2.2.1, sv O.2.2.2]) co11 ((ok_spec_BoundOf F) aC.enter0 (aa.mono c.le) (ab.mono c.le) (ac.mono c.le) (ad.mono c.le) ai aj bM) ?_
  rintro ef eg ⟨bO, bP, bQ, eh, rfl, W, bR⟩
  refine ⟨_, rfl, ?_⟩
  have a7 := (aC.c0 W).t7
  obtain ⟨bS, bT, a8⟩ := ob bN
  refine lc (vs := [.slice S T U, .slice bO bP bQ]) co10 ((ok_laws_foBlocks F) a7.enter0 (V.mono W.le) bR bT) ?_
  rintro ei ej ⟨bU, rfl, ae⟩
  refine ⟨_, rfl, ?_⟩
  have ap := (a7.c0 ae).t7
  refine lv (rv_not rfl) (mv rfl ?_)
  rcases bool_tf ((!bS)) with R | R
  ·have aR := cond_t R a8
   refine lu R (lu R (lu R (lu R (lv (rv_pick_t (v := .bool true) rfl R rfl) (wl_nil ?_)))))
   obtain rfl := oi aR
   have bV := ap.f2.f3.sb (sk (sk (sd (sd (sd (sd (sd sz)))))))
   exact qd ⟨bU, rfl, bV, (W.le.trans ae.le)⟩
  have aR := cond_f R a8
  refine lg R (rv_loadmS (ds := [.slice k l o, .slice q s x]) tf26 rfl m3 ap rfl rfl) (lg R (rv_loadmS (ds := [.slice y A B, .slice C D G]) tf30 rfl m2 ap rfl rfl) ?_)
  obtain ⟨ek, bW, bX⟩ := ob aR
  refine wl_call (wg rfl rfl R) rfl (rt_call (vs := [.agg #[.slice k l o, .slice q s x], .agg #[.slice y A B, .slice C D G]]) co12 rfl) ((ok_impl_SegOk F) ap.enter0 (aa.mono ((c.le.trans W.le).trans ae.le)) (ab.mono ((c.le.trans W.le).trans ae.le)) (ac.mono ((c.le.trans W.le).trans ae.le)) (ad.mono ((c.le.trans W.le).trans ae.le)) bW) ?_
  rintro el em ⟨bY, rfl, a9⟩
  refine ⟨_, rfl, ?_⟩
  have bZ := (ap.c0 a9).t7
  refine lg R (rv_not rfl) (lv (rv_pick_f rfl R rfl) (wl_nil ?_))
  obtain rfl := oi bX
  have b0 := bZ.f2.f3.sb (sk (sk (sd (sd (sd (sd (sd sz)))))))
  exact qd ⟨bY, rfl, b0, ((W.le.trans ae.le).trans a9.le)⟩
 rintro _ w64 ⟨aQ, rfl, X, f⟩
 refine qe_seq (wcc bL rfl (fun b1 aS => ?_) (fun b1 aS => ?_))
 ·refine sr (mv rfl (lv (rv_loadmS (ds := [.slice k l o, .slice q s x]) tf26 rfl m0 X rfl rfl) (lv (rv_loadmS (ds := [.slice y A B, .slice C D G]) tf30 rfl m1 X rfl rfl) (mv rfl (mv rfl ?_)))))
  obtain ⟨en, b2, b3⟩ := ob aS
  refine lc (vs := [.agg #[.slice k l o, .slice q s x], .agg #[.slice y A B, .slice C D G], sv O.2.2.1, sv O.2.2.2]) co11 ((ok_spec_BoundOf F) X.enter0 (aa.mono (c.le.trans f)) (ab.mono (c.le.trans f)) (ac.mono (c.le.trans f)) (ad.mono (c.le.trans f)) ai aj b2) ?_
  rintro eo ep ⟨b4, b5, b6, eq, rfl, ba, b7⟩
  refine ⟨_, rfl, ?_⟩
  have bb := (X.c0 ba).t3
  obtain ⟨es, b8, b9⟩ := ob b3
  refine lc (vs := [.slice S T U, .slice b4 b5 b6]) co10 ((ok_laws_foBlocks F) bb.enter0 (V.mono (f.trans ba.le)) b7 b8) ?_
  rintro et eu ⟨ca, rfl, cb⟩
  refine ⟨_, rfl, ?_⟩
  have cc := (bb.c0 cb).t3
  refine av rfl (nq (rr ?_))
  obtain rfl := oi b9
  have cd := cc.sb (sd (sd (sd sz)))
  exact er Tryz.results3 ⟨rfl, trivial⟩ ⟨ca, rfl, cd⟩
 refine wc_skip (qr (lv (rv_loadmS (ds := [.slice k l o, .slice q s x]) tf26 rfl m0 X rfl rfl) (lv (rv_loadmS (ds := [.slice y A B, .slice C D G]) tf30 rfl m1 X rfl rfl) (mv rfl (mv rfl ?_)))))
 obtain ⟨ev, ce, cf⟩ := ob aS
 refine lc (vs := [.agg #[.slice k l o, .slice q s x], .agg #[.slice y A B, .slice C D G], sv O.2.2.1, sv O.2.2.2]) co13 ((ok_impl_SegPosts F) X.enter0 (aa.mono (c.le.trans f)) (ab.mono (c.le.trans f)) (ac.mono (c.le.trans f)) (ad.mono (c.le.trans f)) ai aj ce) ?_
 rintro ew ex ⟨aq, ar, au, aT, rfl, H, aD⟩
 refine ⟨_, rfl, ?_⟩
 have cg := (X.c0 H).t3
 refine av rfl (nr (mv rfl (lv (rv_len (t := tGBlock) Tryz.underlying33 rfl (V.mono (f.trans H.le))) ?_)))
 obtain ⟨ch, ci, cj⟩ := ob cf
 refine wl_make (t := tInt) wn rfl Tryz.underlying39 tf3 rfl rfl rfl ci ⟨rfl, (by decide : rng64 0)⟩ cg fun Y cs141 ey hmx145 hrow143 ck => ?_
 obtain ⟨m146, hm147⟩ : ∃ m, m = ch.length := ⟨_, rfl⟩
 rw [← hm147] at hmx145
 rw [← hm147]
 refine av rfl (nsr (lv (rv_assign (v := .int .i64 0) rfl) (nq ?_)))
 obtain ⟨cl, cm, aE⟩ := ob cj
 refine wc_cutg (fun E' w' => ∃ aF cs156 af, cl = .inl aF ∧ E' = [(7, .slice S T U), (8, .slice aq ar au), (9, .slice (some ⟨Y, 0, none⟩) m146 m146)] ∧ SH w K [] w' af [obj Y cs156 3] ∧ KLe aT af ∧ RowAt true tInt af cs156 aF ∧ m146 = aF.length) ?_ ?_
 ·refine wc_block ?_
  obtain ⟨ez, cn, bc⟩ := ob cm
  have cp := ck.f3.f3.sb (sk (sk (sk (sd sz))))
  refine qw (fun (aw : Int × (List Int)) E' w' => ∃ cs168 ax, E' = [(3, pt an), (4, pt ao), (5, sv O.2.2.1), (6, sv O.2.2.2), (7, .slice S T U), (8, .slice aq ar au), (9, .slice (some ⟨Y, 0, none⟩) m146 m146), (10, .int .i64 aw.1)] ∧ SH w K [] w' ax [obj an [.slice k l o, .slice q s x] 26, obj ao [.slice y A B, .slice C D G] 30, obj Y cs168 3] ∧ KLe aT ax ∧ rng64 aw.1 ∧ RowAt true tInt ax cs168 aw.2 ∧ m146 = aw.2.length) cn ⟨cs141, aT, rfl, cp, (KLe.refl _), (by decide : rng64 0), hrow143, hm147⟩ ?_
  rintro aw _ eA eB cq bd ⟨cs168, ax, rfl, aU, I, eC, hrow169, hm170⟩
  refine wc_seq (sr (mv rfl (mv rfl (lv (rv_len (t := tGPost) Tryz.underlying37 rfl (aD.mono I)) (lv (rv_lss rfl rfl) (nq (wcc cq rfl (fun cr aV => ?_) (fun cr aV => ?_))))))))
  ·refine wc_skip (qs (wc_block (wc_seq (wc_quiet mixed (by kernel_rfl) aU (kh (rq_loadmS (ds := [.slice k l o, .slice q s x]) tf26 rfl m0 rfl rfl) (kh (rq_loadmS (ds := [.slice y A B, .slice C D G]) tf30 rfl m1 rfl rfl) (km rfl (km rfl (km rfl ?_)))))))))
   refine km rfl ?_
   obtain ⟨be, cs, ct⟩ := ob aV
   refine ki Tryz.underlying37 tf42 (aD.mono I) cs fun cu cv eD cw cx => ?_
   obtain ⟨cy, cz, cA, rfl, bf, eE⟩ := cw
   have cB : AtK _ cu cv [.int .i64 be.Doc, .slice cy cz cA] := cx
   refine kv (rv_fieldAddr ff42_0 rfl) (kh (rq_load1 tf3 rfl (cB 0 _ rfl)) ?_)
   obtain ⟨aG, bg, cC⟩ := ob ct
   refine wq_call (v := .int .i64 aG) wn rfl (fun _ => rt_call (vs := [.agg #[.slice k l o, .slice q s x], .agg #[.slice y A B, .slice C D G], sv O.2.2.1, sv O.2.2.2, .int .i64 be.Doc]) co14 rfl) (fun eF ⟨eG, bh, ay⟩ => ((ok_laws_foPoints F) bh.enter0 (SliceAt.mono ((((c.le.trans f).trans H.le).trans I).trans ay) aa) (SliceAt.mono ((((c.le.trans f).trans H.le).trans I).trans ay) ab) (SliceAt.mono ((((c.le.trans f).trans H.le).trans I).trans ay) ac) (SliceAt.mono ((((c.le.trans f).trans H.le).trans I).trans ay) ad) ai aj bf bg).mono fun e w' ⟨K', he, hS', _⟩ => ⟨he, K', bh.call0 hS', ay.trans hS'.le⟩) ?_
   obtain ⟨_, _, _, ⟨_, _, _, cD⟩, _⟩ := (ok_laws_foPoints F) aU.enter0 (SliceAt.mono (((c.le.trans f).trans H.le).trans I) aa) (SliceAt.mono (((c.le.trans f).trans H.le).trans I) ab) (SliceAt.mono (((c.le.trans f).trans H.le).trans I) ac) (SliceAt.mono (((c.le.trans f).trans H.le).trans I) ad) ai aj bf bg []
   refine kv (rv_assign rfl) (wq_nil ?_)
   rintro eH ⟨eI, aW, Z⟩
   refine qs (sr (mv rfl (mv rfl (mv rfl (mv rfl ?_)))))
   obtain ⟨bi, cE, cF⟩ := ob cC
   refine li Tryz.underlying37 tf42 (aD.mono (I.trans Z)) cE fun cG cH eJ cI cJ => ?_
   obtain ⟨cK, cL, cM, rfl, cN, eK⟩ := cI
   have cO : AtK _ cG cH [.int .i64 bi.Doc, .slice cK cL cM] := cJ
   refine fa ff42_0 rfl (lv (rv_load1 tf3 rfl aW (cO 0 _ rfl)) ?_)
   obtain ⟨eL, cP, cQ⟩ := ob cF
   refine lc (vs := [.slice S T U, .int .i64 bi.Doc]) co15 ((ok_impl_BoundAt F) aW.enter0 (SliceAt.mono (((f.trans H.le).trans I).trans Z) V) cN cP) ?_
   rintro eM eN ⟨aX, rfl, ag, eO⟩
   refine ⟨_, rfl, ?_⟩
   have aH := (aW.c0 ag).t3
   refine lv (rv_gtr rfl rfl) (nq (wcc cQ rfl (fun cR aY => ?_) (fun cR aY => ?_)))
   ·refine sr (lv (rv_assign (v := .bool false) rfl) (nq (rr (qe_block_ret (qe_then_ret (qe_then_ret ?_))))))
    obtain rfl := oi aY
    have cS := bd _ rfl
    subst cS
    refine qe_block_ret (qe_then_ret ?_)
    obtain rfl := oi bc
    refine qe_then_ret ?_
    obtain rfl := oi aE
    have cT := aH.sb (sd (sd (sd sz)))
    exact er Tryz.results3 ⟨rfl, trivial⟩ ⟨aX, rfl, cT⟩
   refine wc_skip (qr (mv rfl (mv rfl (mv rfl ?_))))
   obtain ⟨cU, cV, cW⟩ := ob aY
   refine lv (rv_quo rfl rfl cV) ?_
   obtain ⟨cX, bj, cY⟩ := ob cW
   obtain ⟨eP, cZ, c0⟩ := RowAt.at (RowAt.mono (Z.trans ag.le) hrow169) bj
   obtain ⟨rfl, eQ⟩ := cZ
   have c1 : ∀ (j : Nat) (d : Value), [.int .i64 cX][j]? = some d → cs168[cU.toNat * tInt.size + j]? = some d := c0
   refine lv (rv_indexRow (t := tInt) Tryz.underlying39 tf3 rfl rfl hm170 bj) (lv (rh_loadR1 tf3 rfl rfl (c1 0 _ rfl) (aH.hasObj (.tail _ (.tail _ (.head _))))) (lv (rv_gtr rfl rfl) (nq (wcc cY rfl (fun c2 aZ => ?_) (fun c2 aZ => ?_)))))
   ·refine wc_region (mv rfl (mv rfl ?_))
    obtain ⟨bk, c4, c5⟩ := ob aZ
    refine lv (rv_quo rfl rfl c4) (mv rfl ?_)
    obtain ⟨c6, a0, c7⟩ := ob c5
    obtain ⟨eR, c8, c9⟩ := RowAt.at (RowAt.mono (Z.trans ag.le) hrow169) a0
    obtain ⟨rfl, eS⟩ := c8
    have eT : ∀ (j : Nat) (d : Value), [.int .i64 c6][j]? = some d → cs168[bk.toNat * tInt.size + j]? = some d := c9
    refine lv (rv_indexRow (t := tInt) Tryz.underlying39 tf3 rfl rfl hm170 a0) (wl_storeRow (t := tInt) (v := .int .i64 aG) (e := aG) wn tf3 rfl rfl ⟨rfl, cD⟩ aH.f2 (RowAt.mono (Z.trans ag.le) hrow169) a0 fun cs257 eU hrow259 da => ?_)
    have hm261 := hm170.trans (List.length_set (i := bk.toNat) (a := aG)).symm
    refine nb (qe_seq (wc_region (mv rfl (lv (rv_add rfl rfl) (av rfl (wl_nil ?_))))))
    obtain rfl := oi c7
    exact qd ⟨_, rfl, cs257, aX, rfl, da.f2.f2, ((I.trans Z).trans ag.le), (w64_rng _), hrow259, hm261⟩
   refine wc_skip (qe_block (qe_seq (wc_region (mv rfl (lv (rv_add rfl rfl) (av rfl (wl_nil ?_)))))))
   obtain rfl := oi aZ
   exact qd ⟨_, rfl, cs168, aX, rfl, aH, ((I.trans Z).trans ag.le), (w64_rng _), (RowAt.mono (Z.trans ag.le) hrow169), hm170⟩
  refine wc_exit (qe_then_exit (qe_then_exit ?_))
  obtain rfl := oi aV
  have db := bd _ rfl
  subst db
  refine qe_block_eq ?_
  obtain rfl := oi bc
  have dc := aU.sb (sd (sd (sk sz)))
  exact qd ⟨_, cs168, ax, rfl, rfl, dc, I, hrow169, hm170⟩
 rintro _ eV ⟨aF, cs156, af, rfl, rfl, dd, ak, hrow157, hm158⟩
 have aE := elim_l aE
 refine qs (sr (lv (rv_assign (v := .int .i64 0) rfl) (nq ?_)))
 obtain ⟨de, df, aI⟩ := ob aE
 refine wc_cutg (fun E' w' => ∃ bl aJ, de = .inl bl ∧ E' = [(7, .slice S T U), (8, .slice aq ar au)] ∧ SH w K [] w' aJ [] ∧ KLe af aJ) ?_ ?_
 ·refine wc_block ?_
  obtain ⟨eW, dg, bm⟩ := ob df
  refine qw (fun (am : Int) E' w' => ∃ az, E' = [(7, .slice S T U), (8, .slice aq ar au), (9, .slice (some ⟨Y, 0, none⟩) m146 m146), (12, .int .i64 am)] ∧ SH w K [] w' az [obj Y cs156 3] ∧ KLe af az ∧ rng64 am) dg ⟨af, rfl, dd, (KLe.refl _), (by decide : rng64 0)⟩ ?_
  rintro am _ eX eY dh bn ⟨az, rfl, bo, ah, eZ⟩
  refine wc_seq (sr (mv rfl (mv rfl (lv (rv_len (t := tGBlock) Tryz.underlying33 rfl (SliceAt.mono (((f.trans H.le).trans ak).trans ah) V)) (lv (rv_lss rfl rfl) (nq (wcc dh rfl (fun di a2 => ?_) (fun di a2 => ?_))))))))
  ·refine wc_skip (qs (wc_block (wc_seq ?_)))
   obtain ⟨dj, dk, dl⟩ := ob a2
   refine wc_cutg (fun E' w' => ∃ aA, E' = [(7, .slice S T U), (8, .slice aq ar au), (9, .slice (some ⟨Y, 0, none⟩) m146 m146), (12, .int .i64 am), (127, .bool dj)] ∧ SH w K [] w' aA [obj Y cs156 3] ∧ KLe az aA) ?_ ?_
   ·refine wc_quiet mixed (by kernel_rfl) bo (km rfl (km rfl ?_))
    obtain ⟨a3, dm, dn⟩ := ob dk
    refine ki Tryz.underlying33 tf45 (SliceAt.mono (((f.trans H.le).trans ak).trans ah) V) dm fun dp dq e0 dr dt => ?_
    obtain ⟨rfl, e1, e2⟩ := dr
    have du : AtK _ dp dq [.int .i64 a3.Last, .int .i64 a3.Most] := dt
    refine kv (rv_fieldAddr ff45_1 rfl) (kh (rq_load1 tf3 rfl (du 1 _ rfl)) (km rfl (km rfl ?_)))
    obtain ⟨bp, bq, br⟩ := ob dn
    obtain ⟨e3, dv, dw⟩ := RowAt.at (RowAt.mono ah hrow157) bq
    obtain ⟨rfl, e4⟩ := dv
    have dx : ∀ (j : Nat) (d : Value), [.int .i64 bp][j]? = some d → cs156[am.toNat * tInt.size + j]? = some d := dw
    refine kv (rv_indexRow (t := tInt) Tryz.underlying39 tf3 rfl rfl hm158 bq) (kh (fun w' hw => (rh_loadR1 tf3 rfl rfl (dx 0 _ rfl) (QC.hasObj hw (.head _)))) (kv (rv_neq rfl rfl) (km rfl ?_)))
    rcases bool_tf ((!(a3.Most == bp))) with J | J
    ·have aK := cond_t J br
     refine kn J (kn J (kn J (ku (ku (ku (ku (ku (ku (ku ?_)))))))))
     refine ku (ku (ku (ku (ku (kn J (kv (rv_pick_t (v := .bool true) rfl J rfl) (wq_nil ?_)))))))
     rintro e5 ⟨dy, dz, dA⟩
     obtain rfl := oi aK
     exact qd ⟨dy, rfl, dz, dA⟩
    have aK := cond_f J br
    refine kg J (rv_move rfl) (kg J (rv_gtr rfl rfl) (kg J (rv_move rfl) ?_))
    rcases bool_tf (decide ((0 : Int) < am)) with b | b
    ·have a4 := cond_t b aK
     refine kg b (rv_move rfl) (kg b (rv_move rfl) ?_)
     obtain ⟨bs, dB, dC⟩ := ob a4
     refine wq_indexAddr (t := tGBlock) (wg rfl rfl b) rfl Tryz.underlying33 tf45 rfl rfl (SliceAt.mono (((f.trans H.le).trans ak).trans ah) V) dB fun dD dE e6 dF dG => ?_
     obtain ⟨rfl, e7, e8⟩ := dF
     have dH : AtK _ dD dE [.int .i64 bs.Last, .int .i64 bs.Most] := dG
     refine kg b (rv_fieldAddr ff45_0 rfl) (kgh b (rq_load1 tf3 rfl (dH 0 _ rfl)) (kg b (rv_move rfl) (kg b (rv_move rfl) (kg b (rv_sub rfl rfl) ?_))))
     obtain ⟨bt, dI, dJ⟩ := ob dC
     refine wq_indexAddr (t := tGBlock) (wg rfl rfl b) rfl Tryz.underlying33 tf45 rfl rfl (SliceAt.mono (((f.trans H.le).trans ak).trans ah) V) dI fun dK dL e9 dM dN => ?_
     obtain ⟨rfl, fb, fc⟩ := dM
     have dO : AtK _ dK dL [.int .i64 bt.Last, .int .i64 bt.Most] := dN
     refine kg b (rv_fieldAddr ff45_0 rfl) (kgh b (rq_load1 tf3 rfl (dO 0 _ rfl)) (kg b (rv_leq rfl rfl) (kg J (rv_pick_t rfl b rfl) (kv (rv_pick_f rfl J rfl) (wq_nil ?_)))))
     rintro fd ⟨dP, dQ, dR⟩
     obtain rfl := oi dJ
     exact qd ⟨dP, rfl, dQ, dR⟩
    have a4 := cond_f b aK
    refine kn b (kn b (kn b (kn b (kn b (kn b (kn b (kn b (kn b (kn b ?_)))))))))
    refine kn b (kn b (kg J (rv_pick_f (v := .bool false) rfl b rfl) (kv (rv_pick_f rfl J rfl) (wq_nil ?_))))
    rintro fe ⟨dS, dT, dU⟩
    obtain rfl := oi a4
    exact qd ⟨dS, rfl, dT, dU⟩
   rintro _ fg ⟨aA, rfl, bu, dV⟩
   refine qe_seq (wcc dl rfl (fun dW a5 => ?_) (fun dW a5 => ?_))
   ·refine sr (lv (rv_assign (v := .bool false) rfl) (nq (wc_ret (qe_block_ret (qe_then_ret (qe_then_ret ?_))))))
    obtain rfl := oi a5
    have dX := bn _ rfl
    subst dX
    refine qe_block_ret (qe_then_ret ?_)
    obtain rfl := oi bm
    refine qe_then_ret ?_
    obtain rfl := oi aI
    have dY := bu.sb (sd sz)
    exact er Tryz.results3 ⟨rfl, trivial⟩ ⟨aA, rfl, dY⟩
   refine wc_skip (qe_block (qe_seq (wc_region (mv rfl (lv (rv_add rfl rfl) (av rfl (wl_nil ?_)))))))
   obtain rfl := oi a5
   exact qd ⟨_, rfl, aA, rfl, bu, (ah.trans dV), (w64_rng _)⟩
  refine wc_exit (qe_then_exit (qe_then_exit ?_))
  obtain rfl := oi a2
  have dZ := bn _ rfl
  subst dZ
  refine qe_block_eq ?_
  obtain rfl := oi bm
  have d0 := bo.sb (sd sz)
  exact qd ⟨_, az, rfl, rfl, d0, ah⟩
 rintro _ fh ⟨bl, aJ, rfl, rfl, d1, bv⟩
 have aI := elim_l aI
 refine qr (mv rfl (lv (rv_len (t := tGBlock) Tryz.underlying33 rfl (SliceAt.mono (((f.trans H.le).trans ak).trans bv) V)) (mv rfl (lv (rv_len (t := tGPost) Tryz.underlying37 rfl (aD.mono (ak.trans bv))) (lv (rv_add rfl rfl) (lv (rv_sub rfl rfl) ?_))))))
 obtain ⟨fi, d2, d3⟩ := ob aI
 refine lv (rv_quo rfl rfl d2) (lv (rv_eql rfl rfl) (av rfl (nq (wc_ret ?_))))
 obtain rfl := oi d3
 exact er Tryz.results3 ⟨rfl, trivial⟩ ⟨aJ, rfl, d1⟩
end Go.Proofs.YtoeajphlomankaaGreatDoor
