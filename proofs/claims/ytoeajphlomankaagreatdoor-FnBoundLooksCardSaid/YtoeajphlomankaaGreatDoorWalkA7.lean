/-
 Walks of the functions. Printed by gen.py.
-/
import Derived.Test.YtoeajphlomankaaGreatDoorWalkA6
set_option linter.unusedVariables false
set_option maxRecDepth 100000
namespace Go.Proofs.YtoeajphlomankaaGreatDoor
open Go Go.Fk Go.RowKit Tryz

set_option maxHeartbeats 2000000 in
theorem ok_spec_l12Total (F : Nat) {w : World} {K : KMap} {f : Option Addr} {i k : Nat} {l : Option Addr} {m o : Nat} {p0_s : GSeg} {p1_field : Str} {r : Int} (hS : SH w K [] w K []) (bo : SliceAt tGDoc K f i k p0_s.Docs) (D : SliceAt tGEntry K l m o p0_s.Entries) (bp : p1_field.length ≤ maxLen) (hm : M.spec_l12Total F p0_s p1_field = some r) :
  Calls Tryz.prog 140 #[.agg #[.slice f i k, .slice l m o], sv p1_field] w fun e w' => ∃ K', e = .returned (.int .i64 r) ∧ SH w K [] w' K' [] ∧ rng64 r := by
 rw [M.spec_l12Total] at hm
 refine calls_in func140 rfl ntmps140 rfl (sr (bx rfl hS fun b bq aa => ?_))
 have ab : SH _ _ _ _ _ [obj b [.slice f i k, .slice l m o] 30] := aa
 refine lv (rv_assign (v := .int .i64 0) rfl) (nr (lv (rv_assign (v := .int .i64 0) rfl) (nsr (lv (rv_assign (v := .int .i64 0) rfl) (nq ?_)))))
 obtain ⟨U, ac, ad⟩ := ob hm
 refine wc_cutg (fun E' w' => ∃ G, E' = [(5, .int .i64 U)] ∧ SH w K [] w' G [] ∧ KLe K G ∧ rng64 U) ?_ ?_
 ·refine wc_block ?_
  obtain ⟨br, ae, af⟩ := ob ac
  refine qw (fun (c : Int × Int) E' w' => ∃ q, E' = [(1, sv p1_field), (2, pt b), (5, .int .i64 c.1), (6, .int .i64 c.2)] ∧ SH w K [] w' q [obj b [.slice f i k, .slice l m o] 30] ∧ KLe K q ∧ rng64 c.1 ∧ rng64 c.2) ae ⟨K, rfl, ab, (KLe.refl _), (by decide : rng64 0), (by decide : rng64 0)⟩ ?_
  rintro c _ bs bt ag ah ⟨q, rfl, I, s, V, bu⟩
  refine wc_seq (sr (mv rfl (fa ff30_1 rfl (lv (rv_loadm1 tf28 rfl m0 I rfl) (lv (rv_len (t := tGEntry) underlying28 rfl (D.mono s)) (lv (rv_lss rfl rfl) (nq (wcc ag rfl (fun ai J => ?_) (fun ai J => ?_)))))))))
  ·refine wc_skip (qs (wc_block (sr (lv (rv_assign (v := .int .i64 0) rfl) (nq ?_)))))
   obtain ⟨W, aj, ak⟩ := ob J
   refine wc_cutg (fun E' w' => ∃ H, E' = [(1, sv p1_field), (2, pt b), (5, .int .i64 W), (6, .int .i64 c.2)] ∧ SH w K [] w' H [obj b [.slice f i k, .slice l m o] 30] ∧ KLe q H ∧ rng64 W) ?_ ?_
   ·refine wc_block ?_
    obtain ⟨bv, al, am⟩ := ob aj
    refine qw (fun (d : Int × Int) E' w' => ∃ x, E' = [(1, sv p1_field), (2, pt b), (5, .int .i64 d.1), (6, .int .i64 c.2), (7, .int .i64 d.2)] ∧ SH w K [] w' x [obj b [.slice f i k, .slice l m o] 30] ∧ KLe q x ∧ rng64 d.1 ∧ rng64 d.2) al ⟨q, rfl, I, (KLe.refl _), V, (by decide : rng64 0)⟩ ?_
    rintro d _ bw bz an ao ⟨x, rfl, y, A, ap, bA⟩
    refine wc_seq (wc_seq ?_)
    obtain ⟨aq, ar, au⟩ := ob an
    refine wc_cutg (fun E' w' => ∃ B, E' = [(1, sv p1_field), (2, pt b), (5, .int .i64 d.1), (6, .int .i64 c.2), (7, .int .i64 d.2), (33, .bool aq)] ∧ SH w K [] w' B [obj b [.slice f i k, .slice l m o] 30] ∧ KLe x B) ?_ ?_
    ·refine wc_region (mv rfl (fa ff30_1 rfl (lv (rv_loadm1 tf28 rfl m0 y rfl) (mv rfl ?_))))
     obtain ⟨O, aw, X⟩ := ob ar
     refine li underlying28 tf86 (D.mono (s.trans A)) aw fun ax ay bB az aA => ?_
     obtain ⟨aB, aC, aD, rfl, bC, bD, aE⟩ := az
     have aF : AtK _ ax ay [sv O.Field, sv O.Term, .slice aB aC aD] := aA
     refine fa ff86_2 rfl (lv (rv_load1 tf37 rfl y (aF 2 _ rfl)) (lv (rv_len (t := tGPost) underlying37 rfl aE) (lv (rv_lss rfl rfl) (mv rfl ?_))))
     rcases bool_tf (decide (d.2 < (O.Posts.length : Int))) with a | a
     ·have R := cond_t a X
      refine lg a (rv_fieldAddr ff30_1 rfl) (lg a (rv_loadm1 tf28 rfl m0 y rfl) (lg a (rv_move rfl) ?_))
      obtain ⟨Y, aG, aH⟩ := ob R
      refine wl_indexAddr (t := tGEntry) (wg rfl rfl a) rfl underlying28 tf86 rfl rfl (D.mono (s.trans A)) aG fun aI aJ bE aK aL => ?_
      obtain ⟨aM, aN, aO, rfl, bF, bG, bH⟩ := aK
      have aP : AtK _ aI aJ [sv Y.Field, sv Y.Term, .slice aM aN aO] := aL
      refine lg a (rv_fieldAddr ff86_0 rfl) (lg a (rv_load1 tf9 rfl y (aP 0 _ rfl)) (lg a (rv_move rfl) (lg a (rv_seql rfl rfl) (lv (rv_pick_t rfl a rfl) (wl_nil ?_)))))
      obtain rfl := oi aH
      exact qd ⟨x, rfl, y, (KLe.refl _)⟩
     have R := cond_f a X
     refine lu a (lu a (lu a (lu a (lu a (lu a (lu a (lu a (lv (rv_pick_f (v := .bool false) rfl a rfl) (wl_nil ?_)))))))))
     obtain rfl := oi R
     exact qd ⟨x, rfl, y, (KLe.refl _)⟩
    rintro _ bI ⟨B, rfl, C, S⟩
    refine qe_seq (wcc au rfl (fun aQ T => ?_) (fun aQ T => ?_))
    ·refine wc_skip (qs (wc_block (wc_region (mv rfl (fa ff30_1 rfl (lv (rv_loadm1 tf28 rfl m0 C rfl) (mv rfl ?_)))))))
     obtain ⟨Z, aR, aS⟩ := ob T
     refine li underlying28 tf86 (D.mono ((s.trans A).trans S)) aR fun aT aU bJ aV aW => ?_
     obtain ⟨aX, aY, aZ, rfl, bK, bL, a0⟩ := aV
     have a2 : AtK _ aT aU [sv Z.Field, sv Z.Term, .slice aX aY aZ] := aW
     refine fa ff86_2 rfl (lv (rv_load1 tf37 rfl C (a2 2 _ rfl)) (mv rfl ?_))
     obtain ⟨a3, a4, a6⟩ := ob aS
     refine li underlying37 tf42 a0 a4 fun a7 a8 bM a9 ba => ?_
     obtain ⟨bb, bc, bd, rfl, bN, be⟩ := a9
     have bf : AtK _ a7 a8 [.int .i64 a3.Doc, .slice bb bc bd] := ba
     refine fa ff42_1 rfl (lv (rv_load1 tf39 rfl C (bf 1 _ rfl)) (lv (rv_len (t := tInt) underlying39 rfl be) (lv (rv_add rfl rfl) (av rfl (nb (qe_seq (wc_region (mv rfl (lv (rv_add rfl rfl) ?_)))))))))
     refine av rfl (wl_nil ?_)
     obtain rfl := oi a6
     exact qd ⟨_, rfl, B, rfl, C, (A.trans S), (w64_rng _), (w64_rng _)⟩
    refine wc_exit (qe_then_exit (qe_then_exit ?_))
    obtain rfl := oi T
    have bg := ao _ rfl
    subst bg
    refine qe_block_eq ?_
    obtain rfl := oi am
    exact qd ⟨B, rfl, C, (A.trans S), ap⟩
   rintro _ bO ⟨H, rfl, bh, bi, bj⟩
   refine qe_block (qe_seq (wc_region (mv rfl (lv (rv_add rfl rfl) (av rfl (wl_nil ?_))))))
   obtain rfl := oi ak
   exact qd ⟨_, rfl, H, rfl, bh, (s.trans bi), bj, (w64_rng _)⟩
  refine wc_exit (qe_then_exit (qe_then_exit ?_))
  obtain rfl := oi J
  have bk := ah _ rfl
  subst bk
  refine qe_block_eq ?_
  obtain rfl := oi af
  have bl := I.sb (sd sz)
  exact qd ⟨q, rfl, bl, s, V⟩
 rintro _ bP ⟨G, rfl, bm, bQ, bn⟩
 refine qr (mv rfl (av rfl (nq (wc_ret ?_))))
 obtain rfl := oi ad
 exact er results140 ⟨rfl, trivial⟩ ⟨G, rfl, bm, bn⟩

set_option maxHeartbeats 2000000 in
theorem ok_spec_l12Points (F : Nat) {w : World} {K : KMap} {d : Option Addr} {f k : Nat} {m : Option Addr} {o q : Nat} {p0_s : GSeg} {p1_field : Str} {p2_term : Str} {p3_id : Int} {r : Int} (hS : SH w K [] w K []) (y : SliceAt tGDoc K d f k p0_s.Docs) (C : SliceAt tGEntry K m o q p0_s.Entries) (D : p1_field.length ≤ maxLen) (X : p2_term.length ≤ maxLen) (aA : rng64 p3_id) (hm : M.spec_l12Points F p0_s p1_field p2_term p3_id = some r) :
  Calls Tryz.prog 87 #[.agg #[.slice d f k, .slice m o q], sv p1_field, sv p2_term, .int .i64 p3_id] w fun e w' => ∃ K', e = .returned (.int .i64 r) ∧ SH w K [] w' K' [] ∧ rng64 r := by
 rw [M.spec_l12Points] at hm
 refine calls_in func87 rfl ntmps87 rfl (sr (bx rfl hS fun J bN a7 => ?_))
 have aB : SH _ _ _ _ _ [obj J [.slice d f k, .slice m o q] 30] := a7
 refine lv (rv_assign (v := .int .i64 0) rfl) (nr (lv (rv_loadmS (ds := [.slice d f k, .slice m o q]) tf30 rfl m0 aB rfl rfl) (mv rfl (mv rfl (mv rfl ?_)))))
 obtain ⟨Y, a8, a9⟩ := ob hm
 refine lc (vs := [.agg #[.slice d f k, .slice m o q], sv p1_field, sv p2_term, .int .i64 p3_id]) co137 ((ok_spec_l12At F) aB.enter0 y C D X aA a8) ?_
 rintro bO bP ⟨bQ, bR, bS, aC, rfl, c, O⟩
 refine ⟨_, rfl, ?_⟩
 have aU := (aB.c0 c).t1
 refine lv (rv_len (t := tInt) underlying39 rfl O) (av rfl (nsr (mv rfl (lv (rv_eql rfl rfl) (nq (wcc a9 rfl (fun ba aD => ?_) (fun ba aD => ?_)))))))
 ·refine sr (lv (rv_assign (v := .int .i64 0) rfl) (nq (rr ?_)))
  obtain rfl := oi aD
  have bb := aU.sb (sd sz)
  exact er results87 ⟨rfl, trivial⟩ ⟨aC, rfl, bb, (by decide : rng64 0)⟩
 refine wc_skip (qs ?_)
 obtain ⟨ah, bc, bd⟩ := ob aD
 refine wc_cutg (fun E' w' => ∃ aE ai, E' = [(10, pt aE)] ∧ SH w K [] w' ai [obj aE [.int .i64 ah.Up, .int .i64 ah.Down] 92] ∧ KLe aC ai ∧ rng64 ah.Up ∧ rng64 ah.Down) ?_ ?_
 ·obtain ⟨Z, aV, be⟩ := ob bc
  obtain ⟨aa, aF, bf⟩ := ob be
  obtain ⟨ab, aj, bg⟩ := ob bf
  obtain ⟨x, ac, ad⟩ := ob bg
  refine wc_held (fun w' => Holds aC w' ∧ HasObj J [.slice d f k, .slice m o q] w') (fun w' => True) 19 [] mixed ?_
  have b := aU.drew
  refine wg_val (i := 0) (listed' := #[true, false, false, false, false, false, false, false, false, false, false, false, false, false, false, false, false, false, false]) (fun _ => True) rfl (by kernel_rfl) (pk_then (pk_then pk_body)) (by kernel_rfl) rfl (by kernel_rfl) (by kernel_rfl) rfl (.inl fun _ _ => trivial) ⟨⟨b.hasK (KLe.refl _), b.hasObj m0⟩, (fun _ => trivial), by decide⟩ wn rfl (fun _ _ => (rv_move rfl)) (wg_val (i := 1) (listed' := #[true, true, false, false, false, false, false, false, false, false, false, false, false, false, false, false, false, false, false]) (HasObj J [.slice d f k, .slice m o q]) rfl (by kernel_rfl) (pk_then (pk_then pk_body)) (by kernel_rfl) rfl (by kernel_rfl) (by kernel_rfl) rfl (.inl fun _ h => h.2) ⟨⟨b.hasK (KLe.refl _), b.hasObj m0⟩, (fun _ => trivial), by decide⟩ wn rfl (fun _ h => rh_loadmS (ds := [.slice d f k, .slice m o q]) tf30 rfl rfl rfl h) (wg_val (i := 2) (listed' := #[true, true, true, false, false, false, false, false, false, false, false, false, false, false, false, false, false, false, false]) (fun _ => True) rfl (by kernel_rfl) (pk_then (pk_then pk_body)) (by kernel_rfl) rfl (by kernel_rfl) (by kernel_rfl) rfl (.inl fun _ _ => trivial) ⟨⟨b.hasK (KLe.refl _), b.hasObj m0⟩, (fun _ => trivial), by decide⟩ wn rfl (fun _ _ => (rv_move rfl)) ?_))
  refine wg_val (i := 3) (listed' := #[true, true, true, true, false, false, false, false, false, false, false, false, false, false, false, false, false, false, false]) (fun _ => True) rfl (by kernel_rfl) (pk_then (pk_then pk_body)) (by kernel_rfl) rfl (by kernel_rfl) (by kernel_rfl) rfl (.inl fun _ _ => trivial) ⟨⟨b.hasK (KLe.refl _), b.hasObj m0⟩, (fun _ => trivial), by decide⟩ wn rfl (fun _ _ => (rv_move rfl)) (wg_val (i := 5) (listed' := #[true, true, true, true, false, true, false, false, false, false, false, false, false, false, false, false, false, false, false]) (HasObj J [.slice d f k, .slice m o q]) rfl (by kernel_rfl) (pk_then (pk_then pk_body)) (by kernel_rfl) rfl (by kernel_rfl) (by kernel_rfl) rfl (.inl fun _ h => h.2) ⟨⟨b.hasK (KLe.refl _), b.hasObj m0⟩, (fun _ => trivial), by decide⟩ wn rfl (fun _ h => rh_loadmS (ds := [.slice d f k, .slice m o q]) tf30 rfl rfl rfl h) (wg_val (i := 6) (listed' := #[true, true, true, true, false, true, true, false, false, false, false, false, false, false, false, false, false, false, false]) (fun _ => True) rfl (by kernel_rfl) (pk_then (pk_then pk_body)) (by kernel_rfl) rfl (by kernel_rfl) (by kernel_rfl) rfl (.inl fun _ _ => trivial) ⟨⟨b.hasK (KLe.refl _), b.hasObj m0⟩, (fun _ => trivial), by decide⟩ wn rfl (fun _ _ => (rv_move rfl)) ?_))
  refine wg_val (i := 8) (listed' := #[true, true, true, true, false, true, true, false, true, false, false, false, false, false, false, false, false, false, false]) (fun _ => True) rfl (by kernel_rfl) (pk_then (pk_then pk_body)) (by kernel_rfl) rfl (by kernel_rfl) (by kernel_rfl) rfl (.inl fun _ _ => trivial) ⟨⟨b.hasK (KLe.refl _), b.hasObj m0⟩, (fun _ => trivial), by decide⟩ wn rfl (fun _ _ => (rv_fieldAddr ff30_0 rfl)) (wg_val (i := 9) (listed' := #[true, true, true, true, false, true, true, false, true, true, false, false, false, false, false, false, false, false, false]) (HasObj J [.slice d f k, .slice m o q]) rfl (by kernel_rfl) (pk_then (pk_then pk_body)) (by kernel_rfl) rfl (by kernel_rfl) (by kernel_rfl) rfl (.inl fun _ h => h.2) ⟨⟨b.hasK (KLe.refl _), b.hasObj m0⟩, (fun _ => trivial), by decide⟩ wn rfl (fun _ h => rh_loadm1 tf27 rfl rfl h) (wg_val (i := 10) (listed' := #[true, true, true, true, false, true, true, false, true, true, true, false, false, false, false, false, false, false, false]) (fun _ => True) rfl (by kernel_rfl) (pk_then (pk_then pk_body)) (by kernel_rfl) rfl (by kernel_rfl) (by kernel_rfl) rfl (.inl fun _ _ => trivial) ⟨⟨b.hasK (KLe.refl _), b.hasObj m0⟩, (fun _ => trivial), by decide⟩ wn rfl (fun _ _ => (rv_len (t := tGDoc) underlying27 rfl (y.mono c.le))) ?_))
  refine wg_val (i := 11) (listed' := #[true, true, true, true, false, true, true, false, true, true, true, true, false, false, false, false, false, false, false]) (HasObj J [.slice d f k, .slice m o q]) rfl (by kernel_rfl) (pk_then (pk_then pk_body)) (by kernel_rfl) rfl (by kernel_rfl) (by kernel_rfl) rfl (.inl fun _ h => h.2) ⟨⟨b.hasK (KLe.refl _), b.hasObj m0⟩, (fun _ => trivial), by decide⟩ wn rfl (fun _ h => rh_loadmS (ds := [.slice d f k, .slice m o q]) tf30 rfl rfl rfl h) (wg_val (i := 12) (listed' := #[true, true, true, true, false, true, true, false, true, true, true, true, true, false, false, false, false, false, false]) (fun _ => True) rfl (by kernel_rfl) (pk_then (pk_then pk_body)) (by kernel_rfl) rfl (by kernel_rfl) (by kernel_rfl) rfl (.inl fun _ _ => trivial) ⟨⟨b.hasK (KLe.refl _), b.hasObj m0⟩, (fun _ => trivial), by decide⟩ wn rfl (fun _ _ => (rv_move rfl)) (wg_val (i := 13) (listed' := #[true, true, true, true, false, true, true, false, true, true, true, true, true, true, false, false, false, false, false]) (fun _ => True) rfl (by kernel_rfl) (pk_then (pk_then pk_body)) (by kernel_rfl) rfl (by kernel_rfl) (by kernel_rfl) rfl (.inl fun _ _ => trivial) ⟨⟨b.hasK (KLe.refl _), b.hasObj m0⟩, (fun _ => trivial), by decide⟩ wn rfl (fun _ _ => (rv_move rfl)) ?_))
  refine wg_many (l := [4, 17]) (by kernel_rfl) rfl ⟨⟨_, rfl, ?_⟩, ⟨_, rfl, ?_⟩, trivial⟩
  ·refine lc (vs := [.agg #[.slice d f k, .slice m o q], sv p1_field, .int .i64 p3_id]) co139 ((ok_spec_l7Long F) b.enter0 (y.mono c.le) (C.mono c.le) D aA aV) ?_
   rintro bT bU ⟨bV, rfl, a, ak⟩
   refine ⟨_, rfl, ?_⟩
   have ae := (b.c0 a).t1
   refine wl_nil (qe_held (listed' := #[true, true, true, true, true, true, true, false, true, true, true, true, true, true, false, false, false, false, false]) rfl ⟨⟨ae.hasK a.le, ae.hasObj m0⟩, (fun _ => trivial), by decide⟩ (wg_many (l := [7, 17]) (by kernel_rfl) rfl ⟨⟨_, rfl, ?_⟩, ⟨_, rfl, ?_⟩, trivial⟩))
   ·refine lc (vs := [.agg #[.slice d f k, .slice m o q], sv p1_field]) co140 ((ok_spec_l12Total F) ae.enter0 (y.mono (c.le.trans a.le)) (C.mono (c.le.trans a.le)) D aF) ?_
    rintro bW bX ⟨bY, rfl, s, aG⟩
    refine ⟨_, rfl, ?_⟩
    have af := (ae.c0 s).t1
    refine wl_nil (qe_held (listed' := #[true, true, true, true, true, true, true, true, true, true, true, true, true, true, false, false, false, false, false]) rfl ⟨⟨af.hasK (a.le.trans s.le), af.hasObj m0⟩, (fun _ => trivial), by decide⟩ (wg_many (l := [14, 17]) (by kernel_rfl) rfl ⟨⟨_, rfl, ?_⟩, ⟨_, rfl, ?_⟩, trivial⟩))
    ·refine lc (vs := [.agg #[.slice d f k, .slice m o q], sv p1_field, sv p2_term]) co86 ((ok_spec_l7Posts F) af.enter0 (y.mono ((c.le.trans a.le).trans s.le)) (C.mono ((c.le.trans a.le).trans s.le)) D X aj) ?_
     rintro bZ b0 ⟨b1, b2, b3, b4, rfl, B, aH⟩
     refine ⟨_, rfl, ?_⟩
     have I := (af.c0 B).t1
     refine wl_nil (qe_held (listed' := #[true, true, true, true, true, true, true, true, true, true, true, true, true, true, true, false, false, false, false]) rfl ⟨⟨I.hasK ((a.le.trans s.le).trans B.le), I.hasObj m0⟩, (fun _ => trivial), by decide⟩ (wg_val (i := 15) (listed' := #[true, true, true, true, true, true, true, true, true, true, true, true, true, true, true, true, false, false, false]) (fun _ => True) rfl (by kernel_rfl) (pk_then (pk_then pk_body)) (by kernel_rfl) rfl (by kernel_rfl) (by kernel_rfl) rfl (.inl fun _ _ => trivial) ⟨⟨I.hasK ((a.le.trans s.le).trans B.le), I.hasObj m0⟩, (fun _ => trivial), by decide⟩ wn rfl (fun _ _ => (rv_len (t := tGPost) underlying37 rfl aH)) (wg_many (l := [16, 17]) (by kernel_rfl) rfl ⟨⟨_, rfl, ?_⟩, ⟨_, rfl, ?_⟩, trivial⟩)))
     ·refine lc (vs := [.int .i64 (Y.length : Int), .int .i64 Z, .int .i64 aa, .int .i64 (p0_s.Docs.length : Int), .int .i64 (ab.length : Int)]) co138 ((ok_spec_l12Term F) I.enter0 (rng_nat (SliceAt.max O)) ak aG (rng_nat (SliceAt.max (y.mono c.le))) (rng_nat (SliceAt.max aH)) ac) ?_
      rintro b5 b6 ⟨bh, rfl, ag, bi, bj⟩
      refine ⟨_, rfl, ?_⟩
      have aI := (I.c0 ag).t1
      refine wl_nil (qe_held (listed' := #[true, true, true, true, true, true, true, true, true, true, true, true, true, true, true, true, true, false, false]) rfl ⟨⟨aI.hasK (((a.le.trans s.le).trans B.le).trans ag.le), aI.hasObj m0⟩, (fun _ => trivial), by decide⟩ (wg_one (i := 17) (by kernel_rfl) rfl (al tf92 aI fun aW b7 bk => ?_)))
      have aJ : SH _ _ _ _ _ [obj aW [.int .i64 0, .int .i64 0] 92, _] := bk
      refine wl_nil (qe_held (listed' := #[true, true, true, true, true, true, true, true, true, true, true, true, true, true, true, true, true, true, false]) rfl ⟨⟨aJ.hasK (((a.le.trans s.le).trans B.le).trans ag.le), aJ.hasObj m1⟩, (fun _ => trivial), by decide⟩ (wg_one (i := 18) (by kernel_rfl) rfl (ls [.int .i64 x.Up, .int .i64 x.Down] (.agg #[.int .i64 x.Up, .int .i64 x.Down]) tf92 aJ fun b8 aK => (wl_nil (qe_held (listed' := #[true, true, true, true, true, true, true, true, true, true, true, true, true, true, true, true, true, true, true]) rfl ⟨⟨aK.hasK (((a.le.trans s.le).trans B.le).trans ag.le), aK.hasObj m1⟩, (fun _ => trivial), by decide⟩ (wg_done (by kernel_rfl) ?_))))))
      obtain rfl := oi ad
      have bl := aK.sb (sk (sd sz))
      exact qd ⟨aW, bh, rfl, bl, (((a.le.trans s.le).trans B.le).trans ag.le), bi, bj⟩
     refine al tf92 I fun aX b9 bm => ?_
     have am : SH _ _ _ _ _ [obj aX [.int .i64 0, .int .i64 0] 92, _] := bm
     refine wl_nil (qe_held (listed' := #[true, true, true, true, true, true, true, true, true, true, true, true, true, true, true, true, false, true, false]) rfl ⟨⟨am.hasK ((a.le.trans s.le).trans B.le), am.hasObj m1⟩, (fun _ => trivial), by decide⟩ (wg_one (i := 16) (by kernel_rfl) rfl (lc (vs := [.int .i64 (Y.length : Int), .int .i64 Z, .int .i64 aa, .int .i64 (p0_s.Docs.length : Int), .int .i64 (ab.length : Int)]) co138 ((ok_spec_l12Term F) am.enter0 (rng_nat (SliceAt.max O)) ak aG (rng_nat (SliceAt.max (y.mono c.le))) (rng_nat (SliceAt.max aH)) ac) ?_)))
     rintro ca cb ⟨bn, rfl, an, bo, bp⟩
     refine ⟨_, rfl, ?_⟩
     have aL := (am.c0 an).t2
     refine wl_nil (qe_held (listed' := #[true, true, true, true, true, true, true, true, true, true, true, true, true, true, true, true, true, true, false]) rfl ⟨⟨aL.hasK (((a.le.trans s.le).trans B.le).trans an.le), aL.hasObj m1⟩, (fun _ => trivial), by decide⟩ (wg_one (i := 18) (by kernel_rfl) rfl (ls [.int .i64 x.Up, .int .i64 x.Down] (.agg #[.int .i64 x.Up, .int .i64 x.Down]) tf92 aL fun cc aM => (wl_nil (qe_held (listed' := #[true, true, true, true, true, true, true, true, true, true, true, true, true, true, true, true, true, true, true]) rfl ⟨⟨aM.hasK (((a.le.trans s.le).trans B.le).trans an.le), aM.hasObj m1⟩, (fun _ => trivial), by decide⟩ (wg_done (by kernel_rfl) ?_))))))
     obtain rfl := oi ad
     have bq := aM.sb (sk (sd sz))
     exact qd ⟨aX, bn, rfl, bq, (((a.le.trans s.le).trans B.le).trans an.le), bo, bp⟩
    refine al tf92 af fun aY cd br => ?_
    have ao : SH _ _ _ _ _ [obj aY [.int .i64 0, .int .i64 0] 92, _] := br
    refine wl_nil (qe_held (listed' := #[true, true, true, true, true, true, true, true, true, true, true, true, true, true, false, false, false, true, false]) rfl ⟨⟨ao.hasK (a.le.trans s.le), ao.hasObj m1⟩, (fun _ => trivial), by decide⟩ (wg_one (i := 14) (by kernel_rfl) rfl (lc (vs := [.agg #[.slice d f k, .slice m o q], sv p1_field, sv p2_term]) co86 ((ok_spec_l7Posts F) ao.enter0 (y.mono ((c.le.trans a.le).trans s.le)) (C.mono ((c.le.trans a.le).trans s.le)) D X aj) ?_)))
    rintro ce cf ⟨cg, ch, ci, cj, rfl, R, aZ⟩
    refine ⟨_, rfl, ?_⟩
    have S := (ao.c0 R).t2
    refine wl_nil (qe_held (listed' := #[true, true, true, true, true, true, true, true, true, true, true, true, true, true, true, false, false, true, false]) rfl ⟨⟨S.hasK ((a.le.trans s.le).trans R.le), S.hasObj m1⟩, (fun _ => trivial), by decide⟩ (wg_val (i := 15) (listed' := #[true, true, true, true, true, true, true, true, true, true, true, true, true, true, true, true, false, true, false]) (fun _ => True) rfl (by kernel_rfl) (pk_then (pk_then pk_body)) (by kernel_rfl) rfl (by kernel_rfl) (by kernel_rfl) rfl (.inl fun _ _ => trivial) ⟨⟨S.hasK ((a.le.trans s.le).trans R.le), S.hasObj m1⟩, (fun _ => trivial), by decide⟩ wn rfl (fun _ _ => (rv_len (t := tGPost) underlying37 rfl aZ)) (wg_one (i := 16) (by kernel_rfl) rfl (lc (vs := [.int .i64 (Y.length : Int), .int .i64 Z, .int .i64 aa, .int .i64 (p0_s.Docs.length : Int), .int .i64 (ab.length : Int)]) co138 ((ok_spec_l12Term F) S.enter0 (rng_nat (SliceAt.max O)) ak aG (rng_nat (SliceAt.max (y.mono c.le))) (rng_nat (SliceAt.max aZ)) ac) ?_))))
    rintro ck cl ⟨bs, rfl, ap, bt, bu⟩
    refine ⟨_, rfl, ?_⟩
    have aN := (S.c0 ap).t2
    refine wl_nil (qe_held (listed' := #[true, true, true, true, true, true, true, true, true, true, true, true, true, true, true, true, true, true, false]) rfl ⟨⟨aN.hasK (((a.le.trans s.le).trans R.le).trans ap.le), aN.hasObj m1⟩, (fun _ => trivial), by decide⟩ (wg_one (i := 18) (by kernel_rfl) rfl (ls [.int .i64 x.Up, .int .i64 x.Down] (.agg #[.int .i64 x.Up, .int .i64 x.Down]) tf92 aN fun cm aO => (wl_nil (qe_held (listed' := #[true, true, true, true, true, true, true, true, true, true, true, true, true, true, true, true, true, true, true]) rfl ⟨⟨aO.hasK (((a.le.trans s.le).trans R.le).trans ap.le), aO.hasObj m1⟩, (fun _ => trivial), by decide⟩ (wg_done (by kernel_rfl) ?_))))))
    obtain rfl := oi ad
    have bv := aO.sb (sk (sd sz))
    exact qd ⟨aY, bs, rfl, bv, (((a.le.trans s.le).trans R.le).trans ap.le), bt, bu⟩
   refine al tf92 ae fun a0 cn bw => ?_
   have aq : SH _ _ _ _ _ [obj a0 [.int .i64 0, .int .i64 0] 92, _] := bw
   refine wl_nil (qe_held (listed' := #[true, true, true, true, true, true, true, false, true, true, true, true, true, true, false, false, false, true, false]) rfl ⟨⟨aq.hasK a.le, aq.hasObj m1⟩, (fun _ => trivial), by decide⟩ (wg_one (i := 7) (by kernel_rfl) rfl (lc (vs := [.agg #[.slice d f k, .slice m o q], sv p1_field]) co140 ((ok_spec_l12Total F) aq.enter0 (y.mono (c.le.trans a.le)) (C.mono (c.le.trans a.le)) D aF) ?_)))
   rintro cp cq ⟨cr, rfl, G, bz⟩
   refine ⟨_, rfl, ?_⟩
   have ar := (aq.c0 G).t2
   refine wl_nil (qe_held (listed' := #[true, true, true, true, true, true, true, true, true, true, true, true, true, true, false, false, false, true, false]) rfl ⟨⟨ar.hasK (a.le.trans G.le), ar.hasObj m1⟩, (fun _ => trivial), by decide⟩ (wg_one (i := 14) (by kernel_rfl) rfl (lc (vs := [.agg #[.slice d f k, .slice m o q], sv p1_field, sv p2_term]) co86 ((ok_spec_l7Posts F) ar.enter0 (y.mono ((c.le.trans a.le).trans G.le)) (C.mono ((c.le.trans a.le).trans G.le)) D X aj) ?_)))
   rintro cs ct ⟨cu, cv, cw, cx, rfl, T, a2⟩
   refine ⟨_, rfl, ?_⟩
   have U := (ar.c0 T).t2
   refine wl_nil (qe_held (listed' := #[true, true, true, true, true, true, true, true, true, true, true, true, true, true, true, false, false, true, false]) rfl ⟨⟨U.hasK ((a.le.trans G.le).trans T.le), U.hasObj m1⟩, (fun _ => trivial), by decide⟩ (wg_val (i := 15) (listed' := #[true, true, true, true, true, true, true, true, true, true, true, true, true, true, true, true, false, true, false]) (fun _ => True) rfl (by kernel_rfl) (pk_then (pk_then pk_body)) (by kernel_rfl) rfl (by kernel_rfl) (by kernel_rfl) rfl (.inl fun _ _ => trivial) ⟨⟨U.hasK ((a.le.trans G.le).trans T.le), U.hasObj m1⟩, (fun _ => trivial), by decide⟩ wn rfl (fun _ _ => (rv_len (t := tGPost) underlying37 rfl a2)) (wg_one (i := 16) (by kernel_rfl) rfl (lc (vs := [.int .i64 (Y.length : Int), .int .i64 Z, .int .i64 aa, .int .i64 (p0_s.Docs.length : Int), .int .i64 (ab.length : Int)]) co138 ((ok_spec_l12Term F) U.enter0 (rng_nat (SliceAt.max O)) ak bz (rng_nat (SliceAt.max (y.mono c.le))) (rng_nat (SliceAt.max a2)) ac) ?_))))
   rintro cy cz ⟨bA, rfl, au, bB, bC⟩
   refine ⟨_, rfl, ?_⟩
   have aP := (U.c0 au).t2
   refine wl_nil (qe_held (listed' := #[true, true, true, true, true, true, true, true, true, true, true, true, true, true, true, true, true, true, false]) rfl ⟨⟨aP.hasK (((a.le.trans G.le).trans T.le).trans au.le), aP.hasObj m1⟩, (fun _ => trivial), by decide⟩ (wg_one (i := 18) (by kernel_rfl) rfl (ls [.int .i64 x.Up, .int .i64 x.Down] (.agg #[.int .i64 x.Up, .int .i64 x.Down]) tf92 aP fun cA aQ => (wl_nil (qe_held (listed' := #[true, true, true, true, true, true, true, true, true, true, true, true, true, true, true, true, true, true, true]) rfl ⟨⟨aQ.hasK (((a.le.trans G.le).trans T.le).trans au.le), aQ.hasObj m1⟩, (fun _ => trivial), by decide⟩ (wg_done (by kernel_rfl) ?_))))))
   obtain rfl := oi ad
   have bD := aQ.sb (sk (sd sz))
   exact qd ⟨a0, bA, rfl, bD, (((a.le.trans G.le).trans T.le).trans au.le), bB, bC⟩
  refine al tf92 b fun a3 cB bE => ?_
  have aw : SH _ _ _ _ _ [obj a3 [.int .i64 0, .int .i64 0] 92, _] := bE
  refine wl_nil (qe_held (listed' := #[true, true, true, true, false, true, true, false, true, true, true, true, true, true, false, false, false, true, false]) rfl ⟨⟨aw.hasK (KLe.refl _), aw.hasObj m1⟩, (fun _ => trivial), by decide⟩ (wg_one (i := 4) (by kernel_rfl) rfl (lc (vs := [.agg #[.slice d f k, .slice m o q], sv p1_field, .int .i64 p3_id]) co139 ((ok_spec_l7Long F) aw.enter0 (y.mono c.le) (C.mono c.le) D aA aV) ?_)))
  rintro cC cD ⟨cE, rfl, A, bF⟩
  refine ⟨_, rfl, ?_⟩
  have ax := (aw.c0 A).t2
  refine wl_nil (qe_held (listed' := #[true, true, true, true, true, true, true, false, true, true, true, true, true, true, false, false, false, true, false]) rfl ⟨⟨ax.hasK A.le, ax.hasObj m1⟩, (fun _ => trivial), by decide⟩ (wg_one (i := 7) (by kernel_rfl) rfl (lc (vs := [.agg #[.slice d f k, .slice m o q], sv p1_field]) co140 ((ok_spec_l12Total F) ax.enter0 (y.mono (c.le.trans A.le)) (C.mono (c.le.trans A.le)) D aF) ?_)))
  rintro cF cG ⟨cH, rfl, H, bG⟩
  refine ⟨_, rfl, ?_⟩
  have ay := (ax.c0 H).t2
  refine wl_nil (qe_held (listed' := #[true, true, true, true, true, true, true, true, true, true, true, true, true, true, false, false, false, true, false]) rfl ⟨⟨ay.hasK (A.le.trans H.le), ay.hasObj m1⟩, (fun _ => trivial), by decide⟩ (wg_one (i := 14) (by kernel_rfl) rfl (lc (vs := [.agg #[.slice d f k, .slice m o q], sv p1_field, sv p2_term]) co86 ((ok_spec_l7Posts F) ay.enter0 (y.mono ((c.le.trans A.le).trans H.le)) (C.mono ((c.le.trans A.le).trans H.le)) D X aj) ?_)))
  rintro cI cJ ⟨cK, cL, cM, cN, rfl, V, a4⟩
  refine ⟨_, rfl, ?_⟩
  have W := (ay.c0 V).t2
  refine wl_nil (qe_held (listed' := #[true, true, true, true, true, true, true, true, true, true, true, true, true, true, true, false, false, true, false]) rfl ⟨⟨W.hasK ((A.le.trans H.le).trans V.le), W.hasObj m1⟩, (fun _ => trivial), by decide⟩ (wg_val (i := 15) (listed' := #[true, true, true, true, true, true, true, true, true, true, true, true, true, true, true, true, false, true, false]) (fun _ => True) rfl (by kernel_rfl) (pk_then (pk_then pk_body)) (by kernel_rfl) rfl (by kernel_rfl) (by kernel_rfl) rfl (.inl fun _ _ => trivial) ⟨⟨W.hasK ((A.le.trans H.le).trans V.le), W.hasObj m1⟩, (fun _ => trivial), by decide⟩ wn rfl (fun _ _ => (rv_len (t := tGPost) underlying37 rfl a4)) (wg_one (i := 16) (by kernel_rfl) rfl (lc (vs := [.int .i64 (Y.length : Int), .int .i64 Z, .int .i64 aa, .int .i64 (p0_s.Docs.length : Int), .int .i64 (ab.length : Int)]) co138 ((ok_spec_l12Term F) W.enter0 (rng_nat (SliceAt.max O)) bF bG (rng_nat (SliceAt.max (y.mono c.le))) (rng_nat (SliceAt.max a4)) ac) ?_))))
  rintro cO cP ⟨bH, rfl, az, bI, bJ⟩
  refine ⟨_, rfl, ?_⟩
  have aR := (W.c0 az).t2
  refine wl_nil (qe_held (listed' := #[true, true, true, true, true, true, true, true, true, true, true, true, true, true, true, true, true, true, false]) rfl ⟨⟨aR.hasK (((A.le.trans H.le).trans V.le).trans az.le), aR.hasObj m1⟩, (fun _ => trivial), by decide⟩ (wg_one (i := 18) (by kernel_rfl) rfl (ls [.int .i64 x.Up, .int .i64 x.Down] (.agg #[.int .i64 x.Up, .int .i64 x.Down]) tf92 aR fun cQ aS => (wl_nil (qe_held (listed' := #[true, true, true, true, true, true, true, true, true, true, true, true, true, true, true, true, true, true, true]) rfl ⟨⟨aS.hasK (((A.le.trans H.le).trans V.le).trans az.le), aS.hasObj m1⟩, (fun _ => trivial), by decide⟩ (wg_done (by kernel_rfl) ?_))))))
  obtain rfl := oi ad
  have bK := aS.sb (sk (sd sz))
  exact qd ⟨a3, bH, rfl, bK, (((A.le.trans H.le).trans V.le).trans az.le), bI, bJ⟩
 rintro _ cR ⟨aE, ai, rfl, aT, cS, cT, cU⟩
 refine qr (fa ff92_0 rfl (lv (rv_loadm1 tf3 rfl m0 aT rfl) (lv (rv_mul rfl rfl) (fa ff92_1 rfl (lv (rv_loadm1 tf3 rfl m0 aT rfl) ?_)))))
 obtain ⟨cV, a6, bL⟩ := ob bd
 refine lv (rv_quo rfl rfl a6) (av rfl (nq (wc_ret ?_)))
 obtain rfl := oi bL
 have bM := aT.sb (sd sz)
 exact er results87 ⟨rfl, trivial⟩ ⟨ai, rfl, bM, (rng_quo a6)⟩

set_option maxHeartbeats 2000000 in
theorem ok_spec_l14Blocks (F : Nat) {w : World} {K : KMap} {b : Option Addr} {c f : Nat} {i : Option Addr} {k l : Nat} {p0_s : GSeg} {p1_field : Str} {p2_term : Str} {r : (List GBlock)} (hS : SH w K [] w K []) (aa : SliceAt tGDoc K b c f p0_s.Docs) (ab : SliceAt tGEntry K i k l p0_s.Entries) (ac : p1_field.length ≤ maxLen) (ad : p2_term.length ≤ maxLen) (hm : M.spec_l14Blocks F p0_s p1_field p2_term = some r) :
  Calls Tryz.prog 39 #[.agg #[.slice b c f, .slice i k l], sv p1_field, sv p2_term] w fun e w' => ∃ a_1 n_2 c_3 K', e = .returned (.slice a_1 n_2 c_3) ∧ SH w K [] w' K' [tail (.slice a_1 n_2 c_3) 45 2] ∧ SliceAt tGBlock K' a_1 n_2 c_3 r := by
 rw [M.spec_l14Blocks] at hm
 refine calls_in func39 rfl ntmps39 rfl (sr (bx rfl hS fun D b2 aH => ?_))
 have aI : SH _ _ _ _ _ [obj D [.slice b c f, .slice i k l] 30] := aH
 refine lv (rv_assign (v := .slice none 0 0) rfl) (nr (wl_buildSlice0R tGBlock wn rfl underlying33 tf45 aI fun aJ b3 ae => (av rfl (nr (lv (rv_loadmS (ds := [.slice b c f, .slice i k l]) tf30 rfl m1 ae rfl rfl) (mv rfl (mv rfl ?_)))))))
 obtain ⟨b4, aK, aL⟩ := ob hm
 refine lc (vs := [.agg #[.slice b c f, .slice i k l], sv p1_field, sv p2_term]) co86 ((ok_spec_l7Posts F) ae.enter0 aa ab ac ad aK) ?_
 rintro b5 b6 ⟨ap, aq, ar, af, rfl, G, ag⟩
 refine ⟨_, rfl, ?_⟩
 have aM := (ae.c0 G).t2
 refine av rfl (nsr (lv (rv_assign (v := .int .i64 0) rfl) (nq ?_)))
 obtain ⟨au, aN, aO⟩ := ob aL
 refine wc_cutg (fun E' w' => ∃ X H Y cs40 Z, E' = [(7, .slice X H Y)] ∧ SH w K [] w' Z [rowI (.slice X H Y) cs40 45 2] ∧ KLe af Z ∧ RowAt true tGBlock Z cs40 au ∧ H = au.length) ?_ ?_
 ·refine wc_block ?_
  obtain ⟨b7, aP, aQ⟩ := ob aN
  refine qw (fun (y : (List GBlock) × Int) E' w' => ∃ I A J cs54 O, E' = [(1, sv p1_field), (2, sv p2_term), (3, pt D), (7, .slice I A J), (8, .slice ap aq ar), (9, .int .i64 y.2)] ∧ SH w K [] w' O [obj D [.slice b c f, .slice i k l] 30, rowI (.slice I A J) cs54 45 2] ∧ KLe af O ∧ RowAt true tGBlock O cs54 y.1 ∧ A = y.1.length ∧ rng64 y.2) aP ⟨aJ, 0, 0, [], af, rfl, aM.f1, (KLe.refl _), (RowAt.nil tGBlock _), rfl, (by decide : rng64 0)⟩ ?_
  rintro y _ b8 b9 aR aS ⟨I, A, J, cs54, O, rfl, ah, a, hrow55, hm56, ca⟩
  refine wc_seq (sr (mv rfl (mv rfl (lv (rv_len (t := tGPost) underlying37 rfl (ag.mono a)) (lv (rv_lss rfl rfl) (nq (wcc aR rfl (fun aT ai => ?_) (fun aT ai => ?_))))))))
  ·refine wc_skip (qs (wc_block (wc_seq (wc_quiet mixed (by kernel_rfl) ah (kh (rq_loadmS (ds := [.slice b c f, .slice i k l]) tf30 rfl m0 rfl rfl) (km rfl (km rfl (km rfl (km rfl ?_)))))))))
   obtain ⟨aw, aU, aV⟩ := ob ai
   refine ki underlying37 tf42 (ag.mono a) aU fun aW aX cb aY aZ => ?_
   obtain ⟨a0, a2, a3, rfl, ax, cc⟩ := aY
   have a4 : AtK _ aW aX [.int .i64 aw.Doc, .slice a0 a2 a3] := aZ
   refine kv (rv_fieldAddr ff42_0 rfl) (kh (rq_load1 tf3 rfl (a4 0 _ rfl)) ?_)
   obtain ⟨q, ay, a6⟩ := ob aV
   refine wq_call (v := .int .i64 q) wn rfl (fun _ => rt_call (vs := [.agg #[.slice b c f, .slice i k l], sv p1_field, sv p2_term, .int .i64 aw.Doc]) co87 rfl) (fun cd ⟨ce, az, aj⟩ => ((ok_spec_l12Points F) az.enter0 (aa.mono ((G.le.trans a).trans aj)) (ab.mono ((G.le.trans a).trans aj)) ac ad ax ay).mono fun e w' ⟨K', he, hS', _⟩ => ⟨he, K', az.call0 hS', aj.trans hS'.le⟩) ?_
   obtain ⟨_, _, _, ⟨_, _, _, a7⟩, _⟩ := (ok_spec_l12Points F) ah.enter0 (aa.mono (G.le.trans a)) (ab.mono (G.le.trans a)) ac ad ax ay []
   refine kv (rv_assign rfl) (wq_nil ?_)
   rintro cf ⟨aA, aB, R⟩
   refine qs (sr (mv rfl ?_))
   obtain ⟨cg, a8, a9⟩ := ob a6
   refine lv (rv_rem rfl rfl a8) (lv (rv_eql rfl rfl) (nq ?_))
   obtain ⟨s, ba, bb⟩ := ob a9
   refine wc_cutg (fun E' w' => ∃ S B T cs103 C, E' = [(1, sv p1_field), (2, sv p2_term), (3, pt D), (7, .slice S B T), (8, .slice ap aq ar), (9, .int .i64 y.2), (10, .int .i64 q)] ∧ SH w K [] w' C [obj D [.slice b c f, .slice i k l] 30, rowI (.slice S B T) cs103 45 2] ∧ KLe aA C ∧ RowAt true tGBlock C cs103 s ∧ B = s.length) ?_ ?_
   ·refine wcc ba rfl (fun bc ak => ?_) (fun bc ak => ?_)
    ·refine wc_region (mv rfl (lv (rv_build (cs := #[.int .i64 0, .int .i64 0]) sp45 tf45 rfl (by kernel_rfl)) (lb tGBlock (.agg #[.int .i64 0, .int .i64 0]) [.int .i64 0, .int .i64 0] (GBlock.mk (0 : Int) (0 : Int)) underlying33 tf45 ⟨rfl, (by decide : rng64 0), (by decide : rng64 0)⟩ aB fun ch ci bd aC be bf => ?_)))
     obtain ⟨cj, bg, bh⟩ := ob ak
     refine wl_appendR (t := tGBlock) wn rfl underlying33 tf45 rfl rfl rfl rfl (RowAt.mono (R.trans aC) hrow55) hm56 be bg bf.f2 fun bi bj bk cs121 ck hrow123 hm124 bl => (av rfl (wl_nil ?_))
     obtain rfl := oi bh
     have bm := bl.f2.sb (sk (sk (sd sz)))
     exact qd ⟨bi, bj, bk, cs121, bd, rfl, bm, aC, hrow123, hm124⟩
    refine wc_skip ?_
    obtain rfl := oi ak
    exact qd ⟨I, A, J, cs54, aA, rfl, aB, (KLe.refl _), (RowAt.mono R hrow55), hm56⟩
   rintro _ cl ⟨S, B, T, cs103, C, rfl, al, am, hrow104, hm105⟩
   refine qr (mv rfl (lv (rv_lenRow underlying33 rfl hm105) (lv (rv_sub rfl rfl) (av rfl (nr (mv rfl (mv rfl (mv rfl (mv rfl ?_)))))))))
   obtain ⟨x, bn, bo⟩ := ob bb
   refine li underlying37 tf42 (ag.mono ((a.trans R).trans am)) bn fun bp bq cm br bs => ?_
   obtain ⟨bt, bu, bv, rfl, bw, cn⟩ := br
   have bz : AtK _ bp bq [.int .i64 x.Doc, .slice bt bu bv] := bs
   refine fa ff42_0 rfl (lv (rv_load1 tf3 rfl al (bz 0 _ rfl)) ?_)
   obtain ⟨m, U, bA⟩ := ob bo
   obtain ⟨cp, aD⟩ := SH.rowI_at al m1 hm105 U
   obtain ⟨cq, bB, bC⟩ := RowAt.at hrow104 U
   obtain ⟨rfl, cr, bD⟩ := bB
   have bE : ∀ (j : Nat) (d : Value), [.int .i64 m.Last, .int .i64 m.Most][j]? = some d → cs103[(w64 ((s.length : Int) - (1 : Int))).toNat * tGBlock.size + j]? = some d := bC
   refine lv (rv_indexI (t := tGBlock) underlying33 tf45 rfl rfl aD hm105 U) (fa ff45_0 rfl (wl_storeI (t := tGBlock) (off := 0) (ds := [.int .i64 m.Last, .int .i64 m.Most]) (v := .int .i64 x.Doc) (u := .agg #[.int .i64 x.Doc, .int .i64 m.Most]) (e := (GBlock.mk x.Doc m.Most)) wn tf3 rfl rfl rfl rfl (by simp [Value.cells, Value.oneCell']) aD al.f1 hrow104 hm105 U bE rfl rfl ⟨rfl, bw, bD⟩ fun cs154 ct hrow156 hm157 V => ?_))
   have bF := getI_set (e := (GBlock.mk x.Doc m.Most)) U
   obtain ⟨cu, bG, bH⟩ := RowAt.at hrow156 bF
   obtain ⟨rfl, cv, cw⟩ := bG
   have cx : ∀ (j : Nat) (d : Value), [.int .i64 ((GBlock.mk x.Doc m.Most).Last), .int .i64 ((GBlock.mk x.Doc m.Most).Most)][j]? = some d → cs154[(w64 ((s.length : Int) - (1 : Int))).toNat * tGBlock.size + j]? = some d := bH
   refine nr (mv rfl (mv rfl (mv rfl ?_)))
   obtain ⟨aE, an, bI⟩ := ob bA
   obtain ⟨cy, aF⟩ := SH.rowI_at V m0 hm157 an
   obtain ⟨cz, bJ, bK⟩ := RowAt.at hrow156 an
   obtain ⟨rfl, cA, cB⟩ := bJ
   have bL : ∀ (j : Nat) (d : Value), [.int .i64 aE.Last, .int .i64 aE.Most][j]? = some d → cs154[(w64 ((s.length : Int) - (1 : Int))).toNat * tGBlock.size + j]? = some d := bK
   refine lv (rv_indexI (t := tGBlock) underlying33 tf45 rfl rfl aF hm157 an) (fa ff45_1 rfl (lv (rh_loadI1 tf3 rfl rfl (bL 1 _ rfl) aF (SH.hasRow V (.head _))) (lv (rv_gtr rfl rfl) (nq (wcc bI rfl (fun bM ao => ?_) (fun bM ao => ?_))))))
   ·refine wc_region (mv rfl (mv rfl (mv rfl ?_)))
    obtain ⟨o, W, bN⟩ := ob ao
    obtain ⟨cC, aG⟩ := SH.rowI_at V m0 hm157 W
    obtain ⟨cD, bO, bP⟩ := RowAt.at hrow156 W
    obtain ⟨rfl, bQ, cE⟩ := bO
    have bR : ∀ (j : Nat) (d : Value), [.int .i64 o.Last, .int .i64 o.Most][j]? = some d → cs154[(w64 ((s.length : Int) - (1 : Int))).toNat * tGBlock.size + j]? = some d := bP
    refine lv (rv_indexI (t := tGBlock) underlying33 tf45 rfl rfl aG hm157 W) (fa ff45_1 rfl (wl_storeI (t := tGBlock) (off := 1) (ds := [.int .i64 o.Last, .int .i64 o.Most]) (v := .int .i64 q) (u := .agg #[.int .i64 o.Last, .int .i64 q]) (e := (GBlock.mk o.Last q)) wn tf3 rfl rfl rfl rfl (by simp [Value.cells, Value.oneCell']) aG V hrow156 hm157 W bR rfl rfl ⟨rfl, bQ, a7⟩ fun cs190 cF hrow192 hm193 bS => ?_))
    have bT := getI_set (e := (GBlock.mk o.Last q)) W
    obtain ⟨cG, bU, bV⟩ := RowAt.at hrow192 bT
    obtain ⟨rfl, cH, cI⟩ := bU
    have cJ : ∀ (j : Nat) (d : Value), [.int .i64 ((GBlock.mk o.Last q).Last), .int .i64 ((GBlock.mk o.Last q).Most)][j]? = some d → cs190[(w64 ((s.length : Int) - (1 : Int))).toNat * tGBlock.size + j]? = some d := bV
    refine nb (qe_seq (wc_region (mv rfl (lv (rv_add rfl rfl) (av rfl (wl_nil ?_))))))
    obtain rfl := oi bN
    exact qd ⟨_, rfl, S, B, T, cs190, C, rfl, bS.f1, ((a.trans R).trans am), hrow192, hm193, (w64_rng _)⟩
   refine wc_skip (qe_block (qe_seq (wc_region (mv rfl (lv (rv_add rfl rfl) (av rfl (wl_nil ?_)))))))
   obtain rfl := oi ao
   exact qd ⟨_, rfl, S, B, T, cs154, C, rfl, V.f1, ((a.trans R).trans am), hrow156, hm157, (w64_rng _)⟩
  refine wc_exit (qe_then_exit (qe_then_exit ?_))
  obtain rfl := oi ai
  have bW := aS _ rfl
  subst bW
  refine qe_block_eq ?_
  obtain rfl := oi aQ
  have bX := ah.sb (sd (sk sz))
  exact qd ⟨I, A, J, cs54, O, rfl, bX, a, hrow55, hm56⟩
 rintro _ cK ⟨X, H, Y, cs40, Z, rfl, bY, cL, hrow41, hm42⟩
 refine qr (mv rfl (av rfl (nq (wc_ret ?_))))
 obtain ⟨bZ, cM, b0, b1⟩ := SH.freezeI bY hrow41 hm42
 obtain rfl := oi aO
 exact er results39 ⟨rfl, trivial⟩ ⟨X, H, Y, bZ, rfl, b1, b0⟩

theorem ok_spec_l14Most (F : Nat) {w : World} {K : KMap} {i : Option Addr} {k l : Nat} {p0_blocks : List GBlock} {p1_id : Int} {r : Int} (hS : SH w K [] w K []) (m : SliceAt tGBlock K i k l p0_blocks) (aj : rng64 p1_id) (hm : M.spec_l14Most F p0_blocks p1_id = some r) :
  Calls Tryz.prog 119 #[.slice i k l, .int .i64 p1_id] w fun e w' => ∃ K', e = .returned (.int .i64 r) ∧ SH w K [] w' K' [] ∧ rng64 r := by
 rw [M.spec_l14Most] at hm
 refine calls_in func119 rfl ntmps119 rfl (sr (lv (rv_assign (v := .int .i64 0) rfl) (nsr (lv (rv_assign (v := .int .i64 0) rfl) (nq ?_)))))
 obtain ⟨D, G, d⟩ := ob hm
 refine wc_cutg (fun E' w' => ∃ x f, D = .inl x ∧ E' = [] ∧ SH w K [] w' f [] ∧ KLe K f) ?_ ?_
 ·refine wc_block ?_
  obtain ⟨ak, H, y⟩ := ob G
  refine qw (fun (o : Int) E' w' => ∃ a, E' = [(0, .slice i k l), (1, .int .i64 p1_id), (5, .int .i64 o)] ∧ SH w K [] w' a [] ∧ KLe K a ∧ rng64 o) H ⟨K, rfl, hS, (KLe.refl _), (by decide : rng64 0)⟩ ?_
  rintro o _ al am I A ⟨a, rfl, b, c, an⟩
  refine wc_seq (sr (mv rfl (mv rfl (lv (rv_len (t := tGBlock) underlying33 rfl (m.mono c)) (lv (rv_lss rfl rfl) (nq (wcc I rfl (fun J q => ?_) (fun J q => ?_))))))))
  ·refine wc_skip (qs (wc_block (sr (mv rfl (mv rfl (mv rfl ?_))))))
   obtain ⟨B, O, R⟩ := ob q
   refine li underlying33 tf45 (m.mono c) O fun S T ao U V => ?_
   obtain ⟨rfl, ap, aq⟩ := U
   have W : AtK _ S T [.int .i64 B.Last, .int .i64 B.Most] := V
   refine fa ff45_0 rfl (lv (rv_load1 tf3 rfl b (W 0 _ rfl)) (lv (rv_leq rfl rfl) (nq (wcc R rfl (fun X s => ?_) (fun X s => ?_)))))
   ·refine sr (mv rfl (mv rfl ?_))
    obtain ⟨C, Y, Z⟩ := ob s
    refine li underlying33 tf45 (m.mono c) Y fun aa ab ar ac ad => ?_
    obtain ⟨rfl, au, ae⟩ := ac
    have af : AtK _ aa ab [.int .i64 C.Last, .int .i64 C.Most] := ad
    refine fa ff45_1 rfl (lv (rv_load1 tf3 rfl b (af 1 _ rfl)) (av rfl (nq (wc_ret (qe_block_ret (qe_then_ret (qe_then_ret ?_)))))))
    obtain rfl := oi Z
    have ag := A _ rfl
    subst ag
    refine qe_block_ret (qe_then_ret ?_)
    obtain rfl := oi y
    refine qe_then_ret ?_
    obtain rfl := oi d
    exact er results119 ⟨rfl, trivial⟩ ⟨a, rfl, b, ae⟩
   refine wc_skip (qe_block (qe_seq (wc_region (mv rfl (lv (rv_add rfl rfl) (av rfl (wl_nil ?_)))))))
   obtain rfl := oi s
   exact qd ⟨_, rfl, a, rfl, b, c, (w64_rng _)⟩
  refine wc_exit (qe_then_exit (qe_then_exit ?_))
  obtain rfl := oi q
  have ah := A _ rfl
  subst ah
  refine qe_block_eq ?_
  obtain rfl := oi y
  exact qe_mid' ⟨_, a, rfl, rfl, b, c⟩ trivial
 rintro _ aw ⟨x, f, rfl, rfl, ai, ax⟩
 have d := elim_l d
 refine qr (lv (rv_assign (v := .int .i64 0) rfl) (nq (wc_ret ?_)))
 obtain rfl := oi d
 exact er results119 ⟨rfl, trivial⟩ ⟨f, rfl, ai, (by decide : rng64 0)⟩

theorem ok_spec_l13Less (F : Nat) {w : World} {K : KMap} {p0_a : GHit} {p1_b : GHit} {r : Bool} (hS : SH w K [] w K []) (y : rng64 p0_a.Doc) (A : rng64 p0_a.Points) (B : rng64 p1_b.Doc) (C : rng64 p1_b.Points) (hm : M.spec_l13Less F p0_a p1_b = some r) :
  Calls Tryz.prog 163 #[.agg #[.int .i64 p0_a.Doc, .int .i64 p0_a.Points], .agg #[.int .i64 p1_b.Doc, .int .i64 p1_b.Points]] w fun e w' => ∃ K', e = .returned (.bool r) ∧ SH w K [] w' K' [] := by
 rw [M.spec_l13Less] at hm
 refine calls_in func163 rfl ntmps163 rfl (sr (bx rfl hS fun i D k => ?_))
 have l : SH _ _ _ _ _ [obj i [.int .i64 p0_a.Doc, .int .i64 p0_a.Points] 124] := k
 refine bx rfl l fun m G o => ?_
 have c : SH _ _ _ _ _ [obj m [.int .i64 p1_b.Doc, .int .i64 p1_b.Points] 124, _] := o
 refine lv (rv_assign (v := .bool false) rfl) (nr (fa ff124_1 rfl (lv (rv_loadm1 tf3 rfl m1 c rfl) (fa ff124_1 rfl (lv (rv_loadm1 tf3 rfl m0 c rfl) (lv (rv_gtr rfl rfl) (mv rfl ?_)))))))
 rcases bool_tf (decide (p1_b.Points < p0_a.Points)) with a | a
 ·have d := cond_t a hm
  refine lu a (lu a (lu a (lu a (lu a (lu a (wl_un (uu rfl rfl) rfl (wl_un (uu rfl rfl) rfl (wl_un (uu rfl rfl) rfl (wl_un (uu rfl rfl) rfl ?_)))))))))
  refine wl_un (uu rfl rfl) rfl (lu a (lv (rv_pick_t (v := .bool true) rfl a rfl) (av rfl (nq (wc_ret ?_)))))
  obtain rfl := oi d
  have q := c.sb (sd (sd sz))
  exact er results163 ⟨rfl, trivial⟩ ⟨K, rfl, q⟩
 have d := cond_f a hm
 refine lg a (rv_fieldAddr ff124_1 rfl) (lg a (rv_loadm1 tf3 rfl m1 c rfl) (lg a (rv_fieldAddr ff124_1 rfl) (lg a (rv_loadm1 tf3 rfl m0 c rfl) (lg a (rv_eql rfl rfl) (lg a (rv_move rfl) ?_)))))
 rcases bool_tf ((p0_a.Points == p1_b.Points)) with b | b
 ·have f := cond_t b d
  refine lg b (rv_fieldAddr ff124_0 rfl) (lg b (rv_loadm1 tf3 rfl m1 c rfl) (lg b (rv_fieldAddr ff124_0 rfl) (lg b (rv_loadm1 tf3 rfl m0 c rfl) (lg b (rv_lss rfl rfl) (lg a (rv_pick_t rfl b rfl) (lv (rv_pick_f rfl a rfl) (av rfl (nq (wc_ret ?_)))))))))
  obtain rfl := oi f
  have s := c.sb (sd (sd sz))
  exact er results163 ⟨rfl, trivial⟩ ⟨K, rfl, s⟩
 have f := cond_f b d
 refine lu b (lu b (lu b (lu b (lu b (lg a (rv_pick_f (v := .bool false) rfl b rfl) (lv (rv_pick_f rfl a rfl) (av rfl (nq (wc_ret ?_)))))))))
 obtain rfl := oi f
 have x := c.sb (sd (sd sz))
 exact er results163 ⟨rfl, trivial⟩ ⟨K, rfl, x⟩

set_option maxHeartbeats 2000000 in
theorem ok_spec_l13Push (F : Nat) {w : World} {K : KMap} {d : Option Addr} {f i : Nat} {p0_list : List GHit} {p1_h : GHit} {p2_most : Int} {r : (List GHit)} (hS : SH w K [] w K []) (m : SliceAt tGHit K d f i p0_list) (C : rng64 p1_h.Doc) (D : rng64 p1_h.Points) (bg : rng64 p2_most) (hm : M.spec_l13Push F p0_list p1_h p2_most = some r) :
  Calls Tryz.prog 120 #[.slice d f i, .agg #[.int .i64 p1_h.Doc, .int .i64 p1_h.Points], .int .i64 p2_most] w fun e w' => ∃ a_1 n_2 c_3 K', e = .returned (.slice a_1 n_2 c_3) ∧ SH w K [] w' K' [] ∧ SliceAt tGHit K' a_1 n_2 c_3 r := by
 rw [M.spec_l13Push] at hm
 refine calls_in func120 rfl ntmps120 rfl (sr (bx rfl hS fun b w9 X => ?_))
 have Y : SH _ _ _ _ _ [obj b [.int .i64 p1_h.Doc, .int .i64 p1_h.Points] 124] := X
 refine lv (rv_assign (v := .slice none 0 0) rfl) (nr (lv (rv_assign (v := .int .i64 0) rfl) (ns ?_)))
 obtain ⟨G, Z, aa⟩ := ob hm
 refine wc_cutg (fun E' w' => ∃ s, E' = [(0, .slice d f i), (2, .int .i64 p2_most), (4, pt b), (7, .int .i64 G)] ∧ SH w K [] w' s [obj b [.int .i64 p1_h.Doc, .int .i64 p1_h.Points] 124] ∧ KLe K s ∧ rng64 G) ?_ ?_
 ·refine wc_block ?_
  obtain ⟨bi, ab, ac⟩ := ob Z
  refine qw (fun (k : Int) E' w' => ∃ o, E' = [(0, .slice d f i), (2, .int .i64 p2_most), (4, pt b), (7, .int .i64 k)] ∧ SH w K [] w' o [obj b [.int .i64 p1_h.Doc, .int .i64 p1_h.Points] 124] ∧ KLe K o ∧ rng64 k) ab ⟨K, rfl, Y, (KLe.refl _), (by decide : rng64 0)⟩ ?_
  rintro k _ bj bk ad ae ⟨o, rfl, af, q, ag⟩
  refine wc_seq (wc_seq ?_)
  obtain ⟨ah, H, ai⟩ := ob ad
  refine wc_cutg (fun E' w' => ∃ l, E' = [(0, .slice d f i), (2, .int .i64 p2_most), (4, pt b), (7, .int .i64 k), (20, .bool ah)] ∧ SH w K [] w' l [obj b [.int .i64 p1_h.Doc, .int .i64 p1_h.Points] 124] ∧ KLe o l) ?_ ?_
  ·refine wc_quiet mixed (by kernel_rfl) af (km rfl (km rfl (kv (rv_len (t := tGHit) underlying57 rfl (m.mono q)) (kv (rv_lss rfl rfl) (km rfl ?_)))))
   rcases bool_tf (decide (k < (p0_list.length : Int))) with a | a
   ·have x := cond_t a H
    refine kg a (rv_move rfl) (kg a (rv_move rfl) ?_)
    obtain ⟨c, aj, ak⟩ := ob x
    refine wq_indexAddr (t := tGHit) (wg rfl rfl a) rfl underlying57 tf124 rfl rfl (m.mono q) aj fun al am bl an ao => ?_
    obtain ⟨rfl, ap, aq⟩ := an
    have ar : AtK _ al am [.int .i64 c.Doc, .int .i64 c.Points] := ao
    refine kgh a (rq_loadS (cs := [.int .i64 c.Doc, .int .i64 c.Points]) tf124 rfl ar rfl) (kgh a (rq_loadmS (ds := [.int .i64 p1_h.Doc, .int .i64 p1_h.Points]) tf124 rfl m0 rfl rfl) ?_)
    obtain ⟨au, aw, ax⟩ := ob ak
    refine wq_call (v := .bool au) (wg rfl rfl a) rfl (fun _ => rt_call (vs := [.agg #[.int .i64 c.Doc, .int .i64 c.Points], .agg #[.int .i64 p1_h.Doc, .int .i64 p1_h.Points]]) co163 rfl) (fun bm ⟨bn, I, ay⟩ => ((ok_spec_l13Less F) I.enter0 ap aq C D aw).mono fun e w' ⟨K', he, hS'⟩ => ⟨he, K', I.call0 hS', ay.trans hS'.le⟩) (kv (rv_pick_t rfl a rfl) (wq_nil ?_))
    rintro bo ⟨az, aA, aB⟩
    obtain rfl := oi ax
    exact qd ⟨az, rfl, aA, aB⟩
   have x := cond_f a H
   refine kn a (kn a (kn a (kn a (kn a (kn a (kv (rv_pick_f (v := .bool false) rfl a rfl) (wq_nil ?_)))))))
   rintro w64 ⟨aC, aD, aE⟩
   obtain rfl := oi x
   exact qd ⟨aC, rfl, aD, aE⟩
  rintro _ bp ⟨l, rfl, J, O⟩
  refine qe_seq (wcc ai rfl (fun aF y => ?_) (fun aF y => ?_))
  ·refine wc_skip (qe_seq (wc_block (wc_region (mv rfl (lv (rv_add rfl rfl) (av rfl (nb ?_)))))))
   obtain rfl := oi y
   exact qd ⟨_, rfl, l, rfl, J, (q.trans O), (w64_rng _)⟩
  refine wc_exit (qe_then_exit (qe_then_exit ?_))
  obtain rfl := oi y
  have aG := ae _ rfl
  subst aG
  refine qe_block_eq ?_
  obtain rfl := oi ac
  exact qd ⟨l, rfl, J, (q.trans O), ag⟩
 rintro _ bq ⟨s, rfl, aH, R, br⟩
 refine qr (b0 tGHit underlying57 tf124 aH fun bs bt bu S aI aJ => (mv rfl (mv rfl ?_)))
 obtain ⟨bv, aK, aL⟩ := ob aa
 refine wl_sl_h (t := tGHit) wn rfl underlying57 tf124 rfl rfl (m.mono (R.trans S)) aK fun bw bz bA aM => ?_
 obtain ⟨bB, aN, aO⟩ := ob aL
 refine lp underlying57 tf124 aI aM aN aJ fun bC bD bE bF bG aP aQ T => (av rfl (nr (mv rfl (lv (rv_loadmS (ds := [.int .i64 p1_h.Doc, .int .i64 p1_h.Points]) tf124 rfl m1 T rfl rfl) (lb tGHit (.agg #[.int .i64 p1_h.Doc, .int .i64 p1_h.Points]) [.int .i64 p1_h.Doc, .int .i64 p1_h.Points] p1_h underlying57 tf124 ⟨rfl, C, D⟩ T fun bH bI bJ U aR aS => ?_)))))
 obtain ⟨bK, aT, aU⟩ := ob aO
 refine lp underlying57 tf124 (aQ.mono U) aR aT aS.f1 fun bL bM bN bO bP aV aW aX => (av rfl (nr (mv rfl (mv rfl (mv rfl ?_)))))
 obtain ⟨bQ, aY, aZ⟩ := ob aU
 refine wl_sl_l (t := tGHit) wn rfl underlying57 tf124 rfl rfl (SliceAt.mono ((((R.trans S).trans aP).trans U).trans aV) m) aY fun bR bS bT a0 => ?_
 obtain ⟨bU, a2, a3⟩ := ob aZ
 refine lp underlying57 tf124 aW a0 a2 aX fun a4 a5 a6 bV V bW A W => (av rfl (nsr (mv rfl (lv (rv_len (t := tGHit) underlying57 rfl A) (mv rfl (lv (rv_gtr rfl rfl) (nq (wcc a3 rfl (fun a7 B => ?_) (fun a7 B => ?_)))))))))
 ·refine sr (mv rfl (mv rfl ?_))
  obtain ⟨bX, a8, a9⟩ := ob B
  refine wl_sl_h (t := tGHit) wn rfl underlying57 tf124 rfl rfl A a8 fun ba bb bc bd => (av rfl (nq (rr ?_)))
  obtain rfl := oi a9
  have be := W.sb (sd (sd (sd sz)))
  exact er results120 ⟨rfl, trivial⟩ ⟨ba, bb, bc, V, rfl, be, bd⟩
 refine wc_skip (qr (mv rfl (av rfl (nq (wc_ret ?_)))))
 obtain rfl := oi B
 have bf := W.sb (sd (sd (sd sz)))
 exact er results120 ⟨rfl, trivial⟩ ⟨a4, a5, a6, V, rfl, bf, A⟩

set_option maxHeartbeats 2000000 in
theorem ok_spec_l14Fast (F : Nat) {w : World} {K : KMap} {a1 : Option Addr} {n2 c3 : Nat} {a5 : Option Addr} {n6 c7 : Nat} {d : Option Addr} {f i : Nat} {k : Option Addr} {l m : Nat} {J : Option Addr} {O R : Nat} {p0_c : GConf} {p1_s : GSeg} {p2_field : Str} {p3_terms : List Str} {p4_most : Int} {r : (List GHit) × Int} (hS : SH w K [] w K []) (dR : SliceAt tStr K a1 n2 c3 p0_c.Stops) (dS : SliceAt tGSyn K a5 n6 c7 p0_c.Syns) (au : SliceAt tGDoc K d f i p1_s.Docs) (a8 : SliceAt tGEntry K k l m p1_s.Entries) (ba : p2_field.length ≤ maxLen) (ag : SliceAt tStr K J O R p3_terms) (bv : rng64 p4_most) (hm : M.spec_l14Fast F p0_c p1_s p2_field p3_terms p4_most = some r) :
  Calls Tryz.prog 77 #[.agg #[.slice a1 n2 c3, .slice a5 n6 c7], .agg #[.slice d f i, .slice k l m], sv p2_field, .slice J O R, .int .i64 p4_most] w fun e w' => ∃ a_1 n_2 c_3 K', e = .returned (.tuple #[.slice a_1 n_2 c_3, .int .i64 r.2]) ∧ SH w K [] w' K' [] ∧ SliceAt tGHit K' a_1 n_2 c_3 r.1 ∧ rng64 r.2 := by
 rw [M.spec_l14Fast] at hm
 refine calls_in func77 rfl ntmps77 rfl (sr (bx rfl hS fun bw dT bz => ?_))
 have bA : SH _ _ _ _ _ [obj bw [.slice a1 n2 c3, .slice a5 n6 c7] 26] := bz
 refine bx rfl bA fun b dU bB => ?_
 have bC : SH _ _ _ _ _ [obj b [.slice d f i, .slice k l m] 30, _] := bB
 refine lv (rv_assign (v := .slice none 0 0) rfl) (lv (rv_assign (v := .int .i64 0) rfl) (nr (b0 tGHit underlying57 tf124 bC fun ah w32 dV I bD bE => (av rfl (nr (lv (rv_assign (v := .int .i64 0) rfl) (nr (wl_buildSlice0 (tSlice tGBlock) wn rfl underlying121 tf33 bE fun bF dW aR y bG bH => (av rfl ?_)))))))))
 refine nsr (lv (rv_assign (v := .int .i64 0) rfl) (nq ?_))
 obtain ⟨bI, bJ, bK⟩ := ob hm
 refine wc_cutg (fun E' w' => ∃ q s x X, E' = [(2, sv p2_field), (3, .slice J O R), (4, .int .i64 p4_most), (6, pt b), (12, .slice ah 0 0), (13, .int .i64 0), (14, .slice q s x)] ∧ SH w K [] w' X [obj b [.slice d f i, .slice k l m] 30, tail (.slice ah 0 0) 124 2, tail (.slice q s x) 33 1] ∧ KLe aR X ∧ SliceAt (tSlice tGBlock) X q s x bI) ?_ ?_
 ·refine wc_block ?_
  obtain ⟨dX, bL, bM⟩ := ob bJ
  have bN := bH.f1.f2.sb (sk (sk (sk (sd sz))))
  refine qw (fun (aw : (List (List GBlock)) × Int) E' w' => ∃ ai aj ak aa, E' = [(2, sv p2_field), (3, .slice J O R), (4, .int .i64 p4_most), (6, pt b), (12, .slice ah 0 0), (13, .int .i64 0), (14, .slice ai aj ak), (15, .int .i64 aw.2)] ∧ SH w K [] w' aa [obj b [.slice d f i, .slice k l m] 30, tail (.slice ah 0 0) 124 2, tail (.slice ai aj ak) 33 1] ∧ KLe aR aa ∧ SliceAt (tSlice tGBlock) aa ai aj ak aw.1 ∧ rng64 aw.2) bL ⟨bF, 0, 0, aR, rfl, bN, (KLe.refl _), bG, (by decide : rng64 0)⟩ ?_
  rintro aw _ dY dZ bO bP ⟨ai, aj, ak, aa, rfl, bb, ab, bc, d0⟩
  refine wc_seq (sr (mv rfl (mv rfl (lv (rv_len (t := tStr) underlying23 rfl (ag.mono ((I.trans y).trans ab))) (lv (rv_lss rfl rfl) (nq (wcc bO rfl (fun bQ aS => ?_) (fun bQ aS => ?_))))))))
  ·refine wc_skip (qs (wc_block ?_))
   have ax := bb.drew
   refine wh1 (fun w' => Holds aa w' ∧ HasObj b [.slice d f i, .slice k l m] w') (fun w' => True) 11 [] mixed ⟨ax.hasK (KLe.refl _), ax.hasObj m0⟩ (fun _ => trivial) (gt (rv_move rfl) (gh (fun _ h => rh_loadmS (ds := [.slice d f i, .slice k l m]) tf30 rfl rfl rfl h.2) (gt (rv_move rfl) (gt (rv_move rfl) (gt (rv_move rfl) ?_)))))
   obtain ⟨bd, bR, bS⟩ := ob aS
   refine gi underlying23 tf9 (ag.mono ((I.trans y).trans ab)) bR fun bT bU d1 bV bW => ?_
   obtain ⟨rfl, bX⟩ := bV
   have bY : AtK _ bT bU [sv bd] := bW
   refine gh (fun _ h => rh_load1 tf9 rfl (bY 0 _ rfl) h.1) (gn ?_)
   obtain ⟨bZ, b1, b2⟩ := ob bS
   refine lc (vs := [.agg #[.slice d f i, .slice k l m], sv p2_field, sv bd]) co39 ((ok_spec_l14Blocks F) ax.enter0 (au.mono ((I.trans y).trans ab)) (a8.mono ((I.trans y).trans ab)) ba bX b1) ?_
   rintro d2 d3 ⟨be, bf, bg, d4, rfl, ac, b3⟩
   refine ⟨_, rfl, ?_⟩
   have aT := (ax.c0 ac).t4
   refine wl_nil (qh ⟨aT.hasK ac.le, aT.hasObj m1⟩ (fun _ => trivial) (gn (lb (tSlice tGBlock) (.slice be bf bg) [.slice be bf bg] bZ underlying121 tf33 ⟨_, _, _, rfl, b3⟩ aT fun d5 d6 d7 ay b4 aU => (wl_nil (qh ⟨aU.hasK (ac.le.trans ay), aU.hasObj m2⟩ (fun _ => trivial) (gn ?_))))))
   obtain ⟨d8, b5, b6⟩ := ob b2
   refine lp underlying121 tf33 (bc.mono (ac.le.trans ay)) b4 b5 aU.f4 fun b7 b8 b9 d9 ca bh cb aV => (wl_nil (qh ⟨aV.hasK ((ac.le.trans ay).trans bh), aV.hasObj m3⟩ (fun _ => trivial) (gt (rv_assign rfl) (gd' (qe_block (qe_seq (wc_region (mv rfl (lv (rv_add rfl rfl) (av rfl ?_))))))))))
   refine wl_nil ?_
   obtain rfl := oi b6
   have cc := aV.f4.f4.sb (sk (sk (sk (sd (sd sz)))))
   exact qd ⟨_, rfl, b7, b8, b9, ca, rfl, cc, (((ab.trans ac.le).trans ay).trans bh), cb, (w64_rng _)⟩
  refine wc_exit (qe_then_exit (qe_then_exit ?_))
  obtain rfl := oi aS
  have cd := bP _ rfl
  subst cd
  refine qe_block_eq ?_
  obtain rfl := oi bM
  exact qd ⟨ai, aj, ak, aa, rfl, bb, ab, bc⟩
 rintro _ ea ⟨q, s, x, X, rfl, ce, U, cf⟩
 refine qs (sr (lv (rv_assign (v := .int .i64 0) rfl) (nq ?_)))
 obtain ⟨aW, cg, ch⟩ := ob bK
 refine wc_cutg (fun E' w' => ∃ az aA aB am, E' = [(12, .slice az aA aB), (13, .int .i64 aW.2)] ∧ SH w K [] w' am [] ∧ KLe X am ∧ SliceAt tGHit am az aA aB aW.1 ∧ rng64 aW.2) ?_ ?_
 ·refine wc_block ?_
  obtain ⟨eb, ci, cj⟩ := ob cg
  have ck := ce.sb (sk (sd (sk sz)))
  refine qw (fun (o : (List GHit) × Int × Int) E' w' => ∃ A B C V, E' = [(2, sv p2_field), (3, .slice J O R), (4, .int .i64 p4_most), (6, pt b), (12, .slice A B C), (13, .int .i64 o.2.1), (14, .slice q s x), (16, .int .i64 o.2.2)] ∧ SH w K [] w' V [obj b [.slice d f i, .slice k l m] 30, tail (.slice q s x) 33 1] ∧ KLe X V ∧ SliceAt tGHit V A B C o.1 ∧ rng64 o.2.1 ∧ rng64 o.2.2) ci ⟨ah, 0, 0, X, rfl, ck, (KLe.refl _), (bD.mono (y.trans U)), (by decide : rng64 0), (by decide : rng64 0)⟩ ?_
  rintro o _ ec ed cl cm ⟨A, B, C, V, rfl, an, D, ad, bi, ee⟩
  refine wc_seq (sr (mv rfl (fa ff30_0 rfl (lv (rv_loadm1 tf27 rfl m0 an rfl) (lv (rv_len (t := tGDoc) underlying27 rfl (SliceAt.mono (((I.trans y).trans U).trans D) au)) (lv (rv_lss rfl rfl) (nq (wcc cl rfl (fun cn aX => ?_) (fun cn aX => ?_)))))))))
  ·refine wc_skip (qs (wc_block (sr (fa ff30_0 rfl (lv (rv_loadm1 tf27 rfl m0 an rfl) (mv rfl ?_))))))
   obtain ⟨S, cp, cq⟩ := ob aX
   refine li underlying27 tf71 (SliceAt.mono (((I.trans y).trans U).trans D) au) cp fun cr ct ef cu cv => ?_
   obtain ⟨cw, cx, cy, cz, cA, cB, rfl, aY, eg, eh⟩ := cu
   have cC : AtK _ cr ct [.int .i64 S.Id, .slice cw cx cy, .slice cz cA cB] := cv
   refine fa ff71_0 rfl (lv (rv_load1 tf3 rfl an (cC 0 _ rfl)) (av rfl (nr (lv (rv_assign (v := .int .i64 0) rfl) (nsr (lv (rv_assign (v := .int .i64 0) rfl) (nq ?_)))))))
   obtain ⟨aZ, cD, cE⟩ := ob cq
   refine wc_cutg (fun E' w' => ∃ Y, E' = [(2, sv p2_field), (3, .slice J O R), (4, .int .i64 p4_most), (6, pt b), (12, .slice A B C), (13, .int .i64 o.2.1), (14, .slice q s x), (16, .int .i64 o.2.2), (17, .int .i64 S.Id), (18, .int .i64 aZ)] ∧ SH w K [] w' Y [obj b [.slice d f i, .slice k l m] 30, tail (.slice q s x) 33 1] ∧ KLe V Y ∧ rng64 aZ) ?_ ?_
   ·refine wc_block ?_
    obtain ⟨ei, cF, cG⟩ := ob cD
    refine qw (fun (ao : Int × Int) E' w' => ∃ aC, E' = [(2, sv p2_field), (3, .slice J O R), (4, .int .i64 p4_most), (6, pt b), (12, .slice A B C), (13, .int .i64 o.2.1), (14, .slice q s x), (16, .int .i64 o.2.2), (17, .int .i64 S.Id), (18, .int .i64 ao.1), (19, .int .i64 ao.2)] ∧ SH w K [] w' aC [obj b [.slice d f i, .slice k l m] 30, tail (.slice q s x) 33 1] ∧ KLe V aC ∧ rng64 ao.1 ∧ rng64 ao.2) cF ⟨V, rfl, an, (KLe.refl _), (by decide : rng64 0), (by decide : rng64 0)⟩ ?_
    rintro ao _ ej ek cH cI ⟨aC, rfl, aD, aE, cJ, el⟩
    refine wc_seq (sr (mv rfl (mv rfl (lv (rv_len (t := tStr) underlying23 rfl (SliceAt.mono ((((I.trans y).trans U).trans D).trans aE) ag)) (lv (rv_lss rfl rfl) (nq (wcc cH rfl (fun cK a0 => ?_) (fun cK a0 => ?_))))))))
    ·refine wc_skip (qs (wc_block (wc_region (mv rfl (mv rfl (mv rfl ?_))))))
     obtain ⟨em, cL, cM⟩ := ob a0
     refine li underlying121 tf33 (cf.mono (D.trans aE)) cL fun cN cO en cP cQ => ?_
     obtain ⟨bj, bk, bl, rfl, cR⟩ := cP
     have cS : AtK _ cN cO [.slice bj bk bl] := cQ
     refine lv (rv_load1 tf33 rfl aD (cS 0 _ rfl)) (mv rfl ?_)
     obtain ⟨eo, cT, cU⟩ := ob cM
     refine lc (vs := [.slice bj bk bl, .int .i64 S.Id]) co119 ((ok_spec_l14Most F) aD.enter0 cR aY cT) ?_
     rintro ep eq ⟨cV, rfl, bm, es⟩
     refine ⟨_, rfl, ?_⟩
     have cW := (aD.c0 bm).t2
     refine lv (rv_add rfl rfl) (av rfl (nb (qe_seq (wc_region (mv rfl (lv (rv_add rfl rfl) (av rfl (wl_nil ?_))))))))
     obtain rfl := oi cU
     exact qd ⟨_, rfl, cV, rfl, cW, (aE.trans bm.le), (w64_rng _), (w64_rng _)⟩
    refine wc_exit (qe_then_exit (qe_then_exit ?_))
    obtain rfl := oi a0
    have cX := cI _ rfl
    subst cX
    refine qe_block_eq ?_
    obtain rfl := oi cG
    exact qd ⟨aC, rfl, aD, aE, cJ⟩
   rintro _ et ⟨Y, rfl, aF, G, eu⟩
   refine qs (wc_seq ?_)
   obtain ⟨cY, bn, cZ⟩ := ob cE
   refine wc_cutg (fun E' w' => ∃ Z, E' = [(2, sv p2_field), (3, .slice J O R), (4, .int .i64 p4_most), (6, pt b), (12, .slice A B C), (13, .int .i64 o.2.1), (14, .slice q s x), (16, .int .i64 o.2.2), (17, .int .i64 S.Id), (84, .bool cY)] ∧ SH w K [] w' Z [obj b [.slice d f i, .slice k l m] 30, tail (.slice q s x) 33 1] ∧ KLe Y Z) ?_ ?_
   ·refine wc_region (mv rfl (lv (rv_eql rfl rfl) (mv rfl ?_)))
    rcases bool_tf ((aZ == (0 : Int))) with c | c
    ·have aG := cond_t c bn
     refine lu c (lu c (lu c (lu c (lu c (wl_un (uu rfl rfl) rfl (wl_un (uu rfl rfl) rfl (wl_un (uu rfl rfl) rfl (wl_un (uu rfl rfl) rfl (wl_un (uu rfl rfl) rfl ?_)))))))))
     refine wl_un (uu rfl rfl) rfl (wl_un (uu rfl rfl) rfl (wl_un (uu rfl rfl) rfl (lu c (lv (rv_pick_t (v := .bool true) rfl c rfl) (wl_nil ?_)))))
     obtain rfl := oi aG
     exact qd ⟨Y, rfl, aF, (KLe.refl _)⟩
    have aG := cond_f c bn
    refine lg c (rv_move rfl) (lg c (rv_len (t := tGHit) underlying57 rfl (ad.mono G)) (lg c (rv_move rfl) (lg c (rv_eql rfl rfl) (lg c (rv_move rfl) ?_))))
    rcases bool_tf (((o.1.length : Int) == p4_most)) with a | a
    ·have a2 := cond_t a aG
     refine lg a (rv_move rfl) (lg a (rv_move rfl) (lg a (rv_move rfl) (lg a (rv_sub rfl rfl) ?_)))
     obtain ⟨bo, c0, c1⟩ := ob a2
     refine wl_indexAddr (t := tGHit) (wg rfl rfl a) rfl underlying57 tf124 rfl rfl (ad.mono G) c0 fun c2 c4 ev c5 c6 => ?_
     obtain ⟨rfl, ew, ex⟩ := c5
     have c8 : AtK _ c2 c4 [.int .i64 bo.Doc, .int .i64 bo.Points] := c6
     refine lg a (rv_fieldAddr ff124_1 rfl) (lg a (rv_load1 tf3 rfl aF (c8 1 _ rfl)) (lg a (rv_leq rfl rfl) (lg c (rv_pick_t rfl a rfl) (lv (rv_pick_f rfl c rfl) (wl_nil ?_)))))
     obtain rfl := oi c1
     exact qd ⟨Y, rfl, aF, (KLe.refl _)⟩
    have a2 := cond_f a aG
    refine lu a (lu a (lu a (lu a (lu a (lu a (lu a (lu a (lg c (rv_pick_f (v := .bool false) rfl a rfl) (lv (rv_pick_f rfl c rfl) ?_)))))))))
    refine wl_nil ?_
    obtain rfl := oi a2
    exact qd ⟨Y, rfl, aF, (KLe.refl _)⟩
   rintro _ ey ⟨Z, rfl, bp, T⟩
   refine qe_seq (wcc cZ rfl (fun c9 a3 => ?_) (fun c9 a3 => ?_))
   ·refine wc_exit (qe_then_exit (qe_block_eq (qe_seq (wc_region (mv rfl (lv (rv_add rfl rfl) (av rfl (wl_nil ?_))))))))
    obtain rfl := oi a3
    exact qd ⟨_, rfl, A, B, C, Z, rfl, bp, ((D.trans G).trans T), (ad.mono (G.trans T)), bi, (w64_rng _)⟩
   refine wc_skip (qr (mv rfl (lv (rv_add rfl rfl) (av rfl (nr (mv rfl (lv (rv_build (cs := #[.int .i64 S.Id, .int .i64 0]) sp124 tf124 rfl (by kernel_rfl)) (al tf124 bp fun ae ez da => ?_))))))))
   have db : SH _ _ _ _ _ [obj ae [.int .i64 0, .int .i64 0] 124, _, _] := da
   refine ls [.int .i64 S.Id, .int .i64 0] (.agg #[.int .i64 S.Id, .int .i64 0]) tf124 db fun eA dc => (nsr (lv (rv_assign (v := .int .i64 0) rfl) (nq ?_)))
   obtain ⟨W, dd, de⟩ := ob a3
   refine wc_cutg (fun E' w' => ∃ aH, E' = [(2, sv p2_field), (3, .slice J O R), (4, .int .i64 p4_most), (6, pt b), (12, .slice A B C), (13, .int .i64 (w64 (o.2.1 + (1 : Int)))), (14, .slice q s x), (16, .int .i64 o.2.2), (20, pt ae)] ∧ SH w K [] w' aH [obj b [.slice d f i, .slice k l m] 30, obj ae [.int .i64 W.Doc, .int .i64 W.Points] 124, tail (.slice q s x) 33 1] ∧ KLe Z aH ∧ rng64 W.Doc ∧ rng64 W.Points) ?_ ?_
   ·refine wc_block ?_
    obtain ⟨eB, df, dg⟩ := ob dd
    refine qw (fun (H : Int × GHit) E' w' => ∃ ap, E' = [(2, sv p2_field), (3, .slice J O R), (4, .int .i64 p4_most), (6, pt b), (12, .slice A B C), (13, .int .i64 (w64 (o.2.1 + (1 : Int)))), (14, .slice q s x), (16, .int .i64 o.2.2), (17, .int .i64 S.Id), (20, pt ae), (21, .int .i64 H.1)] ∧ SH w K [] w' ap [obj b [.slice d f i, .slice k l m] 30, obj ae [.int .i64 H.2.Doc, .int .i64 H.2.Points] 124, tail (.slice q s x) 33 1] ∧ KLe Z ap ∧ rng64 H.1 ∧ rng64 H.2.Doc ∧ rng64 H.2.Points) df ⟨Z, rfl, dc.f2.f1.f2, (KLe.refl _), (by decide : rng64 0), aY, (by decide : rng64 0)⟩ ?_
    rintro H _ eC eD dh di ⟨ap, rfl, bq, af, eE, br, dj⟩
    refine wc_seq (sr (mv rfl (mv rfl (lv (rv_len (t := tStr) underlying23 rfl (SliceAt.mono ((((((I.trans y).trans U).trans D).trans G).trans T).trans af) ag)) (lv (rv_lss rfl rfl) (nq (wcc dh rfl (fun dk a4 => ?_) (fun dk a4 => ?_))))))))
    ·refine wc_skip (qs (wc_block ?_))
     have aq := bq.drew
     refine wh1 (fun w' => Holds ap w' ∧ HasObj b [.slice d f i, .slice k l m] w') (fun w' => HasObj ae [.int .i64 H.2.Doc, .int .i64 H.2.Points] w') 12 [(1, 10), (1, 11), (1, 12), (10, 11), (10, 12), (11, 12)] mixed ⟨aq.hasK (KLe.refl _), aq.hasObj m0⟩ (fun _ => aq.hasObj (.tail _ (.head _))) (gt (rv_fieldAddr ff124_1 rfl) (gf (fun _ h => rh_loadm1 tf3 rfl rfl h) (gh (fun _ h => rh_loadmS (ds := [.slice d f i, .slice k l m]) tf30 rfl rfl rfl h.2) (gt (rv_move rfl) (gt (rv_move rfl) (gt (rv_move rfl) ?_))))))
     obtain ⟨bs, dl, dm⟩ := ob a4
     refine gi underlying23 tf9 (SliceAt.mono ((((((I.trans y).trans U).trans D).trans G).trans T).trans af) ag) dl fun dn dp eF dq dr => ?_
     obtain ⟨rfl, dt⟩ := dq
     have du : AtK _ dn dp [sv bs] := dr
     refine gh (fun _ h => rh_load1 tf9 rfl (du 0 _ rfl) h.1) (gt (rv_move rfl) (gn ?_))
     obtain ⟨bt, dv, dw⟩ := ob dm
     refine lc (vs := [.agg #[.slice d f i, .slice k l m], sv p2_field, sv bs, .int .i64 S.Id]) co87 ((ok_spec_l12Points F) aq.enter0 (SliceAt.mono ((((((I.trans y).trans U).trans D).trans G).trans T).trans af) au) (SliceAt.mono ((((((I.trans y).trans U).trans D).trans G).trans T).trans af) a8) ba dt aY dv) ?_
     rintro eG eH ⟨dx, rfl, aI, eI⟩
     refine ⟨_, rfl, ?_⟩
     have aJ := (aq.c0 aI).t3
     refine wl_nil (qh ⟨aJ.hasK aI.le, aJ.hasObj m0⟩ (fun _ => aJ.hasObj (.tail _ (.head _))) (gt (rv_add rfl rfl) (gt (rv_fieldAddr ff124_1 rfl) (gn (ls [.int .i64 H.2.Doc, .int .i64 (w64 (H.2.Points + bt))] (.int .i64 (w64 (H.2.Points + bt))) tf3 aJ.f1 fun eJ a6 => (wl_nil (qh ⟨a6.hasK aI.le, a6.hasObj m1⟩ (fun h => nomatch h) (gd' (qe_block (qe_seq (wc_region ?_)))))))))))
     refine mv rfl (lv (rv_add rfl rfl) (av rfl (wl_nil ?_)))
     obtain rfl := oi dw
     exact qd ⟨_, rfl, dx, rfl, a6.f2.f1.f2, (af.trans aI.le), (w64_rng _), br, (w64_rng _)⟩
    refine wc_exit (qe_then_exit (qe_then_exit ?_))
    obtain rfl := oi a4
    have dy := di _ rfl
    subst dy
    refine qe_block_eq ?_
    obtain rfl := oi dg
    exact qd ⟨ap, rfl, bq, af, br, dj⟩
   rintro _ eK ⟨aH, rfl, ar, aK, dz, dA⟩
   refine qr (fa ff124_1 rfl (lv (rv_loadm1 tf3 rfl m1 ar rfl) (lv (rv_gtr rfl rfl) (nq (wcc de rfl (fun dB a7 => ?_) (fun dB a7 => ?_))))))
   ·refine wc_region (mv rfl (lv (rv_loadmS (ds := [.int .i64 W.Doc, .int .i64 W.Points]) tf124 rfl m1 ar rfl rfl) (mv rfl ?_)))
    obtain ⟨eL, dC, dD⟩ := ob a7
    refine lc (vs := [.slice A B C, .agg #[.int .i64 W.Doc, .int .i64 W.Points], .int .i64 p4_most]) co120 ((ok_spec_l13Push F) ar.enter0 (ad.mono ((G.trans T).trans aK)) dz dA bv dC) ?_
    rintro eM eN ⟨dE, dF, dG, dH, rfl, bu, dI⟩
    refine ⟨_, rfl, ?_⟩
    have dJ := (ar.c0 bu).t3
    refine av rfl (nb (qe_seq (wc_region (mv rfl (lv (rv_add rfl rfl) (av rfl (wl_nil ?_)))))))
    obtain rfl := oi dD
    have dK := dJ.sb (sk (sd (sk sz)))
    exact qd ⟨_, rfl, dE, dF, dG, dH, rfl, dK, ((((D.trans G).trans T).trans aK).trans bu.le), dI, (w64_rng _), (w64_rng _)⟩
   refine wc_skip (qe_block (qe_seq (wc_region (mv rfl (lv (rv_add rfl rfl) (av rfl (wl_nil ?_)))))))
   obtain rfl := oi a7
   have dL := ar.sb (sk (sd (sk sz)))
   exact qd ⟨_, rfl, A, B, C, aH, rfl, dL, (((D.trans G).trans T).trans aK), (ad.mono ((G.trans T).trans aK)), (w64_rng _), (w64_rng _)⟩
  refine wc_exit (qe_then_exit (qe_then_exit ?_))
  obtain rfl := oi aX
  have dM := cm _ rfl
  subst dM
  refine qe_block_eq ?_
  obtain rfl := oi cj
  have dN := an.sb (sd (sd sz))
  exact qd ⟨A, B, C, V, rfl, dN, D, ad, bi⟩
 rintro _ eO ⟨az, aA, aB, am, rfl, dO, eP, dP, dQ⟩
 refine qr (mv rfl (mv rfl (av rfl (av rfl (nq (wc_ret ?_))))))
 obtain rfl := oi ch
 exact qe_ret (vs := [_, _]) results77 ⟨rfl, rfl, trivial⟩ ⟨az, aA, aB, am, rfl, dO, dP, dQ⟩

set_option maxHeartbeats 2000000 in
theorem ok_spec_BoundTop (F : Nat) {w : World} {K : KMap} {a : Option Addr} {b c : Nat} {d : Option Addr} {f i : Nat} {l : Option Addr} {m o : Nat} {q : Option Addr} {s x : Nat} {T : Option Addr} {U V : Nat} {p0_c : GConf} {p1_s : GSeg} {p2_field : Str} {p3_words : List Str} {p4_most : Int} {r : (List GHit) × Int} (hS : SH w K [] w K []) (ae : SliceAt tStr K a b c p0_c.Stops) (af : SliceAt tGSyn K d f i p0_c.Syns) (aH : SliceAt tGDoc K l m o p1_s.Docs) (aI : SliceAt tGEntry K q s x p1_s.Entries) (aJ : p2_field.length ≤ maxLen) (ao : SliceAt tStr K T U V p3_words) (aK : rng64 p4_most) (hm : M.spec_BoundTop F p0_c p1_s p2_field p3_words p4_most = some r) :
  Calls Tryz.prog 27 #[.agg #[.slice a b c, .slice d f i], .agg #[.slice l m o, .slice q s x], sv p2_field, .slice T U V, .int .i64 p4_most] w fun e w' => ∃ a_1 n_2 c_3 K', e = .returned (.tuple #[.slice a_1 n_2 c_3, .int .i64 r.2]) ∧ SH w K [] w' K' [] ∧ SliceAt tGHit K' a_1 n_2 c_3 r.1 ∧ rng64 r.2 := by
 rw [M.spec_BoundTop] at hm
 refine calls_in func27 rfl ntmps27 rfl (sr (bx rfl hS fun G cg a0 => ?_))
 have a2 : SH _ _ _ _ _ [obj G [.slice a b c, .slice d f i] 26] := a0
 refine bx rfl a2 fun H ch a3 => ?_
 have ag : SH _ _ _ _ _ [obj H [.slice l m o, .slice q s x] 30, _] := a3
 refine lv (rv_assign (v := .slice none 0 0) rfl) (lv (rv_assign (v := .int .i64 0) rfl) (ns (wc_seq ?_)))
 obtain ⟨a4, a6, a7⟩ := ob hm
 refine wc_cutg (fun E' w' => ∃ ah, E' = [(2, sv p2_field), (3, .slice T U V), (4, .int .i64 p4_most), (5, pt G), (6, pt H), (33, .bool a4)] ∧ SH w K [] w' ah [obj G [.slice a b c, .slice d f i] 26, obj H [.slice l m o, .slice q s x] 30] ∧ KLe K ah) ?_ ?_
 ·refine wc_region (lv (rv_loadmS (ds := [.slice a b c, .slice d f i]) tf26 rfl m1 ag rfl rfl) (lv (rv_loadmS (ds := [.slice l m o, .slice q s x]) tf30 rfl m0 ag rfl rfl) ?_))
  obtain ⟨a8, ba, aL⟩ := ob a6
  refine lc (vs := [.agg #[.slice a b c, .slice d f i], .agg #[.slice l m o, .slice q s x]]) co38 ((ok_spec_l7Ok F) ag.enter0 ae af aH aI ba) ?_
  rintro ci cj ⟨bb, rfl, W⟩
  refine ⟨_, rfl, ?_⟩
  have ap := (ag.c0 W).t2
  refine lv (rv_not rfl) (mv rfl ?_)
  rcases bool_tf ((!a8)) with y | y
  ·have aq := cond_t y aL
   refine lu y (lu y (lu y (lv (rv_pick_t (v := .bool true) rfl y rfl) (mv rfl (lu rfl (lu rfl (lu rfl (lv (rv_pick_t (v := .bool true) rfl rfl rfl) (mv rfl ?_)))))))))
   refine lu rfl (lu rfl (lu rfl (lv (rv_pick_t (v := .bool true) rfl rfl rfl) (wl_nil ?_))))
   obtain rfl := oi aq
   exact qd ⟨bb, rfl, ap.f1, W.le⟩
  have aq := cond_f y aL
  refine lg y (rv_move rfl) ?_
  obtain ⟨bc, bd, aM⟩ := ob aq
  refine wl_call (wg rfl rfl y) rfl (rt_call (vs := [sv p2_field]) co72 rfl) ((ok_spec_l1WordOk F) ap.enter0 aJ bd) ?_
  rintro ck cl ⟨be, rfl, X⟩
  refine ⟨_, rfl, ?_⟩
  have ar := (ap.c0 X).t2
  refine lg y (rv_not rfl) (lv (rv_pick_f rfl y rfl) (mv rfl ?_))
  rcases bool_tf ((!bc)) with A | A
  ·have au := cond_t A aM
   refine lu A (lu A (lu A (lv (rv_pick_t (v := .bool true) rfl A rfl) (mv rfl (lu rfl (lu rfl (lu rfl (lv (rv_pick_t (v := .bool true) rfl rfl rfl) (wl_nil ?_)))))))))
   obtain rfl := oi au
   exact qd ⟨be, rfl, ar.f1, (W.le.trans X.le)⟩
  have au := cond_f A aM
  refine lg A (rv_move rfl) ?_
  obtain ⟨bf, bg, aN⟩ := ob au
  refine wl_call (wg rfl rfl A) rfl (rt_call (vs := [.slice T U V, .int .i64 4]) co73 rfl) ((ok_spec_l11Words F) ar.enter0 (ao.mono (W.le.trans X.le)) (by decide : rng64 4) bg) ?_
  rintro cm w64 ⟨bh, rfl, aw⟩
  refine ⟨_, rfl, ?_⟩
  have ax := (ar.c0 aw).t2
  refine lg A (rv_not rfl) (lv (rv_pick_f rfl A rfl) (mv rfl ?_))
  rcases bool_tf ((!bf)) with B | B
  ·have ay := cond_t B aN
   refine lu B (lu B (lu B (lv (rv_pick_t (v := .bool true) rfl B rfl) (wl_nil ?_))))
   obtain rfl := oi ay
   exact qd ⟨bh, rfl, ax.f1, ((W.le.trans X.le).trans aw.le)⟩
  have ay := cond_f B aN
  refine lg B (rv_move rfl) ?_
  obtain ⟨cn, bi, bj⟩ := ob ay
  refine wl_call (wg rfl rfl B) rfl (rt_call (vs := [.int .i64 p4_most, .int .i64 1, .int .i64 16]) co74 rfl) ((ok_spec_l1In F) ax.enter0 aK (by decide : rng64 1) (by decide : rng64 16) bi) ?_
  rintro cp cq ⟨bk, rfl, aO⟩
  refine ⟨_, rfl, ?_⟩
  have bl := (ax.c0 aO).t2
  refine lg B (rv_not rfl) (lv (rv_pick_f rfl B rfl) (wl_nil ?_))
  obtain rfl := oi bj
  exact qd ⟨bk, rfl, bl.f1, (((W.le.trans X.le).trans aw.le).trans aO.le)⟩
 rintro _ cr ⟨ah, rfl, aP, C⟩
 refine qe_seq (wcc a7 rfl (fun bm az => ?_) (fun bm az => ?_))
 ·refine sr (lv (rv_assign (v := .slice none 0 0) rfl) (lv (rv_assign (v := .int .i64 (-1)) rfl) (nq (rr ?_))))
  obtain rfl := oi az
  have bn := aP.sb (sd (sd sz))
  exact qe_ret (vs := [_, _]) results27 ⟨rfl, rfl, trivial⟩ ⟨none, 0, 0, ah, rfl, bn, (SliceAt.nil _ _), (by decide : rng64 (-1))⟩
 refine wc_skip (qr (b0 tStr underlying23 tf9 aP fun bo cs aA D bp bq => (av rfl (nsr (lv (rv_assign (v := .int .i64 0) rfl) (nq ?_))))))
 obtain ⟨br, bs, bt⟩ := ob az
 refine wc_cutg (fun E' w' => ∃ Y Z aa ai, E' = [(2, sv p2_field), (4, .int .i64 p4_most), (5, pt G), (6, pt H), (12, .slice Y Z aa)] ∧ SH w K [] w' ai [obj G [.slice a b c, .slice d f i] 26, obj H [.slice l m o, .slice q s x] 30, tail (.slice Y Z aa) 9 1] ∧ KLe aA ai ∧ SliceAt tStr ai Y Z aa br) ?_ ?_
 ·refine wc_block ?_
  obtain ⟨ct, bu, bv⟩ := ob bs
  refine qw (fun (ab : (List Str) × Int) E' w' => ∃ I J O ac, E' = [(2, sv p2_field), (3, .slice T U V), (4, .int .i64 p4_most), (5, pt G), (6, pt H), (12, .slice I J O), (13, .int .i64 ab.2)] ∧ SH w K [] w' ac [obj G [.slice a b c, .slice d f i] 26, obj H [.slice l m o, .slice q s x] 30, tail (.slice I J O) 9 1] ∧ KLe aA ac ∧ SliceAt tStr ac I J O ab.1 ∧ rng64 ab.2) bu ⟨bo, 0, 0, aA, rfl, bq.f2.f2, (KLe.refl _), bp, (by decide : rng64 0)⟩ ?_
  rintro ab _ cu cv bw bz ⟨I, J, O, ac, rfl, aB, R, aj, cw⟩
  refine wc_seq (sr (mv rfl (mv rfl (lv (rv_len (t := tStr) underlying23 rfl (ao.mono ((C.trans D).trans R))) (lv (rv_lss rfl rfl) (nq (wcc bw rfl (fun bA aC => ?_) (fun bA aC => ?_))))))))
  ·refine wc_skip (qs (wc_block (wc_seq (wc_quiet mixed (by kernel_rfl) aB (kh (rq_loadmS (ds := [.slice a b c, .slice d f i]) tf26 rfl m0 rfl rfl) (km rfl (km rfl ?_)))))))
   obtain ⟨aQ, bB, bC⟩ := ob aC
   refine ki underlying23 tf9 (ao.mono ((C.trans D).trans R)) bB fun bD bE cx bF bG => ?_
   obtain ⟨rfl, aR⟩ := bF
   have bH : AtK _ bD bE [sv aQ] := bG
   refine kh (rq_load1 tf9 rfl (bH 0 _ rfl)) ?_
   obtain ⟨S, aS, bI⟩ := ob bC
   refine wq_call (v := sv S) wn rfl (fun _ => rt_call (vs := [.agg #[.slice a b c, .slice d f i], sv aQ]) co75 rfl) (fun cy ⟨cz, aT, aD⟩ => ((ok_spec_TermOf F) aT.enter0 (SliceAt.mono (((C.trans D).trans R).trans aD) ae) (SliceAt.mono (((C.trans D).trans R).trans aD) af) aR aS).mono fun e w' ⟨K', he, hS', _⟩ => ⟨he, K', aT.call0 hS', aD.trans hS'.le⟩) ?_
   obtain ⟨_, _, _, ⟨_, _, _, aU⟩, _⟩ := (ok_spec_TermOf F) aB.enter0 (ae.mono ((C.trans D).trans R)) (af.mono ((C.trans D).trans R)) aR aS []
   refine kv (rv_assign rfl) (wq_nil ?_)
   rintro cA ⟨aV, aE, ad⟩
   refine qs ?_
   obtain ⟨bJ, aW, bK⟩ := ob bI
   refine wc_cutg (fun E' w' => ∃ ak, E' = [(2, sv p2_field), (3, .slice T U V), (4, .int .i64 p4_most), (5, pt G), (6, pt H), (12, .slice I J O), (13, .int .i64 ab.2), (14, sv S), (54, .bool bJ)] ∧ SH w K [] w' ak [obj G [.slice a b c, .slice d f i] 26, obj H [.slice l m o, .slice q s x] 30, tail (.slice I J O) 9 1] ∧ KLe aV ak) ?_ ?_
   ·refine wc_region (mv rfl (lv (rv_sneq (r := ([] : Str)) rfl rfl) (mv rfl ?_)))
    rcases bool_tf ((!(S == ([] : Str)))) with k | k
    ·have aF := cond_t k aW
     refine lg k (rv_move rfl) (lg k (rv_move rfl) ?_)
     obtain ⟨cB, bL, bM⟩ := ob aF
     refine wl_call (wg rfl rfl k) rfl (rt_call (vs := [.slice I J O, sv S]) co76 rfl) ((ok_spec_l2Has F) aE.enter0 (aj.mono ad) aU bL) ?_
     rintro cC cD ⟨bN, rfl, aX⟩
     refine ⟨_, rfl, ?_⟩
     have bO := (aE.c0 aX).t3
     refine lg k (rv_not rfl) (lv (rv_pick_t rfl k rfl) (wl_nil ?_))
     obtain rfl := oi bM
     exact qd ⟨bN, rfl, bO, aX.le⟩
    have aF := cond_f k aW
    refine lu k (lu k (lu k (lu k (lv (rv_pick_f (v := .bool false) rfl k rfl) (wl_nil ?_)))))
    obtain rfl := oi aF
    exact qd ⟨aV, rfl, aE, (KLe.refl _)⟩
   rintro _ cE ⟨ak, rfl, aY, al⟩
   refine qe_seq (wcc bK rfl (fun bP aG => ?_) (fun bP aG => ?_))
   ·refine wc_region (mv rfl (mv rfl (lb tStr (sv S) [sv S] S underlying23 tf9 ⟨rfl, aU⟩ aY fun cF cG cH aZ bQ bR => ?_)))
    obtain ⟨cI, bS, bT⟩ := ob aG
    refine lp underlying23 tf9 (aj.mono ((ad.trans al).trans aZ)) bQ bS bR.f3 fun bU bV bW cJ bX bY bZ b1 => (av rfl (nb (qe_seq (wc_region (mv rfl (lv (rv_add rfl rfl) (av rfl (wl_nil ?_))))))))
    obtain rfl := oi bT
    have b2 := b1.f3.f3.sb (sk (sk (sk (sd sz))))
    exact qd ⟨_, rfl, bU, bV, bW, bX, rfl, b2, ((((R.trans ad).trans al).trans aZ).trans bY), bZ, (w64_rng _)⟩
   refine wc_skip (qe_block (qe_seq (wc_region (mv rfl (lv (rv_add rfl rfl) (av rfl (wl_nil ?_)))))))
   obtain rfl := oi aG
   exact qd ⟨_, rfl, I, J, O, ak, rfl, aY, ((R.trans ad).trans al), (aj.mono (ad.trans al)), (w64_rng _)⟩
  refine wc_exit (qe_then_exit (qe_then_exit ?_))
  obtain rfl := oi aC
  have b3 := bz _ rfl
  subst b3
  refine qe_block_eq ?_
  obtain rfl := oi bv
  exact qd ⟨I, J, O, ac, rfl, aB, R, aj⟩
 rintro _ cK ⟨Y, Z, aa, ai, rfl, am, an, b4⟩
 refine qr (lv (rv_loadmS (ds := [.slice a b c, .slice d f i]) tf26 rfl m0 am rfl rfl) (lv (rv_loadmS (ds := [.slice l m o, .slice q s x]) tf30 rfl m1 am rfl rfl) (mv rfl (mv rfl (mv rfl ?_)))))
 obtain ⟨cL, b5, b6⟩ := ob bt
 refine lc (vs := [.agg #[.slice a b c, .slice d f i], .agg #[.slice l m o, .slice q s x], sv p2_field, .slice Y Z aa, .int .i64 p4_most]) co77 ((ok_spec_l14Fast F) am.enter0 (ae.mono ((C.trans D).trans an)) (af.mono ((C.trans D).trans an)) (aH.mono ((C.trans D).trans an)) (aI.mono ((C.trans D).trans an)) aJ b4 aK b5) ?_
 rintro cM cN ⟨b7, b8, b9, ca, rfl, cb, cc, cd⟩
 refine ⟨_, rfl, ?_⟩
 have ce := (am.c0 cb).t3
 refine lv (rv_extract rfl rfl) (lv (rv_extract rfl rfl) (av rfl (av rfl (nq (wc_ret ?_)))))
 obtain rfl := oi b6
 have cf := ce.sb (sd (sd (sd sz)))
 exact qe_ret (vs := [_, _]) results27 ⟨rfl, rfl, trivial⟩ ⟨b7, b8, b9, ca, rfl, cf, cc, cd⟩

theorem ok_laws_foHits (F : Nat) {w : World} {K : KMap} {k : Option Addr} {l m : Nat} {o : Option Addr} {q s : Nat} {p0_a : List GHit} {p1_b : List GHit} {r : Bool} (hS : SH w K [] w K []) (x : SliceAt tGHit K k l m p0_a) (G : SliceAt tGHit K o q s p1_b) (hm : M.laws_foHits F p0_a p1_b = some r) :
  Calls Tryz.prog 28 #[.slice k l m, .slice o q s] w fun e w' => ∃ K', e = .returned (.bool r) ∧ SH w K [] w' K' [] := by
 rw [M.laws_foHits] at hm
 refine calls_in func28 rfl ntmps28 rfl (sr (lv (rv_assign (v := .bool false) rfl) (nsr (mv rfl (lv (rv_len (t := tGHit) underlying57 rfl x) (mv rfl (lv (rv_len (t := tGHit) underlying57 rfl G) (lv (rv_neq rfl rfl) (nq ?_)))))))))
 refine wc_cond rfl (fun y => ?_) (fun y => ?_)
 ·have A := cond_t y hm
  refine sr (lv (rv_assign (v := .bool false) rfl) (nq (rr ?_)))
  obtain rfl := oi A
  exact er results28 ⟨rfl, trivial⟩ ⟨K, rfl, hS⟩
 have A := cond_f y hm
 refine wc_skip (qs (sr (lv (rv_assign (v := .int .i64 0) rfl) (nq ?_))))
 obtain ⟨T, U, d⟩ := ob A
 refine wc_cutg (fun E' w' => ∃ H f, T = .inl H ∧ E' = [] ∧ SH w K [] w' f [] ∧ KLe K f) ?_ ?_
 ·refine wc_block ?_
  obtain ⟨ar, V, I⟩ := ob U
  refine qw (fun (B : Int) E' w' => ∃ i, E' = [(0, .slice k l m), (1, .slice o q s), (5, .int .i64 B)] ∧ SH w K [] w' i [] ∧ KLe K i ∧ rng64 B) V ⟨K, rfl, hS, (KLe.refl _), (by decide : rng64 0)⟩ ?_
  rintro B _ au aw W J ⟨i, rfl, O, c, ax⟩
  refine wc_seq (sr (mv rfl (mv rfl (lv (rv_len (t := tGHit) underlying57 rfl (x.mono c)) (lv (rv_lss rfl rfl) (nq (wcc W rfl (fun X C => ?_) (fun X C => ?_))))))))
  ·refine wc_skip (qs (wc_block (wc_seq (wc_quiet mixed (by kernel_rfl) O (km rfl (km rfl ?_))))))
   obtain ⟨a, Y, Z⟩ := ob C
   refine ki underlying57 tf124 (x.mono c) Y fun aa ab ay ac ad => ?_
   obtain ⟨rfl, az, aA⟩ := ac
   have ae : AtK _ aa ab [.int .i64 a.Doc, .int .i64 a.Points] := ad
   refine kh (rq_loadS (cs := [.int .i64 a.Doc, .int .i64 a.Points]) tf124 rfl ae rfl) (km rfl (km rfl ?_))
   obtain ⟨b, af, ag⟩ := ob Z
   refine ki underlying57 tf124 (G.mono c) af fun ah ai aB aj ak => ?_
   obtain ⟨rfl, aC, aD⟩ := aj
   have al : AtK _ ah ai [.int .i64 b.Doc, .int .i64 b.Points] := ak
   refine kh (rq_loadS (cs := [.int .i64 b.Doc, .int .i64 b.Points]) tf124 rfl al rfl) (kv (rv_neS eqg124 rfl rfl (eqs124 a.Doc a.Points b.Doc b.Points)) (wq_nil ?_))
   rintro aE ⟨R, S, am⟩
   refine qe_seq (wcc ag rfl (fun an D => ?_) (fun an D => ?_))
   ·refine sr (lv (rv_assign (v := .bool false) rfl) (nq (wc_ret (qe_block_ret (qe_then_ret (qe_then_ret ?_))))))
    obtain rfl := oi D
    have ao := J _ rfl
    subst ao
    refine qe_block_ret (qe_then_ret ?_)
    obtain rfl := oi I
    refine qe_then_ret ?_
    obtain rfl := oi d
    exact er results28 ⟨rfl, trivial⟩ ⟨R, rfl, S⟩
   refine wc_skip (qe_block (qe_seq (wc_region (mv rfl (lv (rv_add rfl rfl) (av rfl (wl_nil ?_)))))))
   obtain rfl := oi D
   exact qd ⟨_, rfl, R, rfl, S, (c.trans am), (w64_rng _)⟩
  refine wc_exit (qe_then_exit (qe_then_exit ?_))
  obtain rfl := oi C
  have ap := J _ rfl
  subst ap
  refine qe_block_eq ?_
  obtain rfl := oi I
  exact qe_mid' ⟨_, i, rfl, rfl, O, c⟩ trivial
 rintro _ aF ⟨H, f, rfl, rfl, aq, aG⟩
 have d := elim_l d
 refine qr (lv (rv_assign (v := .bool true) rfl) (nq (wc_ret ?_)))
 obtain rfl := oi d
 exact er results28 ⟨rfl, trivial⟩ ⟨f, rfl, aq⟩

set_option maxHeartbeats 2000000 in
theorem ok_laws_FnBoundLooks (F : Nat) {w : World} {K : KMap} {a1 : Option Addr} {n2 c3 : Nat} {p0_code : List UInt8} {r : Bool} (hS : SH w K [] w K []) (aK : SliceAt tU8 K a1 n2 c3 p0_code) (hm : M.laws_FnBoundLooks F p0_code = some r) :
  Calls Tryz.prog 5 #[.slice a1 n2 c3] w fun e w' => ∃ K', e = .returned (.bool r) ∧ SH w K [] w' K' [] := by
 rw [M.laws_FnBoundLooks] at hm
 refine calls_in func5 rfl ntmps5 rfl (sr (lv (rv_assign (v := .bool false) rfl) (nsr (mv rfl (lv (rv_len (t := tU8) underlying22 rfl aK) (lv (rv_gtr rfl rfl) (nq (wc_cond rfl (fun ah => ?_) (fun ah => ?_)))))))))
 ·have h6 := cond_t ah hm
  refine sr (lv (rv_assign (v := .bool true) rfl) (nq (rr ?_)))
  obtain rfl := oi h6
  exact er results5 ⟨rfl, trivial⟩ ⟨K, rfl, hS⟩
 have h6 := cond_f ah hm
 refine wc_skip (qr (mv rfl ?_))
 obtain ⟨J, aW, h9⟩ := ob h6
 refine lc (vs := [.slice a1 n2 c3]) co25 ((ok_spec_DrawBoundTop F) hS.enter0 aK aW) ?_
 rintro bx bz ⟨l, m, o, q, s, x, y, A, B, C, D, G, U, V, W, bA, rfl, aY, aj, ak, X, am, an, ao, aL⟩
 refine ⟨_, rfl, ?_⟩
 have aZ := (hS.c0 aY).t4
 refine mv rfl (lv (rv_extract rfl rfl) (lv (rv_extract rfl rfl) (lv (rv_extract rfl rfl) (lv (rv_extract rfl rfl) (lv (rv_extract rfl rfl) (al tf26 aZ fun ap bB a0 => ?_))))))
 have a2 : SH _ _ _ _ _ [obj ap [.slice none 0 0, .slice none 0 0] 26, _, _, _, _] := a0
 refine al tf30 a2 fun aq bC a3 => ?_
 have a4 : SH _ _ _ _ _ [obj aq [.slice none 0 0, .slice none 0 0] 30, _, _, _, _, _] := a3
 refine ls [.slice l m o, .slice q s x] (.agg #[.slice l m o, .slice q s x]) tf26 a4.f1 fun bD a5 => (ls [.slice y A B, .slice C D G] (.agg #[.slice y A B, .slice C D G]) tf30 a5.f1 fun bE Y => (av rfl (av rfl (av rfl (nr (lv (rv_loadmS (ds := [.slice l m o, .slice q s x]) tf26 rfl m1 Y rfl rfl) (lv (rv_loadmS (ds := [.slice y A B, .slice C D G]) tf30 rfl m0 Y rfl rfl) (mv rfl (mv rfl ?_)))))))))
 refine mv rfl ?_
 obtain ⟨R, a6, a7⟩ := ob h9
 refine lc (vs := [.agg #[.slice l m o, .slice q s x], .agg #[.slice y A B, .slice C D G], sv J.2.2.1, .slice U V W, .int .i64 J.2.2.2.2]) co26 ((ok_impl_BoundTop F) Y.enter0 aj ak X am an ao aL a6) ?_
 rintro bF bG ⟨ar, au, aw, bH, rfl, d, ax, bI⟩
 refine ⟨_, rfl, ?_⟩
 have Z := (Y.c0 d).t7
 refine mv rfl (lv (rv_extract rfl rfl) (lv (rv_extract rfl rfl) (av rfl (av rfl (nr (lv (rv_loadmS (ds := [.slice l m o, .slice q s x]) tf26 rfl m2 Z rfl rfl) (lv (rv_loadmS (ds := [.slice y A B, .slice C D G]) tf30 rfl m1 Z rfl rfl) (mv rfl (mv rfl ?_)))))))))
 refine mv rfl ?_
 obtain ⟨ay, a8, a9⟩ := ob a7
 refine lc (vs := [.agg #[.slice l m o, .slice q s x], .agg #[.slice y A B, .slice C D G], sv J.2.2.1, .slice U V W, .int .i64 J.2.2.2.2]) co27 ((ok_spec_BoundTop F) Z.enter0 (aj.mono d.le) (ak.mono d.le) (X.mono d.le) (am.mono d.le) an (ao.mono d.le) aL a8) ?_
 rintro bJ bK ⟨az, aA, aB, aM, rfl, k, aN, bL⟩
 refine ⟨_, rfl, ?_⟩
 have aC := (Z.c0 k).t7
 refine mv rfl (lv (rv_extract rfl rfl) (lv (rv_extract rfl rfl) (av rfl (av rfl (ns (wc_seq ?_))))))
 obtain ⟨ba, aO, bb⟩ := ob a9
 refine wc_cutg (fun E' w' => ∃ S, E' = [(3, pt ap), (4, pt aq), (5, sv J.2.2.1), (6, .slice U V W), (8, .slice ar au aw), (9, .int .i64 R.2), (10, .slice az aA aB), (11, .int .i64 ay.2), (55, .bool ba)] ∧ SH w K [] w' S [obj ap [.slice l m o, .slice q s x] 26, obj aq [.slice y A B, .slice C D G] 30] ∧ KLe aM S) ?_ ?_
 ·refine wc_region (mv rfl (mv rfl (lv (rv_neq rfl rfl) (mv rfl ?_))))
  rcases bool_tf ((!(R.2 == ay.2))) with b | b
  ·have aD := cond_t b aO
   refine lu b (lu b (lu b (lu b (lv (rv_pick_t (v := .bool true) rfl b rfl) (mv rfl (lu rfl (lu rfl (lv (rv_pick_t (v := .bool true) rfl rfl rfl) (wl_nil ?_)))))))))
   obtain rfl := oi aD
   have bc := aC.f1.f2.sb (sk (sk (sd (sd (sd (sd (sd sz)))))))
   exact qd ⟨aM, rfl, bc, (KLe.refl _)⟩
  have aD := cond_f b aO
  refine lg b (rv_move rfl) (lg b (rv_move rfl) ?_)
  obtain ⟨bd, be, aP⟩ := ob aD
  refine wl_call (wg rfl rfl b) rfl (rt_call (vs := [.slice ar au aw, .slice az aA aB]) co28 rfl) ((ok_laws_foHits F) aC.enter0 (ax.mono k.le) aN be) ?_
  rintro bM bN ⟨aQ, rfl, aE⟩
  refine ⟨_, rfl, ?_⟩
  have aR := (aC.c0 aE).t7
  refine lg b (rv_not rfl) (lv (rv_pick_f rfl b rfl) (mv rfl ?_))
  rcases bool_tf ((!bd)) with H | H
  ·have aF := cond_t H aP
   refine lu H (lu H (lv (rv_pick_t (v := .bool true) rfl H rfl) (wl_nil ?_)))
   obtain rfl := oi aF
   have bf := aR.f1.f2.sb (sk (sk (sd (sd (sd (sd (sd sz)))))))
   exact qd ⟨aQ, rfl, bf, aE.le⟩
  have aF := cond_f H aP
  refine lg H (rv_move rfl) (lg H (rv_lss rfl rfl) (lv (rv_pick_f rfl H rfl) (wl_nil ?_)))
  obtain rfl := oi aF
  have bg := aR.f1.f2.sb (sk (sk (sd (sd (sd (sd (sd sz)))))))
  exact qd ⟨aQ, rfl, bg, aE.le⟩
 rintro _ bO ⟨S, rfl, O, I⟩
 refine qe_seq (wcc bb rfl (fun bh aG => ?_) (fun bh aG => ?_))
 ·refine wc_seq ?_
  obtain ⟨bi, aS, bj⟩ := ob aG
  refine wc_cutg (fun E' w' => ∃ aa, E' = [(2, .bool bi)] ∧ SH w K [] w' aa [] ∧ KLe S aa) ?_ ?_
  ·refine wc_region (mv rfl (mv rfl (lv (rv_eql rfl rfl) (mv rfl ?_))))
   rcases bool_tf ((R.2 == ay.2)) with f | f
   ·have aH := cond_t f aS
    refine lg f (rv_move rfl) (lg f (rv_move rfl) ?_)
    obtain ⟨bP, bk, bl⟩ := ob aH
    refine wl_call (wg rfl rfl f) rfl (rt_call (vs := [.slice ar au aw, .slice az aA aB]) co28 rfl) ((ok_laws_foHits F) O.enter0 (ax.mono (k.le.trans I)) (aN.mono I) bk) ?_
    rintro bQ bR ⟨bm, rfl, aT⟩
    refine ⟨_, rfl, ?_⟩
    have bn := (O.c0 aT).t2
    refine lv (rv_pick_t rfl f rfl) (av rfl (wl_nil ?_))
    obtain rfl := oi bl
    have bo := bn.sb (sd (sd sz))
    exact qd ⟨bm, rfl, bo, aT.le⟩
   have aH := cond_f f aS
   refine lu f (lu f (lu f (lv (rv_pick_f (v := .bool false) rfl f rfl) (av rfl (wl_nil ?_)))))
   obtain rfl := oi aH
   have bp := O.sb (sd (sd sz))
   exact qd ⟨S, rfl, bp, (KLe.refl _)⟩
  rintro _ bS ⟨aa, rfl, bq, bT⟩
  refine qe_seq (rr ?_)
  obtain rfl := oi bj
  exact er results5 ⟨rfl, trivial⟩ ⟨aa, rfl, bq⟩
 refine wc_skip (qr (lv (rv_loadmS (ds := [.slice l m o, .slice q s x]) tf26 rfl m0 O rfl rfl) (lv (rv_loadmS (ds := [.slice y A B, .slice C D G]) tf30 rfl m1 O rfl rfl) (mv rfl (mv rfl ?_)))))
 obtain ⟨aU, br, aV⟩ := ob aG
 refine lc (vs := [.agg #[.slice l m o, .slice q s x], .agg #[.slice y A B, .slice C D G], sv J.2.2.1, .slice U V W, .int .i64 16]) co26 ((ok_impl_BoundTop F) O.enter0 (aj.mono ((d.le.trans k.le).trans I)) (ak.mono ((d.le.trans k.le).trans I)) (X.mono ((d.le.trans k.le).trans I)) (am.mono ((d.le.trans k.le).trans I)) an (ao.mono ((d.le.trans k.le).trans I)) (by decide : rng64 16) br) ?_
 rintro bU bV ⟨bW, bX, bY, ab, rfl, aI, bs, bZ⟩
 refine ⟨_, rfl, ?_⟩
 have T := (O.c0 aI).t3
 refine mv rfl (lv (rv_extract rfl rfl) (lv (rv_extract rfl rfl) (av rfl (av rfl (nr (mv rfl (mv rfl (lv (rv_len (t := tGHit) underlying57 rfl (ax.mono ((k.le.trans I).trans aI.le))) (lv (rv_geq rfl rfl) ?_)))))))))
 refine mv rfl ?_
 rcases bool_tf (decide ((R.1.length : Int) ≤ R.2)) with i | i
 ·have ac := cond_t i aV
  refine lg i (rv_move rfl) (lg i (rv_move rfl) (lg i (rv_leq rfl rfl) (lv (rv_pick_t rfl i rfl) (mv rfl ?_))))
  rcases bool_tf (decide (R.2 ≤ aU.2)) with a | a
  ·have ad := cond_t a ac
   refine lg a (rv_move rfl) (lg a (rv_fieldAddr ff30_0 rfl) (lg a (rv_loadm1 tf27 rfl m2 T rfl) (lg a (rv_len (t := tGDoc) underlying27 rfl (SliceAt.mono (((d.le.trans k.le).trans I).trans aI.le) X)) (lg a (rv_leq rfl rfl) (lv (rv_pick_t rfl a rfl) (mv rfl ?_))))))
   rcases bool_tf (decide (aU.2 ≤ (J.2.1.Docs.length : Int))) with c | c
   ·have aJ := cond_t c ad
    refine lg c (rv_move rfl) (lg c (rv_len (t := tGHit) underlying57 rfl bs) (lg c (rv_move rfl) (lg c (rv_leq rfl rfl) (lv (rv_pick_t rfl c rfl) (av rfl (nq (wc_ret ?_)))))))
    obtain rfl := oi aJ
    have bt := T.sb (sd (sd (sd sz)))
    exact er results5 ⟨rfl, trivial⟩ ⟨ab, rfl, bt⟩
   have aJ := cond_f c ad
   refine lu c (lu c (lu c (lu c (lv (rv_pick_f (v := .bool false) rfl c rfl) (av rfl (nq (wc_ret ?_)))))))
   obtain rfl := oi aJ
   have bu := T.sb (sd (sd (sd sz)))
   exact er results5 ⟨rfl, trivial⟩ ⟨ab, rfl, bu⟩
  have ad := cond_f a ac
  refine lu a (lu a (lu a (lu a (lu a (lv (rv_pick_f (v := .bool false) rfl a rfl) (mv rfl (lu rfl (lu rfl (lu rfl ?_)))))))))
  refine lu rfl (lv (rv_pick_f (v := .bool false) rfl rfl rfl) (av rfl (nq (wc_ret ?_))))
  obtain rfl := oi ad
  have bv := T.sb (sd (sd (sd sz)))
  exact er results5 ⟨rfl, trivial⟩ ⟨ab, rfl, bv⟩
 have ac := cond_f i aV
 refine lu i (lu i (lu i (lv (rv_pick_f (v := .bool false) rfl i rfl) (mv rfl (lu rfl (lu rfl (lu rfl (lu rfl (lu rfl ?_)))))))))
 refine lv (rv_pick_f (v := .bool false) rfl rfl rfl) (mv rfl (lu rfl (lu rfl (lu rfl (lu rfl (lv (rv_pick_f (v := .bool false) rfl rfl rfl) (av rfl (nq (wc_ret ?_)))))))))
 obtain rfl := oi ac
 have bw := T.sb (sd (sd (sd sz)))
 exact er results5 ⟨rfl, trivial⟩ ⟨ab, rfl, bw⟩
end Go.Proofs.YtoeajphlomankaaGreatDoor
