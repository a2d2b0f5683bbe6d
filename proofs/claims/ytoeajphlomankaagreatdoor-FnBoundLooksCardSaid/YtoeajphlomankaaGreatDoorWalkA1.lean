/-
 Walks of the functions. Printed by gen.py.
-/
import Derived.Test.YtoeajphlomankaaGreatDoorWalkA0
set_option linter.unusedVariables false
set_option maxRecDepth 100000
namespace Go.Proofs.YtoeajphlomankaaGreatDoor
open Go Go.Fk Go.RowKit Tryz

set_option maxHeartbeats 2000000 in
theorem ok_spec_l7Post (F : Nat) {w : World} {K : KMap} {a : Option Addr} {b c : Nat} {d : Option Addr} {f i : Nat} {k : Option Addr} {l m : Nat} {o : Option Addr} {q s : Nat} {p0_c : GConf} {p1_d : GDoc} {p2_field : Str} {p3_term : Str} {r : (List Int)} (hS : SH w K [] w K []) (ah : SliceAt tStr K a b c p0_c.Stops) (ai : SliceAt tGSyn K d f i p0_c.Syns) (aj : rng64 p1_d.Id) (ak : SliceAt tGField K k l m p1_d.Fields) (al : SliceAt tGAttr K o q s p1_d.Nums) (am : p2_field.length ≤ maxLen) (bn : p3_term.length ≤ maxLen) (hm : M.spec_l7Post F p0_c p1_d p2_field p3_term = some r) :
  Calls Tryz.prog 172 #[.agg #[.slice a b c, .slice d f i], .agg #[.int .i64 p1_d.Id, .slice k l m, .slice o q s], sv p2_field, sv p3_term] w fun e w' => ∃ a_1 n_2 c_3 K', e = .returned (.slice a_1 n_2 c_3) ∧ SH w K [] w' K' [tail (.slice a_1 n_2 c_3) 3 1] ∧ SliceAt tInt K' a_1 n_2 c_3 r := by
 rw [M.spec_l7Post] at hm
 refine calls_in func172 rfl ntmps172 rfl (sr (bx rfl hS fun ad bo an => ?_))
 have ao : SH _ _ _ _ _ [obj ad [.slice a b c, .slice d f i] 26] := an
 refine bx rfl ao fun ae bp ap => ?_
 have aq : SH _ _ _ _ _ [obj ae [.int .i64 p1_d.Id, .slice k l m, .slice o q s] 71, _] := ap
 refine lv (rv_assign (v := .slice none 0 0) rfl) (nr (b0 tInt underlying39 tf3 aq fun ar bq au U aw ax => (av rfl (ns ?_))))
 have G := ax.drew
 refine wh1 (fun w' => Holds au w' ∧ HasObj ad [.slice a b c, .slice d f i] w' ∧ HasObj ae [.int .i64 p1_d.Id, .slice k l m, .slice o q s] w') (fun w' => True) 6 [] mixed ⟨G.hasK (KLe.refl _), G.hasObj m2, G.hasObj m1⟩ (fun _ => trivial) (gh (fun _ h => rh_loadmS (ds := [.slice a b c, .slice d f i]) tf26 rfl rfl rfl h.2.1) (gh (fun _ h => rh_loadmS (ds := [.int .i64 p1_d.Id, .slice k l m, .slice o q s]) tf71 rfl rfl rfl h.2.2) (gt (rv_move rfl) (gn ?_))))
 obtain ⟨ay, az, aA⟩ := ob hm
 refine lc (vs := [.agg #[.int .i64 p1_d.Id, .slice k l m, .slice o q s], sv p2_field]) co171 ((ok_spec_l6Field F) G.enter0 aj (ak.mono U) (al.mono U) am az) ?_
 rintro br bs ⟨bt, rfl, x, aB⟩
 refine ⟨_, rfl, ?_⟩
 have H := (G.c0 x).t3
 refine wl_nil (qh ⟨H.hasK x.le, H.hasObj m2, H.hasObj m1⟩ (fun _ => trivial) (gn ?_))
 obtain ⟨bu, aC, aD⟩ := ob aA
 refine lc (vs := [.agg #[.slice a b c, .slice d f i], sv ay]) co118 ((ok_spec_l2Terms F) H.enter0 (ah.mono (U.trans x.le)) (ai.mono (U.trans x.le)) aB aC) ?_
 rintro bv bw ⟨aE, aF, aG, X, rfl, Y, Z⟩
 refine ⟨_, rfl, ?_⟩
 have V := (H.c0 Y).t4
 refine wl_nil (qh ⟨V.hasK (x.le.trans Y.le), V.hasObj m3, V.hasObj m2⟩ (fun _ => trivial) (gt (rv_assign rfl) (gd' (qs (sr (lv (rv_assign (v := .int .i64 0) rfl) (nq ?_)))))))
 obtain ⟨aH, aI, aJ⟩ := ob aD
 refine wc_cutg (fun E' w' => ∃ I J O R, E' = [(9, .slice I J O)] ∧ SH w K [] w' R [tail (.slice I J O) 3 1] ∧ KLe X R ∧ SliceAt tInt R I J O aH) ?_ ?_
 ·refine wc_block ?_
  obtain ⟨bz, aK, aL⟩ := ob aI
  have aM := V.sb (sd (sk (sd (sd sz))))
  refine qw (fun (W : (List Int) × Int) E' w' => ∃ y A B C, E' = [(3, sv p3_term), (9, .slice y A B), (10, .slice aE aF aG), (11, .int .i64 W.2)] ∧ SH w K [] w' C [tail (.slice y A B) 3 1] ∧ KLe X C ∧ SliceAt tInt C y A B W.1 ∧ rng64 W.2) aK ⟨ar, 0, 0, X, rfl, aM, (KLe.refl _), (aw.mono (x.le.trans Y.le)), (by decide : rng64 0)⟩ ?_
  rintro W _ bA bB aN aO ⟨y, A, B, C, rfl, S, D, aa, bC⟩
  refine wc_seq (sr (mv rfl (mv rfl (lv (rv_len (t := tGTerm) underlying127 rfl (Z.mono D)) (lv (rv_lss rfl rfl) (nq (wcc aN rfl (fun aP ab => ?_) (fun aP ab => ?_))))))))
  ·refine wc_skip (qs (wc_block (sr (mv rfl (mv rfl ?_)))))
   obtain ⟨af, aQ, aR⟩ := ob ab
   refine li underlying127 tf130 (Z.mono D) aQ fun aS aT bD aU aV => ?_
   obtain ⟨rfl, bE, bF⟩ := aU
   have aW : AtK _ aS aT [sv af.Text, .int .i64 af.At] := aV
   refine fa ff130_0 rfl (lv (rv_load1 tf9 rfl S (aW 0 _ rfl)) (mv rfl (lv (rv_seql rfl rfl) (nq (wcc aR rfl (fun aX ac => ?_) (fun aX ac => ?_))))))
   ·refine wc_region (mv rfl (mv rfl (mv rfl ?_)))
    obtain ⟨T, aY, aZ⟩ := ob ac
    refine li underlying127 tf130 (Z.mono D) aY fun a0 a2 bG a3 a4 => ?_
    obtain ⟨rfl, bH, a6⟩ := a3
    have a7 : AtK _ a0 a2 [sv T.Text, .int .i64 T.At] := a4
    refine fa ff130_1 rfl (lv (rv_load1 tf3 rfl S (a7 1 _ rfl)) (lb tInt (.int .i64 T.At) [.int .i64 T.At] T.At underlying39 tf3 ⟨rfl, a6⟩ S fun bI bJ bK ag a8 a9 => ?_))
    obtain ⟨bL, ba, bb⟩ := ob aZ
    refine lp underlying39 tf3 (aa.mono ag) a8 ba a9.f1 fun bc bd be bM bf bg bh bi => (av rfl (nb (qe_seq (wc_region (mv rfl (lv (rv_add rfl rfl) (av rfl (wl_nil ?_))))))))
    obtain rfl := oi bb
    have bj := bi.sb (sk (sd sz))
    exact qd ⟨_, rfl, bc, bd, be, bf, rfl, bj, ((D.trans ag).trans bg), bh, (w64_rng _)⟩
   refine wc_skip (qe_block (qe_seq (wc_region (mv rfl (lv (rv_add rfl rfl) (av rfl (wl_nil ?_)))))))
   obtain rfl := oi ac
   exact qd ⟨_, rfl, y, A, B, C, rfl, S, D, aa, (w64_rng _)⟩
  refine wc_exit (qe_then_exit (qe_then_exit ?_))
  obtain rfl := oi ab
  have bk := aO _ rfl
  subst bk
  refine qe_block_eq ?_
  obtain rfl := oi aL
  exact qd ⟨y, A, B, C, rfl, S, D, aa⟩
 rintro _ bN ⟨I, J, O, R, rfl, bl, bO, bm⟩
 refine qr (mv rfl (av rfl (nq (wc_ret ?_))))
 obtain rfl := oi aJ
 exact er results172 ⟨rfl, trivial⟩ ⟨I, J, O, R, rfl, bl, bm⟩

set_option maxHeartbeats 2000000 in
theorem ok_spec_l7Entry (F : Nat) {w : World} {K : KMap} {l : Option Addr} {m o : Nat} {q : Option Addr} {s x : Nat} {X : Option Addr} {Y Z : Nat} {p0_c : GConf} {p1_docs : List GDoc} {p2_field : Str} {p3_term : Str} {r : GEntry} (hS : SH w K [] w K []) (aG : SliceAt tStr K l m o p0_c.Stops) (aH : SliceAt tGSyn K q s x p0_c.Syns) (aa : SliceAt tGDoc K X Y Z p1_docs) (ay : p2_field.length ≤ maxLen) (az : p3_term.length ≤ maxLen) (hm : M.spec_l7Entry F p0_c p1_docs p2_field p3_term = some r) :
  Calls Tryz.prog 134 #[.agg #[.slice l m o, .slice q s x], .slice X Y Z, sv p2_field, sv p3_term] w fun e w' => ∃ a_3 n_4 c_5 K', e = .returned (.agg #[sv r.Field, sv r.Term, .slice a_3 n_4 c_5]) ∧ SH w K [] w' K' [tail (.slice a_3 n_4 c_5) 42 2] ∧ r.Field.length ≤ maxLen ∧ r.Term.length ≤ maxLen ∧ SliceAt tGPost K' a_3 n_4 c_5 r.Posts := by
 rw [M.spec_l7Entry] at hm
 refine calls_in func134 rfl ntmps134 rfl (sr (bx rfl hS fun R bH aI => ?_))
 have aJ : SH _ _ _ _ _ [obj R [.slice l m o, .slice q s x] 26] := aI
 refine al tf86 aJ fun H bI aK => ?_
 have aL : SH _ _ _ _ _ [obj H [sv [], sv [], .slice none 0 0] 86, _] := aK
 refine nr (mv rfl (mv rfl (lv (rv_build (cs := #[sv p2_field, sv p3_term, .slice none 0 0]) sp86 tf86 rfl (by kernel_rfl)) (al tf86 aL fun D bJ aM => ?_))))
 have aN : SH _ _ _ _ _ [obj D [sv [], sv [], .slice none 0 0] 86, _, _] := aM
 refine ls [sv p2_field, sv p3_term, .slice none 0 0] (.agg #[sv p2_field, sv p3_term, .slice none 0 0]) tf86 aN fun bK aO => (nsr (lv (rv_assign (v := .int .i64 0) rfl) (nq ?_)))
 obtain ⟨a, aP, aQ⟩ := ob hm
 refine wc_cutg (fun E' w' => ∃ d f i I, E' = [(8, pt H), (9, pt D)] ∧ SH w K [] w' I [obj H [sv [], sv [], .slice none 0 0] 86, obj D [sv a.Field, sv a.Term, .slice d f i] 86, tail (.slice d f i) 42 2] ∧ KLe K I ∧ a.Field.length ≤ maxLen ∧ a.Term.length ≤ maxLen ∧ SliceAt tGPost I d f i a.Posts) ?_ ?_
 ·refine wc_block ?_
  obtain ⟨bL, aR, aS⟩ := ob aP
  have aT := aO.nil 42 2
  refine qw (fun (b : Int × GEntry) E' w' => ∃ y A B G, E' = [(1, .slice X Y Z), (2, sv p2_field), (3, sv p3_term), (4, pt R), (8, pt H), (9, pt D), (10, .int .i64 b.1)] ∧ SH w K [] w' G [obj R [.slice l m o, .slice q s x] 26, obj H [sv [], sv [], .slice none 0 0] 86, obj D [sv b.2.Field, sv b.2.Term, .slice y A B] 86, tail (.slice y A B) 42 2] ∧ KLe K G ∧ rng64 b.1 ∧ b.2.Field.length ≤ maxLen ∧ b.2.Term.length ≤ maxLen ∧ SliceAt tGPost G y A B b.2.Posts) aR ⟨none, 0, 0, K, rfl, aT.f1.f2.f3, (KLe.refl _), (by decide : rng64 0), ay, az, (SliceAt.nil _ _)⟩ ?_
  rintro b _ bM bN aU aV ⟨y, A, B, G, rfl, aA, k, bO, ab, ac, ad⟩
  refine wc_seq (sr (mv rfl (mv rfl (lv (rv_len (t := tGDoc) underlying27 rfl (aa.mono k)) (lv (rv_lss rfl rfl) (nq (wcc aU rfl (fun aW ae => ?_) (fun aW ae => ?_))))))))
  ·refine wc_skip (qs (wc_block (wc_seq ?_)))
   have S := aA.drew
   refine wh1 (fun w' => Holds G w' ∧ HasObj R [.slice l m o, .slice q s x] w') (fun w' => True) 9 [] mixed ⟨S.hasK (KLe.refl _), S.hasObj m0⟩ (fun _ => trivial) (gh (fun _ h => rh_loadmS (ds := [.slice l m o, .slice q s x]) tf26 rfl rfl rfl h.2) (gt (rv_move rfl) (gt (rv_move rfl) ?_)))
   obtain ⟨af, aX, aY⟩ := ob ae
   refine gi underlying27 tf71 (aa.mono k) aX fun aZ a0 bP a2 a3 => ?_
   obtain ⟨ag, ah, ai, aj, ak, am, rfl, a4, a6, a7⟩ := a2
   have a8 : AtK _ aZ a0 [.int .i64 af.Id, .slice ag ah ai, .slice aj ak am] := a3
   refine gh (fun _ h => rh_loadS (cs := [.int .i64 af.Id, .slice ag ah ai, .slice aj ak am]) tf71 rfl a8 rfl h.1) (gt (rv_move rfl) (gt (rv_move rfl) (gn ?_)))
   obtain ⟨ba, bb, bc⟩ := ob aY
   refine lc (vs := [.agg #[.slice l m o, .slice q s x], .agg #[.int .i64 af.Id, .slice ag ah ai, .slice aj ak am], sv p2_field, sv p3_term]) co172 ((ok_spec_l7Post F) S.enter0 (aG.mono k) (aH.mono k) a4 a6 a7 ay az bb) ?_
   rintro bQ bR ⟨T, U, V, aB, rfl, C, aC⟩
   refine ⟨_, rfl, ?_⟩
   have W := (S.c0 C).t5
   refine wl_nil (qh ⟨W.hasK C.le, W.hasObj m1⟩ (fun _ => trivial) (gt (rv_assign rfl) (gd' (qr (mv rfl (lv (rv_len (t := tInt) underlying39 rfl aC) (lv (rv_gtr rfl rfl) (nq (wcc bc rfl (fun bd an => ?_) (fun bd an => ?_))))))))))
   ·have ao := W.drew
    refine wh1 (fun w' => Holds aB w') (fun w' => HasObj D [sv b.2.Field, sv b.2.Term, .slice y A B] w') 12 [(1, 10), (1, 11), (1, 12), (10, 11), (10, 12), (11, 12)] mixed (ao.hasK (KLe.refl _)) (fun _ => ao.hasObj (.tail _ (.tail _ (.tail _ (.head _))))) (gt (rv_fieldAddr ff86_2 rfl) (gf (fun _ h => rh_loadm1 tf37 rfl rfl h) (gt (rv_move rfl) (gt (rv_move rfl) ?_))))
    obtain ⟨J, be, bf⟩ := ob an
    refine gi underlying27 tf71 (aa.mono (k.trans C.le)) be fun bg bh bS bi bj => ?_
    obtain ⟨bk, bl, bm, bn, bo, bp, rfl, bq, bT, bU⟩ := bi
    have br : AtK _ bg bh [.int .i64 J.Id, .slice bk bl bm, .slice bn bo bp] := bj
    refine gt (rv_fieldAddr ff71_0 rfl) (gh (fun _ h => rh_load1 tf3 rfl (br 0 _ rfl) h) (gt (rv_move rfl) (gt (rv_build (cs := #[.int .i64 J.Id, .slice T U V]) sp42 tf42 rfl (by kernel_rfl)) (gn (lb tGPost (.agg #[.int .i64 J.Id, .slice T U V]) [.int .i64 J.Id, .slice T U V] (GPost.mk J.Id ba) underlying37 tf42 ⟨T, U, V, rfl, bq, aC⟩ ao fun bV bW bX O bs ap => (wl_nil (qh (ap.hasK O) (fun _ => ap.hasObj (.tail _ (.tail _ (.tail _ (.tail _ (.head _)))))) (gn ?_))))))))
    obtain ⟨bY, bt, bu⟩ := ob bf
    refine lp underlying37 tf42 (ad.mono (C.le.trans O)) bs bt ap.f5 fun aq ar au bZ bv aw bw ax => (wl_nil (qh (ax.hasK (O.trans aw)) (fun _ => ax.hasObj (.tail _ (.tail _ (.tail _ (.tail _ (.tail _ (.head _))))))) (gt (rv_fieldAddr ff86_2 rfl) (gn (ls [sv b.2.Field, sv b.2.Term, .slice aq ar au] (.slice aq ar au) tf37 ax.f5 fun b0 aD => (wl_nil (qh (aD.hasK (O.trans aw)) (fun h => nomatch h) (gd' (qe_block (qe_seq (wc_region ?_)))))))))))
    refine mv rfl (lv (rv_add rfl rfl) (av rfl (wl_nil ?_)))
    obtain rfl := oi bu
    have bz := aD.f1.f1.f5.f5.sb (sk (sk (sk (sk (sd (sd sz))))))
    exact qd ⟨_, rfl, aq, ar, au, bv, rfl, bz, (((k.trans C.le).trans O).trans aw), (w64_rng _), ab, ac, bw⟩
   refine wc_skip (qe_block (qe_seq (wc_region (mv rfl (lv (rv_add rfl rfl) (av rfl (wl_nil ?_)))))))
   obtain rfl := oi an
   have bA := W.sb (sd (sk (sk (sk (sk sz)))))
   exact qd ⟨_, rfl, y, A, B, aB, rfl, bA, (k.trans C.le), (w64_rng _), ab, ac, (ad.mono C.le)⟩
  refine wc_exit (qe_then_exit (qe_then_exit ?_))
  obtain rfl := oi ae
  have bB := aV _ rfl
  subst bB
  refine qe_block_eq ?_
  obtain rfl := oi aS
  have bC := aA.sb (sd (sk (sk (sk sz))))
  exact qd ⟨y, A, B, G, rfl, bC, k, ab, ac, ad⟩
 rintro _ b1 ⟨d, f, i, I, rfl, aE, b2, bD, bE, bF⟩
 refine qr (lv (rv_loadmS (ds := [sv a.Field, sv a.Term, .slice d f i]) tf86 rfl m1 aE rfl rfl) (ls [sv a.Field, sv a.Term, .slice d f i] (.agg #[sv a.Field, sv a.Term, .slice d f i]) tf86 aE fun b3 aF => (nq (wc_ret ?_))))
 obtain rfl := oi aQ
 have bG := aF.sb (sd (sd (sk sz)))
 exact qe_ret (vs := [_]) results134 ⟨⟨_, _, rfl, run_loadVar_at tf86 (cs := [sv a.Field, sv a.Term, .slice d f i]) (fun j c e => by rw [Nat.zero_add, aF.mem_obj m0]; exact e) (.inl ⟨rfl, rfl, rfl⟩)⟩, trivial⟩ ⟨d, f, i, I, rfl, bG, bD, bE, bF⟩

theorem ok_spec_l7CopyDoc (F : Nat) {w : World} {K : KMap} {m : Option Addr} {o q : Nat} {s : Option Addr} {v x : Nat} {p0_d : GDoc} {r : GDoc} (hS : SH w K [] w K []) (ap : rng64 p0_d.Id) (aq : SliceAt tGField K m o q p0_d.Fields) (ar : SliceAt tGAttr K s v x p0_d.Nums) (hm : M.spec_l7CopyDoc F p0_d = some r) :
  Calls Tryz.prog 135 #[.agg #[.int .i64 p0_d.Id, .slice m o q, .slice s v x]] w fun e w' => ∃ a_2 n_3 c_4 a_6 n_7 c_8 K', e = .returned (.agg #[.int .i64 r.Id, .slice a_2 n_3 c_4, .slice a_6 n_7 c_8]) ∧ SH w K [] w' K' [tail (.slice a_2 n_3 c_4) 141 2, tail (.slice a_6 n_7 c_8) 189 2] ∧ rng64 r.Id ∧ SliceAt tGField K' a_2 n_3 c_4 r.Fields ∧ SliceAt tGAttr K' a_6 n_7 c_8 r.Nums := by
 rw [M.spec_l7CopyDoc] at hm
 refine calls_in func135 rfl ntmps135 rfl (sr (bx rfl hS fun D a3 aG => ?_))
 have aH : SH _ _ _ _ _ [obj D [.int .i64 p0_d.Id, .slice m o q, .slice s v x] 71] := aG
 refine al tf71 aH fun aI a4 aJ => ?_
 have aK : SH _ _ _ _ _ [obj aI [.int .i64 0, .slice none 0 0, .slice none 0 0] 71, _] := aJ
 refine ns ?_
 obtain ⟨a5, au, aL⟩ := ob hm
 obtain ⟨a7, aw, ax⟩ := ob aL
 refine wc_held (fun w' => Holds K w' ∧ HasObj D [.int .i64 p0_d.Id, .slice m o q, .slice s v x] w') (fun w' => True) 12 [] mixed ?_
 have b := aK.drew
 refine wg_val (i := 0) (listed' := #[true, false, false, false, false, false, false, false, false, false, false, false]) (fun _ => True) rfl (by kernel_rfl) (pk_then pk_body) (by kernel_rfl) rfl (by kernel_rfl) (by kernel_rfl) rfl (.inl fun _ _ => trivial) ⟨⟨b.hasK (KLe.refl _), b.hasObj m1⟩, (fun _ => trivial), by decide⟩ wn rfl (fun _ _ => (rv_fieldAddr ff71_0 rfl)) (wg_val (i := 1) (listed' := #[true, true, false, false, false, false, false, false, false, false, false, false]) (HasObj D [.int .i64 p0_d.Id, .slice m o q, .slice s v x]) rfl (by kernel_rfl) (pk_then pk_body) (by kernel_rfl) rfl (by kernel_rfl) (by kernel_rfl) rfl (.inl fun _ h => h.2) ⟨⟨b.hasK (KLe.refl _), b.hasObj m1⟩, (fun _ => trivial), by decide⟩ wn rfl (fun _ h => rh_loadm1 tf3 rfl rfl h) (wg_val (i := 3) (listed' := #[true, true, false, true, false, false, false, false, false, false, false, false]) (fun _ => True) rfl (by kernel_rfl) (pk_then pk_body) (by kernel_rfl) rfl (by kernel_rfl) (by kernel_rfl) rfl (.inl fun _ _ => trivial) ⟨⟨b.hasK (KLe.refl _), b.hasObj m1⟩, (fun _ => trivial), by decide⟩ wn rfl (fun _ _ => (rv_fieldAddr ff71_1 rfl)) ?_))
 refine wg_val (i := 4) (listed' := #[true, true, false, true, true, false, false, false, false, false, false, false]) (HasObj D [.int .i64 p0_d.Id, .slice m o q, .slice s v x]) rfl (by kernel_rfl) (pk_then pk_body) (by kernel_rfl) rfl (by kernel_rfl) (by kernel_rfl) rfl (.inl fun _ h => h.2) ⟨⟨b.hasK (KLe.refl _), b.hasObj m1⟩, (fun _ => trivial), by decide⟩ wn rfl (fun _ h => rh_loadm1 tf68 rfl rfl h) (wg_val (i := 7) (listed' := #[true, true, false, true, true, false, false, true, false, false, false, false]) (fun _ => True) rfl (by kernel_rfl) (pk_then pk_body) (by kernel_rfl) rfl (by kernel_rfl) (by kernel_rfl) rfl (.inl fun _ _ => trivial) ⟨⟨b.hasK (KLe.refl _), b.hasObj m1⟩, (fun _ => trivial), by decide⟩ wn rfl (fun _ _ => (rv_fieldAddr ff71_2 rfl)) (wg_val (i := 8) (listed' := #[true, true, false, true, true, false, false, true, true, false, false, false]) (HasObj D [.int .i64 p0_d.Id, .slice m o q, .slice s v x]) rfl (by kernel_rfl) (pk_then pk_body) (by kernel_rfl) rfl (by kernel_rfl) (by kernel_rfl) rfl (.inl fun _ h => h.2) ⟨⟨b.hasK (KLe.refl _), b.hasObj m1⟩, (fun _ => trivial), by decide⟩ wn rfl (fun _ h => rh_loadm1 tf69 rfl rfl h) (wg_many (l := [2, 6]) (by kernel_rfl) rfl ⟨⟨_, rfl, ?_⟩, ⟨_, rfl, ?_⟩, trivial⟩)))
 ·refine b0 tGField underlying68 tf141 b fun a8 a9 ba a aF ah => (wl_nil (qe_held (listed' := #[true, true, true, true, true, false, false, true, true, false, false, false]) rfl ⟨⟨ah.hasK a, ah.hasObj m2⟩, (fun _ => trivial), by decide⟩ (wg_many (l := [5, 6]) (by kernel_rfl) rfl ⟨⟨_, rfl, ?_⟩, ⟨_, rfl, ?_⟩, trivial⟩)))
  ·refine lp underlying68 tf141 aF (aq.mono a) au ah fun G H I bb bc y aM ay => (wl_nil (qe_held (listed' := #[true, true, true, true, true, true, false, true, true, false, false, false]) rfl ⟨⟨ay.hasK (a.trans y), ay.hasObj m2⟩, (fun _ => trivial), by decide⟩ (wg_one (i := 6) (by kernel_rfl) rfl (b0 tGAttr underlying69 tf189 ay fun bd be bf A aN az => (wl_nil (qe_held (listed' := #[true, true, true, true, true, true, true, true, true, false, false, false]) rfl ⟨⟨az.hasK ((a.trans y).trans A), az.hasObj m3⟩, (fun _ => trivial), by decide⟩ (wg_one (i := 9) (by kernel_rfl) rfl (lp underlying69 tf189 aN (ar.mono ((a.trans y).trans A)) aw az fun J O R bg aO ai aP S => (wl_nil (qe_held (listed' := #[true, true, true, true, true, true, true, true, true, true, false, false]) rfl ⟨⟨S.hasK (((a.trans y).trans A).trans ai), S.hasObj m3⟩, (fun _ => trivial), by decide⟩ ?_))))))))))
   refine wg_val (i := 10) (listed' := #[true, true, true, true, true, true, true, true, true, true, true, false]) (fun _ => True) rfl (by kernel_rfl) (pk_then pk_body) (by kernel_rfl) rfl (by kernel_rfl) (by kernel_rfl) rfl (.inl fun _ _ => trivial) ⟨⟨S.hasK (((a.trans y).trans A).trans ai), S.hasObj m3⟩, (fun _ => trivial), by decide⟩ wn rfl (fun _ _ => (rv_build (cs := #[.int .i64 p0_d.Id, .slice G H I, .slice J O R]) sp71 tf71 rfl (by kernel_rfl))) (wg_one (i := 11) (by kernel_rfl) rfl (ls [.int .i64 p0_d.Id, .slice G H I, .slice J O R] (.agg #[.int .i64 p0_d.Id, .slice G H I, .slice J O R]) tf71 S.f2 fun bh aj => (wl_nil (qe_held (listed' := #[true, true, true, true, true, true, true, true, true, true, true, true]) rfl ⟨⟨aj.hasK (((a.trans y).trans A).trans ai), aj.hasObj m3⟩, (fun _ => trivial), by decide⟩ (wg_done (by kernel_rfl) (qe_seq (wc_ret ?_)))))))
   obtain rfl := oi ax
   have aQ := aj.f1.f2.sb (sk (sk (sd (sd sz))))
   exact qe_ret (vs := [_]) results135 ⟨⟨_, _, rfl, run_loadVar_at tf71 (cs := [.int .i64 p0_d.Id, .slice G H I, .slice J O R]) (fun j c e => by rw [Nat.zero_add, aj.mem_obj m0]; exact e) (.inl ⟨rfl, rfl, rfl⟩)⟩, trivial⟩ ⟨G, H, I, J, O, R, aO, rfl, aQ, ap, (aM.mono (A.trans ai)), aP⟩
  refine b0 tGAttr underlying69 tf189 ah fun bi bj bk d aR aA => (wl_nil (qe_held (listed' := #[true, true, true, true, true, false, true, true, true, false, false, false]) rfl ⟨⟨aA.hasK (a.trans d), aA.hasObj m3⟩, (fun _ => trivial), by decide⟩ (wg_one (i := 5) (by kernel_rfl) rfl (lp underlying68 tf141 (aF.mono d) (aq.mono (a.trans d)) au aA.f1 fun T U V bl bm B aS aB => (wl_nil (qe_held (listed' := #[true, true, true, true, true, true, true, true, true, false, false, false]) rfl ⟨⟨aB.hasK ((a.trans d).trans B), aB.hasObj m3⟩, (fun _ => trivial), by decide⟩ (wg_one (i := 9) (by kernel_rfl) rfl (lp underlying69 tf189 (aR.mono B) (ar.mono ((a.trans d).trans B)) aw aB.f1 fun W X Y bn aT ak aU Z => (wl_nil (qe_held (listed' := #[true, true, true, true, true, true, true, true, true, true, false, false]) rfl ⟨⟨Z.hasK (((a.trans d).trans B).trans ak), Z.hasObj m3⟩, (fun _ => trivial), by decide⟩ ?_))))))))))
  refine wg_val (i := 10) (listed' := #[true, true, true, true, true, true, true, true, true, true, true, false]) (fun _ => True) rfl (by kernel_rfl) (pk_then pk_body) (by kernel_rfl) rfl (by kernel_rfl) (by kernel_rfl) rfl (.inl fun _ _ => trivial) ⟨⟨Z.hasK (((a.trans d).trans B).trans ak), Z.hasObj m3⟩, (fun _ => trivial), by decide⟩ wn rfl (fun _ _ => (rv_build (cs := #[.int .i64 p0_d.Id, .slice T U V, .slice W X Y]) sp71 tf71 rfl (by kernel_rfl))) (wg_one (i := 11) (by kernel_rfl) rfl (ls [.int .i64 p0_d.Id, .slice T U V, .slice W X Y] (.agg #[.int .i64 p0_d.Id, .slice T U V, .slice W X Y]) tf71 Z.f2 fun bo am => (wl_nil (qe_held (listed' := #[true, true, true, true, true, true, true, true, true, true, true, true]) rfl ⟨⟨am.hasK (((a.trans d).trans B).trans ak), am.hasObj m3⟩, (fun _ => trivial), by decide⟩ (wg_done (by kernel_rfl) (qe_seq (wc_ret ?_)))))))
  obtain rfl := oi ax
  have aV := am.f1.f2.sb (sk (sk (sd (sd sz))))
  exact qe_ret (vs := [_]) results135 ⟨⟨_, _, rfl, run_loadVar_at tf71 (cs := [.int .i64 p0_d.Id, .slice T U V, .slice W X Y]) (fun j c e => by rw [Nat.zero_add, am.mem_obj m0]; exact e) (.inl ⟨rfl, rfl, rfl⟩)⟩, trivial⟩ ⟨T, U, V, W, X, Y, aT, rfl, aV, ap, (aS.mono ak), aU⟩
 refine b0 tGAttr underlying69 tf189 b fun bp bq br f aW aC => (wl_nil (qe_held (listed' := #[true, true, false, true, true, false, true, true, true, false, false, false]) rfl ⟨⟨aC.hasK f, aC.hasObj m2⟩, (fun _ => trivial), by decide⟩ (wg_one (i := 2) (by kernel_rfl) rfl (b0 tGField underlying68 tf141 aC fun bs bt bu k aX aD => (wl_nil (qe_held (listed' := #[true, true, true, true, true, false, true, true, true, false, false, false]) rfl ⟨⟨aD.hasK (f.trans k), aD.hasObj m3⟩, (fun _ => trivial), by decide⟩ (wg_one (i := 5) (by kernel_rfl) rfl (lp underlying68 tf141 aX (aq.mono (f.trans k)) au aD fun aa ab ac bv bw C aY aE => (wl_nil (qe_held (listed' := #[true, true, true, true, true, true, true, true, true, false, false, false]) rfl ⟨⟨aE.hasK ((f.trans k).trans C), aE.hasObj m3⟩, (fun _ => trivial), by decide⟩ (wg_one (i := 9) (by kernel_rfl) rfl (lp underlying69 tf189 (aW.mono (k.trans C)) (ar.mono ((f.trans k).trans C)) aw aE.f1 fun ad ae af bz aZ an a0 ag => ?_))))))))))))
 refine wl_nil (qe_held (listed' := #[true, true, true, true, true, true, true, true, true, true, false, false]) rfl ⟨⟨ag.hasK (((f.trans k).trans C).trans an), ag.hasObj m3⟩, (fun _ => trivial), by decide⟩ (wg_val (i := 10) (listed' := #[true, true, true, true, true, true, true, true, true, true, true, false]) (fun _ => True) rfl (by kernel_rfl) (pk_then pk_body) (by kernel_rfl) rfl (by kernel_rfl) (by kernel_rfl) rfl (.inl fun _ _ => trivial) ⟨⟨ag.hasK (((f.trans k).trans C).trans an), ag.hasObj m3⟩, (fun _ => trivial), by decide⟩ wn rfl (fun _ _ => (rv_build (cs := #[.int .i64 p0_d.Id, .slice aa ab ac, .slice ad ae af]) sp71 tf71 rfl (by kernel_rfl))) (wg_one (i := 11) (by kernel_rfl) rfl (ls [.int .i64 p0_d.Id, .slice aa ab ac, .slice ad ae af] (.agg #[.int .i64 p0_d.Id, .slice aa ab ac, .slice ad ae af]) tf71 ag.f2 fun bA ao => (wl_nil (qe_held (listed' := #[true, true, true, true, true, true, true, true, true, true, true, true]) rfl ⟨⟨ao.hasK (((f.trans k).trans C).trans an), ao.hasObj m3⟩, (fun _ => trivial), by decide⟩ (wg_done (by kernel_rfl) (qe_seq (wc_ret ?_)))))))))
 obtain rfl := oi ax
 have a1 := ao.f1.f2.sb (sk (sk (sd (sd sz))))
 exact qe_ret (vs := [_]) results135 ⟨⟨_, _, rfl, run_loadVar_at tf71 (cs := [.int .i64 p0_d.Id, .slice aa ab ac, .slice ad ae af]) (fun j c e => by rw [Nat.zero_add, ao.mem_obj m0]; exact e) (.inl ⟨rfl, rfl, rfl⟩)⟩, trivial⟩ ⟨aa, ab, ac, ad, ae, af, aZ, rfl, a1, ap, (aY.mono an), a0⟩

set_option maxHeartbeats 2000000 in
theorem ok_spec_l7Of (F : Nat) {w : World} {K : KMap} {d : Option Addr} {f i : Nat} {k : Option Addr} {l m : Nat} {q : Option Addr} {s x : Nat} {p0_c : GConf} {p1_docs : List GDoc} {r : GSeg} (hS : SH w K [] w K []) (bF : SliceAt tStr K d f i p0_c.Stops) (bG : SliceAt tGSyn K k l m p0_c.Syns) (aw : SliceAt tGDoc K q s x p1_docs) (hm : M.spec_l7Of F p0_c p1_docs = some r) :
  Calls Tryz.prog 84 #[.agg #[.slice d f i, .slice k l m], .slice q s x] w fun e w' => ∃ a_1 n_2 c_3 a_5 n_6 c_7 cs_8 K', e = .returned (.agg #[.slice a_1 n_2 c_3, .slice a_5 n_6 c_7]) ∧ SH w K [] w' K' [tail (.slice a_1 n_2 c_3) 71 3, rowI (.slice a_5 n_6 c_7) cs_8 86 3] ∧ SliceAt tGDoc K' a_1 n_2 c_3 r.Docs ∧ RowAt true tGEntry K' cs_8 r.Entries ∧ n_6 = r.Entries.length := by
 rw [M.spec_l7Of] at hm
 refine calls_in func84 rfl ntmps84 rfl (sr (bx rfl hS fun y dJ bW => ?_))
 have bX : SH _ _ _ _ _ [obj y [.slice d f i, .slice k l m] 26] := bW
 refine al tf30 bX fun b dK bY => ?_
 have bZ : SH _ _ _ _ _ [obj b [.slice none 0 0, .slice none 0 0] 30, _] := bY
 refine nr (lv (rv_build (cs := #[.slice none 0 0, .slice none 0 0]) sp30 tf30 rfl (by kernel_rfl)) (al tf30 bZ fun a dL b0 => ?_))
 have b1 : SH _ _ _ _ _ [obj a [.slice none 0 0, .slice none 0 0] 30, _, _] := b0
 refine ls [.slice none 0 0, .slice none 0 0] (.agg #[.slice none 0 0, .slice none 0 0]) tf30 b1 fun dM bH => (nr (mv rfl ?_))
 obtain ⟨dN, b2, b3⟩ := ob hm
 refine lc (vs := [.slice q s x]) co132 ((ok_spec_l7Names F) bH.enter0 aw b2) ?_
 rintro dO dP ⟨aW, aX, aY, aZ, rfl, A, a0⟩
 refine ⟨_, rfl, ?_⟩
 have b4 := (bH.c0 A).t4
 refine av rfl (nsr (lv (rv_assign (v := .int .i64 0) rfl) (nq ?_)))
 obtain ⟨a2, b5, b6⟩ := ob b3
 refine wc_cutg (fun E' w' => ∃ ax ay az aL aA aM cs53 I, E' = [(1, .slice q s x), (4, pt b), (5, pt a)] ∧ SH w K [] w' I [obj b [.slice none 0 0, .slice none 0 0] 30, obj a [.slice ax ay az, .slice aL aA aM] 30, rowI (.slice aL aA aM) cs53 86 3, tail (.slice ax ay az) 71 3] ∧ KLe aZ I ∧ SliceAt tGDoc I ax ay az a2.Docs ∧ RowAt true tGEntry I cs53 a2.Entries ∧ aA = a2.Entries.length) ?_ ?_
 ·refine wc_block ?_
  obtain ⟨dQ, b7, b8⟩ := ob b5
  have b9 := SH.rowNil b4 86 3
  have ca := b9.nil 71 3
  have cb := ca.f1.f3.f4.f5.sb (sk (sk (sk (sk (sk (sd sz))))))
  refine qw (fun (J : Int × GSeg) E' w' => ∃ ae af ag aB ah aC cs72 Z, E' = [(1, .slice q s x), (2, pt y), (4, pt b), (5, pt a), (6, .slice aW aX aY), (7, .int .i64 J.1)] ∧ SH w K [] w' Z [obj y [.slice d f i, .slice k l m] 26, obj b [.slice none 0 0, .slice none 0 0] 30, obj a [.slice ae af ag, .slice aB ah aC] 30, rowI (.slice aB ah aC) cs72 86 3, tail (.slice ae af ag) 71 3] ∧ KLe aZ Z ∧ rng64 J.1 ∧ SliceAt tGDoc Z ae af ag J.2.Docs ∧ RowAt true tGEntry Z cs72 J.2.Entries ∧ ah = J.2.Entries.length) b7 ⟨none, 0, 0, none, 0, 0, [], aZ, rfl, cb, (KLe.refl _), (by decide : rng64 0), (SliceAt.nil _ _), (RowAt.nil tGEntry _), rfl⟩ ?_
  rintro J _ dR dS cc cd ⟨ae, af, ag, aB, ah, aC, cs72, Z, rfl, bI, o, dT, bJ, hrow73, hm74⟩
  refine wc_seq (sr (mv rfl (mv rfl (lv (rv_len (t := tStr) underlying23 rfl (a0.mono o)) (lv (rv_lss rfl rfl) (nq (wcc cc rfl (fun ce a3 => ?_) (fun ce a3 => ?_))))))))
  ·refine wc_skip (qs (wc_block (wc_seq ?_)))
   have aN := bI.drew
   refine wh1 (fun w' => Holds Z w' ∧ HasObj y [.slice d f i, .slice k l m] w') (fun w' => True) 8 [] mixed ⟨aN.hasK (KLe.refl _), aN.hasObj m0⟩ (fun _ => trivial) (gh (fun _ h => rh_loadmS (ds := [.slice d f i, .slice k l m]) tf26 rfl rfl rfl h.2) (gt (rv_move rfl) (gt (rv_move rfl) (gt (rv_move rfl) ?_))))
   obtain ⟨bK, cf, cg⟩ := ob a3
   refine gi underlying23 tf9 (a0.mono o) cf fun ch ci dU cj ck => ?_
   obtain ⟨rfl, cl⟩ := cj
   have cm : AtK _ ch ci [sv bK] := ck
   refine gh (fun _ h => rh_load1 tf9 rfl (cm 0 _ rfl) h.1) (gn ?_)
   obtain ⟨dV, cn, cp⟩ := ob cg
   refine lc (vs := [.agg #[.slice d f i, .slice k l m], .slice q s x, sv bK]) co133 ((ok_spec_l7Terms F) aN.enter0 (bF.mono (A.le.trans o)) (bG.mono (A.le.trans o)) (aw.mono (A.le.trans o)) cl cn) ?_
   rintro dW dX ⟨cq, cr, ct, a4, rfl, B, bL⟩
   refine ⟨_, rfl, ?_⟩
   have a6 := (aN.c0 B).t6
   refine wl_nil (qh ⟨a6.hasK B.le, a6.hasObj m1⟩ (fun _ => trivial) (gt (rv_assign rfl) (gd' (qr (lv (rv_assign (v := .int .i64 0) rfl) (nq ?_))))))
   obtain ⟨a7, cu, cv⟩ := ob cp
   refine wc_cutg (fun E' w' => ∃ aD aE aF aO aG aP cs125 ai, E' = [(1, .slice q s x), (2, pt y), (4, pt b), (5, pt a), (6, .slice aW aX aY), (7, .int .i64 J.1)] ∧ SH w K [] w' ai [obj y [.slice d f i, .slice k l m] 26, obj b [.slice none 0 0, .slice none 0 0] 30, obj a [.slice aD aE aF, .slice aO aG aP] 30, rowI (.slice aO aG aP) cs125 86 3, tail (.slice aD aE aF) 71 3] ∧ KLe a4 ai ∧ SliceAt tGDoc ai aD aE aF a7.Docs ∧ RowAt true tGEntry ai cs125 a7.Entries ∧ aG = a7.Entries.length) ?_ ?_
   ·refine wc_block ?_
    obtain ⟨dY, cw, cx⟩ := ob cu
    have cy := a6.sb (sd (sk (sk (sk (sk (sk sz))))))
    refine qw (fun (aj : Int × GSeg) E' w' => ∃ O R S aH ak aI cs144 aa, E' = [(1, .slice q s x), (2, pt y), (4, pt b), (5, pt a), (6, .slice aW aX aY), (7, .int .i64 J.1), (8, .slice cq cr ct), (9, .int .i64 aj.1)] ∧ SH w K [] w' aa [obj y [.slice d f i, .slice k l m] 26, obj b [.slice none 0 0, .slice none 0 0] 30, obj a [.slice O R S, .slice aH ak aI] 30, rowI (.slice aH ak aI) cs144 86 3, tail (.slice O R S) 71 3] ∧ KLe a4 aa ∧ rng64 aj.1 ∧ SliceAt tGDoc aa O R S aj.2.Docs ∧ RowAt true tGEntry aa cs144 aj.2.Entries ∧ ak = aj.2.Entries.length) cw ⟨ae, af, ag, aB, ah, aC, cs72, a4, rfl, cy, (KLe.refl _), (by decide : rng64 0), (bJ.mono B.le), (RowAt.mono B.le hrow73), hm74⟩ ?_
    rintro aj _ dZ d0 cz cA ⟨O, R, S, aH, ak, aI, cs144, aa, rfl, bM, T, d1, bN, hrow145, hm146⟩
    refine wc_seq (sr (mv rfl (mv rfl (lv (rv_len (t := tStr) underlying23 rfl (bL.mono T)) (lv (rv_lss rfl rfl) (nq (wcc cz rfl (fun cB a8 => ?_) (fun cB a8 => ?_))))))))
    ·refine wc_skip (qs (wc_block ?_))
     have aJ := bM.drew
     refine wh1 (fun w' => Holds aa w' ∧ HasObj y [.slice d f i, .slice k l m] w') (fun w' => HasObj a [.slice O R S, .slice aH ak aI] w') 16 [(1, 14), (1, 15), (1, 16), (14, 15), (14, 16), (15, 16)] mixed ⟨aJ.hasK (KLe.refl _), aJ.hasObj m0⟩ (fun _ => aJ.hasObj (.tail _ (.tail _ (.head _)))) (gt (rv_fieldAddr ff30_1 rfl) (gf (fun _ h => rh_loadm1 tf28 rfl rfl h) (gh (fun _ h => rh_loadmS (ds := [.slice d f i, .slice k l m]) tf26 rfl rfl rfl h.2) (gt (rv_move rfl) (gt (rv_move rfl) (gt (rv_move rfl) ?_))))))
     obtain ⟨bO, cC, cD⟩ := ob a8
     refine gi underlying23 tf9 (a0.mono ((o.trans B.le).trans T)) cC fun cE cF d2 cG cH => ?_
     obtain ⟨rfl, cI⟩ := cG
     have cJ : AtK _ cE cF [sv bO] := cH
     refine gh (fun _ h => rh_load1 tf9 rfl (cJ 0 _ rfl) h.1) (gt (rv_move rfl) (gt (rv_move rfl) ?_))
     obtain ⟨bP, cK, cL⟩ := ob cD
     refine gi underlying23 tf9 (bL.mono T) cK fun cM cN d3 cO cP => ?_
     obtain ⟨rfl, cQ⟩ := cO
     have cR : AtK _ cM cN [sv bP] := cP
     refine gh (fun _ h => rh_load1 tf9 rfl (cR 0 _ rfl) h.1) (gn ?_)
     obtain ⟨aK, cS, cT⟩ := ob cL
     refine lc (vs := [.agg #[.slice d f i, .slice k l m], .slice q s x, sv bO, sv bP]) co134 ((ok_spec_l7Entry F) aJ.enter0 (SliceAt.mono (((A.le.trans o).trans B.le).trans T) bF) (SliceAt.mono (((A.le.trans o).trans B.le).trans T) bG) (SliceAt.mono (((A.le.trans o).trans B.le).trans T) aw) cI cQ cS) ?_
     rintro d4 d5 ⟨ba, bb, bc, d6, rfl, U, cU, cV, cW⟩
     refine ⟨_, rfl, ?_⟩
     have aQ := (aJ.c0 U).t6
     refine wl_nil (qh ⟨aQ.hasK U.le, aQ.hasObj m1⟩ (fun _ => aQ.hasObj (.tail _ (.tail _ (.tail _ (.head _))))) (gn (lb tGEntry (.agg #[sv aK.Field, sv aK.Term, .slice ba bb bc]) [sv aK.Field, sv aK.Term, .slice ba bb bc] aK underlying28 tf86 ⟨ba, bb, bc, rfl, cU, cV, cW⟩ aQ fun d7 d8 cX am cY aR => (wl_nil (qh ⟨aR.hasK (U.le.trans am), aR.hasObj m2⟩ (fun _ => aR.hasObj (.tail _ (.tail _ (.tail _ (.tail _ (.head _)))))) (gn ?_))))))
     obtain ⟨d9, cZ, c0⟩ := ob cT
     refine wl_appendR (t := tGEntry) wn rfl underlying28 tf86 rfl rfl rfl rfl (RowAt.mono (U.le.trans am) hrow145) hm146 cY cZ aR.f5 fun bd be bf cs202 ea hrow204 hm205 aS => (wl_nil (qh ⟨aS.hasK (U.le.trans am), aS.hasObj m3⟩ (fun _ => aS.hasObj (.tail _ (.tail _ (.tail _ (.tail _ (.tail _ (.head _))))))) (gt (rv_fieldAddr ff30_1 rfl) (gn (ls [.slice O R S, .slice bd be bf] (.slice bd be bf) tf28 aS.f5 fun eb bg => (wl_nil (qh ⟨bg.hasK (U.le.trans am), bg.hasObj m4⟩ (fun h => nomatch h) (gd' (qe_block (qe_seq (wc_region ?_)))))))))))
     refine mv rfl (lv (rv_add rfl rfl) (av rfl (wl_nil ?_)))
     obtain rfl := oi c0
     have c1 := bg.f6.f2.f2.f6.f6.sb (sk (sk (sk (sk (sk (sd (sd sz)))))))
     exact qd ⟨_, rfl, O, R, S, bd, be, bf, cs202, cX, rfl, c1, ((T.trans U.le).trans am), (w64_rng _), (bN.mono (U.le.trans am)), hrow204, hm205⟩
    refine wc_exit (qe_then_exit (qe_then_exit ?_))
    obtain rfl := oi a8
    have c2 := cA _ rfl
    subst c2
    refine qe_block_eq ?_
    obtain rfl := oi cx
    exact qd ⟨O, R, S, aH, ak, aI, cs144, aa, rfl, bM, T, bN, hrow145, hm146⟩
   rintro _ ec ⟨aD, aE, aF, aO, aG, aP, cs125, ai, rfl, c4, c5, c6, hrow126, hm127⟩
   refine qe_block (qe_seq (wc_region (mv rfl (lv (rv_add rfl rfl) (av rfl (wl_nil ?_))))))
   obtain rfl := oi cv
   exact qd ⟨_, rfl, aD, aE, aF, aO, aG, aP, cs125, ai, rfl, c4, ((o.trans B.le).trans c5), (w64_rng _), c6, hrow126, hm127⟩
  refine wc_exit (qe_then_exit (qe_then_exit ?_))
  obtain rfl := oi a3
  have c8 := cd _ rfl
  subst c8
  refine qe_block_eq ?_
  obtain rfl := oi b8
  have c9 := bI.sb (sd (sk (sk (sk (sk sz)))))
  exact qd ⟨ae, af, ag, aB, ah, aC, cs72, Z, rfl, c9, o, bJ, hrow73, hm74⟩
 rintro _ ed ⟨ax, ay, az, aL, aA, aM, cs53, I, rfl, da, bQ, db, hrow54, hm55⟩
 refine qs (sr (lv (rv_assign (v := .int .i64 0) rfl) (nq ?_)))
 obtain ⟨bh, dc, dd⟩ := ob b6
 refine wc_cutg (fun E' w' => ∃ C D G V H W cs233 an, E' = [(4, pt b), (5, pt a)] ∧ SH w K [] w' an [obj b [.slice none 0 0, .slice none 0 0] 30, obj a [.slice C D G, .slice V H W] 30, rowI (.slice V H W) cs233 86 3, tail (.slice C D G) 71 3] ∧ KLe I an ∧ SliceAt tGDoc an C D G bh.Docs ∧ RowAt true tGEntry an cs233 bh.Entries ∧ H = bh.Entries.length) ?_ ?_
 ·refine wc_block ?_
  obtain ⟨ee, de, df⟩ := ob dc
  refine qw (fun (ao : Int × GSeg) E' w' => ∃ ap aq ar ab X ac cs252 ad, E' = [(1, .slice q s x), (4, pt b), (5, pt a), (10, .int .i64 ao.1)] ∧ SH w K [] w' ad [obj b [.slice none 0 0, .slice none 0 0] 30, obj a [.slice ap aq ar, .slice ab X ac] 30, rowI (.slice ab X ac) cs252 86 3, tail (.slice ap aq ar) 71 3] ∧ KLe I ad ∧ rng64 ao.1 ∧ SliceAt tGDoc ad ap aq ar ao.2.Docs ∧ RowAt true tGEntry ad cs252 ao.2.Entries ∧ X = ao.2.Entries.length) de ⟨ax, ay, az, aL, aA, aM, cs53, I, rfl, da, (KLe.refl _), (by decide : rng64 0), db, hrow54, hm55⟩ ?_
  rintro ao _ ef eg dg dh ⟨ap, aq, ar, ab, X, ac, cs252, ad, rfl, bR, aT, eh, bS, hrow253, hm254⟩
  refine wc_seq (sr (mv rfl (mv rfl (lv (rv_len (t := tGDoc) underlying27 rfl (aw.mono ((A.le.trans bQ).trans aT))) (lv (rv_lss rfl rfl) (nq (wcc dg rfl (fun di bi => ?_) (fun di bi => ?_))))))))
  ·refine wc_skip (qs (wc_block ?_))
   have aU := bR.drew
   refine wh1 (fun w' => Holds ad w') (fun w' => HasObj a [.slice ap aq ar, .slice ab X ac] w') 10 [(1, 8), (1, 9), (1, 10), (8, 9), (8, 10), (9, 10)] mixed (aU.hasK (KLe.refl _)) (fun _ => aU.hasObj (.tail _ (.head _))) (gt (rv_fieldAddr ff30_0 rfl) (gf (fun _ h => rh_loadm1 tf27 rfl rfl h) (gt (rv_move rfl) (gt (rv_move rfl) ?_))))
   obtain ⟨bj, dj, dk⟩ := ob bi
   refine gi underlying27 tf71 (aw.mono ((A.le.trans bQ).trans aT)) dj fun dl dm ei dn dp => ?_
   obtain ⟨bk, bl, bm, bn, bo, bp, rfl, dq, dr, dt⟩ := dn
   have du : AtK _ dl dm [.int .i64 bj.Id, .slice bk bl bm, .slice bn bo bp] := dp
   refine gh (fun _ h => rh_loadS (cs := [.int .i64 bj.Id, .slice bk bl bm, .slice bn bo bp]) tf71 rfl du rfl h) (gn ?_)
   obtain ⟨bq, dv, dw⟩ := ob dk
   refine lc (vs := [.agg #[.int .i64 bj.Id, .slice bk bl bm, .slice bn bo bp]]) co135 ((ok_spec_l7CopyDoc F) aU.enter0 dq dr dt dv) ?_
   rintro ej ek ⟨br, bs, bt, bu, bv, bw, el, rfl, Y, dx, dy, dz⟩
   refine ⟨_, rfl, ?_⟩
   have bz := (aU.c0 Y).t6
   refine wl_nil (qh (bz.hasK Y.le) (fun _ => bz.hasObj (.tail _ (.tail _ (.tail _ (.head _))))) (gn (lb tGDoc (.agg #[.int .i64 bq.Id, .slice br bs bt, .slice bu bv bw]) [.int .i64 bq.Id, .slice br bs bt, .slice bu bv bw] bq underlying27 tf71 ⟨br, bs, bt, bu, bv, bw, rfl, dx, dy, dz⟩ bz fun em en eo au dA bA => (wl_nil (qh (bA.hasK (Y.le.trans au)) (fun _ => bA.hasObj (.tail _ (.tail _ (.tail _ (.tail _ (.head _)))))) (gn ?_))))))
   obtain ⟨ep, dB, dC⟩ := ob dw
   refine lp underlying27 tf71 (bS.mono (Y.le.trans au)) dA dB bA.f6 fun bB bC bD eq dD aV dE bE => (wl_nil (qh (bE.hasK ((Y.le.trans au).trans aV)) (fun _ => bE.hasObj (.tail _ (.tail _ (.tail _ (.tail _ (.tail _ (.head _))))))) (gt (rv_fieldAddr ff30_0 rfl) (gn (ls [.slice bB bC bD, .slice ab X ac] (.slice bB bC bD) tf27 bE.f5 fun es bT => (wl_nil (qh (bT.hasK ((Y.le.trans au).trans aV)) (fun h => nomatch h) (gd' (qe_block (qe_seq (wc_region ?_)))))))))))
   refine mv rfl (lv (rv_add rfl rfl) (av rfl (wl_nil ?_)))
   obtain rfl := oi dC
   have dF := bT.f1.f6.f2.f6.sb (sk (sk (sk (sk (sd (sd (sd sz)))))))
   exact qd ⟨_, rfl, bB, bC, bD, ab, X, ac, cs252, dD, rfl, dF, (((aT.trans Y.le).trans au).trans aV), (w64_rng _), dE, (RowAt.mono ((Y.le.trans au).trans aV) hrow253), hm254⟩
  refine wc_exit (qe_then_exit (qe_then_exit ?_))
  obtain rfl := oi bi
  have dG := dh _ rfl
  subst dG
  refine qe_block_eq ?_
  obtain rfl := oi df
  exact qd ⟨ap, aq, ar, ab, X, ac, cs252, ad, rfl, bR, aT, bS, hrow253, hm254⟩
 rintro _ et ⟨C, D, G, V, H, W, cs233, an, rfl, bU, eu, dH, hrow234, hm235⟩
 refine qr (lv (rv_loadmS (ds := [.slice C D G, .slice V H W]) tf30 rfl m1 bU rfl rfl) (ls [.slice C D G, .slice V H W] (.agg #[.slice C D G, .slice V H W]) tf30 bU fun ev bV => (nq (wc_ret ?_))))
 obtain rfl := oi dd
 have dI := bV.f2.f3.sb (sk (sk (sd (sd sz))))
 exact qe_ret (vs := [_]) results84 ⟨⟨_, _, rfl, run_loadVar_at tf30 (cs := [.slice C D G, .slice V H W]) (fun j c e => by rw [Nat.zero_add, bV.mem_obj m0]; exact e) (.inl ⟨rfl, rfl, rfl⟩)⟩, trivial⟩ ⟨C, D, G, V, H, W, cs233, an, rfl, dI, dH, hrow234, hm235⟩

set_option maxHeartbeats 2000000 in
theorem ok_spec_l30Conf (F : Nat) {w : World} {K : KMap} {g1 : Nat} {v : Option Addr} {x y : Nat} {p0_r : GL30Rd} {r : GConf × GL30Rd} (hS : SH w K (List.flatMap Item.gs [obj g1 [.slice v x y, .int .i64 p0_r.p_] 154]) w K [obj g1 [.slice v x y, .int .i64 p0_r.p_] 154]) (aI : SliceAt tU8 K v x y p0_r.b_) (aJ : rng64 p0_r.p_) (hm : M.spec_l30Conf F p0_r = some r) :
  Calls Tryz.prog 99 #[.pointer (some ⟨g1, 0, none⟩)] w fun e w' => ∃ a_1 n_2 c_3 a_5 n_6 c_7 a_9 n_10 c_11 K', e = .returned (.agg #[.slice a_1 n_2 c_3, .slice a_5 n_6 c_7]) ∧ SH w K (List.flatMap Item.gs [obj g1 [.slice v x y, .int .i64 p0_r.p_] 154]) w' K' [tail (.slice a_1 n_2 c_3) 9 1, tail (.slice a_5 n_6 c_7) 105 2, obj g1 [.slice a_9 n_10 c_11, .int .i64 r.2.p_] 154] ∧ SliceAt tStr K' a_1 n_2 c_3 r.1.Stops ∧ SliceAt tGSyn K' a_5 n_6 c_7 r.1.Syns ∧ SliceAt tU8 K' a_9 n_10 c_11 r.2.b_ ∧ rng64 r.2.p_ := by
 rw [M.spec_l30Conf] at hm
 refine calls_in func99 rfl ntmps99 rfl (sr (al tf26 hS fun A w8 aK => ?_))
 have aL : SH _ _ _ _ _ [obj A [.slice none 0 0, .slice none 0 0] 26, _] := aK
 refine nr (lv (rv_build (cs := #[.slice none 0 0, .slice none 0 0]) sp26 tf26 rfl (by kernel_rfl)) (al tf26 aL fun B bS aM => ?_))
 have aN : SH _ _ _ _ _ [obj B [.slice none 0 0, .slice none 0 0] 26, _, _] := aM
 refine ls [.slice none 0 0, .slice none 0 0] (.agg #[.slice none 0 0, .slice none 0 0]) tf26 aN fun bT aO => (nsr (mv rfl ?_))
 obtain ⟨aP, aQ, aR⟩ := ob hm
 have ak := aO.f2
 refine lc (vs := [pt g1, .int .i64 3]) co65 ((ok_spec_l30Rd_pick F) ak.e1 aI aJ (by decide : rng64 3) aQ) ?_
 rintro bU bV ⟨aS, aT, aU, am, rfl, aV, bW, aW, aX⟩
 refine ⟨_, rfl, ?_⟩
 have an := (ak.c1 aV).t3
 refine lv (rv_gtr rfl rfl) (nq ?_)
 obtain ⟨ao, aY, aZ⟩ := ob aR
 refine wc_cutg (fun E' w' => ∃ C D G l m o H, E' = [(0, pt g1), (2, pt A), (3, pt B)] ∧ SH w K (List.flatMap Item.gs [obj g1 [.slice v x y, .int .i64 p0_r.p_] 154]) w' H [obj g1 [.slice aS aT aU, .int .i64 aP.2.p_] 154, obj A [.slice none 0 0, .slice none 0 0] 26, obj B [.slice C D G, .slice l m o] 26, tail (.slice C D G) 9 1, tail (.slice l m o) 105 2] ∧ KLe am H ∧ SliceAt tStr H C D G ao.Stops ∧ SliceAt tGSyn H l m o ao.Syns) ?_ ?_
 ·refine wcc aY rfl (fun a0 X => ?_) (fun a0 X => ?_)
  ·refine wc_region (lb tStr (sv [116, 104, 101]) [sv [116, 104, 101]] ([116, 104, 101] : Str) underlying23 tf9 ⟨rfl, (by decide : ([116, 104, 101] : Str).length ≤ maxLen)⟩ an fun Y bX a1 a3 a4 a5 => (fa ff26_0 rfl (ls [.slice Y 1 1, .slice none 0 0] (.slice Y 1 1) tf23 a5.f2 fun bY a6 => (wl_nil ?_))))
   obtain rfl := oi X
   have a7 := a6.nil 105 2
   exact qd ⟨Y, 1, 1, none, 0, 0, a1, rfl, a7.f2.f2.f4.f4, a3, a4, (SliceAt.nil _ _)⟩
  refine wc_skip ?_
  obtain rfl := oi X
  have a8 := an.nil 9 1
  have a9 := a8.nil 105 2
  exact qd ⟨none, 0, 0, none, 0, 0, am, rfl, a9.f1.f3.f4.f4, (KLe.refl _), (SliceAt.nil _ _), (SliceAt.nil _ _)⟩
 rintro _ bZ ⟨C, D, G, l, m, o, H, rfl, ap, ba, bb, aq⟩
 refine qs (sr (mv rfl ?_))
 obtain ⟨bc, bd, be⟩ := ob aZ
 refine lc (vs := [pt g1, .int .i64 4]) co65 ((ok_spec_l30Rd_pick F) ap.e1 (aW.mono ba) aX (by decide : rng64 4) bd) ?_
 rintro b0 b1 ⟨bf, bg, bh, ar, rfl, T, b2, bi, bj⟩
 refine ⟨_, rfl, ?_⟩
 have au := (ap.c1 T).t5
 refine lv (rv_eql rfl rfl) (nq ?_)
 obtain ⟨aw, bk, bl⟩ := ob be
 refine wc_cutg (fun E' w' => ∃ a b d f i k I, E' = [(0, pt g1), (2, pt A), (3, pt B)] ∧ SH w K (List.flatMap Item.gs [obj g1 [.slice v x y, .int .i64 p0_r.p_] 154]) w' I [obj g1 [.slice bf bg bh, .int .i64 bc.2.p_] 154, obj A [.slice none 0 0, .slice none 0 0] 26, obj B [.slice a b d, .slice f i k] 26, tail (.slice a b d) 9 1, tail (.slice f i k) 105 2] ∧ KLe ar I ∧ SliceAt tStr I a b d aw.Stops ∧ SliceAt tGSyn I f i k aw.Syns) ?_ ?_
 ·refine wcc bk rfl (fun bm Z => ?_) (fun bm Z => ?_)
  ·refine wc_region (wl_buildSlice (t := tStr) (n := 2) (pv := [(0, sv [100, 111, 103]), (1, sv [116, 104, 101])]) (cs := [sv [100, 111, 103], sv [116, 104, 101]]) (xs := [([100, 111, 103] : Str), ([116, 104, 101] : Str)]) wn rfl underlying23 tf9 rfl rfl rfl (by kernel_rfl) rfl rfl (lit_cons (u := sv [100, 111, 103]) (z := ([100, 111, 103] : Str)) ⟨rfl, (by decide : ([100, 111, 103] : Str).length ≤ maxLen)⟩ (lit_cons (u := sv [116, 104, 101]) (z := ([116, 104, 101] : Str)) ⟨rfl, (by decide : ([116, 104, 101] : Str).length ≤ maxLen)⟩ lit_nil)) au fun aa b3 bn ax bo bp => (fa ff26_0 rfl (ls [.slice aa 2 2, .slice l m o] (.slice aa 2 2) tf23 bp.f3 fun b4 bq => (wl_nil ?_))))
   obtain rfl := oi Z
   have br := bq.f5.f2.f2.f4.f4.sb (sk (sk (sk (sk (sk (sd sz))))))
   exact qd ⟨aa, 2, 2, l, m, o, bn, rfl, br, ax, bo, (aq.mono (T.le.trans ax))⟩
  refine wc_skip ?_
  obtain rfl := oi Z
  exact qd ⟨C, D, G, l, m, o, ar, rfl, au, (KLe.refl _), (bb.mono T.le), (aq.mono T.le)⟩
 rintro _ b5 ⟨a, b, d, f, i, k, I, rfl, ay, bs, ab, bt⟩
 refine qs (sr (mv rfl ?_))
 obtain ⟨b6, bu, bv⟩ := ob bl
 refine lc (vs := [pt g1, .int .i64 4]) co65 ((ok_spec_l30Rd_pick F) ay.e1 (bi.mono bs) bj (by decide : rng64 4) bu) ?_
 rintro b7 b8 ⟨ac, ad, ae, bw, rfl, J, b9, af, ag⟩
 refine ⟨_, rfl, ?_⟩
 have U := (ay.c1 J).t5
 refine nq (wc_block (sr (lv (rv_eql rfl rfl) (av rfl (nq (wcc bv rfl (fun bx ah => ?_) (fun bx ah => ?_)))))))
 ·refine wc_region (wl_buildSlice (t := tStr) (n := 2) (pv := [(0, sv [110, 101, 119]), (1, sv [121, 111, 114, 107])]) (cs := [sv [110, 101, 119], sv [121, 111, 114, 107]]) (xs := [([110, 101, 119] : Str), ([121, 111, 114, 107] : Str)]) wn rfl underlying23 tf9 rfl rfl rfl (by kernel_rfl) rfl rfl (lit_cons (u := sv [110, 101, 119]) (z := ([110, 101, 119] : Str)) ⟨rfl, (by decide : ([110, 101, 119] : Str).length ≤ maxLen)⟩ (lit_cons (u := sv [121, 111, 114, 107]) (z := ([121, 111, 114, 107] : Str)) ⟨rfl, (by decide : ([121, 111, 114, 107] : Str).length ≤ maxLen)⟩ lit_nil)) U fun V ca cb az bz bA => (lv (rv_build (cs := #[.slice V 2 2, sv [110, 121]]) sp105 tf105 rfl (by kernel_rfl)) (lb tGSyn (.agg #[.slice V 2 2, sv [110, 121]]) [.slice V 2 2, sv [110, 121]] (GSyn.mk ([([110, 101, 119] : Str), ([121, 111, 114, 107] : Str)] : List Str) ([110, 121] : Str)) underlying24 tf105 ⟨V, 2, 2, rfl, bz, (by decide : ([110, 121] : Str).length ≤ maxLen)⟩ bA fun q cc bB aA bC bD => (fa ff26_1 rfl (ls [.slice a b d, .slice q 1 1] (.slice q 1 1) tf24 bD.f4 fun cd aB => (nb (qr (lv (rv_loadmS (ds := [.slice a b d, .slice q 1 1]) tf26 rfl m0 aB rfl rfl) (ls [.slice a b d, .slice q 1 1] (.agg #[.slice a b d, .slice q 1 1]) tf26 aB.f4 fun ce aC => ?_)))))))))
  refine nq (wc_ret ?_)
  obtain rfl := oi ah
  have bE := aC.f4.f3.f5.sb (sk (sk (sk (sd (sd (sd (sd sz)))))))
  exact qe_ret (vs := [_]) results99 ⟨⟨_, _, rfl, run_loadVar_at tf26 (cs := [.slice a b d, .slice q 1 1]) (fun j c e => by rw [Nat.zero_add, aC.mem_obj m0]; exact e) (.inl ⟨rfl, rfl, rfl⟩)⟩, trivial⟩ ⟨a, b, d, q, 1, 1, ac, ad, ae, bB, rfl, bE, (ab.mono ((J.le.trans az).trans aA)), bC, (af.mono (az.trans aA)), ag⟩
 refine sr (lv (rv_eql rfl rfl) (av rfl (nq (wcc ah rfl (fun bF ai => ?_) (fun bF ai => ?_)))))
 ·refine wc_region (lb tStr (sv [98, 105, 103]) [sv [98, 105, 103]] ([98, 105, 103] : Str) underlying23 tf9 ⟨rfl, (by decide : ([98, 105, 103] : Str).length ≤ maxLen)⟩ U fun O cf cg aD bG bH => (lv (rv_build (cs := #[.slice O 1 1, sv [108, 97, 114, 103]]) sp105 tf105 rfl (by kernel_rfl)) (wl_buildSlice (t := tStr) (n := 3) (pv := [(0, sv [98, 105, 103]), (1, sv [114, 101, 100]), (2, sv [102, 111, 120])]) (cs := [sv [98, 105, 103], sv [114, 101, 100], sv [102, 111, 120]]) (xs := [([98, 105, 103] : Str), ([114, 101, 100] : Str), ([102, 111, 120] : Str)]) wn rfl underlying23 tf9 rfl rfl rfl (by kernel_rfl) rfl rfl (lit_cons (u := sv [98, 105, 103]) (z := ([98, 105, 103] : Str)) ⟨rfl, (by decide : ([98, 105, 103] : Str).length ≤ maxLen)⟩ (lit_cons (u := sv [114, 101, 100]) (z := ([114, 101, 100] : Str)) ⟨rfl, (by decide : ([114, 101, 100] : Str).length ≤ maxLen)⟩ (lit_cons (u := sv [102, 111, 120]) (z := ([102, 111, 120] : Str)) ⟨rfl, (by decide : ([102, 111, 120] : Str).length ≤ maxLen)⟩ lit_nil))) bH fun R ch ci aj bI bJ => (lv (rv_build (cs := #[.slice R 3 3, sv [102, 111, 120]]) sp105 tf105 rfl (by kernel_rfl)) ?_))))
  refine wl_buildSlice (t := tStr) (n := 2) (pv := [(0, sv [110, 101, 119]), (1, sv [121, 111, 114, 107])]) (cs := [sv [110, 101, 119], sv [121, 111, 114, 107]]) (xs := [([110, 101, 119] : Str), ([121, 111, 114, 107] : Str)]) wn rfl underlying23 tf9 rfl rfl rfl (by kernel_rfl) rfl rfl (lit_cons (u := sv [110, 101, 119]) (z := ([110, 101, 119] : Str)) ⟨rfl, (by decide : ([110, 101, 119] : Str).length ≤ maxLen)⟩ (lit_cons (u := sv [121, 111, 114, 107]) (z := ([121, 111, 114, 107] : Str)) ⟨rfl, (by decide : ([121, 111, 114, 107] : Str).length ≤ maxLen)⟩ lit_nil)) bJ fun S cj ck W bK bL => (lv (rv_build (cs := #[.slice S 2 2, sv [110, 121]]) sp105 tf105 rfl (by kernel_rfl)) ?_)
  refine wl_buildSlice (t := tGSyn) (n := 3) (pv := [(0, .agg #[.slice O 1 1, sv [108, 97, 114, 103]]), (1, .agg #[.slice R 3 3, sv [102, 111, 120]]), (2, .agg #[.slice S 2 2, sv [110, 121]])]) (cs := [.slice O 1 1, sv [108, 97, 114, 103], .slice R 3 3, sv [102, 111, 120], .slice S 2 2, sv [110, 121]]) (xs := [(GSyn.mk ([([98, 105, 103] : Str)] : List Str) ([108, 97, 114, 103] : Str)), (GSyn.mk ([([98, 105, 103] : Str), ([114, 101, 100] : Str), ([102, 111, 120] : Str)] : List Str) ([102, 111, 120] : Str)), (GSyn.mk ([([110, 101, 119] : Str), ([121, 111, 114, 107] : Str)] : List Str) ([110, 121] : Str))]) wn rfl underlying24 tf105 rfl rfl rfl (by kernel_rfl) rfl rfl (lit_cons (u := .agg #[.slice O 1 1, sv [108, 97, 114, 103]]) (z := (GSyn.mk ([([98, 105, 103] : Str)] : List Str) ([108, 97, 114, 103] : Str))) ⟨O, 1, 1, rfl, (bG.mono (aj.trans W)), (by decide : ([108, 97, 114, 103] : Str).length ≤ maxLen)⟩ (lit_cons (u := .agg #[.slice R 3 3, sv [102, 111, 120]]) (z := (GSyn.mk ([([98, 105, 103] : Str), ([114, 101, 100] : Str), ([102, 111, 120] : Str)] : List Str) ([102, 111, 120] : Str))) ⟨R, 3, 3, rfl, (bI.mono W), (by decide : ([102, 111, 120] : Str).length ≤ maxLen)⟩ (lit_cons (u := .agg #[.slice S 2 2, sv [110, 121]]) (z := (GSyn.mk ([([110, 101, 119] : Str), ([121, 111, 114, 107] : Str)] : List Str) ([110, 121] : Str))) ⟨S, 2, 2, rfl, bK, (by decide : ([110, 121] : Str).length ≤ maxLen)⟩ lit_nil))) bL ?_
  intro s cl bM aE bN bO
  refine fa ff26_1 rfl (ls [.slice a b d, .slice s 3 3] (.slice s 3 3) tf24 bO.f6 fun cm aF => (nb (qr (lv (rv_loadmS (ds := [.slice a b d, .slice s 3 3]) tf26 rfl m0 aF rfl rfl) (ls [.slice a b d, .slice s 3 3] (.agg #[.slice a b d, .slice s 3 3]) tf26 aF.f6 fun cn aG => (nq (wc_ret ?_)))))))
  obtain rfl := oi ai
  have bP := aG.f6.f3.f7.sb (sk (sk (sk (sd (sd (sd (sd (sd (sd sz)))))))))
  exact qe_ret (vs := [_]) results99 ⟨⟨_, _, rfl, run_loadVar_at tf26 (cs := [.slice a b d, .slice s 3 3]) (fun j c e => by rw [Nat.zero_add, aG.mem_obj m0]; exact e) (.inl ⟨rfl, rfl, rfl⟩)⟩, trivial⟩ ⟨a, b, d, s, 3, 3, ac, ad, ae, bM, rfl, bP, (SliceAt.mono ((((J.le.trans aD).trans aj).trans W).trans aE) ab), bN, (SliceAt.mono (((aD.trans aj).trans W).trans aE) af), ag⟩
 refine wc_skip (qe_block (qr (lv (rv_loadmS (ds := [.slice a b d, .slice f i k]) tf26 rfl m2 U rfl rfl) (ls [.slice a b d, .slice f i k] (.agg #[.slice a b d, .slice f i k]) tf26 U.f1 fun cp aH => (nq (wc_ret ?_))))))
 obtain rfl := oi ai
 have bQ := aH.f1.f4.f4.sb (sk (sk (sk (sd (sd sz)))))
 exact qe_ret (vs := [_]) results99 ⟨⟨_, _, rfl, run_loadVar_at tf26 (cs := [.slice a b d, .slice f i k]) (fun j c e => by rw [Nat.zero_add, aH.mem_obj m0]; exact e) (.inl ⟨rfl, rfl, rfl⟩)⟩, trivial⟩ ⟨a, b, d, f, i, k, ac, ad, ae, bw, rfl, bQ, (ab.mono J.le), (bt.mono J.le), af, ag⟩

theorem ok_spec_l30Rd_of (F : Nat) {w : World} {K : KMap} {g1 : Nat} {a : Option Addr} {b c : Nat} {f : Option Addr} {i k : Nat} {p0_r : GL30Rd} {p1_list : List Str} {r : Str × GL30Rd} (hS : SH w K (List.flatMap Item.gs [obj g1 [.slice a b c, .int .i64 p0_r.p_] 154]) w K [obj g1 [.slice a b c, .int .i64 p0_r.p_] 154]) (o : SliceAt tU8 K a b c p0_r.b_) (q : rng64 p0_r.p_) (d : SliceAt tStr K f i k p1_list) (hm : M.spec_l30Rd_of F p0_r p1_list = some r) :
  Calls Tryz.prog 66 #[.pointer (some ⟨g1, 0, none⟩), .slice f i k] w fun e w' => ∃ a_2 n_3 c_4 K', e = .returned (sv r.1) ∧ SH w K (List.flatMap Item.gs [obj g1 [.slice a b c, .int .i64 p0_r.p_] 154]) w' K' [obj g1 [.slice a_2 n_3 c_4, .int .i64 r.2.p_] 154] ∧ r.1.length ≤ maxLen ∧ SliceAt tU8 K' a_2 n_3 c_4 r.2.b_ ∧ rng64 r.2.p_ := by
 rw [M.spec_l30Rd_of] at hm
 refine calls_in func66 rfl ntmps66 rfl (sr (lv (rv_assign (v := sv []) rfl) (nr (mv rfl (mv rfl (mv rfl (lv (rv_len (t := tStr) underlying23 rfl d) ?_)))))))
 obtain ⟨W, s, x⟩ := ob hm
 refine lc (vs := [pt g1, .int .i64 (p1_list.length : Int)]) co65 ((ok_spec_l30Rd_pick F) hS.e1 o q (rng_nat (SliceAt.max d)) s) ?_
 rintro X Y ⟨y, A, B, C, rfl, l, Z, D, G⟩
 refine ⟨_, rfl, ?_⟩
 have m := (hS.c1 l).t1
 obtain ⟨H, I, J⟩ := ob x
 refine li underlying23 tf9 (d.mono l.le) I fun O R aa S T => ?_
 obtain ⟨rfl, U⟩ := S
 have V : AtK _ O R [sv H] := T
 refine lv (rv_load1 tf9 rfl m (V 0 _ rfl)) (av rfl (nq (wc_ret ?_)))
 obtain rfl := oi J
 exact er results66 ⟨rfl, trivial⟩ ⟨y, A, B, C, rfl, m, U, D, G⟩

theorem ok_spec_l30Raw (F : Nat) {w : World} {K : KMap} {g1 : Nat} {a : Option Addr} {b c : Nat} {p0_r : GL30Rd} {r : Str × GL30Rd} (hS : SH w K (List.flatMap Item.gs [obj g1 [.slice a b c, .int .i64 p0_r.p_] 154]) w K [obj g1 [.slice a b c, .int .i64 p0_r.p_] 154]) (f : SliceAt tU8 K a b c p0_r.b_) (i : rng64 p0_r.p_) (hm : M.spec_l30Raw F p0_r = some r) :
  Calls Tryz.prog 232 #[.pointer (some ⟨g1, 0, none⟩)] w fun e w' => ∃ a_2 n_3 c_4 K', e = .returned (sv r.1) ∧ SH w K (List.flatMap Item.gs [obj g1 [.slice a b c, .int .i64 p0_r.p_] 154]) w' K' [obj g1 [.slice a_2 n_3 c_4, .int .i64 r.2.p_] 154] ∧ r.1.length ≤ maxLen ∧ SliceAt tU8 K' a_2 n_3 c_4 r.2.b_ ∧ rng64 r.2.p_ := by
 rw [M.spec_l30Raw] at hm
 refine calls_in func232 rfl ntmps232 rfl (sr (lv (rv_assign (v := sv []) rfl) (nr (mv rfl ?_))))
 refine wl_buildSlice (t := tStr) (n := 16) (pv := [(0, sv [99, 97, 116]), (1, sv [67, 97, 116, 115]), (2, sv [100, 111, 103]), (3, sv [100, 111, 103, 115]), (4, sv [114, 117, 110]), (5, sv [82, 85, 78, 78, 73, 78, 71]), (6, sv [116, 104, 101]), (7, sv [114, 101, 100]), (8, sv [98, 105, 103]), (9, sv [110, 101, 119, 32, 121, 111, 114, 107]), (10, sv [78, 101, 119, 32, 32, 89, 111, 114, 107]), (11, sv [110, 121]), (12, sv [102, 111, 120]), (13, sv [112, 97, 115, 115, 101, 100]), (14, sv [120, 49]), (15, sv [97, 118, 101, 114, 121, 118, 101, 114, 121, 108, 111, 110, 103, 119, 111, 114, 100])]) (cs := [sv [99, 97, 116], sv [67, 97, 116, 115], sv [100, 111, 103], sv [100, 111, 103, 115], sv [114, 117, 110], sv [82, 85, 78, 78, 73, 78, 71], sv [116, 104, 101], sv [114, 101, 100], sv [98, 105, 103], sv [110, 101, 119, 32, 121, 111, 114, 107], sv [78, 101, 119, 32, 32, 89, 111, 114, 107], sv [110, 121], sv [102, 111, 120], sv [112, 97, 115, 115, 101, 100], sv [120, 49], sv [97, 118, 101, 114, 121, 118, 101, 114, 121, 108, 111, 110, 103, 119, 111, 114, 100]]) (xs := [([99, 97, 116] : Str), ([67, 97, 116, 115] : Str), ([100, 111, 103] : Str), ([100, 111, 103, 115] : Str), ([114, 117, 110] : Str), ([82, 85, 78, 78, 73, 78, 71] : Str), ([116, 104, 101] : Str), ([114, 101, 100] : Str), ([98, 105, 103] : Str), ([110, 101, 119, 32, 121, 111, 114, 107] : Str), ([78, 101, 119, 32, 32, 89, 111, 114, 107] : Str), ([110, 121] : Str), ([102, 111, 120] : Str), ([112, 97, 115, 115, 101, 100] : Str), ([120, 49] : Str), ([97, 118, 101, 114, 121, 118, 101, 114, 121, 108, 111, 110, 103, 119, 111, 114, 100] : Str)]) wn rfl underlying23 tf9 rfl rfl rfl (by kernel_rfl) rfl rfl (lit_cons (u := sv [99, 97, 116]) (z := ([99, 97, 116] : Str)) ⟨rfl, (by decide : ([99, 97, 116] : Str).length ≤ maxLen)⟩ (lit_cons (u := sv [67, 97, 116, 115]) (z := ([67, 97, 116, 115] : Str)) ⟨rfl, (by decide : ([67, 97, 116, 115] : Str).length ≤ maxLen)⟩ (lit_cons (u := sv [100, 111, 103]) (z := ([100, 111, 103] : Str)) ⟨rfl, (by decide : ([100, 111, 103] : Str).length ≤ maxLen)⟩ (lit_cons (u := sv [100, 111, 103, 115]) (z := ([100, 111, 103, 115] : Str)) ⟨rfl, (by decide : ([100, 111, 103, 115] : Str).length ≤ maxLen)⟩ (lit_cons (u := sv [114, 117, 110]) (z := ([114, 117, 110] : Str)) ⟨rfl, (by decide : ([114, 117, 110] : Str).length ≤ maxLen)⟩ (lit_cons (u := sv [82, 85, 78, 78, 73, 78, 71]) (z := ([82, 85, 78, 78, 73, 78, 71] : Str)) ⟨rfl, (by decide : ([82, 85, 78, 78, 73, 78, 71] : Str).length ≤ maxLen)⟩ (lit_cons (u := sv [116, 104, 101]) (z := ([116, 104, 101] : Str)) ⟨rfl, (by decide : ([116, 104, 101] : Str).length ≤ maxLen)⟩ (lit_cons (u := sv [114, 101, 100]) (z := ([114, 101, 100] : Str)) ⟨rfl, (by decide : ([114, 101, 100] : Str).length ≤ maxLen)⟩ (lit_cons (u := sv [98, 105, 103]) (z := ([98, 105, 103] : Str)) ⟨rfl, (by decide : ([98, 105, 103] : Str).length ≤ maxLen)⟩ (lit_cons (u := sv [110, 101, 119, 32, 121, 111, 114, 107]) (z := ([110, 101, 119, 32, 121, 111, 114, 107] : Str)) ⟨rfl, (by decide : ([110, 101, 119, 32, 121, 111, 114, 107] : Str).length ≤ maxLen)⟩ (lit_cons (u := sv [78, 101, 119, 32, 32, 89, 111, 114, 107]) (z := ([78, 101, 119, 32, 32, 89, 111, 114, 107] : Str)) ⟨rfl, (by decide : ([78, 101, 119, 32, 32, 89, 111, 114, 107] : Str).length ≤ maxLen)⟩ (lit_cons (u := sv [110, 121]) (z := ([110, 121] : Str)) ⟨rfl, (by decide : ([110, 121] : Str).length ≤ maxLen)⟩ (lit_cons (u := sv [102, 111, 120]) (z := ([102, 111, 120] : Str)) ⟨rfl, (by decide : ([102, 111, 120] : Str).length ≤ maxLen)⟩ (lit_cons (u := sv [112, 97, 115, 115, 101, 100]) (z := ([112, 97, 115, 115, 101, 100] : Str)) ⟨rfl, (by decide : ([112, 97, 115, 115, 101, 100] : Str).length ≤ maxLen)⟩ (lit_cons (u := sv [120, 49]) (z := ([120, 49] : Str)) ⟨rfl, (by decide : ([120, 49] : Str).length ≤ maxLen)⟩ (lit_cons (u := sv [97, 118, 101, 114, 121, 118, 101, 114, 121, 108, 111, 110, 103, 119, 111, 114, 100]) (z := ([97, 118, 101, 114, 121, 118, 101, 114, 121, 108, 111, 110, 103, 119, 111, 114, 100] : Str)) ⟨rfl, (by decide : ([97, 118, 101, 114, 121, 118, 101, 114, 121, 108, 111, 110, 103, 119, 111, 114, 100] : Str).length ≤ maxLen)⟩ lit_nil)))))))))))))))) hS ?_
 intro k O R l m o
 obtain ⟨S, q, s⟩ := ob hm
 have d := o.f1
 refine lc (vs := [pt g1, .slice k 16 16]) co66 ((ok_spec_l30Rd_of F) d.e1 (f.mono l) i m q) ?_
 rintro T U ⟨x, y, A, B, rfl, C, D, G, H⟩
 refine ⟨_, rfl, ?_⟩
 have I := (d.c1 C).t2
 refine av rfl (nq (wc_ret ?_))
 obtain rfl := oi s
 have J := I.sb (sk (sd sz))
 exact er results232 ⟨rfl, trivial⟩ ⟨x, y, A, B, rfl, J, D, G, H⟩

theorem ok_spec_l30Text (F : Nat) {w : World} {K : KMap} {g1 : Nat} {b : Option Addr} {c d : Nat} {p0_r : GL30Rd} {r : Str × GL30Rd} (hS : SH w K (List.flatMap Item.gs [obj g1 [.slice b c d, .int .i64 p0_r.p_] 154]) w K [obj g1 [.slice b c d, .int .i64 p0_r.p_] 154]) (S : SliceAt tU8 K b c d p0_r.b_) (T : rng64 p0_r.p_) (hm : M.spec_l30Text F p0_r = some r) :
  Calls Tryz.prog 222 #[.pointer (some ⟨g1, 0, none⟩)] w fun e w' => ∃ a_2 n_3 c_4 K', e = .returned (sv r.1) ∧ SH w K (List.flatMap Item.gs [obj g1 [.slice b c d, .int .i64 p0_r.p_] 154]) w' K' [obj g1 [.slice a_2 n_3 c_4, .int .i64 r.2.p_] 154] ∧ r.1.length ≤ maxLen ∧ SliceAt tU8 K' a_2 n_3 c_4 r.2.b_ ∧ rng64 r.2.p_ := by
 rw [M.spec_l30Text] at hm
 refine calls_in func222 rfl ntmps222 rfl (sr (lv (rv_assign (v := sv []) rfl) (nr (lv (rv_assign (v := sv []) rfl) (nsr (mv rfl ?_))))))
 obtain ⟨r7, U, V⟩ := ob hm
 refine lc (vs := [pt g1, .int .i64 9]) co65 ((ok_spec_l30Rd_pick F) hS.e1 S T (by decide : rng64 9) U) ?_
 rintro aQ aR ⟨W, X, Y, y, rfl, Z, aa, ab, ac⟩
 refine ⟨_, rfl, ?_⟩
 have ad := (hS.c1 Z).t1
 refine av rfl (nq ?_)
 obtain ⟨f, ae, af⟩ := ob V
 refine wc_cutg (fun E' w' => ∃ l m o i, E' = [(0, pt g1), (3, sv f.1)] ∧ SH w K (List.flatMap Item.gs [obj g1 [.slice b c d, .int .i64 p0_r.p_] 154]) w' i [obj g1 [.slice l m o, .int .i64 f.2.p_] 154] ∧ KLe y i ∧ f.1.length ≤ maxLen ∧ SliceAt tU8 i l m o f.2.b_ ∧ rng64 f.2.p_) ?_ ?_
 ·refine wc_block ?_
  obtain ⟨aS, ag, ah⟩ := ob ae
  refine qw (fun (a : Str × Int × GL30Rd) E' w' => ∃ q s x k, E' = [(0, pt g1), (3, sv a.1), (4, .int .i64 a.2.1)] ∧ SH w K (List.flatMap Item.gs [obj g1 [.slice b c d, .int .i64 p0_r.p_] 154]) w' k [obj g1 [.slice q s x, .int .i64 a.2.2.p_] 154] ∧ KLe y k ∧ a.1.length ≤ maxLen ∧ rng64 a.2.1 ∧ SliceAt tU8 k q s x a.2.2.b_ ∧ rng64 a.2.2.p_) ag ⟨W, X, Y, y, rfl, ad, (KLe.refl _), (by decide : ([] : Str).length ≤ maxLen), aa, ab, ac⟩ ?_
  rintro a _ aT aU ai aj ⟨q, s, x, k, rfl, A, C, ak, aV, D, G⟩
  refine wc_seq (sr (mv rfl (lv (rv_gtr rfl rfl) (nq (wcc ai rfl (fun al B => ?_) (fun al B => ?_))))))
  ·refine wc_skip (qs (wc_block (wc_region (mv rfl (mv rfl ?_)))))
   obtain ⟨aW, am, an⟩ := ob B
   refine lc (vs := [pt g1]) co232 ((ok_spec_l30Raw F) A.e1 D G am) ?_
   rintro aX aY ⟨aZ, a0, a1, a3, rfl, H, a4, ao, ap⟩
   refine ⟨_, rfl, ?_⟩
   have aq := (A.c1 H).t1
   obtain ⟨a5, ar, au⟩ := ob an
   refine lv (rv_sadd rfl rfl ar) (mv rfl (wl_buildSlice (t := tStr) (n := 5) (pv := [(0, sv [32]), (1, sv [32]), (2, sv [44, 32]), (3, sv [45]), (4, sv [46, 32])]) (cs := [sv [32], sv [32], sv [44, 32], sv [45], sv [46, 32]]) (xs := [([32] : Str), ([32] : Str), ([44, 32] : Str), ([45] : Str), ([46, 32] : Str)]) wn rfl underlying23 tf9 rfl rfl rfl (by kernel_rfl) rfl rfl (lit_cons (u := sv [32]) (z := ([32] : Str)) ⟨rfl, (by decide : ([32] : Str).length ≤ maxLen)⟩ (lit_cons (u := sv [32]) (z := ([32] : Str)) ⟨rfl, (by decide : ([32] : Str).length ≤ maxLen)⟩ (lit_cons (u := sv [44, 32]) (z := ([44, 32] : Str)) ⟨rfl, (by decide : ([44, 32] : Str).length ≤ maxLen)⟩ (lit_cons (u := sv [45]) (z := ([45] : Str)) ⟨rfl, (by decide : ([45] : Str).length ≤ maxLen)⟩ (lit_cons (u := sv [46, 32]) (z := ([46, 32] : Str)) ⟨rfl, (by decide : ([46, 32] : Str).length ≤ maxLen)⟩ lit_nil))))) aq fun aw a6 a7 I ax ay => ?_))
   obtain ⟨a8, az, aA⟩ := ob au
   have J := ay.f1
   refine lc (vs := [pt g1, .slice aw 5 5]) co66 ((ok_spec_l30Rd_of F) J.e1 (ao.mono I) ap ax az) ?_
   rintro a9 ba ⟨aB, aC, aD, aE, rfl, O, bb, aF, aG⟩
   refine ⟨_, rfl, ?_⟩
   have aH := (J.c1 O).t2
   obtain ⟨bc, R, aI⟩ := ob aA
   refine lv (rv_sadd rfl rfl R) (av rfl (nb (qe_seq (wc_region (mv rfl (lv (rv_sub rfl rfl) (av rfl (wl_nil ?_))))))))
   obtain rfl := oi aI
   have aJ := aH.sb (sk (sd sz))
   exact qd ⟨_, rfl, aB, aC, aD, aE, rfl, aJ, (((C.trans H.le).trans I).trans O.le), (len_cat R), (w64_rng _), aF, aG⟩
  refine wc_exit (qe_then_exit (qe_then_exit ?_))
  obtain rfl := oi B
  have aK := aj _ rfl
  subst aK
  refine qe_block_eq ?_
  obtain rfl := oi ah
  exact qd ⟨q, s, x, k, rfl, A, C, ak, D, G⟩
 rintro _ bd ⟨l, m, o, i, rfl, aL, be, aM, aN, aO⟩
 refine qr (mv rfl (av rfl (nq (wc_ret ?_))))
 obtain rfl := oi af
 exact er results222 ⟨rfl, trivial⟩ ⟨l, m, o, i, rfl, aL, aM, aN, aO⟩

set_option maxHeartbeats 2000000 in
theorem ok_spec_l30Doc (F : Nat) {w : World} {K : KMap} {g1 : Nat} {G : Option Addr} {H I : Nat} {p0_r : GL30Rd} {p1_id : Int} {r : GDoc × GL30Rd} (hS : SH w K (List.flatMap Item.gs [obj g1 [.slice G H I, .int .i64 p0_r.p_] 154]) w K [obj g1 [.slice G H I, .int .i64 p0_r.p_] 154]) (bL : SliceAt tU8 K G H I p0_r.b_) (bM : rng64 p0_r.p_) (bf : rng64 p1_id) (hm : M.spec_l30Doc F p0_r p1_id = some r) :
  Calls Tryz.prog 196 #[.pointer (some ⟨g1, 0, none⟩), .int .i64 p1_id] w fun e w' => ∃ a_2 n_3 c_4 a_6 n_7 c_8 a_10 n_11 c_12 K', e = .returned (.agg #[.int .i64 r.1.Id, .slice a_2 n_3 c_4, .slice a_6 n_7 c_8]) ∧ SH w K (List.flatMap Item.gs [obj g1 [.slice G H I, .int .i64 p0_r.p_] 154]) w' K' [tail (.slice a_2 n_3 c_4) 141 2, tail (.slice a_6 n_7 c_8) 189 2, obj g1 [.slice a_10 n_11 c_12, .int .i64 r.2.p_] 154] ∧ rng64 r.1.Id ∧ SliceAt tGField K' a_2 n_3 c_4 r.1.Fields ∧ SliceAt tGAttr K' a_6 n_7 c_8 r.1.Nums ∧ SliceAt tU8 K' a_10 n_11 c_12 r.2.b_ ∧ rng64 r.2.p_ := by
 rw [M.spec_l30Doc] at hm
 refine calls_in func196 rfl ntmps196 rfl (sr (al tf71 hS fun J w9 bN => ?_))
 have bO : SH _ _ _ _ _ [obj J [.int .i64 0, .slice none 0 0, .slice none 0 0] 71, _] := bN
 refine nr (mv rfl (lv (rv_build (cs := #[.int .i64 p1_id, .slice none 0 0, .slice none 0 0]) sp71 tf71 rfl (by kernel_rfl)) (al tf71 bO fun i dx bP => ?_)))
 have bQ : SH _ _ _ _ _ [obj i [.int .i64 0, .slice none 0 0, .slice none 0 0] 71, _, _] := bP
 refine ls [.int .i64 p1_id, .slice none 0 0, .slice none 0 0] (.agg #[.int .i64 p1_id, .slice none 0 0, .slice none 0 0]) tf71 bQ fun dy bR => (nsr (mv rfl ?_))
 obtain ⟨dz, bS, bT⟩ := ob hm
 have bg := bR.f2
 refine lc (vs := [pt g1, .int .i64 6]) co65 ((ok_spec_l30Rd_pick F) bg.e1 bL bM (by decide : rng64 6) bS) ?_
 rintro dA dB ⟨bU, bV, bW, aB, rfl, bX, dC, bh, bi⟩
 refine ⟨_, rfl, ?_⟩
 have bj := (bg.c1 bX).t3
 refine lv (rv_gtr rfl rfl) (nq ?_)
 obtain ⟨o, bY, bZ⟩ := ob bT
 refine wc_cutg (fun E' w' => ∃ aC aD aE W X Y s v x Z, E' = [(0, pt g1), (4, pt J), (5, pt i)] ∧ SH w K (List.flatMap Item.gs [obj g1 [.slice G H I, .int .i64 p0_r.p_] 154]) w' Z [obj g1 [.slice aC aD aE, .int .i64 o.1.p_] 154, obj J [.int .i64 0, .slice none 0 0, .slice none 0 0] 71, obj i [.int .i64 o.2.Id, .slice W X Y, .slice s v x] 71, tail (.slice W X Y) 141 2, tail (.slice s v x) 189 2] ∧ KLe aB Z ∧ SliceAt tU8 Z aC aD aE o.1.b_ ∧ rng64 o.1.p_ ∧ rng64 o.2.Id ∧ SliceAt tGField Z W X Y o.2.Fields ∧ SliceAt tGAttr Z s v x o.2.Nums) ?_ ?_
 ·refine wcc bY rfl (fun b0 aF => ?_) (fun b0 aF => ?_)
  ·have ao := bj.drew
   refine wh1 (fun w' => Holds aB w') (fun w' => HasObj i [.int .i64 p1_id, .slice none 0 0, .slice none 0 0] w') 8 [(1, 6), (1, 7), (1, 8), (6, 7), (6, 8), (7, 8)] mixed (ao.hasK (KLe.refl _)) (fun _ => ao.hasObj (.tail _ (.head _))) (gt (rv_fieldAddr ff71_1 rfl) (gf (fun _ h => rh_loadm1 tf68 rfl rfl h) (gt (rv_move rfl) (gn ?_))))
   obtain ⟨ap, b1, b2⟩ := ob aF
   refine lc (vs := [pt g1]) co222 ((ok_spec_l30Text F) ao.e1 bh bi b1) ?_
   rintro dD dE ⟨b3, b4, b5, dF, rfl, aa, b6, b7, b8⟩
   refine ⟨_, rfl, ?_⟩
   have aG := (ao.c1 aa).t3
   refine wl_nil (qh (aG.hasK aa.le) (fun _ => aG.hasObj (.tail _ (.head _))) (gt (rv_build (cs := #[sv [98, 111, 100, 121], sv ap.1]) sp141 tf141 rfl (by kernel_rfl)) (gn (lb tGField (.agg #[sv [98, 111, 100, 121], sv ap.1]) [sv [98, 111, 100, 121], sv ap.1] (GField.mk ([98, 111, 100, 121] : Str) ap.1) underlying68 tf141 ⟨rfl, (by decide : ([98, 111, 100, 121] : Str).length ≤ maxLen), b6⟩ aG fun dG dH dI ah b9 aH => (wl_nil (qh (aH.hasK (aa.le.trans ah)) (fun _ => aH.hasObj (.tail _ (.tail _ (.head _)))) (gn ?_)))))))
   have ca := aH.nil 141 2
   obtain ⟨dJ, cb, cc⟩ := ob b2
   refine lp underlying68 tf141 (SliceAt.nil _ _) b9 cb ca fun aI aJ aK dK cd aq ce aL => (wl_nil (qh (aL.hasK ((aa.le.trans ah).trans aq)) (fun _ => aL.hasObj (.tail _ (.tail _ (.tail _ (.head _))))) (gt (rv_fieldAddr ff71_1 rfl) (gn (ls [.int .i64 p1_id, .slice aI aJ aK, .slice none 0 0] (.slice aI aJ aK) tf68 aL.f3 fun dL bk => (wl_nil (qh (bk.hasK ((aa.le.trans ah).trans aq)) (fun h => nomatch h) (gd' ?_))))))))
   obtain rfl := oi cc
   have cf := bk.nil 189 2
   have cg := cf.f2.f2.f5.f5.sb (sk (sk (sk (sk (sk (sd sz))))))
   exact qd ⟨b3, b4, b5, aI, aJ, aK, none, 0, 0, cd, rfl, cg, ((aa.le.trans ah).trans aq), (b7.mono (ah.trans aq)), b8, bf, ce, (SliceAt.nil _ _)⟩
  refine wc_skip ?_
  obtain rfl := oi aF
  have ch := bj.nil 141 2
  have ci := ch.nil 189 2
  exact qd ⟨bU, bV, bW, none, 0, 0, none, 0, 0, aB, rfl, ci.f1.f3.f4.f4, (KLe.refl _), bh, bi, bf, (SliceAt.nil _ _), (SliceAt.nil _ _)⟩
 rintro _ dM ⟨aC, aD, aE, W, X, Y, s, v, x, Z, rfl, bl, dN, cj, ck, bm, bn, bo⟩
 refine qs (sr (mv rfl ?_))
 obtain ⟨dO, cl, cm⟩ := ob bZ
 refine lc (vs := [pt g1, .int .i64 3]) co65 ((ok_spec_l30Rd_pick F) bl.e1 cj ck (by decide : rng64 3) cl) ?_
 rintro dP dQ ⟨cn, cp, cq, aM, rfl, ai, dR, bp, bq⟩
 refine ⟨_, rfl, ?_⟩
 have br := (bl.c1 ai).t5
 refine lv (rv_eql rfl rfl) (nq ?_)
 obtain ⟨q, cr, ct⟩ := ob cm
 refine wc_cutg (fun E' w' => ∃ aN aO aP y A B ab ac ad ae, E' = [(0, pt g1), (4, pt J), (5, pt i)] ∧ SH w K (List.flatMap Item.gs [obj g1 [.slice G H I, .int .i64 p0_r.p_] 154]) w' ae [obj g1 [.slice aN aO aP, .int .i64 q.1.p_] 154, obj J [.int .i64 0, .slice none 0 0, .slice none 0 0] 71, obj i [.int .i64 q.2.Id, .slice y A B, .slice ab ac ad] 71, tail (.slice y A B) 141 2, tail (.slice ab ac ad) 189 2] ∧ KLe aM ae ∧ SliceAt tU8 ae aN aO aP q.1.b_ ∧ rng64 q.1.p_ ∧ rng64 q.2.Id ∧ SliceAt tGField ae y A B q.2.Fields ∧ SliceAt tGAttr ae ab ac ad q.2.Nums) ?_ ?_
 ·refine wcc cr rfl (fun cu aQ => ?_) (fun cu aQ => ?_)
  ·have ar := br.drew
   refine wh1 (fun w' => Holds aM w') (fun w' => HasObj i [.int .i64 o.2.Id, .slice W X Y, .slice s v x] w') 8 [(1, 6), (1, 7), (1, 8), (6, 7), (6, 8), (7, 8)] mixed (ar.hasK (KLe.refl _)) (fun _ => ar.hasObj (.tail _ (.tail _ (.head _)))) (gt (rv_fieldAddr ff71_1 rfl) (gf (fun _ h => rh_loadm1 tf68 rfl rfl h) (gt (rv_move rfl) (gn ?_))))
   obtain ⟨au, cv, cw⟩ := ob aQ
   refine lc (vs := [pt g1]) co222 ((ok_spec_l30Text F) ar.e1 bp bq cv) ?_
   rintro dS dT ⟨cx, cy, cz, dU, rfl, C, cA, cB, cC⟩
   refine ⟨_, rfl, ?_⟩
   have aR := (ar.c1 C).t5
   refine wl_nil (qh (aR.hasK C.le) (fun _ => aR.hasObj (.tail _ (.tail _ (.head _)))) (gt (rv_build (cs := #[sv [116, 105, 116, 108, 101], sv au.1]) sp141 tf141 rfl (by kernel_rfl)) (gn (lb tGField (.agg #[sv [116, 105, 116, 108, 101], sv au.1]) [sv [116, 105, 116, 108, 101], sv au.1] (GField.mk ([116, 105, 116, 108, 101] : Str) au.1) underlying68 tf141 ⟨rfl, (by decide : ([116, 105, 116, 108, 101] : Str).length ≤ maxLen), cA⟩ aR fun dV dW dX O cD aS => (wl_nil (qh (aS.hasK (C.le.trans O)) (fun _ => aS.hasObj (.tail _ (.tail _ (.tail _ (.head _))))) (gn ?_)))))))
   obtain ⟨dY, cE, cF⟩ := ob cw
   refine lp underlying68 tf141 (bn.mono ((ai.le.trans C.le).trans O)) cD cE aS.f4 fun aT aU aV dZ cG aj cH aW => (wl_nil (qh (aW.hasK ((C.le.trans O).trans aj)) (fun _ => aW.hasObj (.tail _ (.tail _ (.tail _ (.tail _ (.head _)))))) (gt (rv_fieldAddr ff71_1 rfl) (gn (ls [.int .i64 o.2.Id, .slice aT aU aV, .slice s v x] (.slice aT aU aV) tf68 aW.f4 fun d0 bs => (wl_nil (qh (bs.hasK ((C.le.trans O).trans aj)) (fun h => nomatch h) (gd' ?_))))))))
   obtain rfl := oi cF
   have cI := bs.f5.f2.f2.f5.f5.sb (sk (sk (sk (sk (sk (sd sz))))))
   exact qd ⟨cx, cy, cz, aT, aU, aV, s, v, x, cG, rfl, cI, ((C.le.trans O).trans aj), (cB.mono (O.trans aj)), cC, bm, cH, (SliceAt.mono (((ai.le.trans C.le).trans O).trans aj) bo)⟩
  refine wc_skip ?_
  obtain rfl := oi aQ
  exact qd ⟨cn, cp, cq, W, X, Y, s, v, x, aM, rfl, br, (KLe.refl _), bp, bq, bm, (bn.mono ai.le), (bo.mono ai.le)⟩
 rintro _ d1 ⟨aN, aO, aP, y, A, B, ab, ac, ad, ae, rfl, bt, d2, cJ, cK, bu, bv, bw⟩
 refine qs (sr (mv rfl ?_))
 obtain ⟨d3, cL, cM⟩ := ob ct
 refine lc (vs := [pt g1, .int .i64 3]) co65 ((ok_spec_l30Rd_pick F) bt.e1 cJ cK (by decide : rng64 3) cL) ?_
 rintro d4 d5 ⟨cN, cO, cP, aX, rfl, ak, d6, bx, bz⟩
 refine ⟨_, rfl, ?_⟩
 have bA := (bt.c1 ak).t5
 refine lv (rv_gtr rfl rfl) (nq ?_)
 obtain ⟨a, cQ, cR⟩ := ob cM
 refine wc_cutg (fun E' w' => ∃ aY aZ a0 b d f k l m af, E' = [(0, pt g1), (4, pt J), (5, pt i)] ∧ SH w K (List.flatMap Item.gs [obj g1 [.slice G H I, .int .i64 p0_r.p_] 154]) w' af [obj g1 [.slice aY aZ a0, .int .i64 a.1.p_] 154, obj J [.int .i64 0, .slice none 0 0, .slice none 0 0] 71, obj i [.int .i64 a.2.Id, .slice b d f, .slice k l m] 71, tail (.slice b d f) 141 2, tail (.slice k l m) 189 2] ∧ KLe aX af ∧ SliceAt tU8 af aY aZ a0 a.1.b_ ∧ rng64 a.1.p_ ∧ rng64 a.2.Id ∧ SliceAt tGField af b d f a.2.Fields ∧ SliceAt tGAttr af k l m a.2.Nums) ?_ ?_
 ·refine wcc cQ rfl (fun cS a1 => ?_) (fun cS a1 => ?_)
  ·have aw := bA.drew
   refine wh1 (fun w' => Holds aX w') (fun w' => HasObj i [.int .i64 q.2.Id, .slice y A B, .slice ab ac ad] w') 8 [(1, 6), (1, 7), (1, 8), (6, 7), (6, 8), (7, 8)] mixed (aw.hasK (KLe.refl _)) (fun _ => aw.hasObj (.tail _ (.tail _ (.head _)))) (gt (rv_fieldAddr ff71_2 rfl) (gf (fun _ h => rh_loadm1 tf69 rfl rfl h) (gt (rv_move rfl) (gn ?_))))
   obtain ⟨ax, cT, cU⟩ := ob a1
   refine lc (vs := [pt g1, .int .i64 4]) co65 ((ok_spec_l30Rd_pick F) aw.e1 bx bz (by decide : rng64 4) cT) ?_
   rintro d7 d8 ⟨cV, cW, cX, d9, rfl, D, cY, cZ, c0⟩
   refine ⟨_, rfl, ?_⟩
   have a3 := (aw.c1 D).t5
   refine wl_nil (qh (a3.hasK D.le) (fun _ => a3.hasObj (.tail _ (.tail _ (.head _)))) (gt (rv_build (cs := #[sv [114, 97, 116, 101], .int .i64 ax.1]) sp189 tf189 rfl (by kernel_rfl)) (gn (lb tGAttr (.agg #[sv [114, 97, 116, 101], .int .i64 ax.1]) [sv [114, 97, 116, 101], .int .i64 ax.1] (GAttr.mk ([114, 97, 116, 101] : Str) ax.1) underlying69 tf189 ⟨rfl, (by decide : ([114, 97, 116, 101] : Str).length ≤ maxLen), cY⟩ a3 fun ea eb ec R c1 a4 => (wl_nil (qh (a4.hasK (D.le.trans R)) (fun _ => a4.hasObj (.tail _ (.tail _ (.tail _ (.head _))))) (gn ?_)))))))
   obtain ⟨ed, c2, c3⟩ := ob cU
   refine lp underlying69 tf189 (bw.mono ((ak.le.trans D.le).trans R)) c1 c2 a4.f5 fun a5 a6 a7 ee c5 am c6 a8 => (wl_nil (qh (a8.hasK ((D.le.trans R).trans am)) (fun _ => a8.hasObj (.tail _ (.tail _ (.tail _ (.tail _ (.head _)))))) (gt (rv_fieldAddr ff71_2 rfl) (gn (ls [.int .i64 q.2.Id, .slice y A B, .slice a5 a6 a7] (.slice a5 a6 a7) tf69 a8.f4 fun ef bB => (wl_nil (qh (bB.hasK ((D.le.trans R).trans am)) (fun h => nomatch h) (gd' ?_))))))))
   obtain rfl := oi c3
   have c7 := bB.f1.f5.f2.f5.f5.sb (sk (sk (sk (sk (sk (sd sz))))))
   exact qd ⟨cV, cW, cX, y, A, B, a5, a6, a7, c5, rfl, c7, ((D.le.trans R).trans am), (cZ.mono (R.trans am)), c0, bu, (SliceAt.mono (((ak.le.trans D.le).trans R).trans am) bv), c6⟩
  refine wc_skip ?_
  obtain rfl := oi a1
  exact qd ⟨cN, cO, cP, y, A, B, ab, ac, ad, aX, rfl, bA, (KLe.refl _), bx, bz, bu, (bv.mono ak.le), (bw.mono ak.le)⟩
 rintro _ eg ⟨aY, aZ, a0, b, d, f, k, l, m, af, rfl, bC, eh, c8, c9, bD, bE, bF⟩
 refine qs (sr (mv rfl ?_))
 obtain ⟨ei, da, db⟩ := ob cR
 refine lc (vs := [pt g1, .int .i64 3]) co65 ((ok_spec_l30Rd_pick F) bC.e1 c8 c9 (by decide : rng64 3) da) ?_
 rintro ej ek ⟨dc, dd, de, bG, rfl, an, el, bH, bI⟩
 refine ⟨_, rfl, ?_⟩
 have a9 := (bC.c1 an).t5
 refine lv (rv_eql rfl rfl) (nq (wcc db rfl (fun df ba => ?_) (fun df ba => ?_)))
 ·have ay := a9.drew
  refine wh1 (fun w' => Holds bG w') (fun w' => HasObj i [.int .i64 a.2.Id, .slice b d f, .slice k l m] w') 9 [(1, 7), (1, 8), (1, 9), (7, 8), (7, 9), (8, 9)] mixed (ay.hasK (KLe.refl _)) (fun _ => ay.hasObj (.tail _ (.tail _ (.head _)))) (gt (rv_fieldAddr ff71_2 rfl) (gf (fun _ h => rh_loadm1 tf69 rfl rfl h) (gt (rv_move rfl) (gn ?_))))
  obtain ⟨az, dg, dh⟩ := ob ba
  refine lc (vs := [pt g1, .int .i64 30]) co65 ((ok_spec_l30Rd_pick F) ay.e1 bH bI (by decide : rng64 30) dg) ?_
  rintro em en ⟨di, dj, dk, eo, rfl, S, ep, dl, dm⟩
  refine ⟨_, rfl, ?_⟩
  have bb := (ay.c1 S).t5
  refine wl_nil (qh (bb.hasK S.le) (fun _ => bb.hasObj (.tail _ (.tail _ (.head _)))) (gt (rv_add rfl rfl) (gt (rv_build (cs := #[sv [121, 101, 97, 114], .int .i64 (w64 ((2000 : Int) + az.1))]) sp189 tf189 rfl (by kernel_rfl)) (gn (lb tGAttr (.agg #[sv [121, 101, 97, 114], .int .i64 (w64 ((2000 : Int) + az.1))]) [sv [121, 101, 97, 114], .int .i64 (w64 ((2000 : Int) + az.1))] (GAttr.mk ([121, 101, 97, 114] : Str) (w64 ((2000 : Int) + az.1))) underlying69 tf189 ⟨rfl, (by decide : ([121, 101, 97, 114] : Str).length ≤ maxLen), (w64_rng _)⟩ bb fun eq es et ag dn bc => (wl_nil (qh (bc.hasK (S.le.trans ag)) (fun _ => bc.hasObj (.tail _ (.tail _ (.tail _ (.head _))))) (gn ?_))))))))
  obtain ⟨eu, dp, dq⟩ := ob dh
  refine lp underlying69 tf189 (bF.mono ((an.le.trans S.le).trans ag)) dn dp bc.f5 fun T U V ev dr aA dt bd => (wl_nil (qh (bd.hasK ((S.le.trans ag).trans aA)) (fun _ => bd.hasObj (.tail _ (.tail _ (.tail _ (.tail _ (.head _)))))) (gt (rv_fieldAddr ff71_2 rfl) (gn (ls [.int .i64 a.2.Id, .slice b d f, .slice T U V] (.slice T U V) tf69 bd.f4 fun ew be => (wl_nil (qh (be.hasK ((S.le.trans ag).trans aA)) (fun h => nomatch h) (gd' (qr (lv (rv_loadmS (ds := [.int .i64 a.2.Id, .slice b d f, .slice T U V]) tf71 rfl m0 be rfl rfl) (ls [.int .i64 a.2.Id, .slice b d f, .slice T U V] (.agg #[.int .i64 a.2.Id, .slice b d f, .slice T U V]) tf71 be.f4 fun ex bJ => ?_)))))))))))
  refine nq (wc_ret ?_)
  obtain rfl := oi dq
  have du := bJ.f4.f3.f5.sb (sk (sk (sk (sd (sd (sd sz))))))
  exact qe_ret (vs := [_]) results196 ⟨⟨_, _, rfl, run_loadVar_at tf71 (cs := [.int .i64 a.2.Id, .slice b d f, .slice T U V]) (fun j c e => by rw [Nat.zero_add, bJ.mem_obj m0]; exact e) (.inl ⟨rfl, rfl, rfl⟩)⟩, trivial⟩ ⟨b, d, f, T, U, V, di, dj, dk, dr, rfl, du, bD, (SliceAt.mono (((an.le.trans S.le).trans ag).trans aA) bE), dt, (dl.mono (ag.trans aA)), dm⟩
 refine wc_skip (qr (lv (rv_loadmS (ds := [.int .i64 a.2.Id, .slice b d f, .slice k l m]) tf71 rfl m2 a9 rfl rfl) (ls [.int .i64 a.2.Id, .slice b d f, .slice k l m] (.agg #[.int .i64 a.2.Id, .slice b d f, .slice k l m]) tf71 a9.f1 fun ey bK => (nq (wc_ret ?_)))))
 obtain rfl := oi ba
 have dv := bK.f1.f4.f4.sb (sk (sk (sk (sd (sd sz)))))
 exact qe_ret (vs := [_]) results196 ⟨⟨_, _, rfl, run_loadVar_at tf71 (cs := [.int .i64 a.2.Id, .slice b d f, .slice k l m]) (fun j c e => by rw [Nat.zero_add, bK.mem_obj m0]; exact e) (.inl ⟨rfl, rfl, rfl⟩)⟩, trivial⟩ ⟨b, d, f, k, l, m, dc, dd, de, bG, rfl, dv, bD, (bE.mono an.le), (bF.mono an.le), bH, bI⟩

theorem ok_spec_l30Docs (F : Nat) {w : World} {K : KMap} {g1 : Nat} {b : Option Addr} {c d : Nat} {p0_r : GL30Rd} {r : (List GDoc) × GL30Rd} (hS : SH w K (List.flatMap Item.gs [obj g1 [.slice b c d, .int .i64 p0_r.p_] 154]) w K [obj g1 [.slice b c d, .int .i64 p0_r.p_] 154]) (ai : SliceAt tU8 K b c d p0_r.b_) (aj : rng64 p0_r.p_) (hm : M.spec_l30Docs F p0_r = some r) :
  Calls Tryz.prog 158 #[.pointer (some ⟨g1, 0, none⟩)] w fun e w' => ∃ a_1 n_2 c_3 a_5 n_6 c_7 K', e = .returned (.slice a_1 n_2 c_3) ∧ SH w K (List.flatMap Item.gs [obj g1 [.slice b c d, .int .i64 p0_r.p_] 154]) w' K' [tail (.slice a_1 n_2 c_3) 71 3, obj g1 [.slice a_5 n_6 c_7, .int .i64 r.2.p_] 154] ∧ SliceAt tGDoc K' a_1 n_2 c_3 r.1 ∧ SliceAt tU8 K' a_5 n_6 c_7 r.2.b_ ∧ rng64 r.2.p_ := by
 rw [M.spec_l30Docs] at hm
 refine calls_in func158 rfl ntmps158 rfl (sr (lv (rv_assign (v := .slice none 0 0) rfl) (nr (b0 tGDoc underlying27 tf71 hS fun a7 w8 K9 al am an => (av rfl (nr (lv (rv_assign (v := .int .i64 0) rfl) (nsr (mv rfl ?_)))))))))
 obtain ⟨bh, ao, ap⟩ := ob hm
 have aa := an.f1
 refine lc (vs := [pt g1, .int .i64 6]) co65 ((ok_spec_l30Rd_pick F) aa.e1 (ai.mono al) aj (by decide : rng64 6) ao) ?_
 rintro bi bj ⟨aq, ar, au, H, rfl, ab, aw, ax, ay⟩
 refine ⟨_, rfl, ?_⟩
 have az := (aa.c1 ab).t2
 refine av rfl (nq ?_)
 obtain ⟨x, aA, aB⟩ := ob ap
 refine wc_cutg (fun E' w' => ∃ k l m y A B f, E' = [(0, pt g1), (3, .slice k l m)] ∧ SH w K (List.flatMap Item.gs [obj g1 [.slice b c d, .int .i64 p0_r.p_] 154]) w' f [obj g1 [.slice y A B, .int .i64 x.2.p_] 154, tail (.slice k l m) 71 3] ∧ KLe H f ∧ SliceAt tGDoc f k l m x.1 ∧ SliceAt tU8 f y A B x.2.b_ ∧ rng64 x.2.p_) ?_ ?_
 ·refine wc_block ?_
  obtain ⟨bk, aC, aD⟩ := ob aA
  refine qw (fun (a : (List GDoc) × Int × Int × GL30Rd) E' w' => ∃ o q s C D G i, E' = [(0, pt g1), (3, .slice o q s), (4, .int .i64 a.2.1), (5, .int .i64 a.2.2.1)] ∧ SH w K (List.flatMap Item.gs [obj g1 [.slice b c d, .int .i64 p0_r.p_] 154]) w' i [obj g1 [.slice C D G, .int .i64 a.2.2.2.p_] 154, tail (.slice o q s) 71 3] ∧ KLe H i ∧ SliceAt tGDoc i o q s a.1 ∧ rng64 a.2.1 ∧ rng64 a.2.2.1 ∧ SliceAt tU8 i C D G a.2.2.2.b_ ∧ rng64 a.2.2.2.p_) aC ⟨a7, 0, 0, aq, ar, au, H, rfl, az, (KLe.refl _), (am.mono ab.le), (by decide : rng64 0), aw, ax, ay⟩ ?_
  rintro a _ bl bm aE aF ⟨o, q, s, C, D, G, i, rfl, I, ac, ad, bn, bo, ae, af⟩
  refine wc_seq (sr (mv rfl (lv (rv_gtr rfl rfl) (nq (wcc aE rfl (fun aG J => ?_) (fun aG J => ?_))))))
  ·refine wc_skip (qs (wc_block (sr (mv rfl (lv (rv_add rfl rfl) (mv rfl ?_))))))
   obtain ⟨aH, aI, aJ⟩ := ob J
   refine lc (vs := [pt g1, .int .i64 3]) co65 ((ok_spec_l30Rd_pick F) I.e1 ae af (by decide : rng64 3) aI) ?_
   rintro bp bq ⟨br, bs, bt, bu, rfl, O, bv, aK, aL⟩
   refine ⟨_, rfl, ?_⟩
   have ag := (I.c1 O).t2
   refine lv (rv_add rfl rfl) (av rfl (nq (wc_region (mv rfl (mv rfl (mv rfl ?_))))))
   obtain ⟨R, aM, aN⟩ := ob aJ
   refine lc (vs := [pt g1, .int .i64 (w64 ((w64 (a.2.1 + (1 : Int))) + aH.1))]) co196 ((ok_spec_l30Doc F) ag.e1 aK aL (w64_rng _) aM) ?_
   rintro bw bx ⟨S, T, U, V, W, X, aO, aP, aQ, bz, rfl, Y, aR, aS, aT, aU, aV⟩
   refine ⟨_, rfl, ?_⟩
   have aW := (ag.c1 Y).t4
   refine lb tGDoc (.agg #[.int .i64 R.1.Id, .slice S T U, .slice V W X]) [.int .i64 R.1.Id, .slice S T U, .slice V W X] R.1 underlying27 tf71 ⟨S, T, U, V, W, X, rfl, aR, aS, aT⟩ aW fun bA bB bC Z aX aY => ?_
   obtain ⟨bD, aZ, a0⟩ := ob aN
   refine lp underlying27 tf71 (ad.mono ((O.le.trans Y.le).trans Z)) aX aZ aY.f4 fun a1 a3 a4 bE a5 ah a6 a8 => (av rfl (nb (qe_seq (wc_region (mv rfl (lv (rv_sub rfl rfl) (av rfl (wl_nil ?_))))))))
   obtain rfl := oi a0
   have a9 := a8.f4.sb (sk (sk (sd (sd (sd sz)))))
   exact qd ⟨_, rfl, a1, a3, a4, aO, aP, aQ, a5, rfl, a9, ((((ac.trans O.le).trans Y.le).trans Z).trans ah), a6, (w64_rng _), (w64_rng _), (aU.mono (Z.trans ah)), aV⟩
  refine wc_exit (qe_then_exit (qe_then_exit ?_))
  obtain rfl := oi J
  have ba := aF _ rfl
  subst ba
  refine qe_block_eq ?_
  obtain rfl := oi aD
  exact qd ⟨o, q, s, C, D, G, i, rfl, I, ac, ad, ae, af⟩
 rintro _ bF ⟨k, l, m, y, A, B, f, rfl, bb, bG, bc, bd, be⟩
 refine qr (mv rfl (av rfl (nq (wc_ret ?_))))
 obtain rfl := oi aB
 exact er results158 ⟨rfl, trivial⟩ ⟨k, l, m, y, A, B, f, rfl, bb.f1, bc, bd, be⟩

theorem ok_spec_l30Seg (F : Nat) {w : World} {K : KMap} {g1 : Nat} {q : Option Addr} {s v : Nat} {p0_r : GL30Rd} {r : GConf × GSeg × GL30Rd} (hS : SH w K (List.flatMap Item.gs [obj g1 [.slice q s v, .int .i64 p0_r.p_] 154]) w K [obj g1 [.slice q s v, .int .i64 p0_r.p_] 154]) (V : SliceAt tU8 K q s v p0_r.b_) (W : rng64 p0_r.p_) (hm : M.spec_l30Seg F p0_r = some r) :
  Calls Tryz.prog 113 #[.pointer (some ⟨g1, 0, none⟩)] w fun e w' => ∃ a_1 n_2 c_3 a_5 n_6 c_7 a_9 n_10 c_11 a_13 n_14 c_15 cs_16 a_19 n_20 c_21 K', e = .returned (.tuple #[.agg #[.slice a_1 n_2 c_3, .slice a_5 n_6 c_7], .agg #[.slice a_9 n_10 c_11, .slice a_13 n_14 c_15]]) ∧ SH w K (List.flatMap Item.gs [obj g1 [.slice q s v, .int .i64 p0_r.p_] 154]) w' K' [tail (.slice a_1 n_2 c_3) 9 1, tail (.slice a_5 n_6 c_7) 105 2, tail (.slice a_9 n_10 c_11) 71 3, rowI (.slice a_13 n_14 c_15) cs_16 86 3, obj g1 [.slice a_19 n_20 c_21, .int .i64 r.2.2.p_] 154] ∧ SliceAt tStr K' a_1 n_2 c_3 r.1.Stops ∧ SliceAt tGSyn K' a_5 n_6 c_7 r.1.Syns ∧ SliceAt tGDoc K' a_9 n_10 c_11 r.2.1.Docs ∧ RowAt true tGEntry K' cs_16 r.2.1.Entries ∧ n_14 = r.2.1.Entries.length ∧ SliceAt tU8 K' a_19 n_20 c_21 r.2.2.b_ ∧ rng64 r.2.2.p_ := by
 rw [M.spec_l30Seg] at hm
 refine calls_in func113 rfl ntmps113 rfl (sr (al tf26 hS fun X w8 Y => ?_))
 have Z : SH _ _ _ _ _ [obj X [.slice none 0 0, .slice none 0 0] 26, _] := Y
 refine al tf30 Z fun aa aI ab => ?_
 have ac : SH _ _ _ _ _ [obj aa [.slice none 0 0, .slice none 0 0] 30, _, _] := ab
 refine nr (mv rfl ?_)
 obtain ⟨aJ, ad, ae⟩ := ob hm
 have O := ac.f2
 refine lc (vs := [pt g1]) co99 ((ok_spec_l30Conf F) O.e1 V W ad) ?_
 rintro aK aL ⟨a, b, d, f, i, k, aM, aN, aO, af, rfl, ag, R, S, ah, ai⟩
 refine ⟨_, rfl, ?_⟩
 have aj := (O.c1 ag).t5
 refine al tf26 aj fun T aP ak => ?_
 have am : SH _ _ _ _ _ [obj T [.slice none 0 0, .slice none 0 0] 26, _, _, _, _, _] := ak
 refine ls [.slice a b d, .slice f i k] (.agg #[.slice a b d, .slice f i k]) tf26 am fun aQ an => (ns ?_)
 have H := an.drew
 refine wh1 (fun w' => Holds af w' ∧ HasObj T [.slice a b d, .slice f i k] w') (fun w' => True) 7 [] mixed ⟨H.hasK (KLe.refl _), H.hasObj m0⟩ (fun _ => trivial) (gh (fun _ h => rh_loadmS (ds := [.slice a b d, .slice f i k]) tf26 rfl rfl rfl h.2) (gh (fun _ h => rh_loadmS (ds := [.slice a b d, .slice f i k]) tf26 rfl rfl rfl h.2) (gt (rv_move rfl) (gn ?_))))
 obtain ⟨aR, ao, ap⟩ := ob ae
 have U := H.f3
 refine lc (vs := [pt g1]) co158 ((ok_spec_l30Docs F) U.e1 ah ai ao) ?_
 rintro aS aT ⟨aq, ar, au, aw, ax, ay, aU, rfl, l, az, aA, aB⟩
 refine ⟨_, rfl, ?_⟩
 have x := (U.c1 l).t7
 refine wl_nil (qh ⟨x.hasK l.le, x.hasObj m2⟩ (fun _ => trivial) (gn ?_))
 obtain ⟨aV, aC, aD⟩ := ob ap
 refine lc (vs := [.agg #[.slice a b d, .slice f i k], .slice aq ar au]) co84 ((ok_spec_l7Of F) x.enter0 (R.mono l.le) (S.mono l.le) az aC) ?_
 rintro aW aX ⟨y, A, B, C, D, G, cs76, aE, rfl, m, aF, hrow77, hm78⟩
 refine ⟨_, rfl, ?_⟩
 have I := (x.c0 m).t9
 refine wl_nil (qh ⟨I.hasK (l.le.trans m.le), I.hasObj m4⟩ (fun _ => trivial) (gn (ls [.slice a b d, .slice f i k] (.agg #[.slice a b d, .slice f i k]) tf26 I.f8 fun aY J => (wl_nil (qh ⟨J.hasK (l.le.trans m.le), J.hasObj m5⟩ (fun _ => trivial) (gn (ls [.slice y A B, .slice C D G] (.agg #[.slice y A B, .slice C D G]) tf30 J.f8 fun aZ o => (wl_nil (qh ⟨o.hasK (l.le.trans m.le), o.hasObj m6⟩ (fun _ => trivial) (gd' (qe_seq (wc_ret ?_))))))))))))
 obtain rfl := oi aD
 have aG := o.f5.f4.f4.f8.f8.sb (sk (sk (sk (sk (sk (sd (sd (sd (sd sz)))))))))
 exact qe_ret (vs := [_, _]) results113 ⟨⟨_, _, rfl, run_loadVar_at tf26 (cs := [.slice a b d, .slice f i k]) (fun j c e => by rw [Nat.zero_add, o.mem_obj m1]; exact e) (.inl ⟨rfl, rfl, rfl⟩)⟩, ⟨_, _, rfl, run_loadVar_at tf30 (cs := [.slice y A B, .slice C D G]) (fun j c e => by rw [Nat.zero_add, o.mem_obj m0]; exact e) (.inl ⟨rfl, rfl, rfl⟩)⟩, trivial⟩ ⟨a, b, d, f, i, k, y, A, B, C, D, G, cs76, aw, ax, ay, aE, rfl, aG, (R.mono (l.le.trans m.le)), (S.mono (l.le.trans m.le)), aF, hrow77, hm78, (aA.mono m.le), aB⟩

set_option maxHeartbeats 2000000 in
theorem ok_spec_l30AnySeg (F : Nat) {w : World} {K : KMap} {g1 : Nat} {a2 : Option Addr} {n3 c4 : Nat} {p0_r : GL30Rd} {r : GConf × GSeg × GL30Rd} (hS : SH w K (List.flatMap Item.gs [obj g1 [.slice a2 n3 c4, .int .i64 p0_r.p_] 154]) w K [obj g1 [.slice a2 n3 c4, .int .i64 p0_r.p_] 154]) (bb : SliceAt tU8 K a2 n3 c4 p0_r.b_) (bc : rng64 p0_r.p_) (hm : M.spec_l30AnySeg F p0_r = some r) :
  Calls Tryz.prog 64 #[.pointer (some ⟨g1, 0, none⟩)] w fun e w' => ∃ a_1 n_2 c_3 a_5 n_6 c_7 a_9 n_10 c_11 a_13 n_14 c_15 a_17 n_18 c_19 K', e = .returned (.tuple #[.agg #[.slice a_1 n_2 c_3, .slice a_5 n_6 c_7], .agg #[.slice a_9 n_10 c_11, .slice a_13 n_14 c_15]]) ∧ SH w K (List.flatMap Item.gs [obj g1 [.slice a2 n3 c4, .int .i64 p0_r.p_] 154]) w' K' [tail (.slice a_1 n_2 c_3) 9 1, tail (.slice a_5 n_6 c_7) 105 2, tail (.slice a_13 n_14 c_15) 86 3, obj g1 [.slice a_17 n_18 c_19, .int .i64 r.2.2.p_] 154] ∧ SliceAt tStr K' a_1 n_2 c_3 r.1.Stops ∧ SliceAt tGSyn K' a_5 n_6 c_7 r.1.Syns ∧ SliceAt tGDoc K' a_9 n_10 c_11 r.2.1.Docs ∧ SliceAt tGEntry K' a_13 n_14 c_15 r.2.1.Entries ∧ SliceAt tU8 K' a_17 n_18 c_19 r.2.2.b_ ∧ rng64 r.2.2.p_ := by
 rw [M.spec_l30AnySeg] at hm
 refine calls_in func64 rfl ntmps64 rfl (sr (al tf26 hS fun g7 w8 be => ?_))
 have bf : SH _ _ _ _ _ [obj g7 [.slice none 0 0, .slice none 0 0] 26, _] := be
 refine al tf30 bf fun bg cr bh => ?_
 have bi : SH _ _ _ _ _ [obj bg [.slice none 0 0, .slice none 0 0] 30, _, _] := bh
 refine nr (mv rfl ?_)
 obtain ⟨bj, bk, bl⟩ := ob hm
 have a1 := bi.f2
 refine lc (vs := [pt g1]) co113 ((ok_spec_l30Seg F) a1.e1 bb bc bk) ?_
 rintro ct cu ⟨a, b, f, i, k, l, o, q, s, m, x, y, cs37, bm, bn, bo, bp, rfl, bq, W, X, Y, hrow38, hm39, a3, a4⟩
 refine ⟨_, rfl, ?_⟩
 have br := (a1.c1 bq).t7
 refine mv rfl (lv (rv_extract rfl rfl) (lv (rv_extract rfl rfl) (al tf26 br fun V cv bs => ?_)))
 have bt : SH _ _ _ _ _ [obj V [.slice none 0 0, .slice none 0 0] 26, _, _, _, _, _, _, _] := bs
 refine al tf30 bt fun T cw bu => ?_
 have bv : SH _ _ _ _ _ [obj T [.slice none 0 0, .slice none 0 0] 30, _, _, _, _, _, _, _, _] := bu
 refine ls [.slice a b f, .slice i k l] (.agg #[.slice a b f, .slice i k l]) tf26 bv.f1 fun cx bw => (ls [.slice o q s, .slice m x y] (.agg #[.slice o q s, .slice m x y]) tf30 bw.f1 fun cy Z => (nsr (fa ff30_1 rfl (lv (rv_loadm1 tf28 rfl m0 Z rfl) (lv (rv_lenRow underlying28 rfl hm39) (lv (rv_gtr rfl rfl) (nq (wcc bl rfl (fun bx aQ => ?_) (fun bx aQ => ?_)))))))))
 ·refine sr (mv rfl (fa ff30_1 rfl (lv (rv_loadm1 tf28 rfl m0 Z rfl) (lv (rv_lenRow underlying28 rfl hm39) ?_))))
  obtain ⟨aR, bz, bA⟩ := ob aQ
  have a5 := Z.f6
  refine lc (vs := [pt g1, .int .i64 (bj.2.1.Entries.length : Int)]) co65 ((ok_spec_l30Rd_pick F) a5.e1 a3 a4 (rng_nat (rowI_max Z m5 hm39)) bz) ?_
  rintro cz cA ⟨cB, cC, cD, cE, rfl, A, cF, bB, bC⟩
  refine ⟨_, rfl, ?_⟩
  have a6 := (a5.c1 A).t9
  refine av rfl (nr (mv rfl ?_))
  obtain ⟨cG, bD, bE⟩ := ob bA
  refine lc (vs := [pt g1, .int .i64 16]) co65 ((ok_spec_l30Rd_pick F) a6.e1 bB bC (by decide : rng64 16) bD) ?_
  rintro cH cI ⟨ai, aj, ak, am, rfl, B, cJ, an, ao⟩
  refine ⟨_, rfl, ?_⟩
  have U := (a6.c1 B).t9
  refine nq (wc_block (sr (lv (rv_eql rfl rfl) (av rfl (nq (wcc bE rfl (fun bF aS => ?_) (fun bF aS => ?_)))))))
  ·refine wc_region (fa ff30_1 rfl (lv (rv_loadm1 tf28 rfl m1 U rfl) (mv rfl ?_)))
   obtain ⟨C, aa, bG⟩ := ob aS
   obtain ⟨cK, a7⟩ := SH.rowI_at U m6 hm39 aa
   obtain ⟨cL, bH, bI⟩ := RowAt.at (RowAt.mono (A.le.trans B.le) hrow38) aa
   obtain ⟨ap, aq, ar, rfl, bJ, cM, bK⟩ := bH
   have bL : ∀ (j : Nat) (d : Value), [sv C.Field, sv C.Term, .slice ap aq ar][j]? = some d → cs37[aR.1.toNat * tGEntry.size + j]? = some d := bI
   refine lv (rv_indexI (t := tGEntry) underlying28 tf86 rfl rfl a7 hm39 aa) (fa ff86_1 rfl (wl_storeI (t := tGEntry) (off := 1) (ds := [sv C.Field, sv C.Term, .slice ap aq ar]) (v := sv [122, 122, 122]) (u := .agg #[sv C.Field, sv [122, 122, 122], .slice ap aq ar]) (e := (GEntry.mk C.Field ([122, 122, 122] : Str) C.Posts)) wn tf9 rfl rfl rfl rfl (by simp [Value.cells, Value.oneCell', sv]) a7 U.f6 (RowAt.mono (A.le.trans B.le) hrow38) hm39 aa bL rfl rfl ⟨ap, aq, ar, rfl, bJ, (by decide : ([122, 122, 122] : Str).length ≤ maxLen), bK⟩ fun cs110 cN hrow112 hm113 bM => ?_))
   have bN := getI_set (e := (GEntry.mk C.Field ([122, 122, 122] : Str) C.Posts)) aa
   obtain ⟨cO, bO, bP⟩ := RowAt.at hrow112 bN
   obtain ⟨bQ, bR, bS, rfl, cP, cQ, cR⟩ := bO
   have cS : ∀ (j : Nat) (d : Value), [sv ((GEntry.mk C.Field ([122, 122, 122] : Str) C.Posts).Field), sv ((GEntry.mk C.Field ([122, 122, 122] : Str) C.Posts).Term), .slice bQ bR bS][j]? = some d → cs110[aR.1.toNat * tGEntry.size + j]? = some d := bP
   refine nb (qs ?_)
   have au := bM.drew
   refine wh1 (fun w' => Holds am w' ∧ HasObj V [.slice a b f, .slice i k l] w' ∧ HasObj T [.slice o q s, .slice m x y] w') (fun w' => True) 4 [] mixed ⟨au.hasK (KLe.refl _), au.hasObj m3, au.hasObj m2⟩ (fun _ => trivial) (gh (fun _ h => rh_loadmS (ds := [.slice a b f, .slice i k l]) tf26 rfl rfl rfl h.2.1) (gh (fun _ h => rh_loadmS (ds := [.slice o q s, .slice m x y]) tf30 rfl rfl rfl h.2.2) (gn (ls [.slice a b f, .slice i k l] (.agg #[.slice a b f, .slice i k l]) tf26 au.f8 fun cT aw => (wl_nil (qh ⟨aw.hasK (KLe.refl _), aw.hasObj m4, aw.hasObj m3⟩ (fun _ => trivial) (gn (ls [.slice o q s, .slice m x y] (.agg #[.slice o q s, .slice m x y]) tf30 aw.f8 fun cU ax => (wl_nil (qh ⟨ax.hasK (KLe.refl _), ax.hasObj m5, ax.hasObj m4⟩ (fun _ => trivial) (gd' ?_)))))))))))
   refine qe_seq (wc_ret ?_)
   obtain ⟨bT, ay, bU, aT⟩ := SH.freezeI ax.f2 hrow112 hm113
   obtain rfl := oi bG
   have bV := aT.f3.f1.f7.f7.sb (sk (sk (sk (sk (sd (sd (sd (sd (sd sz)))))))))
   exact qe_ret (vs := [_, _]) results64 ⟨⟨_, _, rfl, run_loadVar_at tf26 (cs := [.slice a b f, .slice i k l]) (fun j c e => by rw [Nat.zero_add, aT.mem_obj m2]; exact e) (.inl ⟨rfl, rfl, rfl⟩)⟩, ⟨_, _, rfl, run_loadVar_at tf30 (cs := [.slice o q s, .slice m x y]) (fun j c e => by rw [Nat.zero_add, aT.mem_obj m1]; exact e) (.inl ⟨rfl, rfl, rfl⟩)⟩, trivial⟩ ⟨a, b, f, i, k, l, o, q, s, m, x, y, ai, aj, ak, bT, rfl, bV, (W.mono ((A.le.trans B.le).trans ay)), (X.mono ((A.le.trans B.le).trans ay)), (Y.mono ((A.le.trans B.le).trans ay)), bU, (an.mono ay), ao⟩
  refine sr (lv (rv_eql rfl rfl) (av rfl (nq (wcc aS rfl (fun bW aU => ?_) (fun bW aU => ?_)))))
  ·have ab := U.drew
   refine wh1 (fun w' => Holds am w') (fun w' => HasObj T [.slice o q s, .slice m x y] w' ∧ HasRow m cs37 w') 8 [(1, 8), (3, 5), (5, 6), (6, 7), (7, 8)] mixed (ab.hasK (KLe.refl _)) (fun _ => ⟨ab.hasObj m1, ab.hasRow m6⟩) (gt (rv_fieldAddr ff30_1 rfl) (gf (fun _ h => rh_loadm1 tf28 rfl rfl h.1) (gt (rv_fieldAddr ff30_1 rfl) (gf (fun _ h => rh_loadm1 tf28 rfl rfl h.1) (gt (rv_move rfl) ?_)))))
   obtain ⟨D, aV, bX⟩ := ob aU
   obtain ⟨cV, a8⟩ := SH.rowI_at ab m6 hm39 aV
   obtain ⟨cW, bY, bZ⟩ := RowAt.at (RowAt.mono (A.le.trans B.le) hrow38) aV
   obtain ⟨ac, ad, ae, rfl, b0, b1, b2⟩ := bY
   have b3 : ∀ (j : Nat) (d : Value), [sv D.Field, sv D.Term, .slice ac ad ae][j]? = some d → cs37[aR.1.toNat * tGEntry.size + j]? = some d := bZ
   refine gt (rv_indexI (t := tGEntry) underlying28 tf86 rfl rfl a8 hm39 aV) (gf (fun _ h => (rh_loadIS (ds := [sv D.Field, sv D.Term, .slice ac ad ae]) tf86 rfl b3 rfl a8 h.2)) (gn (lb tGEntry (.agg #[sv D.Field, sv D.Term, .slice ac ad ae]) [sv D.Field, sv D.Term, .slice ac ad ae] D underlying28 tf86 ⟨ac, ad, ae, rfl, b0, b1, b2⟩ ab fun cX cY b4 G b5 az => (wl_nil (qh (az.hasK G) (fun _ => ⟨az.hasObj m2, az.hasRow m7⟩) (gn ?_))))))
   obtain ⟨cZ, b6, b7⟩ := ob bX
   refine wl_appendR (t := tGEntry) wn rfl underlying28 tf86 rfl rfl rfl rfl (RowAt.mono ((A.le.trans B.le).trans G) hrow38) hm39 b5 b6 az.f7 fun H I J cs176 c0 hrow178 hm179 a9 => (wl_nil (qh (a9.hasK G) (fun h => nomatch h) (gt (rv_fieldAddr ff30_1 rfl) (gn (ls [.slice o q s, .slice H I J] (.slice H I J) tf28 a9.f3 fun c1 ba => (wl_nil (qh (ba.hasK G) (fun h => nomatch h) (gd' (qe_block (qs ?_))))))))))
   have aA := ba.drew
   refine wh1 (fun w' => Holds b4 w' ∧ HasObj V [.slice a b f, .slice i k l] w' ∧ HasObj T [.slice o q s, .slice H I J] w') (fun w' => True) 4 [] mixed ⟨aA.hasK (KLe.refl _), aA.hasObj m4, aA.hasObj m0⟩ (fun _ => trivial) (gh (fun _ h => rh_loadmS (ds := [.slice a b f, .slice i k l]) tf26 rfl rfl rfl h.2.1) (gh (fun _ h => rh_loadmS (ds := [.slice o q s, .slice H I J]) tf30 rfl rfl rfl h.2.2) (gn (ls [.slice a b f, .slice i k l] (.agg #[.slice a b f, .slice i k l]) tf26 aA.f9 fun c2 aB => (wl_nil (qh ⟨aB.hasK (KLe.refl _), aB.hasObj m5, aB.hasObj m1⟩ (fun _ => trivial) (gn (ls [.slice o q s, .slice H I J] (.agg #[.slice o q s, .slice H I J]) tf30 aB.f9 fun c3 aC => (wl_nil (qh ⟨aC.hasK (KLe.refl _), aC.hasObj m6, aC.hasObj m2⟩ (fun _ => trivial) (gd' ?_)))))))))))
   refine qe_seq (wc_ret ?_)
   obtain ⟨b8, aD, b9, aW⟩ := SH.freezeI aC.f3 hrow178 hm179
   obtain rfl := oi b7
   have ca := aW.f5.f1.f8.f8.sb (sk (sk (sk (sk (sd (sd (sd (sd (sd (sd sz))))))))))
   exact qe_ret (vs := [_, _]) results64 ⟨⟨_, _, rfl, run_loadVar_at tf26 (cs := [.slice a b f, .slice i k l]) (fun j c e => by rw [Nat.zero_add, aW.mem_obj m2]; exact e) (.inl ⟨rfl, rfl, rfl⟩)⟩, ⟨_, _, rfl, run_loadVar_at tf30 (cs := [.slice o q s, .slice H I J]) (fun j c e => by rw [Nat.zero_add, aW.mem_obj m1]; exact e) (.inl ⟨rfl, rfl, rfl⟩)⟩, trivial⟩ ⟨a, b, f, i, k, l, o, q, s, H, I, J, ai, aj, ak, b8, rfl, ca, (SliceAt.mono (((A.le.trans B.le).trans G).trans aD) W), (SliceAt.mono (((A.le.trans B.le).trans G).trans aD) X), (SliceAt.mono (((A.le.trans B.le).trans G).trans aD) Y), b9, (an.mono (G.trans aD)), ao⟩
  refine sr (lv (rv_eql rfl rfl) (av rfl (nq (wcc aU rfl (fun cb aX => ?_) (fun cb aX => ?_)))))
  ·refine wc_region (fa ff30_0 rfl (lv (rv_loadm1 tf27 rfl m1 U rfl) ?_))
   obtain ⟨c5, cc, cd⟩ := ob aX
   refine wl_sl_l (t := tGDoc) wn rfl underlying27 tf71 rfl rfl (Y.mono (A.le.trans B.le)) cc fun O R S ce => (fa ff30_0 rfl (ls [.slice O R S, .slice m x y] (.slice O R S) tf27 U.f1 fun c6 cf => (nb (qs ?_))))
   have aE := cf.drew
   refine wh1 (fun w' => Holds am w' ∧ HasObj V [.slice a b f, .slice i k l] w' ∧ HasObj T [.slice O R S, .slice m x y] w') (fun w' => True) 4 [] mixed ⟨aE.hasK (KLe.refl _), aE.hasObj m2, aE.hasObj m0⟩ (fun _ => trivial) (gh (fun _ h => rh_loadmS (ds := [.slice a b f, .slice i k l]) tf26 rfl rfl rfl h.2.1) (gh (fun _ h => rh_loadmS (ds := [.slice O R S, .slice m x y]) tf30 rfl rfl rfl h.2.2) (gn (ls [.slice a b f, .slice i k l] (.agg #[.slice a b f, .slice i k l]) tf26 aE.f8 fun c7 aF => (wl_nil (qh ⟨aF.hasK (KLe.refl _), aF.hasObj m3, aF.hasObj m1⟩ (fun _ => trivial) (gn (ls [.slice O R S, .slice m x y] (.agg #[.slice O R S, .slice m x y]) tf30 aF.f8 fun c8 aG => (wl_nil (qh ⟨aG.hasK (KLe.refl _), aG.hasObj m4, aG.hasObj m2⟩ (fun _ => trivial) (gd' ?_)))))))))))
   refine qe_seq (wc_ret ?_)
   obtain ⟨cg, aH, ch, aY⟩ := SH.freezeI aG.f8 (RowAt.mono (A.le.trans B.le) hrow38) hm39
   obtain rfl := oi cd
   have ci := aY.f4.f1.f7.f7.sb (sk (sk (sk (sk (sd (sd (sd (sd (sd sz)))))))))
   exact qe_ret (vs := [_, _]) results64 ⟨⟨_, _, rfl, run_loadVar_at tf26 (cs := [.slice a b f, .slice i k l]) (fun j c e => by rw [Nat.zero_add, aY.mem_obj m2]; exact e) (.inl ⟨rfl, rfl, rfl⟩)⟩, ⟨_, _, rfl, run_loadVar_at tf30 (cs := [.slice O R S, .slice m x y]) (fun j c e => by rw [Nat.zero_add, aY.mem_obj m1]; exact e) (.inl ⟨rfl, rfl, rfl⟩)⟩, trivial⟩ ⟨a, b, f, i, k, l, O, R, S, m, x, y, ai, aj, ak, cg, rfl, ci, (W.mono ((A.le.trans B.le).trans aH)), (X.mono ((A.le.trans B.le).trans aH)), (ce.mono aH), ch, (an.mono aH), ao⟩
  refine wc_skip (qe_block (qs ?_))
  have aI := U.drew
  refine wh1 (fun w' => Holds am w' ∧ HasObj V [.slice a b f, .slice i k l] w' ∧ HasObj T [.slice o q s, .slice m x y] w') (fun w' => True) 4 [] mixed ⟨aI.hasK (KLe.refl _), aI.hasObj m2, aI.hasObj m1⟩ (fun _ => trivial) (gh (fun _ h => rh_loadmS (ds := [.slice a b f, .slice i k l]) tf26 rfl rfl rfl h.2.1) (gh (fun _ h => rh_loadmS (ds := [.slice o q s, .slice m x y]) tf30 rfl rfl rfl h.2.2) (gn (ls [.slice a b f, .slice i k l] (.agg #[.slice a b f, .slice i k l]) tf26 aI.f8 fun c9 aJ => (wl_nil (qh ⟨aJ.hasK (KLe.refl _), aJ.hasObj m3, aJ.hasObj m2⟩ (fun _ => trivial) (gn (ls [.slice o q s, .slice m x y] (.agg #[.slice o q s, .slice m x y]) tf30 aJ.f8 fun da aK => (wl_nil (qh ⟨aK.hasK (KLe.refl _), aK.hasObj m4, aK.hasObj m3⟩ (fun _ => trivial) (gd' ?_)))))))))))
  refine qe_seq (wc_ret ?_)
  obtain ⟨cj, aL, ck, aZ⟩ := SH.freezeI aK.f8 (RowAt.mono (A.le.trans B.le) hrow38) hm39
  obtain rfl := oi aX
  have cl := aZ.f3.f1.f7.f7.sb (sk (sk (sk (sk (sd (sd (sd (sd (sd sz)))))))))
  exact qe_ret (vs := [_, _]) results64 ⟨⟨_, _, rfl, run_loadVar_at tf26 (cs := [.slice a b f, .slice i k l]) (fun j c e => by rw [Nat.zero_add, aZ.mem_obj m2]; exact e) (.inl ⟨rfl, rfl, rfl⟩)⟩, ⟨_, _, rfl, run_loadVar_at tf30 (cs := [.slice o q s, .slice m x y]) (fun j c e => by rw [Nat.zero_add, aZ.mem_obj m1]; exact e) (.inl ⟨rfl, rfl, rfl⟩)⟩, trivial⟩ ⟨a, b, f, i, k, l, o, q, s, m, x, y, ai, aj, ak, cj, rfl, cl, (W.mono ((A.le.trans B.le).trans aL)), (X.mono ((A.le.trans B.le).trans aL)), (Y.mono ((A.le.trans B.le).trans aL)), ck, (an.mono aL), ao⟩
 refine wc_skip (qs ?_)
 have aM := Z.drew
 refine wh1 (fun w' => Holds bp w' ∧ HasObj V [.slice a b f, .slice i k l] w' ∧ HasObj T [.slice o q s, .slice m x y] w') (fun w' => True) 4 [] mixed ⟨aM.hasK (KLe.refl _), aM.hasObj m1, aM.hasObj m0⟩ (fun _ => trivial) (gh (fun _ h => rh_loadmS (ds := [.slice a b f, .slice i k l]) tf26 rfl rfl rfl h.2.1) (gh (fun _ h => rh_loadmS (ds := [.slice o q s, .slice m x y]) tf30 rfl rfl rfl h.2.2) (gn (ls [.slice a b f, .slice i k l] (.agg #[.slice a b f, .slice i k l]) tf26 aM.f8 fun db aN => (wl_nil (qh ⟨aN.hasK (KLe.refl _), aN.hasObj m2, aN.hasObj m1⟩ (fun _ => trivial) (gn (ls [.slice o q s, .slice m x y] (.agg #[.slice o q s, .slice m x y]) tf30 aN.f8 fun dc aO => (wl_nil (qh ⟨aO.hasK (KLe.refl _), aO.hasObj m3, aO.hasObj m2⟩ (fun _ => trivial) (gd' ?_)))))))))))
 refine qe_seq (wc_ret ?_)
 obtain ⟨cm, aP, cn, a0⟩ := SH.freezeI aO.f7 hrow38 hm39
 obtain rfl := oi aQ
 have cp := a0.f8.f1.f7.f7.sb (sk (sk (sk (sk (sd (sd (sd (sd (sd sz)))))))))
 exact qe_ret (vs := [_, _]) results64 ⟨⟨_, _, rfl, run_loadVar_at tf26 (cs := [.slice a b f, .slice i k l]) (fun j c e => by rw [Nat.zero_add, a0.mem_obj m2]; exact e) (.inl ⟨rfl, rfl, rfl⟩)⟩, ⟨_, _, rfl, run_loadVar_at tf30 (cs := [.slice o q s, .slice m x y]) (fun j c e => by rw [Nat.zero_add, a0.mem_obj m1]; exact e) (.inl ⟨rfl, rfl, rfl⟩)⟩, trivial⟩ ⟨a, b, f, i, k, l, o, q, s, m, x, y, bm, bn, bo, cm, rfl, cp, (W.mono aP), (X.mono aP), (Y.mono aP), cn, (a3.mono aP), a4⟩

theorem ok_spec_l30Known (F : Nat) {w : World} {K : KMap} {r : (List Str)} (hS : SH w K [] w K []) (hm : M.spec_l30Known F  = some r) :
  Calls Tryz.prog 67 #[] w fun e w' => ∃ a_1 n_2 c_3 K', e = .returned (.slice a_1 n_2 c_3) ∧ SH w K [] w' K' [tail (.slice a_1 n_2 c_3) 9 1] ∧ SliceAt tStr K' a_1 n_2 c_3 r := by
 rw [M.spec_l30Known] at hm
 refine calls_in func67 rfl ntmps67 rfl (sr (lv (rv_assign (v := .slice none 0 0) rfl) (nr ?_)))
 refine wl_buildSlice (t := tStr) (n := 13) (pv := [(0, sv [99, 97, 116]), (1, sv [99, 97, 116, 115]), (2, sv [100, 111, 103]), (3, sv [100, 111, 103, 115]), (4, sv [114, 117, 110]), (5, sv [114, 117, 110, 110, 105, 110, 103]), (6, sv [116, 104, 101]), (7, sv [114, 101, 100]), (8, sv [98, 105, 103]), (9, sv [110, 101, 119]), (10, sv [121, 111, 114, 107]), (11, sv [110, 121]), (12, sv [102, 111, 120])]) (cs := [sv [99, 97, 116], sv [99, 97, 116, 115], sv [100, 111, 103], sv [100, 111, 103, 115], sv [114, 117, 110], sv [114, 117, 110, 110, 105, 110, 103], sv [116, 104, 101], sv [114, 101, 100], sv [98, 105, 103], sv [110, 101, 119], sv [121, 111, 114, 107], sv [110, 121], sv [102, 111, 120]]) (xs := [([99, 97, 116] : Str), ([99, 97, 116, 115] : Str), ([100, 111, 103] : Str), ([100, 111, 103, 115] : Str), ([114, 117, 110] : Str), ([114, 117, 110, 110, 105, 110, 103] : Str), ([116, 104, 101] : Str), ([114, 101, 100] : Str), ([98, 105, 103] : Str), ([110, 101, 119] : Str), ([121, 111, 114, 107] : Str), ([110, 121] : Str), ([102, 111, 120] : Str)]) wn rfl underlying23 tf9 rfl rfl rfl (by kernel_rfl) rfl rfl (lit_cons (u := sv [99, 97, 116]) (z := ([99, 97, 116] : Str)) ⟨rfl, (by decide : ([99, 97, 116] : Str).length ≤ maxLen)⟩ (lit_cons (u := sv [99, 97, 116, 115]) (z := ([99, 97, 116, 115] : Str)) ⟨rfl, (by decide : ([99, 97, 116, 115] : Str).length ≤ maxLen)⟩ (lit_cons (u := sv [100, 111, 103]) (z := ([100, 111, 103] : Str)) ⟨rfl, (by decide : ([100, 111, 103] : Str).length ≤ maxLen)⟩ (lit_cons (u := sv [100, 111, 103, 115]) (z := ([100, 111, 103, 115] : Str)) ⟨rfl, (by decide : ([100, 111, 103, 115] : Str).length ≤ maxLen)⟩ (lit_cons (u := sv [114, 117, 110]) (z := ([114, 117, 110] : Str)) ⟨rfl, (by decide : ([114, 117, 110] : Str).length ≤ maxLen)⟩ (lit_cons (u := sv [114, 117, 110, 110, 105, 110, 103]) (z := ([114, 117, 110, 110, 105, 110, 103] : Str)) ⟨rfl, (by decide : ([114, 117, 110, 110, 105, 110, 103] : Str).length ≤ maxLen)⟩ (lit_cons (u := sv [116, 104, 101]) (z := ([116, 104, 101] : Str)) ⟨rfl, (by decide : ([116, 104, 101] : Str).length ≤ maxLen)⟩ (lit_cons (u := sv [114, 101, 100]) (z := ([114, 101, 100] : Str)) ⟨rfl, (by decide : ([114, 101, 100] : Str).length ≤ maxLen)⟩ (lit_cons (u := sv [98, 105, 103]) (z := ([98, 105, 103] : Str)) ⟨rfl, (by decide : ([98, 105, 103] : Str).length ≤ maxLen)⟩ (lit_cons (u := sv [110, 101, 119]) (z := ([110, 101, 119] : Str)) ⟨rfl, (by decide : ([110, 101, 119] : Str).length ≤ maxLen)⟩ (lit_cons (u := sv [121, 111, 114, 107]) (z := ([121, 111, 114, 107] : Str)) ⟨rfl, (by decide : ([121, 111, 114, 107] : Str).length ≤ maxLen)⟩ (lit_cons (u := sv [110, 121]) (z := ([110, 121] : Str)) ⟨rfl, (by decide : ([110, 121] : Str).length ≤ maxLen)⟩ (lit_cons (u := sv [102, 111, 120]) (z := ([102, 111, 120] : Str)) ⟨rfl, (by decide : ([102, 111, 120] : Str).length ≤ maxLen)⟩ lit_nil))))))))))))) hS ?_
 intro a f b i c d
 refine av rfl (nq (wc_ret ?_))
 obtain rfl := oi hm
 exact er results67 ⟨rfl, trivial⟩ ⟨a, 13, 13, b, rfl, d, c⟩

theorem ok_spec_l30Field (F : Nat) {w : World} {K : KMap} {g1 : Nat} {a : Option Addr} {b c : Nat} {p0_r : GL30Rd} {r : Str × GL30Rd} (hS : SH w K (List.flatMap Item.gs [obj g1 [.slice a b c, .int .i64 p0_r.p_] 154]) w K [obj g1 [.slice a b c, .int .i64 p0_r.p_] 154]) (f : SliceAt tU8 K a b c p0_r.b_) (i : rng64 p0_r.p_) (hm : M.spec_l30Field F p0_r = some r) :
  Calls Tryz.prog 68 #[.pointer (some ⟨g1, 0, none⟩)] w fun e w' => ∃ a_2 n_3 c_4 K', e = .returned (sv r.1) ∧ SH w K (List.flatMap Item.gs [obj g1 [.slice a b c, .int .i64 p0_r.p_] 154]) w' K' [obj g1 [.slice a_2 n_3 c_4, .int .i64 r.2.p_] 154] ∧ r.1.length ≤ maxLen ∧ SliceAt tU8 K' a_2 n_3 c_4 r.2.b_ ∧ rng64 r.2.p_ := by
 rw [M.spec_l30Field] at hm
 refine calls_in func68 rfl ntmps68 rfl (sr (lv (rv_assign (v := sv []) rfl) (nr (mv rfl (wl_buildSlice (t := tStr) (n := 4) (pv := [(0, sv [98, 111, 100, 121]), (1, sv [98, 111, 100, 121]), (2, sv [116, 105, 116, 108, 101]), (3, sv [110, 111, 110, 101])]) (cs := [sv [98, 111, 100, 121], sv [98, 111, 100, 121], sv [116, 105, 116, 108, 101], sv [110, 111, 110, 101]]) (xs := [([98, 111, 100, 121] : Str), ([98, 111, 100, 121] : Str), ([116, 105, 116, 108, 101] : Str), ([110, 111, 110, 101] : Str)]) wn rfl underlying23 tf9 rfl rfl rfl (by kernel_rfl) rfl rfl (lit_cons (u := sv [98, 111, 100, 121]) (z := ([98, 111, 100, 121] : Str)) ⟨rfl, (by decide : ([98, 111, 100, 121] : Str).length ≤ maxLen)⟩ (lit_cons (u := sv [98, 111, 100, 121]) (z := ([98, 111, 100, 121] : Str)) ⟨rfl, (by decide : ([98, 111, 100, 121] : Str).length ≤ maxLen)⟩ (lit_cons (u := sv [116, 105, 116, 108, 101]) (z := ([116, 105, 116, 108, 101] : Str)) ⟨rfl, (by decide : ([116, 105, 116, 108, 101] : Str).length ≤ maxLen)⟩ (lit_cons (u := sv [110, 111, 110, 101]) (z := ([110, 111, 110, 101] : Str)) ⟨rfl, (by decide : ([110, 111, 110, 101] : Str).length ≤ maxLen)⟩ lit_nil)))) hS fun k O R l m o => ?_)))))
 obtain ⟨S, q, s⟩ := ob hm
 have d := o.f1
 refine lc (vs := [pt g1, .slice k 4 4]) co66 ((ok_spec_l30Rd_of F) d.e1 (f.mono l) i m q) ?_
 rintro T U ⟨x, y, A, B, rfl, C, D, G, H⟩
 refine ⟨_, rfl, ?_⟩
 have I := (d.c1 C).t2
 refine av rfl (nq (wc_ret ?_))
 obtain rfl := oi s
 have J := I.sb (sk (sd sz))
 exact er results68 ⟨rfl, trivial⟩ ⟨x, y, A, B, rfl, J, D, G, H⟩

theorem ok_spec_l30Rd_one (F : Nat) {w : World} {K : KMap} {g1 : Nat} {a : Option Addr} {b c : Nat} {f : Option Addr} {i k : Nat} {p0_r : GL30Rd} {p1_list : List Int} {r : Int × GL30Rd} (hS : SH w K (List.flatMap Item.gs [obj g1 [.slice a b c, .int .i64 p0_r.p_] 154]) w K [obj g1 [.slice a b c, .int .i64 p0_r.p_] 154]) (o : SliceAt tU8 K a b c p0_r.b_) (q : rng64 p0_r.p_) (d : SliceAt tInt K f i k p1_list) (hm : M.spec_l30Rd_one F p0_r p1_list = some r) :
  Calls Tryz.prog 69 #[.pointer (some ⟨g1, 0, none⟩), .slice f i k] w fun e w' => ∃ a_2 n_3 c_4 K', e = .returned (.int .i64 r.1) ∧ SH w K (List.flatMap Item.gs [obj g1 [.slice a b c, .int .i64 p0_r.p_] 154]) w' K' [obj g1 [.slice a_2 n_3 c_4, .int .i64 r.2.p_] 154] ∧ rng64 r.1 ∧ SliceAt tU8 K' a_2 n_3 c_4 r.2.b_ ∧ rng64 r.2.p_ := by
 rw [M.spec_l30Rd_one] at hm
 refine calls_in func69 rfl ntmps69 rfl (sr (lv (rv_assign (v := .int .i64 0) rfl) (nr (mv rfl (mv rfl (mv rfl (lv (rv_len (t := tInt) underlying39 rfl d) ?_)))))))
 obtain ⟨W, s, x⟩ := ob hm
 refine lc (vs := [pt g1, .int .i64 (p1_list.length : Int)]) co65 ((ok_spec_l30Rd_pick F) hS.e1 o q (rng_nat (SliceAt.max d)) s) ?_
 rintro X Y ⟨y, A, B, C, rfl, l, Z, D, G⟩
 refine ⟨_, rfl, ?_⟩
 have m := (hS.c1 l).t1
 obtain ⟨H, I, J⟩ := ob x
 refine li underlying39 tf3 (d.mono l.le) I fun O R aa S T => ?_
 obtain ⟨rfl, U⟩ := S
 have V : AtK _ O R [.int .i64 H] := T
 refine lv (rv_load1 tf3 rfl m (V 0 _ rfl)) (av rfl (nq (wc_ret ?_)))
 obtain rfl := oi J
 exact er results69 ⟨rfl, trivial⟩ ⟨y, A, B, C, rfl, m, U, D, G⟩

set_option maxHeartbeats 2000000 in
theorem ok_spec_DrawBoundTop (F : Nat) {w : World} {K : KMap} {a1 : Option Addr} {n2 c3 : Nat} {p0_code : List UInt8} {r : GConf × GSeg × Str × (List Str) × Int} (hS : SH w K [] w K []) (a9 : SliceAt tU8 K a1 n2 c3 p0_code) (hm : M.spec_DrawBoundTop F p0_code = some r) :
  Calls Tryz.prog 25 #[.slice a1 n2 c3] w fun e w' => ∃ a_1 n_2 c_3 a_5 n_6 c_7 a_9 n_10 c_11 a_13 n_14 c_15 a_18 n_19 c_20 K', e = .returned (.tuple #[.agg #[.slice a_1 n_2 c_3, .slice a_5 n_6 c_7], .agg #[.slice a_9 n_10 c_11, .slice a_13 n_14 c_15], sv r.2.2.1, .slice a_18 n_19 c_20, .int .i64 r.2.2.2.2]) ∧ SH w K [] w' K' [tail (.slice a_1 n_2 c_3) 9 1, tail (.slice a_5 n_6 c_7) 105 2, tail (.slice a_13 n_14 c_15) 86 3, tail (.slice a_18 n_19 c_20) 9 1] ∧ SliceAt tStr K' a_1 n_2 c_3 r.1.Stops ∧ SliceAt tGSyn K' a_5 n_6 c_7 r.1.Syns ∧ SliceAt tGDoc K' a_9 n_10 c_11 r.2.1.Docs ∧ SliceAt tGEntry K' a_13 n_14 c_15 r.2.1.Entries ∧ r.2.2.1.length ≤ maxLen ∧ SliceAt tStr K' a_18 n_19 c_20 r.2.2.2.1 ∧ rng64 r.2.2.2.2 := by
 rw [M.spec_DrawBoundTop] at hm
 refine calls_in func25 rfl ntmps25 rfl (sr (al tf26 hS fun g5 w6 ba => ?_))
 have bb : SH _ _ _ _ _ [obj g5 [.slice none 0 0, .slice none 0 0] 26] := ba
 refine al tf30 bb fun g9 cK bc => ?_
 have aM : SH _ _ _ _ _ [obj g9 [.slice none 0 0, .slice none 0 0] 30, _] := bc
 refine lv (rv_assign (v := sv []) rfl) (lv (rv_assign (v := .slice none 0 0) rfl) (lv (rv_assign (v := .int .i64 0) rfl) (nr (mv rfl ?_))))
 obtain ⟨cL, bd, be⟩ := ob hm
 refine lc (vs := [.slice a1 n2 c3]) co49 ((ok_spec_l30Open F) aM.enter0 a9 bd) ?_
 rintro cM cN ⟨S, cO, cP, cQ, cR, rfl, bf, bg, bh⟩
 refine ⟨_, rfl, ?_⟩
 have aN := (aM.c0 bf).t3
 refine av rfl (nr (mv rfl ?_))
 obtain ⟨cS, bi, bj⟩ := ob be
 refine lc (vs := [pt S]) co64 ((ok_spec_l30AnySeg F) aN.e1 bg bh bi) ?_
 rintro cT cU ⟨a, b, d, f, k, m, y, A, B, o, q, s, cV, cW, cX, cY, rfl, bk, aO, aP, aQ, aR, bl, bm⟩
 refine ⟨_, rfl, ?_⟩
 have bn := (aN.c1 bk).t6
 refine mv rfl (lv (rv_extract rfl rfl) (lv (rv_extract rfl rfl) (al tf26 bn fun W cZ bo => ?_)))
 have bp : SH _ _ _ _ _ [obj W [.slice none 0 0, .slice none 0 0] 26, _, _, _, _, _, _] := bo
 refine al tf30 bp fun X c0 bq => ?_
 have br : SH _ _ _ _ _ [obj X [.slice none 0 0, .slice none 0 0] 30, _, _, _, _, _, _, _] := bq
 refine ls [.slice a b d, .slice f k m] (.agg #[.slice a b d, .slice f k m]) tf26 br.f1 fun c1 bs => (ls [.slice y A B, .slice o q s] (.agg #[.slice y A B, .slice o q s]) tf30 bs.f1 fun c2 bt => (nr (b0 tStr underlying23 tf9 bt fun bu c4 c5 U bv bw => (av rfl (nsr (mv rfl ?_))))))
 obtain ⟨c6, bx, bz⟩ := ob bj
 have aS := bw.f6
 refine lc (vs := [pt S, .int .i64 5]) co65 ((ok_spec_l30Rd_pick F) aS.e1 (bl.mono U) bm (by decide : rng64 5) bx) ?_
 rintro c7 c8 ⟨bA, bB, bC, aD, rfl, T, bD, bE, bF⟩
 refine ⟨_, rfl, ?_⟩
 have bG := (aS.c1 T).t9
 refine av rfl (nq ?_)
 obtain ⟨ak, bH, bI⟩ := ob bz
 refine wc_cutg (fun E' w' => ∃ Z aa ab aE aF aG ac, E' = [(2, pt g5), (3, pt g9), (7, pt S), (8, pt W), (9, pt X), (10, .slice Z aa ab)] ∧ SH w K [] w' ac [obj g5 [.slice none 0 0, .slice none 0 0] 26, obj g9 [.slice none 0 0, .slice none 0 0] 30, obj S [.slice aE aF aG, .int .i64 ak.2.p_] 154, obj W [.slice a b d, .slice f k m] 26, tail (.slice a b d) 9 1, tail (.slice f k m) 105 2, obj X [.slice y A B, .slice o q s] 30, tail (.slice o q s) 86 3, tail (.slice Z aa ab) 9 1] ∧ KLe aD ac ∧ SliceAt tStr ac Z aa ab ak.1 ∧ SliceAt tU8 ac aE aF aG ak.2.b_ ∧ rng64 ak.2.p_) ?_ ?_
 ·refine wc_block ?_
  obtain ⟨c9, bJ, bK⟩ := ob bH
  refine qw (fun (Y : (List Str) × Int × GL30Rd) E' w' => ∃ ag ah ai am an ao ad, E' = [(2, pt g5), (3, pt g9), (7, pt S), (8, pt W), (9, pt X), (10, .slice ag ah ai), (11, .int .i64 Y.2.1)] ∧ SH w K [] w' ad [obj g5 [.slice none 0 0, .slice none 0 0] 26, obj g9 [.slice none 0 0, .slice none 0 0] 30, obj S [.slice am an ao, .int .i64 Y.2.2.p_] 154, obj W [.slice a b d, .slice f k m] 26, tail (.slice a b d) 9 1, tail (.slice f k m) 105 2, obj X [.slice y A B, .slice o q s] 30, tail (.slice o q s) 86 3, tail (.slice ag ah ai) 9 1] ∧ KLe aD ad ∧ SliceAt tStr ad ag ah ai Y.1 ∧ rng64 Y.2.1 ∧ SliceAt tU8 ad am an ao Y.2.2.b_ ∧ rng64 Y.2.2.p_) bJ ⟨bu, 0, 0, bA, bB, bC, aD, rfl, bG.f1.f6.f3.f6.f6.f6.f6.f7.f8, (KLe.refl _), (bv.mono T.le), bD, bE, bF⟩ ?_
  rintro Y _ da db bL bM ⟨ag, ah, ai, am, an, ao, ad, rfl, aH, aT, aU, dc, aV, aW⟩
  refine wc_seq (sr (mv rfl (lv (rv_gtr rfl rfl) (nq (wcc bL rfl (fun bN aI => ?_) (fun bN aI => ?_))))))
  ·refine wc_skip (qs (wc_block (wc_region (mv rfl (mv rfl ?_)))))
   obtain ⟨dd, bO, bP⟩ := ob aI
   refine lc (vs := []) co67 ((ok_spec_l30Known F) aH.enter0  bO) ?_
   rintro de df ⟨bQ, bR, bS, dg, rfl, ap, bT⟩
   refine ⟨_, rfl, ?_⟩
   have bU := (aH.c0 ap).t10
   obtain ⟨aJ, bV, bW⟩ := ob bP
   have aX := bU.f3
   refine lc (vs := [pt S, .slice bQ bR bS]) co66 ((ok_spec_l30Rd_of F) aX.e1 (aV.mono ap.le) aW bT bV) ?_
   rintro dh di ⟨bX, bY, bZ, dj, rfl, aK, b1, b2, b3⟩
   refine ⟨_, rfl, ?_⟩
   have b4 := (aX.c1 aK).t10
   refine lb tStr (sv aJ.1) [sv aJ.1] aJ.1 underlying23 tf9 ⟨rfl, b1⟩ b4 fun dk dl dm aL b5 b6 => ?_
   have b7 : SH _ _ _ _ _ [_, _, _, _, _, _, _, _, _, _, _] := SH.front (p := [_, _, _, _, _, _, _, _, _, _]) b6
   obtain ⟨dn, b8, b9⟩ := ob bW
   refine lp underlying23 tf9 (aU.mono ((ap.le.trans aK.le).trans aL)) b5 b8 b7 fun ca cb cc dp cd aY ce cf => (av rfl (nb (qe_seq (wc_region (mv rfl (lv (rv_sub rfl rfl) (av rfl (wl_nil ?_))))))))
   obtain rfl := oi b9
   have cg : SH _ _ _ _ _ [_, _, _, _, _, _, _, _, _, _, _] := SH.front (p := [_, _, _, _, _, _, _, _, _, _]) cf
   have ch : SH _ _ _ _ _ [_, _, _, _, _, _, _, _, _, _, _] := SH.front (p := [_, _, _, _, _, _, _, _, _, _]) cg
   have ci : SH _ _ _ _ _ [_, _, _, _, _, _, _, _, _, _, _] := SH.front (p := [_, _, _, _, _, _, _, _, _, _]) ch
   have cj : SH _ _ _ _ _ [_, _, _, _, _, _, _, _, _, _, _] := SH.front (p := [_, _, _, _, _, _, _, _, _, _]) ci
   have ck : SH _ _ _ _ _ [_, _, _, _, _, _, _, _, _, _, _] := SH.front (p := [_, _, _, _, _, _, _, _, _, _]) cj
   have cl : SH _ _ _ _ _ [_, _, _, _, _, _, _, _, _, _, _] := SH.front (p := [_, _, _, _, _, _, _, _, _, _]) ck.f7
   have cm : SH _ _ _ _ _ [_, _, _, _, _, _, _, _, _, _, _] := SH.front (p := [_, _, _, _, _, _, _, _, _, _]) cl
   have cn := cm.sb (sk (sk (sk (sk (sk (sk (sk (sk (sk (sd (sd sz)))))))))))
   exact qd ⟨_, rfl, ca, cb, cc, bX, bY, bZ, cd, rfl, cn, ((((aT.trans ap.le).trans aK.le).trans aL).trans aY), ce, (w64_rng _), (b2.mono (aL.trans aY)), b3⟩
  refine wc_exit (qe_then_exit (qe_then_exit ?_))
  obtain rfl := oi aI
  have cp := bM _ rfl
  subst cp
  refine qe_block_eq ?_
  obtain rfl := oi bK
  exact qd ⟨ag, ah, ai, am, an, ao, ad, rfl, aH, aT, aU, aV, aW⟩
 rintro _ dq ⟨Z, aa, ab, aE, aF, aG, ac, rfl, cq, V, aZ, a0, a2⟩
 refine qs ?_
 obtain ⟨dr, a3, cr⟩ := ob bI
 obtain ⟨dt, a4, a5⟩ := ob cr
 refine wc_held (fun w' => Holds ac w' ∧ HasObj W [.slice a b d, .slice f k m] w' ∧ HasObj X [.slice y A B, .slice o q s] w') (fun w' => True) 13 [] mixed ?_
 have x := cq.drew
 refine wg_val (i := 0) (listed' := #[true, false, false, false, false, false, false, false, false, false, false, false, false]) (HasObj W [.slice a b d, .slice f k m]) rfl (by kernel_rfl) (pk_then pk_body) (by kernel_rfl) rfl (by kernel_rfl) (by kernel_rfl) rfl (.inl fun _ h => h.2.1) ⟨⟨x.hasK (KLe.refl _), x.hasObj m3, x.hasObj m6⟩, (fun _ => trivial), by decide⟩ wn rfl (fun _ h => rh_loadmS (ds := [.slice a b d, .slice f k m]) tf26 rfl rfl rfl h) (wg_val (i := 1) (listed' := #[true, true, false, false, false, false, false, false, false, false, false, false, false]) (HasObj X [.slice y A B, .slice o q s]) rfl (by kernel_rfl) (pk_then pk_body) (by kernel_rfl) rfl (by kernel_rfl) (by kernel_rfl) rfl (.inl fun _ h => h.2.2) ⟨⟨x.hasK (KLe.refl _), x.hasObj m3, x.hasObj m6⟩, (fun _ => trivial), by decide⟩ wn rfl (fun _ h => rh_loadmS (ds := [.slice y A B, .slice o q s]) tf30 rfl rfl rfl h) (wg_val (i := 2) (listed' := #[true, true, true, false, false, false, false, false, false, false, false, false, false]) (fun _ => True) rfl (by kernel_rfl) (pk_then pk_body) (by kernel_rfl) rfl (by kernel_rfl) (by kernel_rfl) rfl (.inl fun _ _ => trivial) ⟨⟨x.hasK (KLe.refl _), x.hasObj m3, x.hasObj m6⟩, (fun _ => trivial), by decide⟩ wn rfl (fun _ _ => (rv_move rfl)) ?_))
 refine wg_val (i := 4) (listed' := #[true, true, true, false, true, false, false, false, false, false, false, false, false]) (fun _ => True) rfl (by kernel_rfl) (pk_then pk_body) (by kernel_rfl) rfl (by kernel_rfl) (by kernel_rfl) rfl (.inl fun _ _ => trivial) ⟨⟨x.hasK (KLe.refl _), x.hasObj m3, x.hasObj m6⟩, (fun _ => trivial), by decide⟩ wn rfl (fun _ _ => (rv_move rfl)) (wg_val (i := 5) (listed' := #[true, true, true, false, true, true, false, false, false, false, false, false, false]) (fun _ => True) rfl (by kernel_rfl) (pk_then pk_body) (by kernel_rfl) rfl (by kernel_rfl) (by kernel_rfl) rfl (.inl fun _ _ => trivial) ⟨⟨x.hasK (KLe.refl _), x.hasObj m3, x.hasObj m6⟩, (fun _ => trivial), by decide⟩ wn rfl (fun _ _ => (rv_move rfl)) (wg_many (l := [3, 6]) (by kernel_rfl) rfl ⟨⟨_, rfl, ?_⟩, ⟨_, rfl, ?_⟩, trivial⟩))
 ·have a6 := x.f2
  refine lc (vs := [pt S]) co68 ((ok_spec_l30Field F) a6.e1 a0 a2 a3) ?_
  rintro du dv ⟨dw, dx, dy, dz, rfl, G, ct, cu, cv⟩
  refine ⟨_, rfl, ?_⟩
  have aq := (a6.c1 G).t9
  refine wl_nil (qe_held (listed' := #[true, true, true, true, true, true, false, false, false, false, false, false, false]) rfl ⟨⟨aq.hasK G.le, aq.hasObj m3, aq.hasObj m6⟩, (fun _ => trivial), by decide⟩ (wg_one (i := 6) (by kernel_rfl) rfl (wl_buildSlice (t := tInt) (n := 6) (pv := [(0, .int .i64 1), (1, .int .i64 1), (2, .int .i64 2), (3, .int .i64 3), (4, .int .i64 16), (5, .int .i64 0)]) (cs := [.int .i64 1, .int .i64 1, .int .i64 2, .int .i64 3, .int .i64 16, .int .i64 0]) (xs := [(1 : Int), (1 : Int), (2 : Int), (3 : Int), (16 : Int), (0 : Int)]) wn rfl underlying39 tf3 rfl rfl rfl (by kernel_rfl) rfl rfl (lit_cons (u := .int .i64 1) (z := (1 : Int)) ⟨rfl, (by decide : rng64 1)⟩ (lit_cons (u := .int .i64 1) (z := (1 : Int)) ⟨rfl, (by decide : rng64 1)⟩ (lit_cons (u := .int .i64 2) (z := (2 : Int)) ⟨rfl, (by decide : rng64 2)⟩ (lit_cons (u := .int .i64 3) (z := (3 : Int)) ⟨rfl, (by decide : rng64 3)⟩ (lit_cons (u := .int .i64 16) (z := (16 : Int)) ⟨rfl, (by decide : rng64 16)⟩ (lit_cons (u := .int .i64 0) (z := (0 : Int)) ⟨rfl, (by decide : rng64 0)⟩ lit_nil)))))) aq fun cw dA dB J cx ar => (wl_nil (qe_held (listed' := #[true, true, true, true, true, true, true, false, false, false, false, false, false]) rfl ⟨⟨ar.hasK (G.le.trans J), ar.hasObj m4, ar.hasObj m7⟩, (fun _ => trivial), by decide⟩ ?_)))))
  refine wg_one (i := 7) (by kernel_rfl) rfl ?_
  have a7 := ar.f1
  refine lc (vs := [pt S, .slice cw 6 6]) co69 ((ok_spec_l30Rd_one F) a7.e1 (cu.mono J) cv cx a4) ?_
  rintro dC dD ⟨dE, dF, dG, cy, rfl, O, cz, dH, dI⟩
  refine ⟨_, rfl, ?_⟩
  have au := (a7.c1 O).t10
  refine wl_nil (qe_held (listed' := #[true, true, true, true, true, true, true, true, false, false, false, false, false]) rfl ⟨⟨au.hasK ((G.le.trans J).trans O.le), au.hasObj m4, au.hasObj m7⟩, (fun _ => trivial), by decide⟩ (wg_one (i := 8) (by kernel_rfl) rfl (ls [.slice a b d, .slice f k m] (.agg #[.slice a b d, .slice f k m]) tf26 au.f2 fun dJ aw => (wl_nil (qe_held (listed' := #[true, true, true, true, true, true, true, true, true, false, false, false, false]) rfl ⟨⟨aw.hasK ((G.le.trans J).trans O.le), aw.hasObj m4, aw.hasObj m7⟩, (fun _ => trivial), by decide⟩ (wg_one (i := 9) (by kernel_rfl) rfl (ls [.slice y A B, .slice o q s] (.agg #[.slice y A B, .slice o q s]) tf30 aw.f3 fun dK C => (wl_nil (qe_held (listed' := #[true, true, true, true, true, true, true, true, true, true, false, false, false]) rfl ⟨⟨C.hasK ((G.le.trans J).trans O.le), C.hasObj m4, C.hasObj m7⟩, (fun _ => trivial), by decide⟩ ?_)))))))))
  refine wg_val (i := 10) (listed' := #[true, true, true, true, true, true, true, true, true, true, true, false, false]) (fun _ => True) rfl (by kernel_rfl) (pk_then pk_body) (by kernel_rfl) rfl (by kernel_rfl) (by kernel_rfl) rfl (.inl fun _ _ => trivial) ⟨⟨C.hasK ((G.le.trans J).trans O.le), C.hasObj m4, C.hasObj m7⟩, (fun _ => trivial), by decide⟩ wn rfl (fun _ _ => (rv_assign rfl)) (wg_val (i := 11) (listed' := #[true, true, true, true, true, true, true, true, true, true, true, true, false]) (fun _ => True) rfl (by kernel_rfl) (pk_then pk_body) (by kernel_rfl) rfl (by kernel_rfl) (by kernel_rfl) rfl (.inl fun _ _ => trivial) ⟨⟨C.hasK ((G.le.trans J).trans O.le), C.hasObj m4, C.hasObj m7⟩, (fun _ => trivial), by decide⟩ wn rfl (fun _ _ => (rv_assign rfl)) (wg_val (i := 12) (listed' := #[true, true, true, true, true, true, true, true, true, true, true, true, true]) (fun _ => True) rfl (by kernel_rfl) (pk_then pk_body) (by kernel_rfl) rfl (by kernel_rfl) (by kernel_rfl) rfl (.inl fun _ _ => trivial) ⟨⟨C.hasK ((G.le.trans J).trans O.le), C.hasObj m4, C.hasObj m7⟩, (fun _ => trivial), by decide⟩ wn rfl (fun _ _ => (rv_assign rfl)) (wg_done (by kernel_rfl) (qe_seq (wc_ret ?_)))))
  obtain rfl := oi a5
  have cA := C.sb (sd (sd (sd (sd (sd (sk (sk (sd (sk (sk sz))))))))))
  exact qe_ret (vs := [_, _, _, _, _]) results25 ⟨⟨_, _, rfl, run_loadVar_at tf26 (cs := [.slice a b d, .slice f k m]) (fun j c e => by rw [Nat.zero_add, C.mem_obj m1]; exact e) (.inl ⟨rfl, rfl, rfl⟩)⟩, ⟨_, _, rfl, run_loadVar_at tf30 (cs := [.slice y A B, .slice o q s]) (fun j c e => by rw [Nat.zero_add, C.mem_obj m0]; exact e) (.inl ⟨rfl, rfl, rfl⟩)⟩, rfl, rfl, rfl, trivial⟩ ⟨a, b, d, f, k, m, y, A, B, o, q, s, Z, aa, ab, cy, rfl, cA, (SliceAt.mono (((((U.trans T.le).trans V).trans G.le).trans J).trans O.le) aO), (SliceAt.mono (((((U.trans T.le).trans V).trans G.le).trans J).trans O.le) aP), (SliceAt.mono (((((U.trans T.le).trans V).trans G.le).trans J).trans O.le) aQ), (SliceAt.mono (((((U.trans T.le).trans V).trans G.le).trans J).trans O.le) aR), ct, (aZ.mono ((G.le.trans J).trans O.le)), cz⟩
 refine wl_buildSlice (t := tInt) (n := 6) (pv := [(0, .int .i64 1), (1, .int .i64 1), (2, .int .i64 2), (3, .int .i64 3), (4, .int .i64 16), (5, .int .i64 0)]) (cs := [.int .i64 1, .int .i64 1, .int .i64 2, .int .i64 3, .int .i64 16, .int .i64 0]) (xs := [(1 : Int), (1 : Int), (2 : Int), (3 : Int), (16 : Int), (0 : Int)]) wn rfl underlying39 tf3 rfl rfl rfl (by kernel_rfl) rfl rfl (lit_cons (u := .int .i64 1) (z := (1 : Int)) ⟨rfl, (by decide : rng64 1)⟩ (lit_cons (u := .int .i64 1) (z := (1 : Int)) ⟨rfl, (by decide : rng64 1)⟩ (lit_cons (u := .int .i64 2) (z := (2 : Int)) ⟨rfl, (by decide : rng64 2)⟩ (lit_cons (u := .int .i64 3) (z := (3 : Int)) ⟨rfl, (by decide : rng64 3)⟩ (lit_cons (u := .int .i64 16) (z := (16 : Int)) ⟨rfl, (by decide : rng64 16)⟩ (lit_cons (u := .int .i64 0) (z := (0 : Int)) ⟨rfl, (by decide : rng64 0)⟩ lit_nil)))))) x fun cB dL dM H cC ax => (wl_nil (qe_held (listed' := #[true, true, true, false, true, true, true, false, false, false, false, false, false]) rfl ⟨⟨ax.hasK H, ax.hasObj m4, ax.hasObj m7⟩, (fun _ => trivial), by decide⟩ (wg_one (i := 3) (by kernel_rfl) rfl ?_)))
 have a8 := ax.f3
 refine lc (vs := [pt S]) co68 ((ok_spec_l30Field F) a8.e1 (a0.mono H) a2 a3) ?_
 rintro dN dO ⟨dP, dQ, dR, dS, rfl, I, cD, cE, cF⟩
 refine ⟨_, rfl, ?_⟩
 have aj := (a8.c1 I).t10
 refine wl_nil (qe_held (listed' := #[true, true, true, true, true, true, true, false, false, false, false, false, false]) rfl ⟨⟨aj.hasK (H.trans I.le), aj.hasObj m4, aj.hasObj m7⟩, (fun _ => trivial), by decide⟩ (wg_one (i := 7) (by kernel_rfl) rfl (lc (vs := [pt S, .slice cB 6 6]) co69 ((ok_spec_l30Rd_one F) aj.e1 cE cF (cC.mono I.le) a4) ?_)))
 rintro dT dU ⟨dV, dW, dX, cG, rfl, R, cH, dY, dZ⟩
 refine ⟨_, rfl, ?_⟩
 have ay := (aj.c1 R).t10
 refine wl_nil (qe_held (listed' := #[true, true, true, true, true, true, true, true, false, false, false, false, false]) rfl ⟨⟨ay.hasK ((H.trans I.le).trans R.le), ay.hasObj m4, ay.hasObj m7⟩, (fun _ => trivial), by decide⟩ (wg_one (i := 8) (by kernel_rfl) rfl (ls [.slice a b d, .slice f k m] (.agg #[.slice a b d, .slice f k m]) tf26 ay.f2 fun d0 az => (wl_nil (qe_held (listed' := #[true, true, true, true, true, true, true, true, true, false, false, false, false]) rfl ⟨⟨az.hasK ((H.trans I.le).trans R.le), az.hasObj m4, az.hasObj m7⟩, (fun _ => trivial), by decide⟩ (wg_one (i := 9) (by kernel_rfl) rfl (ls [.slice y A B, .slice o q s] (.agg #[.slice y A B, .slice o q s]) tf30 az.f3 fun d1 D => (wl_nil (qe_held (listed' := #[true, true, true, true, true, true, true, true, true, true, false, false, false]) rfl ⟨⟨D.hasK ((H.trans I.le).trans R.le), D.hasObj m4, D.hasObj m7⟩, (fun _ => trivial), by decide⟩ ?_)))))))))
 refine wg_val (i := 10) (listed' := #[true, true, true, true, true, true, true, true, true, true, true, false, false]) (fun _ => True) rfl (by kernel_rfl) (pk_then pk_body) (by kernel_rfl) rfl (by kernel_rfl) (by kernel_rfl) rfl (.inl fun _ _ => trivial) ⟨⟨D.hasK ((H.trans I.le).trans R.le), D.hasObj m4, D.hasObj m7⟩, (fun _ => trivial), by decide⟩ wn rfl (fun _ _ => (rv_assign rfl)) (wg_val (i := 11) (listed' := #[true, true, true, true, true, true, true, true, true, true, true, true, false]) (fun _ => True) rfl (by kernel_rfl) (pk_then pk_body) (by kernel_rfl) rfl (by kernel_rfl) (by kernel_rfl) rfl (.inl fun _ _ => trivial) ⟨⟨D.hasK ((H.trans I.le).trans R.le), D.hasObj m4, D.hasObj m7⟩, (fun _ => trivial), by decide⟩ wn rfl (fun _ _ => (rv_assign rfl)) (wg_val (i := 12) (listed' := #[true, true, true, true, true, true, true, true, true, true, true, true, true]) (fun _ => True) rfl (by kernel_rfl) (pk_then pk_body) (by kernel_rfl) rfl (by kernel_rfl) (by kernel_rfl) rfl (.inl fun _ _ => trivial) ⟨⟨D.hasK ((H.trans I.le).trans R.le), D.hasObj m4, D.hasObj m7⟩, (fun _ => trivial), by decide⟩ wn rfl (fun _ _ => (rv_assign rfl)) (wg_done (by kernel_rfl) (qe_seq (wc_ret ?_)))))
 obtain rfl := oi a5
 have cI := D.sb (sd (sd (sd (sd (sd (sk (sk (sd (sk (sk sz))))))))))
 exact qe_ret (vs := [_, _, _, _, _]) results25 ⟨⟨_, _, rfl, run_loadVar_at tf26 (cs := [.slice a b d, .slice f k m]) (fun j c e => by rw [Nat.zero_add, D.mem_obj m1]; exact e) (.inl ⟨rfl, rfl, rfl⟩)⟩, ⟨_, _, rfl, run_loadVar_at tf30 (cs := [.slice y A B, .slice o q s]) (fun j c e => by rw [Nat.zero_add, D.mem_obj m0]; exact e) (.inl ⟨rfl, rfl, rfl⟩)⟩, rfl, rfl, rfl, trivial⟩ ⟨a, b, d, f, k, m, y, A, B, o, q, s, Z, aa, ab, cG, rfl, cI, (SliceAt.mono (((((U.trans T.le).trans V).trans H).trans I.le).trans R.le) aO), (SliceAt.mono (((((U.trans T.le).trans V).trans H).trans I.le).trans R.le) aP), (SliceAt.mono (((((U.trans T.le).trans V).trans H).trans I.le).trans R.le) aQ), (SliceAt.mono (((((U.trans T.le).trans V).trans H).trans I.le).trans R.le) aR), cD, (aZ.mono ((H.trans I.le).trans R.le)), cH⟩
end Go.Proofs.YtoeajphlomankaaGreatDoor
