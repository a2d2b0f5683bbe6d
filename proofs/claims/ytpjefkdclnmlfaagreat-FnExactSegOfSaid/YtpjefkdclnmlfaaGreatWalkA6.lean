/-
 Walks of the functions. Printed by gen.py.
-/
import Derived.Test.YtpjefkdclnmlfaaGreatWalkA0
import Derived.Test.YtpjefkdclnmlfaaGreatWalkA2
import Derived.Test.YtpjefkdclnmlfaaGreatWalkA4
import Derived.Test.YtpjefkdclnmlfaaGreatWalkA5
set_option linter.unusedVariables false
set_option linter.unusedSectionVars false
set_option maxRecDepth 100000
namespace Go.Proofs.YtpjefkdclnmlfaaGreat
set_option maxHeartbeats 4000000
open Go Go.Fk Go.RowKit Tryz
variable (F:Nat){w:World}{K:KMap}{Z:List Nat}{g1 g2 g3:Nat}{A B C D G H I J O R S T:Option Addr}{a b c d f i k l m n o p q s v x y aa ab ac ad ae af ag:Nat}
variable [dr:Dr]

theorem hx_laws_markPostS (F:Nat){w:World}{K:KMap}{a1:Option Addr}{n2 c3:Nat}{B f0:List Nat}{H:KMap}{p0_a:List GPost}{p1_k r:Int}(hS:SH w K (List.flatMap Item.gs [hp B H]) w K [hp B H])(hB0: ∀b∈f0,b∈B)(hN0:f0.Nodup)(ho0:RowO oPost H f0 (.slice a1 n2 c3) p0_a)(hr5:rng64 p1_k)(hm:M.laws_markPostS F p0_a p1_k=some r):
  Calls Tryz.prog 34 #[.slice a1 n2 c3,.int .i64 p1_k] w fun e w'=>∃(K' H':KMap),e= .returned (.int .i64 r)∧SH w K (List.flatMap Item.gs [hp B H]) w' K' [hp B H']∧rng64 r∧RowO oPost H' f0 (.slice a1 n2 c3) (mkRow (stepGPost F) p1_k p0_a).1∧r=(mkRow (stepGPost F) p1_k p0_a).2∧∀b,b∉f0→H' b=H b:=by
 rw [M.laws_markPostS] at hm
 refine calls_in Tryz.func34 rfl Tryz.ntmps34 rfl ?_
 refine sr ?_
 refine wl_val wn rfl (rv_assign (v:=.int .i64 0) rfl) ?_
 refine nsr ?_
 refine wl_val wn rfl (rv_assign (v:=.int .i64 0) rfl) ?_
 refine nq ?_
 obtain⟨o6,h7,h8⟩:=ob hm
 refine wc_cutg (fun E' w'=>∃(K9 H9:KMap),E'=[(1,.int .i64 o6)]∧SH w K (List.flatMap Item.gs [hp B H]) w' K9 [hp B H9]∧KLe K K9∧rng64 o6∧RowO oPost H9 f0 (.slice a1 n2 c3) (mkRow (stepGPost F) p1_k p0_a).1∧o6=(mkRow (stepGPost F) p1_k p0_a).2∧∀b,b∉f0→H9 b=H b) ?_ ?_
 ·refine wc_block ?_
  obtain⟨r15,h16,h17⟩:=ob h7
  refine wc_while' (fun (s14:Int×Int) E' w'=>∃(K18 H18:KMap) (i18:Nat),E'=[(0,.slice a1 n2 c3),(1,.int .i64 s14.1),(5,.int .i64 s14.2)]∧SH w K (List.flatMap Item.gs [hp B H]) w' K18 [hp B H18]∧KLe K K18∧rng64 s14.1∧rng64 s14.2∧s14.2=(i18:Int)∧s14.1=mkAt (stepGPost F) p1_k p0_a i18∧RowO oPost H18 f0 (.slice a1 n2 c3) (mkTo (stepGPost F) p1_k p0_a i18)∧∀b,b∉f0→H18 b=H b) h16 ⟨K,H,0,rfl,hS,(KLe.refl _),hr5,d_0,rfl,rfl,ho0,fun _ _=>rfl⟩ ⟨rfl,rfl,rfl,trivial⟩ ?_
  rintro s14 _ w20 r24 h25 hx26 ⟨K18,H18,i18,rfl,hS21,hl19,hr22,hr23,hj0,hk0,hoR,hsM⟩
  have hn0:n2=p0_a.length:=hoR.sl.1.trans mkTo_len
  refine wc_seq ?_
  refine sr ?_
  refine vm rfl rfl ?_
  refine vm rfl rfl ?_
  refine wl_val wn rfl (rv_lenRow Tryz.underlying61 rfl hn0) ?_
  refine wl_val wn rfl (rv_lss rfl rfl) ?_
  refine nq ?_
  refine wc_cond rfl (fun hb27=>?_) (fun hb27=>?_)
  ·have h28:=cond_t hb27 h25
   refine wc_skip ?_
   refine qs ?_
   refine wc_block ?_
   refine sr ?_
   refine vm rfl rfl ?_
   refine vm rfl rfl ?_
   refine vm rfl rfl ?_
   obtain⟨x29,hx30,h31⟩:=ob h28
   obtain⟨g0,fi0,u0,rfl,_,hgf0,hff0,hgn0,hfn0,hu0,hA0,hcl0⟩:=RowO.at hoR hN0 (mkTo_get (step:=(stepGPost F)) (k:=p1_k) hj0 hx30)
   obtain⟨v1,rfl,_,hor1⟩:=hu0
   obtain⟨av1,nv1,cv1,rfl⟩:=hor1.val
   have hE0:El H18 H18 g0 (s14.2.toNat*2) 2 fi0 [.int .i64 x29.Doc,.slice av1 nv1 cv1]:=El.start hA0
   refine wl_val wn rfl (rv_indexRow (t:=tGPost) (xs:=p0_a) Tryz.underlying61 tf134 rfl rfl hn0 hx30) ?_
   refine wl_val wn rfl (rv_fieldAddr ff134_0 rfl) ?_
   refine hp_store (v:=.int .i64 s14.1) wn tf3 (by exact rfl) rfl rfl hS21 (hB0 _ hgf0) (hE0.1 0 _ rfl) ?_
   intro w43 hSq0
   have hS44:SH _ _ _ _ _ [hp B (poke H18 g0 ((s14.2.toNat*2)+0) (.int .i64 s14.1))]:=hSq0
   have hE1:El H18 (poke H18 g0 ((s14.2.toNat*2)+0) (.int .i64 s14.1)) g0 (s14.2.toNat*2) 2 fi0 [.int .i64 s14.1,.slice av1 nv1 cv1]:=El.poke hE0 (by decide)
   have hor1_1:=RowO.poke (p:=(s14.2.toNat*2)+0) (u:=.int .i64 s14.1) hor1 hgn0
   have hsM1:=off_poke (p:=(s14.2.toNat*2)+0) (v:=.int .i64 s14.1) hsM hgf0
   refine nr ?_
   refine vm rfl rfl ?_
   refine wl_val wn rfl (rv_add rfl rfl) ?_
   refine va rfl rfl ?_
   refine nq ?_
   refine wc_region ?_
   refine vm rfl rfl ?_
   refine vm rfl rfl ?_
   obtain⟨x45,hx46,h47⟩:=ob h31
   have hxe45:x29=x45:=oi (hx30.symm.trans hx46)
   subst hxe45
   refine wl_val wn rfl (rv_indexRow (t:=tGPost) (xs:=p0_a) Tryz.underlying61 tf134 rfl rfl hn0 hx46) ?_
   refine wl_val wn rfl (rv_fieldAddr ff134_1 rfl) ?_
   refine wl_val wn rfl (hp_load tf71 (by exact rfl) hS44 (hB0 _ hgf0) (hE1.1 1 _ rfl)) ?_
   refine vm rfl rfl ?_
   obtain⟨r59,hx60,h61⟩:=ob h47
   refine wl_call wn rfl (rt_call (vs:=[.slice av1 nv1 cv1,.int .i64 (w64 (s14.1+(1:Int)))]) co97 rfl) ((hx_laws_markIntS F) (SH.enter (Lin:=[_]) hS44) (fun b hb=>hB0 b (hff0 b hb)) hfn0 hor1_1 (w64_rng _) hx60) ?_
   rintro e66 w63 ⟨K62,H62,rfl,hS64,hr65,hor1_2,hke1,hsm1⟩
   have hE2:El H18 H62 g0 (s14.2.toNat*2) 2 fi0 [.int .i64 s14.1,.slice av1 nv1 cv1]:=El.sub hE1 hgn0 (fun _ h=>h) hsm1
   have hsM2:=off_sub hsM1 hsm1 (fun b hb=>hff0 b ((fun _ h=>h) b hb))
   refine⟨_,rfl,?_⟩
   have hS67:SH _ _ _ _ _ [_]:=SH.call (Lin:=[_]) hS44 hS64
   refine va rfl rfl ?_
   refine nb ?_
   refine qe_seq ?_
   refine wc_region ?_
   refine vm rfl rfl ?_
   refine wl_val wn rfl (rv_add rfl rfl) ?_
   refine va rfl rfl ?_
   refine wl_nil ?_
   obtain rfl:=oi h61
   have hnx:=mkTo_next (step:=(stepGPost F)) (k:=p1_k) hj0 hx30
   rw [←hk0] at hnx
   have hro:=hcl0 H62 (.agg #[.int .i64 s14.1,.slice av1 nv1 cv1]) _ (show oPost.own _ fi0 _ (⟨s14.1,_⟩:GPost) from⟨_,rfl,hr22,hor1_2⟩) hE2.1 hE2.2
   obtain⟨ye,hye⟩: ∃y,y=stepGPost F s14.1 x29:=⟨_,rfl⟩
   rw [←hye] at hnx
   unfold stepGPost at hye
   rw [←hke1] at hye
   subst hye
   obtain⟨hn1,hn2,hn3⟩:=hnx
   have hmx:=Nat.le_trans (Nat.le_of_eq mkTo_len.symm) hoR.sl.max
   exact qe_mid' ⟨_,rfl,K62,H62,i18+1,rfl,hS67,(hl19.trans hS64.le),hr65,(w64_rng _),(by rw [hj0];exact w64_next (Nat.lt_of_lt_of_le hn3 hmx)),hn2,(by rw [←hn1];exact hro),hsM2⟩ ⟨rfl,rfl,rfl,trivial⟩
  ·have h28:=cond_f hb27 h25
   refine wc_exit ?_
   refine qe_then_exit ?_
   refine qe_then_exit ?_
   obtain rfl:=oi h28
   have e68:=hx26 _ rfl
   subst e68
   refine qe_block_eq ?_
   obtain rfl:=oi h17
   have hge0:p0_a.length≤i18:=by have:=of_decide_eq_false hb27;omega
   obtain⟨he1,he2⟩:=mkTo_end (step:=(stepGPost F)) (k:=p1_k) hge0
   rw [he1] at hoR
   rw [he2] at hk0
   exact qe_mid' ⟨K18,H18,rfl,hS21,hl19,hr22,hoR,hk0,hsM⟩ ⟨rfl,trivial⟩
 ·rintro _ w11 ⟨K9,H9,rfl,hS12,hl10,hr13,hoF,hkF,hsF⟩
  refine qr ?_
  refine vm rfl rfl ?_
  refine va rfl rfl ?_
  refine nq ?_
  refine wc_ret ?_
  obtain rfl:=oi h8
  exact qe_ret (vs:=[_]) Tryz.results34 ⟨rfl,trivial⟩ ⟨K9,H9,rfl,hS12,hr13,hoF,hkF,hsF⟩

theorem hx_laws_markEntryS (F:Nat){w:World}{K:KMap}{a1:Option Addr}{n2 c3:Nat}{B f0:List Nat}{H:KMap}{p0_a:List GEntry}{p1_k r:Int}(hS:SH w K (List.flatMap Item.gs [hp B H]) w K [hp B H])(hB0: ∀b∈f0,b∈B)(hN0:f0.Nodup)(ho0:RowO oEntry H f0 (.slice a1 n2 c3) p0_a)(hr5:rng64 p1_k)(hm:M.laws_markEntryS F p0_a p1_k=some r):
  Calls Tryz.prog 87 #[.slice a1 n2 c3,.int .i64 p1_k] w fun e w'=>∃(K' H':KMap),e= .returned (.int .i64 r)∧SH w K (List.flatMap Item.gs [hp B H]) w' K' [hp B H']∧rng64 r∧RowO oEntry H' f0 (.slice a1 n2 c3) (mkRow (stepGEntry F) p1_k p0_a).1∧r=(mkRow (stepGEntry F) p1_k p0_a).2∧∀b,b∉f0→H' b=H b:=by
 rw [M.laws_markEntryS] at hm
 refine calls_in Tryz.func87 rfl Tryz.ntmps87 rfl ?_
 refine sr ?_
 refine wl_val wn rfl (rv_assign (v:=.int .i64 0) rfl) ?_
 refine nsr ?_
 refine wl_val wn rfl (rv_assign (v:=.int .i64 0) rfl) ?_
 refine nq ?_
 obtain⟨o6,h7,h8⟩:=ob hm
 refine wc_cutg (fun E' w'=>∃(K9 H9:KMap),E'=[(1,.int .i64 o6)]∧SH w K (List.flatMap Item.gs [hp B H]) w' K9 [hp B H9]∧KLe K K9∧rng64 o6∧RowO oEntry H9 f0 (.slice a1 n2 c3) (mkRow (stepGEntry F) p1_k p0_a).1∧o6=(mkRow (stepGEntry F) p1_k p0_a).2∧∀b,b∉f0→H9 b=H b) ?_ ?_
 ·refine wc_block ?_
  obtain⟨r15,h16,h17⟩:=ob h7
  refine wc_while' (fun (s14:Int×Int) E' w'=>∃(K18 H18:KMap) (i18:Nat),E'=[(0,.slice a1 n2 c3),(1,.int .i64 s14.1),(5,.int .i64 s14.2)]∧SH w K (List.flatMap Item.gs [hp B H]) w' K18 [hp B H18]∧KLe K K18∧rng64 s14.1∧rng64 s14.2∧s14.2=(i18:Int)∧s14.1=mkAt (stepGEntry F) p1_k p0_a i18∧RowO oEntry H18 f0 (.slice a1 n2 c3) (mkTo (stepGEntry F) p1_k p0_a i18)∧∀b,b∉f0→H18 b=H b) h16 ⟨K,H,0,rfl,hS,(KLe.refl _),hr5,d_0,rfl,rfl,ho0,fun _ _=>rfl⟩ ⟨rfl,rfl,rfl,trivial⟩ ?_
  rintro s14 _ w20 r24 h25 hx26 ⟨K18,H18,i18,rfl,hS21,hl19,hr22,hr23,hj0,hk0,hoR,hsM⟩
  have hn0:n2=p0_a.length:=hoR.sl.1.trans mkTo_len
  refine wc_seq ?_
  refine sr ?_
  refine vm rfl rfl ?_
  refine vm rfl rfl ?_
  refine wl_val wn rfl (rv_lenRow Tryz.underlying44 rfl hn0) ?_
  refine wl_val wn rfl (rv_lss rfl rfl) ?_
  refine nq ?_
  refine wc_cond rfl (fun hb27=>?_) (fun hb27=>?_)
  ·have h28:=cond_t hb27 h25
   refine wc_skip ?_
   refine qs ?_
   refine wc_block ?_
   refine sr ?_
   refine vm rfl rfl ?_
   refine vm rfl rfl ?_
   refine vm rfl rfl ?_
   obtain⟨r29,hx30,h31⟩:=ob h28
   refine wl_call wn rfl (rt_call (vs:=[.int .i64 s14.1]) co160 rfl) ((ok_laws_markText F) hS21.enter0 hr22 hx30) ?_
   rintro e36 w33 ⟨K32,rfl,hS34,hl35⟩
   refine⟨_,rfl,?_⟩
   have hS37:SH _ _ _ _ _ [_]:=SH.call0 hS21 hS34
   obtain⟨x38,hx39,h40⟩:=ob h31
   obtain⟨g0,fi0,u0,rfl,_,hgf0,hff0,hgn0,hfn0,hu0,hA0,hcl0⟩:=RowO.at hoR hN0 (mkTo_get (step:=(stepGEntry F)) (k:=p1_k) hj0 hx39)
   obtain⟨v2,rfl,_,_,hor2⟩:=hu0
   obtain⟨av2,nv2,cv2,rfl⟩:=hor2.val
   have hE0:El H18 H18 g0 (s14.2.toNat*3) 3 fi0 [sv x38.Field,sv x38.Term,.slice av2 nv2 cv2]:=El.start hA0
   refine wl_val wn rfl (rv_indexRow (t:=tGEntry) (xs:=p0_a) Tryz.underlying44 tf116 rfl rfl hn0 hx39) ?_
   refine wl_val wn rfl (rv_fieldAddr ff116_0 rfl) ?_
   refine hp_store (v:=sv r29) wn tf9 (by exact rfl) rfl rfl hS37 (hB0 _ hgf0) (hE0.1 0 _ rfl) ?_
   intro w53 hSq0
   have hS54:SH _ _ _ _ _ [hp B (poke H18 g0 ((s14.2.toNat*3)+0) (sv r29))]:=hSq0
   have hE1:El H18 (poke H18 g0 ((s14.2.toNat*3)+0) (sv r29)) g0 (s14.2.toNat*3) 3 fi0 [sv r29,sv x38.Term,.slice av2 nv2 cv2]:=El.poke hE0 (by decide)
   have hor2_1:=RowO.poke (p:=(s14.2.toNat*3)+0) (u:=sv r29) hor2 hgn0
   have hsM1:=off_poke (p:=(s14.2.toNat*3)+0) (v:=sv r29) hsM hgf0
   refine nr ?_
   refine vm rfl rfl ?_
   refine wl_val wn rfl (rv_add rfl rfl) ?_
   refine va rfl rfl ?_
   refine nr ?_
   refine vm rfl rfl ?_
   refine vm rfl rfl ?_
   refine vm rfl rfl ?_
   obtain⟨r55,hx56,h57⟩:=ob h40
   refine wl_call wn rfl (rt_call (vs:=[.int .i64 (w64 (s14.1+(1:Int)))]) co160 rfl) ((ok_laws_markText F) hS54.enter0 (w64_rng _) hx56) ?_
   rintro e62 w59 ⟨K58,rfl,hS60,hl61⟩
   refine⟨_,rfl,?_⟩
   have hS63:SH _ _ _ _ _ [_]:=SH.call0 hS54 hS60
   obtain⟨x64,hx65,h66⟩:=ob h57
   have hxe64:x38=x64:=oi (hx39.symm.trans hx65)
   subst hxe64
   refine wl_val wn rfl (rv_indexRow (t:=tGEntry) (xs:=p0_a) Tryz.underlying44 tf116 rfl rfl hn0 hx65) ?_
   refine wl_val wn rfl (rv_fieldAddr ff116_1 rfl) ?_
   refine hp_store (v:=sv r55) wn tf9 (by exact rfl) rfl rfl hS63 (hB0 _ hgf0) (hE1.1 1 _ rfl) ?_
   intro w79 hSq1
   have hS80:SH _ _ _ _ _ [hp B (poke (poke H18 g0 ((s14.2.toNat*3)+0) (sv r29)) g0 ((s14.2.toNat*3)+1) (sv r55))]:=hSq1
   have hE2:El H18 (poke (poke H18 g0 ((s14.2.toNat*3)+0) (sv r29)) g0 ((s14.2.toNat*3)+1) (sv r55)) g0 (s14.2.toNat*3) 3 fi0 [sv r29,sv r55,.slice av2 nv2 cv2]:=El.poke hE1 (by decide)
   have hor2_2:=RowO.poke (p:=(s14.2.toNat*3)+1) (u:=sv r55) hor2_1 hgn0
   have hsM2:=off_poke (p:=(s14.2.toNat*3)+1) (v:=sv r55) hsM1 hgf0
   refine nr ?_
   refine vm rfl rfl ?_
   refine wl_val wn rfl (rv_add rfl rfl) ?_
   refine va rfl rfl ?_
   refine nq ?_
   refine wc_region ?_
   refine vm rfl rfl ?_
   refine vm rfl rfl ?_
   obtain⟨x81,hx82,h83⟩:=ob h66
   have hxe81:x38=x81:=oi (hx39.symm.trans hx82)
   subst hxe81
   refine wl_val wn rfl (rv_indexRow (t:=tGEntry) (xs:=p0_a) Tryz.underlying44 tf116 rfl rfl hn0 hx82) ?_
   refine wl_val wn rfl (rv_fieldAddr ff116_2 rfl) ?_
   refine wl_val wn rfl (hp_load tf61 (by exact rfl) hS80 (hB0 _ hgf0) (hE2.1 2 _ rfl)) ?_
   refine vm rfl rfl ?_
   obtain⟨r96,hx97,h98⟩:=ob h83
   refine wl_call wn rfl (rt_call (vs:=[.slice av2 nv2 cv2,.int .i64 (w64 ((w64 (s14.1+(1:Int)))+(1:Int)))]) co34 rfl) ((hx_laws_markPostS F) (SH.enter (Lin:=[_]) hS80) (fun b hb=>hB0 b (hff0 b hb)) hfn0 hor2_2 (w64_rng _) hx97) ?_
   rintro e103 w100 ⟨K99,H99,rfl,hS101,hr102,hor2_3,hke2,hsm2⟩
   have hE3:El H18 H99 g0 (s14.2.toNat*3) 3 fi0 [sv r29,sv r55,.slice av2 nv2 cv2]:=El.sub hE2 hgn0 (fun _ h=>h) hsm2
   have hsM3:=off_sub hsM2 hsm2 (fun b hb=>hff0 b ((fun _ h=>h) b hb))
   refine⟨_,rfl,?_⟩
   have hS104:SH _ _ _ _ _ [_]:=SH.call (Lin:=[_]) hS80 hS101
   refine va rfl rfl ?_
   refine nb ?_
   refine qe_seq ?_
   refine wc_region ?_
   refine vm rfl rfl ?_
   refine wl_val wn rfl (rv_add rfl rfl) ?_
   refine va rfl rfl ?_
   refine wl_nil ?_
   obtain rfl:=oi h98
   have hnx:=mkTo_next (step:=(stepGEntry F)) (k:=p1_k) hj0 hx39
   rw [←hk0] at hnx
   have hro:=hcl0 H99 (.agg #[sv r29,sv r55,.slice av2 nv2 cv2]) _ (show oEntry.own _ fi0 _ (⟨r29,r55,_⟩:GEntry) from⟨_,rfl,hl35,hl61,hor2_3⟩) hE3.1 hE3.2
   obtain⟨ye,hye⟩: ∃y,y=stepGEntry F s14.1 x38:=⟨_,rfl⟩
   rw [←hye] at hnx
   unfold stepGEntry at hye
   rw [hx30,hx56] at hye
   rw [←hke2] at hye
   simp only [Option.getD_some] at hye
   subst hye
   obtain⟨hn1,hn2,hn3⟩:=hnx
   have hmx:=Nat.le_trans (Nat.le_of_eq mkTo_len.symm) hoR.sl.max
   exact qe_mid' ⟨_,rfl,K99,H99,i18+1,rfl,hS104,(((hl19.trans hS34.le).trans hS60.le).trans hS101.le),hr102,(w64_rng _),(by rw [hj0];exact w64_next (Nat.lt_of_lt_of_le hn3 hmx)),hn2,(by rw [←hn1];exact hro),hsM3⟩ ⟨rfl,rfl,rfl,trivial⟩
  ·have h28:=cond_f hb27 h25
   refine wc_exit ?_
   refine qe_then_exit ?_
   refine qe_then_exit ?_
   obtain rfl:=oi h28
   have e105:=hx26 _ rfl
   subst e105
   refine qe_block_eq ?_
   obtain rfl:=oi h17
   have hge0:p0_a.length≤i18:=by have:=of_decide_eq_false hb27;omega
   obtain⟨he1,he2⟩:=mkTo_end (step:=(stepGEntry F)) (k:=p1_k) hge0
   rw [he1] at hoR
   rw [he2] at hk0
   exact qe_mid' ⟨K18,H18,rfl,hS21,hl19,hr22,hoR,hk0,hsM⟩ ⟨rfl,trivial⟩
 ·rintro _ w11 ⟨K9,H9,rfl,hS12,hl10,hr13,hoF,hkF,hsF⟩
  refine qr ?_
  refine vm rfl rfl ?_
  refine va rfl rfl ?_
  refine nq ?_
  refine wc_ret ?_
  obtain rfl:=oi h8
  exact qe_ret (vs:=[_]) Tryz.results87 ⟨rfl,trivial⟩ ⟨K9,H9,rfl,hS12,hr13,hoF,hkF,hsF⟩

theorem hx_laws_markSeg (F:Nat){w:World}{K:KMap}{a1:Option Addr}{n2 c3:Nat}{a5:Option Addr}{n6 c7:Nat}{B f1 f2:List Nat}{H:KMap}{p0_a:GSeg}{p1_k r:Int}(hS:SH w K (List.flatMap Item.gs [hp B H]) w K [hp B H])(hB1: ∀b∈f1,b∈B)(hB2: ∀b∈f2,b∈B)(hN1:f1.Nodup)(hN2:f2.Nodup)(hdj: ∀b∈f1,b∉f2)(ho1:RowO oDoc H f1 (.slice a1 n2 c3) p0_a.Docs)(ho2:RowO oEntry H f2 (.slice a5 n6 c7) p0_a.Entries)(hr9:rng64 p1_k)(hm:M.laws_markSeg F p0_a p1_k=some r):
  Calls Tryz.prog 27 #[.agg #[.slice a1 n2 c3,.slice a5 n6 c7],.int .i64 p1_k] w fun e w'=>∃(K' H':KMap),e= .returned (.int .i64 r)∧SH w K (List.flatMap Item.gs [hp B H]) w' K' [hp B H']∧rng64 r∧RowO oDoc H' f1 (.slice a1 n2 c3) (mkRow (stepGDoc F) p1_k p0_a.Docs).1∧RowO oEntry H' f2 (.slice a5 n6 c7) (mkRow (stepGEntry F) (mkRow (stepGDoc F) p1_k p0_a.Docs).2 p0_a.Entries).1∧r=(mkRow (stepGEntry F) (mkRow (stepGDoc F) p1_k p0_a.Docs).2 p0_a.Entries).2:=by
 rw [M.laws_markSeg] at hm
 refine calls_in Tryz.func27 u Tryz.ntmps27 u ?_
 refine sr ?_
 refine wl_box wn u u hS ?_
 intro g10 w11 hS12
 have hS13:SH _ _ _ _ _ [obj g10 [.slice a1 n2 c3,.slice a5 n6 c7] 46,_]:=hS12
 refine wl_val wn u (rv_assign (v:=.int .i64 0) u) ?_
 refine nr ?_
 refine wl_val wn u (rv_fieldAddr ff46_0 u) ?_
 refine wl_val wn u (rv_loadm1 tf43 u (.head _) hS13 u) ?_
 refine vm u u ?_
 obtain⟨r14,hx15,h16⟩:=ob hm
 have hS17:SH _ _ _ _ _ [_,_]:=SH.front (p:=[_]) hS13
 refine wl_call wn u (rt_call (vs:=[.slice a1 n2 c3,.int .i64 p1_k]) co26 u) ((hx_laws_markDocS F) (SH.enter (Lin:=[_]) hS17) hB1 hN1 ho1 hr9 hx15) ?_
 rintro e22 w19 ⟨K18,H1,rfl,hS20,hr21,hoD,hkD,hsD⟩
 refine⟨_,u,?_⟩
 have hS23:SH _ _ _ _ _ [_,_]:=SH.call (Lin:=[_]) hS17 hS20
 refine va u u ?_
 refine nr ?_
 refine wl_val wn u (rv_fieldAddr ff46_1 u) ?_
 refine wl_val wn u (rv_loadm1 tf44 u (.tail _ (.head _)) hS23 u) ?_
 refine vm u u ?_
 obtain⟨r24,hx25,h26⟩:=ob h16
 refine wl_call wn u (rt_call (vs:=[.slice a5 n6 c7,.int .i64 r14]) co87 u) ((hx_laws_markEntryS F) (SH.enter (Lin:=[_]) hS23) hB2 hN2 (RowO.sub ho2 hsD (fun b h h'=>hdj b h' h)) hr21 hx25) ?_
 rintro e31 w28 ⟨K27,H2,rfl,hS29,hr30,hoE,hkE,hsE⟩
 refine⟨_,u,?_⟩
 have hS32:SH _ _ _ _ _ [_,_]:=SH.call (Lin:=[_]) hS23 hS29
 refine va u u ?_
 refine nr ?_
 refine vm u u ?_
 refine va u u ?_
 refine nq ?_
 refine wc_ret ?_
 obtain rfl:=oi h26
 have hS33:SH _ _ _ _ _ [_]:=SH.sublist hS32 (.cons_cons _ (.cons _ .slnil))
 exact qe_ret (vs:=[_]) Tryz.results27 ⟨u,trivial⟩ ⟨K27,H2,u,hS33,hr30,RowO.sub hoD hsE hdj,(by rw [←hkD];exact hoE),(by rw [←hkD];exact hkE)⟩

theorem xo_laws_markSeg (F:Nat){w0 w:World}{K0 K:KMap}{L:List Fk.Item}{f1 f2:List Nat}{a1:Option Addr}{n2 c3:Nat}{a5:Option Addr}{n6 c7:Nat}{p0_a:GSeg}{k r:Int}(h0:Holds K0 w0)(hS:SH w0 K0 [] w K (bag (f1++f2)::L))(ho1:RowO oDoc K f1 (.slice a1 n2 c3) p0_a.Docs)(ho2:RowO oEntry K f2 (.slice a5 n6 c7) p0_a.Entries)(hk:rng64 k)(hm:M.laws_markSeg F p0_a k=some r):
  Calls Tryz.prog 27 #[.agg #[.slice a1 n2 c3,.slice a5 n6 c7],.int .i64 k] w fun e w'=>∃(K':KMap),e= .returned (.int .i64 r)∧SH w0 K0 [] w' K' (bag (f1++f2)::L)∧RowO oDoc K' f1 (.slice a1 n2 c3) (mkRow (stepGDoc F) k p0_a.Docs).1∧RowO oEntry K' f2 (.slice a5 n6 c7) (mkRow (stepGEntry F) (mkRow (stepGDoc F) k p0_a.Docs).2 p0_a.Entries).1∧KLe (K.but (f1++f2)) K'∧rng64 r∧r=(mkRow (stepGEntry F) (mkRow (stepGDoc F) k p0_a.Docs).2 p0_a.Entries).2:=
 have hn:=List.nodup_append.1 hS.bag_nodup
 omark2_call h0 hS fun h1=>hx_laws_markSeg F h1 (fun _ h=>List.mem_append_left _ h) (fun _ h=>List.mem_append_right _ h) hn.1 hn.2.1 (fun b h h'=>hn.2.2 b h b h' u) ho1 ho2 hk hm

theorem ok_laws_heldFieldS {q0:List GField}{q1:Int}{r:Int}(hS:SH w K [] w K [])(l:SliceAt tGField K A a b q0)(S:rng64 q1)(hm:M.laws_heldFieldS F q0 q1=some r):
  Calls prog 101 #[V3 A a b,V6 q1] w (R_i w K r):=by
 rw [M.laws_heldFieldS] at hm
 refine ci func101 u ntmps101 (sr (lv (r_0 u) (nsr (lv (r_0 u) (nq ?_)))))
 obtain⟨T,U,c⟩:=ob hm
 refine wc_cutg (fun E' w'=>∃i k,T= .inl i∧E'=[(1,V6 i)]∧SH w K [] w' k []∧KLe K k∧rng64 i) ?_ ?_
 ·refine wc_block ?_
  obtain⟨aB,V,m⟩:=ob U
  refine qw (fun (d:Int×Int)=>IW w K [] K [(0,V3 A a b),(1,V6 d.1),(5,V6 d.2)] [] (rng64 d.1∧rng64 d.2)) V ⟨K,u,hS,kr,S,d_0⟩ ?_
  rintro d _ aC aD W o ⟨X,rfl,q,f,s,aE⟩
  refine wc_seq (sr (mv u (mv u (lv (rv_len underlying74 u (l.mono f)) (lv (rv_lss u u) (nq (wcc W u (fun Y x=>?_) (fun Y x=>?_))))))))
  ·refine wc_skip (qs (wc_block (wc_seq (wc_seq (wc_quiet mixed (by kernel_rfl) q (km u (km u ?_)))))))
   obtain⟨D,aa,ab⟩:=ob x
   refine ki underlying74 tf108 (l.mono f) aa fun ac ad aF ae af=>?_
   obtain⟨rfl,aG,aH⟩:=ae
   have ag:AtK _ ac ad [sv D.Name,sv D.Text]:=af
   refine kv (rv_fieldAddr ff108_0 u) (kh (rq_load1 tf9 u (ag 0 _ u)) (km u ?_))
   obtain⟨aI,G,ah⟩:=ob ab
   refine kd co160 (fun _ _ ai aJ=>(ok_laws_markText F) ai.enter0 s G) ?_
   obtain⟨_,_,_,⟨_,_,_,aK⟩,_⟩:=(ok_laws_markText F) q.enter0 s G []
   refine kv (rv_sneq u u) (wq_nil ?_)
   rintro aL ⟨aj,y,H⟩
   refine qe_seq (wcc ah u (fun ak B=>?_) (fun ak B=>?_))
   ·refine sr (lv (rv_assign (v:=V6 (-1)) u) (nq (rr (qe_block_ret (qe_then_ret (qe_then_ret ?_))))))
    cases oi B
    cases o _ u
    refine qe_block_ret (qe_then_ret ?_)
    cases oi m
    refine qe_then_ret ?_
    cases oi c
    exact ey results101 ⟨aj,u,y,(by decide :rng64 (-1))⟩
   refine wc_skip (qr (mv u (lv (rv_add u u) (av u (ns (wc_seq (wc_quiet mixed (by kernel_rfl) y (km u (km u ?_)))))))))
   obtain⟨I,al,am⟩:=ob B
   refine ki underlying74 tf108 (l.mono (f.trans H)) al fun an ao aM ap aq=>?_
   obtain⟨rfl,aN,aO⟩:=ap
   have ar:AtK _ an ao [sv I.Name,sv I.Text]:=aq
   refine kv (rv_fieldAddr ff108_1 u) (kh (rq_load1 tf9 u (ar 1 _ u)) (km u ?_))
   obtain⟨aP,J,au⟩:=ob am
   refine kd co160 (fun _ _ aw aQ=>(ok_laws_markText F) aw.enter0 (w64_rng _) J) ?_
   obtain⟨_,_,_,⟨_,_,_,aR⟩,_⟩:=(ok_laws_markText F) y.enter0 (w64_rng _) J []
   refine kv (rv_sneq u u) (wq_nil ?_)
   rintro aS ⟨O,R,ax⟩
   refine qe_seq (wcc au u (fun ay C=>?_) (fun ay C=>?_))
   ·refine sr (lv (rv_assign (v:=V6 (-1)) u) (nq (rr (qe_block_ret (qe_then_ret (qe_then_ret ?_))))))
    cases oi C
    cases o _ u
    refine qe_block_ret (qe_then_ret ?_)
    cases oi m
    refine qe_then_ret ?_
    cases oi c
    exact ey results101 ⟨O,u,R,(by decide :rng64 (-1))⟩
   refine wc_skip (qe_seq (wc_region (mv u (lv (rv_add u u) (av u (nb (qe_seq (wc_region (mv u ?_)))))))))
   refine lv (rv_add u u) (av u (wl_nil ?_))
   cases oi C
   exact qd ⟨_,u,O,u,R,((f.trans H).trans ax),(w64_rng _),(w64_rng _)⟩
  refine wc_exit (qe_then_exit (qe_then_exit ?_))
  cases oi x
  cases o _ u
  refine qe_block_eq ?_
  cases oi m
  exact qd ⟨_,X,u,u,q,f,s⟩
 rintro _ aT ⟨i,k,rfl,rfl,az,aU,aA⟩
 have c:=elim_l c
 refine qr (mv u (av u (nq (wc_ret ?_))))
 cases oi c
 exact ey results101 ⟨k,u,az,aA⟩

theorem ok_laws_heldAttrS {q0:List GAttr}{q1:Int}{r:Int}(hS:SH w K [] w K [])(m:SliceAt tGAttr K A a b q0)(O:rng64 q1)(hm:M.laws_heldAttrS F q0 q1=some r):
  Calls prog 102 #[V3 A a b,V6 q1] w (R_i w K r):=by
 rw [M.laws_heldAttrS] at hm
 refine ci func102 u ntmps102 (sr (lv (r_0 u) (nsr (lv (r_0 u) (nq ?_)))))
 obtain⟨R,S,c⟩:=ob hm
 refine wc_cutg (fun E' w'=>∃i k,R= .inl i∧E'=[(1,V6 i)]∧SH w K [] w' k []∧KLe K k∧rng64 i) ?_ ?_
 ·refine wc_block ?_
  obtain⟨au,T,o⟩:=ob S
  refine qw (fun (d:Int×Int)=>IW w K [] K [(0,V3 A a b),(1,V6 d.1),(5,V6 d.2)] [] (rng64 d.1∧rng64 d.2)) T ⟨K,u,hS,kr,O,d_0⟩ ?_
  rintro d _ aw ax U q ⟨V,rfl,s,f,x,ay⟩
  refine wc_seq (sr (mv u (mv u (lv (rv_len underlying75 u (m.mono f)) (lv (rv_lss u u) (nq (wcc U u (fun W y=>?_) (fun W y=>?_))))))))
  ·refine wc_skip (qs (wc_block (wc_seq (wc_seq (wc_quiet mixed (by kernel_rfl) s (km u (km u ?_)))))))
   obtain⟨G,X,Y⟩:=ob y
   refine ki underlying75 tf142 (m.mono f) X fun aa ab az ac ad=>?_
   obtain⟨rfl,aA,aB⟩:=ac
   have ae:AtK _ aa ab [sv G.Name,V6 G.Num]:=ad
   refine kv (rv_fieldAddr ff142_0 u) (kh (rq_load1 tf9 u (ae 0 _ u)) (km u ?_))
   obtain⟨aC,H,af⟩:=ob Y
   refine kd co160 (fun _ _ ag aD=>(ok_laws_markText F) ag.enter0 x H) ?_
   obtain⟨_,_,_,⟨_,_,_,aE⟩,_⟩:=(ok_laws_markText F) s.enter0 x H []
   refine kv (rv_sneq u u) (wq_nil ?_)
   rintro aF ⟨B,l,I⟩
   refine qe_seq (wcc af u (fun ah C=>?_) (fun ah C=>?_))
   ·refine sr (lv (rv_assign (v:=V6 (-1)) u) (nq (rr (qe_block_ret (qe_then_ret (qe_then_ret ?_))))))
    cases oi C
    cases q _ u
    refine qe_block_ret (qe_then_ret ?_)
    cases oi o
    refine qe_then_ret ?_
    cases oi c
    exact ey results102 ⟨B,u,l,(by decide :rng64 (-1))⟩
   refine wc_skip (qr (mv u (lv (rv_add u u) (av u (nsr (mv u (mv u ?_)))))))
   obtain⟨J,ai,aj⟩:=ob C
   refine li underlying75 tf142 (m.mono (f.trans I)) ai fun ak al aG am an=>?_
   obtain⟨rfl,aH,aI⟩:=am
   have ao:AtK _ ak al [sv J.Name,V6 J.Num]:=an
   refine fa ff142_1 u (lv (rv_load1 tf3 u l (ao 1 _ u)) (mv u (lv (rv_neq u u) (nq (wcc aj u (fun ap D=>?_) (fun ap D=>?_))))))
   ·refine sr (lv (rv_assign (v:=V6 (-1)) u) (nq (rr (qe_block_ret (qe_then_ret (qe_then_ret ?_))))))
    cases oi D
    cases q _ u
    refine qe_block_ret (qe_then_ret ?_)
    cases oi o
    refine qe_then_ret ?_
    cases oi c
    exact ey results102 ⟨B,u,l,(by decide :rng64 (-1))⟩
   refine wc_skip (qe_seq (wc_region (mv u (lv (rv_add u u) (av u (nb (qe_seq (wc_region (mv u ?_)))))))))
   refine lv (rv_add u u) (av u (wl_nil ?_))
   cases oi D
   exact qd ⟨_,u,B,u,l,(f.trans I),(w64_rng _),(w64_rng _)⟩
  refine wc_exit (qe_then_exit (qe_then_exit ?_))
  cases oi y
  cases q _ u
  refine qe_block_eq ?_
  cases oi o
  exact qd ⟨_,V,u,u,s,f,x⟩
 rintro _ aJ ⟨i,k,rfl,rfl,aq,aK,ar⟩
 have c:=elim_l c
 refine qr (mv u (av u (nq (wc_ret ?_))))
 cases oi c
 exact ey results102 ⟨k,u,aq,ar⟩

theorem ok_laws_heldDocS {q0:List GDoc}{q1:Int}{r:Int}(hS:SH w K [] w K [])(k:SliceAt tGDoc K A a b q0)(O:rng64 q1)(hm:M.laws_heldDocS F q0 q1=some r):
  Calls prog 39 #[V3 A a b,V6 q1] w (R_i w K r):=by
 rw [M.laws_heldDocS] at hm
 refine ci func39 u ntmps39 (sr (lv (r_0 u) (nsr (lv (r_0 u) (nq ?_)))))
 obtain⟨R,S,c⟩:=ob hm
 refine wc_cutg (fun E' w'=>∃l m,R= .inl l∧E'=[(1,V6 l)]∧SH w K [] w' m []∧KLe K m∧rng64 l) ?_ ?_
 ·refine wc_block ?_
  obtain⟨bf,T,o⟩:=ob S
  refine qw (fun (i:Int×Int)=>IW w K [] K [(0,V3 A a b),(1,V6 i.1),(5,V6 i.2)] [] (rng64 i.1∧rng64 i.2)) T ⟨K,u,hS,kr,O,d_0⟩ ?_
  rintro i _ bg bh U q ⟨G,rfl,d,f,V,bi⟩
  refine wc_seq (sr (mv u (mv u (lv (rv_len underlying43 u (k.mono f)) (lv (rv_lss u u) (nq (wcc U u (fun W x=>?_) (fun W x=>?_))))))))
  ·refine wc_skip (qs (wc_block (wc_seq (sr (mv u (mv u ?_))))))
   obtain⟨X,Y,aa⟩:=ob x
   refine li underlying43 tf77 (k.mono f) Y fun ab ac bj ad ae=>?_
   obtain⟨af,ag,ah,ai,aj,ak,rfl,bk,bl,bm⟩:=ad
   have al:AtK _ ab ac [V6 X.Id,V3 af ag ah,V3 ai aj ak]:=ae
   refine fa ff77_0 u (lv (rv_load1 tf3 u d (al 0 _ u)) (mv u (lv (rv_neq u u) (nq (wcc aa u (fun am y=>?_) (fun am y=>?_))))))
   ·refine sr (lv (rv_assign (v:=V6 (-1)) u) (nq (rr (qe_block_ret (qe_then_ret (qe_then_ret ?_))))))
    cases oi y
    cases q _ u
    refine qe_block_ret (qe_then_ret ?_)
    cases oi o
    refine qe_then_ret ?_
    cases oi c
    exact ey results39 ⟨G,u,d,(by decide :rng64 (-1))⟩
   refine wc_skip (qr (mv u (lv (rv_add u u) (av u (nr (mv u (mv u ?_)))))))
   obtain⟨an,ao,ap⟩:=ob y
   refine li underlying43 tf77 (k.mono f) ao fun aq ar bn au aw=>?_
   obtain⟨ax,ay,az,aA,aB,aC,rfl,bo,aD,bp⟩:=au
   have aE:AtK _ aq ar [V6 an.Id,V3 ax ay az,V3 aA aB aC]:=aw
   refine fa ff77_1 u (lv (rv_load1 tf74 u d (aE 1 _ u)) (mv u ?_))
   obtain⟨bq,aF,aG⟩:=ob ap
   refine lk co101 (ok_laws_heldFieldS F d.enter0 aD (w64_rng _) aF) ?_
   rintro br bs ⟨aH,rfl,B,aI⟩
   have s:=(d.c0 B).t0
   refine av u (nsr (mv u (lv (rv_lss u u) (nq (wcc aG u (fun aJ C=>?_) (fun aJ C=>?_))))))
   ·refine sr (lv (rv_assign (v:=V6 (-1)) u) (nq (rr (qe_block_ret (qe_then_ret (qe_then_ret ?_))))))
    cases oi C
    cases q _ u
    refine qe_block_ret (qe_then_ret ?_)
    cases oi o
    refine qe_then_ret ?_
    cases oi c
    exact ey results39 ⟨aH,u,s,(by decide :rng64 (-1))⟩
   refine wc_skip (qr (mv u (mv u ?_)))
   obtain⟨aK,aL,aM⟩:=ob C
   refine li underlying43 tf77 (k.mono (f.trans B.le)) aL fun aN aO bu aP aQ=>?_
   obtain⟨aR,aS,aT,aU,aV,aW,rfl,bv,bx,aX⟩:=aP
   have aY:AtK _ aN aO [V6 aK.Id,V3 aR aS aT,V3 aU aV aW]:=aQ
   refine fa ff77_2 u (lv (rv_load1 tf75 u s (aY 2 _ u)) (mv u ?_))
   obtain⟨bz,aZ,ba⟩:=ob aM
   refine lk co102 (ok_laws_heldAttrS F s.enter0 aX aI aZ) ?_
   rintro bA bB ⟨H,rfl,I,bb⟩
   have J:=(s.c0 I).t0
   refine av u (nr (mv u (lv (rv_lss u u) (nq (wcc ba u (fun bc D=>?_) (fun bc D=>?_))))))
   ·refine sr (lv (rv_assign (v:=V6 (-1)) u) (nq (wc_ret (qe_block_ret (qe_then_ret (qe_then_ret ?_))))))
    cases oi D
    cases q _ u
    refine qe_block_ret (qe_then_ret ?_)
    cases oi o
    refine qe_then_ret ?_
    cases oi c
    exact ey results39 ⟨H,u,J,(by decide :rng64 (-1))⟩
   refine wc_skip (qe_block (qe_seq (wc_region (mv u (lv (rv_add u u) (av u (wl_nil ?_)))))))
   cases oi D
   exact qd ⟨_,u,H,u,J,((f.trans B.le).trans I.le),bb,(w64_rng _)⟩
  refine wc_exit (qe_then_exit (qe_then_exit ?_))
  cases oi x
  cases q _ u
  refine qe_block_eq ?_
  cases oi o
  exact qd ⟨_,G,u,u,d,f,V⟩
 rintro _ bC ⟨l,m,rfl,rfl,bd,bD,be⟩
 have c:=elim_l c
 refine qr (mv u (av u (nq (wc_ret ?_))))
 cases oi c
 exact ey results39 ⟨m,u,bd,be⟩

theorem ok_laws_heldIntS {q0:List Int}{q1:Int}{r:Int}(hS:SH w K [] w K [])(s:SliceAt tInt K A a b q0)(B:rng64 q1)(hm:M.laws_heldIntS F q0 q1=some r):
  Calls prog 98 #[V3 A a b,V6 q1] w (R_i w K r):=by
 rw [M.laws_heldIntS] at hm
 refine ci func98 u ntmps98 (sr (lv (r_0 u) (nsr (lv (r_0 u) (nq ?_)))))
 obtain⟨C,D,d⟩:=ob hm
 refine wc_cutg (fun E' w'=>∃f i,C= .inl f∧E'=[(1,V6 f)]∧SH w K [] w' i []∧KLe K i∧rng64 f) ?_ ?_
 ·refine wc_block ?_
  obtain⟨ac,G,x⟩:=ob D
  refine qw (fun (c:Int×Int)=>IW w K [] K [(0,V3 A a b),(1,V6 c.1),(5,V6 c.2)] [] (rng64 c.1∧rng64 c.2)) G ⟨K,u,hS,kr,B,d_0⟩ ?_
  rintro c _ ad ae H y ⟨m,rfl,k,l,I,af⟩
  refine wc_seq (sr (mv u (mv u (lv (rv_len underlying71 u (s.mono l)) (lv (rv_lss u u) (nq (wcc H u (fun J o=>?_) (fun J o=>?_))))))))
  ·refine wc_skip (qs (wc_block (wc_seq (sr (mv u (mv u ?_))))))
   obtain⟨O,R,S⟩:=ob o
   refine li underlying71 tf3 (s.mono l) R fun T U ag V W=>?_
   obtain⟨rfl,ah⟩:=V
   have X:AtK _ T U [V6 O]:=W
   refine lv (rv_load1 tf3 u k (X 0 _ u)) (mv u (lv (rv_neq u u) (nq (wcc S u (fun Y q=>?_) (fun Y q=>?_)))))
   ·refine sr (lv (rv_assign (v:=V6 (-1)) u) (nq (rr (qe_block_ret (qe_then_ret (qe_then_ret ?_))))))
    cases oi q
    cases y _ u
    refine qe_block_ret (qe_then_ret ?_)
    cases oi x
    refine qe_then_ret ?_
    cases oi d
    exact ey results98 ⟨m,u,k,(by decide :rng64 (-1))⟩
   refine wc_skip (qe_seq (wc_region (mv u (lv (rv_add u u) (av u (nb (qe_seq (wc_region (mv u ?_)))))))))
   refine lv (rv_add u u) (av u (wl_nil ?_))
   cases oi q
   exact qd ⟨_,u,m,u,k,l,(w64_rng _),(w64_rng _)⟩
  refine wc_exit (qe_then_exit (qe_then_exit ?_))
  cases oi o
  cases y _ u
  refine qe_block_eq ?_
  cases oi x
  exact qd ⟨_,m,u,u,k,l,I⟩
 rintro _ ai ⟨f,i,rfl,rfl,aa,aj,ab⟩
 have d:=elim_l d
 refine qr (mv u (av u (nq (wc_ret ?_))))
 cases oi d
 exact ey results98 ⟨i,u,aa,ab⟩

theorem ok_laws_heldPostS {q0:List GPost}{q1:Int}{r:Int}(hS:SH w K [] w K [])(m:SliceAt tGPost K A a b q0)(H:rng64 q1)(hm:M.laws_heldPostS F q0 q1=some r):
  Calls prog 35 #[V3 A a b,V6 q1] w (R_i w K r):=by
 rw [M.laws_heldPostS] at hm
 refine ci func35 u ntmps35 (sr (lv (r_0 u) (nsr (lv (r_0 u) (nq ?_)))))
 obtain⟨I,J,d⟩:=ob hm
 refine wc_cutg (fun E' w'=>∃k l,I= .inl k∧E'=[(1,V6 k)]∧SH w K [] w' l []∧KLe K l∧rng64 k) ?_ ?_
 ·refine wc_block ?_
  obtain⟨aC,O,o⟩:=ob J
  refine qw (fun (f:Int×Int)=>IW w K [] K [(0,V3 A a b),(1,V6 f.1),(5,V6 f.2)] [] (rng64 f.1∧rng64 f.2)) O ⟨K,u,hS,kr,H,d_0⟩ ?_
  rintro f _ aD aE R q ⟨B,rfl,c,i,S,aF⟩
  refine wc_seq (sr (mv u (mv u (lv (rv_len underlying61 u (m.mono i)) (lv (rv_lss u u) (nq (wcc R u (fun T s=>?_) (fun T s=>?_))))))))
  ·refine wc_skip (qs (wc_block (wc_seq (sr (mv u (mv u ?_))))))
   obtain⟨U,V,W⟩:=ob s
   refine li underlying61 tf134 (m.mono i) V fun X Y aG aa ab=>?_
   obtain⟨ac,ad,ae,rfl,aH,aI⟩:=aa
   have af:AtK _ X Y [V6 U.Doc,V3 ac ad ae]:=ab
   refine fa ff134_0 u (lv (rv_load1 tf3 u c (af 0 _ u)) (mv u (lv (rv_neq u u) (nq (wcc W u (fun ag x=>?_) (fun ag x=>?_))))))
   ·refine sr (lv (rv_assign (v:=V6 (-1)) u) (nq (rr (qe_block_ret (qe_then_ret (qe_then_ret ?_))))))
    cases oi x
    cases q _ u
    refine qe_block_ret (qe_then_ret ?_)
    cases oi o
    refine qe_then_ret ?_
    cases oi d
    exact ey results35 ⟨B,u,c,(by decide :rng64 (-1))⟩
   refine wc_skip (qr (mv u (lv (rv_add u u) (av u (nr (mv u (mv u ?_)))))))
   obtain⟨ah,ai,aj⟩:=ob x
   refine li underlying61 tf134 (m.mono i) ai fun ak al aJ am an=>?_
   obtain⟨ao,ap,aq,rfl,aK,ar⟩:=am
   have au:AtK _ ak al [V6 ah.Doc,V3 ao ap aq]:=an
   refine fa ff134_1 u (lv (rv_load1 tf71 u c (au 1 _ u)) (mv u ?_))
   obtain⟨aL,aw,ax⟩:=ob aj
   refine lk co98 (ok_laws_heldIntS F c.enter0 ar (w64_rng _) aw) ?_
   rintro aM aN ⟨C,rfl,D,ay⟩
   have G:=(c.c0 D).t0
   refine av u (nr (mv u (lv (rv_lss u u) (nq (wcc ax u (fun az y=>?_) (fun az y=>?_))))))
   ·refine sr (lv (rv_assign (v:=V6 (-1)) u) (nq (wc_ret (qe_block_ret (qe_then_ret (qe_then_ret ?_))))))
    cases oi y
    cases q _ u
    refine qe_block_ret (qe_then_ret ?_)
    cases oi o
    refine qe_then_ret ?_
    cases oi d
    exact ey results35 ⟨C,u,G,(by decide :rng64 (-1))⟩
   refine wc_skip (qe_block (qe_seq (wc_region (mv u (lv (rv_add u u) (av u (wl_nil ?_)))))))
   cases oi y
   exact qd ⟨_,u,C,u,G,(i.trans D.le),ay,(w64_rng _)⟩
  refine wc_exit (qe_then_exit (qe_then_exit ?_))
  cases oi s
  cases q _ u
  refine qe_block_eq ?_
  cases oi o
  exact qd ⟨_,B,u,u,c,i,S⟩
 rintro _ aO ⟨k,l,rfl,rfl,aA,aP,aB⟩
 have d:=elim_l d
 refine qr (mv u (av u (nq (wc_ret ?_))))
 cases oi d
 exact ey results35 ⟨l,u,aA,aB⟩

theorem ok_laws_heldEntryS {q0:List GEntry}{q1:Int}{r:Int}(hS:SH w K [] w K [])(i:SliceAt tGEntry K A a b q0)(X:rng64 q1)(hm:M.laws_heldEntryS F q0 q1=some r):
  Calls prog 88 #[V3 A a b,V6 q1] w (R_i w K r):=by
 rw [M.laws_heldEntryS] at hm
 refine ci func88 u ntmps88 (sr (lv (r_0 u) (nsr (lv (r_0 u) (nq ?_)))))
 obtain⟨Y,h7,c⟩:=ob hm
 refine wc_cutg (fun E' w'=>∃k l,Y= .inl k∧E'=[(1,V6 k)]∧SH w K [] w' l []∧KLe K l∧rng64 k) ?_ ?_
 ·refine wc_block ?_
  obtain⟨bb,ab,m⟩:=ob h7
  refine qw (fun (f:Int×Int)=>IW w K [] K [(0,V3 A a b),(1,V6 f.1),(5,V6 f.2)] [] (rng64 f.1∧rng64 f.2)) ab ⟨K,u,hS,kr,X,d_0⟩ ?_
  rintro f _ bc bd ac o ⟨ad,rfl,s,d,x,be⟩
  refine wc_seq (sr (mv u (mv u (lv (rv_len underlying44 u (i.mono d)) (lv (rv_lss u u) (nq (wcc ac u (fun ae y=>?_) (fun ae y=>?_))))))))
  ·refine wc_skip (qs (wc_block (wc_seq (wc_seq (wc_quiet mixed (by kernel_rfl) s (km u (km u ?_)))))))
   obtain⟨I,af,ag⟩:=ob y
   refine ki underlying44 tf116 (i.mono d) af fun ah ai bf aj ak=>?_
   obtain⟨al,am,an,rfl,bg,bh,bi⟩:=aj
   have ao:AtK _ ah ai [sv I.Field,sv I.Term,V3 al am an]:=ak
   refine kv (rv_fieldAddr ff116_0 u) (kh (rq_load1 tf9 u (ao 0 _ u)) (km u ?_))
   obtain⟨bj,J,ap⟩:=ob ag
   refine kd co160 (fun _ _ aq bk=>(ok_laws_markText F) aq.enter0 x J) ?_
   obtain⟨_,_,_,⟨_,_,_,bl⟩,_⟩:=(ok_laws_markText F) s.enter0 x J []
   refine kv (rv_sneq u u) (wq_nil ?_)
   rintro bm ⟨ar,B,C⟩
   refine qe_seq (wcc ap u (fun au D=>?_) (fun au D=>?_))
   ·refine sr (lv (rv_assign (v:=V6 (-1)) u) (nq (rr (qe_block_ret (qe_then_ret (qe_then_ret ?_))))))
    cases oi D
    cases o _ u
    refine qe_block_ret (qe_then_ret ?_)
    cases oi m
    refine qe_then_ret ?_
    cases oi c
    exact ey results88 ⟨ar,u,B,(by decide :rng64 (-1))⟩
   refine wc_skip (qr (mv u (lv (rv_add u u) (av u (ns (wc_seq (wc_quiet mixed (by kernel_rfl) B (km u (km u ?_)))))))))
   obtain⟨O,aw,ax⟩:=ob D
   refine ki underlying44 tf116 (i.mono (d.trans C)) aw fun ay az bn aA aB=>?_
   obtain⟨aC,aD,aE,rfl,bo,bp,bq⟩:=aA
   have aF:AtK _ ay az [sv O.Field,sv O.Term,V3 aC aD aE]:=aB
   refine kv (rv_fieldAddr ff116_1 u) (kh (rq_load1 tf9 u (aF 1 _ u)) (km u ?_))
   obtain⟨br,R,aG⟩:=ob ax
   refine kd co160 (fun _ _ aH bs=>(ok_laws_markText F) aH.enter0 (w64_rng _) R) ?_
   obtain⟨_,_,_,⟨_,_,_,bu⟩,_⟩:=(ok_laws_markText F) B.enter0 (w64_rng _) R []
   refine kv (rv_sneq u u) (wq_nil ?_)
   rintro bv ⟨aI,q,S⟩
   refine qe_seq (wcc aG u (fun aJ G=>?_) (fun aJ G=>?_))
   ·refine sr (lv (rv_assign (v:=V6 (-1)) u) (nq (rr (qe_block_ret (qe_then_ret (qe_then_ret ?_))))))
    cases oi G
    cases o _ u
    refine qe_block_ret (qe_then_ret ?_)
    cases oi m
    refine qe_then_ret ?_
    cases oi c
    exact ey results88 ⟨aI,u,q,(by decide :rng64 (-1))⟩
   refine wc_skip (qr (mv u (lv (rv_add u u) (av u (nr (mv u (mv u ?_)))))))
   obtain⟨T,aK,aL⟩:=ob G
   refine li underlying44 tf116 (i.mono ((d.trans C).trans S)) aK fun aM aN bx aO aP=>?_
   obtain⟨aQ,aR,aS,rfl,bz,bA,aT⟩:=aO
   have aU:AtK _ aM aN [sv T.Field,sv T.Term,V3 aQ aR aS]:=aP
   refine fa ff116_2 u (lv (rv_load1 tf61 u q (aU 2 _ u)) (mv u ?_))
   obtain⟨bB,aV,aW⟩:=ob aL
   refine lk co35 (ok_laws_heldPostS F q.enter0 aT (w64_rng _) aV) ?_
   rintro bC bD ⟨U,rfl,V,aX⟩
   have W:=(q.c0 V).t0
   refine av u (nr (mv u (lv (rv_lss u u) (nq (wcc aW u (fun aY H=>?_) (fun aY H=>?_))))))
   ·refine sr (lv (rv_assign (v:=V6 (-1)) u) (nq (wc_ret (qe_block_ret (qe_then_ret (qe_then_ret ?_))))))
    cases oi H
    cases o _ u
    refine qe_block_ret (qe_then_ret ?_)
    cases oi m
    refine qe_then_ret ?_
    cases oi c
    exact ey results88 ⟨U,u,W,(by decide :rng64 (-1))⟩
   refine wc_skip (qe_block (qe_seq (wc_region (mv u (lv (rv_add u u) (av u (wl_nil ?_)))))))
   cases oi H
   exact qd ⟨_,u,U,u,W,(((d.trans C).trans S).trans V.le),aX,(w64_rng _)⟩
  refine wc_exit (qe_then_exit (qe_then_exit ?_))
  cases oi y
  cases o _ u
  refine qe_block_eq ?_
  cases oi m
  exact qd ⟨_,ad,u,u,s,d,x⟩
 rintro _ bE ⟨k,l,rfl,rfl,aZ,bF,ba⟩
 have c:=elim_l c
 refine qr (mv u (av u (nq (wc_ret ?_))))
 cases oi c
 exact ey results88 ⟨l,u,aZ,ba⟩

theorem ok_laws_heldSeg {q0:GSeg}{q1:Int}{r:Int}(hS:SH w K [] w K [])(s:SliceAt tGDoc K A a b q0.Docs)(x:SliceAt tGEntry K B c d q0.Entries)(y:rng64 q1)(hm:M.laws_heldSeg F q0 q1=some r):
  Calls prog 28 #[.agg #[V3 A a b,V3 B c d],V6 q1] w (R_i w K r):=by
 rw [M.laws_heldSeg] at hm
 refine ci func28 u ntmps28 (sr (bx u hS fun C W D=>?_))
 have i:SH _ _ _ _ _ [obj C [V3 A a b,V3 B c d] 46]:=D
 refine lv (r_0 u) (nr (fl ff46_0 u tf43 m0 i u (mv u ?_)))
 obtain⟨X,G,H⟩:=ob hm
 refine lk co39 (ok_laws_heldDocS F i.enter0 s y G) ?_
 rintro Y aa ⟨I,rfl,m,J⟩
 have f:=(i.c0 m).t1
 refine av u (nsr (mv u (lv (rv_lss u u) (nq (wcc H u (fun O k=>?_) (fun O k=>?_))))))
 ·refine sr (lv (rv_assign (v:=V6 (-1)) u) (nq (rr ?_)))
  cases oi k
  exact ey results28 ⟨I,u,f.s,(by decide :rng64 (-1))⟩
 refine wc_skip (qr (fl ff46_1 u tf44 m0 f u (mv u ?_)))
 obtain⟨ab,R,S⟩:=ob k
 refine lk co88 (ok_laws_heldEntryS F f.enter0 (x.mono m.le) J R) ?_
 rintro ac ad ⟨o,rfl,T,U⟩
 have q:=(f.c0 T).t1
 refine av u (nsr (mv u (lv (rv_lss u u) (nq (wcc S u (fun V l=>?_) (fun V l=>?_))))))
 ·refine sr (lv (rv_assign (v:=V6 (-1)) u) (nq (rr ?_)))
  cases oi l
  exact ey results28 ⟨o,u,q.s,(by decide :rng64 (-1))⟩
 refine wc_skip (qr (mv u (av u (nq (wc_ret ?_)))))
 cases oi l
 exact ey results28 ⟨o,u,q.s,U⟩

theorem ok_laws_FnExactSegOf {q0:GConf}{q1:List GDoc}{r:Bool}(hS:SH w K [] w K [])(aw:SliceAt tStr K A a b q0.Stops)(ax:SliceAt tGSyn K B c d q0.Syns)(ay:SliceAt tGDoc K C f i q1)(hm:M.laws_FnExactSegOf F q0 q1=some r):
  Calls prog 4 #[.agg #[V3 A a b,V3 B c d],V3 C f i] w (R_b w K r):=by
 rw [M.laws_FnExactSegOf] at hm
 refine ci func4 rfl ntmps4 (sr (bx rfl hS fun aL el bY=>?_))
 have aQ:SH _ _ _ _ _ [obj aL [V3 A a b,V3 B c d] 25]:=bY
 refine lv (r_f rfl) (nr (lv (rv_assign (v:=V6 1048576) rfl) (nr (lv (rv_loadmS (ds:=[V3 A a b,V3 B c d]) tf25 rfl m0 aQ rfl rfl) (mv rfl ?_)))))
 obtain⟨em,bZ,ca⟩:=ob hm
 refine lk co16 (ok_laws_szConf F aQ.enter0 aw ax (by decide :rng64 1048576) bZ) ?_
 rintro en eo ⟨cb,rfl,G,cc⟩
 have aR:=(aQ.c0 G).t1
 refine av rfl (nsr (mv rfl (lv (rv_lss rfl rfl) (nq (wcc ca rfl (fun cd aS=>?_) (fun cd aS=>?_))))))
 ·refine sr (lv (r_t rfl) (nq (rr ?_)))
  cases oi aS
  exact ey results4 ⟨cb,rfl,aR.s⟩
 refine wc_skip (qr (mv rfl (mv rfl ?_)))
 obtain⟨ep,ce,cf⟩:=ob aS
 refine lk co17 (ok_laws_szDocS F aR.enter0 (ay.mono G.le) cc ce) ?_
 rintro eq es ⟨cg,rfl,I,et⟩
 have aM:=(aR.c0 I).t1
 refine av rfl (nsr (mv rfl (lv (rv_lss rfl rfl) (nq (wcc cf rfl (fun ch aT=>?_) (fun ch aT=>?_))))))
 ·refine sr (lv (r_t rfl) (nq (rr ?_)))
  cases oi aT
  exact ey results4 ⟨cg,rfl,aM.s⟩
 refine wc_skip (qr (lv (rv_loadmS (ds:=[V3 A a b,V3 B c d]) tf25 rfl m0 aM rfl rfl) ?_))
 obtain⟨eu,cj,ck⟩:=ob aT
 refine lk co19 ((bag_laws_toConf F) aM.enter0 (aw.mono (G.le.trans I.le)) (ax.mono (G.le.trans I.le)) cj) ?_
 rintro ev ew ⟨ex,eA,eB,eC,eD,eE,eF,B47,rfl,R,cl,cm⟩
 have cn:=cl.mono only_le
 have cp:=cm.mono only_le
 have bo:=(aM.c0 R).t2
 refine mv rfl ?_
 obtain⟨eG,cq,cr⟩:=ob ck
 refine lk co20 ((bag_laws_toDocS F) bo.enter0 (ay.mono ((G.le.trans I.le).trans R.le)) cq) ?_
 rintro eH eI ⟨eJ,eK,eL,eM,B67,rfl,J,cs⟩
 have ct:=cs.mono only_le
 have bp:=(bo.c0 J).t3
 obtain⟨eN,cu,cv⟩:=ob cr
 refine lk co18 (ok_spec_SegOf F bp.enter0 (cn.mono J.le) (cp.mono J.le) ct cu) ?_
 rintro eO eP ⟨ai,aj,ak,am,an,ao,eQ,rfl,T,aU,aV⟩
 have cw:=(bp.c0 T).t5
 refine al tf46 cw fun aW eR cx=>?_
 have cy:SH _ _ _ _ _ [obj aW [V3 none 0 0,V3 none 0 0] 46,_,_,_,_,_]:=cx
 refine lw [V3 ai aj ak,V3 am an ao] tf46 cy fun eS U=>(nr (lv (rv_loadmS (ds:=[V3 A a b,V3 B c d]) tf25 rfl m5 U rfl rfl) ?_))
 obtain⟨eT,cz,cA⟩:=ob cv
 refine lk co19 ((bag_laws_toConf F) U.enter0 (SliceAt.mono ((((G.le.trans I.le).trans R.le).trans J.le).trans T.le) aw) (SliceAt.mono ((((G.le.trans I.le).trans R.le).trans J.le).trans T.le) ax) cz) ?_
 rintro eU eV ⟨az,aA,aB,aC,aD,aE,eW,B103,rfl,k,bq,br⟩
 have bs:=bq.mono only_le
 have bu:=br.mono only_le
 have cB:=(U.c0 k).t7
 refine al tf33 cB fun bv eX cC=>?_
 have cD:SH _ _ _ _ _ [obj bv [V3 none 0 0,V3 none 0 0] 33,_,_,_,_,_,_,_]:=cC
 refine lw [V3 az aA aB,V3 aC aD aE] tf33 cD fun eY V=>(nr (mv rfl ?_))
 obtain⟨eZ,cE,cF⟩:=ob cA
 refine lk co20 ((bag_laws_toDocS F) V.enter0 (SliceAt.mono (((((G.le.trans I.le).trans R.le).trans J.le).trans T.le).trans k.le) ay) cE) ?_
 rintro fb fc ⟨fd,fe,fg,fh,B128,rfl,l,bz⟩
 have bA:=bz.mono only_le
 have W:=(V.c0 l).t9
 refine av rfl (nr (lv (rv_loadmS (ds:=[V3 az aA aB,V3 aC aD aE]) tf33 rfl m1 W rfl rfl) (mv rfl ?_)))
 obtain⟨ap,cG,cH⟩:=ob cF
 refine lk co21 ((own_impl_SegOf F) W.enter0 (bs.mono l.le) (bu.mono l.le) bA cG) ?_
 rintro fi fj ⟨X,Y,aa,ab,ac,ad,fk,B150,B151,rfl,m,ho152,ho153⟩
 have cI:=RowO.sl ho152
 have cJ:=RowO.sl ho153
 have cK:=(W.c0 m).t10
 refine al tf46 cK fun aX fm cL=>?_
 have cM:SH _ _ _ _ _ [obj aX [V3 none 0 0,V3 none 0 0] 46,_,_,_,_,_,_,_,_,_,_]:=cL
 refine lw [V3 X Y aa,V3 ab ac ad] tf46 cM fun fn aN=>(nsr (lv (rv_loadmS (ds:=[V3 X Y aa,V3 ab ac ad]) tf46 rfl m0 aN rfl rfl) (lv (rv_loadmS (ds:=[V3 ai aj ak,V3 am an ao]) tf46 rfl m5 aN rfl rfl) ?_)))
 obtain⟨fo,cN,cO⟩:=ob cH
 refine lk co22 (ok_laws_eqSeg F aN.enter0 cI cJ (aU.mono ((k.le.trans l.le).trans m.le)) (aV.mono ((k.le.trans l.le).trans m.le)) cN) ?_
 rintro fp fq ⟨bB,rfl,q⟩
 have bC:=(aN.c0 q).t11
 refine lv (rv_not rfl) (nq (wcc cO rfl (fun cP aY=>?_) (fun cP aY=>?_)))
 ·refine sr (lv (r_f rfl) (nq (rr ?_)))
  cases oi aY
  exact ey results4 ⟨bB,rfl,bC.s⟩
 refine wc_skip (qs (wc_seq ?_))
 have aF:=bC.drew
 refine wh1 (fun w'=>Holds bB w'∧HasObj bv [V3 az aA aB,V3 aC aD aE] w'∧HasObj aL [V3 A a b,V3 B c d] w') (fun w'=>True) 5 [] mixed ⟨aF.hasK kr,aF.hasObj m3,aF.hasObj m10⟩ (fun _=>trivial) (gh (fun _ h=>rh_loadmS (ds:=[V3 az aA aB,V3 aC aD aE]) tf33 rfl rfl rfl h.2.1) (gh (fun _ h=>rh_loadmS (ds:=[V3 A a b,V3 B c d]) tf25 rfl rfl rfl h.2.2) (gn ?_)))
 obtain⟨fr,cQ,cR⟩:=ob aY
 refine lk co19 ((bag_laws_toConf F) aF.enter0 (SliceAt.mono ((((((((G.le.trans I.le).trans R.le).trans J.le).trans T.le).trans k.le).trans l.le).trans m.le).trans q.le) aw) (SliceAt.mono ((((((((G.le.trans I.le).trans R.le).trans J.le).trans T.le).trans k.le).trans l.le).trans m.le).trans q.le) ax) cQ) ?_
 rintro fs ft ⟨fu,fv,fw,fx,fy,fz,fA,B183,rfl,s,bD,bE⟩
 have cS:=bD.mono only_le
 have cT:=bE.mono only_le
 have aG:=(aF.c0 s).t12
 refine wl_nil (qh ⟨aG.hasK s.le,aG.hasObj m4,aG.hasObj m11⟩ (fun _=>trivial) (gn ?_))
 obtain⟨fB,cU,cV⟩:=ob cR
 refine lk co23 (ok_laws_eqConf F aG.enter0 (SliceAt.mono (((l.le.trans m.le).trans q.le).trans s.le) bs) (SliceAt.mono (((l.le.trans m.le).trans q.le).trans s.le) bu) cS cT cU) ?_
 rintro fC fD ⟨cW,rfl,x⟩
 have aq:=(aG.c0 x).t12
 refine wl_nil (qh ⟨aq.hasK (s.le.trans x.le),aq.hasObj m4,aq.hasObj m11⟩ (fun _=>trivial) (gt (rv_not rfl) (gd' (qe_seq (wcc cV rfl (fun cX aZ=>?_) (fun cX aZ=>?_))))))
 ·refine sr (lv (r_f rfl) (nq (rr ?_)))
  cases oi aZ
  exact ey results4 ⟨cW,rfl,aq.s⟩
 refine wc_skip (qs (sr (mv rfl (mv rfl ?_))))
 obtain⟨fE,cY,cZ⟩:=ob aZ
 refine lk co20 ((bag_laws_toDocS F) aq.enter0 (SliceAt.mono ((((((((((G.le.trans I.le).trans R.le).trans J.le).trans T.le).trans k.le).trans l.le).trans m.le).trans q.le).trans s.le).trans x.le) ay) cY) ?_
 rintro fF fG ⟨fH,fI,fJ,fK,B213,rfl,y,bF⟩
 have da:=bF.mono only_le
 have bG:SH _ _ _ _ _ [_,_,_,_,_,_,_,_,_,_,_,_,_]:=SH.call0 aq y
 obtain⟨fL,db,dc⟩:=ob cZ
 refine lk co24 (ok_laws_eqDocS F bG.enter0 (SliceAt.mono ((((m.le.trans q.le).trans s.le).trans x.le).trans y.le) bA) da db) ?_
 rintro fM fN ⟨dd,rfl,D⟩
 have ba:SH _ _ _ _ _ [_,_,_,_,_,_,_,_,_,_,_,_,_]:=SH.call0 bG D
 refine lv (rv_not rfl) (nq (wcc dc rfl (fun de bb=>?_) (fun de bb=>?_)))
 ·refine sr (lv (r_f rfl) (nq (rr ?_)))
  cases oi bb
  exact ey results4 ⟨dd,rfl,ba.s⟩
 refine wc_skip (qr (lv (rv_assign (v:=V6 1) rfl) (nr (lv (rv_loadmS (ds:=[V3 az aA aB,V3 aC aD aE]) tf33 rfl m5 ba rfl rfl) (mv rfl ?_)))))
 obtain⟨fO,df,dg⟩:=ob bb
 have af:=ba.f6
 have hd236: ∀b∈B128,b∉B103:=SH.bag_off af _ m4
 have bH:=SliceAt.mono (only_but2 hd236) (SliceAt.mono (only_mono (((((m.le.trans q.le).trans s.le).trans x.le).trans y.le).trans D.le) fun _ h=>h) bz)
 have fP:=bH.mono only_le
 have hd239: ∀b∈(B150++B151),b∉B103:=SH.bag_off af _ m3
 have ho240:=RowO.loc (RowO.mono ho152 ((((q.le.trans s.le).trans x.le).trans y.le).trans D.le)) fun b hb i u e=>(but_at (hd239 b (List.mem_append_left _ hb)) i).trans e
 have fQ:=RowO.sl ho240
 have hd242: ∀b∈(B150++B151),b∉B103:=SH.bag_off af _ m3
 have ho243:=RowO.loc (RowO.mono ho153 ((((q.le.trans s.le).trans x.le).trans y.le).trans D.le)) fun b hb i u e=>(but_at (hd242 b (List.mem_append_right _ hb)) i).trans e
 have fR:=RowO.sl ho243
 have hd245: ∀b∈B183,b∉B103:=SH.bag_off af _ m1
 have bI:=SliceAt.mono (only_but2 hd245) (SliceAt.mono (only_mono ((x.le.trans y.le).trans D.le) fun _ h=>h) bD)
 have fS:=bI.mono only_le
 have hd248: ∀b∈B183,b∉B103:=SH.bag_off af _ m1
 have bJ:=SliceAt.mono (only_but2 hd248) (SliceAt.mono (only_mono ((x.le.trans y.le).trans D.le) fun _ h=>h) bE)
 have fT:=bJ.mono only_le
 have hd251: ∀b∈B213,b∉B103:=SH.bag_off af _ m0
 have bK:=SliceAt.mono (only_but2 hd251) (bF.mono (only_mono D.le fun _ h=>h))
 have fU:=bK.mono only_le
 have hM254:=SH.toMk hS.holds af
 refine lk co25 (ok_laws_markConf F hM254.e1 (SliceAt.mono (only_mono ((((((l.le.trans m.le).trans q.le).trans s.le).trans x.le).trans y.le).trans D.le) fun _ h=>h) bq) (SliceAt.mono (only_mono ((((((l.le.trans m.le).trans q.le).trans s.le).trans x.le).trans y.le).trans D.le) fun _ h=>h) br) (by decide :rng64 1) df) ?_
 rintro fV fW ⟨fX,rfl,H,dh⟩
 have di:SH _ _ _ _ _ [_,_,_,_,_,_,_,_,_,_,_,_]:=SH.drop (SH.call (Lin:=[_]) hM254 H)
 refine av rfl (nr (mv rfl (mv rfl ?_)))
 obtain⟨fY,dj,dk⟩:=ob dg
 have ar:=di.f4
 have hd265: ∀b∈(B150++B151),b∉B128:=SH.bag_off ar _ m3
 have ho266:=RowO.loc (RowO.mono ho240 H.le) fun b hb i u e=>(but_at (hd265 b (List.mem_append_left _ hb)) i).trans e
 have dl:=RowO.sl ho266
 have hd268: ∀b∈(B150++B151),b∉B128:=SH.bag_off ar _ m3
 have ho269:=RowO.loc (RowO.mono ho243 H.le) fun b hb i u e=>(but_at (hd268 b (List.mem_append_right _ hb)) i).trans e
 have dm:=RowO.sl ho269
 have hd271: ∀b∈B183,b∉B128:=SH.bag_off ar _ m1
 have dn:=SliceAt.mono (only_but2 hd271) (bI.mono (only_mono H.le fun _ h=>h))
 have fZ:=dn.mono only_le
 have hd274: ∀b∈B183,b∉B128:=SH.bag_off ar _ m1
 have dp:=SliceAt.mono (only_but2 hd274) (bJ.mono (only_mono H.le fun _ h=>h))
 have ga:=dp.mono only_le
 have hd277: ∀b∈B213,b∉B128:=SH.bag_off ar _ m0
 have dq:=SliceAt.mono (only_but2 hd277) (bK.mono (only_mono H.le fun _ h=>h))
 have gb:=dq.mono only_le
 have hM280:=SH.toMk hS.holds ar
 refine lk co26 (ok_laws_markDocS F hM280.e1 (bH.mono (only_mono H.le fun _ h=>h)) dh dj) ?_
 rintro gc gd ⟨bL,rfl,O,ge⟩
 have aH:SH _ _ _ _ _ [_,_,_,_,_,_,_,_,_,_,_]:=SH.drop (SH.call (Lin:=[_]) hM280 O)
 refine av rfl (ns (wc_seq ?_))
 obtain⟨dr,dt,du⟩:=ob dk
 refine wc_cutg (IV w K [] bL [(1,V3 C f i),(2,pt aL),(6,pt aW),(9,pt aX),(63,.bool dr)] [obj aL [V3 A a b,V3 B c d] 25,obj aW [V3 ai aj ak,V3 am an ao] 46,obj aX [V3 X Y aa,V3 ab ac ad] 46,bag B213,bag B183,bag (B150++B151),bag B67,bag B47]) ?_ ?_
 ·refine wc_region (mv rfl (lv (rv_lss rfl rfl) (mv rfl (bt dt (fun S bc=>?_) (fun S bc=>?_)))))
  ·refine lu S (lu S (lu S (lu S (lv (p_t rfl S rfl) (wl_nil ?_)))))
   cases oi bc
   have dv:SH _ _ _ _ _ [_,_,_,_,_,_,_,_,_,_,_]:=SH.front (p:=[_,_,_,_,_,_,_,_,_,_]) aH.f9.f9.f5.f4.f4.f5.f7
   exact qd ⟨bL,rfl,dv.s,kr⟩
  refine lg S (rv_loadmS (ds:=[V3 X Y aa,V3 ab ac ad]) tf46 rfl m2 aH rfl rfl) (lg S (rv_loadmS (ds:=[V3 ai aj ak,V3 am an ao]) tf46 rfl m5 aH rfl rfl) ?_)
  obtain⟨gg,dw,dx⟩:=ob bc
  refine wl_call (wg rfl rfl S) rfl (rt_call (vs:=[.agg #[V3 X Y aa,V3 ab ac ad],.agg #[V3 ai aj ak,V3 am an ao]]) co22 rfl) (ok_laws_eqSeg F aH.enter0 (dl.mono O.le) (dm.mono O.le) (SliceAt.mono ((le_but ((le_but (((((((k.le.trans l.le).trans m.le).trans q.le).trans s.le).trans x.le).trans y.le).trans D.le) U.holds fun b hb=>(k.bag_new b hb).1).trans H.le) (fun b o v e=>V.holds b o v (k.le b o v e)) fun b hb=>(l.bag_new b hb).1).trans O.le) aU) (SliceAt.mono ((le_but ((le_but (((((((k.le.trans l.le).trans m.le).trans q.le).trans s.le).trans x.le).trans y.le).trans D.le) U.holds fun b hb=>(k.bag_new b hb).1).trans H.le) (fun b o v e=>V.holds b o v (k.le b o v e)) fun b hb=>(l.bag_new b hb).1).trans O.le) aV) dw) ?_
  rintro gj gk ⟨dy,rfl,bM⟩
  refine⟨_,rfl,?_⟩
  have dz:=(aH.c0 bM).t11
  refine lg S (rv_not rfl) (lv (rv_pick_f rfl S rfl) (wl_nil ?_))
  cases oi dx
  have dA:SH _ _ _ _ _ [_,_,_,_,_,_,_,_,_,_,_]:=SH.front (p:=[_,_,_,_,_,_,_,_,_,_]) dz.f9.f9.f5.f4.f4.f5.f7
  exact qd ⟨dy,rfl,dA.s,bM.le⟩
 rintro _ gl ⟨dB,rfl,bd,ag⟩
 refine qe_seq (wcc du rfl (fun dC be=>?_) (fun dC be=>?_))
 ·refine sr (lv (r_f rfl) (nq (rr ?_)))
  cases oi be
  exact ey results4 ⟨dB,rfl,bd.s⟩
 refine wc_skip (qr (lv (rv_assign (v:=V6 1) rfl) (nr (lv (rv_loadmS (ds:=[V3 X Y aa,V3 ab ac ad]) tf46 rfl m2 bd rfl rfl) (mv rfl ?_)))))
 obtain⟨gm,dD,dE⟩:=ob be
 refine lk co27 ((xo_laws_markSeg F) hS.holds bd.f5 (RowO.mono ho266 (O.le.trans ag)) (RowO.mono ho269 (O.le.trans ag)) (by decide :rng64 1) dD) ?_
 rintro go gp ⟨gq,rfl,dF,ho335,ho336,aI,gr,_⟩
 have bN:=RowO.sl ho335
 have bO:=RowO.sl ho336
 have bf:SH _ _ _ _ _ [_,_,_,_,_,_,_,_]:=dF
 refine av rfl (nr (lv (rv_assign (v:=V6 1) rfl) (nr (lv (rv_loadmS (ds:=[V3 X Y aa,V3 ab ac ad]) tf46 rfl m3 bf rfl rfl) (mv rfl ?_)))))
 obtain⟨gv,dG,dH⟩:=ob dE
 refine lk co28 ((ok_laws_heldSeg F (q0:=(GSeg.mk ((mkRow (stepGDoc F) (1:Int) ap.Docs).1) ((mkRow (stepGEntry F) (mkRow (stepGDoc F) (1:Int) ap.Docs).2 ap.Entries).1)))) bf.enter0 bN bO (by decide :rng64 1) dG) ?_
 rintro gw gx ⟨bP,rfl,ae,gy⟩
 have aJ:=(bf.c0 ae).t8
 refine av rfl (nsr (mv rfl (lv (rv_lss rfl rfl) (nq (wcc dH rfl (fun dI bg=>?_) (fun dI bg=>?_))))))
 ·refine sr (lv (r_f rfl) (nq (rr ?_)))
  cases oi bg
  exact ey results4 ⟨bP,rfl,aJ.s⟩
 refine wc_skip (qs (sr (mv rfl (mv rfl (lv (rv_neq rfl rfl) (nq (wcc bg rfl (fun dJ bh=>?_) (fun dJ bh=>?_))))))))
 ·refine sr (lv (r_f rfl) (nq (rr ?_)))
  cases oi bh
  exact ey results4 ⟨bP,rfl,aJ.s⟩
 refine wc_skip (qr (lv (rv_loadmS (ds:=[V3 A a b,V3 B c d]) tf25 rfl m1 aJ rfl rfl) ?_))
 obtain⟨gz,dK,dL⟩:=ob bh
 refine lk co19 ((bag_laws_toConf F) aJ.enter0 (SliceAt.mono (((((((G.le.trans I.le).trans R.le).trans J.le).trans T.le).trans (le_but (((le_but ((le_but (((((((k.le.trans l.le).trans m.le).trans q.le).trans s.le).trans x.le).trans y.le).trans D.le) U.holds fun b hb=>(k.bag_new b hb).1).trans H.le) (fun b o v e=>V.holds b o v (k.le b o v e)) fun b hb=>(l.bag_new b hb).1).trans O.le).trans ag) (fun b o v e=>W.holds b o v ((k.le.trans l.le) b o v e)) fun b hb=>(m.bag_new b hb).1)).trans aI).trans ae.le) aw) (SliceAt.mono (((((((G.le.trans I.le).trans R.le).trans J.le).trans T.le).trans (le_but (((le_but ((le_but (((((((k.le.trans l.le).trans m.le).trans q.le).trans s.le).trans x.le).trans y.le).trans D.le) U.holds fun b hb=>(k.bag_new b hb).1).trans H.le) (fun b o v e=>V.holds b o v (k.le b o v e)) fun b hb=>(l.bag_new b hb).1).trans O.le).trans ag) (fun b o v e=>W.holds b o v ((k.le.trans l.le) b o v e)) fun b hb=>(m.bag_new b hb).1)).trans aI).trans ae.le) ax) dK) ?_
 rintro gA gB ⟨gC,gD,gE,gF,gG,gH,gI,B361,rfl,au,dM,dN⟩
 have dO:=dM.mono only_le
 have dP:=dN.mono only_le
 have bQ:=(aJ.c0 au).t9
 refine mv rfl ?_
 obtain⟨gJ,dQ,dR⟩:=ob dL
 refine lk co20 ((bag_laws_toDocS F) bQ.enter0 (SliceAt.mono ((((((((G.le.trans I.le).trans R.le).trans J.le).trans T.le).trans (le_but (((le_but ((le_but (((((((k.le.trans l.le).trans m.le).trans q.le).trans s.le).trans x.le).trans y.le).trans D.le) U.holds fun b hb=>(k.bag_new b hb).1).trans H.le) (fun b o v e=>V.holds b o v (k.le b o v e)) fun b hb=>(l.bag_new b hb).1).trans O.le).trans ag) (fun b o v e=>W.holds b o v ((k.le.trans l.le) b o v e)) fun b hb=>(m.bag_new b hb).1)).trans aI).trans ae.le).trans au.le) ay) dQ) ?_
 rintro gK gL ⟨gM,gN,gO,gP,B380,rfl,ah,dS⟩
 have dT:=dS.mono only_le
 have bR:=(bQ.c0 ah).t10
 obtain⟨gQ,dU,dV⟩:=ob dR
 refine lk co21 ((own_impl_SegOf F) bR.enter0 (dO.mono ah.le) (dP.mono ah.le) dT dU) ?_
 rintro gR gS ⟨bS,bT,bU,bV,bW,bX,gT,B402,B403,rfl,aK,ho404,ho405⟩
 have dW:=RowO.sl ho404
 have dX:=RowO.sl ho405
 have dY:=(bR.c0 aK).t11
 refine al tf46 dY fun dZ gU ea=>?_
 have eb:SH _ _ _ _ _ [obj dZ [V3 none 0 0,V3 none 0 0] 46,_,_,_,_,_,_,_,_,_,_,_]:=ea
 refine lw [V3 bS bT bU,V3 bV bW bX] tf46 eb fun gV aO=>(nsr (lv (rv_loadmS (ds:=[V3 bS bT bU,V3 bV bW bX]) tf46 rfl m0 aO rfl rfl) (lv (rv_loadmS (ds:=[V3 ai aj ak,V3 am an ao]) tf46 rfl m6 aO rfl rfl) ?_)))
 obtain⟨gW,ec,ed⟩:=ob dV
 refine lk co22 (ok_laws_eqSeg F aO.enter0 dW dX (SliceAt.mono ((((((le_but (((le_but ((le_but (((((((k.le.trans l.le).trans m.le).trans q.le).trans s.le).trans x.le).trans y.le).trans D.le) U.holds fun b hb=>(k.bag_new b hb).1).trans H.le) (fun b o v e=>V.holds b o v (k.le b o v e)) fun b hb=>(l.bag_new b hb).1).trans O.le).trans ag) (fun b o v e=>W.holds b o v ((k.le.trans l.le) b o v e)) fun b hb=>(m.bag_new b hb).1).trans aI).trans ae.le).trans au.le).trans ah.le).trans aK.le) aU) (SliceAt.mono ((((((le_but (((le_but ((le_but (((((((k.le.trans l.le).trans m.le).trans q.le).trans s.le).trans x.le).trans y.le).trans D.le) U.holds fun b hb=>(k.bag_new b hb).1).trans H.le) (fun b o v e=>V.holds b o v (k.le b o v e)) fun b hb=>(l.bag_new b hb).1).trans O.le).trans ag) (fun b o v e=>W.holds b o v ((k.le.trans l.le) b o v e)) fun b hb=>(m.bag_new b hb).1).trans aI).trans ae.le).trans au.le).trans ah.le).trans aK.le) aV) ec) ?_
 rintro gX gY ⟨ee,rfl,bi⟩
 have aP:=(aO.c0 bi).t12
 refine lv (rv_not rfl) (nq (wcc ed rfl (fun ef bj=>?_) (fun ef bj=>?_)))
 ·refine sr (lv (r_f rfl) (nq (rr ?_)))
  cases oi bj
  exact ey results4 ⟨ee,rfl,aP.s⟩
 refine wc_skip (qr (lv (rv_assign (v:=V6 1) rfl) (nr (lv (rv_loadmS (ds:=[V3 X Y aa,V3 ab ac ad]) tf46 rfl m7 aP rfl rfl) (mv rfl ?_)))))
 obtain⟨gZ,eg,eh⟩:=ob bj
 refine lk co28 ((ok_laws_heldSeg F (q0:=(GSeg.mk ((mkRow (stepGDoc F) (1:Int) ap.Docs).1) ((mkRow (stepGEntry F) (mkRow (stepGDoc F) (1:Int) ap.Docs).2 ap.Entries).1)))) aP.enter0 (SliceAt.mono ((((ae.le.trans au.le).trans ah.le).trans aK.le).trans bi.le) bN) (SliceAt.mono ((((ae.le.trans au.le).trans ah.le).trans aK.le).trans bi.le) bO) (by decide :rng64 1) eg) ?_
 rintro hc hd ⟨bk,rfl,ei,he⟩
 have bl:=(aP.c0 ei).t12
 refine av rfl (nsr (mv rfl (lv (rv_lss rfl rfl) (nq (wcc eh rfl (fun ej bm=>?_) (fun ej bm=>?_))))))
 ·refine sr (lv (r_f rfl) (nq (rr ?_)))
  cases oi bm
  exact ey results4 ⟨bk,rfl,bl.s⟩
 refine wc_skip (qs (sr (mv rfl (mv rfl (lv (rv_neq rfl rfl) (nq (wcc bm rfl (fun ek bn=>?_) (fun ek bn=>?_))))))))
 ·refine sr (lv (r_f rfl) (nq (rr ?_)))
  cases oi bn
  exact ey results4 ⟨bk,rfl,bl.s⟩
 refine wc_skip (qr (lv (r_t rfl) (nq (wc_ret ?_))))
 cases oi bn
 exact ey results4 ⟨bk,rfl,bl.s⟩
end Go.Proofs.YtpjefkdclnmlfaaGreat
