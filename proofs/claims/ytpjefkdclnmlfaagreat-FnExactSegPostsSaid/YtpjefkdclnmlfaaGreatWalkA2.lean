/-
 Walks of the functions. Printed by gen.py.
-/
import Derived.Test.YtpjefkdclnmlfaaGreatWalkA1
set_option linter.unusedVariables false
set_option linter.unusedSectionVars false
set_option maxRecDepth 100000
namespace Go.Proofs.YtpjefkdclnmlfaaGreat
set_option maxHeartbeats 4000000
open Go Go.Fk Go.RowKit Tryz
variable (F:Nat){w:World}{K:KMap}{Z:List Nat}{g1 g2 g3:Nat}{A B C D G H I J O R S T:Option Addr}{a b c d f i k l m n o p q s v x y aa ab ac ad ae af ag:Nat}
variable [dr:Dr]

theorem ok_laws_markPostS {B:List Nat}{KM:KMap}{q0:List GPost}{q1:Int}{r:Int}(hS:SH w K Z w K [mkI B KM])(d:SliceAt tGPost (KM.only B) A a b q0)(q:rng64 q1)(hm:M.laws_markPostS F q0 q1=some r):
  Calls prog 34 #[V3 A a b,V6 q1] w fun e w'=>∃K',e= .returned (V6 r)∧SH w K Z w' K' [mkI B KM]∧rng64 r:=by
 rw [M.laws_markPostS] at hm
 refine ci func34 u ntmps34 (sr (lv (r_0 u) (nsr (lv (r_0 u) (nq ?_)))))
 obtain⟨k,s,x⟩:=ob hm
 refine wc_cutg (IW w K Z K [(1,V6 k)] [mkI B KM] (rng64 k)) ?_ ?_
 ·refine wc_block ?_
  obtain⟨az,y,C⟩:=ob s
  refine qw (fun (c:Int×Int)=>IW w K Z K [(0,V3 A a b),(1,V6 c.1),(5,V6 c.2)] [mkI B KM] (rng64 c.1∧rng64 c.2)) y ⟨K,u,hS,kr,q,d_0⟩ ?_
  rintro c _ aA aB D G ⟨H,rfl,l,m,I,aC⟩
  refine wc_seq (sr (mv u (mv u (lv (rv_len underlying61 u d) (lv (rv_lss u u) (nq (wcc D u (fun J f=>?_) (fun J f=>?_))))))))
  ·refine wc_skip (qs (wc_block (sr (mv u (mv u (mv u ?_))))))
   obtain⟨O,R,S⟩:=ob f
   refine li underlying61 tf134 d R fun T U aD V W=>?_
   obtain⟨X,Y,aa,rfl,aE,aF⟩:=V
   have ab:AtK _ T U [V6 O.Doc,V3 X Y aa]:=W
   refine fa ff134_0 u (mk_store (v:=V6 c.1) wn tf3 u u u l (ab 0 _ u) u fun aG i=>(nr (mv u (lv (rv_add u u) (av u (nq (wc_region (mv u (mv u ?_)))))))))
   obtain⟨ac,ad,ae⟩:=ob S
   refine li underlying61 tf134 d ad fun af ag aH ah ai=>?_
   obtain⟨aj,ak,al,rfl,aI,am⟩:=ah
   have an:AtK _ af ag [V6 ac.Doc,V3 aj ak al]:=ai
   refine fa ff134_1 u (lv (mk_load tf71 u i (an 1 _ u)) (mv u ?_))
   obtain⟨aJ,ao,ap⟩:=ob ae
   refine lk co97 (ok_laws_markIntS F i.e1 am (w64_rng _) ao) ?_
   rintro aK aL ⟨aq,rfl,o,ar⟩
   have au:=(i.c1 o).t1
   refine av u (nb (qe_seq (wc_region (mv u (lv (rv_add u u) (av u (wl_nil ?_)))))))
   cases oi ap
   exact qd ⟨_,u,aq,u,au,(m.trans o.le),ar,(w64_rng _)⟩
  refine wc_exit (qe_then_exit (qe_then_exit ?_))
  cases oi f
  cases G _ u
  refine qe_block_eq ?_
  cases oi C
  exact qd ⟨H,u,l,m,I⟩
 rintro _ aM ⟨K9,rfl,ax,aN,ay⟩
 refine qr (mv u (av u (nq (wc_ret ?_))))
 cases oi x
 exact ey results34 ⟨K9,u,ax,ay⟩

theorem hx_laws_markPostS (F:Nat){w:World}{K:KMap}{a1:Option Addr}{n2 c3:Nat}{B f0:List Nat}{H:KMap}{p0_a:List GPost}{p1_k r:Int}(hS:SH w K (List.flatMap Item.gs [hp B H]) w K [hp B H])(hB0: ∀b∈f0,b∈B)(hN0:f0.Nodup)(ho0:RowO oPost H f0 (.slice a1 n2 c3) p0_a)(hr5:rng64 p1_k)(hm:M.laws_markPostS F p0_a p1_k=some r):
  Calls Tryz.prog 34 #[.slice a1 n2 c3,.int .i64 p1_k] w fun e w'=>∃(K' H':KMap),e= .returned (.int .i64 r)∧SH w K (List.flatMap Item.gs [hp B H]) w' K' [hp B H']∧rng64 r∧RowO oPost H' f0 (.slice a1 n2 c3) (mkRow (stepGPost F) p1_k p0_a).1∧r=(mkRow (stepGPost F) p1_k p0_a).2∧∀b,b∉f0→H' b=H b:=by
 rw [M.laws_markPostS] at hm
 refine calls_in Tryz.func34 rfl Tryz.ntmps34 rfl ?_
 refine sr ?_
 refine wl_val wn rfl (rv_assign (v:=.int .i64 0) rfl) ?_
 refine nsr ?_
 refine wl_val wn rfl (rv_assign (v:=.int .i64 0) rfl) ?_
 refine nq ?_
 obtain⟨o6,h7,h8⟩:=ob hm
 refine wc_cutg (fun E' w'=>∃(K9 H9:KMap),E'=[(1,.int .i64 o6)]∧SH w K (List.flatMap Item.gs [hp B H]) w' K9 [hp B H9]∧KLe K K9∧rng64 o6∧RowO oPost H9 f0 (.slice a1 n2 c3) (mkRow (stepGPost F) p1_k p0_a).1∧o6=(mkRow (stepGPost F) p1_k p0_a).2∧∀b,b∉f0→H9 b=H b) ?_ ?_
 ·refine wc_block ?_
  obtain⟨r15,h16,h17⟩:=ob h7
  refine wc_while' (fun (s14:Int×Int) E' w'=>∃(K18 H18:KMap) (i18:Nat),E'=[(0,.slice a1 n2 c3),(1,.int .i64 s14.1),(5,.int .i64 s14.2)]∧SH w K (List.flatMap Item.gs [hp B H]) w' K18 [hp B H18]∧KLe K K18∧rng64 s14.1∧rng64 s14.2∧s14.2=(i18:Int)∧s14.1=mkAt (stepGPost F) p1_k p0_a i18∧RowO oPost H18 f0 (.slice a1 n2 c3) (mkTo (stepGPost F) p1_k p0_a i18)∧∀b,b∉f0→H18 b=H b) h16 ⟨K,H,0,rfl,hS,(KLe.refl _),hr5,d_0,rfl,rfl,ho0,fun _ _=>rfl⟩ ⟨rfl,rfl,rfl,trivial⟩ ?_
  rintro s14 _ w20 r24 h25 hx26 ⟨K18,H18,i18,rfl,hS21,hl19,hr22,hr23,hj0,hk0,hoR,hsM⟩
  have hn0:n2=p0_a.length:=hoR.sl.1.trans mkTo_len
  refine wc_seq ?_
  refine sr ?_
  refine vm rfl rfl ?_
  refine vm rfl rfl ?_
  refine wl_val wn rfl (rv_lenRow Tryz.underlying61 rfl hn0) ?_
  refine wl_val wn rfl (rv_lss rfl rfl) ?_
  refine nq ?_
  refine wc_cond rfl (fun hb27=>?_) (fun hb27=>?_)
  ·have h28:=cond_t hb27 h25
   refine wc_skip ?_
   refine qs ?_
   refine wc_block ?_
   refine sr ?_
   refine vm rfl rfl ?_
   refine vm rfl rfl ?_
   refine vm rfl rfl ?_
   obtain⟨x29,hx30,h31⟩:=ob h28
   obtain⟨g0,fi0,u0,rfl,_,hgf0,hff0,hgn0,hfn0,hu0,hA0,hcl0⟩:=RowO.at hoR hN0 (mkTo_get (step:=(stepGPost F)) (k:=p1_k) hj0 hx30)
   obtain⟨v1,rfl,_,hor1⟩:=hu0
   obtain⟨av1,nv1,cv1,rfl⟩:=hor1.val
   have hE0:El H18 H18 g0 (s14.2.toNat*2) 2 fi0 [.int .i64 x29.Doc,.slice av1 nv1 cv1]:=El.start hA0
   refine wl_val wn rfl (rv_indexRow (t:=tGPost) (xs:=p0_a) Tryz.underlying61 tf134 rfl rfl hn0 hx30) ?_
   refine wl_val wn rfl (rv_fieldAddr ff134_0 rfl) ?_
   refine hp_store (v:=.int .i64 s14.1) wn tf3 (by exact rfl) rfl rfl hS21 (hB0 _ hgf0) (hE0.1 0 _ rfl) ?_
   intro w43 hSq0
   have hS44:SH _ _ _ _ _ [hp B (poke H18 g0 ((s14.2.toNat*2)+0) (.int .i64 s14.1))]:=hSq0
   have hE1:El H18 (poke H18 g0 ((s14.2.toNat*2)+0) (.int .i64 s14.1)) g0 (s14.2.toNat*2) 2 fi0 [.int .i64 s14.1,.slice av1 nv1 cv1]:=El.poke hE0 (by decide)
   have hor1_1:=RowO.poke (p:=(s14.2.toNat*2)+0) (u:=.int .i64 s14.1) hor1 hgn0
   have hsM1:=off_poke (p:=(s14.2.toNat*2)+0) (v:=.int .i64 s14.1) hsM hgf0
   refine nr ?_
   refine vm rfl rfl ?_
   refine wl_val wn rfl (rv_add rfl rfl) ?_
   refine va rfl rfl ?_
   refine nq ?_
   refine wc_region ?_
   refine vm rfl rfl ?_
   refine vm rfl rfl ?_
   obtain⟨x45,hx46,h47⟩:=ob h31
   have hxe45:x29=x45:=oi (hx30.symm.trans hx46)
   subst hxe45
   refine wl_val wn rfl (rv_indexRow (t:=tGPost) (xs:=p0_a) Tryz.underlying61 tf134 rfl rfl hn0 hx46) ?_
   refine wl_val wn rfl (rv_fieldAddr ff134_1 rfl) ?_
   refine wl_val wn rfl (hp_load tf71 (by exact rfl) hS44 (hB0 _ hgf0) (hE1.1 1 _ rfl)) ?_
   refine vm rfl rfl ?_
   obtain⟨r59,hx60,h61⟩:=ob h47
   refine wl_call wn rfl (rt_call (vs:=[.slice av1 nv1 cv1,.int .i64 (w64 (s14.1+(1:Int)))]) co97 rfl) ((hx_laws_markIntS F) (SH.enter (Lin:=[_]) hS44) (fun b hb=>hB0 b (hff0 b hb)) hfn0 hor1_1 (w64_rng _) hx60) ?_
   rintro e66 w63 ⟨K62,H62,rfl,hS64,hr65,hor1_2,hke1,hsm1⟩
   have hE2:El H18 H62 g0 (s14.2.toNat*2) 2 fi0 [.int .i64 s14.1,.slice av1 nv1 cv1]:=El.sub hE1 hgn0 (fun _ h=>h) hsm1
   have hsM2:=off_sub hsM1 hsm1 (fun b hb=>hff0 b ((fun _ h=>h) b hb))
   refine⟨_,rfl,?_⟩
   have hS67:SH _ _ _ _ _ [_]:=SH.call (Lin:=[_]) hS44 hS64
   refine va rfl rfl ?_
   refine nb ?_
   refine qe_seq ?_
   refine wc_region ?_
   refine vm rfl rfl ?_
   refine wl_val wn rfl (rv_add rfl rfl) ?_
   refine va rfl rfl ?_
   refine wl_nil ?_
   obtain rfl:=oi h61
   have hnx:=mkTo_next (step:=(stepGPost F)) (k:=p1_k) hj0 hx30
   rw [←hk0] at hnx
   have hro:=hcl0 H62 (.agg #[.int .i64 s14.1,.slice av1 nv1 cv1]) _ (show oPost.own _ fi0 _ (⟨s14.1,_⟩:GPost) from⟨_,rfl,hr22,hor1_2⟩) hE2.1 hE2.2
   obtain⟨ye,hye⟩: ∃y,y=stepGPost F s14.1 x29:=⟨_,rfl⟩
   rw [←hye] at hnx
   unfold stepGPost at hye
   rw [←hke1] at hye
   subst hye
   obtain⟨hn1,hn2,hn3⟩:=hnx
   have hmx:=Nat.le_trans (Nat.le_of_eq mkTo_len.symm) hoR.sl.max
   exact qe_mid' ⟨_,rfl,K62,H62,i18+1,rfl,hS67,(hl19.trans hS64.le),hr65,(w64_rng _),(by rw [hj0];exact w64_next (Nat.lt_of_lt_of_le hn3 hmx)),hn2,(by rw [←hn1];exact hro),hsM2⟩ ⟨rfl,rfl,rfl,trivial⟩
  ·have h28:=cond_f hb27 h25
   refine wc_exit ?_
   refine qe_then_exit ?_
   refine qe_then_exit ?_
   obtain rfl:=oi h28
   have e68:=hx26 _ rfl
   subst e68
   refine qe_block_eq ?_
   obtain rfl:=oi h17
   have hge0:p0_a.length≤i18:=by have:=of_decide_eq_false hb27;omega
   obtain⟨he1,he2⟩:=mkTo_end (step:=(stepGPost F)) (k:=p1_k) hge0
   rw [he1] at hoR
   rw [he2] at hk0
   exact qe_mid' ⟨K18,H18,rfl,hS21,hl19,hr22,hoR,hk0,hsM⟩ ⟨rfl,trivial⟩
 ·rintro _ w11 ⟨K9,H9,rfl,hS12,hl10,hr13,hoF,hkF,hsF⟩
  refine qr ?_
  refine vm rfl rfl ?_
  refine va rfl rfl ?_
  refine nq ?_
  refine wc_ret ?_
  obtain rfl:=oi h8
  exact qe_ret (vs:=[_]) Tryz.results34 ⟨rfl,trivial⟩ ⟨K9,H9,rfl,hS12,hr13,hoF,hkF,hsF⟩

theorem xo_laws_markPostS (F:Nat){w0 w:World}{K0 K:KMap}{L:List Fk.Item}{f0:List Nat}{a:Option Addr}{n c:Nat}{xs:List GPost}{k r:Int}(h0:Holds K0 w0)(hS:SH w0 K0 [] w K (bag f0::L))(ho:RowO oPost K f0 (.slice a n c) xs)(hk:rng64 k)(hm:M.laws_markPostS F xs k=some r):
  Calls Tryz.prog 34 #[.slice a n c,.int .i64 k] w fun e w'=>∃(K':KMap),e= .returned (.int .i64 r)∧SH w0 K0 [] w' K' (bag f0::L)∧RowO oPost K' f0 (.slice a n c) (mkRow (stepGPost F) k xs).1∧KLe (K.but f0) K'∧rng64 r∧r=(mkRow (stepGPost F) k xs).2:=
 omark_call h0 hS fun h1=>hx_laws_markPostS F h1 (fun _ h=>h) hS.bag_nodup ho hk hm

theorem ok_laws_markEntryS {B:List Nat}{KM:KMap}{q0:List GEntry}{q1:Int}{r:Int}(hS:SH w K Z w K [mkI B KM])(d:SliceAt tGEntry (KM.only B) A a b q0)(H:rng64 q1)(hm:M.laws_markEntryS F q0 q1=some r):
  Calls prog 87 #[V3 A a b,V6 q1] w fun e w'=>∃K',e= .returned (V6 r)∧SH w K Z w' K' [mkI B KM]∧rng64 r:=by
 rw [M.laws_markEntryS] at hm
 refine ci func87 u ntmps87 (sr (lv (r_0 u) (nsr (lv (r_0 u) (nq ?_)))))
 obtain⟨l,I,J⟩:=ob hm
 refine wc_cutg (IW w K Z K [(1,V6 l)] [mkI B KM] (rng64 l)) ?_ ?_
 ·refine wc_block ?_
  obtain⟨aV,O,R⟩:=ob I
  refine qw (fun (c:Int×Int)=>IW w K Z K [(0,V3 A a b),(1,V6 c.1),(5,V6 c.2)] [mkI B KM] (rng64 c.1∧rng64 c.2)) O ⟨K,u,hS,kr,H,d_0⟩ ?_
  rintro c _ aW aX S T ⟨U,rfl,f,m,o,aY⟩
  refine wc_seq (sr (mv u (mv u (lv (rv_len underlying44 u d) (lv (rv_lss u u) (nq (wcc S u (fun V i=>?_) (fun V i=>?_))))))))
  ·refine wc_skip (qs (wc_block (sr (mv u (mv u (mv u ?_))))))
   obtain⟨W,X,Y⟩:=ob i
   refine lk co160 (ok_laws_markText F f.enter0 o X) ?_
   rintro aZ ba ⟨bb,rfl,q,bc⟩
   have aa:=(f.c0 q).t1
   obtain⟨s,ab,ac⟩:=ob Y
   refine li underlying44 tf116 d ab fun ad ae bd af ag=>?_
   obtain⟨ah,ai,aj,rfl,be,bf,bg⟩:=af
   have ak:AtK _ ad ae [sv s.Field,sv s.Term,V3 ah ai aj]:=ag
   refine fa ff116_0 u (mk_store (v:=sv W) wn tf9 u u u aa (ak 0 _ u) u fun bh x=>(nr (mv u (lv (rv_add u u) (av u (nr (mv u (mv u (mv u ?_)))))))))
   obtain⟨al,am,an⟩:=ob ac
   refine lk co160 (ok_laws_markText F x.enter0 (w64_rng _) am) ?_
   rintro bi bj ⟨bk,rfl,y,bl⟩
   have ao:=(x.c0 y).t1
   obtain⟨C,ap,aq⟩:=ob an
   refine li underlying44 tf116 d ap fun ar au bm aw ax=>?_
   obtain⟨ay,az,aA,rfl,bn,bo,bp⟩:=aw
   have aB:AtK _ ar au [sv C.Field,sv C.Term,V3 ay az aA]:=ax
   refine fa ff116_1 u (mk_store (v:=sv al) wn tf9 u u u ao (aB 1 _ u) u fun bq k=>(nr (mv u (lv (rv_add u u) (av u (nq (wc_region (mv u (mv u ?_)))))))))
   obtain⟨D,aC,aD⟩:=ob aq
   refine li underlying44 tf116 d aC fun aE aF br aG aH=>?_
   obtain⟨aI,aJ,aK,rfl,bs,bu,aL⟩:=aG
   have aM:AtK _ aE aF [sv D.Field,sv D.Term,V3 aI aJ aK]:=aH
   refine fa ff116_2 u (lv (mk_load tf61 u k (aM 2 _ u)) (mv u ?_))
   obtain⟨bv,aN,aO⟩:=ob aD
   refine lk co34 (ok_laws_markPostS F k.e1 aL (w64_rng _) aN) ?_
   rintro bx bz ⟨aP,rfl,G,aQ⟩
   have aR:=(k.c1 G).t1
   refine av u (nb (qe_seq (wc_region (mv u (lv (rv_add u u) (av u (wl_nil ?_)))))))
   cases oi aO
   exact qd ⟨_,u,aP,u,aR,(((m.trans q.le).trans y.le).trans G.le),aQ,(w64_rng _)⟩
  refine wc_exit (qe_then_exit (qe_then_exit ?_))
  cases oi i
  cases T _ u
  refine qe_block_eq ?_
  cases oi R
  exact qd ⟨U,u,f,m,o⟩
 rintro _ bA ⟨K9,rfl,aT,bB,aU⟩
 refine qr (mv u (av u (nq (wc_ret ?_))))
 cases oi J
 exact ey results87 ⟨K9,u,aT,aU⟩

theorem ok_laws_markSeg {B:List Nat}{KM:KMap}{q0:GSeg}{q1:Int}{r:Int}(hS:SH w K Z w K [mkI B KM])(l:SliceAt tGDoc (KM.only B) A a b q0.Docs)(m:SliceAt tGEntry (KM.only B) C c d q0.Entries)(o:rng64 q1)(hm:M.laws_markSeg F q0 q1=some r):
  Calls prog 27 #[.agg #[V3 A a b,V3 C c d],V6 q1] w fun e w'=>∃K',e= .returned (V6 r)∧SH w K Z w' K' [mkI B KM]∧rng64 r:=by
 rw [M.laws_markSeg] at hm
 refine ci func27 u ntmps27 (sr (bx u hS fun q T s=>?_))
 have i:SH _ _ _ _ _ [obj q [V3 A a b,V3 C c d] 46,_]:=s
 refine lv (r_0 u) (nr (fl ff46_0 u tf43 m0 i u (mv u ?_)))
 obtain⟨U,x,y⟩:=ob hm
 have k:=i.f1
 refine lk co26 (ok_laws_markDocS F k.e1 l o x) ?_
 rintro V W ⟨X,rfl,D,G⟩
 have f:=(k.c1 D).t2
 refine av u (nr (fl ff46_1 u tf44 m1 f u (mv u ?_)))
 obtain⟨Y,H,I⟩:=ob y
 refine lk co87 (ok_laws_markEntryS F f.e1 m G H) ?_
 rintro aa ab ⟨J,rfl,O,R⟩
 have S:=(f.c1 O).t2
 refine av u (nr (mv u (av u (nq (wc_ret ?_)))))
 cases oi I
 exact ey results27 ⟨J,u,S.s,R⟩

theorem ok_laws_szField {q0:GField}{q1:Int}{r:Int}(hS:SH w K [] w K [])(q:q0.Name.length≤maxLen)(s:q0.Text.length≤maxLen)(x:rng64 q1)(hm:M.laws_szField F q0 q1=some r):
  Calls prog 190 #[.agg #[sv q0.Name,sv q0.Text],V6 q1] w (R_i w K r):=by
 rw [M.laws_szField] at hm
 refine ci func190 u ntmps190 (sr (bx u hS fun i y k=>?_))
 have a:SH _ _ _ _ _ [obj i [sv q0.Name,sv q0.Text] 223]:=k
 refine lv (r_0 u) (nr (mv u (fl ff223_0 u tf9 m0 a u (lv (rv_slen underlying9 u) (lv (rv_sub u u) (av u (nsr (mv u (lv (rv_lss u u) ?_)))))))))
 refine nq (wc_cond u (fun b=>?_) (fun b=>?_))
 ·have c:=cond_t b hm
  refine sr (lv (rv_assign (v:=V6 (-1)) u) (nq (rr ?_)))
  cases oi c
  exact ey results190 ⟨K,u,a.s,(by decide :rng64 (-1))⟩
 have c:=cond_f b hm
 refine wc_skip (qr (mv u (fl ff223_1 u tf9 m0 a u (lv (rv_slen underlying9 u) (lv (rv_sub u u) ?_)))))
 obtain⟨A,l,m⟩:=ob c
 have f:=oi l
 refine lv (rv_as u (congrArg (Value.int .i64) f)) (nsr (mv u (lv (rv_lss u u) (nq (wcc m u (fun o d=>?_) (fun o d=>?_))))))
 ·refine sr (lv (rv_assign (v:=V6 (-1)) u) (nq (rr ?_)))
  cases oi d
  exact ey results190 ⟨K,u,a.s,(by decide :rng64 (-1))⟩
 refine wc_skip (qr (mv u (av u (nq (wc_ret ?_)))))
 cases oi d
 exact ey results190 ⟨K,u,a.s,(cast_rng f (w64_rng _))⟩

theorem ok_laws_szFieldS {q0:List GField}{q1:Int}{r:Int}(hS:SH w K [] w K [])(m:SliceAt tGField K A a b q0)(al:rng64 q1)(hm:M.laws_szFieldS F q0 q1=some r):
  Calls prog 134 #[V3 A a b,V6 q1] w (R_i w K r):=by
 rw [M.laws_szFieldS] at hm
 refine ci func134 u ntmps134 (sr (lv (r_0 u) (nr (mv u (mv u (lv (rv_len underlying99 u m) (lv (rv_sub u u) (av u (nsr ?_)))))))))
 refine mv u (lv (rv_lss u u) (nq (wc_cond u (fun o=>?_) (fun o=>?_))))
 ·have q:=cond_t o hm
  refine sr (lv (rv_assign (v:=V6 (-1)) u) (nq (rr ?_)))
  cases oi q
  exact ey results134 ⟨K,u,hS,(by decide :rng64 (-1))⟩
 have q:=cond_f o hm
 refine wc_skip (qs (sr (lv (r_0 u) (nq ?_))))
 obtain⟨J,O,d⟩:=ob q
 refine wc_cutg (fun E' w'=>∃f i,J= .inl f∧E'=[(1,V6 f)]∧SH w K [] w' i []∧KLe K i∧rng64 f) ?_ ?_
 ·refine wc_block ?_
  obtain⟨am,R,y⟩:=ob O
  refine qw (fun (c:Int×Int)=>IW w K [] K [(0,V3 A a b),(1,V6 c.1),(5,V6 c.2)] [] (rng64 c.1∧rng64 c.2)) R ⟨K,u,hS,kr,(w64_rng _),d_0⟩ ?_
  rintro c _ an ao S B ⟨T,rfl,k,l,C,ap⟩
  refine wc_seq (sr (mv u (mv u (lv (rv_len underlying99 u (m.mono l)) (lv (rv_lss u u) (nq (wcc S u (fun U s=>?_) (fun U s=>?_))))))))
  ·refine wc_skip (qs (wc_block (sr (mv u (mv u ?_)))))
   obtain⟨D,V,W⟩:=ob s
   refine li underlying99 tf223 (m.mono l) V fun X Y aq aa ab=>?_
   obtain⟨rfl,ac,ad⟩:=aa
   have ae:AtK _ X Y [sv D.Name,sv D.Text]:=ab
   refine lv (rv_loadS tf223 u k ae u) (mv u ?_)
   obtain⟨ar,af,ag⟩:=ob W
   refine lk co190 (ok_laws_szField F k.enter0 ac ad C af) ?_
   rintro au aw ⟨G,rfl,H,ah⟩
   have I:=(k.c0 H).t0
   refine av u (nr (mv u (lv (rv_lss u u) (nq (wcc ag u (fun ai x=>?_) (fun ai x=>?_))))))
   ·refine sr (lv (rv_assign (v:=V6 (-1)) u) (nq (wc_ret (qe_block_ret (qe_then_ret (qe_then_ret ?_))))))
    cases oi x
    cases B _ u
    refine qe_block_ret (qe_then_ret ?_)
    cases oi y
    refine qe_then_ret ?_
    cases oi d
    exact ey results134 ⟨G,u,I,(by decide :rng64 (-1))⟩
   refine wc_skip (qe_block (qe_seq (wc_region (mv u (lv (rv_add u u) (av u (wl_nil ?_)))))))
   cases oi x
   exact qd ⟨_,u,G,u,I,(l.trans H.le),ah,(w64_rng _)⟩
  refine wc_exit (qe_then_exit (qe_then_exit ?_))
  cases oi s
  cases B _ u
  refine qe_block_eq ?_
  cases oi y
  exact qd ⟨_,T,u,u,k,l,C⟩
 rintro _ ax ⟨f,i,rfl,rfl,aj,ay,ak⟩
 have d:=elim_l d
 refine qr (mv u (av u (nq (wc_ret ?_))))
 cases oi d
 exact ey results134 ⟨i,u,aj,ak⟩

theorem ok_laws_szAttr {q0:GAttr}{q1:Int}{r:Int}(hS:SH w K [] w K [])(i:q0.Name.length≤maxLen)(k:rng64 q0.Num)(l:rng64 q1)(hm:M.laws_szAttr F q0 q1=some r):
  Calls prog 191 #[.agg #[sv q0.Name,V6 q0.Num],V6 q1] w (R_i w K r):=by
 rw [M.laws_szAttr] at hm
 refine ci func191 u ntmps191 (sr (bx u hS fun d m f=>?_))
 have a:SH _ _ _ _ _ [obj d [sv q0.Name,V6 q0.Num] 225]:=f
 refine lv (r_0 u) (nr (mv u (fl ff225_0 u tf9 m0 a u (lv (rv_slen underlying9 u) (lv (rv_sub u u) (av u (nsr (mv u (lv (rv_lss u u) ?_)))))))))
 refine nq (wc_cond u (fun b=>?_) (fun b=>?_))
 ·have c:=cond_t b hm
  refine sr (lv (rv_assign (v:=V6 (-1)) u) (nq (rr ?_)))
  cases oi c
  exact ey results191 ⟨K,u,a.s,(by decide :rng64 (-1))⟩
 have c:=cond_f b hm
 refine wc_skip (qr (mv u (av u (nq (wc_ret ?_)))))
 cases oi c
 exact ey results191 ⟨K,u,a.s,(w64_rng _)⟩

theorem ok_laws_szAttrS {q0:List GAttr}{q1:Int}{r:Int}(hS:SH w K [] w K [])(m:SliceAt tGAttr K A a b q0)(al:rng64 q1)(hm:M.laws_szAttrS F q0 q1=some r):
  Calls prog 135 #[V3 A a b,V6 q1] w (R_i w K r):=by
 rw [M.laws_szAttrS] at hm
 refine ci func135 u ntmps135 (sr (lv (r_0 u) (nr (mv u (mv u (lv (rv_len underlying100 u m) (lv (rv_sub u u) (av u (nsr ?_)))))))))
 refine mv u (lv (rv_lss u u) (nq (wc_cond u (fun o=>?_) (fun o=>?_))))
 ·have q:=cond_t o hm
  refine sr (lv (rv_assign (v:=V6 (-1)) u) (nq (rr ?_)))
  cases oi q
  exact ey results135 ⟨K,u,hS,(by decide :rng64 (-1))⟩
 have q:=cond_f o hm
 refine wc_skip (qs (sr (lv (r_0 u) (nq ?_))))
 obtain⟨J,O,d⟩:=ob q
 refine wc_cutg (fun E' w'=>∃f i,J= .inl f∧E'=[(1,V6 f)]∧SH w K [] w' i []∧KLe K i∧rng64 f) ?_ ?_
 ·refine wc_block ?_
  obtain⟨am,R,y⟩:=ob O
  refine qw (fun (c:Int×Int)=>IW w K [] K [(0,V3 A a b),(1,V6 c.1),(5,V6 c.2)] [] (rng64 c.1∧rng64 c.2)) R ⟨K,u,hS,kr,(w64_rng _),d_0⟩ ?_
  rintro c _ an ao S B ⟨T,rfl,k,l,C,ap⟩
  refine wc_seq (sr (mv u (mv u (lv (rv_len underlying100 u (m.mono l)) (lv (rv_lss u u) (nq (wcc S u (fun U s=>?_) (fun U s=>?_))))))))
  ·refine wc_skip (qs (wc_block (sr (mv u (mv u ?_)))))
   obtain⟨D,V,W⟩:=ob s
   refine li underlying100 tf225 (m.mono l) V fun X Y aq aa ab=>?_
   obtain⟨rfl,ac,ad⟩:=aa
   have ae:AtK _ X Y [sv D.Name,V6 D.Num]:=ab
   refine lv (rv_loadS tf225 u k ae u) (mv u ?_)
   obtain⟨ar,af,ag⟩:=ob W
   refine lk co191 (ok_laws_szAttr F k.enter0 ac ad C af) ?_
   rintro au aw ⟨G,rfl,H,ah⟩
   have I:=(k.c0 H).t0
   refine av u (nr (mv u (lv (rv_lss u u) (nq (wcc ag u (fun ai x=>?_) (fun ai x=>?_))))))
   ·refine sr (lv (rv_assign (v:=V6 (-1)) u) (nq (wc_ret (qe_block_ret (qe_then_ret (qe_then_ret ?_))))))
    cases oi x
    cases B _ u
    refine qe_block_ret (qe_then_ret ?_)
    cases oi y
    refine qe_then_ret ?_
    cases oi d
    exact ey results135 ⟨G,u,I,(by decide :rng64 (-1))⟩
   refine wc_skip (qe_block (qe_seq (wc_region (mv u (lv (rv_add u u) (av u (wl_nil ?_)))))))
   cases oi x
   exact qd ⟨_,u,G,u,I,(l.trans H.le),ah,(w64_rng _)⟩
  refine wc_exit (qe_then_exit (qe_then_exit ?_))
  cases oi s
  cases B _ u
  refine qe_block_eq ?_
  cases oi y
  exact qd ⟨_,T,u,u,k,l,C⟩
 rintro _ ax ⟨f,i,rfl,rfl,aj,ay,ak⟩
 have d:=elim_l d
 refine qr (mv u (av u (nq (wc_ret ?_))))
 cases oi d
 exact ey results135 ⟨i,u,aj,ak⟩

theorem ok_laws_szDoc {q0:GDoc}{q1:Int}{r:Int}(hS:SH w K [] w K [])(W:rng64 q0.Id)(s:SliceAt tGField K A a b q0.Fields)(x:SliceAt tGAttr K B c d q0.Nums)(y:rng64 q1)(hm:M.laws_szDoc F q0 q1=some r):
  Calls prog 65 #[.agg #[V6 q0.Id,V3 A a b,V3 B c d],V6 q1] w (R_i w K r):=by
 rw [M.laws_szDoc] at hm
 refine ci func65 u ntmps65 (sr (bx u hS fun C X D=>?_))
 have i:SH _ _ _ _ _ [obj C [V6 q0.Id,V3 A a b,V3 B c d] 102]:=D
 refine lv (r_0 u) (nr (fl ff102_1 u tf99 m0 i u (mv u ?_)))
 obtain⟨Y,G,H⟩:=ob hm
 refine lk co134 (ok_laws_szFieldS F i.enter0 s y G) ?_
 rintro aa ab ⟨I,rfl,m,J⟩
 have f:=(i.c0 m).t1
 refine av u (nsr (mv u (lv (rv_lss u u) (nq (wcc H u (fun O k=>?_) (fun O k=>?_))))))
 ·refine sr (lv (rv_assign (v:=V6 (-1)) u) (nq (rr ?_)))
  cases oi k
  exact ey results65 ⟨I,u,f.s,(by decide :rng64 (-1))⟩
 refine wc_skip (qr (fl ff102_2 u tf100 m0 f u (mv u ?_)))
 obtain⟨ac,R,S⟩:=ob k
 refine lk co135 (ok_laws_szAttrS F f.enter0 (x.mono m.le) J R) ?_
 rintro ad ae ⟨o,rfl,T,U⟩
 have q:=(f.c0 T).t1
 refine av u (nsr (mv u (lv (rv_lss u u) (nq (wcc S u (fun V l=>?_) (fun V l=>?_))))))
 ·refine sr (lv (rv_assign (v:=V6 (-1)) u) (nq (rr ?_)))
  cases oi l
  exact ey results65 ⟨o,u,q.s,(by decide :rng64 (-1))⟩
 refine wc_skip (qr (mv u (av u (nq (wc_ret ?_)))))
 cases oi l
 exact ey results65 ⟨o,u,q.s,U⟩

theorem ok_laws_szDocS {q0:List GDoc}{q1:Int}{r:Int}(hS:SH w K [] w K [])(m:SliceAt tGDoc K A a b q0)(au:rng64 q1)(hm:M.laws_szDocS F q0 q1=some r):
  Calls prog 17 #[V3 A a b,V6 q1] w (R_i w K r):=by
 rw [M.laws_szDocS] at hm
 refine ci func17 u ntmps17 (sr (lv (r_0 u) (nr (mv u (mv u (lv (rv_len underlying40 u m) (lv (rv_sub u u) (av u (nsr ?_)))))))))
 refine mv u (lv (rv_lss u u) (nq (wc_cond u (fun o=>?_) (fun o=>?_))))
 ·have q:=cond_t o hm
  refine sr (lv (rv_assign (v:=V6 (-1)) u) (nq (rr ?_)))
  cases oi q
  exact ey results17 ⟨K,u,hS,(by decide :rng64 (-1))⟩
 have q:=cond_f o hm
 refine wc_skip (qs (sr (lv (r_0 u) (nq ?_))))
 obtain⟨I,J,d⟩:=ob q
 refine wc_cutg (fun E' w'=>∃f i,I= .inl f∧E'=[(1,V6 f)]∧SH w K [] w' i []∧KLe K i∧rng64 f) ?_ ?_
 ·refine wc_block ?_
  obtain⟨aw,O,y⟩:=ob J
  refine qw (fun (c:Int×Int)=>IW w K [] K [(0,V3 A a b),(1,V6 c.1),(5,V6 c.2)] [] (rng64 c.1∧rng64 c.2)) O ⟨K,u,hS,kr,(w64_rng _),d_0⟩ ?_
  rintro c _ ax ay R B ⟨S,rfl,k,l,C,az⟩
  refine wc_seq (sr (mv u (mv u (lv (rv_len underlying40 u (m.mono l)) (lv (rv_lss u u) (nq (wcc R u (fun T s=>?_) (fun T s=>?_))))))))
  ·refine wc_skip (qs (wc_block (sr (mv u (mv u ?_)))))
   obtain⟨U,V,W⟩:=ob s
   refine li underlying40 tf102 (m.mono l) V fun X Y aA aa ab=>?_
   obtain⟨ac,ad,ae,af,ag,ah,rfl,ai,aj,ak⟩:=aa
   have al:AtK _ X Y [V6 U.Id,V3 ac ad ae,V3 af ag ah]:=ab
   refine lv (rv_loadS tf102 u k al u) (mv u ?_)
   obtain⟨aB,am,an⟩:=ob W
   refine lk co65 (ok_laws_szDoc F k.enter0 ai aj ak C am) ?_
   rintro aC aD ⟨D,rfl,G,ao⟩
   have H:=(k.c0 G).t0
   refine av u (nr (mv u (lv (rv_lss u u) (nq (wcc an u (fun ap x=>?_) (fun ap x=>?_))))))
   ·refine sr (lv (rv_assign (v:=V6 (-1)) u) (nq (wc_ret (qe_block_ret (qe_then_ret (qe_then_ret ?_))))))
    cases oi x
    cases B _ u
    refine qe_block_ret (qe_then_ret ?_)
    cases oi y
    refine qe_then_ret ?_
    cases oi d
    exact ey results17 ⟨D,u,H,(by decide :rng64 (-1))⟩
   refine wc_skip (qe_block (qe_seq (wc_region (mv u (lv (rv_add u u) (av u (wl_nil ?_)))))))
   cases oi x
   exact qd ⟨_,u,D,u,H,(l.trans G.le),ao,(w64_rng _)⟩
  refine wc_exit (qe_then_exit (qe_then_exit ?_))
  cases oi s
  cases B _ u
  refine qe_block_eq ?_
  cases oi y
  exact qd ⟨_,S,u,u,k,l,C⟩
 rintro _ aE ⟨f,i,rfl,rfl,aq,aF,ar⟩
 have d:=elim_l d
 refine qr (mv u (av u (nq (wc_ret ?_))))
 cases oi d
 exact ey results17 ⟨i,u,aq,ar⟩

theorem ok_laws_szIntS {q0:List Int}{q1:Int}{r:Int}(hS:SH w K [] w K [])(f:SliceAt tInt K A a b q0)(i:rng64 q1)(hm:M.laws_szIntS F q0 q1=some r):
  Calls prog 183 #[V3 A a b,V6 q1] w (R_i w K r):=by
 rw [M.laws_szIntS] at hm
 refine ci func183 u ntmps183 (sr (lv (r_0 u) (nr (mv u (mv u (lv (rv_len underlying71 u f) (lv (rv_sub u u) (av u (nsr ?_)))))))))
 refine mv u (lv (rv_lss u u) (nq (wc_cond u (fun c=>?_) (fun c=>?_))))
 ·have d:=cond_t c hm
  refine sr (lv (rv_assign (v:=V6 (-1)) u) (nq (rr ?_)))
  cases oi d
  exact ey results183 ⟨K,u,hS,(by decide :rng64 (-1))⟩
 have d:=cond_f c hm
 refine wc_skip (qr (mv u (av u (nq (wc_ret ?_)))))
 cases oi d
 exact ey results183 ⟨K,u,hS,(w64_rng _)⟩

theorem ok_laws_szPost {q0:GPost}{q1:Int}{r:Int}(hS:SH w K [] w K [])(C:rng64 q0.Doc)(k:SliceAt tInt K A a b q0.At)(l:rng64 q1)(hm:M.laws_szPost F q0 q1=some r):
  Calls prog 244 #[.agg #[V6 q0.Doc,V3 A a b],V6 q1] w (R_i w K r):=by
 rw [M.laws_szPost] at hm
 refine ci func244 u ntmps244 (sr (bx u hS fun m D o=>?_))
 have c:SH _ _ _ _ _ [obj m [V6 q0.Doc,V3 A a b] 268]:=o
 refine lv (r_0 u) (nr (fl ff268_1 u tf71 m0 c u (mv u ?_)))
 obtain⟨G,q,s⟩:=ob hm
 refine lk co183 (ok_laws_szIntS F c.enter0 k l q) ?_
 rintro H I ⟨f,rfl,x,y⟩
 have i:=(c.c0 x).t1
 refine av u (nsr (mv u (lv (rv_lss u u) (nq (wcc s u (fun B d=>?_) (fun B d=>?_))))))
 ·refine sr (lv (rv_assign (v:=V6 (-1)) u) (nq (rr ?_)))
  cases oi d
  exact ey results244 ⟨f,u,i.s,(by decide :rng64 (-1))⟩
 refine wc_skip (qr (mv u (av u (nq (wc_ret ?_)))))
 cases oi d
 exact ey results244 ⟨f,u,i.s,y⟩

theorem ok_laws_szPostS {q0:List GPost}{q1:Int}{r:Int}(hS:SH w K [] w K [])(m:SliceAt tGPost K A a b q0)(ao:rng64 q1)(hm:M.laws_szPostS F q0 q1=some r):
  Calls prog 214 #[V3 A a b,V6 q1] w (R_i w K r):=by
 rw [M.laws_szPostS] at hm
 refine ci func214 u ntmps214 (sr (lv (r_0 u) (nr (mv u (mv u (lv (rv_len underlying199 u m) (lv (rv_sub u u) (av u (nsr ?_)))))))))
 refine mv u (lv (rv_lss u u) (nq (wc_cond u (fun o=>?_) (fun o=>?_))))
 ·have q:=cond_t o hm
  refine sr (lv (rv_assign (v:=V6 (-1)) u) (nq (rr ?_)))
  cases oi q
  exact ey results214 ⟨K,u,hS,(by decide :rng64 (-1))⟩
 have q:=cond_f o hm
 refine wc_skip (qs (sr (lv (r_0 u) (nq ?_))))
 obtain⟨I,J,d⟩:=ob q
 refine wc_cutg (fun E' w'=>∃f i,I= .inl f∧E'=[(1,V6 f)]∧SH w K [] w' i []∧KLe K i∧rng64 f) ?_ ?_
 ·refine wc_block ?_
  obtain⟨ap,O,y⟩:=ob J
  refine qw (fun (c:Int×Int)=>IW w K [] K [(0,V3 A a b),(1,V6 c.1),(5,V6 c.2)] [] (rng64 c.1∧rng64 c.2)) O ⟨K,u,hS,kr,(w64_rng _),d_0⟩ ?_
  rintro c _ aq ar R B ⟨S,rfl,k,l,C,au⟩
  refine wc_seq (sr (mv u (mv u (lv (rv_len underlying199 u (m.mono l)) (lv (rv_lss u u) (nq (wcc R u (fun T s=>?_) (fun T s=>?_))))))))
  ·refine wc_skip (qs (wc_block (sr (mv u (mv u ?_)))))
   obtain⟨U,V,W⟩:=ob s
   refine li underlying199 tf268 (m.mono l) V fun X Y aw aa ab=>?_
   obtain⟨ac,ad,ae,rfl,af,ag⟩:=aa
   have ah:AtK _ X Y [V6 U.Doc,V3 ac ad ae]:=ab
   refine lv (rv_loadS tf268 u k ah u) (mv u ?_)
   obtain⟨ax,ai,aj⟩:=ob W
   refine lk co244 (ok_laws_szPost F k.enter0 af ag C ai) ?_
   rintro ay az ⟨D,rfl,G,ak⟩
   have H:=(k.c0 G).t0
   refine av u (nr (mv u (lv (rv_lss u u) (nq (wcc aj u (fun al x=>?_) (fun al x=>?_))))))
   ·refine sr (lv (rv_assign (v:=V6 (-1)) u) (nq (wc_ret (qe_block_ret (qe_then_ret (qe_then_ret ?_))))))
    cases oi x
    cases B _ u
    refine qe_block_ret (qe_then_ret ?_)
    cases oi y
    refine qe_then_ret ?_
    cases oi d
    exact ey results214 ⟨D,u,H,(by decide :rng64 (-1))⟩
   refine wc_skip (qe_block (qe_seq (wc_region (mv u (lv (rv_add u u) (av u (wl_nil ?_)))))))
   cases oi x
   exact qd ⟨_,u,D,u,H,(l.trans G.le),ak,(w64_rng _)⟩
  refine wc_exit (qe_then_exit (qe_then_exit ?_))
  cases oi s
  cases B _ u
  refine qe_block_eq ?_
  cases oi y
  exact qd ⟨_,S,u,u,k,l,C⟩
 rintro _ aA ⟨f,i,rfl,rfl,am,aB,an⟩
 have d:=elim_l d
 refine qr (mv u (av u (nq (wc_ret ?_))))
 cases oi d
 exact ey results214 ⟨i,u,am,an⟩

theorem ok_laws_szEntry {q0:GEntry}{q1:Int}{r:Int}(hS:SH w K [] w K [])(O:q0.Field.length≤maxLen)(R:q0.Term.length≤maxLen)(q:SliceAt tGPost K A a b q0.Posts)(S:rng64 q1)(hm:M.laws_szEntry F q0 q1=some r):
  Calls prog 161 #[.agg #[sv q0.Field,sv q0.Term,V3 A a b],V6 q1] w (R_i w K r):=by
 rw [M.laws_szEntry] at hm
 refine ci func161 u ntmps161 (sr (bx u hS fun s T x=>?_))
 have c:SH _ _ _ _ _ [obj s [sv q0.Field,sv q0.Term,V3 A a b] 201]:=x
 refine lv (r_0 u) (nr (mv u (fl ff201_0 u tf9 m0 c u (lv (rv_slen underlying9 u) (lv (rv_sub u u) (av u (nsr (mv u (lv (rv_lss u u) ?_)))))))))
 refine nq (wc_cond u (fun d=>?_) (fun d=>?_))
 ·have f:=cond_t d hm
  refine sr (lv (rv_assign (v:=V6 (-1)) u) (nq (rr ?_)))
  cases oi f
  exact ey results161 ⟨K,u,c.s,(by decide :rng64 (-1))⟩
 have f:=cond_f d hm
 refine wc_skip (qr (mv u (fl ff201_1 u tf9 m0 c u (lv (rv_slen underlying9 u) (lv (rv_sub u u) ?_)))))
 obtain⟨U,y,B⟩:=ob f
 have l:=oi y
 refine lv (rv_as u (congrArg (Value.int .i64) l)) (nsr (mv u (lv (rv_lss u u) (nq (wcc B u (fun C i=>?_) (fun C i=>?_))))))
 ·refine sr (lv (rv_assign (v:=V6 (-1)) u) (nq (rr ?_)))
  cases oi i
  exact ey results161 ⟨K,u,c.s,(by decide :rng64 (-1))⟩
 refine wc_skip (qr (fl ff201_2 u tf199 m0 c u (mv u ?_)))
 obtain⟨V,D,G⟩:=ob i
 refine lk co214 (ok_laws_szPostS F c.enter0 q (cast_rng l (w64_rng _)) D) ?_
 rintro W X ⟨m,rfl,H,I⟩
 have o:=(c.c0 H).t1
 refine av u (nsr (mv u (lv (rv_lss u u) (nq (wcc G u (fun J k=>?_) (fun J k=>?_))))))
 ·refine sr (lv (rv_assign (v:=V6 (-1)) u) (nq (rr ?_)))
  cases oi k
  exact ey results161 ⟨m,u,o.s,(by decide :rng64 (-1))⟩
 refine wc_skip (qr (mv u (av u (nq (wc_ret ?_)))))
 cases oi k
 exact ey results161 ⟨m,u,o.s,I⟩

theorem ok_laws_szEntryS {q0:List GEntry}{q1:Int}{r:Int}(hS:SH w K [] w K [])(m:SliceAt tGEntry K A a b q0)(ap:rng64 q1)(hm:M.laws_szEntryS F q0 q1=some r):
  Calls prog 89 #[V3 A a b,V6 q1] w (R_i w K r):=by
 rw [M.laws_szEntryS] at hm
 refine ci func89 u ntmps89 (sr (lv (r_0 u) (nr (mv u (mv u (lv (rv_len underlying57 u m) (lv (rv_sub u u) (av u (nsr ?_)))))))))
 refine mv u (lv (rv_lss u u) (nq (wc_cond u (fun o=>?_) (fun o=>?_))))
 ·have q:=cond_t o hm
  refine sr (lv (rv_assign (v:=V6 (-1)) u) (nq (rr ?_)))
  cases oi q
  exact ey results89 ⟨K,u,hS,(by decide :rng64 (-1))⟩
 have q:=cond_f o hm
 refine wc_skip (qs (sr (lv (r_0 u) (nq ?_))))
 obtain⟨J,O,d⟩:=ob q
 refine wc_cutg (fun E' w'=>∃f i,J= .inl f∧E'=[(1,V6 f)]∧SH w K [] w' i []∧KLe K i∧rng64 f) ?_ ?_
 ·refine wc_block ?_
  obtain⟨aq,R,y⟩:=ob O
  refine qw (fun (c:Int×Int)=>IW w K [] K [(0,V3 A a b),(1,V6 c.1),(5,V6 c.2)] [] (rng64 c.1∧rng64 c.2)) R ⟨K,u,hS,kr,(w64_rng _),d_0⟩ ?_
  rintro c _ ar au S B ⟨T,rfl,k,l,C,aw⟩
  refine wc_seq (sr (mv u (mv u (lv (rv_len underlying57 u (m.mono l)) (lv (rv_lss u u) (nq (wcc S u (fun U s=>?_) (fun U s=>?_))))))))
  ·refine wc_skip (qs (wc_block (sr (mv u (mv u ?_)))))
   obtain⟨D,V,W⟩:=ob s
   refine li underlying57 tf201 (m.mono l) V fun X Y ax aa ab=>?_
   obtain⟨ac,ad,ae,rfl,af,ag,ah⟩:=aa
   have ai:AtK _ X Y [sv D.Field,sv D.Term,V3 ac ad ae]:=ab
   refine lv (rv_loadS tf201 u k ai u) (mv u ?_)
   obtain⟨ay,aj,ak⟩:=ob W
   refine lk co161 (ok_laws_szEntry F k.enter0 af ag ah C aj) ?_
   rintro az aA ⟨G,rfl,H,al⟩
   have I:=(k.c0 H).t0
   refine av u (nr (mv u (lv (rv_lss u u) (nq (wcc ak u (fun am x=>?_) (fun am x=>?_))))))
   ·refine sr (lv (rv_assign (v:=V6 (-1)) u) (nq (wc_ret (qe_block_ret (qe_then_ret (qe_then_ret ?_))))))
    cases oi x
    cases B _ u
    refine qe_block_ret (qe_then_ret ?_)
    cases oi y
    refine qe_then_ret ?_
    cases oi d
    exact ey results89 ⟨G,u,I,(by decide :rng64 (-1))⟩
   refine wc_skip (qe_block (qe_seq (wc_region (mv u (lv (rv_add u u) (av u (wl_nil ?_)))))))
   cases oi x
   exact qd ⟨_,u,G,u,I,(l.trans H.le),al,(w64_rng _)⟩
  refine wc_exit (qe_then_exit (qe_then_exit ?_))
  cases oi s
  cases B _ u
  refine qe_block_eq ?_
  cases oi y
  exact qd ⟨_,T,u,u,k,l,C⟩
 rintro _ aB ⟨f,i,rfl,rfl,an,aC,ao⟩
 have d:=elim_l d
 refine qr (mv u (av u (nq (wc_ret ?_))))
 cases oi d
 exact ey results89 ⟨i,u,an,ao⟩

theorem ok_laws_szSeg {q0:GSeg}{q1:Int}{r:Int}(hS:SH w K [] w K [])(s:SliceAt tGDoc K A a b q0.Docs)(x:SliceAt tGEntry K B c d q0.Entries)(y:rng64 q1)(hm:M.laws_szSeg F q0 q1=some r):
  Calls prog 29 #[.agg #[V3 A a b,V3 B c d],V6 q1] w (R_i w K r):=by
 rw [M.laws_szSeg] at hm
 refine ci func29 u ntmps29 (sr (bx u hS fun C W D=>?_))
 have i:SH _ _ _ _ _ [obj C [V3 A a b,V3 B c d] 59]:=D
 refine lv (r_0 u) (nr (fl ff59_0 u tf40 m0 i u (mv u ?_)))
 obtain⟨X,G,H⟩:=ob hm
 refine lk co17 (ok_laws_szDocS F i.enter0 s y G) ?_
 rintro Y aa ⟨I,rfl,m,J⟩
 have f:=(i.c0 m).t1
 refine av u (nsr (mv u (lv (rv_lss u u) (nq (wcc H u (fun O k=>?_) (fun O k=>?_))))))
 ·refine sr (lv (rv_assign (v:=V6 (-1)) u) (nq (rr ?_)))
  cases oi k
  exact ey results29 ⟨I,u,f.s,(by decide :rng64 (-1))⟩
 refine wc_skip (qr (fl ff59_1 u tf57 m0 f u (mv u ?_)))
 obtain⟨ab,R,S⟩:=ob k
 refine lk co89 (ok_laws_szEntryS F f.enter0 (x.mono m.le) J R) ?_
 rintro ac ad ⟨o,rfl,T,U⟩
 have q:=(f.c0 T).t1
 refine av u (nsr (mv u (lv (rv_lss u u) (nq (wcc S u (fun V l=>?_) (fun V l=>?_))))))
 ·refine sr (lv (rv_assign (v:=V6 (-1)) u) (nq (rr ?_)))
  cases oi l
  exact ey results29 ⟨o,u,q.s,(by decide :rng64 (-1))⟩
 refine wc_skip (qr (mv u (av u (nq (wc_ret ?_)))))
 cases oi l
 exact ey results29 ⟨o,u,q.s,U⟩

theorem ok_spec_l1In {q0:Int}{q1:Int}{q2:Int}{r:Bool}(hS:SH w K [] w K [])(c:rng64 q0)(d:rng64 q1)(f:rng64 q2)(hm:M.spec_l1In F q0 q1 q2=some r):
  Calls prog 109 #[V6 q0,V6 q1,V6 q2] w (R_b w K r):=by
 rw [M.spec_l1In] at hm
 refine ci func109 u ntmps109 (sr (lv (r_f u) (nr (mv u (mv u (lv (rv_geq u u) (mv u (bt hm (fun a b=>?_) (fun a b=>?_)))))))))
 ·refine lg a (rv_move u) (lg a (rv_move u) (lg a (rv_leq u u) (lv (rv_pick_t u a u) (av u (nq (wc_ret ?_))))))
  cases oi b
  exact ey results109 ⟨K,u,hS⟩
 refine lu a (lu a (lu a (lv (p_f u a u) (av u (nq (wc_ret ?_))))))
 cases oi b
 exact ey results109 ⟨K,u,hS⟩
end Go.Proofs.YtpjefkdclnmlfaaGreat
