/-
 Walks of the functions. Printed by gen.py.
-/
import Derived.Test.YtepcfgnicnibnaaGreatWalkA0
import Derived.Test.YtepcfgnicnibnaaGreatWalkA2
import Derived.Test.YtepcfgnicnibnaaGreatWalkA3
import Derived.Test.YtepcfgnicnibnaaGreatWalkA5
import Derived.Test.YtepcfgnicnibnaaGreatWalkA6
set_option linter.unusedVariables false
set_option linter.unusedSectionVars false
set_option maxRecDepth 100000
namespace Go.Proofs.YtepcfgnicnibnaaGreat
set_option maxHeartbeats 4000000
open Go Go.Fk Go.RowKit Tryz
variable (F:Nat){w:World}{K:KMap}{Z:List Nat}{g1 g2 g3:Nat}{A B C D G H I J O R S T:Option Addr}{a b c d f i k l m n o p q s v x y aa ab ac ad ae af ag:Nat}
variable [dr:Dr]

theorem ok_laws_markStringS {B:List Nat}{KM:KMap}{q0:List Str}{q1:Int}{r:Int}(hS:SH w K Z w K [mkI B KM])(i:SliceAt tStr (KM.only B) A a b q0)(q:rng64 q1)(hm:M.laws_markStringS F q0 q1=some r):
  Calls prog 21 #[V3 A a b,V6 q1] w fun e w'=>∃K',e= .returned (V6 r)∧SH w K Z w' K' [mkI B KM]∧rng64 r:=by
 rw [M.laws_markStringS] at hm
 refine ci func21 u ntmps21 (sr (lv (r_0 u) (nsr (lv (r_0 u) (nq ?_)))))
 obtain⟨k,s,x⟩:=ob hm
 refine wc_cutg (IW w K Z K [(1,V6 k)] [mkI B KM] (rng64 k)) ?_ ?_
 ·refine wc_block ?_
  obtain⟨ah,y,C⟩:=ob s
  refine qw (fun (c:Int×Int)=>IW w K Z K [(0,V3 A a b),(1,V6 c.1),(5,V6 c.2)] [mkI B KM] (rng64 c.1∧rng64 c.2)) y ⟨K,u,hS,kr,q,d_0⟩ ?_
  rintro c _ ai aj D G ⟨H,rfl,d,l,m,ak⟩
  refine wc_seq (sr (mv u (mv u (lv (rv_len underlying22 u i) (lv (rv_lss u u) (nq (wcc D u (fun I f=>?_) (fun I f=>?_))))))))
  ·refine wc_skip (qs (wc_block (sr (mv u (mv u (mv u ?_))))))
   obtain⟨J,O,R⟩:=ob f
   refine lk co48 (ok_laws_markText F d.enter0 m O) ?_
   rintro al am ⟨S,rfl,o,an⟩
   have T:=(d.c0 o).t1
   obtain⟨U,V,W⟩:=ob R
   refine li underlying22 tf9 i V fun X Y ao aa ab=>?_
   obtain⟨rfl,ap⟩:=aa
   have ac:AtK _ X Y [sv U]:=ab
   refine mk_store (v:=sv J) wn tf9 u u u T (ac 0 _ u) u fun aq ad=>(nq (wc_region (mv u (lv (rv_add u u) (av u (nb (qe_seq (wc_region (mv u ?_)))))))))
   refine lv (rv_add u u) (av u (wl_nil ?_))
   cases oi W
   exact qd ⟨_,u,S,u,ad,(l.trans o.le),(w64_rng _),(w64_rng _)⟩
  refine wc_exit (qe_then_exit (qe_then_exit ?_))
  cases oi f
  cases G _ u
  refine qe_block_eq ?_
  cases oi C
  exact qd ⟨H,u,d,l,m⟩
 rintro _ ar ⟨K9,rfl,af,au,ag⟩
 refine qr (mv u (av u (nq (wc_ret ?_))))
 cases oi x
 exact ey results21 ⟨K9,u,af,ag⟩

theorem xm_laws_markStringS (F:Nat){w:World}{K:KMap}{g0 n2 c3:Nat}{cs0:List Value}{p0_a:List Str}{p1_k r:Int}(hS:SH w K (List.flatMap Item.gs [obj g0 cs0 9]) w K [obj g0 cs0 9])(hs4:RowN tStr K cs0 p0_a)(hn0:n2=p0_a.length)(hx0:n2≤maxLen)(hr5:rng64 p1_k)(hm:M.laws_markStringS F p0_a p1_k=some r):
  Calls Tryz.prog 21 #[.slice (some ⟨g0,0,none⟩) n2 c3,.int .i64 p1_k] w fun e w'=>∃(cs':List Value) (K':KMap),e= .returned (.int .i64 r)∧SH w K (List.flatMap Item.gs [obj g0 cs0 9]) w' K' [obj g0 cs' 9]∧RowN tStr K' cs' (marksStr F p0_a.length p1_k)∧cs'.length=cs0.length∧rng64 r:=by
 have hml:(marksStr F p0_a.length p1_k).length=p0_a.length:=by unfold marksStr;rw [List.length_map,List.length_range]
 rw [M.laws_markStringS] at hm
 refine calls_in Tryz.func21 rfl Tryz.ntmps21 rfl ?_
 refine sr ?_
 refine wl_val wn rfl (rv_assign (v:=.int .i64 0) rfl) ?_
 refine nsr ?_
 refine wl_val wn rfl (rv_assign (v:=.int .i64 0) rfl) ?_
 refine nq ?_
 obtain⟨o6,h7,h8⟩:=ob hm
 refine wc_cutg (fun E' w'=>∃(K9:KMap) (cs9:List Value),E'=[(1,.int .i64 o6)]∧SH w K (List.flatMap Item.gs [obj g0 cs0 9]) w' K9 [obj g0 cs9 9]∧KLe K K9∧rng64 o6∧RowN tStr K9 cs9 (marksStr F p0_a.length p1_k)∧cs9.length=cs0.length) ?_ ?_
 ·refine wc_block ?_
  obtain⟨r15,h16,h17⟩:=ob h7
  refine wc_while' (fun (s14:Int×Int) E' w'=>∃(K18:KMap) (cs18:List Value) (i18:Nat),E'=[(0,.slice (some ⟨g0,0,none⟩) n2 c3),(1,.int .i64 s14.1),(5,.int .i64 s14.2)]∧SH w K (List.flatMap Item.gs [obj g0 cs0 9]) w' K18 [obj g0 cs18 9]∧KLe K K18∧rng64 s14.1∧rng64 s14.2∧s14.2=(i18:Int)∧i18≤p0_a.length∧s14.1=kapStr p1_k i18∧RowN tStr K18 cs18 ((marksStr F p0_a.length p1_k).take i18++p0_a.drop i18)∧cs18.length=cs0.length) h16 ⟨K,cs0,0,rfl,hS,(KLe.refl _),hr5,d_0,rfl,Nat.zero_le _,rfl,hs4,rfl⟩ ⟨rfl,rfl,rfl,trivial⟩ ?_
  rintro s14 _ w20 r24 h25 hx26 ⟨K18,cs18,i18,rfl,hS21,hl19,hr22,hr23,hj0,hi0,hk0,hrow0,hcl0⟩
  refine wc_seq ?_
  refine sr ?_
  refine vm rfl rfl ?_
  refine vm rfl rfl ?_
  refine wl_val wn rfl (rv_lenRow Tryz.underlying22 rfl hn0) ?_
  refine wl_val wn rfl (rv_lss rfl rfl) ?_
  refine nq ?_
  refine wc_cond rfl (fun hb27=>?_) (fun hb27=>?_)
  ·have h28:=cond_t hb27 h25
   refine wc_skip ?_
   refine qs ?_
   refine wc_block ?_
   refine sr ?_
   refine vm rfl rfl ?_
   refine vm rfl rfl ?_
   refine vm rfl rfl ?_
   obtain⟨r29,hx30,h31⟩:=ob h28
   refine wl_call wn rfl (rt_call (vs:=[.int .i64 s14.1]) co48 rfl) ((ok_laws_markText F) hS21.enter0 hr22 hx30) ?_
   rintro e36 w33 ⟨K32,rfl,hS34,hl35⟩
   refine⟨_,rfl,?_⟩
   have hS37:SH _ _ _ _ _ [_]:=SH.call0 hS21 hS34
   obtain⟨x38,hx39,h40⟩:=ob h31
   refine wl_val wn rfl (rv_indexRow (t:=tStr) (xs:=p0_a) Tryz.underlying22 tf9 rfl rfl hn0 hx39) ?_
   refine wl_storeN (t:=tStr) (i:=s14.2) (off:=0) (e':=r29) wn tf9 (by exact rfl) rfl rfl hS37 (hrow0.mono hS34.le) (mid_get hj0 hml hx39) (by decide) (fun u hu=>by obtain⟨rfl,_⟩:=hu;exact⟨sv r29,⟨rfl,hl35⟩,rfl⟩) ?_
   intro csm1 w48 hrowm1 hclm1 hS49
   refine nq ?_
   refine wc_region ?_
   refine vm rfl rfl ?_
   refine wl_val wn rfl (rv_add rfl rfl) ?_
   refine va rfl rfl ?_
   refine nb ?_
   refine qe_seq ?_
   refine wc_region ?_
   refine vm rfl rfl ?_
   refine wl_val wn rfl (rv_add rfl rfl) ?_
   refine va rfl rfl ?_
   refine wl_nil ?_
   obtain rfl:=oi h40
   obtain⟨gj0,gj1,gj2⟩:=getI_some hx39
   have hlt0:i18<p0_a.length:=by omega
   have hz0:(marksStr F p0_a.length p1_k)[i18]? =some r29:=by unfold marksStr;rw [List.getElem?_map,List.getElem?_range hlt0];show some ((M.laws_markText F (kapStr p1_k i18)).getD [])=_;rw [←hk0,hx30];rfl
   rw [mid_set1 hj0 hml hx39 hz0] at hrowm1
   have hmx0:p0_a.length≤maxLen:=hn0▸hx0
   exact qe_mid' ⟨_,rfl,K32,csm1,i18+1,rfl,hS49,(hl19.trans hS34.le),(w64_rng _),(w64_rng _),(by rw [hj0];exact w64_next (Nat.lt_of_lt_of_le hlt0 hmx0)),hlt0,(by rw [hk0];rfl),hrowm1,hclm1.trans hcl0⟩ ⟨rfl,rfl,rfl,trivial⟩
  ·have h28:=cond_f hb27 h25
   refine wc_exit ?_
   refine qe_then_exit ?_
   refine qe_then_exit ?_
   obtain rfl:=oi h28
   have e50:=hx26 _ rfl
   subst e50
   refine qe_block_eq ?_
   obtain rfl:=oi h17
   have hge0:p0_a.length≤i18:=by have:=of_decide_eq_false hb27;omega
   rw [mid_end hml hge0] at hrow0
   exact qe_mid' ⟨K18,cs18,rfl,hS21,hl19,hr22,hrow0,hcl0⟩ ⟨rfl,trivial⟩
 ·rintro _ w11 ⟨K9,cs9,rfl,hS12,hl10,hr13,hrowF,hclF⟩
  refine qr ?_
  refine vm rfl rfl ?_
  refine va rfl rfl ?_
  refine nq ?_
  refine wc_ret ?_
  obtain rfl:=oi h8
  exact qe_ret (vs:=[_]) Tryz.results21 ⟨rfl,trivial⟩ ⟨cs9,K9,rfl,hS12,hrowF,hclF,hr13⟩

theorem xc_laws_markStringS (F:Nat){w0 w:World}{K0 K:KMap}{L:List Fk.Item}{a:Option Addr}{n c:Nat}{xs:List Str}{k r:Int}(h0:Holds K0 w0)(hS:SH w0 K0 [] w K (tail (.slice a n c) 9 tStr.size::L))(hs:SliceAt tStr K a n c xs)(hk:rng64 k)(hm:M.laws_markStringS F xs k=some r):
  Calls Tryz.prog 21 #[.slice a n c,.int .i64 k] w fun e w'=>∃K',e= .returned (.int .i64 r)∧SH w0 K0 [] w' K' (tail (.slice a n c) 9 tStr.size::L)∧SliceAt tStr K' a n c (marksStr F xs.length k)∧KLe (K.but (tail (.slice a n c) 9 tStr.size).gs) K'∧rng64 r:=by
 refine xmark_call (t:=tStr) (fun h=>h) h0 hS hs (by unfold marksStr;rw [List.length_map,List.length_range]) (fun g cs K1 h1 h2=>xm_laws_markStringS F h1 h2 hs.1 (Nat.le_trans hs.2.1 hs.2.2.1) hk hm) fun hn K1 h1=>?_
 have hx:xs=[]:=List.length_eq_zero_iff.1 (hs.1.symm.trans hn)
 subst hx
 exact(ok_laws_markStringS F h1 (SliceAt.nil _ _) hk hm).mono fun e w' ⟨K2,he,h2,hr⟩=>⟨K2,he,h2,hr⟩

theorem ok_laws_markSynS {B:List Nat}{KM:KMap}{q0:List GSyn}{q1:Int}{r:Int}(hS:SH w K Z w K [mkI B KM])(f:SliceAt tGSyn (KM.only B) A a b q0)(x:rng64 q1)(hm:M.laws_markSynS F q0 q1=some r):
  Calls prog 45 #[V3 A a b,V6 q1] w fun e w'=>∃K',e= .returned (V6 r)∧SH w K Z w' K' [mkI B KM]∧rng64 r:=by
 rw [M.laws_markSynS] at hm
 refine ci func45 u ntmps45 (sr (lv (r_0 u) (nsr (lv (r_0 u) (nq ?_)))))
 obtain⟨k,y,C⟩:=ob hm
 refine wc_cutg (IW w K Z K [(1,V6 k)] [mkI B KM] (rng64 k)) ?_ ?_
 ·refine wc_block ?_
  obtain⟨aE,D,G⟩:=ob y
  refine qw (fun (c:Int×Int)=>IW w K Z K [(0,V3 A a b),(1,V6 c.1),(5,V6 c.2)] [mkI B KM] (rng64 c.1∧rng64 c.2)) D ⟨K,u,hS,kr,x,d_0⟩ ?_
  rintro c _ aF aG H I ⟨J,rfl,d,l,m,aH⟩
  refine wc_seq (sr (mv u (mv u (lv (rv_len underlying31 u f) (lv (rv_lss u u) (nq (wcc H u (fun O i=>?_) (fun O i=>?_))))))))
  ·refine wc_skip (qs (wc_block (sr (mv u (mv u ?_)))))
   obtain⟨R,S,T⟩:=ob i
   refine li underlying31 tf102 f S fun U V aI W X=>?_
   obtain⟨Y,aa,ab,rfl,ac,aJ⟩:=W
   have ad:AtK _ U V [V3 Y aa ab,sv R.To]:=X
   refine fa ff102_0 u (lv (mk_load tf22 u d (ad 0 _ u)) (mv u ?_))
   obtain⟨aK,ae,af⟩:=ob T
   refine lk co21 (ok_laws_markStringS F d.e1 ac m ae) ?_
   rintro aL aM ⟨aN,rfl,o,ag⟩
   have q:=(d.c1 o).t1
   refine av u (nr (mv u (mv u (mv u ?_))))
   obtain⟨ah,ai,aj⟩:=ob af
   refine lk co48 (ok_laws_markText F q.enter0 ag ai) ?_
   rintro aO aP ⟨ak,rfl,s,aQ⟩
   have al:=(q.c0 s).t1
   obtain⟨am,an,ao⟩:=ob aj
   refine li underlying31 tf102 f an fun ap aq aR ar au=>?_
   obtain⟨aw,ax,ay,rfl,aS,aT⟩:=ar
   have az:AtK _ ap aq [V3 aw ax ay,sv am.To]:=au
   refine fa ff102_1 u (mk_store (v:=sv ah) wn tf9 u u u al (az 1 _ u) u fun aU aA=>(nq (wc_region (mv u (lv (rv_add u u) (av u (nb (qe_seq (wc_region ?_)))))))))
   refine mv u (lv (rv_add u u) (av u (wl_nil ?_)))
   cases oi ao
   exact qd ⟨_,u,ak,u,aA,((l.trans o.le).trans s.le),(w64_rng _),(w64_rng _)⟩
  refine wc_exit (qe_then_exit (qe_then_exit ?_))
  cases oi i
  cases I _ u
  refine qe_block_eq ?_
  cases oi G
  exact qd ⟨J,u,d,l,m⟩
 rintro _ aV ⟨K9,rfl,aC,aW,aD⟩
 refine qr (mv u (av u (nq (wc_ret ?_))))
 cases oi C
 exact ey results45 ⟨K9,u,aC,aD⟩

theorem ok_laws_markConf {B:List Nat}{KM:KMap}{q0:GConf}{q1:Int}{r:Int}(hS:SH w K Z w K [mkI B KM])(l:SliceAt tStr (KM.only B) A a b q0.Stops)(m:SliceAt tGSyn (KM.only B) C c d q0.Syns)(o:rng64 q1)(hm:M.laws_markConf F q0 q1=some r):
  Calls prog 19 #[.agg #[V3 A a b,V3 C c d],V6 q1] w fun e w'=>∃K',e= .returned (V6 r)∧SH w K Z w' K' [mkI B KM]∧rng64 r:=by
 rw [M.laws_markConf] at hm
 refine ci func19 u ntmps19 (sr (bx u hS fun q T s=>?_))
 have i:SH _ _ _ _ _ [obj q [V3 A a b,V3 C c d] 33,_]:=s
 refine lv (r_0 u) (nr (fl ff33_0 u tf22 m0 i u (mv u ?_)))
 obtain⟨U,x,y⟩:=ob hm
 have k:=i.f1
 refine lk co21 (ok_laws_markStringS F k.e1 l o x) ?_
 rintro V W ⟨X,rfl,D,G⟩
 have f:=(k.c1 D).t2
 refine av u (nr (fl ff33_1 u tf31 m1 f u (mv u ?_)))
 obtain⟨Y,H,I⟩:=ob y
 refine lk co45 (ok_laws_markSynS F f.e1 m G H) ?_
 rintro aa ab ⟨J,rfl,O,R⟩
 have S:=(f.c1 O).t2
 refine av u (nr (mv u (av u (nq (wc_ret ?_)))))
 cases oi I
 exact ey results19 ⟨J,u,S.s,R⟩

theorem ok_laws_markFieldS {B:List Nat}{KM:KMap}{q0:List GField}{q1:Int}{r:Int}(hS:SH w K Z w K [mkI B KM])(d:SliceAt tGField (KM.only B) A a b q0)(C:rng64 q1)(hm:M.laws_markFieldS F q0 q1=some r):
  Calls prog 83 #[V3 A a b,V6 q1] w fun e w'=>∃K',e= .returned (V6 r)∧SH w K Z w' K' [mkI B KM]∧rng64 r:=by
 rw [M.laws_markFieldS] at hm
 refine ci func83 u ntmps83 (sr (lv (r_0 u) (nsr (lv (r_0 u) (nq ?_)))))
 obtain⟨k,D,G⟩:=ob hm
 refine wc_cutg (IW w K Z K [(1,V6 k)] [mkI B KM] (rng64 k)) ?_ ?_
 ·refine wc_block ?_
  obtain⟨ay,H,I⟩:=ob D
  refine qw (fun (c:Int×Int)=>IW w K Z K [(0,V3 A a b),(1,V6 c.1),(5,V6 c.2)] [mkI B KM] (rng64 c.1∧rng64 c.2)) H ⟨K,u,hS,kr,C,d_0⟩ ?_
  rintro c _ az aA J O ⟨R,rfl,f,l,m,aB⟩
  refine wc_seq (sr (mv u (mv u (lv (rv_len underlying93 u d) (lv (rv_lss u u) (nq (wcc J u (fun S i=>?_) (fun S i=>?_))))))))
  ·refine wc_skip (qs (wc_block (sr (mv u (mv u (mv u ?_))))))
   obtain⟨T,U,V⟩:=ob i
   refine lk co48 (ok_laws_markText F f.enter0 m U) ?_
   rintro aC aD ⟨aE,rfl,o,aF⟩
   have W:=(f.c0 o).t1
   obtain⟨q,X,Y⟩:=ob V
   refine li underlying93 tf148 d X fun aa ab aG ac ad=>?_
   obtain⟨rfl,aH,aI⟩:=ac
   have ae:AtK _ aa ab [sv q.Name,sv q.Text]:=ad
   refine fa ff148_0 u (mk_store (v:=sv T) wn tf9 u u u W (ae 0 _ u) u fun aJ s=>(nr (mv u (lv (rv_add u u) (av u (nr (mv u (mv u (mv u ?_)))))))))
   obtain⟨af,ag,ah⟩:=ob Y
   refine lk co48 (ok_laws_markText F s.enter0 (w64_rng _) ag) ?_
   rintro aK aL ⟨ai,rfl,x,aM⟩
   have aj:=(s.c0 x).t1
   obtain⟨y,ak,al⟩:=ob ah
   refine li underlying93 tf148 d ak fun am an aN ao ap=>?_
   obtain⟨rfl,aO,aP⟩:=ao
   have aq:AtK _ am an [sv y.Name,sv y.Text]:=ap
   refine fa ff148_1 u (mk_store (v:=sv af) wn tf9 u u u aj (aq 1 _ u) u fun aQ ar=>(nq (wc_region (mv u (lv (rv_add u u) (av u (nb (qe_seq (wc_region ?_)))))))))
   refine mv u (lv (rv_add u u) (av u (wl_nil ?_)))
   cases oi al
   exact qd ⟨_,u,ai,u,ar,((l.trans o.le).trans x.le),(w64_rng _),(w64_rng _)⟩
  refine wc_exit (qe_then_exit (qe_then_exit ?_))
  cases oi i
  cases O _ u
  refine qe_block_eq ?_
  cases oi I
  exact qd ⟨R,u,f,l,m⟩
 rintro _ aR ⟨K9,rfl,aw,aS,ax⟩
 refine qr (mv u (av u (nq (wc_ret ?_))))
 cases oi G
 exact ey results83 ⟨K9,u,aw,ax⟩

theorem ok_laws_markAttrS {B:List Nat}{KM:KMap}{q0:List GAttr}{q1:Int}{r:Int}(hS:SH w K Z w K [mkI B KM])(d:SliceAt tGAttr (KM.only B) A a b q0)(x:rng64 q1)(hm:M.laws_markAttrS F q0 q1=some r):
  Calls prog 84 #[V3 A a b,V6 q1] w fun e w'=>∃K',e= .returned (V6 r)∧SH w K Z w' K' [mkI B KM]∧rng64 r:=by
 rw [M.laws_markAttrS] at hm
 refine ci func84 u ntmps84 (sr (lv (r_0 u) (nsr (lv (r_0 u) (nq ?_)))))
 obtain⟨k,y,C⟩:=ob hm
 refine wc_cutg (IW w K Z K [(1,V6 k)] [mkI B KM] (rng64 k)) ?_ ?_
 ·refine wc_block ?_
  obtain⟨aq,D,G⟩:=ob y
  refine qw (fun (c:Int×Int)=>IW w K Z K [(0,V3 A a b),(1,V6 c.1),(5,V6 c.2)] [mkI B KM] (rng64 c.1∧rng64 c.2)) D ⟨K,u,hS,kr,x,d_0⟩ ?_
  rintro c _ ar au H I ⟨J,rfl,f,l,m,aw⟩
  refine wc_seq (sr (mv u (mv u (lv (rv_len underlying94 u d) (lv (rv_lss u u) (nq (wcc H u (fun O i=>?_) (fun O i=>?_))))))))
  ·refine wc_skip (qs (wc_block (sr (mv u (mv u (mv u ?_))))))
   obtain⟨R,S,T⟩:=ob i
   refine lk co48 (ok_laws_markText F f.enter0 m S) ?_
   rintro ax ay ⟨U,rfl,o,az⟩
   have V:=(f.c0 o).t1
   obtain⟨q,W,X⟩:=ob T
   refine li underlying94 tf150 d W fun Y aa aA ab ac=>?_
   obtain⟨rfl,aB,aC⟩:=ab
   have ad:AtK _ Y aa [sv q.Name,V6 q.Num]:=ac
   refine fa ff150_0 u (mk_store (v:=sv R) wn tf9 u u u V (ad 0 _ u) u fun aD ae=>(nr (mv u (lv (rv_add u u) (av u (nr (mv u (mv u (mv u ?_)))))))))
   obtain⟨s,af,ag⟩:=ob X
   refine li underlying94 tf150 d af fun ah ai aE aj ak=>?_
   obtain⟨rfl,aF,aG⟩:=aj
   have al:AtK _ ah ai [sv s.Name,V6 s.Num]:=ak
   refine fa ff150_1 u (mk_store (v:=V6 (w64 (c.1+(1:Int)))) wn tf3 u u u ae (al 1 _ u) u fun aH am=>(nq (wc_region (mv u (lv (rv_add u u) (av u (nb (qe_seq (wc_region ?_)))))))))
   refine mv u (lv (rv_add u u) (av u (wl_nil ?_)))
   cases oi ag
   exact qd ⟨_,u,U,u,am,(l.trans o.le),(w64_rng _),(w64_rng _)⟩
  refine wc_exit (qe_then_exit (qe_then_exit ?_))
  cases oi i
  cases I _ u
  refine qe_block_eq ?_
  cases oi G
  exact qd ⟨J,u,f,l,m⟩
 rintro _ aI ⟨K9,rfl,ao,aJ,ap⟩
 refine qr (mv u (av u (nq (wc_ret ?_))))
 cases oi C
 exact ey results84 ⟨K9,u,ao,ap⟩

theorem ok_laws_markDocS {B:List Nat}{KM:KMap}{q0:List GDoc}{q1:Int}{r:Int}(hS:SH w K Z w K [mkI B KM])(d:SliceAt tGDoc (KM.only B) A a b q0)(x:rng64 q1)(hm:M.laws_markDocS F q0 q1=some r):
  Calls prog 46 #[V3 A a b,V6 q1] w fun e w'=>∃K',e= .returned (V6 r)∧SH w K Z w' K' [mkI B KM]∧rng64 r:=by
 rw [M.laws_markDocS] at hm
 refine ci func46 u ntmps46 (sr (lv (r_0 u) (nsr (lv (r_0 u) (nq ?_)))))
 obtain⟨l,y,C⟩:=ob hm
 refine wc_cutg (IW w K Z K [(1,V6 l)] [mkI B KM] (rng64 l)) ?_ ?_
 ·refine wc_block ?_
  obtain⟨aZ,D,G⟩:=ob y
  refine qw (fun (c:Int×Int)=>IW w K Z K [(0,V3 A a b),(1,V6 c.1),(5,V6 c.2)] [mkI B KM] (rng64 c.1∧rng64 c.2)) D ⟨K,u,hS,kr,x,d_0⟩ ?_
  rintro c _ ba bb H I ⟨J,rfl,m,o,O,bc⟩
  refine wc_seq (sr (mv u (mv u (lv (rv_len underlying48 u d) (lv (rv_lss u u) (nq (wcc H u (fun R f=>?_) (fun R f=>?_))))))))
  ·refine wc_skip (qs (wc_block (sr (mv u (mv u (mv u ?_))))))
   obtain⟨S,T,U⟩:=ob f
   refine li underlying48 tf96 d T fun V W bd X Y=>?_
   obtain⟨aa,ab,ac,ad,ae,af,rfl,be,bf,bg⟩:=X
   have ag:AtK _ V W [V6 S.Id,V3 aa ab ac,V3 ad ae af]:=Y
   refine fa ff96_0 u (mk_store (v:=V6 c.1) wn tf3 u u u m (ag 0 _ u) u fun bh i=>(nr (mv u (lv (rv_add u u) (av u (nr (mv u (mv u ?_))))))))
   obtain⟨ah,ai,aj⟩:=ob U
   refine li underlying48 tf96 d ai fun ak al bi am an=>?_
   obtain⟨ao,ap,aq,ar,au,aw,rfl,bj,ax,bk⟩:=am
   have ay:AtK _ ak al [V6 ah.Id,V3 ao ap aq,V3 ar au aw]:=an
   refine fa ff96_1 u (lv (mk_load tf93 u i (ay 1 _ u)) (mv u ?_))
   obtain⟨bl,az,aA⟩:=ob aj
   refine lk co83 (ok_laws_markFieldS F i.e1 ax (w64_rng _) az) ?_
   rintro bm bn ⟨bo,rfl,q,aB⟩
   have k:=(i.c1 q).t1
   refine av u (nq (wc_region (mv u (mv u ?_))))
   obtain⟨aC,aD,aE⟩:=ob aA
   refine li underlying48 tf96 d aD fun aF aG bp aH aI=>?_
   obtain⟨aJ,aK,aL,aM,aN,aO,rfl,bq,br,aP⟩:=aH
   have aQ:AtK _ aF aG [V6 aC.Id,V3 aJ aK aL,V3 aM aN aO]:=aI
   refine fa ff96_2 u (lv (mk_load tf94 u k (aQ 2 _ u)) (mv u ?_))
   obtain⟨bs,aR,aS⟩:=ob aE
   refine lk co84 (ok_laws_markAttrS F k.e1 aP aB aR) ?_
   rintro bu bv ⟨aT,rfl,s,aU⟩
   have aV:=(k.c1 s).t1
   refine av u (nb (qe_seq (wc_region (mv u (lv (rv_add u u) (av u (wl_nil ?_)))))))
   cases oi aS
   exact qd ⟨_,u,aT,u,aV,((o.trans q.le).trans s.le),aU,(w64_rng _)⟩
  refine wc_exit (qe_then_exit (qe_then_exit ?_))
  cases oi f
  cases I _ u
  refine qe_block_eq ?_
  cases oi G
  exact qd ⟨J,u,m,o,O⟩
 rintro _ bx ⟨K9,rfl,aX,bz,aY⟩
 refine qr (mv u (av u (nq (wc_ret ?_))))
 cases oi C
 exact ey results46 ⟨K9,u,aX,aY⟩

theorem ok_laws_markIntS {B:List Nat}{KM:KMap}{q0:List Int}{q1:Int}{r:Int}(hS:SH w K Z w K [mkI B KM])(f:SliceAt tInt (KM.only B) A a b q0)(o:rng64 q1)(hm:M.laws_markIntS F q0 q1=some r):
  Calls prog 127 #[V3 A a b,V6 q1] w fun e w'=>∃K',e= .returned (V6 r)∧SH w K Z w' K' [mkI B KM]∧rng64 r:=by
 rw [M.laws_markIntS] at hm
 refine ci func127 u ntmps127 (sr (lv (r_0 u) (nsr (lv (r_0 u) (nq ?_)))))
 obtain⟨i,q,s⟩:=ob hm
 refine wc_cutg (IW w K Z K [(1,V6 i)] [mkI B KM] (rng64 i)) ?_ ?_
 ·refine wc_block ?_
  obtain⟨ab,x,y⟩:=ob q
  refine qw (fun (c:Int×Int)=>IW w K Z K [(0,V3 A a b),(1,V6 c.1),(5,V6 c.2)] [mkI B KM] (rng64 c.1∧rng64 c.2)) x ⟨K,u,hS,kr,o,d_0⟩ ?_
  rintro c _ ac ad C D ⟨k,rfl,l,m,G,ae⟩
  refine wc_seq (sr (mv u (mv u (lv (rv_len underlying63 u f) (lv (rv_lss u u) (nq (wcc C u (fun H d=>?_) (fun H d=>?_))))))))
  ·refine wc_skip (qs (wc_block (sr (mv u (mv u (mv u ?_))))))
   obtain⟨I,J,O⟩:=ob d
   refine li underlying63 tf3 f J fun R S af T U=>?_
   obtain⟨rfl,ag⟩:=T
   have V:AtK _ R S [V6 I]:=U
   refine mk_store (v:=V6 c.1) wn tf3 u u u l (V 0 _ u) u fun ah W=>(nq (wc_region (mv u (lv (rv_add u u) (av u (nb (qe_seq (wc_region (mv u ?_)))))))))
   refine lv (rv_add u u) (av u (wl_nil ?_))
   cases oi O
   exact qd ⟨_,u,k,u,W,m,(w64_rng _),(w64_rng _)⟩
  refine wc_exit (qe_then_exit (qe_then_exit ?_))
  cases oi d
  cases D _ u
  refine qe_block_eq ?_
  cases oi y
  exact qd ⟨k,u,l,m,G⟩
 rintro _ ai ⟨X,rfl,Y,aj,aa⟩
 refine qr (mv u (av u (nq (wc_ret ?_))))
 cases oi s
 exact ey results127 ⟨X,u,Y,aa⟩

theorem ok_laws_markPostS {B:List Nat}{KM:KMap}{q0:List GPost}{q1:Int}{r:Int}(hS:SH w K Z w K [mkI B KM])(d:SliceAt tGPost (KM.only B) A a b q0)(q:rng64 q1)(hm:M.laws_markPostS F q0 q1=some r):
  Calls prog 85 #[V3 A a b,V6 q1] w fun e w'=>∃K',e= .returned (V6 r)∧SH w K Z w' K' [mkI B KM]∧rng64 r:=by
 rw [M.laws_markPostS] at hm
 refine ci func85 u ntmps85 (sr (lv (r_0 u) (nsr (lv (r_0 u) (nq ?_)))))
 obtain⟨k,s,x⟩:=ob hm
 refine wc_cutg (IW w K Z K [(1,V6 k)] [mkI B KM] (rng64 k)) ?_ ?_
 ·refine wc_block ?_
  obtain⟨az,y,C⟩:=ob s
  refine qw (fun (c:Int×Int)=>IW w K Z K [(0,V3 A a b),(1,V6 c.1),(5,V6 c.2)] [mkI B KM] (rng64 c.1∧rng64 c.2)) y ⟨K,u,hS,kr,q,d_0⟩ ?_
  rintro c _ aA aB D G ⟨H,rfl,l,m,I,aC⟩
  refine wc_seq (sr (mv u (mv u (lv (rv_len underlying74 u d) (lv (rv_lss u u) (nq (wcc D u (fun J f=>?_) (fun J f=>?_))))))))
  ·refine wc_skip (qs (wc_block (sr (mv u (mv u (mv u ?_))))))
   obtain⟨O,R,S⟩:=ob f
   refine li underlying74 tf164 d R fun T U aD V W=>?_
   obtain⟨X,Y,aa,rfl,aE,aF⟩:=V
   have ab:AtK _ T U [V6 O.Doc,V3 X Y aa]:=W
   refine fa ff164_0 u (mk_store (v:=V6 c.1) wn tf3 u u u l (ab 0 _ u) u fun aG i=>(nr (mv u (lv (rv_add u u) (av u (nq (wc_region (mv u (mv u ?_)))))))))
   obtain⟨ac,ad,ae⟩:=ob S
   refine li underlying74 tf164 d ad fun af ag aH ah ai=>?_
   obtain⟨aj,ak,al,rfl,aI,am⟩:=ah
   have an:AtK _ af ag [V6 ac.Doc,V3 aj ak al]:=ai
   refine fa ff164_1 u (lv (mk_load tf63 u i (an 1 _ u)) (mv u ?_))
   obtain⟨aJ,ao,ap⟩:=ob ae
   refine lk co127 (ok_laws_markIntS F i.e1 am (w64_rng _) ao) ?_
   rintro aK aL ⟨aq,rfl,o,ar⟩
   have au:=(i.c1 o).t1
   refine av u (nb (qe_seq (wc_region (mv u (lv (rv_add u u) (av u (wl_nil ?_)))))))
   cases oi ap
   exact qd ⟨_,u,aq,u,au,(m.trans o.le),ar,(w64_rng _)⟩
  refine wc_exit (qe_then_exit (qe_then_exit ?_))
  cases oi f
  cases G _ u
  refine qe_block_eq ?_
  cases oi C
  exact qd ⟨H,u,l,m,I⟩
 rintro _ aM ⟨K9,rfl,ax,aN,ay⟩
 refine qr (mv u (av u (nq (wc_ret ?_))))
 cases oi x
 exact ey results85 ⟨K9,u,ax,ay⟩

theorem ok_laws_markEntryS {B:List Nat}{KM:KMap}{q0:List GEntry}{q1:Int}{r:Int}(hS:SH w K Z w K [mkI B KM])(d:SliceAt tGEntry (KM.only B) A a b q0)(H:rng64 q1)(hm:M.laws_markEntryS F q0 q1=some r):
  Calls prog 47 #[V3 A a b,V6 q1] w fun e w'=>∃K',e= .returned (V6 r)∧SH w K Z w' K' [mkI B KM]∧rng64 r:=by
 rw [M.laws_markEntryS] at hm
 refine ci func47 u ntmps47 (sr (lv (r_0 u) (nsr (lv (r_0 u) (nq ?_)))))
 obtain⟨l,I,J⟩:=ob hm
 refine wc_cutg (IW w K Z K [(1,V6 l)] [mkI B KM] (rng64 l)) ?_ ?_
 ·refine wc_block ?_
  obtain⟨aV,O,R⟩:=ob I
  refine qw (fun (c:Int×Int)=>IW w K Z K [(0,V3 A a b),(1,V6 c.1),(5,V6 c.2)] [mkI B KM] (rng64 c.1∧rng64 c.2)) O ⟨K,u,hS,kr,H,d_0⟩ ?_
  rintro c _ aW aX S T ⟨U,rfl,f,m,o,aY⟩
  refine wc_seq (sr (mv u (mv u (lv (rv_len underlying49 u d) (lv (rv_lss u u) (nq (wcc S u (fun V i=>?_) (fun V i=>?_))))))))
  ·refine wc_skip (qs (wc_block (sr (mv u (mv u (mv u ?_))))))
   obtain⟨W,X,Y⟩:=ob i
   refine lk co48 (ok_laws_markText F f.enter0 o X) ?_
   rintro aZ ba ⟨bb,rfl,q,bc⟩
   have aa:=(f.c0 q).t1
   obtain⟨s,ab,ac⟩:=ob Y
   refine li underlying49 tf76 d ab fun ad ae bd af ag=>?_
   obtain⟨ah,ai,aj,rfl,be,bf,bg⟩:=af
   have ak:AtK _ ad ae [sv s.Field,sv s.Term,V3 ah ai aj]:=ag
   refine fa ff76_0 u (mk_store (v:=sv W) wn tf9 u u u aa (ak 0 _ u) u fun bh x=>(nr (mv u (lv (rv_add u u) (av u (nr (mv u (mv u (mv u ?_)))))))))
   obtain⟨al,am,an⟩:=ob ac
   refine lk co48 (ok_laws_markText F x.enter0 (w64_rng _) am) ?_
   rintro bi bj ⟨bk,rfl,y,bl⟩
   have ao:=(x.c0 y).t1
   obtain⟨C,ap,aq⟩:=ob an
   refine li underlying49 tf76 d ap fun ar au bm aw ax=>?_
   obtain⟨ay,az,aA,rfl,bn,bo,bp⟩:=aw
   have aB:AtK _ ar au [sv C.Field,sv C.Term,V3 ay az aA]:=ax
   refine fa ff76_1 u (mk_store (v:=sv al) wn tf9 u u u ao (aB 1 _ u) u fun bq k=>(nr (mv u (lv (rv_add u u) (av u (nq (wc_region (mv u (mv u ?_)))))))))
   obtain⟨D,aC,aD⟩:=ob aq
   refine li underlying49 tf76 d aC fun aE aF br aG aH=>?_
   obtain⟨aI,aJ,aK,rfl,bs,bu,aL⟩:=aG
   have aM:AtK _ aE aF [sv D.Field,sv D.Term,V3 aI aJ aK]:=aH
   refine fa ff76_2 u (lv (mk_load tf74 u k (aM 2 _ u)) (mv u ?_))
   obtain⟨bv,aN,aO⟩:=ob aD
   refine lk co85 (ok_laws_markPostS F k.e1 aL (w64_rng _) aN) ?_
   rintro bx bz ⟨aP,rfl,G,aQ⟩
   have aR:=(k.c1 G).t1
   refine av u (nb (qe_seq (wc_region (mv u (lv (rv_add u u) (av u (wl_nil ?_)))))))
   cases oi aO
   exact qd ⟨_,u,aP,u,aR,(((m.trans q.le).trans y.le).trans G.le),aQ,(w64_rng _)⟩
  refine wc_exit (qe_then_exit (qe_then_exit ?_))
  cases oi i
  cases T _ u
  refine qe_block_eq ?_
  cases oi R
  exact qd ⟨U,u,f,m,o⟩
 rintro _ bA ⟨K9,rfl,aT,bB,aU⟩
 refine qr (mv u (av u (nq (wc_ret ?_))))
 cases oi J
 exact ey results47 ⟨K9,u,aT,aU⟩

theorem ok_laws_markSeg {B:List Nat}{KM:KMap}{q0:GSeg}{q1:Int}{r:Int}(hS:SH w K Z w K [mkI B KM])(l:SliceAt tGDoc (KM.only B) A a b q0.Docs)(m:SliceAt tGEntry (KM.only B) C c d q0.Entries)(o:rng64 q1)(hm:M.laws_markSeg F q0 q1=some r):
  Calls prog 20 #[.agg #[V3 A a b,V3 C c d],V6 q1] w fun e w'=>∃K',e= .returned (V6 r)∧SH w K Z w' K' [mkI B KM]∧rng64 r:=by
 rw [M.laws_markSeg] at hm
 refine ci func20 u ntmps20 (sr (bx u hS fun q T s=>?_))
 have i:SH _ _ _ _ _ [obj q [V3 A a b,V3 C c d] 51,_]:=s
 refine lv (r_0 u) (nr (fl ff51_0 u tf48 m0 i u (mv u ?_)))
 obtain⟨U,x,y⟩:=ob hm
 have k:=i.f1
 refine lk co46 (ok_laws_markDocS F k.e1 l o x) ?_
 rintro V W ⟨X,rfl,D,G⟩
 have f:=(k.c1 D).t2
 refine av u (nr (fl ff51_1 u tf49 m1 f u (mv u ?_)))
 obtain⟨Y,H,I⟩:=ob y
 refine lk co47 (ok_laws_markEntryS F f.e1 m G H) ?_
 rintro aa ab ⟨J,rfl,O,R⟩
 have S:=(f.c1 O).t2
 refine av u (nr (mv u (av u (nq (wc_ret ?_)))))
 cases oi I
 exact ey results20 ⟨J,u,S.s,R⟩

theorem ok_laws_heldStringS {q0:List Str}{q1:Int}{r:Int}(hS:SH w K [] w K [])(s:SliceAt tStr K A a b q0)(G:rng64 q1)(hm:M.laws_heldStringS F q0 q1=some r):
  Calls prog 22 #[V3 A a b,V6 q1] w (R_i w K r):=by
 rw [M.laws_heldStringS] at hm
 refine ci func22 u ntmps22 (sr (lv (r_0 u) (nsr (lv (r_0 u) (nq ?_)))))
 obtain⟨H,I,d⟩:=ob hm
 refine wc_cutg (fun E' w'=>∃f i,H= .inl f∧E'=[(1,V6 f)]∧SH w K [] w' i []∧KLe K i∧rng64 f) ?_ ?_
 ·refine wc_block ?_
  obtain⟨ai,J,x⟩:=ob I
  refine qw (fun (c:Int×Int)=>IW w K [] K [(0,V3 A a b),(1,V6 c.1),(5,V6 c.2)] [] (rng64 c.1∧rng64 c.2)) J ⟨K,u,hS,kr,G,d_0⟩ ?_
  rintro c _ aj ak O y ⟨R,rfl,l,k,m,al⟩
  refine wc_seq (sr (mv u (mv u (lv (rv_len underlying22 u (s.mono k)) (lv (rv_lss u u) (nq (wcc O u (fun S o=>?_) (fun S o=>?_))))))))
  ·refine wc_skip (qs (wc_block (wc_seq (wc_seq (wc_quiet mixed (by kernel_rfl) l (km u (km u ?_)))))))
   obtain⟨T,U,V⟩:=ob o
   refine ki underlying22 tf9 (s.mono k) U fun W X am Y aa=>?_
   obtain⟨rfl,an⟩:=Y
   have ab:AtK _ W X [sv T]:=aa
   refine kh (rq_load1 tf9 u (ab 0 _ u)) (km u ?_)
   obtain⟨ao,B,ac⟩:=ob V
   refine kd co48 (fun _ _ ad ap=>(ok_laws_markText F) ad.enter0 m B) ?_
   obtain⟨_,_,_,⟨_,_,_,aq⟩,_⟩:=(ok_laws_markText F) l.enter0 m B []
   refine kv (rv_sneq u u) (wq_nil ?_)
   rintro ar ⟨C,D,ae⟩
   refine qe_seq (wcc ac u (fun af q=>?_) (fun af q=>?_))
   ·refine sr (lv (rv_assign (v:=V6 (-1)) u) (nq (rr (qe_block_ret (qe_then_ret (qe_then_ret ?_))))))
    cases oi q
    cases y _ u
    refine qe_block_ret (qe_then_ret ?_)
    cases oi x
    refine qe_then_ret ?_
    cases oi d
    exact ey results22 ⟨C,u,D,(by decide :rng64 (-1))⟩
   refine wc_skip (qe_seq (wc_region (mv u (lv (rv_add u u) (av u (nb (qe_seq (wc_region (mv u ?_)))))))))
   refine lv (rv_add u u) (av u (wl_nil ?_))
   cases oi q
   exact qd ⟨_,u,C,u,D,(k.trans ae),(w64_rng _),(w64_rng _)⟩
  refine wc_exit (qe_then_exit (qe_then_exit ?_))
  cases oi o
  cases y _ u
  refine qe_block_eq ?_
  cases oi x
  exact qd ⟨_,R,u,u,l,k,m⟩
 rintro _ au ⟨f,i,rfl,rfl,ag,aw,ah⟩
 have d:=elim_l d
 refine qr (mv u (av u (nq (wc_ret ?_))))
 cases oi d
 exact ey results22 ⟨i,u,ag,ah⟩

theorem ok_laws_FnExactSegTerms {q0:GConf}{q1:GSeg}{q2:Str}{r:Bool}(hS:SH w K [] w K [])(am:SliceAt tStr K A a b q0.Stops)(an:SliceAt tGSyn K B c d q0.Syns)(ao:SliceAt tGDoc K C f i q1.Docs)(ap:SliceAt tGEntry K D k l q1.Entries)(aU:q2.length≤maxLen)(hm:M.laws_FnExactSegTerms F q0 q1 q2=some r):
  Calls prog 4 #[.agg #[V3 A a b,V3 B c d],.agg #[V3 C f i,V3 D k l],sv q2] w (R_b w K r):=by
 rw [M.laws_FnExactSegTerms] at hm
 refine ci func4 u ntmps4 (sr (bx u hS fun ad ep cl=>?_))
 have cm:SH _ _ _ _ _ [obj ad [V3 A a b,V3 B c d] 25]:=cl
 refine bx u cm fun ae eq cn=>?_
 have aR:SH _ _ _ _ _ [obj ae [V3 C f i,V3 D k l] 43,_]:=cn
 refine lv (r_f u) (nsr (mv u (lv (rv_slen underlying9 u) (lv (rv_gtr u u) (nq (wc_cond u (fun aV=>?_) (fun aV=>?_)))))))
 ·have aW:=cond_t aV hm
  refine sr (lv (r_t u) (nq (rr ?_)))
  cases oi aW
  exact ey results4 ⟨K,u,aR.s⟩
 have aW:=cond_f aV hm
 refine wc_skip (qr (lv (rv_assign (v:=V6 1048576) u) (nr (lv (rv_loadmS (ds:=[V3 A a b,V3 B c d]) tf25 u m1 aR u u) (mv u ?_)))))
 obtain⟨es,cp,cq⟩:=ob aW
 refine lk co10 (ok_laws_szConf F aR.enter0 am an (by decide :rng64 1048576) cp) ?_
 rintro et eu ⟨cr,rfl,G,cs⟩
 have aS:=(aR.c0 G).t2
 refine av u (nsr (mv u (lv (rv_lss u u) (nq (wcc cq u (fun ct aX=>?_) (fun ct aX=>?_))))))
 ·refine sr (lv (r_t u) (nq (rr ?_)))
  cases oi aX
  exact ey results4 ⟨cr,u,aS.s⟩
 refine wc_skip (qr (lv (rv_loadmS (ds:=[V3 C f i,V3 D k l]) tf43 u m0 aS u u) (mv u ?_)))
 obtain⟨ev,cu,cv⟩:=ob aX
 refine lk co11 (ok_laws_szSeg F aS.enter0 (ao.mono G.le) (ap.mono G.le) cs cu) ?_
 rintro ew ex ⟨bB,rfl,R,eA⟩
 have bC:=(aS.c0 R).t2
 refine av u (nsr (mv u (lv (rv_lss u u) (nq (wcc cv u (fun cw aY=>?_) (fun cw aY=>?_))))))
 ·refine sr (lv (r_t u) (nq (rr ?_)))
  cases oi aY
  exact ey results4 ⟨bB,u,bC.s⟩
 refine wc_skip (qs (wc_held (fun w'=>Holds bB w'∧HasObj ad [V3 A a b,V3 B c d] w'∧HasObj ae [V3 C f i,V3 D k l] w') (fun w'=>True) 7 [] mixed ?_))
 have W:=bC.drew
 refine wg_val (i:=0) (listed':=L_ 7 0) (HasObj ad [V3 A a b,V3 B c d]) u (by kernel_rfl) (pk_then pk_body) (by kernel_rfl) u (by kernel_rfl) (by kernel_rfl) u (.inl fun _ h=>h.2.1) ⟨⟨W.hasK kr,W.hasObj m1,W.hasObj m0⟩,(fun _=>trivial),by decide⟩ wn u (fun _ h=>rh_loadmS (ds:=[V3 A a b,V3 B c d]) tf25 u u u h) (wg_val (i:=2) (listed':=#[true,false,true,false,false,false,false]) (HasObj ae [V3 C f i,V3 D k l]) u (by kernel_rfl) (pk_then pk_body) (by kernel_rfl) u (by kernel_rfl) (by kernel_rfl) u (.inl fun _ h=>h.2.2) ⟨⟨W.hasK kr,W.hasObj m1,W.hasObj m0⟩,(fun _=>trivial),by decide⟩ wn u (fun _ h=>rh_loadmS (ds:=[V3 C f i,V3 D k l]) tf43 u u u h) (wg_val (i:=4) (listed':=#[true,false,true,false,true,false,false]) (fun _=>True) u (by kernel_rfl) (pk_then pk_body) (by kernel_rfl) u (by kernel_rfl) (by kernel_rfl) u (.inl fun _ _=>trivial) ⟨⟨W.hasK kr,W.hasObj m1,W.hasObj m0⟩,(fun _=>trivial),by decide⟩ wn u (fun _ _=>(rv_move u)) (wg_one (i:=1) (by kernel_rfl) u ?_)))
 obtain⟨eB,cx,cy⟩:=ob aY
 refine lk co13 ((bag_laws_toConf F) W.enter0 (am.mono (G.le.trans R.le)) (an.mono (G.le.trans R.le)) cx) ?_
 rintro eC eD ⟨eE,eF,eG,eH,eI,eJ,eK,B61,rfl,H,cz,cA⟩
 have cB:=cz.mono only_le
 have cC:=cA.mono only_le
 have aq:=(W.c0 H).t3
 refine wl_nil (qe_held (listed':=#[true,true,true,false,true,false,false]) u ⟨⟨aq.hasK H.le,aq.hasObj m2,aq.hasObj m1⟩,(fun _=>trivial),by decide⟩ (wg_one (i:=3) (by kernel_rfl) u ?_))
 obtain⟨eL,cD,cE⟩:=ob cy
 refine lk co14 ((bag_laws_toSeg F) aq.enter0 (ao.mono ((G.le.trans R.le).trans H.le)) (ap.mono ((G.le.trans R.le).trans H.le)) cD) ?_
 rintro eM eN ⟨eO,eP,eQ,eR,eS,eT,eU,B80,rfl,J,cF,cG⟩
 have cH:=cF.mono only_le
 have cI:=cG.mono only_le
 have ar:=(aq.c0 J).t4
 refine wl_nil (qe_held (listed':=L_ 7 4) u ⟨⟨ar.hasK (H.le.trans J.le),ar.hasObj m3,ar.hasObj m2⟩,(fun _=>trivial),by decide⟩ (wg_one (i:=5) (by kernel_rfl) u ?_))
 obtain⟨eV,cJ,cK⟩:=ob cE
 refine lk co12 (ok_spec_SegTerms F ar.enter0 (cB.mono J.le) (cC.mono J.le) cH cI aU cJ) ?_
 rintro eW eX ⟨aZ,ba,bb,eY,rfl,T,bc⟩
 have U:=(ar.c0 T).t5
 refine wl_nil (qe_held (listed':=L_ 7 5) u ⟨⟨U.hasK ((H.le.trans J.le).trans T.le),U.hasObj m4,U.hasObj m3⟩,(fun _=>trivial),by decide⟩ (wg_val (i:=6) (listed':=L_ 7 6) (fun _=>True) u (by kernel_rfl) (pk_then pk_body) (by kernel_rfl) u (by kernel_rfl) (by kernel_rfl) u (.inl fun _ _=>trivial) ⟨⟨U.hasK ((H.le.trans J.le).trans T.le),U.hasObj m4,U.hasObj m3⟩,(fun _=>trivial),by decide⟩ wn u (fun _ _=>(rv_assign u)) (wg_done (by kernel_rfl) (qr (lv (rv_loadmS (ds:=[V3 A a b,V3 B c d]) tf25 u m4 U u u) ?_)))))
 obtain⟨eZ,cL,cM⟩:=ob cK
 refine lk co13 ((bag_laws_toConf F) U.enter0 (SliceAt.mono ((((G.le.trans R.le).trans H.le).trans J.le).trans T.le) am) (SliceAt.mono ((((G.le.trans R.le).trans H.le).trans J.le).trans T.le) an) cL) ?_
 rintro fb fc ⟨au,aw,ax,ay,az,aA,fd,B111,rfl,m,bD,bE⟩
 have bF:=bD.mono only_le
 have bG:=bE.mono only_le
 have cN:=(U.c0 m).t6
 refine al tf33 cN fun bH fe cO=>?_
 have cP:SH _ _ _ _ _ [obj bH [V3 none 0 0,V3 none 0 0] 33,_,_,_,_,_,_]:=cO
 refine lw [V3 au aw ax,V3 ay az aA] tf33 cP fun fg Y=>(nr (lv (rv_loadmS (ds:=[V3 C f i,V3 D k l]) tf43 u m5 Y u u) ?_))
 obtain⟨fh,cQ,cR⟩:=ob cM
 refine lk co14 ((bag_laws_toSeg F) Y.enter0 (SliceAt.mono (((((G.le.trans R.le).trans H.le).trans J.le).trans T.le).trans m.le) ao) (SliceAt.mono (((((G.le.trans R.le).trans H.le).trans J.le).trans T.le).trans m.le) ap) cQ) ?_
 rintro fi fj ⟨aB,aC,aD,aE,aF,aG,fk,B136,rfl,q,bI,bJ⟩
 have bK:=bI.mono only_le
 have bL:=bJ.mono only_le
 have cS:=(Y.c0 q).t8
 refine al tf51 cS fun bM fm cT=>?_
 have cU:SH _ _ _ _ _ [obj bM [V3 none 0 0,V3 none 0 0] 51,_,_,_,_,_,_,_,_]:=cT
 refine lw [V3 aB aC aD,V3 aE aF aG] tf51 cU fun fn aa=>(nr (lv (rv_loadmS (ds:=[V3 au aw ax,V3 ay az aA]) tf33 u m2 aa u u) (lv (rv_loadmS (ds:=[V3 aB aC aD,V3 aE aF aG]) tf51 u m0 aa u u) (mv u ?_))))
 obtain⟨fo,cV,cW⟩:=ob cR
 refine lk co15 (ok_impl_SegTerms F aa.enter0 (bF.mono q.le) (bG.mono q.le) bK bL aU cV) ?_
 rintro fp fq ⟨bd,be,bf,fr,rfl,s,bN⟩
 have bO:=(aa.c0 s).t10
 refine av u (nsr (mv u (mv u ?_)))
 obtain⟨fs,cX,cY⟩:=ob cW
 refine lk co16 (ok_laws_eqStringS F bO.enter0 bN (bc.mono ((m.le.trans q.le).trans s.le)) cX) ?_
 rintro ft fu ⟨bP,rfl,x⟩
 have bQ:=(bO.c0 x).t10
 refine lv (rv_not u) (nq (wcc cY u (fun cZ bg=>?_) (fun cZ bg=>?_)))
 ·refine sr (lv (r_f u) (nq (rr ?_)))
  cases oi bg
  exact ey results4 ⟨bP,u,bQ.s⟩
 refine wc_skip (qs (wc_seq ?_))
 have aH:=bQ.drew
 refine wh1 (fun w'=>Holds bP w'∧HasObj bH [V3 au aw ax,V3 ay az aA] w'∧HasObj ad [V3 A a b,V3 B c d] w') (fun w'=>True) 5 [] mixed ⟨aH.hasK kr,aH.hasObj m3,aH.hasObj m9⟩ (fun _=>trivial) (gh (fun _ h=>rh_loadmS (ds:=[V3 au aw ax,V3 ay az aA]) tf33 u u u h.2.1) (gh (fun _ h=>rh_loadmS (ds:=[V3 A a b,V3 B c d]) tf25 u u u h.2.2) (gn ?_)))
 obtain⟨fv,da,db⟩:=ob bg
 refine lk co13 ((bag_laws_toConf F) aH.enter0 (SliceAt.mono ((((((((G.le.trans R.le).trans H.le).trans J.le).trans T.le).trans m.le).trans q.le).trans s.le).trans x.le) am) (SliceAt.mono ((((((((G.le.trans R.le).trans H.le).trans J.le).trans T.le).trans m.le).trans q.le).trans s.le).trans x.le) an) da) ?_
 rintro fw fx ⟨fy,fz,fA,fB,fC,fD,fE,B186,rfl,y,bR,bS⟩
 have dc:=bR.mono only_le
 have dd:=bS.mono only_le
 have aI:=(aH.c0 y).t11
 refine wl_nil (qh ⟨aI.hasK y.le,aI.hasObj m4,aI.hasObj m10⟩ (fun _=>trivial) (gn ?_))
 obtain⟨fF,de,df⟩:=ob db
 refine lk co17 (ok_laws_eqConf F aI.enter0 (SliceAt.mono (((q.le.trans s.le).trans x.le).trans y.le) bF) (SliceAt.mono (((q.le.trans s.le).trans x.le).trans y.le) bG) dc dd de) ?_
 rintro fG fH ⟨bT,rfl,I⟩
 have aJ:=(aI.c0 I).t11
 refine wl_nil (qh ⟨aJ.hasK (y.le.trans I.le),aJ.hasObj m4,aJ.hasObj m10⟩ (fun _=>trivial) (gt (rv_not u) (gd' (qe_seq (wcc df u (fun dg bh=>?_) (fun dg bh=>?_))))))
 ·refine sr (lv (r_f u) (nq (rr ?_)))
  cases oi bh
  exact ey results4 ⟨bT,u,aJ.s⟩
 refine wc_skip (qs (wc_seq ?_))
 have aK:=aJ.drew
 refine wh1 (fun w'=>Holds bT w'∧HasObj bM [V3 aB aC aD,V3 aE aF aG] w'∧HasObj ae [V3 C f i,V3 D k l] w') (fun w'=>True) 5 [] mixed ⟨aK.hasK kr,aK.hasObj m2,aK.hasObj m9⟩ (fun _=>trivial) (gh (fun _ h=>rh_loadmS (ds:=[V3 aB aC aD,V3 aE aF aG]) tf51 u u u h.2.1) (gh (fun _ h=>rh_loadmS (ds:=[V3 C f i,V3 D k l]) tf43 u u u h.2.2) (gn ?_)))
 obtain⟨fI,dh,di⟩:=ob bh
 refine lk co14 ((bag_laws_toSeg F) aK.enter0 (SliceAt.mono ((((((((((G.le.trans R.le).trans H.le).trans J.le).trans T.le).trans m.le).trans q.le).trans s.le).trans x.le).trans y.le).trans I.le) ao) (SliceAt.mono ((((((((((G.le.trans R.le).trans H.le).trans J.le).trans T.le).trans m.le).trans q.le).trans s.le).trans x.le).trans y.le).trans I.le) ap) dh) ?_
 rintro fJ fK ⟨fL,fM,fN,fO,fP,fQ,fR,B218,rfl,O,bU,bV⟩
 have dj:=bU.mono only_le
 have dk:=bV.mono only_le
 have aL:=(aK.c0 O).t12
 refine wl_nil (qh ⟨aL.hasK O.le,aL.hasObj m3,aL.hasObj m10⟩ (fun _=>trivial) (gn ?_))
 obtain⟨fS,dl,dm⟩:=ob di
 refine lk co18 (ok_laws_eqSeg F aL.enter0 (SliceAt.mono ((((s.le.trans x.le).trans y.le).trans I.le).trans O.le) bK) (SliceAt.mono ((((s.le.trans x.le).trans y.le).trans I.le).trans O.le) bL) dj dk dl) ?_
 rintro fT fU ⟨dn,rfl,S⟩
 have ah:=(aL.c0 S).t12
 refine wl_nil (qh ⟨ah.hasK (O.le.trans S.le),ah.hasObj m3,ah.hasObj m10⟩ (fun _=>trivial) (gt (rv_not u) (gd' (qe_seq (wcc dm u (fun dp bi=>?_) (fun dp bi=>?_))))))
 ·refine sr (lv (r_f u) (nq (rr ?_)))
  cases oi bi
  exact ey results4 ⟨dn,u,ah.s⟩
 refine wc_skip (qr (lv (rv_assign (v:=V6 1) u) (nr (lv (rv_loadmS (ds:=[V3 au aw ax,V3 ay az aA]) tf33 u m5 ah u u) (mv u ?_)))))
 obtain⟨fV,dq,dr⟩:=ob bi
 have bj:=ah.f6
 have hd246: ∀b∈B136,b∉B111:=SH.bag_off bj _ m4
 have bW:=SliceAt.mono (only_but2 hd246) (SliceAt.mono (only_mono (((((s.le.trans x.le).trans y.le).trans I.le).trans O.le).trans S.le) fun _ h=>h) bI)
 have fW:=bW.mono only_le
 have hd249: ∀b∈B136,b∉B111:=SH.bag_off bj _ m4
 have bX:=SliceAt.mono (only_but2 hd249) (SliceAt.mono (only_mono (((((s.le.trans x.le).trans y.le).trans I.le).trans O.le).trans S.le) fun _ h=>h) bJ)
 have fX:=bX.mono only_le
 have ai:=bj.f3.f1
 have dt:=SH.flat_but (t:=tStr) (fun h=>h) ai (SliceAt.mono ((((x.le.trans y.le).trans I.le).trans O.le).trans S.le) bN)
 have hd255: ∀b∈B186,b∉B111:=SH.bag_off ai _ m2
 have bY:=SliceAt.mono (only_but2 hd255) (SliceAt.mono (only_mono ((I.le.trans O.le).trans S.le) fun _ h=>h) bR)
 have fY:=bY.mono only_le
 have hd258: ∀b∈B186,b∉B111:=SH.bag_off ai _ m2
 have bZ:=SliceAt.mono (only_but2 hd258) (SliceAt.mono (only_mono ((I.le.trans O.le).trans S.le) fun _ h=>h) bS)
 have fZ:=bZ.mono only_le
 have hd261: ∀b∈B218,b∉B111:=SH.bag_off ai _ m1
 have ca:=SliceAt.mono (only_but2 hd261) (bU.mono (only_mono S.le fun _ h=>h))
 have ga:=ca.mono only_le
 have hd264: ∀b∈B218,b∉B111:=SH.bag_off ai _ m1
 have cb:=SliceAt.mono (only_but2 hd264) (bV.mono (only_mono S.le fun _ h=>h))
 have gb:=cb.mono only_le
 have hM267:=SH.toMk hS.holds ai
 refine lk co19 (ok_laws_markConf F hM267.e1 (SliceAt.mono (only_mono ((((((q.le.trans s.le).trans x.le).trans y.le).trans I.le).trans O.le).trans S.le) fun _ h=>h) bD) (SliceAt.mono (only_mono ((((((q.le.trans s.le).trans x.le).trans y.le).trans I.le).trans O.le).trans S.le) fun _ h=>h) bE) (by decide :rng64 1) dq) ?_
 rintro gc gd ⟨ge,rfl,V,du⟩
 have cc:SH _ _ _ _ _ [_,_,_,_,_,_,_,_,_,_,_]:=SH.drop (SH.call (Lin:=[_]) hM267 V)
 refine av u (nr (lv (rv_loadmS (ds:=[V3 aB aC aD,V3 aE aF aG]) tf51 u m3 cc u u) (mv u ?_)))
 obtain⟨gg,dv,dw⟩:=ob dr
 have aj:=cc.f4.f1.f1
 have cd:=SH.flat_but (t:=tStr) (fun h=>h) aj (dt.mono V.le)
 have hd281: ∀b∈B186,b∉B136:=SH.bag_off aj _ m2
 have dx:=SliceAt.mono (only_but2 hd281) (bY.mono (only_mono V.le fun _ h=>h))
 have gj:=dx.mono only_le
 have hd284: ∀b∈B186,b∉B136:=SH.bag_off aj _ m2
 have dy:=SliceAt.mono (only_but2 hd284) (bZ.mono (only_mono V.le fun _ h=>h))
 have gk:=dy.mono only_le
 have hd287: ∀b∈B218,b∉B136:=SH.bag_off aj _ m1
 have dz:=SliceAt.mono (only_but2 hd287) (ca.mono (only_mono V.le fun _ h=>h))
 have gl:=dz.mono only_le
 have hd290: ∀b∈B218,b∉B136:=SH.bag_off aj _ m1
 have dA:=SliceAt.mono (only_but2 hd290) (cb.mono (only_mono V.le fun _ h=>h))
 have gm:=dA.mono only_le
 have hM293:=SH.toMk hS.holds aj
 refine lk co20 (ok_laws_markSeg F hM293.e1 (bW.mono (only_mono V.le fun _ h=>h)) (bX.mono (only_mono V.le fun _ h=>h)) du dv) ?_
 rintro go gp ⟨ce,rfl,ab,gq⟩
 have bk:SH _ _ _ _ _ [_,_,_,_,_,_,_,_,_,_]:=SH.drop (SH.call (Lin:=[_]) hM293 ab)
 refine av u (ns (wc_seq ?_))
 obtain⟨dB,dC,dD⟩:=ob dw
 refine wc_cutg (IV w K [] ce [(2,sv q2),(3,pt ad),(4,pt ae),(8,V3 aZ ba bb),(11,V3 bd be bf),(70,.bool dB)] [obj ad [V3 A a b,V3 B c d] 25,obj ae [V3 C f i,V3 D k l] 43,tail (V3 aZ ba bb) 9 1,tail (V3 bd be bf) 9 1,bag B218,bag B186,bag B80,bag B61]) ?_ ?_
 ·refine wc_region (mv u (lv (rv_lss u u) (mv u (bt dC (fun X bl=>?_) (fun X bl=>?_)))))
  ·refine lu X (lu X (lu X (lu X (lv (p_t u X u) (wl_nil ?_)))))
   cases oi bl
   exact qd ⟨ce,u,bk.f7.f7.f4.f4.f4.f7.f8.f9.s,kr⟩
  refine lg X (rv_move u) (lg X (rv_move u) ?_)
  obtain⟨gr,dE,dF⟩:=ob bl
  refine wl_call (wg u u X) u (rt_call (vs:=[V3 bd be bf,V3 aZ ba bb]) co16 u) (ok_laws_eqStringS F bk.enter0 (cd.mono ab.le) (SliceAt.mono ((le_but ((le_but (((((((m.le.trans q.le).trans s.le).trans x.le).trans y.le).trans I.le).trans O.le).trans S.le) U.holds fun b hb=>(m.bag_new b hb).1).trans V.le) (fun b o v e=>Y.holds b o v (m.le b o v e)) fun b hb=>(q.bag_new b hb).1).trans ab.le) bc) dE) ?_
  rintro gv gw ⟨dG,rfl,cf⟩
  refine⟨_,u,?_⟩
  have dH:=(bk.c0 cf).t10
  refine lg X (rv_not u) (lv (rv_pick_f u X u) (wl_nil ?_))
  cases oi dF
  exact qd ⟨dG,u,dH.f7.f7.f4.f4.f4.f7.f8.f9.s,cf.le⟩
 rintro _ gx ⟨dI,rfl,cg,ak⟩
 refine qe_seq (wcc dD u (fun dJ bm=>?_) (fun dJ bm=>?_))
 ·refine sr (lv (r_f u) (nq (rr ?_)))
  cases oi bm
  exact ey results4 ⟨dI,u,cg.s⟩
 refine wc_skip (qr (lv (rv_assign (v:=V6 1) u) (nr (mv u (mv u ?_)))))
 obtain⟨gy,dK,dL⟩:=ob bm
 refine lk co21 ((xc_laws_markStringS F) hS.holds cg.f3 (cd.mono (ab.le.trans ak)) (by decide :rng64 1) dK) ?_
 rintro gz gA ⟨gB,rfl,dM,ch,aM,gC⟩
 have cj:SH _ _ _ _ _ [_,_,_,_,_,_,_,_]:=dM
 refine av u (nr (lv (rv_assign (v:=V6 1) u) (nr (mv u (mv u ?_)))))
 obtain⟨gD,dN,dO⟩:=ob dL
 refine lk co22 (ok_laws_heldStringS F cj.enter0 ch (by decide :rng64 1) dN) ?_
 rintro gE gF ⟨bn,rfl,af,gG⟩
 have bo:=(cj.c0 af).t8
 refine av u (nsr (mv u (lv (rv_lss u u) (nq (wcc dO u (fun dP bp=>?_) (fun dP bp=>?_))))))
 ·refine sr (lv (r_f u) (nq (rr ?_)))
  cases oi bp
  exact ey results4 ⟨bn,u,bo.s⟩
 refine wc_skip (qs (sr (mv u (mv u (lv (rv_neq u u) (nq (wcc bp u (fun dQ bq=>?_) (fun dQ bq=>?_))))))))
 ·refine sr (lv (r_f u) (nq (rr ?_)))
  cases oi bq
  exact ey results4 ⟨bn,u,bo.s⟩
 refine wc_skip (qs ?_)
 have aN:=bo.drew
 refine j_0 (fun w'=>Holds bn w'∧HasObj ad [V3 A a b,V3 B c d] w'∧HasObj ae [V3 C f i,V3 D k l] w') 7 [] mixed ⟨aN.hasK kr,aN.hasObj m1,aN.hasObj m2⟩ (jh 0 u (fun _ h=>rh_loadmS (ds:=[V3 A a b,V3 B c d]) tf25 u u u h.2.1) (jh 2 u (fun _ h=>rh_loadmS (ds:=[V3 C f i,V3 D k l]) tf43 u u u h.2.2) (jv 4 u (rv_move u) (j1 1 u ?_))))
 obtain⟨gH,dR,dS⟩:=ob bq
 refine lk co13 ((bag_laws_toConf F) aN.enter0 (SliceAt.mono (((((((G.le.trans R.le).trans H.le).trans J.le).trans T.le).trans (le_but (((le_but ((le_but (((((((m.le.trans q.le).trans s.le).trans x.le).trans y.le).trans I.le).trans O.le).trans S.le) U.holds fun b hb=>(m.bag_new b hb).1).trans V.le) (fun b o v e=>Y.holds b o v (m.le b o v e)) fun b hb=>(q.bag_new b hb).1).trans ab.le).trans ak) (fun b o v e=>aa.holds b o v ((m.le.trans q.le) b o v e)) (SH.tail_new s))).trans aM).trans af.le) am) (SliceAt.mono (((((((G.le.trans R.le).trans H.le).trans J.le).trans T.le).trans (le_but (((le_but ((le_but (((((((m.le.trans q.le).trans s.le).trans x.le).trans y.le).trans I.le).trans O.le).trans S.le) U.holds fun b hb=>(m.bag_new b hb).1).trans V.le) (fun b o v e=>Y.holds b o v (m.le b o v e)) fun b hb=>(q.bag_new b hb).1).trans ab.le).trans ak) (fun b o v e=>aa.holds b o v ((m.le.trans q.le) b o v e)) (SH.tail_new s))).trans aM).trans af.le) an) dR) ?_
 rintro gI gJ ⟨gK,gL,gM,gN,gO,gP,gQ,B373,rfl,ac,dT,dU⟩
 have dV:=dT.mono only_le
 have dW:=dU.mono only_le
 have aO:=(aN.c0 ac).t9
 refine j_o ⟨aO.hasK ac.le,aO.hasObj m2,aO.hasObj m3⟩ (j1 3 u ?_)
 obtain⟨gR,dX,dY⟩:=ob dS
 refine lk co14 ((bag_laws_toSeg F) aO.enter0 (SliceAt.mono ((((((((G.le.trans R.le).trans H.le).trans J.le).trans T.le).trans (le_but (((le_but ((le_but (((((((m.le.trans q.le).trans s.le).trans x.le).trans y.le).trans I.le).trans O.le).trans S.le) U.holds fun b hb=>(m.bag_new b hb).1).trans V.le) (fun b o v e=>Y.holds b o v (m.le b o v e)) fun b hb=>(q.bag_new b hb).1).trans ab.le).trans ak) (fun b o v e=>aa.holds b o v ((m.le.trans q.le) b o v e)) (SH.tail_new s))).trans aM).trans af.le).trans ac.le) ao) (SliceAt.mono ((((((((G.le.trans R.le).trans H.le).trans J.le).trans T.le).trans (le_but (((le_but ((le_but (((((((m.le.trans q.le).trans s.le).trans x.le).trans y.le).trans I.le).trans O.le).trans S.le) U.holds fun b hb=>(m.bag_new b hb).1).trans V.le) (fun b o v e=>Y.holds b o v (m.le b o v e)) fun b hb=>(q.bag_new b hb).1).trans ab.le).trans ak) (fun b o v e=>aa.holds b o v ((m.le.trans q.le) b o v e)) (SH.tail_new s))).trans aM).trans af.le).trans ac.le) ap) dX) ?_
 rintro gS gT ⟨gU,gV,gW,gX,gY,gZ,hc,B392,rfl,ag,dZ,ea⟩
 have eb:=dZ.mono only_le
 have ec:=ea.mono only_le
 have aP:=(aO.c0 ag).t10
 refine j_o ⟨aP.hasK (ac.le.trans ag.le),aP.hasObj m3,aP.hasObj m4⟩ (j1 5 u ?_)
 obtain⟨hd,ed,ee⟩:=ob dY
 refine lk co15 (ok_impl_SegTerms F aP.enter0 (dV.mono ag.le) (dW.mono ag.le) eb ec aU ed) ?_
 rintro he hf ⟨hg,hh,hi,hj,rfl,aT,ef⟩
 have aQ:=(aP.c0 aT).t11
 refine j_o ⟨aQ.hasK ((ac.le.trans ag.le).trans aT.le),aQ.hasObj m4,aQ.hasObj m5⟩ (jv 6 u (rv_assign u) (jd (qs (sr (mv u (mv u ?_))))))
 obtain⟨hk,eg,eh⟩:=ob ee
 refine lk co16 (ok_laws_eqStringS F aQ.enter0 ef (SliceAt.mono ((((((le_but (((le_but ((le_but (((((((m.le.trans q.le).trans s.le).trans x.le).trans y.le).trans I.le).trans O.le).trans S.le) U.holds fun b hb=>(m.bag_new b hb).1).trans V.le) (fun b o v e=>Y.holds b o v (m.le b o v e)) fun b hb=>(q.bag_new b hb).1).trans ab.le).trans ak) (fun b o v e=>aa.holds b o v ((m.le.trans q.le) b o v e)) (SH.tail_new s)).trans aM).trans af.le).trans ac.le).trans ag.le).trans aT.le) bc) eg) ?_
 rintro hn ho ⟨ei,rfl,ck⟩
 have br:=(aQ.c0 ck).t11
 refine lv (rv_not u) (nq (wcc eh u (fun ej bs=>?_) (fun ej bs=>?_)))
 ·refine sr (lv (r_f u) (nq (rr ?_)))
  cases oi bs
  exact ey results4 ⟨ei,u,br.s⟩
 refine wc_skip (qr (lv (rv_assign (v:=V6 1) u) (nr (mv u (mv u ?_)))))
 obtain⟨hp,ek,el⟩:=ob bs
 refine lk co22 (ok_laws_heldStringS F br.enter0 (SliceAt.mono ((((af.le.trans ac.le).trans ag.le).trans aT.le).trans ck.le) ch) (by decide :rng64 1) ek) ?_
 rintro hq hr ⟨bu,rfl,em,ht⟩
 have bv:=(br.c0 em).t11
 refine av u (nsr (mv u (lv (rv_lss u u) (nq (wcc el u (fun en bz=>?_) (fun en bz=>?_))))))
 ·refine sr (lv (r_f u) (nq (rr ?_)))
  cases oi bz
  exact ey results4 ⟨bu,u,bv.s⟩
 refine wc_skip (qs (sr (mv u (mv u (lv (rv_neq u u) (nq (wcc bz u (fun eo bA=>?_) (fun eo bA=>?_))))))))
 ·refine sr (lv (r_f u) (nq (rr ?_)))
  cases oi bA
  exact ey results4 ⟨bu,u,bv.s⟩
 refine wc_skip (qr (lv (r_t u) (nq (wc_ret ?_))))
 cases oi bA
 exact ey results4 ⟨bu,u,bv.s⟩
end Go.Proofs.YtepcfgnicnibnaaGreat
