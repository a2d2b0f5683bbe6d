/-
 Walks of the functions. Printed by gen.py.
-/
import Derived.Test.YtpjefkdclnmlfaaWalkA0
import Derived.Test.YtpjefkdclnmlfaaWalkA1
set_option linter.unusedVariables false
set_option linter.unusedSectionVars false
set_option maxRecDepth 100000
namespace Go.Proofs.Ytpjefkdclnmlfaa
set_option maxHeartbeats 4000000
open Go Go.Fk Go.RowKit Try
variable (F:Nat){w:World}{K:KMap}{Z:List Nat}{g1 g2 g3:Nat}{A B C D G H I J O R S T:Option Addr}{a b c d f i k l m n o p q s v x y aa ab ac ad ae af ag:Nat}
variable [dr:Dr]

theorem ok_laws_eqAttrS {q0:List GAttr}{q1:List GAttr}{r:Bool}(hS:SH w K [] w K [])(k:SliceAt tGAttr K A a b q0)(x:SliceAt tGAttr K B c d q1)(hm:M.laws_eqAttrS F q0 q1=some r):
  Calls prog 55 #[V3 A a b,V3 B c d] w (R_b w K r):=by
 rw [M.laws_eqAttrS] at hm
 refine ci func55 u ntmps55 (sr (lv (r_f u) (nsr (mv u (lv (rv_len underlying59 u k) (mv u (lv (rv_len underlying59 u x) (lv (rv_neq u u) (nq ?_)))))))))
 refine wc_cond u (fun l=>?_) (fun l=>?_)
 ·have m:=cond_t l hm
  refine sr (lv (r_f u) (nq (rr ?_)))
  cases oi m
  exact ey results55 ⟨K,u,hS⟩
 have m:=cond_f l hm
 refine wc_skip (qs (sr (lv (r_0 u) (nq ?_))))
 obtain⟨O,R,i⟩:=ob m
 refine wc_cutg (IE O w K [] K [] []) ?_ ?_
 ·refine wc_block ?_
  obtain⟨az,S,y⟩:=ob R
  refine qw (fun (o:Int)=>IW w K [] K [(0,V3 A a b),(1,V3 B c d),(5,V6 o)] [] (rng64 o)) S ⟨K,u,hS,kr,d_0⟩ ?_
  rintro o _ aA aB T C ⟨U,rfl,D,f,aC⟩
  refine wc_seq (sr (mv u (mv u (lv (rv_len underlying59 u (k.mono f)) (lv (rv_lss u u) (nq (wcc T u (fun V q=>?_) (fun V q=>?_))))))))
  ·refine wc_skip (qs (wc_block (wc_seq (wc_quiet mixed (by kernel_rfl) D (km u (km u ?_))))))
   obtain⟨G,W,X⟩:=ob q
   refine ki underlying59 tf84 (k.mono f) W fun Y aa aD ab ac=>?_
   obtain⟨rfl,ad,ae⟩:=ab
   have af:AtK _ Y aa [sv G.Name,V6 G.Num]:=ac
   refine kh (rq_loadS tf84 u af u) (km u (km u ?_))
   obtain⟨H,ag,ah⟩:=ob X
   refine ki underlying59 tf84 (x.mono f) ag fun ai aj aE ak al=>?_
   obtain⟨rfl,am,an⟩:=ak
   have ao:AtK _ ai aj [sv H.Name,V6 H.Num]:=al
   refine kh (rq_loadS tf84 u ao u) ?_
   obtain⟨aF,ap,aq⟩:=ob ah
   refine kc co68 (fun _ _ ar aG=>(ok_laws_eqAttr F) ar.enter0 ad ae am an ap) (kv (rv_not u) (wq_nil ?_))
   rintro aH ⟨I,J,au⟩
   refine qe_seq (wcc aq u (fun aw s=>?_) (fun aw s=>?_))
   ·refine sr (lv (r_f u) (nq (wc_ret (qe_block_ret (qe_then_ret (qe_then_ret ?_))))))
    cases oi s
    cases C _ u
    refine qe_block_ret (qe_then_ret ?_)
    cases oi y
    refine qe_then_ret ?_
    cases oi i
    exact ey results55 ⟨I,u,J⟩
   refine wc_skip (qe_block (qe_seq (wc_region (mv u (lv (rv_add u u) (av u (wl_nil ?_)))))))
   cases oi s
   exact qd ⟨_,u,I,u,J,(f.trans au),(w64_rng _)⟩
  refine wc_exit (qe_then_exit (qe_then_exit ?_))
  cases oi q
  cases C _ u
  refine qe_block_eq ?_
  cases oi y
  exact qe_mid' ⟨_,U,u,u,D,f⟩ trivial
 rintro _ aI ⟨aJ,ax,rfl,rfl,ay,aK⟩
 have i:=elim_l i
 refine qr (lv (r_t u) (nq (wc_ret ?_)))
 cases oi i
 exact ey results55 ⟨ax,u,ay⟩

theorem ok_laws_eqDoc {q0:GDoc}{q1:GDoc}{r:Bool}(hS:SH w K [] w K [])(ah:rng64 q0.Id)(J:SliceAt tGField K A a b q0.Fields)(O:SliceAt tGAttr K B c d q0.Nums)(ai:rng64 q1.Id)(R:SliceAt tGField K C f i q1.Fields)(S:SliceAt tGAttr K D k l q1.Nums)(hm:M.laws_eqDoc F q0 q1=some r):
  Calls prog 37 #[.agg #[V6 q0.Id,V3 A a b,V3 B c d],.agg #[V6 q1.Id,V3 C f i,V3 D k l]] w (R_b w K r):=by
 rw [M.laws_eqDoc] at hm
 refine ci func37 u ntmps37 (sr (bx u hS fun T aj U=>?_))
 have V:SH _ _ _ _ _ [obj T [V6 q0.Id,V3 A a b,V3 B c d] 61]:=U
 refine bx u V fun W ak X=>?_
 have m:SH _ _ _ _ _ [obj W [V6 q1.Id,V3 C f i,V3 D k l] 61,_]:=X
 refine lv (r_f u) (nsr (fl ff61_0 u tf3 m1 m u (fl ff61_0 u tf3 m0 m u (lv (rv_neq u u) (nq (wc_cond u (fun q=>?_) (fun q=>?_)))))))
 ·have s:=cond_t q hm
  refine sr (lv (r_f u) (nq (rr ?_)))
  cases oi s
  exact ey results37 ⟨K,u,m.s⟩
 have s:=cond_f q hm
 refine wc_skip (qs (sr (fl ff61_1 u tf58 m1 m u (fl ff61_1 u tf58 m0 m u ?_))))
 obtain⟨al,Y,aa⟩:=ob s
 refine lk co54 (ok_laws_eqFieldS F m.enter0 J R Y) ?_
 rintro am an ⟨ab,rfl,x⟩
 have o:=(m.c0 x).t2
 refine lv (rv_not u) (nq (wcc aa u (fun ac y=>?_) (fun ac y=>?_)))
 ·refine sr (lv (r_f u) (nq (rr ?_)))
  cases oi y
  exact ey results37 ⟨ab,u,o.s⟩
 refine wc_skip (qs (sr (fl ff61_2 u tf59 m1 o u (fl ff61_2 u tf59 m0 o u ?_))))
 obtain⟨ao,ad,ae⟩:=ob y
 refine lk co55 (ok_laws_eqAttrS F o.enter0 (O.mono x.le) (S.mono x.le) ad) ?_
 rintro ap aq ⟨H,rfl,af⟩
 have I:=(o.c0 af).t2
 refine lv (rv_not u) (nq (wcc ae u (fun ag G=>?_) (fun ag G=>?_)))
 ·refine sr (lv (r_f u) (nq (rr ?_)))
  cases oi G
  exact ey results37 ⟨H,u,I.s⟩
 refine wc_skip (qr (lv (r_t u) (nq (wc_ret ?_))))
 cases oi G
 exact ey results37 ⟨H,u,I.s⟩

theorem ok_laws_eqDocS {q0:List GDoc}{q1:List GDoc}{r:Bool}(hS:SH w K [] w K [])(l:SliceAt tGDoc K A a b q0)(y:SliceAt tGDoc K B c d q1)(hm:M.laws_eqDocS F q0 q1=some r):
  Calls prog 18 #[V3 A a b,V3 B c d] w (R_b w K r):=by
 rw [M.laws_eqDocS] at hm
 refine ci func18 u ntmps18 (sr (lv (r_f u) (nsr (mv u (lv (rv_len underlying33 u l) (mv u (lv (rv_len underlying33 u y) (lv (rv_neq u u) (nq ?_)))))))))
 refine wc_cond u (fun m=>?_) (fun m=>?_)
 ·have o:=cond_t m hm
  refine sr (lv (r_f u) (nq (rr ?_)))
  cases oi o
  exact ey results18 ⟨K,u,hS⟩
 have o:=cond_f m hm
 refine wc_skip (qs (sr (lv (r_0 u) (nq ?_))))
 obtain⟨J,O,i⟩:=ob o
 refine wc_cutg (IE J w K [] K [] []) ?_ ?_
 ·refine wc_block ?_
  obtain⟨aO,R,C⟩:=ob O
  refine qw (fun (q:Int)=>IW w K [] K [(0,V3 A a b),(1,V3 B c d),(5,V6 q)] [] (rng64 q)) R ⟨K,u,hS,kr,d_0⟩ ?_
  rintro q _ aP aQ S D ⟨T,rfl,G,f,aR⟩
  refine wc_seq (sr (mv u (mv u (lv (rv_len underlying33 u (l.mono f)) (lv (rv_lss u u) (nq (wcc S u (fun U s=>?_) (fun U s=>?_))))))))
  ·refine wc_skip (qs (wc_block (wc_seq (wc_quiet mixed (by kernel_rfl) G (km u (km u ?_))))))
   obtain⟨V,W,X⟩:=ob s
   refine ki underlying33 tf61 (l.mono f) W fun Y aa aS ab ac=>?_
   obtain⟨ad,ae,af,ag,ah,ai,rfl,aj,ak,al⟩:=ab
   have am:AtK _ Y aa [V6 V.Id,V3 ad ae af,V3 ag ah ai]:=ac
   refine kh (rq_loadS tf61 u am u) (km u (km u ?_))
   obtain⟨an,ao,ap⟩:=ob X
   refine ki underlying33 tf61 (y.mono f) ao fun aq ar aT au aw=>?_
   obtain⟨ax,ay,az,aA,aB,aC,rfl,aD,aE,aF⟩:=au
   have aG:AtK _ aq ar [V6 an.Id,V3 ax ay az,V3 aA aB aC]:=aw
   refine kh (rq_loadS tf61 u aG u) ?_
   obtain⟨aU,aH,aI⟩:=ob ap
   refine kc co37 (fun _ _ aJ k=>(ok_laws_eqDoc F) aJ.enter0 aj (ak.mono k) (al.mono k) aD (aE.mono k) (aF.mono k) aH) (kv (rv_not u) (wq_nil ?_))
   rintro aV ⟨H,I,aK⟩
   refine qe_seq (wcc aI u (fun aL x=>?_) (fun aL x=>?_))
   ·refine sr (lv (r_f u) (nq (wc_ret (qe_block_ret (qe_then_ret (qe_then_ret ?_))))))
    cases oi x
    cases D _ u
    refine qe_block_ret (qe_then_ret ?_)
    cases oi C
    refine qe_then_ret ?_
    cases oi i
    exact ey results18 ⟨H,u,I⟩
   refine wc_skip (qe_block (qe_seq (wc_region (mv u (lv (rv_add u u) (av u (wl_nil ?_)))))))
   cases oi x
   exact qd ⟨_,u,H,u,I,(f.trans aK),(w64_rng _)⟩
  refine wc_exit (qe_then_exit (qe_then_exit ?_))
  cases oi s
  cases D _ u
  refine qe_block_eq ?_
  cases oi C
  exact qe_mid' ⟨_,T,u,u,G,f⟩ trivial
 rintro _ aW ⟨aX,aM,rfl,rfl,aN,aY⟩
 have i:=elim_l i
 refine qr (lv (r_t u) (nq (wc_ret ?_)))
 cases oi i
 exact ey results18 ⟨aM,u,aN⟩

theorem ok_laws_markText {q0:Int}{r:Str}(hS:SH w K [] w K [])(y:rng64 q0)(hm:M.laws_markText F q0=some r):
  Calls prog 26 #[V6 q0] w fun e w'=>∃K',e= .returned (sv r)∧SH w K [] w' K' []∧r.length≤maxLen:=by
 rw [M.laws_markText] at hm
 refine ci func26 u ntmps26 (sr (lv (r_s u) (nsr (mv u (lv (rv_leq u u) (nq (wc_cond u (fun b=>?_) (fun b=>?_))))))))
 ·have c:=cond_t b hm
  refine sr (lv (rv_assign (v:=sv [109,48]) u) (nq (rr ?_)))
  cases oi c
  exact ey results26 ⟨K,u,hS,(by decide :([109,48]:Str).length≤maxLen)⟩
 have c:=cond_f b hm
 refine wc_skip (qr (lv (r_s u) (ns ?_)))
 obtain⟨i,A,B⟩:=ob c
 refine wc_cutg (IW w K [] K [(3,sv i)] [] (i.length≤maxLen)) ?_ ?_
 ·refine wc_block ?_
  obtain⟨ac,C,D⟩:=ob A
  refine qw (fun (a:Int×Str)=>IW w K [] K [(0,V6 a.1),(3,sv a.2)] [] (rng64 a.1∧a.2.length≤maxLen)) C ⟨K,u,hS,kr,y,(by decide :([]:Str).length≤maxLen)⟩ ?_
  rintro a _ ad ae G H ⟨I,rfl,k,l,af,J⟩
  refine wc_seq (sr (mv u (lv (rv_gtr u u) (nq (wcc G u (fun O d=>?_) (fun O d=>?_))))))
  ·refine wc_skip (qe_seq (wc_block (sr (mv u ?_))))
   obtain⟨f,R,S⟩:=ob d
   refine lv (rv_rem u u R) (lv (rv_add u u) (lv (rv_i2b underlying3 underlying5 u) (lb tU8 (iv8 (byteOfI (w64 ((48:Int)+f)))) [iv8 (byteOfI (w64 ((48:Int)+f)))] (byteOfI (w64 ((48:Int)+f))) underlying73 tf5 u k fun ag ah T U V m=>(lv (rv_b2s underlying73 underlying5 underlying9 u V m) (mv u ?_)))))
   obtain⟨ai,o,W⟩:=ob S
   refine lv (rv_sadd u u o) (av u (nq (wc_region (mv u ?_))))
   obtain⟨aj,q,X⟩:=ob W
   refine lv (rv_quo u u q) (av u (nb ?_))
   cases oi X
   exact qd ⟨_,u,T,u,m.s,(l.trans U),(rng_quo q),(len_cat o)⟩
  refine wc_exit (qe_then_exit (qe_then_exit ?_))
  cases oi d
  cases H _ u
  refine qe_block_eq ?_
  cases oi D
  exact qd ⟨I,u,k,l,J⟩
 rintro _ w9 ⟨Y,rfl,aa,al,am⟩
 refine qr (mv u ?_)
 obtain⟨an,x,ab⟩:=ob B
 refine lv (rv_sadd (s:=([109]:Str)) u u x) (av u (nq (wc_ret ?_)))
 cases oi ab
 exact ey results26 ⟨Y,u,aa,(len_cat x)⟩

theorem ok_laws_markFieldS {B:List Nat}{KM:KMap}{q0:List GField}{q1:Int}{r:Int}(hS:SH w K Z w K [mkI B KM])(d:SliceAt tGField (KM.only B) A a b q0)(C:rng64 q1)(hm:M.laws_markFieldS F q0 q1=some r):
  Calls prog 38 #[V3 A a b,V6 q1] w fun e w'=>∃K',e= .returned (V6 r)∧SH w K Z w' K' [mkI B KM]∧rng64 r:=by
 rw [M.laws_markFieldS] at hm
 refine ci func38 u ntmps38 (sr (lv (r_0 u) (nsr (lv (r_0 u) (nq ?_)))))
 obtain⟨k,D,G⟩:=ob hm
 refine wc_cutg (IW w K Z K [(1,V6 k)] [mkI B KM] (rng64 k)) ?_ ?_
 ·refine wc_block ?_
  obtain⟨ay,H,I⟩:=ob D
  refine qw (fun (c:Int×Int)=>IW w K Z K [(0,V3 A a b),(1,V6 c.1),(5,V6 c.2)] [mkI B KM] (rng64 c.1∧rng64 c.2)) H ⟨K,u,hS,kr,C,d_0⟩ ?_
  rintro c _ az aA J O ⟨R,rfl,f,l,m,aB⟩
  refine wc_seq (sr (mv u (mv u (lv (rv_len underlying58 u d) (lv (rv_lss u u) (nq (wcc J u (fun S i=>?_) (fun S i=>?_))))))))
  ·refine wc_skip (qs (wc_block (sr (mv u (mv u (mv u ?_))))))
   obtain⟨T,U,V⟩:=ob i
   refine lk co26 (ok_laws_markText F f.enter0 m U) ?_
   rintro aC aD ⟨aE,rfl,o,aF⟩
   have W:=(f.c0 o).t1
   obtain⟨q,X,Y⟩:=ob V
   refine li underlying58 tf82 d X fun aa ab aG ac ad=>?_
   obtain⟨rfl,aH,aI⟩:=ac
   have ae:AtK _ aa ab [sv q.Name,sv q.Text]:=ad
   refine fa ff82_0 u (mk_store (v:=sv T) wn tf9 u u u W (ae 0 _ u) u fun aJ s=>(nr (mv u (lv (rv_add u u) (av u (nr (mv u (mv u (mv u ?_)))))))))
   obtain⟨af,ag,ah⟩:=ob Y
   refine lk co26 (ok_laws_markText F s.enter0 (w64_rng _) ag) ?_
   rintro aK aL ⟨ai,rfl,x,aM⟩
   have aj:=(s.c0 x).t1
   obtain⟨y,ak,al⟩:=ob ah
   refine li underlying58 tf82 d ak fun am an aN ao ap=>?_
   obtain⟨rfl,aO,aP⟩:=ao
   have aq:AtK _ am an [sv y.Name,sv y.Text]:=ap
   refine fa ff82_1 u (mk_store (v:=sv af) wn tf9 u u u aj (aq 1 _ u) u fun aQ ar=>(nq (wc_region (mv u (lv (rv_add u u) (av u (nb (qe_seq (wc_region ?_)))))))))
   refine mv u (lv (rv_add u u) (av u (wl_nil ?_)))
   cases oi al
   exact qd ⟨_,u,ai,u,ar,((l.trans o.le).trans x.le),(w64_rng _),(w64_rng _)⟩
  refine wc_exit (qe_then_exit (qe_then_exit ?_))
  cases oi i
  cases O _ u
  refine qe_block_eq ?_
  cases oi I
  exact qd ⟨R,u,f,l,m⟩
 rintro _ aR ⟨K9,rfl,aw,aS,ax⟩
 refine qr (mv u (av u (nq (wc_ret ?_))))
 cases oi G
 exact ey results38 ⟨K9,u,aw,ax⟩

theorem hx_laws_markFieldS (F:Nat){w:World}{K:KMap}{a1:Option Addr}{n2 c3:Nat}{B f0:List Nat}{H:KMap}{p0_a:List GField}{p1_k r:Int}(hS:SH w K (List.flatMap Item.gs [hp B H]) w K [hp B H])(hB0: ∀b∈f0,b∈B)(hN0:f0.Nodup)(ho0:RowO oField H f0 (.slice a1 n2 c3) p0_a)(hr5:rng64 p1_k)(hm:M.laws_markFieldS F p0_a p1_k=some r):
  Calls Try.prog 38 #[.slice a1 n2 c3,.int .i64 p1_k] w fun e w'=>∃(K' H':KMap),e= .returned (.int .i64 r)∧SH w K (List.flatMap Item.gs [hp B H]) w' K' [hp B H']∧rng64 r∧RowO oField H' f0 (.slice a1 n2 c3) (mkRow (stepGField F) p1_k p0_a).1∧r=(mkRow (stepGField F) p1_k p0_a).2∧∀b,b∉f0→H' b=H b:=by
 rw [M.laws_markFieldS] at hm
 refine calls_in Try.func38 u Try.ntmps38 u ?_
 refine sr ?_
 refine wl_val wn u (rv_assign (v:=.int .i64 0) u) ?_
 refine nsr ?_
 refine wl_val wn u (rv_assign (v:=.int .i64 0) u) ?_
 refine nq ?_
 obtain⟨o6,h7,h8⟩:=ob hm
 refine wc_cutg (fun E' w'=>∃(K9 H9:KMap),E'=[(1,.int .i64 o6)]∧SH w K (List.flatMap Item.gs [hp B H]) w' K9 [hp B H9]∧KLe K K9∧rng64 o6∧RowO oField H9 f0 (.slice a1 n2 c3) (mkRow (stepGField F) p1_k p0_a).1∧o6=(mkRow (stepGField F) p1_k p0_a).2∧∀b,b∉f0→H9 b=H b) ?_ ?_
 ·refine wc_block ?_
  obtain⟨r15,h16,h17⟩:=ob h7
  refine wc_while' (fun (s14:Int×Int) E' w'=>∃(K18 H18:KMap) (i18:Nat),E'=[(0,.slice a1 n2 c3),(1,.int .i64 s14.1),(5,.int .i64 s14.2)]∧SH w K (List.flatMap Item.gs [hp B H]) w' K18 [hp B H18]∧KLe K K18∧rng64 s14.1∧rng64 s14.2∧s14.2=(i18:Int)∧s14.1=mkAt (stepGField F) p1_k p0_a i18∧RowO oField H18 f0 (.slice a1 n2 c3) (mkTo (stepGField F) p1_k p0_a i18)∧∀b,b∉f0→H18 b=H b) h16 ⟨K,H,0,u,hS,(KLe.refl _),hr5,d_0,u,u,ho0,fun _ _=>rfl⟩ ⟨u,u,u,trivial⟩ ?_
  rintro s14 _ w20 r24 h25 hx26 ⟨K18,H18,i18,rfl,hS21,hl19,hr22,hr23,hj0,hk0,hoR,hsM⟩
  have hn0:n2=p0_a.length:=hoR.sl.1.trans mkTo_len
  refine wc_seq ?_
  refine sr ?_
  refine vm u u ?_
  refine vm u u ?_
  refine wl_val wn u (rv_lenRow Try.underlying58 u hn0) ?_
  refine wl_val wn u (rv_lss u u) ?_
  refine nq ?_
  refine wc_cond u (fun hb27=>?_) (fun hb27=>?_)
  ·have h28:=cond_t hb27 h25
   refine wc_skip ?_
   refine qs ?_
   refine wc_block ?_
   refine sr ?_
   refine vm u u ?_
   refine vm u u ?_
   refine vm u u ?_
   obtain⟨r29,hx30,h31⟩:=ob h28
   refine wl_call wn u (rt_call (vs:=[.int .i64 s14.1]) co26 u) ((ok_laws_markText F) hS21.enter0 hr22 hx30) ?_
   rintro e36 w33 ⟨K32,rfl,hS34,hl35⟩
   refine⟨_,u,?_⟩
   have hS37:SH _ _ _ _ _ [_]:=SH.call0 hS21 hS34
   obtain⟨x38,hx39,h40⟩:=ob h31
   obtain⟨g0,fi0,u0,rfl,_,hgf0,hff0,hgn0,hfn0,hu0,hA0,hcl0⟩:=RowO.at hoR hN0 (mkTo_get (step:=(stepGField F)) (k:=p1_k) hj0 hx39)
   obtain⟨hq0,hf0⟩:=hu0
   subst hf0
   obtain⟨rfl,_⟩:=hq0
   have hE0:El H18 H18 g0 (s14.2.toNat*2) 2 [] [sv x38.Name,sv x38.Text]:=El.start hA0
   refine wl_val wn u (rv_indexRow (t:=tGField) (xs:=p0_a) Try.underlying58 tf82 u u hn0 hx39) ?_
   refine wl_val wn u (rv_fieldAddr ff82_0 u) ?_
   refine hp_store (v:=sv r29) wn tf9 (by exact rfl) u u hS37 (hB0 _ hgf0) (hE0.1 0 _ u) ?_
   intro w49 hSq0
   have hS50:SH _ _ _ _ _ [hp B (poke H18 g0 ((s14.2.toNat*2)+0) (sv r29))]:=hSq0
   have hE1:El H18 (poke H18 g0 ((s14.2.toNat*2)+0) (sv r29)) g0 (s14.2.toNat*2) 2 [] [sv r29,sv x38.Text]:=El.poke hE0 (by decide)
   have hsM1:=off_poke (p:=(s14.2.toNat*2)+0) (v:=sv r29) hsM hgf0
   refine nr ?_
   refine vm u u ?_
   refine wl_val wn u (rv_add u u) ?_
   refine va u u ?_
   refine nr ?_
   refine vm u u ?_
   refine vm u u ?_
   refine vm u u ?_
   obtain⟨r51,hx52,h53⟩:=ob h40
   refine wl_call wn u (rt_call (vs:=[.int .i64 (w64 (s14.1+(1:Int)))]) co26 u) ((ok_laws_markText F) hS50.enter0 (w64_rng _) hx52) ?_
   rintro e58 w55 ⟨K54,rfl,hS56,hl57⟩
   refine⟨_,u,?_⟩
   have hS59:SH _ _ _ _ _ [_]:=SH.call0 hS50 hS56
   obtain⟨x60,hx61,h62⟩:=ob h53
   have hxe60:x38=x60:=oi (hx39.symm.trans hx61)
   subst hxe60
   refine wl_val wn u (rv_indexRow (t:=tGField) (xs:=p0_a) Try.underlying58 tf82 u u hn0 hx61) ?_
   refine wl_val wn u (rv_fieldAddr ff82_1 u) ?_
   refine hp_store (v:=sv r51) wn tf9 (by exact rfl) u u hS59 (hB0 _ hgf0) (hE1.1 1 _ u) ?_
   intro w71 hSq1
   have hS72:SH _ _ _ _ _ [hp B (poke (poke H18 g0 ((s14.2.toNat*2)+0) (sv r29)) g0 ((s14.2.toNat*2)+1) (sv r51))]:=hSq1
   have hE2:El H18 (poke (poke H18 g0 ((s14.2.toNat*2)+0) (sv r29)) g0 ((s14.2.toNat*2)+1) (sv r51)) g0 (s14.2.toNat*2) 2 [] [sv r29,sv r51]:=El.poke hE1 (by decide)
   have hsM2:=off_poke (p:=(s14.2.toNat*2)+1) (v:=sv r51) hsM1 hgf0
   refine nq ?_
   refine wc_region ?_
   refine vm u u ?_
   refine wl_val wn u (rv_add u u) ?_
   refine va u u ?_
   refine nb ?_
   refine qe_seq ?_
   refine wc_region ?_
   refine vm u u ?_
   refine wl_val wn u (rv_add u u) ?_
   refine va u u ?_
   refine wl_nil ?_
   obtain rfl:=oi h62
   have hnx:=mkTo_next (step:=(stepGField F)) (k:=p1_k) hj0 hx39
   rw [←hk0] at hnx
   have hro:=hcl0 (poke (poke H18 g0 ((s14.2.toNat*2)+0) (sv r29)) g0 ((s14.2.toNat*2)+1) (sv r51)) (.agg #[sv r29,sv r51]) _ (show oField.own _ [] _ (⟨r29,r51⟩:GField) from⟨⟨u,hl35,hl57⟩,u⟩) hE2.1 hE2.2
   obtain⟨ye,hye⟩: ∃y,y=stepGField F s14.1 x38:=⟨_,u⟩
   rw [←hye] at hnx
   unfold stepGField at hye
   rw [hx30,hx52] at hye
   simp only [Option.getD_some] at hye
   subst hye
   obtain⟨hn1,hn2,hn3⟩:=hnx
   have hmx:=Nat.le_trans (Nat.le_of_eq mkTo_len.symm) hoR.sl.max
   exact qe_mid' ⟨_,u,K54,(poke (poke H18 g0 ((s14.2.toNat*2)+0) (sv r29)) g0 ((s14.2.toNat*2)+1) (sv r51)),i18+1,u,hS72,((hl19.trans hS34.le).trans hS56.le),(w64_rng _),(w64_rng _),(by rw [hj0];exact w64_next (Nat.lt_of_lt_of_le hn3 hmx)),hn2,(by rw [←hn1];exact hro),hsM2⟩ ⟨u,u,u,trivial⟩
  ·have h28:=cond_f hb27 h25
   refine wc_exit ?_
   refine qe_then_exit ?_
   refine qe_then_exit ?_
   obtain rfl:=oi h28
   have e73:=hx26 _ u
   subst e73
   refine qe_block_eq ?_
   obtain rfl:=oi h17
   have hge0:p0_a.length≤i18:=by have:=of_decide_eq_false hb27;omega
   obtain⟨he1,he2⟩:=mkTo_end (step:=(stepGField F)) (k:=p1_k) hge0
   rw [he1] at hoR
   rw [he2] at hk0
   exact qe_mid' ⟨K18,H18,u,hS21,hl19,hr22,hoR,hk0,hsM⟩ ⟨u,trivial⟩
 ·rintro _ w11 ⟨K9,H9,rfl,hS12,hl10,hr13,hoF,hkF,hsF⟩
  refine qr ?_
  refine vm u u ?_
  refine va u u ?_
  refine nq ?_
  refine wc_ret ?_
  obtain rfl:=oi h8
  exact qe_ret (vs:=[_]) Try.results38 ⟨u,trivial⟩ ⟨K9,H9,u,hS12,hr13,hoF,hkF,hsF⟩

theorem ok_laws_markAttrS {B:List Nat}{KM:KMap}{q0:List GAttr}{q1:Int}{r:Int}(hS:SH w K Z w K [mkI B KM])(d:SliceAt tGAttr (KM.only B) A a b q0)(x:rng64 q1)(hm:M.laws_markAttrS F q0 q1=some r):
  Calls prog 39 #[V3 A a b,V6 q1] w fun e w'=>∃K',e= .returned (V6 r)∧SH w K Z w' K' [mkI B KM]∧rng64 r:=by
 rw [M.laws_markAttrS] at hm
 refine ci func39 u ntmps39 (sr (lv (r_0 u) (nsr (lv (r_0 u) (nq ?_)))))
 obtain⟨k,y,C⟩:=ob hm
 refine wc_cutg (IW w K Z K [(1,V6 k)] [mkI B KM] (rng64 k)) ?_ ?_
 ·refine wc_block ?_
  obtain⟨aq,D,G⟩:=ob y
  refine qw (fun (c:Int×Int)=>IW w K Z K [(0,V3 A a b),(1,V6 c.1),(5,V6 c.2)] [mkI B KM] (rng64 c.1∧rng64 c.2)) D ⟨K,u,hS,kr,x,d_0⟩ ?_
  rintro c _ ar au H I ⟨J,rfl,f,l,m,aw⟩
  refine wc_seq (sr (mv u (mv u (lv (rv_len underlying59 u d) (lv (rv_lss u u) (nq (wcc H u (fun O i=>?_) (fun O i=>?_))))))))
  ·refine wc_skip (qs (wc_block (sr (mv u (mv u (mv u ?_))))))
   obtain⟨R,S,T⟩:=ob i
   refine lk co26 (ok_laws_markText F f.enter0 m S) ?_
   rintro ax ay ⟨U,rfl,o,az⟩
   have V:=(f.c0 o).t1
   obtain⟨q,W,X⟩:=ob T
   refine li underlying59 tf84 d W fun Y aa aA ab ac=>?_
   obtain⟨rfl,aB,aC⟩:=ab
   have ad:AtK _ Y aa [sv q.Name,V6 q.Num]:=ac
   refine fa ff84_0 u (mk_store (v:=sv R) wn tf9 u u u V (ad 0 _ u) u fun aD ae=>(nr (mv u (lv (rv_add u u) (av u (nr (mv u (mv u (mv u ?_)))))))))
   obtain⟨s,af,ag⟩:=ob X
   refine li underlying59 tf84 d af fun ah ai aE aj ak=>?_
   obtain⟨rfl,aF,aG⟩:=aj
   have al:AtK _ ah ai [sv s.Name,V6 s.Num]:=ak
   refine fa ff84_1 u (mk_store (v:=V6 (w64 (c.1+(1:Int)))) wn tf3 u u u ae (al 1 _ u) u fun aH am=>(nq (wc_region (mv u (lv (rv_add u u) (av u (nb (qe_seq (wc_region ?_)))))))))
   refine mv u (lv (rv_add u u) (av u (wl_nil ?_)))
   cases oi ag
   exact qd ⟨_,u,U,u,am,(l.trans o.le),(w64_rng _),(w64_rng _)⟩
  refine wc_exit (qe_then_exit (qe_then_exit ?_))
  cases oi i
  cases I _ u
  refine qe_block_eq ?_
  cases oi G
  exact qd ⟨J,u,f,l,m⟩
 rintro _ aI ⟨K9,rfl,ao,aJ,ap⟩
 refine qr (mv u (av u (nq (wc_ret ?_))))
 cases oi C
 exact ey results39 ⟨K9,u,ao,ap⟩

theorem hx_laws_markAttrS (F:Nat){w:World}{K:KMap}{a1:Option Addr}{n2 c3:Nat}{B f0:List Nat}{H:KMap}{p0_a:List GAttr}{p1_k r:Int}(hS:SH w K (List.flatMap Item.gs [hp B H]) w K [hp B H])(hB0: ∀b∈f0,b∈B)(hN0:f0.Nodup)(ho0:RowO oAttr H f0 (.slice a1 n2 c3) p0_a)(hr5:rng64 p1_k)(hm:M.laws_markAttrS F p0_a p1_k=some r):
  Calls Try.prog 39 #[.slice a1 n2 c3,.int .i64 p1_k] w fun e w'=>∃(K' H':KMap),e= .returned (.int .i64 r)∧SH w K (List.flatMap Item.gs [hp B H]) w' K' [hp B H']∧rng64 r∧RowO oAttr H' f0 (.slice a1 n2 c3) (mkRow (stepGAttr F) p1_k p0_a).1∧r=(mkRow (stepGAttr F) p1_k p0_a).2∧∀b,b∉f0→H' b=H b:=by
 rw [M.laws_markAttrS] at hm
 refine calls_in Try.func39 u Try.ntmps39 u ?_
 refine sr ?_
 refine wl_val wn u (rv_assign (v:=.int .i64 0) u) ?_
 refine nsr ?_
 refine wl_val wn u (rv_assign (v:=.int .i64 0) u) ?_
 refine nq ?_
 obtain⟨o6,h7,h8⟩:=ob hm
 refine wc_cutg (fun E' w'=>∃(K9 H9:KMap),E'=[(1,.int .i64 o6)]∧SH w K (List.flatMap Item.gs [hp B H]) w' K9 [hp B H9]∧KLe K K9∧rng64 o6∧RowO oAttr H9 f0 (.slice a1 n2 c3) (mkRow (stepGAttr F) p1_k p0_a).1∧o6=(mkRow (stepGAttr F) p1_k p0_a).2∧∀b,b∉f0→H9 b=H b) ?_ ?_
 ·refine wc_block ?_
  obtain⟨r15,h16,h17⟩:=ob h7
  refine wc_while' (fun (s14:Int×Int) E' w'=>∃(K18 H18:KMap) (i18:Nat),E'=[(0,.slice a1 n2 c3),(1,.int .i64 s14.1),(5,.int .i64 s14.2)]∧SH w K (List.flatMap Item.gs [hp B H]) w' K18 [hp B H18]∧KLe K K18∧rng64 s14.1∧rng64 s14.2∧s14.2=(i18:Int)∧s14.1=mkAt (stepGAttr F) p1_k p0_a i18∧RowO oAttr H18 f0 (.slice a1 n2 c3) (mkTo (stepGAttr F) p1_k p0_a i18)∧∀b,b∉f0→H18 b=H b) h16 ⟨K,H,0,u,hS,(KLe.refl _),hr5,d_0,u,u,ho0,fun _ _=>rfl⟩ ⟨u,u,u,trivial⟩ ?_
  rintro s14 _ w20 r24 h25 hx26 ⟨K18,H18,i18,rfl,hS21,hl19,hr22,hr23,hj0,hk0,hoR,hsM⟩
  have hn0:n2=p0_a.length:=hoR.sl.1.trans mkTo_len
  refine wc_seq ?_
  refine sr ?_
  refine vm u u ?_
  refine vm u u ?_
  refine wl_val wn u (rv_lenRow Try.underlying59 u hn0) ?_
  refine wl_val wn u (rv_lss u u) ?_
  refine nq ?_
  refine wc_cond u (fun hb27=>?_) (fun hb27=>?_)
  ·have h28:=cond_t hb27 h25
   refine wc_skip ?_
   refine qs ?_
   refine wc_block ?_
   refine sr ?_
   refine vm u u ?_
   refine vm u u ?_
   refine vm u u ?_
   obtain⟨r29,hx30,h31⟩:=ob h28
   refine wl_call wn u (rt_call (vs:=[.int .i64 s14.1]) co26 u) ((ok_laws_markText F) hS21.enter0 hr22 hx30) ?_
   rintro e36 w33 ⟨K32,rfl,hS34,hl35⟩
   refine⟨_,u,?_⟩
   have hS37:SH _ _ _ _ _ [_]:=SH.call0 hS21 hS34
   obtain⟨x38,hx39,h40⟩:=ob h31
   obtain⟨g0,fi0,u0,rfl,_,hgf0,hff0,hgn0,hfn0,hu0,hA0,hcl0⟩:=RowO.at hoR hN0 (mkTo_get (step:=(stepGAttr F)) (k:=p1_k) hj0 hx39)
   obtain⟨hq0,hf0⟩:=hu0
   subst hf0
   obtain⟨rfl,_⟩:=hq0
   have hE0:El H18 H18 g0 (s14.2.toNat*2) 2 [] [sv x38.Name,.int .i64 x38.Num]:=El.start hA0
   refine wl_val wn u (rv_indexRow (t:=tGAttr) (xs:=p0_a) Try.underlying59 tf84 u u hn0 hx39) ?_
   refine wl_val wn u (rv_fieldAddr ff84_0 u) ?_
   refine hp_store (v:=sv r29) wn tf9 (by exact rfl) u u hS37 (hB0 _ hgf0) (hE0.1 0 _ u) ?_
   intro w49 hSq0
   have hS50:SH _ _ _ _ _ [hp B (poke H18 g0 ((s14.2.toNat*2)+0) (sv r29))]:=hSq0
   have hE1:El H18 (poke H18 g0 ((s14.2.toNat*2)+0) (sv r29)) g0 (s14.2.toNat*2) 2 [] [sv r29,.int .i64 x38.Num]:=El.poke hE0 (by decide)
   have hsM1:=off_poke (p:=(s14.2.toNat*2)+0) (v:=sv r29) hsM hgf0
   refine nr ?_
   refine vm u u ?_
   refine wl_val wn u (rv_add u u) ?_
   refine va u u ?_
   refine nr ?_
   refine vm u u ?_
   refine vm u u ?_
   refine vm u u ?_
   obtain⟨x51,hx52,h53⟩:=ob h40
   have hxe51:x38=x51:=oi (hx39.symm.trans hx52)
   subst hxe51
   refine wl_val wn u (rv_indexRow (t:=tGAttr) (xs:=p0_a) Try.underlying59 tf84 u u hn0 hx52) ?_
   refine wl_val wn u (rv_fieldAddr ff84_1 u) ?_
   refine hp_store (v:=.int .i64 (w64 (s14.1+(1:Int)))) wn tf3 (by exact rfl) u u hS50 (hB0 _ hgf0) (hE1.1 1 _ u) ?_
   intro w62 hSq1
   have hS63:SH _ _ _ _ _ [hp B (poke (poke H18 g0 ((s14.2.toNat*2)+0) (sv r29)) g0 ((s14.2.toNat*2)+1) (.int .i64 (w64 (s14.1+(1:Int)))))]:=hSq1
   have hE2:El H18 (poke (poke H18 g0 ((s14.2.toNat*2)+0) (sv r29)) g0 ((s14.2.toNat*2)+1) (.int .i64 (w64 (s14.1+(1:Int))))) g0 (s14.2.toNat*2) 2 [] [sv r29,.int .i64 (w64 (s14.1+(1:Int)))]:=El.poke hE1 (by decide)
   have hsM2:=off_poke (p:=(s14.2.toNat*2)+1) (v:=.int .i64 (w64 (s14.1+(1:Int)))) hsM1 hgf0
   refine nq ?_
   refine wc_region ?_
   refine vm u u ?_
   refine wl_val wn u (rv_add u u) ?_
   refine va u u ?_
   refine nb ?_
   refine qe_seq ?_
   refine wc_region ?_
   refine vm u u ?_
   refine wl_val wn u (rv_add u u) ?_
   refine va u u ?_
   refine wl_nil ?_
   obtain rfl:=oi h53
   have hnx:=mkTo_next (step:=(stepGAttr F)) (k:=p1_k) hj0 hx39
   rw [←hk0] at hnx
   have hro:=hcl0 (poke (poke H18 g0 ((s14.2.toNat*2)+0) (sv r29)) g0 ((s14.2.toNat*2)+1) (.int .i64 (w64 (s14.1+(1:Int))))) (.agg #[sv r29,.int .i64 (w64 (s14.1+(1:Int)))]) _ (show oAttr.own _ [] _ (⟨r29,(w64 (s14.1+(1:Int)))⟩:GAttr) from⟨⟨u,hl35,(w64_rng _)⟩,u⟩) hE2.1 hE2.2
   obtain⟨ye,hye⟩: ∃y,y=stepGAttr F s14.1 x38:=⟨_,u⟩
   rw [←hye] at hnx
   unfold stepGAttr at hye
   rw [hx30] at hye
   simp only [Option.getD_some] at hye
   subst hye
   obtain⟨hn1,hn2,hn3⟩:=hnx
   have hmx:=Nat.le_trans (Nat.le_of_eq mkTo_len.symm) hoR.sl.max
   exact qe_mid' ⟨_,u,K32,(poke (poke H18 g0 ((s14.2.toNat*2)+0) (sv r29)) g0 ((s14.2.toNat*2)+1) (.int .i64 (w64 (s14.1+(1:Int))))),i18+1,u,hS63,(hl19.trans hS34.le),(w64_rng _),(w64_rng _),(by rw [hj0];exact w64_next (Nat.lt_of_lt_of_le hn3 hmx)),hn2,(by rw [←hn1];exact hro),hsM2⟩ ⟨u,u,u,trivial⟩
  ·have h28:=cond_f hb27 h25
   refine wc_exit ?_
   refine qe_then_exit ?_
   refine qe_then_exit ?_
   obtain rfl:=oi h28
   have e64:=hx26 _ u
   subst e64
   refine qe_block_eq ?_
   obtain rfl:=oi h17
   have hge0:p0_a.length≤i18:=by have:=of_decide_eq_false hb27;omega
   obtain⟨he1,he2⟩:=mkTo_end (step:=(stepGAttr F)) (k:=p1_k) hge0
   rw [he1] at hoR
   rw [he2] at hk0
   exact qe_mid' ⟨K18,H18,u,hS21,hl19,hr22,hoR,hk0,hsM⟩ ⟨u,trivial⟩
 ·rintro _ w11 ⟨K9,H9,rfl,hS12,hl10,hr13,hoF,hkF,hsF⟩
  refine qr ?_
  refine vm u u ?_
  refine va u u ?_
  refine nq ?_
  refine wc_ret ?_
  obtain rfl:=oi h8
  exact qe_ret (vs:=[_]) Try.results39 ⟨u,trivial⟩ ⟨K9,H9,u,hS12,hr13,hoF,hkF,hsF⟩

theorem ok_laws_markDocS {B:List Nat}{KM:KMap}{q0:List GDoc}{q1:Int}{r:Int}(hS:SH w K Z w K [mkI B KM])(d:SliceAt tGDoc (KM.only B) A a b q0)(x:rng64 q1)(hm:M.laws_markDocS F q0 q1=some r):
  Calls prog 19 #[V3 A a b,V6 q1] w fun e w'=>∃K',e= .returned (V6 r)∧SH w K Z w' K' [mkI B KM]∧rng64 r:=by
 rw [M.laws_markDocS] at hm
 refine ci func19 u ntmps19 (sr (lv (r_0 u) (nsr (lv (r_0 u) (nq ?_)))))
 obtain⟨l,y,C⟩:=ob hm
 refine wc_cutg (IW w K Z K [(1,V6 l)] [mkI B KM] (rng64 l)) ?_ ?_
 ·refine wc_block ?_
  obtain⟨aZ,D,G⟩:=ob y
  refine qw (fun (c:Int×Int)=>IW w K Z K [(0,V3 A a b),(1,V6 c.1),(5,V6 c.2)] [mkI B KM] (rng64 c.1∧rng64 c.2)) D ⟨K,u,hS,kr,x,d_0⟩ ?_
  rintro c _ ba bb H I ⟨J,rfl,m,o,O,bc⟩
  refine wc_seq (sr (mv u (mv u (lv (rv_len underlying33 u d) (lv (rv_lss u u) (nq (wcc H u (fun R f=>?_) (fun R f=>?_))))))))
  ·refine wc_skip (qs (wc_block (sr (mv u (mv u (mv u ?_))))))
   obtain⟨S,T,U⟩:=ob f
   refine li underlying33 tf61 d T fun V W bd X Y=>?_
   obtain⟨aa,ab,ac,ad,ae,af,rfl,be,bf,bg⟩:=X
   have ag:AtK _ V W [V6 S.Id,V3 aa ab ac,V3 ad ae af]:=Y
   refine fa ff61_0 u (mk_store (v:=V6 c.1) wn tf3 u u u m (ag 0 _ u) u fun bh i=>(nr (mv u (lv (rv_add u u) (av u (nr (mv u (mv u ?_))))))))
   obtain⟨ah,ai,aj⟩:=ob U
   refine li underlying33 tf61 d ai fun ak al bi am an=>?_
   obtain⟨ao,ap,aq,ar,au,aw,rfl,bj,ax,bk⟩:=am
   have ay:AtK _ ak al [V6 ah.Id,V3 ao ap aq,V3 ar au aw]:=an
   refine fa ff61_1 u (lv (mk_load tf58 u i (ay 1 _ u)) (mv u ?_))
   obtain⟨bl,az,aA⟩:=ob aj
   refine lk co38 (ok_laws_markFieldS F i.e1 ax (w64_rng _) az) ?_
   rintro bm bn ⟨bo,rfl,q,aB⟩
   have k:=(i.c1 q).t1
   refine av u (nq (wc_region (mv u (mv u ?_))))
   obtain⟨aC,aD,aE⟩:=ob aA
   refine li underlying33 tf61 d aD fun aF aG bp aH aI=>?_
   obtain⟨aJ,aK,aL,aM,aN,aO,rfl,bq,br,aP⟩:=aH
   have aQ:AtK _ aF aG [V6 aC.Id,V3 aJ aK aL,V3 aM aN aO]:=aI
   refine fa ff61_2 u (lv (mk_load tf59 u k (aQ 2 _ u)) (mv u ?_))
   obtain⟨bs,aR,aS⟩:=ob aE
   refine lk co39 (ok_laws_markAttrS F k.e1 aP aB aR) ?_
   rintro bu bv ⟨aT,rfl,s,aU⟩
   have aV:=(k.c1 s).t1
   refine av u (nb (qe_seq (wc_region (mv u (lv (rv_add u u) (av u (wl_nil ?_)))))))
   cases oi aS
   exact qd ⟨_,u,aT,u,aV,((o.trans q.le).trans s.le),aU,(w64_rng _)⟩
  refine wc_exit (qe_then_exit (qe_then_exit ?_))
  cases oi f
  cases I _ u
  refine qe_block_eq ?_
  cases oi G
  exact qd ⟨J,u,m,o,O⟩
 rintro _ bx ⟨K9,rfl,aX,bz,aY⟩
 refine qr (mv u (av u (nq (wc_ret ?_))))
 cases oi C
 exact ey results19 ⟨K9,u,aX,aY⟩

theorem hx_laws_markDocS (F:Nat){w:World}{K:KMap}{a1:Option Addr}{n2 c3:Nat}{B f0:List Nat}{H:KMap}{p0_a:List GDoc}{p1_k r:Int}(hS:SH w K (List.flatMap Item.gs [hp B H]) w K [hp B H])(hB0: ∀b∈f0,b∈B)(hN0:f0.Nodup)(ho0:RowO oDoc H f0 (.slice a1 n2 c3) p0_a)(hr5:rng64 p1_k)(hm:M.laws_markDocS F p0_a p1_k=some r):
  Calls Try.prog 19 #[.slice a1 n2 c3,.int .i64 p1_k] w fun e w'=>∃(K' H':KMap),e= .returned (.int .i64 r)∧SH w K (List.flatMap Item.gs [hp B H]) w' K' [hp B H']∧rng64 r∧RowO oDoc H' f0 (.slice a1 n2 c3) (mkRow (stepGDoc F) p1_k p0_a).1∧r=(mkRow (stepGDoc F) p1_k p0_a).2∧∀b,b∉f0→H' b=H b:=by
 rw [M.laws_markDocS] at hm
 refine calls_in Try.func19 rfl Try.ntmps19 rfl ?_
 refine sr ?_
 refine wl_val wn rfl (rv_assign (v:=.int .i64 0) rfl) ?_
 refine nsr ?_
 refine wl_val wn rfl (rv_assign (v:=.int .i64 0) rfl) ?_
 refine nq ?_
 obtain⟨o6,h7,h8⟩:=ob hm
 refine wc_cutg (fun E' w'=>∃(K9 H9:KMap),E'=[(1,.int .i64 o6)]∧SH w K (List.flatMap Item.gs [hp B H]) w' K9 [hp B H9]∧KLe K K9∧rng64 o6∧RowO oDoc H9 f0 (.slice a1 n2 c3) (mkRow (stepGDoc F) p1_k p0_a).1∧o6=(mkRow (stepGDoc F) p1_k p0_a).2∧∀b,b∉f0→H9 b=H b) ?_ ?_
 ·refine wc_block ?_
  obtain⟨r15,h16,h17⟩:=ob h7
  refine wc_while' (fun (s14:Int×Int) E' w'=>∃(K18 H18:KMap) (i18:Nat),E'=[(0,.slice a1 n2 c3),(1,.int .i64 s14.1),(5,.int .i64 s14.2)]∧SH w K (List.flatMap Item.gs [hp B H]) w' K18 [hp B H18]∧KLe K K18∧rng64 s14.1∧rng64 s14.2∧s14.2=(i18:Int)∧s14.1=mkAt (stepGDoc F) p1_k p0_a i18∧RowO oDoc H18 f0 (.slice a1 n2 c3) (mkTo (stepGDoc F) p1_k p0_a i18)∧∀b,b∉f0→H18 b=H b) h16 ⟨K,H,0,rfl,hS,(KLe.refl _),hr5,d_0,rfl,rfl,ho0,fun _ _=>rfl⟩ ⟨rfl,rfl,rfl,trivial⟩ ?_
  rintro s14 _ w20 r24 h25 hx26 ⟨K18,H18,i18,rfl,hS21,hl19,hr22,hr23,hj0,hk0,hoR,hsM⟩
  have hn0:n2=p0_a.length:=hoR.sl.1.trans mkTo_len
  refine wc_seq ?_
  refine sr ?_
  refine vm rfl rfl ?_
  refine vm rfl rfl ?_
  refine wl_val wn rfl (rv_lenRow Try.underlying33 rfl hn0) ?_
  refine wl_val wn rfl (rv_lss rfl rfl) ?_
  refine nq ?_
  refine wc_cond rfl (fun hb27=>?_) (fun hb27=>?_)
  ·have h28:=cond_t hb27 h25
   refine wc_skip ?_
   refine qs ?_
   refine wc_block ?_
   refine sr ?_
   refine vm rfl rfl ?_
   refine vm rfl rfl ?_
   refine vm rfl rfl ?_
   obtain⟨x29,hx30,h31⟩:=ob h28
   obtain⟨g0,fi0,u0,rfl,_,hgf0,hff0,hgn0,hfn0,hu0,hA0,hcl0⟩:=RowO.at hoR hN0 (mkTo_get (step:=(stepGDoc F)) (k:=p1_k) hj0 hx30)
   obtain⟨v1,v2,fj1,fj2,rfl,_,hor1,hor2,rfl⟩:=hu0
   obtain⟨av1,nv1,cv1,rfl⟩:=hor1.val
   obtain⟨av2,nv2,cv2,rfl⟩:=hor2.val
   have hE0:El H18 H18 g0 (s14.2.toNat*3) 3 (fj1++fj2) [.int .i64 x29.Id,.slice av1 nv1 cv1,.slice av2 nv2 cv2]:=El.start hA0
   obtain⟨hnj1,hnj2,hdj⟩:=List.nodup_append.1 hfn0
   refine wl_val wn rfl (rv_indexRow (t:=tGDoc) (xs:=p0_a) Try.underlying33 tf61 rfl rfl hn0 hx30) ?_
   refine wl_val wn rfl (rv_fieldAddr ff61_0 rfl) ?_
   refine hp_store (v:=.int .i64 s14.1) wn tf3 (by exact rfl) rfl rfl hS21 (hB0 _ hgf0) (hE0.1 0 _ rfl) ?_
   intro w47 hSq0
   have hS48:SH _ _ _ _ _ [hp B (poke H18 g0 ((s14.2.toNat*3)+0) (.int .i64 s14.1))]:=hSq0
   have hE1:El H18 (poke H18 g0 ((s14.2.toNat*3)+0) (.int .i64 s14.1)) g0 (s14.2.toNat*3) 3 (fj1++fj2) [.int .i64 s14.1,.slice av1 nv1 cv1,.slice av2 nv2 cv2]:=El.poke hE0 (by decide)
   have hor1_1:=RowO.poke (p:=(s14.2.toNat*3)+0) (u:=.int .i64 s14.1) hor1 (fun h=>hgn0 (List.mem_append_left _ h))
   have hor2_1:=RowO.poke (p:=(s14.2.toNat*3)+0) (u:=.int .i64 s14.1) hor2 (fun h=>hgn0 (List.mem_append_right _ h))
   have hsM1:=off_poke (p:=(s14.2.toNat*3)+0) (v:=.int .i64 s14.1) hsM hgf0
   refine nr ?_
   refine vm rfl rfl ?_
   refine wl_val wn rfl (rv_add rfl rfl) ?_
   refine va rfl rfl ?_
   refine nr ?_
   refine vm rfl rfl ?_
   refine vm rfl rfl ?_
   obtain⟨x49,hx50,h51⟩:=ob h31
   have hxe49:x29=x49:=oi (hx30.symm.trans hx50)
   subst hxe49
   refine wl_val wn rfl (rv_indexRow (t:=tGDoc) (xs:=p0_a) Try.underlying33 tf61 rfl rfl hn0 hx50) ?_
   refine wl_val wn rfl (rv_fieldAddr ff61_1 rfl) ?_
   refine wl_val wn rfl (hp_load tf58 (by exact rfl) hS48 (hB0 _ hgf0) (hE1.1 1 _ rfl)) ?_
   refine vm rfl rfl ?_
   obtain⟨r67,hx68,h69⟩:=ob h51
   refine wl_call wn rfl (rt_call (vs:=[.slice av1 nv1 cv1,.int .i64 (w64 (s14.1+(1:Int)))]) co38 rfl) ((hx_laws_markFieldS F) (SH.enter (Lin:=[_]) hS48) (fun b hb=>hB0 b (hff0 b (List.mem_append_left _ hb))) hnj1 hor1_1 (w64_rng _) hx68) ?_
   rintro e74 w71 ⟨K70,H70,rfl,hS72,hr73,hor1_2,hke1,hsm1⟩
   have hE2:El H18 H70 g0 (s14.2.toNat*3) 3 (fj1++fj2) [.int .i64 s14.1,.slice av1 nv1 cv1,.slice av2 nv2 cv2]:=El.sub hE1 (fun h=>hgn0 (List.mem_append_left _ h)) (fun _ h=>List.mem_append_left _ h) hsm1
   have hor2_2:=RowO.sub hor2_1 hsm1 (fun b hb hb'=>hdj b hb' b hb rfl)
   have hsM2:=off_sub hsM1 hsm1 (fun b hb=>hff0 b ((fun _ h=>List.mem_append_left _ h) b hb))
   refine⟨_,rfl,?_⟩
   have hS75:SH _ _ _ _ _ [_]:=SH.call (Lin:=[_]) hS48 hS72
   refine va rfl rfl ?_
   refine nq ?_
   refine wc_region ?_
   refine vm rfl rfl ?_
   refine vm rfl rfl ?_
   obtain⟨x76,hx77,h78⟩:=ob h69
   have hxe76:x29=x76:=oi (hx30.symm.trans hx77)
   subst hxe76
   refine wl_val wn rfl (rv_indexRow (t:=tGDoc) (xs:=p0_a) Try.underlying33 tf61 rfl rfl hn0 hx77) ?_
   refine wl_val wn rfl (rv_fieldAddr ff61_2 rfl) ?_
   refine wl_val wn rfl (hp_load tf59 (by exact rfl) hS75 (hB0 _ hgf0) (hE2.1 2 _ rfl)) ?_
   refine vm rfl rfl ?_
   obtain⟨r94,hx95,h96⟩:=ob h78
   refine wl_call wn rfl (rt_call (vs:=[.slice av2 nv2 cv2,.int .i64 r67]) co39 rfl) ((hx_laws_markAttrS F) (SH.enter (Lin:=[_]) hS75) (fun b hb=>hB0 b (hff0 b (List.mem_append_right _ hb))) hnj2 hor2_2 hr73 hx95) ?_
   rintro e101 w98 ⟨K97,H97,rfl,hS99,hr100,hor2_3,hke2,hsm2⟩
   have hE3:El H18 H97 g0 (s14.2.toNat*3) 3 (fj1++fj2) [.int .i64 s14.1,.slice av1 nv1 cv1,.slice av2 nv2 cv2]:=El.sub hE2 (fun h=>hgn0 (List.mem_append_right _ h)) (fun _ h=>List.mem_append_right _ h) hsm2
   have hor1_3:=RowO.sub hor1_2 hsm2 (fun b hb hb'=>hdj b hb b hb' rfl)
   have hsM3:=off_sub hsM2 hsm2 (fun b hb=>hff0 b ((fun _ h=>List.mem_append_right _ h) b hb))
   refine⟨_,rfl,?_⟩
   have hS102:SH _ _ _ _ _ [_]:=SH.call (Lin:=[_]) hS75 hS99
   refine va rfl rfl ?_
   refine nb ?_
   refine qe_seq ?_
   refine wc_region ?_
   refine vm rfl rfl ?_
   refine wl_val wn rfl (rv_add rfl rfl) ?_
   refine va rfl rfl ?_
   refine wl_nil ?_
   obtain rfl:=oi h96
   have hnx:=mkTo_next (step:=(stepGDoc F)) (k:=p1_k) hj0 hx30
   rw [←hk0] at hnx
   have hro:=hcl0 H97 (.agg #[.int .i64 s14.1,.slice av1 nv1 cv1,.slice av2 nv2 cv2]) _ (show oDoc.own _ (fj1++fj2) _ (⟨s14.1,_,_⟩:GDoc) from⟨_,_,fj1,fj2,rfl,hr22,hor1_3,hor2_3,rfl⟩) hE3.1 hE3.2
   obtain⟨ye,hye⟩: ∃y,y=stepGDoc F s14.1 x29:=⟨_,rfl⟩
   rw [←hye] at hnx
   unfold stepGDoc at hye
   rw [←hke1,←hke2] at hye
   subst hye
   obtain⟨hn1,hn2,hn3⟩:=hnx
   have hmx:=Nat.le_trans (Nat.le_of_eq mkTo_len.symm) hoR.sl.max
   exact qe_mid' ⟨_,rfl,K97,H97,i18+1,rfl,hS102,((hl19.trans hS72.le).trans hS99.le),hr100,(w64_rng _),(by rw [hj0];exact w64_next (Nat.lt_of_lt_of_le hn3 hmx)),hn2,(by rw [←hn1];exact hro),hsM3⟩ ⟨rfl,rfl,rfl,trivial⟩
  ·have h28:=cond_f hb27 h25
   refine wc_exit ?_
   refine qe_then_exit ?_
   refine qe_then_exit ?_
   obtain rfl:=oi h28
   have e103:=hx26 _ rfl
   subst e103
   refine qe_block_eq ?_
   obtain rfl:=oi h17
   have hge0:p0_a.length≤i18:=by have:=of_decide_eq_false hb27;omega
   obtain⟨he1,he2⟩:=mkTo_end (step:=(stepGDoc F)) (k:=p1_k) hge0
   rw [he1] at hoR
   rw [he2] at hk0
   exact qe_mid' ⟨K18,H18,rfl,hS21,hl19,hr22,hoR,hk0,hsM⟩ ⟨rfl,trivial⟩
 ·rintro _ w11 ⟨K9,H9,rfl,hS12,hl10,hr13,hoF,hkF,hsF⟩
  refine qr ?_
  refine vm rfl rfl ?_
  refine va rfl rfl ?_
  refine nq ?_
  refine wc_ret ?_
  obtain rfl:=oi h8
  exact qe_ret (vs:=[_]) Try.results19 ⟨rfl,trivial⟩ ⟨K9,H9,rfl,hS12,hr13,hoF,hkF,hsF⟩

theorem xo_laws_markDocS (F:Nat){w0 w:World}{K0 K:KMap}{L:List Fk.Item}{f0:List Nat}{a:Option Addr}{n c:Nat}{xs:List GDoc}{k r:Int}(h0:Holds K0 w0)(hS:SH w0 K0 [] w K (bag f0::L))(ho:RowO oDoc K f0 (.slice a n c) xs)(hk:rng64 k)(hm:M.laws_markDocS F xs k=some r):
  Calls Try.prog 19 #[.slice a n c,.int .i64 k] w fun e w'=>∃(K':KMap),e= .returned (.int .i64 r)∧SH w0 K0 [] w' K' (bag f0::L)∧RowO oDoc K' f0 (.slice a n c) (mkRow (stepGDoc F) k xs).1∧KLe (K.but f0) K'∧rng64 r∧r=(mkRow (stepGDoc F) k xs).2:=
 omark_call h0 hS fun h1=>hx_laws_markDocS F h1 (fun _ h=>h) hS.bag_nodup ho hk hm

theorem ok_laws_heldFieldS {q0:List GField}{q1:Int}{r:Int}(hS:SH w K [] w K [])(l:SliceAt tGField K A a b q0)(S:rng64 q1)(hm:M.laws_heldFieldS F q0 q1=some r):
  Calls prog 40 #[V3 A a b,V6 q1] w (R_i w K r):=by
 rw [M.laws_heldFieldS] at hm
 refine ci func40 u ntmps40 (sr (lv (r_0 u) (nsr (lv (r_0 u) (nq ?_)))))
 obtain⟨T,U,c⟩:=ob hm
 refine wc_cutg (fun E' w'=>∃i k,T= .inl i∧E'=[(1,V6 i)]∧SH w K [] w' k []∧KLe K k∧rng64 i) ?_ ?_
 ·refine wc_block ?_
  obtain⟨aB,V,m⟩:=ob U
  refine qw (fun (d:Int×Int)=>IW w K [] K [(0,V3 A a b),(1,V6 d.1),(5,V6 d.2)] [] (rng64 d.1∧rng64 d.2)) V ⟨K,u,hS,kr,S,d_0⟩ ?_
  rintro d _ aC aD W o ⟨X,rfl,q,f,s,aE⟩
  refine wc_seq (sr (mv u (mv u (lv (rv_len underlying58 u (l.mono f)) (lv (rv_lss u u) (nq (wcc W u (fun Y x=>?_) (fun Y x=>?_))))))))
  ·refine wc_skip (qs (wc_block (wc_seq (wc_seq (wc_quiet mixed (by kernel_rfl) q (km u (km u ?_)))))))
   obtain⟨D,aa,ab⟩:=ob x
   refine ki underlying58 tf82 (l.mono f) aa fun ac ad aF ae af=>?_
   obtain⟨rfl,aG,aH⟩:=ae
   have ag:AtK _ ac ad [sv D.Name,sv D.Text]:=af
   refine kv (rv_fieldAddr ff82_0 u) (kh (rq_load1 tf9 u (ag 0 _ u)) (km u ?_))
   obtain⟨aI,G,ah⟩:=ob ab
   refine kd co26 (fun _ _ ai aJ=>(ok_laws_markText F) ai.enter0 s G) ?_
   obtain⟨_,_,_,⟨_,_,_,aK⟩,_⟩:=(ok_laws_markText F) q.enter0 s G []
   refine kv (rv_sneq u u) (wq_nil ?_)
   rintro aL ⟨aj,y,H⟩
   refine qe_seq (wcc ah u (fun ak B=>?_) (fun ak B=>?_))
   ·refine sr (lv (rv_assign (v:=V6 (-1)) u) (nq (rr (qe_block_ret (qe_then_ret (qe_then_ret ?_))))))
    cases oi B
    cases o _ u
    refine qe_block_ret (qe_then_ret ?_)
    cases oi m
    refine qe_then_ret ?_
    cases oi c
    exact ey results40 ⟨aj,u,y,(by decide :rng64 (-1))⟩
   refine wc_skip (qr (mv u (lv (rv_add u u) (av u (ns (wc_seq (wc_quiet mixed (by kernel_rfl) y (km u (km u ?_)))))))))
   obtain⟨I,al,am⟩:=ob B
   refine ki underlying58 tf82 (l.mono (f.trans H)) al fun an ao aM ap aq=>?_
   obtain⟨rfl,aN,aO⟩:=ap
   have ar:AtK _ an ao [sv I.Name,sv I.Text]:=aq
   refine kv (rv_fieldAddr ff82_1 u) (kh (rq_load1 tf9 u (ar 1 _ u)) (km u ?_))
   obtain⟨aP,J,au⟩:=ob am
   refine kd co26 (fun _ _ aw aQ=>(ok_laws_markText F) aw.enter0 (w64_rng _) J) ?_
   obtain⟨_,_,_,⟨_,_,_,aR⟩,_⟩:=(ok_laws_markText F) y.enter0 (w64_rng _) J []
   refine kv (rv_sneq u u) (wq_nil ?_)
   rintro aS ⟨O,R,ax⟩
   refine qe_seq (wcc au u (fun ay C=>?_) (fun ay C=>?_))
   ·refine sr (lv (rv_assign (v:=V6 (-1)) u) (nq (rr (qe_block_ret (qe_then_ret (qe_then_ret ?_))))))
    cases oi C
    cases o _ u
    refine qe_block_ret (qe_then_ret ?_)
    cases oi m
    refine qe_then_ret ?_
    cases oi c
    exact ey results40 ⟨O,u,R,(by decide :rng64 (-1))⟩
   refine wc_skip (qe_seq (wc_region (mv u (lv (rv_add u u) (av u (nb (qe_seq (wc_region (mv u ?_)))))))))
   refine lv (rv_add u u) (av u (wl_nil ?_))
   cases oi C
   exact qd ⟨_,u,O,u,R,((f.trans H).trans ax),(w64_rng _),(w64_rng _)⟩
  refine wc_exit (qe_then_exit (qe_then_exit ?_))
  cases oi x
  cases o _ u
  refine qe_block_eq ?_
  cases oi m
  exact qd ⟨_,X,u,u,q,f,s⟩
 rintro _ aT ⟨i,k,rfl,rfl,az,aU,aA⟩
 have c:=elim_l c
 refine qr (mv u (av u (nq (wc_ret ?_))))
 cases oi c
 exact ey results40 ⟨k,u,az,aA⟩

theorem ok_laws_heldAttrS {q0:List GAttr}{q1:Int}{r:Int}(hS:SH w K [] w K [])(m:SliceAt tGAttr K A a b q0)(O:rng64 q1)(hm:M.laws_heldAttrS F q0 q1=some r):
  Calls prog 41 #[V3 A a b,V6 q1] w (R_i w K r):=by
 rw [M.laws_heldAttrS] at hm
 refine ci func41 u ntmps41 (sr (lv (r_0 u) (nsr (lv (r_0 u) (nq ?_)))))
 obtain⟨R,S,c⟩:=ob hm
 refine wc_cutg (fun E' w'=>∃i k,R= .inl i∧E'=[(1,V6 i)]∧SH w K [] w' k []∧KLe K k∧rng64 i) ?_ ?_
 ·refine wc_block ?_
  obtain⟨au,T,o⟩:=ob S
  refine qw (fun (d:Int×Int)=>IW w K [] K [(0,V3 A a b),(1,V6 d.1),(5,V6 d.2)] [] (rng64 d.1∧rng64 d.2)) T ⟨K,u,hS,kr,O,d_0⟩ ?_
  rintro d _ aw ax U q ⟨V,rfl,s,f,x,ay⟩
  refine wc_seq (sr (mv u (mv u (lv (rv_len underlying59 u (m.mono f)) (lv (rv_lss u u) (nq (wcc U u (fun W y=>?_) (fun W y=>?_))))))))
  ·refine wc_skip (qs (wc_block (wc_seq (wc_seq (wc_quiet mixed (by kernel_rfl) s (km u (km u ?_)))))))
   obtain⟨G,X,Y⟩:=ob y
   refine ki underlying59 tf84 (m.mono f) X fun aa ab az ac ad=>?_
   obtain⟨rfl,aA,aB⟩:=ac
   have ae:AtK _ aa ab [sv G.Name,V6 G.Num]:=ad
   refine kv (rv_fieldAddr ff84_0 u) (kh (rq_load1 tf9 u (ae 0 _ u)) (km u ?_))
   obtain⟨aC,H,af⟩:=ob Y
   refine kd co26 (fun _ _ ag aD=>(ok_laws_markText F) ag.enter0 x H) ?_
   obtain⟨_,_,_,⟨_,_,_,aE⟩,_⟩:=(ok_laws_markText F) s.enter0 x H []
   refine kv (rv_sneq u u) (wq_nil ?_)
   rintro aF ⟨B,l,I⟩
   refine qe_seq (wcc af u (fun ah C=>?_) (fun ah C=>?_))
   ·refine sr (lv (rv_assign (v:=V6 (-1)) u) (nq (rr (qe_block_ret (qe_then_ret (qe_then_ret ?_))))))
    cases oi C
    cases q _ u
    refine qe_block_ret (qe_then_ret ?_)
    cases oi o
    refine qe_then_ret ?_
    cases oi c
    exact ey results41 ⟨B,u,l,(by decide :rng64 (-1))⟩
   refine wc_skip (qr (mv u (lv (rv_add u u) (av u (nsr (mv u (mv u ?_)))))))
   obtain⟨J,ai,aj⟩:=ob C
   refine li underlying59 tf84 (m.mono (f.trans I)) ai fun ak al aG am an=>?_
   obtain⟨rfl,aH,aI⟩:=am
   have ao:AtK _ ak al [sv J.Name,V6 J.Num]:=an
   refine fa ff84_1 u (lv (rv_load1 tf3 u l (ao 1 _ u)) (mv u (lv (rv_neq u u) (nq (wcc aj u (fun ap D=>?_) (fun ap D=>?_))))))
   ·refine sr (lv (rv_assign (v:=V6 (-1)) u) (nq (rr (qe_block_ret (qe_then_ret (qe_then_ret ?_))))))
    cases oi D
    cases q _ u
    refine qe_block_ret (qe_then_ret ?_)
    cases oi o
    refine qe_then_ret ?_
    cases oi c
    exact ey results41 ⟨B,u,l,(by decide :rng64 (-1))⟩
   refine wc_skip (qe_seq (wc_region (mv u (lv (rv_add u u) (av u (nb (qe_seq (wc_region (mv u ?_)))))))))
   refine lv (rv_add u u) (av u (wl_nil ?_))
   cases oi D
   exact qd ⟨_,u,B,u,l,(f.trans I),(w64_rng _),(w64_rng _)⟩
  refine wc_exit (qe_then_exit (qe_then_exit ?_))
  cases oi y
  cases q _ u
  refine qe_block_eq ?_
  cases oi o
  exact qd ⟨_,V,u,u,s,f,x⟩
 rintro _ aJ ⟨i,k,rfl,rfl,aq,aK,ar⟩
 have c:=elim_l c
 refine qr (mv u (av u (nq (wc_ret ?_))))
 cases oi c
 exact ey results41 ⟨k,u,aq,ar⟩

theorem ok_laws_heldDocS {q0:List GDoc}{q1:Int}{r:Int}(hS:SH w K [] w K [])(k:SliceAt tGDoc K A a b q0)(O:rng64 q1)(hm:M.laws_heldDocS F q0 q1=some r):
  Calls prog 20 #[V3 A a b,V6 q1] w (R_i w K r):=by
 rw [M.laws_heldDocS] at hm
 refine ci func20 u ntmps20 (sr (lv (r_0 u) (nsr (lv (r_0 u) (nq ?_)))))
 obtain⟨R,S,c⟩:=ob hm
 refine wc_cutg (fun E' w'=>∃l m,R= .inl l∧E'=[(1,V6 l)]∧SH w K [] w' m []∧KLe K m∧rng64 l) ?_ ?_
 ·refine wc_block ?_
  obtain⟨bf,T,o⟩:=ob S
  refine qw (fun (i:Int×Int)=>IW w K [] K [(0,V3 A a b),(1,V6 i.1),(5,V6 i.2)] [] (rng64 i.1∧rng64 i.2)) T ⟨K,u,hS,kr,O,d_0⟩ ?_
  rintro i _ bg bh U q ⟨G,rfl,d,f,V,bi⟩
  refine wc_seq (sr (mv u (mv u (lv (rv_len underlying33 u (k.mono f)) (lv (rv_lss u u) (nq (wcc U u (fun W x=>?_) (fun W x=>?_))))))))
  ·refine wc_skip (qs (wc_block (wc_seq (sr (mv u (mv u ?_))))))
   obtain⟨X,Y,aa⟩:=ob x
   refine li underlying33 tf61 (k.mono f) Y fun ab ac bj ad ae=>?_
   obtain⟨af,ag,ah,ai,aj,ak,rfl,bk,bl,bm⟩:=ad
   have al:AtK _ ab ac [V6 X.Id,V3 af ag ah,V3 ai aj ak]:=ae
   refine fa ff61_0 u (lv (rv_load1 tf3 u d (al 0 _ u)) (mv u (lv (rv_neq u u) (nq (wcc aa u (fun am y=>?_) (fun am y=>?_))))))
   ·refine sr (lv (rv_assign (v:=V6 (-1)) u) (nq (rr (qe_block_ret (qe_then_ret (qe_then_ret ?_))))))
    cases oi y
    cases q _ u
    refine qe_block_ret (qe_then_ret ?_)
    cases oi o
    refine qe_then_ret ?_
    cases oi c
    exact ey results20 ⟨G,u,d,(by decide :rng64 (-1))⟩
   refine wc_skip (qr (mv u (lv (rv_add u u) (av u (nr (mv u (mv u ?_)))))))
   obtain⟨an,ao,ap⟩:=ob y
   refine li underlying33 tf61 (k.mono f) ao fun aq ar bn au aw=>?_
   obtain⟨ax,ay,az,aA,aB,aC,rfl,bo,aD,bp⟩:=au
   have aE:AtK _ aq ar [V6 an.Id,V3 ax ay az,V3 aA aB aC]:=aw
   refine fa ff61_1 u (lv (rv_load1 tf58 u d (aE 1 _ u)) (mv u ?_))
   obtain⟨bq,aF,aG⟩:=ob ap
   refine lk co40 (ok_laws_heldFieldS F d.enter0 aD (w64_rng _) aF) ?_
   rintro br bs ⟨aH,rfl,B,aI⟩
   have s:=(d.c0 B).t0
   refine av u (nsr (mv u (lv (rv_lss u u) (nq (wcc aG u (fun aJ C=>?_) (fun aJ C=>?_))))))
   ·refine sr (lv (rv_assign (v:=V6 (-1)) u) (nq (rr (qe_block_ret (qe_then_ret (qe_then_ret ?_))))))
    cases oi C
    cases q _ u
    refine qe_block_ret (qe_then_ret ?_)
    cases oi o
    refine qe_then_ret ?_
    cases oi c
    exact ey results20 ⟨aH,u,s,(by decide :rng64 (-1))⟩
   refine wc_skip (qr (mv u (mv u ?_)))
   obtain⟨aK,aL,aM⟩:=ob C
   refine li underlying33 tf61 (k.mono (f.trans B.le)) aL fun aN aO bu aP aQ=>?_
   obtain⟨aR,aS,aT,aU,aV,aW,rfl,bv,bx,aX⟩:=aP
   have aY:AtK _ aN aO [V6 aK.Id,V3 aR aS aT,V3 aU aV aW]:=aQ
   refine fa ff61_2 u (lv (rv_load1 tf59 u s (aY 2 _ u)) (mv u ?_))
   obtain⟨bz,aZ,ba⟩:=ob aM
   refine lk co41 (ok_laws_heldAttrS F s.enter0 aX aI aZ) ?_
   rintro bA bB ⟨H,rfl,I,bb⟩
   have J:=(s.c0 I).t0
   refine av u (nr (mv u (lv (rv_lss u u) (nq (wcc ba u (fun bc D=>?_) (fun bc D=>?_))))))
   ·refine sr (lv (rv_assign (v:=V6 (-1)) u) (nq (wc_ret (qe_block_ret (qe_then_ret (qe_then_ret ?_))))))
    cases oi D
    cases q _ u
    refine qe_block_ret (qe_then_ret ?_)
    cases oi o
    refine qe_then_ret ?_
    cases oi c
    exact ey results20 ⟨H,u,J,(by decide :rng64 (-1))⟩
   refine wc_skip (qe_block (qe_seq (wc_region (mv u (lv (rv_add u u) (av u (wl_nil ?_)))))))
   cases oi D
   exact qd ⟨_,u,H,u,J,((f.trans B.le).trans I.le),bb,(w64_rng _)⟩
  refine wc_exit (qe_then_exit (qe_then_exit ?_))
  cases oi x
  cases q _ u
  refine qe_block_eq ?_
  cases oi o
  exact qd ⟨_,G,u,u,d,f,V⟩
 rintro _ bC ⟨l,m,rfl,rfl,bd,bD,be⟩
 have c:=elim_l c
 refine qr (mv u (av u (nq (wc_ret ?_))))
 cases oi c
 exact ey results20 ⟨m,u,bd,be⟩

theorem ok_laws_FnExactShardOf {q0:List GDoc}{q1:Int}{q2:Int}{r:Bool}(hS:SH w K [] w K [])(s:SliceAt tGDoc K A a b q0)(I:rng64 q1)(J:rng64 q2)(hm:M.laws_FnExactShardOf F q0 q1 q2=some r):
  Calls prog 4 #[V3 A a b,V6 q1,V6 q2] w (R_b w K r):=by
 rw [M.laws_FnExactShardOf] at hm
 refine ci func4 rfl ntmps4 (sr (lv (r_f rfl) (nr (lv (rv_assign (v:=V6 1048576) rfl) (nr (mv rfl (mv rfl ?_)))))))
 obtain⟨r7,aM,h9⟩:=ob hm
 refine lk co14 (ok_laws_szDocS F hS.enter0 s (by decide :rng64 1048576) aM) ?_
 rintro ca cb ⟨aO,rfl,x,cc⟩
 have O:=(hS.c0 x).t0
 refine av rfl (nsr (mv rfl (lv (rv_lss rfl rfl) (nq (wcc h9 rfl (fun aP R=>?_) (fun aP R=>?_))))))
 ·refine sr (lv (r_t rfl) (nq (rr ?_)))
  cases oi R
  exact ey results4 ⟨aO,rfl,O⟩
 refine wc_skip (qr (mv rfl ?_))
 obtain⟨cd,aQ,aR⟩:=ob R
 refine lk co16 ((bag_laws_toDocS F) O.enter0 (s.mono x.le) aQ) ?_
 rintro ce cf ⟨cg,ch,cj,ck,B24,rfl,B,aS⟩
 have aT:=aS.mono only_le
 have ap:=(O.c0 B).t1
 refine mv rfl (mv rfl ?_)
 obtain⟨cl,aU,aV⟩:=ob aR
 refine lk co15 (ok_spec_ShardOf F ap.enter0 aT I J aU) ?_
 rintro cm cn ⟨S,T,U,cp,rfl,C,V⟩
 have y:=(ap.c0 C).t2
 refine av rfl (nr (mv rfl ?_))
 obtain⟨cq,aW,aX⟩:=ob aV
 refine lk co16 ((bag_laws_toDocS F) y.enter0 (s.mono ((x.le.trans B.le).trans C.le)) aW) ?_
 rintro cr cs ⟨ct,cu,cv,cw,B50,rfl,c,aq⟩
 have ar:=aq.mono only_le
 have D:=(y.c0 c).t3
 refine av rfl (nr (mv rfl (mv rfl (mv rfl ?_))))
 obtain⟨cx,aY,aZ⟩:=ob aX
 refine lk co17 ((own_impl_ShardOf F) D.enter0 ar I J aY) ?_
 rintro cy cz ⟨au,aw,ax,cA,B68,rfl,f,ho69⟩
 have ba:=RowO.sl ho69
 have ay:=(D.c0 f).t4
 refine av rfl (nsr (mv rfl (mv rfl ?_)))
 obtain⟨cB,bb,bc⟩:=ob aZ
 refine lk co18 (ok_laws_eqDocS F ay.enter0 ba (V.mono (c.le.trans f.le)) bb) ?_
 rintro cC cD ⟨bd,rfl,k⟩
 have W:=(ay.c0 k).t4
 refine lv (rv_not rfl) (nq (wcc bc rfl (fun be X=>?_) (fun be X=>?_)))
 ·refine sr (lv (r_f rfl) (nq (rr ?_)))
  cases oi X
  exact ey results4 ⟨bd,rfl,W.s⟩
 refine wc_skip (qs (sr (mv rfl (mv rfl ?_))))
 obtain⟨cE,bf,bg⟩:=ob X
 refine lk co16 ((bag_laws_toDocS F) W.enter0 (SliceAt.mono (((((x.le.trans B.le).trans C.le).trans c.le).trans f.le).trans k.le) s) bf) ?_
 rintro cF cG ⟨cH,cI,cJ,cK,B90,rfl,l,az⟩
 have bh:=az.mono only_le
 have aA:=(W.c0 l).t5
 obtain⟨cL,bi,bj⟩:=ob bg
 refine lk co18 (ok_laws_eqDocS F aA.enter0 (ar.mono ((f.le.trans k.le).trans l.le)) bh bi) ?_
 rintro cM cN ⟨bk,rfl,m⟩
 have aB:=(aA.c0 m).t5
 refine lv (rv_not rfl) (nq (wcc bj rfl (fun bl Y=>?_) (fun bl Y=>?_)))
 ·refine sr (lv (r_f rfl) (nq (rr ?_)))
  cases oi Y
  exact ey results4 ⟨bk,rfl,aB.s⟩
 refine wc_skip (qr (lv (rv_assign (v:=V6 1) rfl) (nr (mv rfl (mv rfl ?_)))))
 obtain⟨cO,bm,bn⟩:=ob Y
 have aa:=aB.f2
 have hd113: ∀b∈B68,b∉B50:=SH.bag_off aa _ m1
 have ho114:=RowO.loc (RowO.mono ho69 ((k.le.trans l.le).trans m.le)) fun b hb i u e=>(but_at (hd113 b hb) i).trans e
 have bo:=RowO.sl ho114
 have hd116: ∀b∈B90,b∉B50:=SH.bag_off aa _ m0
 have bp:=SliceAt.mono (only_but2 hd116) (az.mono (only_mono m.le fun _ h=>h))
 have cP:=bp.mono only_le
 have hM119:=SH.toMk hS.holds aa
 refine lk co19 (ok_laws_markDocS F hM119.e1 (SliceAt.mono (only_mono (((f.le.trans k.le).trans l.le).trans m.le) fun _ h=>h) aq) (by decide :rng64 1) bm) ?_
 rintro cQ cR ⟨aC,rfl,q,cS⟩
 have ab:SH _ _ _ _ _ [_,_,_,_]:=SH.drop (SH.call (Lin:=[_]) hM119 q)
 refine av rfl (ns (wc_seq ?_))
 obtain⟨bq,br,bs⟩:=ob bn
 refine wc_cutg (IV w K [] aC [(0,V3 A a b),(1,V6 q1),(2,V6 q2),(8,V3 S T U),(10,V3 au aw ax),(50,.bool bq)] [tail (V3 S T U) 61 3,bag B90,bag B68,bag B24]) ?_ ?_
 ·refine wc_region (mv rfl (lv (rv_lss rfl rfl) (mv rfl (bt br (fun d ac=>?_) (fun d ac=>?_)))))
  ·refine lu d (lu d (lu d (lu d (lv (p_t rfl d rfl) (wl_nil ?_)))))
   cases oi ac
   exact qd ⟨aC,rfl,ab.f3.f2.f2.f3,kr⟩
  refine lg d (rv_move rfl) (lg d (rv_move rfl) ?_)
  obtain⟨cT,bu,bv⟩:=ob ac
  refine wl_call (wg rfl rfl d) rfl (rt_call (vs:=[V3 au aw ax,V3 S T U]) co18 rfl) (ok_laws_eqDocS F ab.enter0 (bo.mono q.le) (SliceAt.mono ((le_but ((((c.le.trans f.le).trans k.le).trans l.le).trans m.le) y.holds fun b hb=>(c.bag_new b hb).1).trans q.le) V) bu) ?_
  rintro cU cV ⟨bx,rfl,aD⟩
  refine⟨_,rfl,?_⟩
  have bz:=(ab.c0 aD).t4
  refine lg d (rv_not rfl) (lv (rv_pick_f rfl d rfl) (wl_nil ?_))
  cases oi bv
  exact qd ⟨bx,rfl,bz.f3.f2.f2.f3,aD.le⟩
 rintro _ cW ⟨bA,rfl,aE,ad⟩
 refine qe_seq (wcc bs rfl (fun bB ae=>?_) (fun bB ae=>?_))
 ·refine sr (lv (r_f rfl) (nq (rr ?_)))
  cases oi ae
  exact ey results4 ⟨bA,rfl,aE.s⟩
 refine wc_skip (qr (lv (rv_assign (v:=V6 1) rfl) (nr (mv rfl (mv rfl ?_)))))
 obtain⟨cX,bC,bD⟩:=ob ae
 refine lk co19 ((xo_laws_markDocS F) hS.holds aE.f2 (RowO.mono ho114 (q.le.trans ad)) (by decide :rng64 1) bC) ?_
 rintro cY cZ ⟨da,rfl,bE,ho164,aF,db,_⟩
 have aG:=RowO.sl ho164
 have aH:SH _ _ _ _ _ [_,_,_,_]:=bE
 refine av rfl (nr (lv (rv_assign (v:=V6 1) rfl) (nr (mv rfl (mv rfl ?_)))))
 obtain⟨dc,bF,bG⟩:=ob bD
 refine lk co20 (ok_laws_heldDocS F aH.enter0 aG (by decide :rng64 1) bF) ?_
 rintro dd de ⟨aI,rfl,G,df⟩
 have H:=(aH.c0 G).t4
 refine av rfl (nsr (mv rfl (lv (rv_lss rfl rfl) (nq (wcc bG rfl (fun bH af=>?_) (fun bH af=>?_))))))
 ·refine sr (lv (r_f rfl) (nq (rr ?_)))
  cases oi af
  exact ey results4 ⟨aI,rfl,H.s⟩
 refine wc_skip (qs (sr (mv rfl (mv rfl (lv (rv_neq rfl rfl) (nq (wcc af rfl (fun bI ag=>?_) (fun bI ag=>?_))))))))
 ·refine sr (lv (r_f rfl) (nq (rr ?_)))
  cases oi ag
  exact ey results4 ⟨aI,rfl,H.s⟩
 refine wc_skip (qr (mv rfl ?_))
 obtain⟨dg,bJ,bK⟩:=ob ag
 refine lk co16 ((bag_laws_toDocS F) H.enter0 (SliceAt.mono (((((x.le.trans B.le).trans C.le).trans (le_but (((le_but ((((c.le.trans f.le).trans k.le).trans l.le).trans m.le) y.holds fun b hb=>(c.bag_new b hb).1).trans q.le).trans ad) (fun b o v e=>D.holds b o v (c.le b o v e)) fun b hb=>(f.bag_new b hb).1)).trans aF).trans G.le) s) bJ) ?_
 rintro dh di ⟨dj,dk,dl,dm,B188,rfl,ah,bL⟩
 have bM:=bL.mono only_le
 have aJ:=(H.c0 ah).t5
 refine mv rfl (mv rfl ?_)
 obtain⟨dn,bN,bO⟩:=ob bK
 refine lk co17 ((own_impl_ShardOf F) aJ.enter0 bM I J bN) ?_
 rintro dp dq ⟨dr,ds,dt,du,B206,rfl,ai,ho207⟩
 have bP:=RowO.sl ho207
 have aK:=(aJ.c0 ai).t6
 refine av rfl (nsr (mv rfl (mv rfl ?_)))
 obtain⟨dv,bQ,bR⟩:=ob bO
 refine lk co18 (ok_laws_eqDocS F aK.enter0 bP (SliceAt.mono (((((le_but (((le_but ((((c.le.trans f.le).trans k.le).trans l.le).trans m.le) y.holds fun b hb=>(c.bag_new b hb).1).trans q.le).trans ad) (fun b o v e=>D.holds b o v (c.le b o v e)) fun b hb=>(f.bag_new b hb).1).trans aF).trans G.le).trans ah.le).trans ai.le) V) bQ) ?_
 rintro dw dx ⟨bS,rfl,aL⟩
 have aj:=(aK.c0 aL).t6
 refine lv (rv_not rfl) (nq (wcc bR rfl (fun bT ak=>?_) (fun bT ak=>?_)))
 ·refine sr (lv (r_f rfl) (nq (rr ?_)))
  cases oi ak
  exact ey results4 ⟨bS,rfl,aj.s⟩
 refine wc_skip (qr (lv (rv_assign (v:=V6 1) rfl) (nr (mv rfl (mv rfl ?_)))))
 obtain⟨dy,bU,bV⟩:=ob ak
 refine lk co20 (ok_laws_heldDocS F aj.enter0 (SliceAt.mono (((G.le.trans ah.le).trans ai.le).trans aL.le) aG) (by decide :rng64 1) bU) ?_
 rintro dz dA ⟨al,rfl,bW,dB⟩
 have am:=(aj.c0 bW).t6
 refine av rfl (nsr (mv rfl (lv (rv_lss rfl rfl) (nq (wcc bV rfl (fun bX an=>?_) (fun bX an=>?_))))))
 ·refine sr (lv (r_f rfl) (nq (rr ?_)))
  cases oi an
  exact ey results4 ⟨al,rfl,am.s⟩
 refine wc_skip (qs (sr (mv rfl (mv rfl (lv (rv_neq rfl rfl) (nq (wcc an rfl (fun bY ao=>?_) (fun bY ao=>?_))))))))
 ·refine sr (lv (r_f rfl) (nq (rr ?_)))
  cases oi ao
  exact ey results4 ⟨al,rfl,am.s⟩
 refine wc_skip (qr (lv (r_t rfl) (nq (wc_ret ?_))))
 cases oi ao
 exact ey results4 ⟨al,rfl,am.s⟩
end Go.Proofs.Ytpjefkdclnmlfaa
