/-
 Walks of the functions. Printed by gen.py.
-/
import Derived.Test.YtpjefkdclnmlfaaGreatWalkA1
import Derived.Test.YtpjefkdclnmlfaaGreatWalkA2
import Derived.Test.YtpjefkdclnmlfaaGreatWalkA3
import Derived.Test.YtpjefkdclnmlfaaGreatWalkA5
import Derived.Test.YtpjefkdclnmlfaaGreatWalkA8
set_option linter.unusedVariables false
set_option linter.unusedSectionVars false
set_option maxRecDepth 100000
namespace Go.Proofs.YtpjefkdclnmlfaaGreat
set_option maxHeartbeats 4000000
open Go Go.Fk Go.RowKit Tryz
variable (F:Nat){w:World}{K:KMap}{Z:List Nat}{g1 g2 g3:Nat}{A B C D G H I J O R S T:Option Addr}{a b c d f i k l m n o p q s v x y aa ab ac ad ae af ag:Nat}
variable [dr:Dr]

theorem ok_laws_markConf {B:List Nat}{KM:KMap}{q0:GConf}{q1:Int}{r:Int}(hS:SH w K Z w K [mkI B KM])(l:SliceAt tStr (KM.only B) A a b q0.Stops)(m:SliceAt tGSyn (KM.only B) C c d q0.Syns)(o:rng64 q1)(hm:M.laws_markConf F q0 q1=some r):
  Calls prog 25 #[.agg #[V3 A a b,V3 C c d],V6 q1] w fun e w'=>∃K',e= .returned (V6 r)∧SH w K Z w' K' [mkI B KM]∧rng64 r:=by
 rw [M.laws_markConf] at hm
 refine ci func25 u ntmps25 (sr (bx u hS fun q T s=>?_))
 have i:SH _ _ _ _ _ [obj q [V3 A a b,V3 C c d] 33,_]:=s
 refine lv (r_0 u) (nr (fl ff33_0 u tf22 m0 i u (mv u ?_)))
 obtain⟨U,x,y⟩:=ob hm
 have k:=i.f1
 refine lk co83 (ok_laws_markStringS F k.e1 l o x) ?_
 rintro V W ⟨X,rfl,D,G⟩
 have f:=(k.c1 D).t2
 refine av u (nr (fl ff33_1 u tf31 m1 f u (mv u ?_)))
 obtain⟨Y,H,I⟩:=ob y
 refine lk co84 (ok_laws_markSynS F f.e1 m G H) ?_
 rintro aa ab ⟨J,rfl,O,R⟩
 have S:=(f.c1 O).t2
 refine av u (nr (mv u (av u (nq (wc_ret ?_)))))
 cases oi I
 exact ey results25 ⟨J,u,S.s,R⟩

theorem ok_laws_markIntS {B:List Nat}{KM:KMap}{q0:List Int}{q1:Int}{r:Int}(hS:SH w K Z w K [mkI B KM])(f:SliceAt tInt (KM.only B) A a b q0)(o:rng64 q1)(hm:M.laws_markIntS F q0 q1=some r):
  Calls prog 97 #[V3 A a b,V6 q1] w fun e w'=>∃K',e= .returned (V6 r)∧SH w K Z w' K' [mkI B KM]∧rng64 r:=by
 rw [M.laws_markIntS] at hm
 refine ci func97 u ntmps97 (sr (lv (r_0 u) (nsr (lv (r_0 u) (nq ?_)))))
 obtain⟨i,q,s⟩:=ob hm
 refine wc_cutg (IW w K Z K [(1,V6 i)] [mkI B KM] (rng64 i)) ?_ ?_
 ·refine wc_block ?_
  obtain⟨ab,x,y⟩:=ob q
  refine qw (fun (c:Int×Int)=>IW w K Z K [(0,V3 A a b),(1,V6 c.1),(5,V6 c.2)] [mkI B KM] (rng64 c.1∧rng64 c.2)) x ⟨K,u,hS,kr,o,d_0⟩ ?_
  rintro c _ ac ad C D ⟨k,rfl,l,m,G,ae⟩
  refine wc_seq (sr (mv u (mv u (lv (rv_len underlying71 u f) (lv (rv_lss u u) (nq (wcc C u (fun H d=>?_) (fun H d=>?_))))))))
  ·refine wc_skip (qs (wc_block (sr (mv u (mv u (mv u ?_))))))
   obtain⟨I,J,O⟩:=ob d
   refine li underlying71 tf3 f J fun R S af T U=>?_
   obtain⟨rfl,ag⟩:=T
   have V:AtK _ R S [V6 I]:=U
   refine mk_store (v:=V6 c.1) wn tf3 u u u l (V 0 _ u) u fun ah W=>(nq (wc_region (mv u (lv (rv_add u u) (av u (nb (qe_seq (wc_region (mv u ?_)))))))))
   refine lv (rv_add u u) (av u (wl_nil ?_))
   cases oi O
   exact qd ⟨_,u,k,u,W,m,(w64_rng _),(w64_rng _)⟩
  refine wc_exit (qe_then_exit (qe_then_exit ?_))
  cases oi d
  cases D _ u
  refine qe_block_eq ?_
  cases oi y
  exact qd ⟨k,u,l,m,G⟩
 rintro _ ai ⟨X,rfl,Y,aj,aa⟩
 refine qr (mv u (av u (nq (wc_ret ?_))))
 cases oi s
 exact ey results97 ⟨X,u,Y,aa⟩

theorem ok_laws_markPostS {B:List Nat}{KM:KMap}{q0:List GPost}{q1:Int}{r:Int}(hS:SH w K Z w K [mkI B KM])(d:SliceAt tGPost (KM.only B) A a b q0)(q:rng64 q1)(hm:M.laws_markPostS F q0 q1=some r):
  Calls prog 34 #[V3 A a b,V6 q1] w fun e w'=>∃K',e= .returned (V6 r)∧SH w K Z w' K' [mkI B KM]∧rng64 r:=by
 rw [M.laws_markPostS] at hm
 refine ci func34 u ntmps34 (sr (lv (r_0 u) (nsr (lv (r_0 u) (nq ?_)))))
 obtain⟨k,s,x⟩:=ob hm
 refine wc_cutg (IW w K Z K [(1,V6 k)] [mkI B KM] (rng64 k)) ?_ ?_
 ·refine wc_block ?_
  obtain⟨az,y,C⟩:=ob s
  refine qw (fun (c:Int×Int)=>IW w K Z K [(0,V3 A a b),(1,V6 c.1),(5,V6 c.2)] [mkI B KM] (rng64 c.1∧rng64 c.2)) y ⟨K,u,hS,kr,q,d_0⟩ ?_
  rintro c _ aA aB D G ⟨H,rfl,l,m,I,aC⟩
  refine wc_seq (sr (mv u (mv u (lv (rv_len underlying61 u d) (lv (rv_lss u u) (nq (wcc D u (fun J f=>?_) (fun J f=>?_))))))))
  ·refine wc_skip (qs (wc_block (sr (mv u (mv u (mv u ?_))))))
   obtain⟨O,R,S⟩:=ob f
   refine li underlying61 tf134 d R fun T U aD V W=>?_
   obtain⟨X,Y,aa,rfl,aE,aF⟩:=V
   have ab:AtK _ T U [V6 O.Doc,V3 X Y aa]:=W
   refine fa ff134_0 u (mk_store (v:=V6 c.1) wn tf3 u u u l (ab 0 _ u) u fun aG i=>(nr (mv u (lv (rv_add u u) (av u (nq (wc_region (mv u (mv u ?_)))))))))
   obtain⟨ac,ad,ae⟩:=ob S
   refine li underlying61 tf134 d ad fun af ag aH ah ai=>?_
   obtain⟨aj,ak,al,rfl,aI,am⟩:=ah
   have an:AtK _ af ag [V6 ac.Doc,V3 aj ak al]:=ai
   refine fa ff134_1 u (lv (mk_load tf71 u i (an 1 _ u)) (mv u ?_))
   obtain⟨aJ,ao,ap⟩:=ob ae
   refine lk co97 (ok_laws_markIntS F i.e1 am (w64_rng _) ao) ?_
   rintro aK aL ⟨aq,rfl,o,ar⟩
   have au:=(i.c1 o).t1
   refine av u (nb (qe_seq (wc_region (mv u (lv (rv_add u u) (av u (wl_nil ?_)))))))
   cases oi ap
   exact qd ⟨_,u,aq,u,au,(m.trans o.le),ar,(w64_rng _)⟩
  refine wc_exit (qe_then_exit (qe_then_exit ?_))
  cases oi f
  cases G _ u
  refine qe_block_eq ?_
  cases oi C
  exact qd ⟨H,u,l,m,I⟩
 rintro _ aM ⟨K9,rfl,ax,aN,ay⟩
 refine qr (mv u (av u (nq (wc_ret ?_))))
 cases oi x
 exact ey results34 ⟨K9,u,ax,ay⟩

theorem ok_laws_markEntryS {B:List Nat}{KM:KMap}{q0:List GEntry}{q1:Int}{r:Int}(hS:SH w K Z w K [mkI B KM])(d:SliceAt tGEntry (KM.only B) A a b q0)(H:rng64 q1)(hm:M.laws_markEntryS F q0 q1=some r):
  Calls prog 87 #[V3 A a b,V6 q1] w fun e w'=>∃K',e= .returned (V6 r)∧SH w K Z w' K' [mkI B KM]∧rng64 r:=by
 rw [M.laws_markEntryS] at hm
 refine ci func87 u ntmps87 (sr (lv (r_0 u) (nsr (lv (r_0 u) (nq ?_)))))
 obtain⟨l,I,J⟩:=ob hm
 refine wc_cutg (IW w K Z K [(1,V6 l)] [mkI B KM] (rng64 l)) ?_ ?_
 ·refine wc_block ?_
  obtain⟨aV,O,R⟩:=ob I
  refine qw (fun (c:Int×Int)=>IW w K Z K [(0,V3 A a b),(1,V6 c.1),(5,V6 c.2)] [mkI B KM] (rng64 c.1∧rng64 c.2)) O ⟨K,u,hS,kr,H,d_0⟩ ?_
  rintro c _ aW aX S T ⟨U,rfl,f,m,o,aY⟩
  refine wc_seq (sr (mv u (mv u (lv (rv_len underlying44 u d) (lv (rv_lss u u) (nq (wcc S u (fun V i=>?_) (fun V i=>?_))))))))
  ·refine wc_skip (qs (wc_block (sr (mv u (mv u (mv u ?_))))))
   obtain⟨W,X,Y⟩:=ob i
   refine lk co160 (ok_laws_markText F f.enter0 o X) ?_
   rintro aZ ba ⟨bb,rfl,q,bc⟩
   have aa:=(f.c0 q).t1
   obtain⟨s,ab,ac⟩:=ob Y
   refine li underlying44 tf116 d ab fun ad ae bd af ag=>?_
   obtain⟨ah,ai,aj,rfl,be,bf,bg⟩:=af
   have ak:AtK _ ad ae [sv s.Field,sv s.Term,V3 ah ai aj]:=ag
   refine fa ff116_0 u (mk_store (v:=sv W) wn tf9 u u u aa (ak 0 _ u) u fun bh x=>(nr (mv u (lv (rv_add u u) (av u (nr (mv u (mv u (mv u ?_)))))))))
   obtain⟨al,am,an⟩:=ob ac
   refine lk co160 (ok_laws_markText F x.enter0 (w64_rng _) am) ?_
   rintro bi bj ⟨bk,rfl,y,bl⟩
   have ao:=(x.c0 y).t1
   obtain⟨C,ap,aq⟩:=ob an
   refine li underlying44 tf116 d ap fun ar au bm aw ax=>?_
   obtain⟨ay,az,aA,rfl,bn,bo,bp⟩:=aw
   have aB:AtK _ ar au [sv C.Field,sv C.Term,V3 ay az aA]:=ax
   refine fa ff116_1 u (mk_store (v:=sv al) wn tf9 u u u ao (aB 1 _ u) u fun bq k=>(nr (mv u (lv (rv_add u u) (av u (nq (wc_region (mv u (mv u ?_)))))))))
   obtain⟨D,aC,aD⟩:=ob aq
   refine li underlying44 tf116 d aC fun aE aF br aG aH=>?_
   obtain⟨aI,aJ,aK,rfl,bs,bu,aL⟩:=aG
   have aM:AtK _ aE aF [sv D.Field,sv D.Term,V3 aI aJ aK]:=aH
   refine fa ff116_2 u (lv (mk_load tf61 u k (aM 2 _ u)) (mv u ?_))
   obtain⟨bv,aN,aO⟩:=ob aD
   refine lk co34 (ok_laws_markPostS F k.e1 aL (w64_rng _) aN) ?_
   rintro bx bz ⟨aP,rfl,G,aQ⟩
   have aR:=(k.c1 G).t1
   refine av u (nb (qe_seq (wc_region (mv u (lv (rv_add u u) (av u (wl_nil ?_)))))))
   cases oi aO
   exact qd ⟨_,u,aP,u,aR,(((m.trans q.le).trans y.le).trans G.le),aQ,(w64_rng _)⟩
  refine wc_exit (qe_then_exit (qe_then_exit ?_))
  cases oi i
  cases T _ u
  refine qe_block_eq ?_
  cases oi R
  exact qd ⟨U,u,f,m,o⟩
 rintro _ bA ⟨K9,rfl,aT,bB,aU⟩
 refine qr (mv u (av u (nq (wc_ret ?_))))
 cases oi J
 exact ey results87 ⟨K9,u,aT,aU⟩

theorem ok_laws_markLiveS {B:List Nat}{KM:KMap}{q0:List GLive}{q1:Int}{r:Int}(hS:SH w K Z w K [mkI B KM])(d:SliceAt tGLive (KM.only B) A a b q0)(C:rng64 q1)(hm:M.laws_markLiveS F q0 q1=some r):
  Calls prog 100 #[V3 A a b,V6 q1] w fun e w'=>∃K',e= .returned (V6 r)∧SH w K Z w' K' [mkI B KM]∧rng64 r:=by
 rw [M.laws_markLiveS] at hm
 refine ci func100 u ntmps100 (sr (lv (r_0 u) (nsr (lv (r_0 u) (nq ?_)))))
 obtain⟨m,D,G⟩:=ob hm
 refine wc_cutg (IW w K Z K [(1,V6 m)] [mkI B KM] (rng64 m)) ?_ ?_
 ·refine wc_block ?_
  obtain⟨bk,H,I⟩:=ob D
  refine qw (fun (c:Int×Int)=>IW w K Z K [(0,V3 A a b),(1,V6 c.1),(5,V6 c.2)] [mkI B KM] (rng64 c.1∧rng64 c.2)) H ⟨K,u,hS,kr,C,d_0⟩ ?_
  rintro c _ bl bm J O ⟨R,rfl,f,o,q,bn⟩
  refine wc_seq (sr (mv u (mv u (lv (rv_len underlying34 u d) (lv (rv_lss u u) (nq (wcc J u (fun S i=>?_) (fun S i=>?_))))))))
  ·refine wc_skip (qs (wc_block (sr (mv u (mv u ?_)))))
   obtain⟨bo,T,U⟩:=ob i
   refine li underlying34 tf73 d T fun V W bp X Y=>?_
   obtain⟨aa,ab,ac,ad,ae,af,ag,ah,ai,rfl,aj,bq,br⟩:=X
   have ak:AtK _ V W [V3 aa ab ac,V3 ad ae af,V3 ag ah ai]:=Y
   refine fa ff73_0 u (fa ff46_0 u (lv (mk_load tf43 u f (ak 0 _ u)) (mv u ?_)))
   obtain⟨bs,al,am⟩:=ob U
   refine lk co26 (ok_laws_markDocS F f.e1 aj q al) ?_
   rintro bu bv ⟨bx,rfl,s,an⟩
   have k:=(f.c1 s).t1
   refine av u (nr (mv u (mv u ?_)))
   obtain⟨bz,ao,ap⟩:=ob am
   refine li underlying34 tf73 d ao fun aq ar bA au aw=>?_
   obtain⟨ax,ay,az,aA,aB,aC,aD,aE,aF,rfl,bB,aG,bC⟩:=au
   have aH:AtK _ aq ar [V3 ax ay az,V3 aA aB aC,V3 aD aE aF]:=aw
   refine fa ff73_0 u (fa ff46_1 u (lv (mk_load tf44 u k (aH 1 _ u)) (mv u ?_)))
   obtain⟨bD,aI,aJ⟩:=ob ap
   refine lk co87 (ok_laws_markEntryS F k.e1 aG an aI) ?_
   rintro bE bF ⟨bG,rfl,x,aK⟩
   have l:=(k.c1 x).t1
   refine av u (nq (wc_region (mv u (mv u ?_))))
   obtain⟨bH,aL,aM⟩:=ob aJ
   refine li underlying34 tf73 d aL fun aN aO bI aP aQ=>?_
   obtain⟨aR,aS,aT,aU,aV,aW,aX,aY,aZ,rfl,bJ,bK,ba⟩:=aP
   have bb:AtK _ aN aO [V3 aR aS aT,V3 aU aV aW,V3 aX aY aZ]:=aQ
   refine fa ff73_1 u (lv (mk_load tf71 u l (bb 2 _ u)) (mv u ?_))
   obtain⟨bL,bc,bd⟩:=ob aM
   refine lk co97 (ok_laws_markIntS F l.e1 ba aK bc) ?_
   rintro bM bN ⟨be,rfl,y,bf⟩
   have bg:=(l.c1 y).t1
   refine av u (nb (qe_seq (wc_region (mv u (lv (rv_add u u) (av u (wl_nil ?_)))))))
   cases oi bd
   exact qd ⟨_,u,be,u,bg,(((o.trans s.le).trans x.le).trans y.le),bf,(w64_rng _)⟩
  refine wc_exit (qe_then_exit (qe_then_exit ?_))
  cases oi i
  cases O _ u
  refine qe_block_eq ?_
  cases oi I
  exact qd ⟨R,u,f,o,q⟩
 rintro _ bO ⟨K9,rfl,bi,bP,bj⟩
 refine qr (mv u (av u (nq (wc_ret ?_))))
 cases oi G
 exact ey results100 ⟨K9,u,bi,bj⟩

theorem ok_laws_markIndex {B:List Nat}{KM:KMap}{q0:GIndex}{q1:Int}{r:Int}(hS:SH w K Z w K [mkI B KM])(o:SliceAt tStr (KM.only B) A a b q0.Conf.Stops)(q:SliceAt tGSyn (KM.only B) C c d q0.Conf.Syns)(s:SliceAt tGLive (KM.only B) D f i q0.Segs)(x:rng64 q1)(hm:M.laws_markIndex F q0 q1=some r):
  Calls prog 38 #[.agg #[V3 A a b,V3 C c d,V3 D f i],V6 q1] w fun e w'=>∃K',e= .returned (V6 r)∧SH w K Z w' K' [mkI B KM]∧rng64 r:=by
 rw [M.laws_markIndex] at hm
 refine ci func38 u ntmps38 (sr (bx u hS fun y X G=>?_))
 have l:SH _ _ _ _ _ [obj y [V3 A a b,V3 C c d,V3 D f i] 36,_]:=G
 refine lv (r_0 u) (nr (fa ff36_0 u (lv (rv_loadmS (ds:=[V3 A a b,V3 C c d]) tf33 u m0 l u u) (mv u ?_))))
 obtain⟨Y,H,I⟩:=ob hm
 have m:=l.f1
 refine lk co25 (ok_laws_markConf F m.e1 o q x H) ?_
 rintro aa ab ⟨ac,rfl,J,O⟩
 have k:=(m.c1 J).t2
 refine av u (nr (fl ff36_1 u tf34 m1 k u (mv u ?_)))
 obtain⟨ad,R,S⟩:=ob I
 refine lk co100 (ok_laws_markLiveS F k.e1 s O R) ?_
 rintro ae af ⟨T,rfl,U,V⟩
 have W:=(k.c1 U).t2
 refine av u (nr (mv u (av u (nq (wc_ret ?_)))))
 cases oi S
 exact ey results38 ⟨T,u,W.s,V⟩

theorem ok_laws_heldFieldS {q0:List GField}{q1:Int}{r:Int}(hS:SH w K [] w K [])(l:SliceAt tGField K A a b q0)(S:rng64 q1)(hm:M.laws_heldFieldS F q0 q1=some r):
  Calls prog 101 #[V3 A a b,V6 q1] w (R_i w K r):=by
 rw [M.laws_heldFieldS] at hm
 refine ci func101 u ntmps101 (sr (lv (r_0 u) (nsr (lv (r_0 u) (nq ?_)))))
 obtain⟨T,U,c⟩:=ob hm
 refine wc_cutg (fun E' w'=>∃i k,T= .inl i∧E'=[(1,V6 i)]∧SH w K [] w' k []∧KLe K k∧rng64 i) ?_ ?_
 ·refine wc_block ?_
  obtain⟨aB,V,m⟩:=ob U
  refine qw (fun (d:Int×Int)=>IW w K [] K [(0,V3 A a b),(1,V6 d.1),(5,V6 d.2)] [] (rng64 d.1∧rng64 d.2)) V ⟨K,u,hS,kr,S,d_0⟩ ?_
  rintro d _ aC aD W o ⟨X,rfl,q,f,s,aE⟩
  refine wc_seq (sr (mv u (mv u (lv (rv_len underlying74 u (l.mono f)) (lv (rv_lss u u) (nq (wcc W u (fun Y x=>?_) (fun Y x=>?_))))))))
  ·refine wc_skip (qs (wc_block (wc_seq (wc_seq (wc_quiet mixed (by kernel_rfl) q (km u (km u ?_)))))))
   obtain⟨D,aa,ab⟩:=ob x
   refine ki underlying74 tf108 (l.mono f) aa fun ac ad aF ae af=>?_
   obtain⟨rfl,aG,aH⟩:=ae
   have ag:AtK _ ac ad [sv D.Name,sv D.Text]:=af
   refine kv (rv_fieldAddr ff108_0 u) (kh (rq_load1 tf9 u (ag 0 _ u)) (km u ?_))
   obtain⟨aI,G,ah⟩:=ob ab
   refine kd co160 (fun _ _ ai aJ=>(ok_laws_markText F) ai.enter0 s G) ?_
   obtain⟨_,_,_,⟨_,_,_,aK⟩,_⟩:=(ok_laws_markText F) q.enter0 s G []
   refine kv (rv_sneq u u) (wq_nil ?_)
   rintro aL ⟨aj,y,H⟩
   refine qe_seq (wcc ah u (fun ak B=>?_) (fun ak B=>?_))
   ·refine sr (lv (rv_assign (v:=V6 (-1)) u) (nq (rr (qe_block_ret (qe_then_ret (qe_then_ret ?_))))))
    cases oi B
    cases o _ u
    refine qe_block_ret (qe_then_ret ?_)
    cases oi m
    refine qe_then_ret ?_
    cases oi c
    exact ey results101 ⟨aj,u,y,(by decide :rng64 (-1))⟩
   refine wc_skip (qr (mv u (lv (rv_add u u) (av u (ns (wc_seq (wc_quiet mixed (by kernel_rfl) y (km u (km u ?_)))))))))
   obtain⟨I,al,am⟩:=ob B
   refine ki underlying74 tf108 (l.mono (f.trans H)) al fun an ao aM ap aq=>?_
   obtain⟨rfl,aN,aO⟩:=ap
   have ar:AtK _ an ao [sv I.Name,sv I.Text]:=aq
   refine kv (rv_fieldAddr ff108_1 u) (kh (rq_load1 tf9 u (ar 1 _ u)) (km u ?_))
   obtain⟨aP,J,au⟩:=ob am
   refine kd co160 (fun _ _ aw aQ=>(ok_laws_markText F) aw.enter0 (w64_rng _) J) ?_
   obtain⟨_,_,_,⟨_,_,_,aR⟩,_⟩:=(ok_laws_markText F) y.enter0 (w64_rng _) J []
   refine kv (rv_sneq u u) (wq_nil ?_)
   rintro aS ⟨O,R,ax⟩
   refine qe_seq (wcc au u (fun ay C=>?_) (fun ay C=>?_))
   ·refine sr (lv (rv_assign (v:=V6 (-1)) u) (nq (rr (qe_block_ret (qe_then_ret (qe_then_ret ?_))))))
    cases oi C
    cases o _ u
    refine qe_block_ret (qe_then_ret ?_)
    cases oi m
    refine qe_then_ret ?_
    cases oi c
    exact ey results101 ⟨O,u,R,(by decide :rng64 (-1))⟩
   refine wc_skip (qe_seq (wc_region (mv u (lv (rv_add u u) (av u (nb (qe_seq (wc_region (mv u ?_)))))))))
   refine lv (rv_add u u) (av u (wl_nil ?_))
   cases oi C
   exact qd ⟨_,u,O,u,R,((f.trans H).trans ax),(w64_rng _),(w64_rng _)⟩
  refine wc_exit (qe_then_exit (qe_then_exit ?_))
  cases oi x
  cases o _ u
  refine qe_block_eq ?_
  cases oi m
  exact qd ⟨_,X,u,u,q,f,s⟩
 rintro _ aT ⟨i,k,rfl,rfl,az,aU,aA⟩
 have c:=elim_l c
 refine qr (mv u (av u (nq (wc_ret ?_))))
 cases oi c
 exact ey results101 ⟨k,u,az,aA⟩

theorem ok_laws_heldAttrS {q0:List GAttr}{q1:Int}{r:Int}(hS:SH w K [] w K [])(m:SliceAt tGAttr K A a b q0)(O:rng64 q1)(hm:M.laws_heldAttrS F q0 q1=some r):
  Calls prog 102 #[V3 A a b,V6 q1] w (R_i w K r):=by
 rw [M.laws_heldAttrS] at hm
 refine ci func102 u ntmps102 (sr (lv (r_0 u) (nsr (lv (r_0 u) (nq ?_)))))
 obtain⟨R,S,c⟩:=ob hm
 refine wc_cutg (fun E' w'=>∃i k,R= .inl i∧E'=[(1,V6 i)]∧SH w K [] w' k []∧KLe K k∧rng64 i) ?_ ?_
 ·refine wc_block ?_
  obtain⟨au,T,o⟩:=ob S
  refine qw (fun (d:Int×Int)=>IW w K [] K [(0,V3 A a b),(1,V6 d.1),(5,V6 d.2)] [] (rng64 d.1∧rng64 d.2)) T ⟨K,u,hS,kr,O,d_0⟩ ?_
  rintro d _ aw ax U q ⟨V,rfl,s,f,x,ay⟩
  refine wc_seq (sr (mv u (mv u (lv (rv_len underlying75 u (m.mono f)) (lv (rv_lss u u) (nq (wcc U u (fun W y=>?_) (fun W y=>?_))))))))
  ·refine wc_skip (qs (wc_block (wc_seq (wc_seq (wc_quiet mixed (by kernel_rfl) s (km u (km u ?_)))))))
   obtain⟨G,X,Y⟩:=ob y
   refine ki underlying75 tf142 (m.mono f) X fun aa ab az ac ad=>?_
   obtain⟨rfl,aA,aB⟩:=ac
   have ae:AtK _ aa ab [sv G.Name,V6 G.Num]:=ad
   refine kv (rv_fieldAddr ff142_0 u) (kh (rq_load1 tf9 u (ae 0 _ u)) (km u ?_))
   obtain⟨aC,H,af⟩:=ob Y
   refine kd co160 (fun _ _ ag aD=>(ok_laws_markText F) ag.enter0 x H) ?_
   obtain⟨_,_,_,⟨_,_,_,aE⟩,_⟩:=(ok_laws_markText F) s.enter0 x H []
   refine kv (rv_sneq u u) (wq_nil ?_)
   rintro aF ⟨B,l,I⟩
   refine qe_seq (wcc af u (fun ah C=>?_) (fun ah C=>?_))
   ·refine sr (lv (rv_assign (v:=V6 (-1)) u) (nq (rr (qe_block_ret (qe_then_ret (qe_then_ret ?_))))))
    cases oi C
    cases q _ u
    refine qe_block_ret (qe_then_ret ?_)
    cases oi o
    refine qe_then_ret ?_
    cases oi c
    exact ey results102 ⟨B,u,l,(by decide :rng64 (-1))⟩
   refine wc_skip (qr (mv u (lv (rv_add u u) (av u (nsr (mv u (mv u ?_)))))))
   obtain⟨J,ai,aj⟩:=ob C
   refine li underlying75 tf142 (m.mono (f.trans I)) ai fun ak al aG am an=>?_
   obtain⟨rfl,aH,aI⟩:=am
   have ao:AtK _ ak al [sv J.Name,V6 J.Num]:=an
   refine fa ff142_1 u (lv (rv_load1 tf3 u l (ao 1 _ u)) (mv u (lv (rv_neq u u) (nq (wcc aj u (fun ap D=>?_) (fun ap D=>?_))))))
   ·refine sr (lv (rv_assign (v:=V6 (-1)) u) (nq (rr (qe_block_ret (qe_then_ret (qe_then_ret ?_))))))
    cases oi D
    cases q _ u
    refine qe_block_ret (qe_then_ret ?_)
    cases oi o
    refine qe_then_ret ?_
    cases oi c
    exact ey results102 ⟨B,u,l,(by decide :rng64 (-1))⟩
   refine wc_skip (qe_seq (wc_region (mv u (lv (rv_add u u) (av u (nb (qe_seq (wc_region (mv u ?_)))))))))
   refine lv (rv_add u u) (av u (wl_nil ?_))
   cases oi D
   exact qd ⟨_,u,B,u,l,(f.trans I),(w64_rng _),(w64_rng _)⟩
  refine wc_exit (qe_then_exit (qe_then_exit ?_))
  cases oi y
  cases q _ u
  refine qe_block_eq ?_
  cases oi o
  exact qd ⟨_,V,u,u,s,f,x⟩
 rintro _ aJ ⟨i,k,rfl,rfl,aq,aK,ar⟩
 have c:=elim_l c
 refine qr (mv u (av u (nq (wc_ret ?_))))
 cases oi c
 exact ey results102 ⟨k,u,aq,ar⟩

theorem ok_laws_heldDocS {q0:List GDoc}{q1:Int}{r:Int}(hS:SH w K [] w K [])(k:SliceAt tGDoc K A a b q0)(O:rng64 q1)(hm:M.laws_heldDocS F q0 q1=some r):
  Calls prog 39 #[V3 A a b,V6 q1] w (R_i w K r):=by
 rw [M.laws_heldDocS] at hm
 refine ci func39 u ntmps39 (sr (lv (r_0 u) (nsr (lv (r_0 u) (nq ?_)))))
 obtain⟨R,S,c⟩:=ob hm
 refine wc_cutg (fun E' w'=>∃l m,R= .inl l∧E'=[(1,V6 l)]∧SH w K [] w' m []∧KLe K m∧rng64 l) ?_ ?_
 ·refine wc_block ?_
  obtain⟨bf,T,o⟩:=ob S
  refine qw (fun (i:Int×Int)=>IW w K [] K [(0,V3 A a b),(1,V6 i.1),(5,V6 i.2)] [] (rng64 i.1∧rng64 i.2)) T ⟨K,u,hS,kr,O,d_0⟩ ?_
  rintro i _ bg bh U q ⟨G,rfl,d,f,V,bi⟩
  refine wc_seq (sr (mv u (mv u (lv (rv_len underlying43 u (k.mono f)) (lv (rv_lss u u) (nq (wcc U u (fun W x=>?_) (fun W x=>?_))))))))
  ·refine wc_skip (qs (wc_block (wc_seq (sr (mv u (mv u ?_))))))
   obtain⟨X,Y,aa⟩:=ob x
   refine li underlying43 tf77 (k.mono f) Y fun ab ac bj ad ae=>?_
   obtain⟨af,ag,ah,ai,aj,ak,rfl,bk,bl,bm⟩:=ad
   have al:AtK _ ab ac [V6 X.Id,V3 af ag ah,V3 ai aj ak]:=ae
   refine fa ff77_0 u (lv (rv_load1 tf3 u d (al 0 _ u)) (mv u (lv (rv_neq u u) (nq (wcc aa u (fun am y=>?_) (fun am y=>?_))))))
   ·refine sr (lv (rv_assign (v:=V6 (-1)) u) (nq (rr (qe_block_ret (qe_then_ret (qe_then_ret ?_))))))
    cases oi y
    cases q _ u
    refine qe_block_ret (qe_then_ret ?_)
    cases oi o
    refine qe_then_ret ?_
    cases oi c
    exact ey results39 ⟨G,u,d,(by decide :rng64 (-1))⟩
   refine wc_skip (qr (mv u (lv (rv_add u u) (av u (nr (mv u (mv u ?_)))))))
   obtain⟨an,ao,ap⟩:=ob y
   refine li underlying43 tf77 (k.mono f) ao fun aq ar bn au aw=>?_
   obtain⟨ax,ay,az,aA,aB,aC,rfl,bo,aD,bp⟩:=au
   have aE:AtK _ aq ar [V6 an.Id,V3 ax ay az,V3 aA aB aC]:=aw
   refine fa ff77_1 u (lv (rv_load1 tf74 u d (aE 1 _ u)) (mv u ?_))
   obtain⟨bq,aF,aG⟩:=ob ap
   refine lk co101 (ok_laws_heldFieldS F d.enter0 aD (w64_rng _) aF) ?_
   rintro br bs ⟨aH,rfl,B,aI⟩
   have s:=(d.c0 B).t0
   refine av u (nsr (mv u (lv (rv_lss u u) (nq (wcc aG u (fun aJ C=>?_) (fun aJ C=>?_))))))
   ·refine sr (lv (rv_assign (v:=V6 (-1)) u) (nq (rr (qe_block_ret (qe_then_ret (qe_then_ret ?_))))))
    cases oi C
    cases q _ u
    refine qe_block_ret (qe_then_ret ?_)
    cases oi o
    refine qe_then_ret ?_
    cases oi c
    exact ey results39 ⟨aH,u,s,(by decide :rng64 (-1))⟩
   refine wc_skip (qr (mv u (mv u ?_)))
   obtain⟨aK,aL,aM⟩:=ob C
   refine li underlying43 tf77 (k.mono (f.trans B.le)) aL fun aN aO bu aP aQ=>?_
   obtain⟨aR,aS,aT,aU,aV,aW,rfl,bv,bx,aX⟩:=aP
   have aY:AtK _ aN aO [V6 aK.Id,V3 aR aS aT,V3 aU aV aW]:=aQ
   refine fa ff77_2 u (lv (rv_load1 tf75 u s (aY 2 _ u)) (mv u ?_))
   obtain⟨bz,aZ,ba⟩:=ob aM
   refine lk co102 (ok_laws_heldAttrS F s.enter0 aX aI aZ) ?_
   rintro bA bB ⟨H,rfl,I,bb⟩
   have J:=(s.c0 I).t0
   refine av u (nr (mv u (lv (rv_lss u u) (nq (wcc ba u (fun bc D=>?_) (fun bc D=>?_))))))
   ·refine sr (lv (rv_assign (v:=V6 (-1)) u) (nq (wc_ret (qe_block_ret (qe_then_ret (qe_then_ret ?_))))))
    cases oi D
    cases q _ u
    refine qe_block_ret (qe_then_ret ?_)
    cases oi o
    refine qe_then_ret ?_
    cases oi c
    exact ey results39 ⟨H,u,J,(by decide :rng64 (-1))⟩
   refine wc_skip (qe_block (qe_seq (wc_region (mv u (lv (rv_add u u) (av u (wl_nil ?_)))))))
   cases oi D
   exact qd ⟨_,u,H,u,J,((f.trans B.le).trans I.le),bb,(w64_rng _)⟩
  refine wc_exit (qe_then_exit (qe_then_exit ?_))
  cases oi x
  cases q _ u
  refine qe_block_eq ?_
  cases oi o
  exact qd ⟨_,G,u,u,d,f,V⟩
 rintro _ bC ⟨l,m,rfl,rfl,bd,bD,be⟩
 have c:=elim_l c
 refine qr (mv u (av u (nq (wc_ret ?_))))
 cases oi c
 exact ey results39 ⟨m,u,bd,be⟩

theorem ok_laws_FnExactIndexDocs {q0:GIndex}{r:Bool}(hS:SH w K [] w K [])(S:SliceAt tStr K A a b q0.Conf.Stops)(T:SliceAt tGSyn K B c d q0.Conf.Syns)(U:SliceAt tGLive K C f i q0.Segs)(hm:M.laws_FnExactIndexDocs F q0=some r):
  Calls prog 6 #[.agg #[V3 A a b,V3 B c d,V3 C f i]] w (R_b w K r):=by
 rw [M.laws_FnExactIndexDocs] at hm
 refine ci func6 rfl ntmps6 (sr (bx rfl hS fun ak cR bm=>?_))
 have ao:SH _ _ _ _ _ [obj ak [V3 A a b,V3 B c d,V3 C f i] 28]:=bm
 refine lv (r_f rfl) (nr (lv (rv_assign (v:=V6 1048576) rfl) (nr (lv (rv_loadmS (ds:=[V3 A a b,V3 B c d,V3 C f i]) tf28 rfl m0 ao rfl rfl) (mv rfl ?_)))))
 obtain⟨cS,bn,bo⟩:=ob hm
 refine lk co11 (ok_laws_szIndex F ao.enter0 S T U (by decide :rng64 1048576) bn) ?_
 rintro cT cU ⟨bp,rfl,x,cV⟩
 have am:=(ao.c0 x).t1
 refine av rfl (nsr (mv rfl (lv (rv_lss rfl rfl) (nq (wcc bo rfl (fun bq ap=>?_) (fun bq ap=>?_))))))
 ·refine sr (lv (r_t rfl) (nq (rr ?_)))
  cases oi ap
  exact ey results6 ⟨bp,rfl,am.s⟩
 refine wc_skip (qr (lv (rv_loadmS (ds:=[V3 A a b,V3 B c d,V3 C f i]) tf28 rfl m0 am rfl rfl) ?_))
 obtain⟨cW,br,bs⟩:=ob ap
 refine lk co13 ((bag_laws_toIndex F) am.enter0 (S.mono x.le) (T.mono x.le) (U.mono x.le) br) ?_
 rintro cX cY ⟨cZ,da,db,dc,dd,de,df,dg,dh,di,B35,rfl,D,bu,bv,bz⟩
 have bA:=bu.mono only_le
 have bB:=bv.mono only_le
 have bC:=bz.mono only_le
 have aM:=(am.c0 D).t2
 obtain⟨dj,bD,bE⟩:=ob bs
 refine lk co36 (ok_spec_IndexDocs F aM.enter0 bA bB bC bD) ?_
 rintro dk dl ⟨aq,ar,au,dm,rfl,G,aw⟩
 have H:=(aM.c0 G).t3
 refine av rfl (nr (lv (rv_loadmS (ds:=[V3 A a b,V3 B c d,V3 C f i]) tf28 rfl m2 H rfl rfl) ?_))
 obtain⟨dn,bF,bG⟩:=ob bE
 refine lk co13 ((bag_laws_toIndex F) H.enter0 (S.mono ((x.le.trans D.le).trans G.le)) (T.mono ((x.le.trans D.le).trans G.le)) (U.mono ((x.le.trans D.le).trans G.le)) bF) ?_
 rintro dp dq ⟨V,W,X,Y,aa,ab,ac,ad,ae,dr,B71,rfl,l,aN,aO,aP⟩
 have aQ:=aN.mono only_le
 have aR:=aO.mono only_le
 have aS:=aP.mono only_le
 have bH:=(H.c0 l).t4
 refine al tf36 bH fun aT dt bI=>?_
 have bJ:SH _ _ _ _ _ [obj aT [V3 none 0 0,V3 none 0 0,V3 none 0 0] 36,_,_,_,_]:=bI
 refine lw [V3 V W X,V3 Y aa ab,V3 ac ad ae] tf36 bJ fun du J=>(nr (lv (rv_loadmS (ds:=[V3 V W X,V3 Y aa ab,V3 ac ad ae]) tf36 rfl m0 J rfl rfl) ?_))
 obtain⟨dv,bK,bL⟩:=ob bG
 refine lk co37 ((own_impl_IndexDocs F) J.enter0 aQ aR aS bK) ?_
 rintro dw dx ⟨aU,aV,aW,dy,B105,rfl,k,ho106⟩
 have bM:=RowO.sl ho106
 have aX:=(J.c0 k).t6
 refine av rfl (nsr (mv rfl (mv rfl ?_)))
 obtain⟨dz,bN,bO⟩:=ob bL
 refine lk co24 (ok_laws_eqDocS F aX.enter0 bM (aw.mono (l.le.trans k.le)) bN) ?_
 rintro dA dB ⟨aY,rfl,m⟩
 have aZ:=(aX.c0 m).t6
 refine lv (rv_not rfl) (nq (wcc bO rfl (fun bP ax=>?_) (fun bP ax=>?_)))
 ·refine sr (lv (r_f rfl) (nq (rr ?_)))
  cases oi ax
  exact ey results6 ⟨aY,rfl,aZ.s⟩
 refine wc_skip (qs (wc_seq ?_))
 have af:=aZ.drew
 refine wh1 (fun w'=>Holds aY w'∧HasObj aT [V3 V W X,V3 Y aa ab,V3 ac ad ae] w'∧HasObj ak [V3 A a b,V3 B c d,V3 C f i] w') (fun w'=>True) 5 [] mixed ⟨af.hasK kr,af.hasObj m1,af.hasObj m5⟩ (fun _=>trivial) (gh (fun _ h=>rh_loadmS (ds:=[V3 V W X,V3 Y aa ab,V3 ac ad ae]) tf36 rfl rfl rfl h.2.1) (gh (fun _ h=>rh_loadmS (ds:=[V3 A a b,V3 B c d,V3 C f i]) tf28 rfl rfl rfl h.2.2) (gn ?_)))
 obtain⟨dC,bQ,bR⟩:=ob ax
 refine lk co13 ((bag_laws_toIndex F) af.enter0 (SliceAt.mono (((((x.le.trans D.le).trans G.le).trans l.le).trans k.le).trans m.le) S) (SliceAt.mono (((((x.le.trans D.le).trans G.le).trans l.le).trans k.le).trans m.le) T) (SliceAt.mono (((((x.le.trans D.le).trans G.le).trans l.le).trans k.le).trans m.le) U) bQ) ?_
 rintro dD dE ⟨dF,dG,dH,dI,dJ,dK,dL,dM,dN,dO,B129,rfl,q,ba,bb,bc⟩
 have bS:=ba.mono only_le
 have bT:=bb.mono only_le
 have bU:=bc.mono only_le
 have ag:=(af.c0 q).t7
 refine wl_nil (qh ⟨ag.hasK q.le,ag.hasObj m2,ag.hasObj m6⟩ (fun _=>trivial) (gn ?_))
 obtain⟨dP,bV,bW⟩:=ob bR
 refine lk co15 (ok_laws_eqIndex F ag.enter0 (aQ.mono ((k.le.trans m.le).trans q.le)) (aR.mono ((k.le.trans m.le).trans q.le)) (aS.mono ((k.le.trans m.le).trans q.le)) bS bT bU bV) ?_
 rintro dQ dR ⟨bX,rfl,s⟩
 have O:=(ag.c0 s).t7
 refine wl_nil (qh ⟨O.hasK (q.le.trans s.le),O.hasObj m2,O.hasObj m6⟩ (fun _=>trivial) (gt (rv_not rfl) (gd' (qe_seq (wcc bW rfl (fun bY ay=>?_) (fun bY ay=>?_))))))
 ·refine sr (lv (r_f rfl) (nq (rr ?_)))
  cases oi ay
  exact ey results6 ⟨bX,rfl,O.s⟩
 refine wc_skip (qr (lv (rv_assign (v:=V6 1) rfl) (nr (lv (rv_loadmS (ds:=[V3 V W X,V3 Y aa ab,V3 ac ad ae]) tf36 rfl m2 O rfl rfl) (mv rfl ?_)))))
 obtain⟨dS,bZ,ca⟩:=ob ay
 have ah:=O.f3
 have hd162: ∀b∈B105,b∉B71:=SH.bag_off ah _ m1
 have ho163:=RowO.loc (RowO.mono ho106 ((m.le.trans q.le).trans s.le)) fun b hb i u e=>(but_at (hd162 b hb) i).trans e
 have cb:=RowO.sl ho163
 have hd165: ∀b∈B129,b∉B71:=SH.bag_off ah _ m0
 have cc:=SliceAt.mono (only_but2 hd165) (ba.mono (only_mono s.le fun _ h=>h))
 have dT:=cc.mono only_le
 have hd168: ∀b∈B129,b∉B71:=SH.bag_off ah _ m0
 have cd:=SliceAt.mono (only_but2 hd168) (bb.mono (only_mono s.le fun _ h=>h))
 have dU:=cd.mono only_le
 have hd171: ∀b∈B129,b∉B71:=SH.bag_off ah _ m0
 have ce:=SliceAt.mono (only_but2 hd171) (bc.mono (only_mono s.le fun _ h=>h))
 have dV:=ce.mono only_le
 have hM174:=SH.toMk hS.holds ah
 refine lk co38 (ok_laws_markIndex F hM174.e1 (SliceAt.mono (only_mono (((k.le.trans m.le).trans q.le).trans s.le) fun _ h=>h) aN) (SliceAt.mono (only_mono (((k.le.trans m.le).trans q.le).trans s.le) fun _ h=>h) aO) (SliceAt.mono (only_mono (((k.le.trans m.le).trans q.le).trans s.le) fun _ h=>h) aP) (by decide :rng64 1) bZ) ?_
 rintro dW dX ⟨bd,rfl,I,dY⟩
 have az:SH _ _ _ _ _ [_,_,_,_,_,_]:=SH.drop (SH.call (Lin:=[_]) hM174 I)
 refine av rfl (ns (wc_seq ?_))
 obtain⟨cf,cg,ch⟩:=ob ca
 refine wc_cutg (IV w K [] bd [(1,pt ak),(4,V3 aq ar au),(6,V3 aU aV aW),(42,.bool cf)] [obj ak [V3 A a b,V3 B c d,V3 C f i] 28,tail (V3 aq ar au) 77 3,bag B129,bag B105,bag B35]) ?_ ?_
 ·refine wc_region (mv rfl (lv (rv_lss rfl rfl) (mv rfl (bt cg (fun y aA=>?_) (fun y aA=>?_)))))
  ·refine lu y (lu y (lu y (lu y (lv (p_t rfl y rfl) (wl_nil ?_)))))
   cases oi aA
   exact qd ⟨bd,rfl,az.f4.f2.f2.f4.f5.s,kr⟩
  refine lg y (rv_move rfl) (lg y (rv_move rfl) ?_)
  obtain⟨dZ,cj,ck⟩:=ob aA
  refine wl_call (wg rfl rfl y) rfl (rt_call (vs:=[V3 aU aV aW,V3 aq ar au]) co24 rfl) (ok_laws_eqDocS F az.enter0 (cb.mono I.le) (SliceAt.mono ((le_but ((((l.le.trans k.le).trans m.le).trans q.le).trans s.le) H.holds fun b hb=>(l.bag_new b hb).1).trans I.le) aw) cj) ?_
  rintro ea eb ⟨cl,rfl,be⟩
  refine⟨_,rfl,?_⟩
  have cm:=(az.c0 be).t6
  refine lg y (rv_not rfl) (lv (rv_pick_f rfl y rfl) (wl_nil ?_))
  cases oi ck
  exact qd ⟨cl,rfl,cm.f4.f2.f2.f4.f5.s,be.le⟩
 rintro _ ec ⟨cn,rfl,bf,ai⟩
 refine qe_seq (wcc ch rfl (fun cp aB=>?_) (fun cp aB=>?_))
 ·refine sr (lv (r_f rfl) (nq (rr ?_)))
  cases oi aB
  exact ey results6 ⟨cn,rfl,bf.s⟩
 refine wc_skip (qr (lv (rv_assign (v:=V6 1) rfl) (nr (mv rfl (mv rfl ?_)))))
 obtain⟨ed,cq,cr⟩:=ob aB
 refine lk co26 ((xo_laws_markDocS F) hS.holds bf.f3 (RowO.mono ho163 (I.le.trans ai)) (by decide :rng64 1) cq) ?_
 rintro ee ef ⟨eg,rfl,cs,ho223,an,eh,_⟩
 have bg:=RowO.sl ho223
 have bh:SH _ _ _ _ _ [_,_,_,_,_]:=cs
 refine av rfl (nr (lv (rv_assign (v:=V6 1) rfl) (nr (mv rfl (mv rfl ?_)))))
 obtain⟨ei,ct,cu⟩:=ob cr
 refine lk co39 (ok_laws_heldDocS F bh.enter0 bg (by decide :rng64 1) ct) ?_
 rintro ej ek ⟨bi,rfl,R,el⟩
 have aj:=(bh.c0 R).t5
 refine av rfl (nsr (mv rfl (lv (rv_lss rfl rfl) (nq (wcc cu rfl (fun cv aC=>?_) (fun cv aC=>?_))))))
 ·refine sr (lv (r_f rfl) (nq (rr ?_)))
  cases oi aC
  exact ey results6 ⟨bi,rfl,aj.s⟩
 refine wc_skip (qs (sr (mv rfl (mv rfl (lv (rv_neq rfl rfl) (nq (wcc aC rfl (fun cw aD=>?_) (fun cw aD=>?_))))))))
 ·refine sr (lv (r_f rfl) (nq (rr ?_)))
  cases oi aD
  exact ey results6 ⟨bi,rfl,aj.s⟩
 refine wc_skip (qr (lv (rv_loadmS (ds:=[V3 A a b,V3 B c d,V3 C f i]) tf28 rfl m1 aj rfl rfl) ?_))
 obtain⟨em,cx,cy⟩:=ob aD
 refine lk co13 ((bag_laws_toIndex F) aj.enter0 (SliceAt.mono (((((x.le.trans D.le).trans G.le).trans (le_but (((le_but ((((l.le.trans k.le).trans m.le).trans q.le).trans s.le) H.holds fun b hb=>(l.bag_new b hb).1).trans I.le).trans ai) (fun b o v e=>J.holds b o v (l.le b o v e)) fun b hb=>(k.bag_new b hb).1)).trans an).trans R.le) S) (SliceAt.mono (((((x.le.trans D.le).trans G.le).trans (le_but (((le_but ((((l.le.trans k.le).trans m.le).trans q.le).trans s.le) H.holds fun b hb=>(l.bag_new b hb).1).trans I.le).trans ai) (fun b o v e=>J.holds b o v (l.le b o v e)) fun b hb=>(k.bag_new b hb).1)).trans an).trans R.le) T) (SliceAt.mono (((((x.le.trans D.le).trans G.le).trans (le_but (((le_but ((((l.le.trans k.le).trans m.le).trans q.le).trans s.le) H.holds fun b hb=>(l.bag_new b hb).1).trans I.le).trans ai) (fun b o v e=>J.holds b o v (l.le b o v e)) fun b hb=>(k.bag_new b hb).1)).trans an).trans R.le) U) cx) ?_
 rintro en eo ⟨ep,eq,es,et,eu,ev,ew,ex,eA,eB,B247,rfl,aE,cz,cA,cB⟩
 have cC:=cz.mono only_le
 have cD:=cA.mono only_le
 have cE:=cB.mono only_le
 have bj:=(aj.c0 aE).t6
 obtain⟨eC,cF,cG⟩:=ob cy
 refine lk co37 ((own_impl_IndexDocs F) bj.enter0 cC cD cE cF) ?_
 rintro eD eE ⟨eF,eG,eH,eI,B275,rfl,aF,ho276⟩
 have cH:=RowO.sl ho276
 have bk:=(bj.c0 aF).t7
 refine av rfl (nsr (mv rfl (mv rfl ?_)))
 obtain⟨eJ,cI,cJ⟩:=ob cG
 refine lk co24 (ok_laws_eqDocS F bk.enter0 cH (SliceAt.mono (((((le_but (((le_but ((((l.le.trans k.le).trans m.le).trans q.le).trans s.le) H.holds fun b hb=>(l.bag_new b hb).1).trans I.le).trans ai) (fun b o v e=>J.holds b o v (l.le b o v e)) fun b hb=>(k.bag_new b hb).1).trans an).trans R.le).trans aE.le).trans aF.le) aw) cI) ?_
 rintro eK eL ⟨cK,rfl,bl⟩
 have aG:=(bk.c0 bl).t7
 refine lv (rv_not rfl) (nq (wcc cJ rfl (fun cL aH=>?_) (fun cL aH=>?_)))
 ·refine sr (lv (r_f rfl) (nq (rr ?_)))
  cases oi aH
  exact ey results6 ⟨cK,rfl,aG.s⟩
 refine wc_skip (qr (lv (rv_assign (v:=V6 1) rfl) (nr (mv rfl (mv rfl ?_)))))
 obtain⟨eM,cM,cN⟩:=ob aH
 refine lk co39 (ok_laws_heldDocS F aG.enter0 (SliceAt.mono (((R.le.trans aE.le).trans aF.le).trans bl.le) bg) (by decide :rng64 1) cM) ?_
 rintro eN eO ⟨aI,rfl,cO,eP⟩
 have aJ:=(aG.c0 cO).t7
 refine av rfl (nsr (mv rfl (lv (rv_lss rfl rfl) (nq (wcc cN rfl (fun cP aK=>?_) (fun cP aK=>?_))))))
 ·refine sr (lv (r_f rfl) (nq (rr ?_)))
  cases oi aK
  exact ey results6 ⟨aI,rfl,aJ.s⟩
 refine wc_skip (qs (sr (mv rfl (mv rfl (lv (rv_neq rfl rfl) (nq (wcc aK rfl (fun cQ aL=>?_) (fun cQ aL=>?_))))))))
 ·refine sr (lv (r_f rfl) (nq (rr ?_)))
  cases oi aL
  exact ey results6 ⟨aI,rfl,aJ.s⟩
 refine wc_skip (qr (lv (r_t rfl) (nq (wc_ret ?_))))
 cases oi aL
 exact ey results6 ⟨aI,rfl,aJ.s⟩
end Go.Proofs.YtpjefkdclnmlfaaGreat
