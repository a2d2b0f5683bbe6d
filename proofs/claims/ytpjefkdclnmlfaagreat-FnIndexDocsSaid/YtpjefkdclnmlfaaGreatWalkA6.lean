/-
 Walks of the functions. Printed by gen.py.
-/
import Derived.Test.YtpjefkdclnmlfaaGreatWalkA0
import Derived.Test.YtpjefkdclnmlfaaGreatWalkA2
import Derived.Test.YtpjefkdclnmlfaaGreatWalkA3
import Derived.Test.YtpjefkdclnmlfaaGreatWalkA4
import Derived.Test.YtpjefkdclnmlfaaGreatWalkA5
set_option linter.unusedVariables false
set_option linter.unusedSectionVars false
set_option maxRecDepth 100000
namespace Go.Proofs.YtpjefkdclnmlfaaGreat
set_option maxHeartbeats 4000000
open Go Go.Fk Go.RowKit Tryz
variable (F:Nat){w:World}{K:KMap}{Z:List Nat}{g1 g2 g3:Nat}{A B C D G H I J O R S T:Option Addr}{a b c d f i k l m n o p q s v x y aa ab ac ad ae af ag:Nat}
variable [dr:Dr]

theorem ok_spec_l30Docs {q0:GL30Rd}{r:(List GDoc)×GL30Rd}(hS:SH w K Z w K [obj g1 [V3 A a b,V6 q0.p_] 208])(aj:SliceAt tU8 K A a b q0.b_)(ak:rng64 q0.p_)(hm:M.spec_l30Docs F q0=some r):
  Calls prog 181 #[.pointer (some ⟨g1,0,none⟩)] w fun e w'=>∃a_1 n_2 c_3 a_5 n_6 c_7 K',e= .returned (V3 a_1 n_2 c_3)∧SH w K Z w' K' [tail (V3 a_1 n_2 c_3) 77 3,obj g1 [V3 a_5 n_6 c_7,V6 r.2.p_] 208]∧SliceAt tGDoc K' a_1 n_2 c_3 r.1∧SliceAt tU8 K' a_5 n_6 c_7 r.2.b_∧rng64 r.2.p_:=by
 rw [M.spec_l30Docs] at hm
 refine ci func181 u ntmps181 (sr (lv (r_n u) (nr (b0 tGDoc underlying43 tf77 hS fun a7 w9 bm am an ao=>(av u (nr (lv (r_0 u) (nsr (mv u ?_)))))))))
 obtain⟨bn,ap,aq⟩:=ob hm
 have ab:=ao.f1
 refine lk co106 (ok_spec_l30Rd_pick F ab.e1 (aj.mono am) ak (by decide :rng64 6) ap) ?_
 rintro bo bp ⟨ar,au,aw,H,rfl,ac,ax,ay,az⟩
 have aA:=(ab.c1 ac).t2
 refine av u (nq ?_)
 obtain⟨s,aB,aC⟩:=ob aq
 refine wc_cutg (fun E' w'=>∃i k l x y B d,E'=[(0,pt g1),(3,V3 i k l)]∧SH w K Z w' d [obj g1 [V3 x y B,V6 s.2.p_] 208,tail (V3 i k l) 77 3]∧KLe H d∧SliceAt tGDoc d i k l s.1∧SliceAt tU8 d x y B s.2.b_∧rng64 s.2.p_) ?_ ?_
 ·refine wc_block ?_
  obtain⟨bq,aD,aE⟩:=ob aB
  refine qw (fun (c:(List GDoc)×Int×Int×GL30Rd) E' w'=>∃m o q C D G f,E'=[(0,pt g1),(3,V3 m o q),(4,V6 c.2.1),(5,V6 c.2.2.1)]∧SH w K Z w' f [obj g1 [V3 C D G,V6 c.2.2.2.p_] 208,tail (V3 m o q) 77 3]∧KLe H f∧SliceAt tGDoc f m o q c.1∧rng64 c.2.1∧rng64 c.2.2.1∧SliceAt tU8 f C D G c.2.2.2.b_∧rng64 c.2.2.2.p_) aD ⟨a7,0,0,ar,au,aw,H,u,aA,kr,(an.mono ac.le),d_0,ax,ay,az⟩ ?_
  rintro c _ br bs aF aG ⟨m,o,q,C,D,G,f,rfl,I,ad,ae,bu,bv,af,ag⟩
  refine wc_seq (sr (mv u (lv (rv_gtr u u) (nq (wcc aF u (fun aH J=>?_) (fun aH J=>?_))))))
  ·refine wc_skip (qs (wc_block (sr (mv u (lv (rv_add u u) (mv u ?_))))))
   obtain⟨bx,aI,aJ⟩:=ob J
   refine lk co106 (ok_spec_l30Rd_pick F I.e1 af ag (by decide :rng64 3) aI) ?_
   rintro bz bA ⟨bB,bC,bD,bE,rfl,O,bF,aK,aL⟩
   have ah:=(I.c1 O).t2
   refine lv (rv_add u u) (av u (nq (wc_region (mv u (mv u (mv u ?_))))))
   obtain⟨R,aM,aN⟩:=ob aJ
   refine lk co225 (ok_spec_l30Doc F ah.e1 aK aL (w64_rng _) aM) ?_
   rintro bG bH ⟨S,T,U,V,W,X,aO,aP,aQ,bI,rfl,Y,aR,aS,aT,aU,aV⟩
   have aW:=(ah.c1 Y).t4
   refine lb tGDoc (.agg #[V6 R.1.Id,V3 S T U,V3 V W X]) [V6 R.1.Id,V3 S T U,V3 V W X] R.1 underlying43 tf77 ⟨S,T,U,V,W,X,u,aR,aS,aT⟩ aW fun bJ bK bL aa aX aY=>?_
   obtain⟨bM,aZ,ba⟩:=ob aN
   refine lp underlying43 tf77 (ae.mono ((O.le.trans Y.le).trans aa)) aX aZ aY.f4 fun bb bc bd bN be ai bf bg=>(av u (nb (qe_seq (wc_region (mv u (lv (rv_sub u u) (av u (wl_nil ?_))))))))
   cases oi ba
   exact qd ⟨_,u,bb,bc,bd,aO,aP,aQ,be,u,bg.f4.s,((((ad.trans O.le).trans Y.le).trans aa).trans ai),bf,(w64_rng _),(w64_rng _),(aU.mono (aa.trans ai)),aV⟩
  refine wc_exit (qe_then_exit (qe_then_exit ?_))
  cases oi J
  cases aG _ u
  refine qe_block_eq ?_
  cases oi aE
  exact qd ⟨m,o,q,C,D,G,f,u,I,ad,ae,af,ag⟩
 rintro _ bO ⟨i,k,l,x,y,B,d,rfl,bh,bP,bi,bj,bk⟩
 refine qr (mv u (av u (nq (wc_ret ?_))))
 cases oi aC
 exact ey results181 ⟨i,k,l,x,y,B,d,u,bh.f1,bi,bj,bk⟩

theorem ok_spec_IndexNew {q0:GConf}{r:GIndex}(hS:SH w K [] w K [])(y:SliceAt tStr K A a b q0.Stops)(C:SliceAt tGSyn K B c d q0.Syns)(hm:M.spec_IndexNew F q0=some r):
  Calls prog 220 #[.agg #[V3 A a b,V3 B c d]] w fun e w'=>∃a_1 n_2 c_3 a_5 n_6 c_7 a_9 n_10 c_11 K',e= .returned (.agg #[V3 a_1 n_2 c_3,V3 a_5 n_6 c_7,V3 a_9 n_10 c_11])∧SH w K [] w' K' [tail (V3 a_9 n_10 c_11) 73 3]∧SliceAt tStr K' a_1 n_2 c_3 r.Conf.Stops∧SliceAt tGSyn K' a_5 n_6 c_7 r.Conf.Syns∧SliceAt tGLive K' a_9 n_10 c_11 r.Segs:=by
 rw [M.spec_IndexNew] at hm
 refine ci func220 u ntmps220 (sr (bx u hS fun H ag I=>?_))
 have J:SH _ _ _ _ _ [obj H [V3 A a b,V3 B c d] 33]:=I
 refine al tf36 J fun O ah R=>?_
 have i:SH _ _ _ _ _ [obj O [V3 none 0 0,V3 none 0 0,V3 none 0 0] 36,_]:=R
 refine nsr (lv (rv_loadmS (ds:=[V3 A a b,V3 B c d]) tf33 u m1 i u u) ?_)
 obtain⟨ai,S,T⟩:=ob hm
 refine lk co66 (ok_spec_l2Ok F i.enter0 y C S) ?_
 rintro aj ak ⟨U,rfl,k⟩
 have f:=(i.c0 k).t2
 refine lv (rv_not u) (nq (wcc T u (fun V l=>?_) (fun V l=>?_)))
 ·refine sr (lv (rv_build (cs:=#[V3 none 0 0,V3 none 0 0,V3 none 0 0]) sp36 tf36 u (by kernel_rfl)) (lw [V3 none 0 0,V3 none 0 0,V3 none 0 0] tf36 f fun am D=>(nq (rr ?_))))
  cases oi l
  have W:=D.nil 73 3
  exact ez results220 tf36 D m0 ⟨none,0,0,none,0,0,none,0,0,U,u,W.s,(SliceAt.nil _ _),(SliceAt.nil _ _),(SliceAt.nil _ _)⟩
 refine wc_skip (qr (lv (rv_loadmS (ds:=[V3 A a b,V3 B c d]) tf33 u m1 f u u) ?_))
 obtain⟨an,X,Y⟩:=ob l
 refine lk co173 (ok_spec_l18CopyConf F f.enter0 (y.mono k.le) (C.mono k.le) X) ?_
 rintro ao ap ⟨m,o,q,s,v,x,aa,rfl,ab,ac,ad⟩
 have ae:=(f.c0 ab).t4
 refine lv (rv_build (cs:=#[V3 m o q,V3 s v x,V3 none 0 0]) sp36 tf36 u (by kernel_rfl)) (lw [V3 m o q,V3 s v x,V3 none 0 0] tf36 ae.f2 fun aq G=>(nq (wc_ret ?_)))
 cases oi Y
 have af:=G.nil 73 3
 exact ez results220 tf36 G m0 ⟨m,o,q,s,v,x,none,0,0,aa,u,af.s,ac,ad,(SliceAt.nil _ _)⟩

theorem ok_spec_l30Conf {q0:GL30Rd}{r:GConf×GL30Rd}(hS:SH w K Z w K [obj g1 [V3 A a b,V6 q0.p_] 208])(aI:SliceAt tU8 K A a b q0.b_)(aJ:rng64 q0.p_)(hm:M.spec_l30Conf F q0=some r):
  Calls prog 221 #[.pointer (some ⟨g1,0,none⟩)] w fun e w'=>∃a_1 n_2 c_3 a_5 n_6 c_7 a_9 n_10 c_11 K',e= .returned (.agg #[V3 a_1 n_2 c_3,V3 a_5 n_6 c_7])∧SH w K Z w' K' [tail (V3 a_1 n_2 c_3) 9 1,tail (V3 a_5 n_6 c_7) 159 2,obj g1 [V3 a_9 n_10 c_11,V6 r.2.p_] 208]∧SliceAt tStr K' a_1 n_2 c_3 r.1.Stops∧SliceAt tGSyn K' a_5 n_6 c_7 r.1.Syns∧SliceAt tU8 K' a_9 n_10 c_11 r.2.b_∧rng64 r.2.p_:=by
 rw [M.spec_l30Conf] at hm
 refine ci func221 rfl ntmps221 (sr (al tf33 hS fun s w9 aK=>?_))
 have aL:SH _ _ _ _ _ [obj s [V3 none 0 0,V3 none 0 0] 33,_]:=aK
 refine nr (lv (rv_build (cs:=#[V3 none 0 0,V3 none 0 0]) sp33 tf33 rfl (by kernel_rfl)) (al tf33 aL fun v bZ aM=>?_))
 have aN:SH _ _ _ _ _ [obj v [V3 none 0 0,V3 none 0 0] 33,_,_]:=aM
 refine lw [V3 none 0 0,V3 none 0 0] tf33 aN fun ca aO=>(nsr (mv rfl ?_))
 obtain⟨aP,aQ,aR⟩:=ob hm
 have ak:=aO.f2
 refine lk co106 (ok_spec_l30Rd_pick F ak.e1 aI aJ (by decide :rng64 3) aQ) ?_
 rintro cb cc ⟨aS,aT,aU,am,rfl,aV,cd,aW,aX⟩
 have an:=(ak.c1 aV).t3
 refine lv (rv_gtr rfl rfl) (nq ?_)
 obtain⟨ao,aY,aZ⟩:=ob aR
 refine wc_cutg (fun E' w'=>∃x y B i k l C,E'=[(0,pt g1),(2,pt s),(3,pt v)]∧SH w K Z w' C [obj g1 [V3 aS aT aU,V6 aP.2.p_] 208,obj s [V3 none 0 0,V3 none 0 0] 33,obj v [V3 x y B,V3 i k l] 33,tail (V3 x y B) 9 1,tail (V3 i k l) 159 2]∧KLe am C∧SliceAt tStr C x y B ao.Stops∧SliceAt tGSyn C i k l ao.Syns) ?_ ?_
 ·refine wcc aY rfl (fun ba W=>?_) (fun ba W=>?_)
  ·refine wc_region (lb tStr (sv [116,104,101]) [sv [116,104,101]] ([116,104,101]:Str) underlying22 tf9 ⟨rfl,(by decide :([116,104,101]:Str).length≤maxLen)⟩ an fun X ce bb bc bd be=>(fa ff33_0 rfl (ls [V3 X 1 1,V3 none 0 0] (V3 X 1 1) tf22 be.f2 fun cf bf=>(wl_nil ?_))))
   cases oi W
   have bg:=bf.nil 159 2
   exact qd ⟨X,1,1,none,0,0,bb,rfl,bg.f2.f2.f4.f4,bc,bd,(SliceAt.nil _ _)⟩
  refine wc_skip ?_
  cases oi W
  have bh:=an.nil 9 1
  have bi:=bh.nil 159 2
  exact qd ⟨none,0,0,none,0,0,am,rfl,bi.f1.f3.f4.f4,kr,(SliceAt.nil _ _),(SliceAt.nil _ _)⟩
 rintro _ cg ⟨x,y,B,i,k,l,C,rfl,ap,bj,bk,aq⟩
 refine qs (sr (mv rfl ?_))
 obtain⟨bl,bm,bn⟩:=ob aZ
 refine lk co106 (ok_spec_l30Rd_pick F ap.e1 (aW.mono bj) aX (by decide :rng64 4) bm) ?_
 rintro ch cj ⟨bo,bp,bq,ar,rfl,S,ck,br,bs⟩
 have au:=(ap.c1 S).t5
 refine lv (rv_eql rfl rfl) (nq ?_)
 obtain⟨aw,bu,bv⟩:=ob bn
 refine wc_cutg (fun E' w'=>∃c d f m o q D,E'=[(0,pt g1),(2,pt s),(3,pt v)]∧SH w K Z w' D [obj g1 [V3 bo bp bq,V6 bl.2.p_] 208,obj s [V3 none 0 0,V3 none 0 0] 33,obj v [V3 c d f,V3 m o q] 33,tail (V3 c d f) 9 1,tail (V3 m o q) 159 2]∧KLe ar D∧SliceAt tStr D c d f aw.Stops∧SliceAt tGSyn D m o q aw.Syns) ?_ ?_
 ·refine wcc bu rfl (fun bx Y=>?_) (fun bx Y=>?_)
  ·refine wc_region (bw [[100,111,103],[116,104,101]] underlying22 tf9 au fun aa cl bz ax bA bB=>(fa ff33_0 rfl (ls [V3 aa 2 2,V3 i k l] (V3 aa 2 2) tf22 bB.f3 fun cm bC=>(wl_nil ?_))))
   cases oi Y
   exact qd ⟨aa,2,2,i,k,l,bz,rfl,bC.f5.f2.f2.f4.f4.s,ax,bA,(aq.mono (S.le.trans ax))⟩
  refine wc_skip ?_
  cases oi Y
  exact qd ⟨x,y,B,i,k,l,ar,rfl,au,kr,(bk.mono S.le),(aq.mono S.le)⟩
 rintro _ cn ⟨c,d,f,m,o,q,D,rfl,ay,bD,ab,bE⟩
 refine qs (sr (mv rfl ?_))
 obtain⟨cp,bF,bG⟩:=ob bv
 refine lk co106 (ok_spec_l30Rd_pick F ay.e1 (br.mono bD) bs (by decide :rng64 4) bF) ?_
 rintro cq cr ⟨ac,ad,ae,bH,rfl,G,ct,af,ag⟩
 have T:=(ay.c1 G).t5
 refine nq (wc_block (sr (lv (rv_eql rfl rfl) (av rfl (nq (wcc bG rfl (fun bI ah=>?_) (fun bI ah=>?_)))))))
 ·refine wc_region (bw [[110,101,119],[121,111,114,107]] underlying22 tf9 T fun U cu cv az bJ bK=>(lv (rv_build (cs:=#[V3 U 2 2,sv [110,121]]) sp159 tf159 rfl (by kernel_rfl)) (lb tGSyn (.agg #[V3 U 2 2,sv [110,121]]) [V3 U 2 2,sv [110,121]] (GSyn.mk ([([110,101,119]:Str),([121,111,114,107]:Str)]:List Str) ([110,121]:Str)) underlying31 tf159 ⟨U,2,2,rfl,bJ,(by decide :([110,121]:Str).length≤maxLen)⟩ bK fun H cw bL aA bM bN=>(fa ff33_1 rfl (ls [V3 c d f,V3 H 1 1] (V3 H 1 1) tf31 bN.f4 fun cx aB=>(nb (qr (lv (rv_loadmS (ds:=[V3 c d f,V3 H 1 1]) tf33 rfl m0 aB rfl rfl) (lw [V3 c d f,V3 H 1 1] tf33 aB.f4 fun cy aC=>?_)))))))))
  refine nq (wc_ret ?_)
  cases oi ah
  exact ez results221 tf33 aC m0 ⟨c,d,f,H,1,1,ac,ad,ae,bL,rfl,aC.f4.f3.f5.s,(ab.mono ((G.le.trans az).trans aA)),bM,(af.mono (az.trans aA)),ag⟩
 refine sr (lv (rv_eql rfl rfl) (av rfl (nq (wcc ah rfl (fun bO ai=>?_) (fun bO ai=>?_)))))
 ·refine wc_region (lb tStr (sv [98,105,103]) [sv [98,105,103]] ([98,105,103]:Str) underlying22 tf9 ⟨rfl,(by decide :([98,105,103]:Str).length≤maxLen)⟩ T fun I cz cA aD bP bQ=>(lv (rv_build (cs:=#[V3 I 1 1,sv [108,97,114,103]]) sp159 tf159 rfl (by kernel_rfl)) (bw [[98,105,103],[114,101,100],[102,111,120]] underlying22 tf9 bQ fun J cB cC aj bR bS=>(lv (rv_build (cs:=#[V3 J 3 3,sv [102,111,120]]) sp159 tf159 rfl (by kernel_rfl)) (bw [[110,101,119],[121,111,114,107]] underlying22 tf9 bS fun O cD cE V bT bU=>(lv (rv_build (cs:=#[V3 O 2 2,sv [110,121]]) sp159 tf159 rfl (by kernel_rfl)) ?_))))))
  refine wl_buildSlice (t:=tGSyn) (n:=3) (pv:=[(0,.agg #[V3 I 1 1,sv [108,97,114,103]]),(1,.agg #[V3 J 3 3,sv [102,111,120]]),(2,.agg #[V3 O 2 2,sv [110,121]])]) (cs:=[V3 I 1 1,sv [108,97,114,103],V3 J 3 3,sv [102,111,120],V3 O 2 2,sv [110,121]]) (xs:=[(GSyn.mk ([([98,105,103]:Str)]:List Str) ([108,97,114,103]:Str)),(GSyn.mk ([([98,105,103]:Str),([114,101,100]:Str),([102,111,120]:Str)]:List Str) ([102,111,120]:Str)),(GSyn.mk ([([110,101,119]:Str),([121,111,114,107]:Str)]:List Str) ([110,121]:Str))]) wn rfl underlying31 tf159 rfl rfl rfl (by kernel_rfl) rfl rfl (lit_cons (u:=.agg #[V3 I 1 1,sv [108,97,114,103]]) (z:=(GSyn.mk ([([98,105,103]:Str)]:List Str) ([108,97,114,103]:Str))) ⟨I,1,1,rfl,(bP.mono (aj.trans V)),(by decide :([108,97,114,103]:Str).length≤maxLen)⟩ (lit_cons (u:=.agg #[V3 J 3 3,sv [102,111,120]]) (z:=(GSyn.mk ([([98,105,103]:Str),([114,101,100]:Str),([102,111,120]:Str)]:List Str) ([102,111,120]:Str))) ⟨J,3,3,rfl,(bR.mono V),(by decide :([102,111,120]:Str).length≤maxLen)⟩ (lit_cons (u:=.agg #[V3 O 2 2,sv [110,121]]) (z:=(GSyn.mk ([([110,101,119]:Str),([121,111,114,107]:Str)]:List Str) ([110,121]:Str))) ⟨O,2,2,rfl,bT,(by decide :([110,121]:Str).length≤maxLen)⟩ lit_nil))) bU ?_
  intro R cF bV aE bW bX
  refine fa ff33_1 rfl (ls [V3 c d f,V3 R 3 3] (V3 R 3 3) tf31 bX.f6 fun cG aF=>(nb (qr (lv (rv_loadmS (ds:=[V3 c d f,V3 R 3 3]) tf33 rfl m0 aF rfl rfl) (lw [V3 c d f,V3 R 3 3] tf33 aF.f6 fun cH aG=>(nq (wc_ret ?_)))))))
  cases oi ai
  exact ez results221 tf33 aG m0 ⟨c,d,f,R,3,3,ac,ad,ae,bV,rfl,aG.f6.f3.f7.s,(SliceAt.mono ((((G.le.trans aD).trans aj).trans V).trans aE) ab),bW,(SliceAt.mono (((aD.trans aj).trans V).trans aE) af),ag⟩
 refine wc_skip (qe_block (qr (lv (rv_loadmS (ds:=[V3 c d f,V3 m o q]) tf33 rfl m2 T rfl rfl) (lw [V3 c d f,V3 m o q] tf33 T.f1 fun cI aH=>(nq (wc_ret ?_))))))
 cases oi ai
 exact ez results221 tf33 aH m0 ⟨c,d,f,m,o,q,ac,ad,ae,bH,rfl,aH.f1.f4.f4.s,(ab.mono G.le),(bE.mono G.le),af,ag⟩

theorem ok_spec_l30Index {q0:GL30Rd}{r:GIndex×GL30Rd}(hS:SH w K Z w K [obj g1 [V3 A a b,V6 q0.p_] 208])(fh:SliceAt tU8 K A a b q0.b_)(fi:rng64 q0.p_)(hm:M.spec_l30Index F q0=some r):
  Calls prog 169 #[.pointer (some ⟨g1,0,none⟩)] w fun e w'=>∃a_1 n_2 c_3 a_5 n_6 c_7 a_9 n_10 c_11 a_13 n_14 c_15 K',e= .returned (.agg #[V3 a_1 n_2 c_3,V3 a_5 n_6 c_7,V3 a_9 n_10 c_11])∧SH w K Z w' K' [tail (V3 a_9 n_10 c_11) 73 3,obj g1 [V3 a_13 n_14 c_15,V6 r.2.p_] 208]∧SliceAt tStr K' a_1 n_2 c_3 r.1.Conf.Stops∧SliceAt tGSyn K' a_5 n_6 c_7 r.1.Conf.Syns∧SliceAt tGLive K' a_9 n_10 c_11 r.1.Segs∧SliceAt tU8 K' a_13 n_14 c_15 r.2.b_∧rng64 r.2.p_:=by
 rw [M.spec_l30Index] at hm
 refine ci func169 u ntmps169 (sr (al tf36 hS fun D w9 fj=>?_))
 have fk:SH _ _ _ _ _ [obj D [V3 none 0 0,V3 none 0 0,V3 none 0 0] 36,_]:=fj
 refine nr (mv u ?_)
 obtain⟨ie,fm,fn⟩:=ob hm
 have cx:=fk.f1
 refine lk co221 (ok_spec_l30Conf F cx.e1 fh fi fm) ?_
 rintro ig ih ⟨ii,ij,ik,il,im,io,ip,iq,ir,it,rfl,fo,fp,fq,fr,fs⟩
 have cy:=(cx.c1 fo).t4
 obtain⟨iu,ft,fu⟩:=ob fn
 refine lk co220 (ok_spec_IndexNew F cy.enter0 fp fq ft) ?_
 rintro iv iw ⟨cz,cA,cB,cC,cD,cE,cF,cG,cH,ix,rfl,cI,fv,fw,fx⟩
 have fy:=(cy.c0 cI).t5
 refine al tf36 fy fun o iy fz=>?_
 have fA:SH _ _ _ _ _ [obj o [V3 none 0 0,V3 none 0 0,V3 none 0 0] 36,_,_,_,_,_]:=fz
 refine lw [V3 cz cA cB,V3 cC cD cE,V3 cF cG cH] tf36 fA fun iz fB=>(nsr (mv u ?_))
 obtain⟨iA,fC,fD⟩:=ob fu
 have cJ:=fB.f4
 refine lk co106 (ok_spec_l30Rd_pick F cJ.e1 (fr.mono cI.le) fs (by decide :rng64 7) fC) ?_
 rintro iB iC ⟨fE,fF,fG,bI,rfl,bi,fH,fI,fJ⟩
 have fK:=(cJ.c1 bi).t6
 refine av u (nq ?_)
 obtain⟨ak,fL,fM⟩:=ob fD
 refine wc_cutg (fun E' w'=>∃bj bk bl am an ao ap aq ar X Y aa J,E'=[(0,pt g1),(2,pt D),(3,pt o)]∧SH w K Z w' J [obj g1 [V3 bj bk bl,V6 ak.1.p_] 208,obj D [V3 none 0 0,V3 none 0 0,V3 none 0 0] 36,obj o [V3 am an ao,V3 ap aq ar,V3 X Y aa] 36,tail (V3 X Y aa) 73 3]∧KLe bI J∧SliceAt tU8 J bj bk bl ak.1.b_∧rng64 ak.1.p_∧SliceAt tStr J am an ao ak.2.Conf.Stops∧SliceAt tGSyn J ap aq ar ak.2.Conf.Syns∧SliceAt tGLive J X Y aa ak.2.Segs) ?_ ?_
 ·refine wc_block ?_
  obtain⟨iD,fN,fO⟩:=ob fL
  have fP:=fK.f2.f2.f5.f3.sb (sk (sk (sk (sk (sd (sd sz))))))
  refine qw (fun (C:Int×GL30Rd×GIndex) E' w'=>∃bm bn bo q s v x y B d f i O,E'=[(0,pt g1),(2,pt D),(3,pt o),(4,V6 C.1)]∧SH w K Z w' O [obj g1 [V3 bm bn bo,V6 C.2.1.p_] 208,obj D [V3 none 0 0,V3 none 0 0,V3 none 0 0] 36,obj o [V3 q s v,V3 x y B,V3 d f i] 36,tail (V3 d f i) 73 3]∧KLe bI O∧rng64 C.1∧SliceAt tU8 O bm bn bo C.2.1.b_∧rng64 C.2.1.p_∧SliceAt tStr O q s v C.2.2.Conf.Stops∧SliceAt tGSyn O x y B C.2.2.Conf.Syns∧SliceAt tGLive O d f i C.2.2.Segs) fN ⟨fE,fF,fG,cz,cA,cB,cC,cD,cE,cF,cG,cH,bI,u,fP,kr,fH,fI,fJ,(fv.mono bi.le),(fw.mono bi.le),(fx.mono bi.le)⟩ ?_
  rintro C _ iE iF fQ fR ⟨bm,bn,bo,q,s,v,x,y,B,d,f,i,O,rfl,bJ,bp,iG,cK,cL,G,H,I⟩
  refine wc_seq (sr (mv u (lv (rv_gtr u u) (nq (wcc fQ u (fun fS bK=>?_) (fun fS bK=>?_))))))
  ·refine wc_skip (qs (wc_block (sr (mv u ?_))))
   obtain⟨iH,fT,fU⟩:=ob bK
   refine lk co106 (ok_spec_l30Rd_pick F bJ.e1 cK cL (by decide :rng64 5) fT) ?_
   rintro iI iJ ⟨iK,iL,iM,au,rfl,c,iN,aw,ax⟩
   have bL:=(bJ.c1 c).t4
   refine nq (wc_block (sr (lv (rv_eql u u) (av u (nq (wcc fU u (fun fV bM=>?_) (fun fV bM=>?_)))))))
   ·refine wc_seq ?_
    obtain⟨ay,fW,fX⟩:=ob bM
    refine wc_cutg (fun E' w'=>∃bN az aA aB aC aD aE ab ac ad bq br bs R,E'=[(0,pt g1),(2,pt D),(3,pt o),(4,V6 C.1),(5,pt bN)]∧SH w K Z w' R [obj bN [V3 az aA aB,V3 aC aD aE,V3 ab ac ad] 36,tail (V3 ab ac ad) 73 3,obj g1 [V3 bq br bs,V6 ay.2.p_] 208,obj D [V3 none 0 0,V3 none 0 0,V3 none 0 0] 36,obj o [V3 q s v,V3 x y B,V3 d f i] 36,tail (V3 d f i) 73 3]∧KLe au R∧SliceAt tStr R az aA aB ay.1.Conf.Stops∧SliceAt tGSyn R aC aD aE ay.1.Conf.Syns∧SliceAt tGLive R ab ac ad ay.1.Segs∧SliceAt tU8 R bq br bs ay.2.b_∧rng64 ay.2.p_) ?_ ?_
    ·obtain⟨iO,cM,fY⟩:=ob fW
     obtain⟨iP,bO,bP⟩:=ob fY
     have aW:=bL.drew
     refine j_0 (fun w'=>Holds au w'∧HasObj o [V3 q s v,V3 x y B,V3 d f i] w') 11 [] mixed ⟨aW.hasK kr,aW.hasObj m2⟩ (jh 0 u (fun _ h=>rh_loadmS (ds:=[V3 q s v,V3 x y B,V3 d f i]) tf36 u u u h.2) (jv 1 u (rv_move u) (j2 2 8 u u ?_ ?_)))
     ·refine lk co106 (ok_spec_l30Rd_pick F aW.e1 aw ax (by decide :rng64 8) cM) ?_
      rintro iQ iR ⟨cN,cO,cP,iS,rfl,k,iT,cQ,cR⟩
      have aX:=(aW.c1 k).t4
      refine j_o ⟨aX.hasK k.le,aX.hasObj m2⟩ (jv 3 u (rv_add u u) (j2 4 8 u u ?_ ?_))
      ·refine lk co52 (ok_spec_IndexDrop F aX.enter0 (G.mono (c.le.trans k.le)) (H.mono (c.le.trans k.le)) (I.mono (c.le.trans k.le)) (w64_rng _) bO) ?_
       rintro iU iV ⟨cS,cT,cU,cV,cW,cX,cY,cZ,da,fZ,rfl,aF,ga,gb,gc⟩
       have bQ:=(aX.c0 aF).t5
       refine j_o ⟨bQ.hasK (k.le.trans aF.le),bQ.hasObj m3⟩ (jv 5 u (rv_move u) (jv 6 u (rv_extract u u) (jv 7 u (rv_extract u u) (j1 8 u (al tf36 bQ fun db iW gd=>?_)))))
       have bR:SH _ _ _ _ _ [obj db [V3 none 0 0,V3 none 0 0,V3 none 0 0] 36,_,_,_,_,_]:=gd
       refine j_o ⟨bR.hasK (k.le.trans aF.le),bR.hasObj m4⟩ (j1 9 u (lw [V3 cS cT cU,V3 cV cW cX,V3 cY cZ da] tf36 bR fun iX bS=>(j_o ⟨bS.hasK (k.le.trans aF.le),bS.hasObj m4⟩ (jv 10 u (rv_assign u) (jd ?_)))))
       cases oi bP
       exact qd ⟨db,cS,cT,cU,cV,cW,cX,cY,cZ,da,cN,cO,cP,fZ,u,bS,(k.le.trans aF.le),ga,gb,gc,(cQ.mono aF.le),cR⟩
      refine al tf36 aX fun dc iY ge=>?_
      have bu:SH _ _ _ _ _ [obj dc [V3 none 0 0,V3 none 0 0,V3 none 0 0] 36,_,_,_,_]:=ge
      refine j_o ⟨bu.hasK k.le,bu.hasObj m3⟩ (j1 4 u (lk co52 (ok_spec_IndexDrop F bu.enter0 (G.mono (c.le.trans k.le)) (H.mono (c.le.trans k.le)) (I.mono (c.le.trans k.le)) (w64_rng _) bO) ?_))
      rintro iZ ja ⟨dd,de,df,dg,dh,di,dj,dk,dl,gg,rfl,aY,gj,gk,gl⟩
      have bT:=(bu.c0 aY).t6
      refine j_o ⟨bT.hasK (k.le.trans aY.le),bT.hasObj m4⟩ (jv 5 u (rv_move u) (jv 6 u (rv_extract u u) (jv 7 u (rv_extract u u) (j1 9 u (lw [V3 dd de df,V3 dg dh di,V3 dj dk dl] tf36 bT.f1 fun jb bU=>(j_o ⟨bU.hasK (k.le.trans aY.le),bU.hasObj m4⟩ (jv 10 u (rv_assign u) (jd ?_))))))))
      cases oi bP
      exact qd ⟨dc,dd,de,df,dg,dh,di,dj,dk,dl,cN,cO,cP,gg,u,bU,(k.le.trans aY.le),gj,gk,gl,(cQ.mono aY.le),cR⟩
     refine al tf36 aW fun dm jc gm=>?_
     have bV:SH _ _ _ _ _ [obj dm [V3 none 0 0,V3 none 0 0,V3 none 0 0] 36,_,_,_,_]:=gm
     refine j_o ⟨bV.hasK kr,bV.hasObj m3⟩ (j1 2 u ?_)
     have dn:=bV.f1
     refine lk co106 (ok_spec_l30Rd_pick F dn.e1 aw ax (by decide :rng64 8) cM) ?_
     rintro je jj ⟨go,gp,gq,jl,rfl,S,jm,gr,gv⟩
     have bv:=(dn.c1 S).t5
     refine j_o ⟨bv.hasK S.le,bv.hasObj m3⟩ (jv 3 u (rv_add u u) (j1 4 u (lk co52 (ok_spec_IndexDrop F bv.enter0 (G.mono (c.le.trans S.le)) (H.mono (c.le.trans S.le)) (I.mono (c.le.trans S.le)) (w64_rng _) bO) ?_)))
     rintro jo jp ⟨dp,dq,dr,dt,du,dv,dw,dx,dy,gw,rfl,aZ,gx,gy,gz⟩
     have bW:=(bv.c0 aZ).t6
     refine j_o ⟨bW.hasK (S.le.trans aZ.le),bW.hasObj m4⟩ (jv 5 u (rv_move u) (jv 6 u (rv_extract u u) (jv 7 u (rv_extract u u) (j1 9 u (lw [V3 dp dq dr,V3 dt du dv,V3 dw dx dy] tf36 bW.f2 fun jq bX=>(j_o ⟨bX.hasK (S.le.trans aZ.le),bX.hasObj m4⟩ (jv 10 u (rv_assign u) (jd ?_))))))))
     cases oi bP
     exact qd ⟨dm,dp,dq,dr,dt,du,dv,dw,dx,dy,go,gp,gq,gw,u,bX,(S.le.trans aZ.le),gx,gy,gz,(gr.mono aZ.le),gv⟩
    rintro _ jr ⟨bN,az,aA,aB,aC,aD,aE,ab,ac,ad,bq,br,bs,R,rfl,dz,gA,gB,gC,gD,gE,gF⟩
    refine qe_seq (wc_region (lv (rv_loadmS (ds:=[V3 az aA aB,V3 aC aD aE,V3 ab ac ad]) tf36 u m0 dz u u) (lw [V3 az aA aB,V3 aC aD aE,V3 ab ac ad] tf36 dz.f4 fun jt gG=>(nb (qe_block (qe_seq (wc_region (mv u (lv (rv_sub u u) ?_)))))))))
    refine av u (wl_nil ?_)
    cases oi fX
    exact qd ⟨_,u,bq,br,bs,az,aA,aB,aC,aD,aE,ab,ac,ad,R,u,gG.f2.f1.f4.f4.s,((bp.trans c.le).trans gA),(w64_rng _),gE,gF,gB,gC,gD⟩
   refine sr (lv (rv_eql u u) (av u (nq (wcc bM u (fun gH bY=>?_) (fun gH bY=>?_)))))
   ·refine wc_seq ?_
    obtain⟨aG,gI,gJ⟩:=ob bY
    refine wc_cutg (fun E' w'=>∃bZ aH aI aJ aK aL aM ae af ag bx bz bA T,E'=[(0,pt g1),(2,pt D),(3,pt o),(4,V6 C.1),(7,pt bZ)]∧SH w K Z w' T [obj bZ [V3 aH aI aJ,V3 aK aL aM,V3 ae af ag] 36,tail (V3 ae af ag) 73 3,obj g1 [V3 bx bz bA,V6 aG.2.p_] 208,obj D [V3 none 0 0,V3 none 0 0,V3 none 0 0] 36,obj o [V3 q s v,V3 x y B,V3 d f i] 36,tail (V3 d f i) 73 3]∧KLe au T∧SliceAt tStr T aH aI aJ aG.1.Conf.Stops∧SliceAt tGSyn T aK aL aM aG.1.Conf.Syns∧SliceAt tGLive T ae af ag aG.1.Segs∧SliceAt tU8 T bx bz bA aG.2.b_∧rng64 aG.2.p_) ?_ ?_
    ·obtain⟨jw,dA,gK⟩:=ob gI
     obtain⟨jx,ca,cb⟩:=ob gK
     have ba:=bL.drew
     refine j_0 (fun w'=>Holds au w'∧HasObj o [V3 q s v,V3 x y B,V3 d f i] w') 10 [] mixed ⟨ba.hasK kr,ba.hasObj m2⟩ (jh 0 u (fun _ h=>rh_loadmS (ds:=[V3 q s v,V3 x y B,V3 d f i]) tf36 u u u h.2) (jv 1 u (rv_move u) (j2 2 7 u u ?_ ?_)))
     ·refine lk co106 (ok_spec_l30Rd_pick F ba.e1 aw ax (by decide :rng64 3) dA) ?_
      rintro jy jz ⟨dB,dC,dD,jA,rfl,l,dE,dF,dG⟩
      have bb:=(ba.c1 l).t4
      refine j_o ⟨bb.hasK l.le,bb.hasObj m2⟩ (j2 3 7 u u ?_ ?_)
      ·refine lk co48 (ok_spec_IndexMerge F bb.enter0 (G.mono (c.le.trans l.le)) (H.mono (c.le.trans l.le)) (I.mono (c.le.trans l.le)) dE ca) ?_
       rintro jB jC ⟨dH,dI,dJ,dK,dL,dM,dN,dO,dP,gL,rfl,aN,gM,gN,gO⟩
       have cc:=(bb.c0 aN).t5
       refine j_o ⟨cc.hasK (l.le.trans aN.le),cc.hasObj m3⟩ (jv 4 u (rv_move u) (jv 5 u (rv_extract u u) (jv 6 u (rv_extract u u) (j1 7 u (al tf36 cc fun dQ jD gP=>?_)))))
       have cd:SH _ _ _ _ _ [obj dQ [V3 none 0 0,V3 none 0 0,V3 none 0 0] 36,_,_,_,_,_]:=gP
       refine j_o ⟨cd.hasK (l.le.trans aN.le),cd.hasObj m4⟩ (j1 8 u (lw [V3 dH dI dJ,V3 dK dL dM,V3 dN dO dP] tf36 cd fun jE ce=>(j_o ⟨ce.hasK (l.le.trans aN.le),ce.hasObj m4⟩ (jv 9 u (rv_assign u) (jd ?_)))))
       cases oi cb
       exact qd ⟨dQ,dH,dI,dJ,dK,dL,dM,dN,dO,dP,dB,dC,dD,gL,u,ce,(l.le.trans aN.le),gM,gN,gO,(dF.mono aN.le),dG⟩
      refine al tf36 bb fun dR jF gQ=>?_
      have bB:SH _ _ _ _ _ [obj dR [V3 none 0 0,V3 none 0 0,V3 none 0 0] 36,_,_,_,_]:=gQ
      refine j_o ⟨bB.hasK l.le,bB.hasObj m3⟩ (j1 3 u (lk co48 (ok_spec_IndexMerge F bB.enter0 (G.mono (c.le.trans l.le)) (H.mono (c.le.trans l.le)) (I.mono (c.le.trans l.le)) dE ca) ?_))
      rintro jG jH ⟨dS,dT,dU,dV,dW,dX,dY,dZ,ea,gR,rfl,bc,gS,gT,gU⟩
      have cf:=(bB.c0 bc).t6
      refine j_o ⟨cf.hasK (l.le.trans bc.le),cf.hasObj m4⟩ (jv 4 u (rv_move u) (jv 5 u (rv_extract u u) (jv 6 u (rv_extract u u) (j1 8 u (lw [V3 dS dT dU,V3 dV dW dX,V3 dY dZ ea] tf36 cf.f1 fun jI cg=>(j_o ⟨cg.hasK (l.le.trans bc.le),cg.hasObj m4⟩ (jv 9 u (rv_assign u) (jd ?_))))))))
      cases oi cb
      exact qd ⟨dR,dS,dT,dU,dV,dW,dX,dY,dZ,ea,dB,dC,dD,gR,u,cg,(l.le.trans bc.le),gS,gT,gU,(dF.mono bc.le),dG⟩
     refine al tf36 ba fun eb jJ gV=>?_
     have ch:SH _ _ _ _ _ [obj eb [V3 none 0 0,V3 none 0 0,V3 none 0 0] 36,_,_,_,_]:=gV
     refine j_o ⟨ch.hasK kr,ch.hasObj m3⟩ (j1 2 u ?_)
     have ec:=ch.f1
     refine lk co106 (ok_spec_l30Rd_pick F ec.e1 aw ax (by decide :rng64 3) dA) ?_
     rintro jK jL ⟨gW,gX,gY,jM,rfl,U,gZ,hb,hc⟩
     have bC:=(ec.c1 U).t5
     refine j_o ⟨bC.hasK U.le,bC.hasObj m3⟩ (j1 3 u (lk co48 (ok_spec_IndexMerge F bC.enter0 (G.mono (c.le.trans U.le)) (H.mono (c.le.trans U.le)) (I.mono (c.le.trans U.le)) gZ ca) ?_))
     rintro jN jO ⟨ed,ee,ef,eg,eh,ei,ej,ek,el,hd,rfl,bd,he,hf,hg⟩
     have cj:=(bC.c0 bd).t6
     refine j_o ⟨cj.hasK (U.le.trans bd.le),cj.hasObj m4⟩ (jv 4 u (rv_move u) (jv 5 u (rv_extract u u) (jv 6 u (rv_extract u u) (j1 8 u (lw [V3 ed ee ef,V3 eg eh ei,V3 ej ek el] tf36 cj.f2 fun jP ck=>(j_o ⟨ck.hasK (U.le.trans bd.le),ck.hasObj m4⟩ (jv 9 u (rv_assign u) (jd ?_))))))))
     cases oi cb
     exact qd ⟨eb,ed,ee,ef,eg,eh,ei,ej,ek,el,gW,gX,gY,hd,u,ck,(U.le.trans bd.le),he,hf,hg,(hb.mono bd.le),hc⟩
    rintro _ jQ ⟨bZ,aH,aI,aJ,aK,aL,aM,ae,af,ag,bx,bz,bA,T,rfl,em,hh,hi,hj,hk,hn,ho⟩
    refine qe_seq (wc_region (lv (rv_loadmS (ds:=[V3 aH aI aJ,V3 aK aL aM,V3 ae af ag]) tf36 u m0 em u u) (lw [V3 aH aI aJ,V3 aK aL aM,V3 ae af ag] tf36 em.f4 fun jR hp=>(nb (qe_block (qe_seq (wc_region (mv u (lv (rv_sub u u) ?_)))))))))
    refine av u (wl_nil ?_)
    cases oi gJ
    exact qd ⟨_,u,bx,bz,bA,aH,aI,aJ,aK,aL,aM,ae,af,ag,T,u,hp.f2.f1.f4.f4.s,((bp.trans c.le).trans hh),(w64_rng _),hn,ho,hi,hj,hk⟩
   refine wc_seq ?_
   obtain⟨aO,hq,hr⟩:=ob bY
   refine wc_cutg (fun E' w'=>∃cl aP aQ aR aS aT aU ah ai aj bD bE bF V,E'=[(0,pt g1),(2,pt D),(3,pt o),(4,V6 C.1),(9,pt cl)]∧SH w K Z w' V [obj cl [V3 aP aQ aR,V3 aS aT aU,V3 ah ai aj] 36,tail (V3 ah ai aj) 73 3,obj g1 [V3 bD bE bF,V6 aO.2.p_] 208,obj D [V3 none 0 0,V3 none 0 0,V3 none 0 0] 36,obj o [V3 q s v,V3 x y B,V3 d f i] 36,tail (V3 d f i) 73 3]∧KLe au V∧SliceAt tStr V aP aQ aR aO.1.Conf.Stops∧SliceAt tGSyn V aS aT aU aO.1.Conf.Syns∧SliceAt tGLive V ah ai aj aO.1.Segs∧SliceAt tU8 V bD bE bF aO.2.b_∧rng64 aO.2.p_) ?_ ?_
   ·obtain⟨jS,en,ht⟩:=ob hq
    obtain⟨jT,cm,cn⟩:=ob ht
    have be:=bL.drew
    refine j_0 (fun w'=>Holds au w'∧HasObj o [V3 q s v,V3 x y B,V3 d f i] w') 10 [] mixed ⟨be.hasK kr,be.hasObj m2⟩ (jh 0 u (fun _ h=>rh_loadmS (ds:=[V3 q s v,V3 x y B,V3 d f i]) tf36 u u u h.2) (jv 1 u (rv_move u) (j2 2 7 u u ?_ ?_)))
    ·refine lk co181 (ok_spec_l30Docs F be.e1 aw ax en) ?_
     rintro jU jV ⟨jW,jX,jY,eo,ep,eq,jZ,rfl,m,es,et,eu⟩
     have bf:=(be.c1 m).t5
     refine j_o ⟨bf.hasK m.le,bf.hasObj m3⟩ (j2 3 7 u u ?_ ?_)
     ·refine lk co55 (ok_spec_IndexAdd F bf.enter0 (G.mono (c.le.trans m.le)) (H.mono (c.le.trans m.le)) (I.mono (c.le.trans m.le)) es cm) ?_
      rintro ka kb ⟨ev,ew,ex,eA,eB,eC,eD,eE,eF,hu,rfl,aV,hv,hw,hx⟩
      have cp:=(bf.c0 aV).t6
      refine j_o ⟨cp.hasK (m.le.trans aV.le),cp.hasObj m4⟩ (jv 4 u (rv_move u) (jv 5 u (rv_extract u u) (jv 6 u (rv_extract u u) (j1 7 u (al tf36 cp fun eG ke hy=>?_)))))
      have cq:SH _ _ _ _ _ [obj eG [V3 none 0 0,V3 none 0 0,V3 none 0 0] 36,_,_,_,_,_,_]:=hy
      refine j_o ⟨cq.hasK (m.le.trans aV.le),cq.hasObj m5⟩ (j1 8 u (lw [V3 ev ew ex,V3 eA eB eC,V3 eD eE eF] tf36 cq fun kf cr=>(j_o ⟨cr.hasK (m.le.trans aV.le),cr.hasObj m5⟩ (jv 9 u (rv_assign u) (jd ?_)))))
      cases oi cn
      exact qd ⟨eG,ev,ew,ex,eA,eB,eC,eD,eE,eF,eo,ep,eq,hu,u,cr.s,(m.le.trans aV.le),hv,hw,hx,(et.mono aV.le),eu⟩
     refine al tf36 bf fun eH ki hz=>?_
     have bG:SH _ _ _ _ _ [obj eH [V3 none 0 0,V3 none 0 0,V3 none 0 0] 36,_,_,_,_,_]:=hz
     refine j_o ⟨bG.hasK m.le,bG.hasObj m4⟩ (j1 3 u (lk co55 (ok_spec_IndexAdd F bG.enter0 (G.mono (c.le.trans m.le)) (H.mono (c.le.trans m.le)) (I.mono (c.le.trans m.le)) es cm) ?_))
     rintro kj kk ⟨eI,eJ,eK,eL,eM,eN,eO,eP,eQ,hA,rfl,bg,hB,hC,hD⟩
     have cs:=(bG.c0 bg).t7
     refine j_o ⟨cs.hasK (m.le.trans bg.le),cs.hasObj m5⟩ (jv 4 u (rv_move u) (jv 5 u (rv_extract u u) (jv 6 u (rv_extract u u) (j1 8 u (lw [V3 eI eJ eK,V3 eL eM eN,V3 eO eP eQ] tf36 cs.f1 fun kl ct=>(j_o ⟨ct.hasK (m.le.trans bg.le),ct.hasObj m5⟩ (jv 9 u (rv_assign u) (jd ?_))))))))
     cases oi cn
     exact qd ⟨eH,eI,eJ,eK,eL,eM,eN,eO,eP,eQ,eo,ep,eq,hA,u,ct.s,(m.le.trans bg.le),hB,hC,hD,(et.mono bg.le),eu⟩
    refine al tf36 be fun eR ko hE=>?_
    have cu:SH _ _ _ _ _ [obj eR [V3 none 0 0,V3 none 0 0,V3 none 0 0] 36,_,_,_,_]:=hE
    refine j_o ⟨cu.hasK kr,cu.hasObj m3⟩ (j1 2 u ?_)
    have eS:=cu.f1
    refine lk co181 (ok_spec_l30Docs F eS.e1 aw ax en) ?_
    rintro kp kq ⟨ks,kt,kw,hF,hG,hH,kx,rfl,W,hI,hJ,hK⟩
    have bH:=(eS.c1 W).t6
    refine j_o ⟨bH.hasK W.le,bH.hasObj m4⟩ (j1 3 u (lk co55 (ok_spec_IndexAdd F bH.enter0 (G.mono (c.le.trans W.le)) (H.mono (c.le.trans W.le)) (I.mono (c.le.trans W.le)) hI cm) ?_))
    rintro ky kz ⟨eT,eU,eV,eW,eX,eY,eZ,fb,fc,hL,rfl,bh,hM,hN,hO⟩
    have cv:=(bH.c0 bh).t7
    refine j_o ⟨cv.hasK (W.le.trans bh.le),cv.hasObj m5⟩ (jv 4 u (rv_move u) (jv 5 u (rv_extract u u) (jv 6 u (rv_extract u u) (j1 8 u (lw [V3 eT eU eV,V3 eW eX eY,V3 eZ fb fc] tf36 cv.f3 fun kA cw=>(j_o ⟨cw.hasK (W.le.trans bh.le),cw.hasObj m5⟩ (jv 9 u (rv_assign u) (jd ?_))))))))
    cases oi cn
    exact qd ⟨eR,eT,eU,eV,eW,eX,eY,eZ,fb,fc,hF,hG,hH,hL,u,cw.s,(W.le.trans bh.le),hM,hN,hO,(hJ.mono bh.le),hK⟩
   rintro _ kB ⟨cl,aP,aQ,aR,aS,aT,aU,ah,ai,aj,bD,bE,bF,V,rfl,fd,hP,hQ,hR,hT,hU,hV⟩
   refine qe_seq (wc_region (lv (rv_loadmS (ds:=[V3 aP aQ aR,V3 aS aT aU,V3 ah ai aj]) tf36 u m0 fd u u) (lw [V3 aP aQ aR,V3 aS aT aU,V3 ah ai aj] tf36 fd.f4 fun kC hW=>(nb (qe_block (qe_seq (wc_region (mv u (lv (rv_sub u u) ?_)))))))))
   refine av u (wl_nil ?_)
   cases oi hr
   exact qd ⟨_,u,bD,bE,bF,aP,aQ,aR,aS,aT,aU,ah,ai,aj,V,u,hW.f2.f1.f4.f4.s,((bp.trans c.le).trans hP),(w64_rng _),hU,hV,hQ,hR,hT⟩
  refine wc_exit (qe_then_exit (qe_then_exit ?_))
  cases oi bK
  cases fR _ u
  refine qe_block_eq ?_
  cases oi fO
  exact qd ⟨bm,bn,bo,q,s,v,x,y,B,d,f,i,O,u,bJ,bp,cK,cL,G,H,I⟩
 rintro _ kD ⟨bj,bk,bl,am,an,ao,ap,aq,ar,X,Y,aa,J,rfl,fe,kE,hX,hY,hZ,ia,ib⟩
 refine qr (lv (rv_loadmS (ds:=[V3 am an ao,V3 ap aq ar,V3 X Y aa]) tf36 u m2 fe u u) (lw [V3 am an ao,V3 ap aq ar,V3 X Y aa] tf36 fe.f1 fun kF fg=>(nq (wc_ret ?_))))
 cases oi fM
 exact ez results169 tf36 fg m0 ⟨am,an,ao,ap,aq,ar,X,Y,aa,bj,bk,bl,J,u,fg.f1.f3.s,hZ,ia,ib,hX,hY⟩

theorem ok_spec_l30Rd_one {q0:GL30Rd}{q1:List Int}{r:Int×GL30Rd}(hS:SH w K Z w K [obj g1 [V3 A a b,V6 q0.p_] 208])(l:SliceAt tU8 K A a b q0.b_)(m:rng64 q0.p_)(f:SliceAt tInt K B c d q1)(hm:M.spec_l30Rd_one F q0 q1=some r):
  Calls prog 170 #[.pointer (some ⟨g1,0,none⟩),V3 B c d] w fun e w'=>∃a_2 n_3 c_4 K',e= .returned (V6 r.1)∧SH w K Z w' K' [obj g1 [V3 a_2 n_3 c_4,V6 r.2.p_] 208]∧rng64 r.1∧SliceAt tU8 K' a_2 n_3 c_4 r.2.b_∧rng64 r.2.p_:=by
 rw [M.spec_l30Rd_one] at hm
 refine ci func170 u ntmps170 (sr (lv (r_0 u) (nr (mv u (mv u (mv u (lv (rv_len underlying71 u f) ?_)))))))
 obtain⟨W,o,q⟩:=ob hm
 refine lk co106 (ok_spec_l30Rd_pick F hS.e1 l m f.rn o) ?_
 rintro X Y ⟨s,x,y,C,rfl,i,aa,D,G⟩
 have k:=(hS.c1 i).t1
 obtain⟨H,I,J⟩:=ob q
 refine li underlying71 tf3 (f.mono i.le) I fun O R ab S T=>?_
 obtain⟨rfl,U⟩:=S
 have V:AtK _ O R [V6 H]:=T
 refine lv (rv_load1 tf3 u k (V 0 _ u)) (av u (nq (wc_ret ?_)))
 cases oi J
 exact ey results170 ⟨s,x,y,C,u,k,U,D,G⟩

theorem ok_spec_l30AnyIndex {q0:GL30Rd}{r:GIndex×GL30Rd}(hS:SH w K Z w K [obj g1 [V3 A a b,V6 q0.p_] 208])(bV:SliceAt tU8 K A a b q0.b_)(bW:rng64 q0.p_)(hm:M.spec_l30AnyIndex F q0=some r):
  Calls prog 103 #[.pointer (some ⟨g1,0,none⟩)] w fun e w'=>∃a_1 n_2 c_3 a_5 n_6 c_7 a_9 n_10 c_11 a_13 n_14 c_15 K',e= .returned (.agg #[V3 a_1 n_2 c_3,V3 a_5 n_6 c_7,V3 a_9 n_10 c_11])∧SH w K Z w' K' [tail (V3 a_9 n_10 c_11) 73 3,obj g1 [V3 a_13 n_14 c_15,V6 r.2.p_] 208]∧SliceAt tStr K' a_1 n_2 c_3 r.1.Conf.Stops∧SliceAt tGSyn K' a_5 n_6 c_7 r.1.Conf.Syns∧SliceAt tGLive K' a_9 n_10 c_11 r.1.Segs∧SliceAt tU8 K' a_13 n_14 c_15 r.2.b_∧rng64 r.2.p_:=by
 rw [M.spec_l30AnyIndex] at hm
 refine ci func103 rfl ntmps103 (sr (al tf36 hS fun g7 w9 bY=>?_))
 have bZ:SH _ _ _ _ _ [obj g7 [V3 none 0 0,V3 none 0 0,V3 none 0 0] 36,_]:=bY
 refine nr (mv rfl ?_)
 obtain⟨eK,ca,cb⟩:=ob hm
 have bp:=bZ.f1
 refine lk co169 (ok_spec_l30Index F bp.e1 bV bW ca) ?_
 rintro eL eM ⟨eN,eO,eP,eQ,eR,eS,eT,eU,eV,cc,cd,ce,eW,rfl,cf,cg,ch,cj,bq,br⟩
 have bs:=(bp.c1 cf).t3
 obtain⟨eX,ck,cl⟩:=ob cb
 refine lk co110 ((own_spec_l18Copy F) bs.enter0 cg ch cj ck) ?_
 rintro eY eZ ⟨c,f,i,k,l,m,o,x,y,cs55,fb,rfl,aQ,S,T,hrow56,hm57⟩
 have cm:=(bs.c0 aQ).t5
 refine al tf36 cm fun aq fc cn=>?_
 have cp:SH _ _ _ _ _ [obj aq [V3 none 0 0,V3 none 0 0,V3 none 0 0] 36,_,_,_,_,_]:=cn
 refine lw [V3 c f i,V3 k l m,V3 o x y] tf36 cp fun fd R=>(nsr (fl ff36_1 rfl tf34 m0 R rfl (lv (rv_lenRow underlying34 rfl hm57) (lv (rv_gtr rfl rfl) (nq (wcc cl rfl (fun cq aR=>?_) (fun cq aR=>?_)))))))
 ·refine sr (mv rfl (fl ff36_1 rfl tf34 m0 R rfl (lv (rv_lenRow underlying34 rfl hm57) ?_)))
  obtain⟨H,cr,ct⟩:=ob aR
  have bu:=R.f4
  refine lk co106 (ok_spec_l30Rd_pick F bu.e1 (bq.mono aQ.le) br (rng_nat (rowI_max R m1 hm57)) cr) ?_
  rintro fe fg ⟨fh,fi,fj,fk,rfl,q,fm,cu,cv⟩
  have bv:=(bu.c1 q).t6
  refine av rfl (nr (mv rfl ?_))
  obtain⟨fn,cw,cx⟩:=ob ct
  refine lk co106 (ok_spec_l30Rd_pick F bv.e1 cu cv (by decide :rng64 16) cw) ?_
  rintro fo fp ⟨aS,aT,aU,aV,rfl,s,fq,ar,au⟩
  have U:=(bv.c1 s).t6
  refine nq (wc_block (sr (lv (rv_eql rfl rfl) (av rfl (nq (wcc cx rfl (fun cy aW=>?_) (fun cy aW=>?_)))))))
  ·have V:=U.drew
   refine wh1 (fun w'=>Holds aV w'∧HasObj aq [V3 c f i,V3 k l m,V3 o x y] w') (fun w'=>HasRow o cs55 w') 16 [(8,13),(8,14),(8,15),(8,16),(13,14),(13,15),(13,16),(14,15),(15,16)] mixed ⟨V.hasK kr,V.hasObj m1⟩ (fun _=>V.hasRow (.tail _ (.tail _ (.head _)))) (gt (rv_fieldAddr ff36_1 rfl) (gh (fun _ h=>rh_loadm1 tf34 rfl rfl h.2) (gt (rv_move rfl) (gt (rv_fieldAddr ff36_1 rfl) (gh (fun _ h=>rh_loadm1 tf34 rfl rfl h.2) (gt (rv_move rfl) ?_))))))
   obtain⟨fr,aX,cz⟩:=ob aW
   obtain⟨fs,bx⟩:=SH.rowI_at V m2 hm57 aX
   obtain⟨ft,cA,cB⟩:=RowAt.at (RowAt.mono (q.le.trans s.le) hrow56) aX
   obtain⟨cC,cD,cE,cF,cG,cH,cI,cJ,cK,rfl,fu,fv,cL⟩:=cA
   have bz: ∀(j:Nat) (d:Value),[V3 cC cD cE,V3 cF cG cH,V3 cI cJ cK][j]? =some d→cs55[H.1.toNat*tGLive.size+j]? =some d:=cB
   refine gt (rv_indexI (t:=tGLive) underlying34 tf73 rfl rfl bx hm57 aX) (gt (rv_fieldAddr ff73_1 rfl) (gf (fun _ h=>(rh_loadI1 tf71 rfl rfl (bz 2 _ rfl) bx h)) (gt (rv_move rfl) (gn (wl_buildSlice (t:=tInt) (n:=2) (pv:=[(0,V6 1),(1,V6 77)]) (cs:=[V6 1,V6 77]) (xs:=[(1:Int),(77:Int)]) wn rfl underlying71 tf3 rfl rfl rfl (by kernel_rfl) rfl rfl (lit_cons (u:=V6 1) (z:=(1:Int)) ⟨rfl,(by decide :rng64 1)⟩ (lit_cons (u:=V6 77) (z:=(77:Int)) ⟨rfl,(by decide :rng64 77)⟩ lit_nil)) V fun fw fx fy B cM aw=>(wl_nil (qh ⟨aw.hasK B,aw.hasObj m2⟩ (fun _=>aw.hasRow (.tail _ (.tail _ (.tail _ (.head _))))) (gn ?_))))))))
   obtain⟨aY,cN,cO⟩:=ob cz
   have bA:=aw.f1
   refine lk co170 (ok_spec_l30Rd_one F bA.e1 (ar.mono B) au cM cN) ?_
   rintro fz fA ⟨cP,cQ,cR,fB,rfl,C,cS,cT,cU⟩
   have ax:=(bA.c1 C).t7
   refine wl_nil (qh ⟨ax.hasK (B.trans C.le),ax.hasObj m2⟩ (fun _=>ax.hasRow (.tail _ (.tail _ (.tail _ (.head _))))) (gn (lb tInt (V6 aY.1) [V6 aY.1] aY.1 underlying71 tf3 ⟨rfl,cS⟩ ax fun fC fD fE D cV ay=>(wl_nil (qh ⟨ay.hasK ((B.trans C.le).trans D),ay.hasObj m3⟩ (fun _=>ay.hasRow (.tail _ (.tail _ (.tail _ (.tail _ (.head _)))))) (gn ?_))))))
   have cW:=SH.pickI ay.f5 bz
   obtain⟨bB,cX,cY⟩:=ob cO
   refine lp underlying71 tf3 (cL.mono ((B.trans C.le).trans D)) cV cX cW fun aZ ba bb fF fG I cZ W=>(wl_nil (qh ⟨W.hasK (((B.trans C.le).trans D).trans I),W.hasObj m4⟩ (fun _=>W.hasRow (.tail _ (.tail _ (.tail _ (.tail _ (.tail _ (.head _))))))) ?_))
   obtain⟨bC,X,da⟩:=ob cY
   obtain⟨fH,bD⟩:=SH.rowI_at W m5 hm57 X
   obtain⟨fI,db,dc⟩:=RowAt.at (RowAt.mono (((((q.le.trans s.le).trans B).trans C.le).trans D).trans I) hrow56) X
   obtain⟨az,aA,aB,aC,aD,aE,bE,bF,bG,rfl,dd,de,fJ⟩:=db
   have df: ∀(j:Nat) (d:Value),[V3 az aA aB,V3 aC aD aE,V3 bE bF bG][j]? =some d→cs55[H.1.toNat*tGLive.size+j]? =some d:=dc
   refine gt (rv_indexI (t:=tGLive) underlying34 tf73 rfl rfl bD hm57 X) (gt (rv_fieldAddr ff73_1 rfl) (gn (wl_storeI (t:=tGLive) (off:=2) (ds:=[V3 az aA aB,V3 aC aD aE,V3 bE bF bG]) (v:=V3 aZ ba bb) (u:=.agg #[V3 az aA aB,V3 aC aD aE,V3 aZ ba bb]) (e:=(GLive.mk bC.Seg bB)) wn tf71 rfl rfl rfl rfl (by simp [Value.cells,Value.oneCell']) bD W.f5 (RowAt.mono (((((q.le.trans s.le).trans B).trans C.le).trans D).trans I) hrow56) hm57 X df rfl rfl ⟨az,aA,aB,aC,aD,aE,aZ,ba,bb,rfl,dd,de,cZ⟩ fun cs185 fK hrow187 hm188 aF=>?_)))
   have dg:=getI_set (e:=(GLive.mk bC.Seg bB)) X
   obtain⟨fL,dh,di⟩:=RowAt.at hrow187 dg
   obtain⟨dj,dk,dl,dm,dn,dp,dq,dr,dt,rfl,fM,fN,fO⟩:=dh
   have fP: ∀(j:Nat) (d:Value),[V3 dj dk dl,V3 dm dn dp,V3 dq dr dt][j]? =some d→cs185[H.1.toNat*tGLive.size+j]? =some d:=di
   refine wl_nil (qh ⟨aF.hasK (((B.trans C.le).trans D).trans I),aF.hasObj m5⟩ (fun h=>nomatch h) (gd' (qe_block (qr (lv (rv_loadmS (ds:=[V3 c f i,V3 k l m,V3 o x y]) tf36 rfl m5 aF rfl rfl) (lw [V3 c f i,V3 k l m,V3 o x y] tf36 aF.f7 fun fQ du=>(nq (wc_ret ?_))))))))
   obtain⟨dv,bc,dw,bH⟩:=SH.freezeI du.f1 hrow187 hm188
   cases oi da
   exact ez results103 tf36 bH m1 ⟨c,f,i,k,l,m,o,x,y,cP,cQ,cR,dv,rfl,bH.s,(SliceAt.mono ((((((q.le.trans s.le).trans B).trans C.le).trans D).trans I).trans bc) S),(SliceAt.mono ((((((q.le.trans s.le).trans B).trans C.le).trans D).trans I).trans bc) T),dw,(cT.mono ((D.trans I).trans bc)),cU⟩
  refine sr (lv (rv_eql rfl rfl) (av rfl (nq (wcc aW rfl (fun dx bd=>?_) (fun dx bd=>?_)))))
  ·have Y:=U.drew
   refine wh1 (fun w'=>Holds aV w') (fun w'=>HasObj aq [V3 c f i,V3 k l m,V3 o x y] w'∧HasRow o cs55 w') 8 [(1,8),(3,5),(5,6),(6,7),(7,8)] mixed (Y.hasK kr) (fun _=>⟨Y.hasObj m1,Y.hasRow m2⟩) (gt (rv_fieldAddr ff36_1 rfl) (gf (fun _ h=>rh_loadm1 tf34 rfl rfl h.1) (gt (rv_fieldAddr ff36_1 rfl) (gf (fun _ h=>rh_loadm1 tf34 rfl rfl h.1) (gt (rv_move rfl) ?_)))))
   obtain⟨dy,be,dz⟩:=ob bd
   obtain⟨fR,bI⟩:=SH.rowI_at Y m2 hm57 be
   obtain⟨fS,dA,dB⟩:=RowAt.at (RowAt.mono (q.le.trans s.le) hrow56) be
   obtain⟨aa,ab,ac,ad,ae,af,ag,ah,ai,rfl,dC,dD,dE⟩:=dA
   have dF: ∀(j:Nat) (d:Value),[V3 aa ab ac,V3 ad ae af,V3 ag ah ai][j]? =some d→cs55[H.1.toNat*tGLive.size+j]? =some d:=dB
   refine gt (rv_indexI (t:=tGLive) underlying34 tf73 rfl rfl bI hm57 be) (gf (fun _ h=>(rh_loadIS (ds:=[V3 aa ab ac,V3 ad ae af,V3 ag ah ai]) tf73 rfl dF rfl bI h.2)) (gn (lb tGLive (.agg #[V3 aa ab ac,V3 ad ae af,V3 ag ah ai]) [V3 aa ab ac,V3 ad ae af,V3 ag ah ai] dy underlying34 tf73 ⟨aa,ab,ac,ad,ae,af,ag,ah,ai,rfl,dC,dD,dE⟩ Y fun fT fU fV J dG aG=>(wl_nil (qh (aG.hasK J) (fun _=>⟨aG.hasObj m2,aG.hasRow m3⟩) (gn ?_))))))
   obtain⟨fW,dH,dI⟩:=ob dz
   refine wl_appendR (t:=tGLive) wn rfl underlying34 tf73 rfl rfl rfl rfl (RowAt.mono ((q.le.trans s.le).trans J) hrow56) hm57 dG dH aG.f3 fun aj ak am cs254 fX hrow256 hm257 bJ=>(wl_nil (qh (bJ.hasK J) (fun h=>nomatch h) (gt (rv_fieldAddr ff36_1 rfl) (gn (ls [V3 c f i,V3 k l m,V3 aj ak am] (V3 aj ak am) tf34 bJ.f3 fun fY bf=>(wl_nil (qh (bf.hasK J) (fun h=>nomatch h) (gd' (qe_block (qr (lv (rv_loadmS (ds:=[V3 c f i,V3 k l m,V3 aj ak am]) tf36 rfl m0 bf rfl rfl) ?_)))))))))))
   refine lw [V3 c f i,V3 k l m,V3 aj ak am] tf36 bf.f6 fun fZ dJ=>(nq (wc_ret ?_))
   obtain⟨dK,bg,dL,bK⟩:=SH.freezeI dJ.f2 hrow256 hm257
   cases oi dI
   exact ez results103 tf36 bK m1 ⟨c,f,i,k,l,m,aj,ak,am,aS,aT,aU,dK,rfl,bK.s,(SliceAt.mono (((q.le.trans s.le).trans J).trans bg) S),(SliceAt.mono (((q.le.trans s.le).trans J).trans bg) T),dL,(ar.mono (J.trans bg)),au⟩
  refine sr (lv (rv_eql rfl rfl) (av rfl (nq (wcc bd rfl (fun dM bh=>?_) (fun dM bh=>?_)))))
  ·have an:=U.drew
   refine wh1 (fun w'=>Holds aV w'∧HasObj aq [V3 c f i,V3 k l m,V3 o x y] w') (fun w'=>HasRow o cs55 w') 16 [(9,12),(9,13),(9,14),(9,15),(9,16),(12,13),(12,14),(12,15),(12,16),(13,14),(14,15),(15,16)] mixed ⟨an.hasK kr,an.hasObj m1⟩ (fun _=>an.hasRow (.tail _ (.tail _ (.head _)))) (gt (rv_fieldAddr ff36_1 rfl) (gh (fun _ h=>rh_loadm1 tf34 rfl rfl h.2) (gt (rv_move rfl) (gt (rv_fieldAddr ff36_1 rfl) (gh (fun _ h=>rh_loadm1 tf34 rfl rfl h.2) (gt (rv_move rfl) ?_))))))
   obtain⟨ga,bi,dN⟩:=ob bh
   obtain⟨gb,bL⟩:=SH.rowI_at an m2 hm57 bi
   obtain⟨gc,dO,dP⟩:=RowAt.at (RowAt.mono (q.le.trans s.le) hrow56) bi
   obtain⟨dQ,dR,dS,dT,dU,dV,dW,dX,dY,rfl,gd,dZ,ge⟩:=dO
   have bM: ∀(j:Nat) (d:Value),[V3 dQ dR dS,V3 dT dU dV,V3 dW dX dY][j]? =some d→cs55[H.1.toNat*tGLive.size+j]? =some d:=dP
   refine gt (rv_indexI (t:=tGLive) underlying34 tf73 rfl rfl bL hm57 bi) (gt (rv_fieldAddr ff73_0 rfl) (gt (rv_fieldAddr ff46_1 rfl) (gf (fun _ h=>(rh_loadI1 tf44 rfl rfl (bM 1 _ rfl) bL h)) (gt (rv_build (cs:=#[sv [],sv [],V3 none 0 0]) sp116 tf116 rfl (by kernel_rfl)) (gn (lb tGEntry (.agg #[sv [],sv [],V3 none 0 0]) [sv [],sv [],V3 none 0 0] (GEntry.mk ([]:Str) ([]:Str) ([]:List GPost)) underlying44 tf116 ⟨none,0,0,rfl,(by decide :([]:Str).length≤maxLen),(by decide :([]:Str).length≤maxLen),(SliceAt.nil _ _)⟩ an fun gg gj gk G ea aH=>(wl_nil (qh ⟨aH.hasK G,aH.hasObj m2⟩ (fun _=>aH.hasRow (.tail _ (.tail _ (.tail _ (.head _))))) (gn ?_)))))))))
   have eb:=SH.pickE aH.f4 bM
   obtain⟨bN,ec,ed⟩:=ob dN
   refine lp underlying44 tf116 (dZ.mono G) ea ec eb fun bj bk bl gl gm O ee ao=>(wl_nil (qh ⟨ao.hasK (G.trans O),ao.hasObj m3⟩ (fun _=>ao.hasRow (.tail _ (.tail _ (.tail _ (.tail _ (.head _)))))) ?_))
   obtain⟨aI,ap,ef⟩:=ob ed
   obtain⟨go,bO⟩:=SH.rowI_at ao m4 hm57 ap
   obtain⟨gp,eg,eh⟩:=RowAt.at (RowAt.mono (((q.le.trans s.le).trans G).trans O) hrow56) ap
   obtain⟨aJ,aK,aL,bP,bQ,bR,aM,aN,aO,rfl,ei,gq,ej⟩:=eg
   have ek: ∀(j:Nat) (d:Value),[V3 aJ aK aL,V3 bP bQ bR,V3 aM aN aO][j]? =some d→cs55[H.1.toNat*tGLive.size+j]? =some d:=eh
   refine gt (rv_indexI (t:=tGLive) underlying34 tf73 rfl rfl bO hm57 ap) (gt (rv_fieldAddr ff73_0 rfl) (gt (rv_fieldAddr ff46_1 rfl) (gn (wl_storeI (t:=tGLive) (off:=1) (ds:=[V3 aJ aK aL,V3 bP bQ bR,V3 aM aN aO]) (v:=V3 bj bk bl) (u:=.agg #[V3 aJ aK aL,V3 bj bk bl,V3 aM aN aO]) (e:=(GLive.mk (GSeg.mk aI.Seg.Docs bN) aI.Dead)) wn tf44 rfl rfl rfl rfl (by simp [Value.cells,Value.oneCell']) bO ao.f4 (RowAt.mono (((q.le.trans s.le).trans G).trans O) hrow56) hm57 ap ek rfl rfl ⟨aJ,aK,aL,bj,bk,bl,aM,aN,aO,rfl,ei,ee,ej⟩ fun cs337 gr hrow339 hm340 aP=>?_))))
   have el:=getI_set (e:=(GLive.mk (GSeg.mk aI.Seg.Docs bN) aI.Dead)) ap
   obtain⟨gv,em,en⟩:=RowAt.at hrow339 el
   obtain⟨eo,ep,eq,es,et,eu,ev,ew,ex,rfl,gw,gx,gy⟩:=em
   have gz: ∀(j:Nat) (d:Value),[V3 eo ep eq,V3 es et eu,V3 ev ew ex][j]? =some d→cs337[H.1.toNat*tGLive.size+j]? =some d:=en
   refine wl_nil (qh ⟨aP.hasK (G.trans O),aP.hasObj m4⟩ (fun h=>nomatch h) (gd' (qe_block (qr (lv (rv_loadmS (ds:=[V3 c f i,V3 k l m,V3 o x y]) tf36 rfl m4 aP rfl rfl) (lw [V3 c f i,V3 k l m,V3 o x y] tf36 aP.f6 fun gA eA=>(nq (wc_ret ?_))))))))
   obtain⟨eB,bm,eC,bS⟩:=SH.freezeI eA.f1 hrow339 hm340
   cases oi ef
   exact ez results103 tf36 bS m1 ⟨c,f,i,k,l,m,o,x,y,aS,aT,aU,eB,rfl,bS.s,(SliceAt.mono ((((q.le.trans s.le).trans G).trans O).trans bm) S),(SliceAt.mono ((((q.le.trans s.le).trans G).trans O).trans bm) T),eC,(ar.mono ((G.trans O).trans bm)),au⟩
  refine wc_skip (qe_block (qr (lv (rv_loadmS (ds:=[V3 c f i,V3 k l m,V3 o x y]) tf36 rfl m1 U rfl rfl) (lw [V3 c f i,V3 k l m,V3 o x y] tf36 U.f5 fun gB eD=>(nq (wc_ret ?_))))))
  obtain⟨eE,bn,eF,bT⟩:=SH.freezeI eD.f3 (RowAt.mono (q.le.trans s.le) hrow56) hm57
  cases oi bh
  exact ez results103 tf36 bT m1 ⟨c,f,i,k,l,m,o,x,y,aS,aT,aU,eE,rfl,bT.s,(S.mono ((q.le.trans s.le).trans bn)),(T.mono ((q.le.trans s.le).trans bn)),eF,(ar.mono bn),au⟩
 refine wc_skip (qr (lv (rv_loadmS (ds:=[V3 c f i,V3 k l m,V3 o x y]) tf36 rfl m0 R rfl rfl) (lw [V3 c f i,V3 k l m,V3 o x y] tf36 R.f5 fun gC eG=>(nq (wc_ret ?_)))))
 obtain⟨eH,bo,eI,bU⟩:=SH.freezeI eG.f2 hrow56 hm57
 cases oi aR
 exact ez results103 tf36 bU m1 ⟨c,f,i,k,l,m,o,x,y,cc,cd,ce,eH,rfl,bU.s,(S.mono bo),(T.mono bo),eI,(bq.mono (aQ.le.trans bo)),br⟩

theorem ok_spec_l30Open {q0:List UInt8}{r:GL30Rd}(hS:SH w K [] w K [])(c:SliceAt tU8 K A a b q0)(hm:M.spec_l30Open F q0=some r):
  Calls prog 104 #[V3 A a b] w fun e w'=>∃g_1 a_2 n_3 c_4 K',e= .returned (.pointer (some ⟨g_1,0,none⟩))∧SH w K [] w' K' [obj g_1 [V3 a_2 n_3 c_4,V6 r.p_] 208]∧SliceAt tU8 K' a_2 n_3 c_4 r.b_∧rng64 r.p_:=by
 rw [M.spec_l30Open] at hm
 refine ci func104 u ntmps104 (sr (lv (rv_assign (v:=.pointer none) u) (nsr (mv u (lv (rv_len underlying69 u c) (lv (rv_gtr u u) (nq (wc_cond u (fun d=>?_) (fun d=>?_)))))))))
 ·have f:=cond_t d hm
  refine wc_region (mv u ?_)
  obtain⟨G,q,s⟩:=ob f
  refine wl_sl_h (t:=tU8) wn u underlying69 tf5 u u c q fun i k l x=>(av u (nr (mv u (lv (rv_build (cs:=#[V3 i k l,V6 0]) sp208 tf208 u (by kernel_rfl)) (bx u hS fun m H y=>?_)))))
  have B:SH _ _ _ _ _ [obj m [V3 i k l,V6 0] 208]:=y
  refine av u (nq (wc_ret ?_))
  cases oi s
  exact ey results104 ⟨m,i,k,l,K,u,B,x,d_0⟩
 have f:=cond_f d hm
 refine wc_skip (qr (mv u (lv (rv_build (cs:=#[V3 A a b,V6 0]) sp208 tf208 u (by kernel_rfl)) (bx u hS fun o I C=>?_))))
 have D:SH _ _ _ _ _ [obj o [V3 A a b,V6 0] 208]:=C
 refine av u (nq (wc_ret ?_))
 cases oi f
 exact ey results104 ⟨o,A,a,b,K,u,D,c,d_0⟩

theorem ok_spec_DrawIndexDocs {q0:List UInt8}{r:GIndex}(hS:SH w K [] w K [])(y:SliceAt tU8 K A a b q0)(hm:M.spec_DrawIndexDocs F q0=some r):
  Calls prog 40 #[V3 A a b] w fun e w'=>∃a_1 n_2 c_3 a_5 n_6 c_7 a_9 n_10 c_11 K',e= .returned (.agg #[V3 a_1 n_2 c_3,V3 a_5 n_6 c_7,V3 a_9 n_10 c_11])∧SH w K [] w' K' [tail (V3 a_9 n_10 c_11) 73 3]∧SliceAt tStr K' a_1 n_2 c_3 r.Conf.Stops∧SliceAt tGSyn K' a_5 n_6 c_7 r.Conf.Syns∧SliceAt tGLive K' a_9 n_10 c_11 r.Segs:=by
 rw [M.spec_DrawIndexDocs] at hm
 refine ci func40 u ntmps40 (sr (al tf36 hS fun B Y C=>?_))
 have c:SH _ _ _ _ _ [obj B [V3 none 0 0,V3 none 0 0,V3 none 0 0] 36]:=C
 refine nr (mv u ?_)
 obtain⟨r9,D,G⟩:=ob hm
 refine lk co104 (ok_spec_l30Open F c.enter0 y D) ?_
 rintro ab ac ⟨ad,ae,af,ag,ah,rfl,H,I,J⟩
 have d:=(c.c0 H).t2
 obtain⟨ai,O,R⟩:=ob G
 refine lk co103 (ok_spec_l30AnyIndex F d.e1 I J O) ?_
 rintro aj ak ⟨f,i,k,l,m,o,q,s,v,am,an,ao,S,rfl,T,U,V,W,ap,aq⟩
 have X:=(d.c1 T).t3
 refine lw [V3 f i k,V3 l m o,V3 q s v] tf36 X.f2 fun ar x=>(nq (wc_ret ?_))
 cases oi R
 exact ez results40 tf36 x m0 ⟨f,i,k,l,m,o,q,s,v,S,u,x.s,U,V,W⟩

theorem ok_laws_foDoc {q0:GDoc}{q1:GDoc}{r:Bool}(hS:SH w K [] w K [])(bF:rng64 q0.Id)(V:SliceAt tGField K A a b q0.Fields)(W:SliceAt tGAttr K B c d q0.Nums)(bG:rng64 q1.Id)(al:SliceAt tGField K C f i q1.Fields)(am:SliceAt tGAttr K D k l q1.Nums)(hm:M.laws_foDoc F q0 q1=some r):
  Calls prog 43 #[.agg #[V6 q0.Id,V3 A a b,V3 B c d],.agg #[V6 q1.Id,V3 C f i,V3 D k l]] w (R_b w K r):=by
 rw [M.laws_foDoc] at hm
 refine ci func43 u ntmps43 (sr (bx u hS fun q bH az=>?_))
 have aA:SH _ _ _ _ _ [obj q [V6 q0.Id,V3 A a b,V3 B c d] 77]:=az
 refine bx u aA fun s bI aB=>?_
 have x:SH _ _ _ _ _ [obj s [V6 q1.Id,V3 C f i,V3 D k l] 77,_]:=aB
 refine lv (r_f u) (ns (wc_seq ?_))
 obtain⟨aC,aD,aE⟩:=ob hm
 refine wc_cutg (IV w K [] K [(2,pt q),(3,pt s),(29,.bool aC)] [obj q [V6 q0.Id,V3 A a b,V3 B c d] 77,obj s [V6 q1.Id,V3 C f i,V3 D k l] 77]) ?_ ?_
 ·refine wc_region (fl ff77_0 u tf3 m1 x u (fl ff77_0 u tf3 m0 x u (lv (rv_neq u u) (mv u (bt aD (fun m X=>?_) (fun m X=>?_))))))
  ·iterate 7 refine lu m ?_
   refine lv (p_t u m u) (mv u ?_)
   iterate 7 refine lu u ?_
   refine lv (p_t u u u) (wl_nil ?_)
   cases oi X
   exact qd ⟨K,u,x.f1,kr⟩
  refine lg m (rv_fieldAddr ff77_1 u) (lg m (rv_loadm1 tf74 u m1 x u) (lg m (rv_len underlying74 u V) (lg m (rv_fieldAddr ff77_1 u) (lg m (rv_loadm1 tf74 u m0 x u) (lg m (rv_len underlying74 u al) (lg m (rv_neq u u) (lv (rv_pick_f u m u) (mv u (bt X (fun o Y=>?_) (fun o Y=>?_))))))))))
  ·iterate 7 refine lu o ?_
   refine lv (p_t u o u) (wl_nil ?_)
   cases oi Y
   exact qd ⟨K,u,x.f1,kr⟩
  refine lg o (rv_fieldAddr ff77_2 u) (lg o (rv_loadm1 tf75 u m1 x u) (lg o (rv_len underlying75 u W) (lg o (rv_fieldAddr ff77_2 u) (lg o (rv_loadm1 tf75 u m0 x u) (lg o (rv_len underlying75 u am) (lg o (rv_neq u u) (lv (rv_pick_f u o u) (wl_nil ?_))))))))
  cases oi Y
  exact qd ⟨K,u,x.f1,kr⟩
 rintro _ bJ ⟨I,rfl,an,y⟩
 refine qe_seq (wcc aE u (fun aF aa=>?_) (fun aF aa=>?_))
 ·refine sr (lv (r_f u) (nq (rr ?_)))
  cases oi aa
  exact ey results43 ⟨I,u,an.s⟩
 refine wc_skip (qs (sr (lv (r_0 u) (nq ?_))))
 obtain⟨aG,aH,J⟩:=ob aa
 refine wc_cutg (IE aG w K [] I [(2,pt q),(3,pt s)] [obj q [V6 q0.Id,V3 A a b,V3 B c d] 77,obj s [V6 q1.Id,V3 C f i,V3 D k l] 77]) ?_ ?_
 ·refine wc_block ?_
  obtain⟨bK,aI,ao⟩:=ob aH
  refine qw (fun (ab:Int)=>IW w K [] I [(2,pt q),(3,pt s),(5,V6 ab)] [obj q [V6 q0.Id,V3 A a b,V3 B c d] 77,obj s [V6 q1.Id,V3 C f i,V3 D k l] 77] (rng64 ab)) aI ⟨I,u,an,kr,d_0⟩ ?_
  rintro ab _ bL bM aJ ap ⟨aK,rfl,ac,G,bN⟩
  refine wc_seq (sr (mv u (fl ff77_1 u tf74 m0 ac u (lv (rv_len underlying74 u (V.mono (y.trans G))) (lv (rv_lss u u) (nq (wcc aJ u (fun aL ad=>?_) (fun aL ad=>?_))))))))
  ·refine wc_skip (qs (wc_block (wc_seq (wc_quiet mixed (by kernel_rfl) ac (kv (rv_fieldAddr ff77_1 u) (kh (rq_loadm1 tf74 u m0 u) (km u ?_)))))))
   obtain⟨O,aM,aN⟩:=ob ad
   refine ki underlying74 tf108 (V.mono (y.trans G)) aM fun aO aP bO aQ aR=>?_
   obtain⟨rfl,bP,bQ⟩:=aQ
   have aS:AtK _ aO aP [sv O.Name,sv O.Text]:=aR
   refine kh (rq_loadS tf108 u aS u) (kv (rv_fieldAddr ff77_1 u) (kh (rq_loadm1 tf74 u m1 u) (km u ?_)))
   obtain⟨R,aT,aU⟩:=ob aN
   refine ki underlying74 tf108 (al.mono (y.trans G)) aT fun aV aW bR aX aY=>?_
   obtain⟨rfl,bS,bT⟩:=aX
   have aZ:AtK _ aV aW [sv R.Name,sv R.Text]:=aY
   refine kh (rq_loadS tf108 u aZ u) (kv (rv_neS eqg108 u u (eqs108 O.Name O.Text R.Name R.Text)) (wq_nil ?_))
   rintro bU ⟨aq,ar,ba⟩
   refine qe_seq (wcc aU u (fun bb ae=>?_) (fun bb ae=>?_))
   ·refine sr (lv (r_f u) (nq (wc_ret (qe_block_ret (qe_then_ret (qe_then_ret ?_))))))
    cases oi ae
    cases ap _ u
    refine qe_block_ret (qe_then_ret ?_)
    cases oi ao
    refine qe_then_ret ?_
    cases oi J
    exact ey results43 ⟨aq,u,ar.s⟩
   refine wc_skip (qe_block (qe_seq (wc_region (mv u (lv (rv_add u u) (av u (wl_nil ?_)))))))
   cases oi ae
   exact qd ⟨_,u,aq,u,ar,(G.trans ba),(w64_rng _)⟩
  refine wc_exit (qe_then_exit (qe_then_exit ?_))
  cases oi ad
  cases ap _ u
  refine qe_block_eq ?_
  cases oi ao
  exact qd ⟨_,aK,u,u,ac,G⟩
 rintro _ bV ⟨bW,af,rfl,rfl,bc,ag⟩
 have J:=elim_l J
 refine qs (sr (lv (r_0 u) (nq ?_)))
 obtain⟨bd,be,S⟩:=ob J
 refine wc_cutg (IE bd w K [] af [] []) ?_ ?_
 ·refine wc_block ?_
  obtain⟨bX,bf,au⟩:=ob be
  refine qw (fun (ah:Int)=>IW w K [] af [(2,pt q),(3,pt s),(6,V6 ah)] [obj q [V6 q0.Id,V3 A a b,V3 B c d] 77,obj s [V6 q1.Id,V3 C f i,V3 D k l] 77] (rng64 ah)) bf ⟨af,u,bc,kr,d_0⟩ ?_
  rintro ah _ bY bZ bg aw ⟨bh,rfl,ai,H,ca⟩
  refine wc_seq (sr (mv u (fl ff77_2 u tf75 m0 ai u (lv (rv_len underlying75 u (W.mono ((y.trans ag).trans H))) (lv (rv_lss u u) (nq (wcc bg u (fun bi aj=>?_) (fun bi aj=>?_))))))))
  ·refine wc_skip (qs (wc_block (wc_seq (wc_quiet mixed (by kernel_rfl) ai (kv (rv_fieldAddr ff77_2 u) (kh (rq_loadm1 tf75 u m0 u) (km u ?_)))))))
   obtain⟨T,bj,bk⟩:=ob aj
   refine ki underlying75 tf142 (W.mono ((y.trans ag).trans H)) bj fun bl bm cb bn bo=>?_
   obtain⟨rfl,cc,cd⟩:=bn
   have bp:AtK _ bl bm [sv T.Name,V6 T.Num]:=bo
   refine kh (rq_loadS tf142 u bp u) (kv (rv_fieldAddr ff77_2 u) (kh (rq_loadm1 tf75 u m1 u) (km u ?_)))
   obtain⟨U,bq,br⟩:=ob bk
   refine ki underlying75 tf142 (am.mono ((y.trans ag).trans H)) bq fun bs bu ce bv bz=>?_
   obtain⟨rfl,cf,cg⟩:=bv
   have bA:AtK _ bs bu [sv U.Name,V6 U.Num]:=bz
   refine kh (rq_loadS tf142 u bA u) (kv (rv_neS eqg142 u u (eqs142 T.Name T.Num U.Name U.Num)) (wq_nil ?_))
   rintro ch ⟨ax,ay,bB⟩
   refine qe_seq (wcc br u (fun bC ak=>?_) (fun bC ak=>?_))
   ·refine sr (lv (r_f u) (nq (wc_ret (qe_block_ret (qe_then_ret (qe_then_ret ?_))))))
    cases oi ak
    cases aw _ u
    refine qe_block_ret (qe_then_ret ?_)
    cases oi au
    refine qe_then_ret ?_
    cases oi S
    exact ey results43 ⟨ax,u,ay.s⟩
   refine wc_skip (qe_block (qe_seq (wc_region (mv u (lv (rv_add u u) (av u (wl_nil ?_)))))))
   cases oi ak
   exact qd ⟨_,u,ax,u,ay,(H.trans bB),(w64_rng _)⟩
  refine wc_exit (qe_then_exit (qe_then_exit ?_))
  cases oi aj
  cases aw _ u
  refine qe_block_eq ?_
  cases oi au
  exact qe_mid' ⟨_,bh,u,u,ai.s,H⟩ trivial
 rintro _ cj ⟨ck,bD,rfl,rfl,bE,cl⟩
 have S:=elim_l S
 refine qr (lv (r_t u) (nq (wc_ret ?_)))
 cases oi S
 exact ey results43 ⟨bD,u,bE⟩

theorem ok_laws_foDocs {q0:List GDoc}{q1:List GDoc}{r:Bool}(hS:SH w K [] w K [])(l:SliceAt tGDoc K A a b q0)(y:SliceAt tGDoc K B c d q1)(hm:M.laws_foDocs F q0 q1=some r):
  Calls prog 41 #[V3 A a b,V3 B c d] w (R_b w K r):=by
 rw [M.laws_foDocs] at hm
 refine ci func41 u ntmps41 (sr (lv (r_f u) (nsr (mv u (lv (rv_len underlying43 u l) (mv u (lv (rv_len underlying43 u y) (lv (rv_neq u u) (nq ?_)))))))))
 refine wc_cond u (fun m=>?_) (fun m=>?_)
 ·have o:=cond_t m hm
  refine sr (lv (r_f u) (nq (rr ?_)))
  cases oi o
  exact ey results41 ⟨K,u,hS⟩
 have o:=cond_f m hm
 refine wc_skip (qs (sr (lv (r_0 u) (nq ?_))))
 obtain⟨J,O,i⟩:=ob o
 refine wc_cutg (IE J w K [] K [] []) ?_ ?_
 ·refine wc_block ?_
  obtain⟨aO,R,C⟩:=ob O
  refine qw (fun (q:Int)=>IW w K [] K [(0,V3 A a b),(1,V3 B c d),(5,V6 q)] [] (rng64 q)) R ⟨K,u,hS,kr,d_0⟩ ?_
  rintro q _ aP aQ S D ⟨T,rfl,G,f,aR⟩
  refine wc_seq (sr (mv u (mv u (lv (rv_len underlying43 u (l.mono f)) (lv (rv_lss u u) (nq (wcc S u (fun U s=>?_) (fun U s=>?_))))))))
  ·refine wc_skip (qs (wc_block (wc_seq (wc_quiet mixed (by kernel_rfl) G (km u (km u ?_))))))
   obtain⟨V,W,X⟩:=ob s
   refine ki underlying43 tf77 (l.mono f) W fun Y aa aS ab ac=>?_
   obtain⟨ad,ae,af,ag,ah,ai,rfl,aj,ak,al⟩:=ab
   have am:AtK _ Y aa [V6 V.Id,V3 ad ae af,V3 ag ah ai]:=ac
   refine kh (rq_loadS tf77 u am u) (km u (km u ?_))
   obtain⟨an,ao,ap⟩:=ob X
   refine ki underlying43 tf77 (y.mono f) ao fun aq ar aT au aw=>?_
   obtain⟨ax,ay,az,aA,aB,aC,rfl,aD,aE,aF⟩:=au
   have aG:AtK _ aq ar [V6 an.Id,V3 ax ay az,V3 aA aB aC]:=aw
   refine kh (rq_loadS tf77 u aG u) ?_
   obtain⟨aU,aH,aI⟩:=ob ap
   refine kc co43 (fun _ _ aJ k=>(ok_laws_foDoc F) aJ.enter0 aj (ak.mono k) (al.mono k) aD (aE.mono k) (aF.mono k) aH) (kv (rv_not u) (wq_nil ?_))
   rintro aV ⟨H,I,aK⟩
   refine qe_seq (wcc aI u (fun aL x=>?_) (fun aL x=>?_))
   ·refine sr (lv (r_f u) (nq (wc_ret (qe_block_ret (qe_then_ret (qe_then_ret ?_))))))
    cases oi x
    cases D _ u
    refine qe_block_ret (qe_then_ret ?_)
    cases oi C
    refine qe_then_ret ?_
    cases oi i
    exact ey results41 ⟨H,u,I⟩
   refine wc_skip (qe_block (qe_seq (wc_region (mv u (lv (rv_add u u) (av u (wl_nil ?_)))))))
   cases oi x
   exact qd ⟨_,u,H,u,I,(f.trans aK),(w64_rng _)⟩
  refine wc_exit (qe_then_exit (qe_then_exit ?_))
  cases oi s
  cases D _ u
  refine qe_block_eq ?_
  cases oi C
  exact qe_mid' ⟨_,T,u,u,G,f⟩ trivial
 rintro _ aW ⟨aX,aM,rfl,rfl,aN,aY⟩
 have i:=elim_l i
 refine qr (lv (r_t u) (nq (wc_ret ?_)))
 cases oi i
 exact ey results41 ⟨aM,u,aN⟩

theorem ok_laws_foIn {q0:List Int}{q1:Int}{r:Bool}(hS:SH w K [] w K [])(o:SliceAt tInt K A a b q0)(X:rng64 q1)(hm:M.laws_foIn F q0 q1=some r):
  Calls prog 42 #[V3 A a b,V6 q1] w (R_b w K r):=by
 rw [M.laws_foIn] at hm
 refine ci func42 u ntmps42 (sr (lv (r_f u) (nsr (lv (r_0 u) (nq ?_)))))
 obtain⟨x,y,c⟩:=ob hm
 refine wc_cutg (IE x w K [] K [] []) ?_ ?_
 ·refine wc_block ?_
  obtain⟨Y,B,q⟩:=ob y
  refine qw (fun (i:Int)=>IW w K [] K [(0,V3 A a b),(1,V6 q1),(5,V6 i)] [] (rng64 i)) B ⟨K,u,hS,kr,d_0⟩ ?_
  rintro i _ aa ab C s ⟨k,rfl,d,f,ac⟩
  refine wc_seq (sr (mv u (mv u (lv (rv_len underlying71 u (o.mono f)) (lv (rv_lss u u) (nq (wcc C u (fun D l=>?_) (fun D l=>?_))))))))
  ·refine wc_skip (qs (wc_block (sr (mv u (mv u ?_)))))
   obtain⟨G,H,I⟩:=ob l
   refine li underlying71 tf3 (o.mono f) H fun J O ad R S=>?_
   obtain⟨rfl,ae⟩:=R
   have T:AtK _ J O [V6 G]:=S
   refine lv (rv_load1 tf3 u d (T 0 _ u)) (mv u (lv (rv_eql u u) (nq (wcc I u (fun U m=>?_) (fun U m=>?_)))))
   ·refine sr (lv (r_t u) (nq (wc_ret (qe_block_ret (qe_then_ret (qe_then_ret ?_))))))
    cases oi m
    cases s _ u
    refine qe_block_ret (qe_then_ret ?_)
    cases oi q
    refine qe_then_ret ?_
    cases oi c
    exact ey results42 ⟨k,u,d⟩
   refine wc_skip (qe_block (qe_seq (wc_region (mv u (lv (rv_add u u) (av u (wl_nil ?_)))))))
   cases oi m
   exact qd ⟨_,u,k,u,d,f,(w64_rng _)⟩
  refine wc_exit (qe_then_exit (qe_then_exit ?_))
  cases oi l
  cases s _ u
  refine qe_block_eq ?_
  cases oi q
  exact qe_mid' ⟨_,k,u,u,d,f⟩ trivial
 rintro _ af ⟨s9,V,rfl,rfl,W,ah⟩
 have c:=elim_l c
 refine qr (lv (r_f u) (nq (wc_ret ?_)))
 cases oi c
 exact ey results42 ⟨V,u,W⟩

theorem ok_laws_foFind {q0:List GDoc}{q1:Int}{r:GDoc}(hS:SH w K [] w K [])(D:SliceAt tGDoc K A a b q0)(aU:rng64 q1)(hm:M.laws_foFind F q0 q1=some r):
  Calls prog 44 #[V3 A a b,V6 q1] w fun e w'=>∃a_2 n_3 c_4 a_6 n_7 c_8 K',e= .returned (.agg #[V6 r.Id,V3 a_2 n_3 c_4,V3 a_6 n_7 c_8])∧SH w K [] w' K' []∧rng64 r.Id∧SliceAt tGField K' a_2 n_3 c_4 r.Fields∧SliceAt tGAttr K' a_6 n_7 c_8 r.Nums:=by
 rw [M.laws_foFind] at hm
 refine ci func44 u ntmps44 (sr (al tf77 hS fun k w7 aj=>?_))
 have ak:SH _ _ _ _ _ [obj k [V6 0,V3 none 0 0,V3 none 0 0] 77]:=aj
 refine nsr (lv (r_0 u) (nq ?_))
 obtain⟨am,an,C⟩:=ob hm
 refine wc_cutg (fun E' w'=>∃f G H I J O R i,am= .inl f∧E'=[(4,pt k)]∧SH w K [] w' i [obj k [V6 f.Id,V3 G H I,V3 J O R] 77]∧KLe K i∧rng64 f.Id∧SliceAt tGField i G H I f.Fields∧SliceAt tGAttr i J O R f.Nums) ?_ ?_
 ·refine wc_block ?_
  obtain⟨aW,ao,ab⟩:=ob an
  refine qw (fun (d:Int×GDoc) E' w'=>∃l m o q s x c,E'=[(0,V3 A a b),(1,V6 q1),(4,pt k),(5,V6 d.1)]∧SH w K [] w' c [obj k [V6 d.2.Id,V3 l m o,V3 q s x] 77]∧KLe K c∧rng64 d.1∧rng64 d.2.Id∧SliceAt tGField c l m o d.2.Fields∧SliceAt tGAttr c q s x d.2.Nums) ao ⟨none,0,0,none,0,0,K,u,ak,kr,d_0,d_0,(SliceAt.nil _ _),(SliceAt.nil _ _)⟩ ?_
  rintro d _ aX aY ap ac ⟨l,m,o,q,s,x,c,rfl,y,B,aZ,ad,ae,af⟩
  refine wc_seq (sr (mv u (mv u (lv (rv_len underlying43 u (D.mono B)) (lv (rv_lss u u) (nq (wcc ap u (fun aq S=>?_) (fun aq S=>?_))))))))
  ·refine wc_skip (qs (wc_block (sr (mv u (mv u ?_)))))
   obtain⟨ar,au,aw⟩:=ob S
   refine li underlying43 tf77 (D.mono B) au fun ax ay ba az aA=>?_
   obtain⟨aB,aC,aD,aE,aF,aG,rfl,bb,bc,bd⟩:=az
   have aH:AtK _ ax ay [V6 ar.Id,V3 aB aC aD,V3 aE aF aG]:=aA
   refine fa ff77_0 u (lv (rv_load1 tf3 u y (aH 0 _ u)) (mv u (lv (rv_eql u u) (nq (wcc aw u (fun aI T=>?_) (fun aI T=>?_))))))
   ·refine sr (mv u (mv u ?_))
    obtain⟨ag,aJ,aK⟩:=ob T
    refine li underlying43 tf77 (D.mono B) aJ fun aL aM be aN aO=>?_
    obtain⟨U,V,W,X,Y,aa,rfl,aP,aQ,aR⟩:=aN
    have aS:AtK _ aL aM [V6 ag.Id,V3 U V W,V3 X Y aa]:=aO
    refine lv (rv_loadS tf77 u y aS u) (lw [V6 ag.Id,V3 U V W,V3 X Y aa] tf77 y fun bf ah=>(nq (wc_ret (qe_block_ret (qe_then_ret (qe_then_ret ?_))))))
    cases oi aK
    cases ac _ u
    refine qe_block_ret (qe_then_ret ?_)
    cases oi ab
    refine qe_then_ret ?_
    cases oi C
    exact ez results44 tf77 ah m0 ⟨U,V,W,X,Y,aa,c,u,ah.s,aP,aQ,aR⟩
   refine wc_skip (qe_block (qe_seq (wc_region (mv u (lv (rv_add u u) (av u (wl_nil ?_)))))))
   cases oi T
   exact qd ⟨_,u,l,m,o,q,s,x,c,u,y,B,(w64_rng _),ad,ae,af⟩
  refine wc_exit (qe_then_exit (qe_then_exit ?_))
  cases oi S
  cases ac _ u
  refine qe_block_eq ?_
  cases oi ab
  exact qd ⟨_,l,m,o,q,s,x,c,u,u,y,B,ad,ae,af⟩
 rintro _ bg ⟨f,G,H,I,J,O,R,i,rfl,rfl,aT,bh,bi,bj,bk⟩
 have C:=elim_l C
 refine qr (lv (rv_build (cs:=#[V6 0,V3 none 0 0,V3 none 0 0]) sp77 tf77 u (by kernel_rfl)) (lw [V6 0,V3 none 0 0,V3 none 0 0] tf77 aT fun bl ai=>(nq (wc_ret ?_))))
 cases oi C
 exact ez results44 tf77 ai m0 ⟨none,0,0,none,0,0,i,u,ai.s,d_0,(SliceAt.nil _ _),(SliceAt.nil _ _)⟩

theorem ok_laws_FnIndexDocs {q0:List UInt8}{r:Bool}(hS:SH w K [] w K [])(aR:SliceAt tU8 K A a b q0)(hm:M.laws_FnIndexDocs F q0=some r):
  Calls prog 7 #[V3 A a b] w (R_b w K r):=by
 rw [M.laws_FnIndexDocs] at hm
 refine ci func7 u ntmps7 (sr (lv (r_f u) (nsr (mv u (lv (rv_len underlying69 u aR) (lv (rv_gtr u u) (nq (wc_cond u (fun ay=>?_) (fun ay=>?_)))))))))
 ·have h6:=cond_t ay hm
  refine sr (lv (r_t u) (nq (rr ?_)))
  cases oi h6
  exact ey results7 ⟨K,u,hS⟩
 have h6:=cond_f ay hm
 refine wc_skip (qr (mv u ?_))
 obtain⟨r7,bj,h9⟩:=ob h6
 refine lk co40 (ok_spec_DrawIndexDocs F hS.enter0 aR bj) ?_
 rintro eJ eK ⟨i,k,l,m,o,q,s,x,y,eL,rfl,bl,am,an,H⟩
 have bm:=(hS.c0 bl).t1
 refine al tf36 bm fun B eM bn=>?_
 have bo:SH _ _ _ _ _ [obj B [V3 none 0 0,V3 none 0 0,V3 none 0 0] 36,_]:=bn
 refine lw [V3 i k l,V3 m o q,V3 s x y] tf36 bo fun eN aA=>(nr (lv (rv_loadmS (ds:=[V3 i k l,V3 m o q,V3 s x y]) tf36 u m0 aA u u) ?_))
 obtain⟨eO,bp,bq⟩:=ob h9
 refine lk co37 (ok_impl_IndexDocs F aA.enter0 am an H bp) ?_
 rintro eP eQ ⟨R,S,T,br,rfl,d,ab⟩
 have aB:=(aA.c0 d).t3
 refine av u (ns (wc_seq ?_))
 obtain⟨bs,bu,bv⟩:=ob bq
 refine wc_cutg (IV w K [] br [(3,pt B),(4,V3 R S T),(25,.bool bs)] [obj B [V3 i k l,V3 m o q,V3 s x y] 36]) ?_ ?_
 ·refine wc_region (mv u (lv (rv_loadmS (ds:=[V3 i k l,V3 m o q,V3 s x y]) tf36 u m1 aB u u) ?_))
  obtain⟨eR,bx,bz⟩:=ob bu
  refine lk co36 (ok_spec_IndexDocs F aB.enter0 (am.mono d.le) (an.mono d.le) (H.mono d.le) bx) ?_
  rintro eS eT ⟨eU,eV,eW,eX,rfl,U,bA⟩
  have aS:=(aB.c0 U).t4
  obtain⟨eY,bB,bC⟩:=ob bz
  refine lk co41 (ok_laws_foDocs F aS.enter0 (ab.mono U.le) bA bB) ?_
  rintro eZ fb ⟨bD,rfl,W⟩
  have ao:=(aS.c0 W).t4
  refine lv (rv_not u) (mv u (bt bC (fun I aC=>?_) (fun I aC=>?_)))
  ·refine lu I (lu I (lu I (lv (p_t u I u) (wl_nil ?_))))
   cases oi aC
   exact qd ⟨bD,u,ao.s,(U.le.trans W.le)⟩
  refine lg I (rv_loadmS (ds:=[V3 i k l,V3 m o q,V3 s x y]) tf36 u m2 ao u u) ?_
  obtain⟨fc,bE,bF⟩:=ob aC
  refine wl_call (wg u u I) u (rt_call (vs:=[.agg #[V3 i k l,V3 m o q,V3 s x y]]) co14 u) (ok_impl_IndexOk F ao.enter0 (am.mono ((d.le.trans U.le).trans W.le)) (an.mono ((d.le.trans U.le).trans W.le)) (H.mono ((d.le.trans U.le).trans W.le)) bE) ?_
  rintro fd fe ⟨bG,rfl,aT⟩
  refine⟨_,u,?_⟩
  have bH:=(ao.c0 aT).t4
  refine lg I (rv_not u) (lv (rv_pick_f u I u) (wl_nil ?_))
  cases oi bF
  exact qd ⟨bG,u,bH.s,((U.le.trans W.le).trans aT.le)⟩
 rintro _ fg ⟨aD,rfl,ap,f⟩
 refine qe_seq (wcc bv u (fun bI aE=>?_) (fun bI aE=>?_))
 ·refine sr (mv u (lv (rv_loadmS (ds:=[V3 i k l,V3 m o q,V3 s x y]) tf36 u m0 ap u u) ?_))
  obtain⟨fh,bJ,bK⟩:=ob aE
  refine lk co36 (ok_spec_IndexDocs F ap.enter0 (am.mono (d.le.trans f)) (an.mono (d.le.trans f)) (H.mono (d.le.trans f)) bJ) ?_
  rintro fi fj ⟨fk,fm,fn,fo,rfl,aU,bL⟩
  have aV:=(ap.c0 aU).t2
  obtain⟨fp,bM,bN⟩:=ob bK
  refine lk co41 (ok_laws_foDocs F aV.enter0 (ab.mono (f.trans aU.le)) bL bM) ?_
  rintro fq fr ⟨bO,rfl,bP⟩
  have bQ:=(aV.c0 bP).t2
  refine av u (nq (rr ?_))
  cases oi bN
  exact ey results7 ⟨bO,u,bQ.s⟩
 refine wc_skip (qr (lv (r_0 u) (nsr (lv (r_0 u) (nq ?_)))))
 obtain⟨bR,bS,aq⟩:=ob aE
 refine wc_cutg (fun E' w'=>∃ar aF,bR= .inl ar∧E'=[(4,V3 R S T),(5,V6 ar)]∧SH w K [] w' aF []∧KLe aD aF∧rng64 ar) ?_ ?_
 ·refine wc_block ?_
  obtain⟨fs,bT,aW⟩:=ob bS
  refine qw (fun (O:Int×Int)=>IW w K [] aD [(3,pt B),(4,V3 R S T),(5,V6 O.1),(6,V6 O.2)] [obj B [V3 i k l,V3 m o q,V3 s x y] 36] (rng64 O.1∧rng64 O.2)) bT ⟨aD,u,ap,kr,d_0,d_0⟩ ?_
  rintro O _ ft fu bU aX ⟨bV,rfl,aG,J,bW,fv⟩
  refine wc_seq (sr (mv u (fl ff36_1 u tf34 m0 aG u (lv (rv_len underlying34 u (H.mono ((d.le.trans f).trans J))) (lv (rv_lss u u) (nq (wcc bU u (fun bX aH=>?_) (fun bX aH=>?_))))))))
  ·refine wc_skip (qs (wc_block (wc_seq (wc_quiet mixed (by kernel_rfl) aG (km u (kv (rv_fieldAddr ff36_1 u) (kh (rq_loadm1 tf34 u m0 u) (km u ?_))))))))
   obtain⟨fw,bY,bZ⟩:=ob aH
   refine ki underlying34 tf73 (H.mono ((d.le.trans f).trans J)) bY fun ca cb fx cc cd=>?_
   obtain⟨ce,cf,cg,ch,cj,ck,cl,cm,cn,rfl,cp,fy,fz⟩:=cc
   have cq:AtK _ ca cb [V3 ce cf cg,V3 ch cj ck,V3 cl cm cn]:=cd
   refine kv (rv_fieldAddr ff73_0 u) (kv (rv_fieldAddr ff46_0 u) (kh (rq_load1 tf43 u (cq 0 _ u)) (kv (rv_len underlying43 u cp) (kv (rv_add u u) (kv (rv_fieldAddr ff36_1 u) (kh (rq_loadm1 tf34 u m0 u) (km u ?_)))))))
   obtain⟨fA,cr,cs⟩:=ob bZ
   refine ki underlying34 tf73 (H.mono ((d.le.trans f).trans J)) cr fun ct cu fB cv cw=>?_
   obtain⟨cx,cy,cz,cA,cB,cC,cD,cE,cF,rfl,fC,fD,cG⟩:=cv
   have cH:AtK _ ct cu [V3 cx cy cz,V3 cA cB cC,V3 cD cE cF]:=cw
   refine kv (rv_fieldAddr ff73_1 u) (kh (rq_load1 tf71 u (cH 2 _ u)) (kv (rv_len underlying71 u cG) (kv (rv_sub u u) ?_)))
   obtain⟨aI,cI,cJ⟩:=ob cs
   have aY:=oi cI
   refine kv (rv_as u (congrArg (Value.int .i64) aY)) (wq_nil ?_)
   rintro fE ⟨aJ,cK,ac⟩
   refine qr (lv (r_0 u) (nq ?_))
   obtain⟨cL,cM,au⟩:=ob cJ
   refine wc_cutg (IE cL w K [] aJ [(3,pt B),(4,V3 R S T),(5,V6 aI),(6,V6 O.2)] [obj B [V3 i k l,V3 m o q,V3 s x y] 36]) ?_ ?_
   ·refine wc_block ?_
    obtain⟨fF,cN,aZ⟩:=ob cM
    refine qw (fun (aw:Int)=>IW w K [] aJ [(3,pt B),(4,V3 R S T),(5,V6 aI),(6,V6 O.2),(7,V6 aw)] [obj B [V3 i k l,V3 m o q,V3 s x y] 36] (rng64 aw)) cN ⟨aJ,u,cK,kr,d_0⟩ ?_
    rintro aw _ fG fH cO ba ⟨aK,rfl,V,X,fI⟩
    refine wc_seq (sr (mv u (fl ff36_1 u tf34 m0 V u (mv u ?_))))
    obtain⟨fJ,cP,cQ⟩:=ob cO
    refine li underlying34 tf73 (SliceAt.mono ((((d.le.trans f).trans J).trans ac).trans X) H) cP fun cR cS fK cT cU=>?_
    obtain⟨cV,cW,cX,cY,cZ,da,db,dc,dd,rfl,de,fL,fM⟩:=cT
    have df:AtK _ cR cS [V3 cV cW cX,V3 cY cZ da,V3 db dc dd]:=cU
    refine fa ff73_0 u (fa ff46_0 u (lv (rv_load1 tf43 u V (df 0 _ u)) (lv (rv_len underlying43 u de) (lv (rv_lss u u) (nq (wcc cQ u (fun dg aL=>?_) (fun dg aL=>?_)))))))
    ·refine wc_skip (qs (wc_block (sr (fl ff36_1 u tf34 m0 V u (mv u ?_)))))
     obtain⟨fN,dh,di⟩:=ob aL
     refine li underlying34 tf73 (SliceAt.mono ((((d.le.trans f).trans J).trans ac).trans X) H) dh fun dj dk fO dl dm=>?_
     obtain⟨dn,dp,dq,dr,dt,du,dv,dw,dx,rfl,dy,fP,fQ⟩:=dl
     have dz:AtK _ dj dk [V3 dn dp dq,V3 dr dt du,V3 dv dw dx]:=dm
     refine fa ff73_0 u (fa ff46_0 u (lv (rv_load1 tf43 u V (dz 0 _ u)) (mv u ?_)))
     obtain⟨Y,dA,dB⟩:=ob di
     refine li underlying43 tf77 dy dA fun dC dD fR dE dF=>?_
     obtain⟨ad,ae,af,ag,ah,ai,rfl,aM,dG,dH⟩:=dE
     have dI:AtK _ dC dD [V6 Y.Id,V3 ad ae af,V3 ag ah ai]:=dF
     refine lv (rv_loadS tf77 u V dI u) (al tf77 V fun bb fS dJ=>?_)
     have dK:SH _ _ _ _ _ [obj bb [V6 0,V3 none 0 0,V3 none 0 0] 77,_]:=dJ
     refine lw [V6 Y.Id,V3 ad ae af,V3 ag ah ai] tf77 dK fun fT dL=>(ns ?_)
     obtain⟨dM,dN,dO⟩:=ob dB
     refine wc_cutg (IV w K [] aK [(3,pt B),(4,V3 R S T),(5,V6 aI),(6,V6 O.2),(7,V6 aw),(95,.bool dM)] [obj B [V3 i k l,V3 m o q,V3 s x y] 36]) ?_ ?_
     ·have aj:=dL.drew
      refine j_0 (fun w'=>Holds aK w'∧HasObj B [V3 i k l,V3 m o q,V3 s x y] w'∧HasObj bb [V6 Y.Id,V3 ad ae af,V3 ag ah ai] w') 19 [] mixed ⟨aj.hasK kr,aj.hasObj m1,aj.hasObj m0⟩ (jv 0 u (rv_fieldAddr ff36_1 u) (jh 1 u (fun _ h=>rh_loadm1 tf34 u u h.2.1) (jv 2 u (rv_move u) ?_)))
      obtain⟨fU,dP,dQ⟩:=ob dN
      refine ji 3 u underlying34 tf73 (SliceAt.mono ((((d.le.trans f).trans J).trans ac).trans X) H) dP fun dR dS fV dT dU=>?_
      obtain⟨dV,dW,dX,dY,dZ,ea,eb,ec,ed,rfl,fW,fX,ee⟩:=dT
      have ef:AtK _ dR dS [V3 dV dW dX,V3 dY dZ ea,V3 eb ec ed]:=dU
      refine jv 4 u (rv_fieldAddr ff73_1 u) (jh 5 u (fun _ h=>rh_load1 tf71 u (ef 2 _ u) h.1) (jv 6 u (rv_fieldAddr ff77_0 u) (jh 7 u (fun _ h=>rh_loadm1 tf3 u u h.2.2) (j1 8 u ?_))))
      obtain⟨fY,eg,eh⟩:=ob dQ
      refine lk co42 (ok_laws_foIn F aj.enter0 ee aM eg) ?_
      rintro fZ ga ⟨ei,rfl,D⟩
      have C:=(aj.c0 D).t2
      refine j_o ⟨C.hasK D.le,C.hasObj m1,C.hasObj m0⟩ (jv 9 u (rv_not u) (jv 10 u (rv_move u) (bt eh (fun c aN=>?_) (fun c aN=>?_))))
      ·refine jg c 11 u (rv_move u) (jg c 12 u (rv_fieldAddr ff77_0 u) (jk c 13 u (fun _ h=>rh_loadm1 tf3 u u h.2.2) (jk c 15 u (fun _ h=>rh_loadmS (ds:=[V6 Y.Id,V3 ad ae af,V3 ag ah ai]) tf77 u u u h.2.2) (j1 14 u ?_))))
       obtain⟨ej,ek,el⟩:=ob aN
       refine wl_call (wg u u c) u (rt_call (vs:=[V3 R S T,V6 Y.Id]) co44 u) (ok_laws_foFind F C.enter0 (SliceAt.mono ((((f.trans J).trans ac).trans X).trans D.le) ab) aM ek) ?_
       rintro gb gc ⟨em,en,eo,ep,eq,es,gd,rfl,aa,et,eu,ev⟩
       refine⟨_,u,?_⟩
       have ak:=(C.c0 aa).t2
       refine j_o ⟨ak.hasK (D.le.trans aa.le),ak.hasObj m1,ak.hasObj m0⟩ (j1 16 u ?_)
       obtain⟨ge,ew,ex⟩:=ob el
       refine wl_call (wg u u c) u (rt_call (vs:=[.agg #[V6 ej.Id,V3 em en eo,V3 ep eq es],.agg #[V6 Y.Id,V3 ad ae af,V3 ag ah ai]]) co43 u) (ok_laws_foDoc F ak.enter0 et eu ev aM (dG.mono (D.le.trans aa.le)) (dH.mono (D.le.trans aa.le)) ew) ?_
       rintro gg gj ⟨eA,rfl,aO⟩
       refine⟨_,u,?_⟩
       have ax:=(ak.c0 aO).t2
       refine j_o ⟨ax.hasK ((D.le.trans aa.le).trans aO.le),ax.hasObj m1,ax.hasObj m0⟩ (jg c 17 u (rv_not u) (jv 18 u (rv_pick_t u c u) (jd ?_)))
       cases oi ex
       exact qd ⟨eA,u,ax.s,((D.le.trans aa.le).trans aO.le)⟩
      refine ju c 11 u (ju c 12 u (ju c 13 u (ju c 15 u (j1 14 u (lu c (j_o ⟨C.hasK D.le,C.hasObj m1,C.hasObj m0⟩ (j1 16 u (lu c (j_o ⟨C.hasK D.le,C.hasObj m1,C.hasObj m0⟩ ?_)))))))))
      refine ju c 17 u (jv 18 u (p_f u c u) (jd ?_))
      cases oi aN
      exact qd ⟨ei,u,C.s,D.le⟩
     rintro _ gk ⟨bc,rfl,bd,eB⟩
     refine qe_seq (wcc dO u (fun eC aP=>?_) (fun eC aP=>?_))
     ·refine sr (lv (r_f u) (nq (wc_ret (qe_block_ret (qe_then_ret (qe_then_ret ?_))))))
      cases oi aP
      cases ba _ u
      refine qe_block_ret (qe_then_ret ?_)
      cases oi aZ
      refine qe_block_ret (qe_then_ret (qe_then_ret ?_))
      cases oi au
      cases aX _ u
      refine qe_block_ret (qe_then_ret ?_)
      cases oi aW
      refine qe_then_ret ?_
      cases oi aq
      exact ey results7 ⟨bc,u,bd.s⟩
     refine wc_skip (qe_block (qe_seq (wc_region (mv u (lv (rv_add u u) (av u (wl_nil ?_)))))))
     cases oi aP
     exact qd ⟨_,u,bc,u,bd,(X.trans eB),(w64_rng _)⟩
    refine wc_exit (qe_then_exit (qe_then_exit ?_))
    cases oi aL
    cases ba _ u
    refine qe_block_eq ?_
    cases oi aZ
    exact qd ⟨_,aK,u,u,V,X⟩
   rintro _ gl ⟨gm,eD,rfl,rfl,eE,eF⟩
   have au:=elim_l au
   refine qe_block (qe_seq (wc_region (mv u (lv (rv_add u u) (av u (wl_nil ?_))))))
   cases oi au
   exact qd ⟨_,u,eD,u,eE,((J.trans ac).trans eF),(cast_rng aY (w64_rng _)),(w64_rng _)⟩
  refine wc_exit (qe_then_exit (qe_then_exit ?_))
  cases oi aH
  cases aX _ u
  refine qe_block_eq ?_
  cases oi aW
  exact qd ⟨_,bV,u,u,aG.s,J,bW⟩
 rintro _ go ⟨ar,aF,rfl,rfl,be,bf,gp⟩
 have aq:=elim_l aq
 refine qr (mv u ?_)
 obtain⟨gq,eG,eH⟩:=ob aq
 refine lk co45 (ok_impl_DocsOk F be.enter0 (ab.mono (f.trans bf)) eG) ?_
 rintro gr gv ⟨bg,rfl,bh⟩
 have bi:=(be.c0 bh).t0
 refine mv u (bt eH (fun G aQ=>?_) (fun G aQ=>?_))
 ·refine lg G (rv_move u) (lg G (rv_move u) (lg G (rv_len underlying43 u (ab.mono ((f.trans bf).trans bh.le))) (lg G (rv_eql u u) (lv (rv_pick_t u G u) (av u (nq (wc_ret ?_)))))))
  cases oi aQ
  exact ey results7 ⟨bg,u,bi⟩
 refine lu G (lu G (lu G (lu G (lv (p_f u G u) (av u (nq (wc_ret ?_)))))))
 cases oi aQ
 exact ey results7 ⟨bg,u,bi⟩
end Go.Proofs.YtpjefkdclnmlfaaGreat
