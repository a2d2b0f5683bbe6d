/-
 Walks of the functions. Printed by gen.py.
-/
import Derived.Test.YtpjefkdclnmlfaaGreatWalkA0
set_option linter.unusedVariables false
set_option linter.unusedSectionVars false
set_option maxRecDepth 100000
namespace Go.Proofs.YtpjefkdclnmlfaaGreat
set_option maxHeartbeats 4000000
open Go Go.Fk Go.RowKit Tryz
variable (F:Nat){w:World}{K:KMap}{Z:List Nat}{g1 g2 g3:Nat}{A B C D G H I J O R S T:Option Addr}{a b c d f i k l m n o p q s v x y aa ab ac ad ae af ag:Nat}
variable [dr:Dr]

theorem ok_laws_szLive {q0:GLive}{q1:Int}{r:Int}(hS:SH w K [] w K [])(y:SliceAt tGDoc K A a b q0.Seg.Docs)(D:SliceAt tGEntry K B c d q0.Seg.Entries)(G:SliceAt tInt K C f i q0.Dead)(H:rng64 q1)(hm:M.laws_szLive F q0 q1=some r):
  Calls prog 118 #[.agg #[V3 A a b,V3 B c d,V3 C f i],V6 q1] w (R_i w K r):=by
 rw [M.laws_szLive] at hm
 refine ci func118 u ntmps118 (sr (bx u hS fun I ab J=>?_))
 have l:SH _ _ _ _ _ [obj I [V3 A a b,V3 B c d,V3 C f i] 153]:=J
 refine lv (r_0 u) (nr (fa ff153_0 u (lv (rv_loadmS (ds:=[V3 A a b,V3 B c d]) tf59 u m0 l u u) (mv u ?_))))
 obtain⟨ac,O,R⟩:=ob hm
 refine lk co29 (ok_laws_szSeg F l.enter0 y D H O) ?_
 rintro ad ae ⟨S,rfl,q,T⟩
 have k:=(l.c0 q).t1
 refine av u (nsr (mv u (lv (rv_lss u u) (nq (wcc R u (fun U m=>?_) (fun U m=>?_))))))
 ·refine sr (lv (rv_assign (v:=V6 (-1)) u) (nq (rr ?_)))
  cases oi m
  exact ey results118 ⟨S,u,k.s,(by decide :rng64 (-1))⟩
 refine wc_skip (qr (fl ff153_1 u tf71 m0 k u (mv u ?_)))
 obtain⟨af,V,W⟩:=ob m
 refine lk co183 (ok_laws_szIntS F k.enter0 (G.mono q.le) T V) ?_
 rintro ag ah ⟨s,rfl,X,Y⟩
 have x:=(k.c0 X).t1
 refine av u (nsr (mv u (lv (rv_lss u u) (nq (wcc W u (fun aa o=>?_) (fun aa o=>?_))))))
 ·refine sr (lv (rv_assign (v:=V6 (-1)) u) (nq (rr ?_)))
  cases oi o
  exact ey results118 ⟨s,u,x.s,(by decide :rng64 (-1))⟩
 refine wc_skip (qr (mv u (av u (nq (wc_ret ?_)))))
 cases oi o
 exact ey results118 ⟨s,u,x.s,Y⟩

theorem ok_laws_szLiveS {q0:List GLive}{q1:Int}{r:Int}(hS:SH w K [] w K [])(m:SliceAt tGLive K A a b q0)(ax:rng64 q1)(hm:M.laws_szLiveS F q0 q1=some r):
  Calls prog 56 #[V3 A a b,V6 q1] w (R_i w K r):=by
 rw [M.laws_szLiveS] at hm
 refine ci func56 u ntmps56 (sr (lv (r_0 u) (nr (mv u (mv u (lv (rv_len underlying26 u m) (lv (rv_sub u u) (av u (nsr ?_)))))))))
 refine mv u (lv (rv_lss u u) (nq (wc_cond u (fun o=>?_) (fun o=>?_))))
 ·have q:=cond_t o hm
  refine sr (lv (rv_assign (v:=V6 (-1)) u) (nq (rr ?_)))
  cases oi q
  exact ey results56 ⟨K,u,hS,(by decide :rng64 (-1))⟩
 have q:=cond_f o hm
 refine wc_skip (qs (sr (lv (r_0 u) (nq ?_))))
 obtain⟨I,J,d⟩:=ob q
 refine wc_cutg (fun E' w'=>∃f i,I= .inl f∧E'=[(1,V6 f)]∧SH w K [] w' i []∧KLe K i∧rng64 f) ?_ ?_
 ·refine wc_block ?_
  obtain⟨ay,O,y⟩:=ob J
  refine qw (fun (c:Int×Int)=>IW w K [] K [(0,V3 A a b),(1,V6 c.1),(5,V6 c.2)] [] (rng64 c.1∧rng64 c.2)) O ⟨K,u,hS,kr,(w64_rng _),d_0⟩ ?_
  rintro c _ az aA R B ⟨S,rfl,k,l,C,aB⟩
  refine wc_seq (sr (mv u (mv u (lv (rv_len underlying26 u (m.mono l)) (lv (rv_lss u u) (nq (wcc R u (fun T s=>?_) (fun T s=>?_))))))))
  ·refine wc_skip (qs (wc_block (sr (mv u (mv u ?_)))))
   obtain⟨aC,U,V⟩:=ob s
   refine li underlying26 tf153 (m.mono l) U fun W X aD Y aa=>?_
   obtain⟨ab,ac,ad,ae,af,ag,ah,ai,aj,rfl,ak,al,am⟩:=Y
   have an:AtK _ W X [V3 ab ac ad,V3 ae af ag,V3 ah ai aj]:=aa
   refine lv (rv_loadS tf153 u k an u) (mv u ?_)
   obtain⟨aE,ao,ap⟩:=ob V
   refine lk co118 (ok_laws_szLive F k.enter0 ak al am C ao) ?_
   rintro aF aG ⟨D,rfl,G,aq⟩
   have H:=(k.c0 G).t0
   refine av u (nr (mv u (lv (rv_lss u u) (nq (wcc ap u (fun ar x=>?_) (fun ar x=>?_))))))
   ·refine sr (lv (rv_assign (v:=V6 (-1)) u) (nq (wc_ret (qe_block_ret (qe_then_ret (qe_then_ret ?_))))))
    cases oi x
    cases B _ u
    refine qe_block_ret (qe_then_ret ?_)
    cases oi y
    refine qe_then_ret ?_
    cases oi d
    exact ey results56 ⟨D,u,H,(by decide :rng64 (-1))⟩
   refine wc_skip (qe_block (qe_seq (wc_region (mv u (lv (rv_add u u) (av u (wl_nil ?_)))))))
   cases oi x
   exact qd ⟨_,u,D,u,H,(l.trans G.le),aq,(w64_rng _)⟩
  refine wc_exit (qe_then_exit (qe_then_exit ?_))
  cases oi s
  cases B _ u
  refine qe_block_eq ?_
  cases oi y
  exact qd ⟨_,S,u,u,k,l,C⟩
 rintro _ aH ⟨f,i,rfl,rfl,au,aI,aw⟩
 have d:=elim_l d
 refine qr (mv u (av u (nq (wc_ret ?_))))
 cases oi d
 exact ey results56 ⟨i,u,au,aw⟩

theorem ok_laws_szIndex {q0:GIndex}{q1:Int}{r:Int}(hS:SH w K [] w K [])(y:SliceAt tStr K A a b q0.Conf.Stops)(D:SliceAt tGSyn K B c d q0.Conf.Syns)(G:SliceAt tGLive K C f i q0.Segs)(H:rng64 q1)(hm:M.laws_szIndex F q0 q1=some r):
  Calls prog 11 #[.agg #[V3 A a b,V3 B c d,V3 C f i],V6 q1] w (R_i w K r):=by
 rw [M.laws_szIndex] at hm
 refine ci func11 u ntmps11 (sr (bx u hS fun I ab J=>?_))
 have l:SH _ _ _ _ _ [obj I [V3 A a b,V3 B c d,V3 C f i] 28]:=J
 refine lv (r_0 u) (nr (fa ff28_0 u (lv (rv_loadmS (ds:=[V3 A a b,V3 B c d]) tf25 u m0 l u u) (mv u ?_))))
 obtain⟨ac,O,R⟩:=ob hm
 refine lk co16 (ok_laws_szConf F l.enter0 y D H O) ?_
 rintro ad ae ⟨S,rfl,q,T⟩
 have k:=(l.c0 q).t1
 refine av u (nsr (mv u (lv (rv_lss u u) (nq (wcc R u (fun U m=>?_) (fun U m=>?_))))))
 ·refine sr (lv (rv_assign (v:=V6 (-1)) u) (nq (rr ?_)))
  cases oi m
  exact ey results11 ⟨S,u,k.s,(by decide :rng64 (-1))⟩
 refine wc_skip (qr (fl ff28_1 u tf26 m0 k u (mv u ?_)))
 obtain⟨af,V,W⟩:=ob m
 refine lk co56 (ok_laws_szLiveS F k.enter0 (G.mono q.le) T V) ?_
 rintro ag ah ⟨s,rfl,X,Y⟩
 have x:=(k.c0 X).t1
 refine av u (nsr (mv u (lv (rv_lss u u) (nq (wcc W u (fun aa o=>?_) (fun aa o=>?_))))))
 ·refine sr (lv (rv_assign (v:=V6 (-1)) u) (nq (rr ?_)))
  cases oi o
  exact ey results11 ⟨s,u,x.s,(by decide :rng64 (-1))⟩
 refine wc_skip (qr (mv u (av u (nq (wc_ret ?_)))))
 cases oi o
 exact ey results11 ⟨s,u,x.s,Y⟩

theorem ok_laws_toStringS {q0:List Str}{r:(List Str)}(hS:SH w K [] w K [])(s:SliceAt tStr K A a b q0)(hm:M.laws_toStringS F q0=some r):
  Calls prog 69 #[V3 A a b] w fun e w'=>∃a_1 n_2 c_3 K',e= .returned (V3 a_1 n_2 c_3)∧SH w K [] w' K' [tail (V3 a_1 n_2 c_3) 9 1]∧SliceAt tStr K' a_1 n_2 c_3 r:=by
 rw [M.laws_toStringS] at hm
 refine ci func69 u ntmps69 (sr (lv (r_n u) (nr (mv u (lv (rv_len underlying22 u s) ?_)))))
 obtain⟨H,I,J⟩:=ob hm
 refine wl_make (t:=tStr) wn u underlying22 tf9 u u u I ⟨u,(by decide :([]:Str).length≤maxLen)⟩ hS fun k cs9 ao hmx13 hrow11 O=>?_
 obtain⟨m14,hm15⟩: ∃m,m=H.length:=⟨_,u⟩
 rw [←hm15] at hmx13
 rw [←hm15]
 refine av u (nsr (lv (r_0 u) (nq ?_)))
 obtain⟨C,R,S⟩:=ob J
 refine wc_cutg (fun E' w'=>∃cs23 l,E'=[(3,V3 (some ⟨k,0,none⟩) m14 m14)]∧SH w K [] w' l [obj k cs23 9]∧KLe K l∧RowAt true tStr l cs23 C∧m14=C.length) ?_ ?_
 ·refine wc_block ?_
  obtain⟨ap,T,U⟩:=ob R
  refine qw (fun (c:Int×(List Str)) E' w'=>∃cs36 f,E'=[(0,V3 A a b),(3,V3 (some ⟨k,0,none⟩) m14 m14),(4,V6 c.1)]∧SH w K [] w' f [obj k cs36 9]∧KLe K f∧rng64 c.1∧RowAt true tStr f cs36 c.2∧m14=c.2.length) T ⟨cs9,K,u,O,kr,d_0,hrow11,hm15⟩ ?_
  rintro c _ aq ar V W ⟨cs36,f,rfl,x,o,au,hrow37,hm38⟩
  refine wc_seq (sr (mv u (mv u (lv (rv_len underlying22 u (s.mono o)) (lv (rv_lss u u) (nq (wcc V u (fun X y=>?_) (fun X y=>?_))))))))
  ·refine wc_skip (qs (wc_block (wc_region (mv u (mv u (mv u (mv u ?_)))))))
   obtain⟨q,Y,aa⟩:=ob y
   refine li underlying22 tf9 (s.mono o) Y fun ab ac aw ad ae=>?_
   obtain⟨rfl,af⟩:=ad
   have ag:AtK _ ab ac [sv q]:=ae
   refine lv (rv_load1 tf9 u x (ag 0 _ u)) ?_
   obtain⟨ah,B,ai⟩:=ob aa
   obtain⟨ax,aj,ak⟩:=RowAt.at hrow37 B
   obtain⟨rfl,ay⟩:=aj
   have az: ∀(j:Nat) (d:Value),[sv ah][j]? =some d→cs36[c.1.toNat*tStr.size+j]? =some d:=ak
   refine lv (rv_indexRow (t:=tStr) underlying22 tf9 u u hm38 B) (wl_storeRow (t:=tStr) (v:=sv q) (e:=q) wn tf9 u u ⟨u,af⟩ x hrow37 B fun cs62 aA hrow64 al=>?_)
   have hm66:=hm38.trans (List.length_set (i:=c.1.toNat) (a:=q)).symm
   refine nb (qe_seq (wc_region (mv u (lv (rv_add u u) (av u (wl_nil ?_))))))
   cases oi ai
   exact qd ⟨_,u,cs62,f,u,al,o,(w64_rng _),hrow64,hm66⟩
  refine wc_exit (qe_then_exit (qe_then_exit ?_))
  cases oi y
  cases W _ u
  refine qe_block_eq ?_
  cases oi U
  exact qd ⟨cs36,f,u,x,o,hrow37,hm38⟩
 rintro _ aB ⟨cs23,l,rfl,am,aC,hrow24,hm25⟩
 refine qr (mv u (av u (nq (wc_ret ?_))))
 obtain⟨an,aD,D,G⟩:=SH.freeze am hrow24 (row_max hm25 hmx13)
 rw [←hm25] at D G
 cases oi S
 exact ey results69 ⟨(some ⟨k,0,none⟩),m14,m14,an,u,G,D⟩

theorem bag_laws_toStringS (F:Nat){w:World}{K:KMap}{a1:Option Addr}{n2 c3:Nat}{p0_a:List Str}{r:(List Str)}(hS:SH w K [] w K [])(hs4:SliceAt tStr K a1 n2 c3 p0_a)(hm:M.laws_toStringS F p0_a=some r):
  Calls Tryz.prog 69 #[.slice a1 n2 c3] w fun e w'=>∃(a_1:Option Addr) (n_2 c_3:Nat) (K':KMap) (B':List Nat),e= .returned (.slice a_1 n_2 c_3)∧SH w K [] w' K' [bag B']∧SliceAt tStr (K'.only B') a_1 n_2 c_3 r:=
 (ok_laws_toStringS F hS hs4 hm).mono fun e w' ⟨a,n,c,K',he,hS',hs'⟩=>
  let ⟨B,hB,hb⟩:=SH.bagTail hS'
  ⟨a,n,c,K',B,he,hB,SliceAt.only_flat (t:=tStr) (fun h=>h) hs' hb⟩

theorem bag_laws_toSyn (F:Nat){w:World}{K:KMap}{a1:Option Addr}{n2 c3:Nat}{p0_a:GSyn}{r:GSyn}(hS:SH w K [] w K [])(hs4:SliceAt tStr K a1 n2 c3 p0_a.From)(hl5:p0_a.To.length≤maxLen)(hm:M.laws_toSyn F p0_a=some r):
  Calls Tryz.prog 144 #[.agg #[.slice a1 n2 c3,sv p0_a.To]] w fun e w'=>∃(a_1:Option Addr) (n_2 c_3:Nat) (K':KMap) (B':List Nat),e= .returned (.agg #[.slice a_1 n_2 c_3,sv r.To])∧SH w K [] w' K' [bag B']∧SliceAt tStr (K'.only B') a_1 n_2 c_3 r.From∧r.To.length≤maxLen:=by
 rw [M.laws_toSyn] at hm
 refine calls_in Tryz.func144 u Tryz.ntmps144 u ?_
 refine sr ?_
 refine wl_box wn u u hS ?_
 intro g6 w7 hS8
 have hS9:SH _ _ _ _ _ [obj g6 [.slice a1 n2 c3,sv p0_a.To] 170]:=hS8
 refine wl_alloc wn u tf159 hS9 ?_
 intro g10 w11 hS12
 have hS13:SH _ _ _ _ _ [obj g10 [.slice none 0 0,sv []] 159,_]:=hS12
 refine nr ?_
 refine wl_alloc wn u tf159 hS13 ?_
 intro g14 w15 hS16
 have hS17:SH _ _ _ _ _ [obj g14 [.slice none 0 0,sv []] 159,_,_]:=hS16
 refine nr ?_
 refine wl_val wn u (rv_fieldAddr ff170_0 u) ?_
 refine wl_val wn u (rv_loadm1 tf22 u (.tail _ (.tail _ (.head _))) hS17 u) ?_
 obtain⟨r18,hx19,h20⟩:=ob hm
 refine wl_call wn u (rt_call (vs:=[.slice a1 n2 c3]) co69 u) ((bag_laws_toStringS F) hS17.enter0 hs4 hx19) ?_
 rintro e28 w22 ⟨a24,n25,c26,K21,B21,rfl,hS23,hs27⟩
 refine⟨_,u,?_⟩
 have hS29:SH _ _ _ _ _ [_,_,_,_]:=SH.call0 hS17 hS23
 refine wl_val wn u (rv_fieldAddr ff159_0 u) ?_
 have hS30:SH _ _ _ _ _ [_,_,_,_]:=SH.front (p:=[_]) hS29
 refine wl_store (cs':=[.slice a24 n25 c26,sv []]) (v:=.slice a24 n25 c26) wn tf22 u u u (by simp [Value.cells,Value.oneCell']) hS30 u u ?_
 intro w31 hS32
 refine nr ?_
 refine wl_val wn u (rv_fieldAddr ff170_1 u) ?_
 refine wl_val wn u (rv_loadm1 tf9 u (.tail _ (.tail _ (.tail _ (.head _)))) hS32 u) ?_
 refine wl_val wn u (rv_fieldAddr ff159_1 u) ?_
 refine wl_store (cs':=[.slice a24 n25 c26,sv p0_a.To]) (v:=sv p0_a.To) wn tf9 u u u (by simp [Value.cells,Value.oneCell',sv]) hS32 u u ?_
 intro w33 hS34
 refine nr ?_
 refine wl_val wn u (rv_loadmS (ds:=[.slice a24 n25 c26,sv p0_a.To]) tf159 u (.head _) hS34 u u) ?_
 have hS35:SH _ _ _ _ _ [_,_,_,_]:=SH.front (p:=[_,_]) hS34
 refine wl_store (cs':=[.slice a24 n25 c26,sv p0_a.To]) (v:=.agg #[.slice a24 n25 c26,sv p0_a.To]) wn tf159 u u u (by simp [Value.cells,Value.oneCell',sv]) hS35 u u ?_
 intro w36 hS37
 refine nq ?_
 refine wc_ret ?_
 obtain rfl:=oi h20
 have hS38:SH _ _ _ _ _ [_]:=SH.sublist hS37 (.cons _ (.cons _ (.cons_cons _ (.cons _ .slnil))))
 exact qe_ret (vs:=[_]) Tryz.results144 ⟨⟨_,_,u,run_loadVar_at tf159 (cs:=[.slice a24 n25 c26,sv p0_a.To]) (fun j c e=>by rw [Nat.zero_add,hS37.mem_obj (.head _)];exact e) (.inl ⟨u,u,u⟩)⟩,trivial⟩ ⟨a24,n25,c26,K21,B21,u,hS38,(SliceAt.mono (only_mono (KLe.refl _) fun _ h=>h) hs27),hl5⟩

theorem bag_laws_toSynS (F:Nat){w:World}{K:KMap}{a1:Option Addr}{n2 c3:Nat}{p0_a:List GSyn}{r:(List GSyn)}(hS:SH w K [] w K [])(hs4:SliceAt tGSyn K a1 n2 c3 p0_a)(hm:M.laws_toSynS F p0_a=some r):
  Calls Tryz.prog 70 #[.slice a1 n2 c3] w fun e w'=>∃(a_1:Option Addr) (n_2 c_3:Nat) (K':KMap) (B':List Nat),e= .returned (.slice a_1 n_2 c_3)∧SH w K [] w' K' [bag B']∧SliceAt tGSyn (K'.only B') a_1 n_2 c_3 r:=by
 rw [M.laws_toSynS] at hm
 refine calls_in Tryz.func70 u Tryz.ntmps70 u ?_
 refine sr ?_
 refine wl_val wn u (rv_assign (v:=.slice none 0 0) u) ?_
 refine nr ?_
 refine vm u u ?_
 refine wl_val wn u (rv_len (t:=tGSyn) Tryz.underlying23 u hs4) ?_
 obtain⟨x5,hx6,h7⟩:=ob hm
 refine wl_make (t:=Ty.fix tGSyn (K.only [])) wn u Tryz.underlying31 tf159 u u u hx6 ⟨none,0,0,u,(SliceAt.nil _ _),(by decide :([]:Str).length≤maxLen)⟩ hS ?_
 intro g8 cs9 w10 hmx13 hrow11 hS12
 obtain⟨m14,hm15⟩: ∃m,m=x5.length:=⟨_,u⟩
 rw [←hm15] at hmx13
 rw [←hm15]
 refine va u u ?_
 refine nsr ?_
 refine wl_val wn u (rv_assign (v:=.int .i64 0) u) ?_
 refine nq ?_
 obtain⟨o16,h17,h18⟩:=ob h7
 refine wc_cutg (fun E' w'=>∃(cs23:List Value) (K19:KMap) (B19:List Nat),E'=[(3,.slice (some ⟨g8,0,none⟩) m14 m14)]∧SH w K [] w' K19 [obj g8 cs23 159,bag B19]∧KLe K K19∧RowAt true tGSyn (K19.only B19) cs23 o16∧m14=o16.length) ?_ ?_
 ·refine wc_block ?_
  obtain⟨r27,h28,h29⟩:=ob h17
  refine wc_while' (fun (s26:Int×(List GSyn)) E' w'=>∃(cs36:List Value) (K30:KMap) (B30:List Nat),E'=[(0,.slice a1 n2 c3),(3,.slice (some ⟨g8,0,none⟩) m14 m14),(4,.int .i64 s26.1)]∧SH w K [] w' K30 [obj g8 cs36 159,bag B30]∧KLe K K30∧rng64 s26.1∧RowAt true tGSyn (K30.only B30) cs36 s26.2∧m14=s26.2.length) h28 ⟨cs9,K,[],u,(SH.perm (SH.bag0 hS12) (List.Perm.swap _ _ _)),(KLe.refl _),d_0,hrow11,hm15⟩ ⟨u,u,u,trivial⟩ ?_
  rintro s26 _ w33 r39 h40 hx41 ⟨cs36,K30,B30,rfl,hS34,hl31,hr35,hrow37,hm38⟩
  refine wc_seq ?_
  refine sr ?_
  refine vm u u ?_
  refine vm u u ?_
  refine wl_val wn u (rv_len (t:=tGSyn) Tryz.underlying23 u (SliceAt.mono hl31 hs4)) ?_
  refine wl_val wn u (rv_lss u u) ?_
  refine nq ?_
  refine wc_cond u (fun hb42=>?_) (fun hb42=>?_)
  ·have h43:=cond_t hb42 h40
   refine wc_skip ?_
   refine qs ?_
   refine wc_block ?_
   refine wc_region ?_
   refine vm u u ?_
   refine vm u u ?_
   refine vm u u ?_
   refine vm u u ?_
   obtain⟨x44,hx45,h46⟩:=ob h43
   refine wl_indexAddr (t:=tGSyn) wn u Tryz.underlying23 tf170 u u (SliceAt.mono hl31 hs4) hx45 ?_
   intro b47 o48 u49 hu50 ha51
   obtain⟨a52,n53,c54,rfl,hs55,hl56⟩:=hu50
   have ha57:AtK _ b47 o48 [.slice a52 n53 c54,sv x44.To]:=ha51
   refine wl_val wn u (rv_loadS (cs:=[.slice a52 n53 c54,sv x44.To]) tf170 u hS34 ha57 u) ?_
   obtain⟨r58,hx59,h60⟩:=ob h46
   refine wl_call wn u (rt_call (vs:=[.agg #[.slice a52 n53 c54,sv x44.To]]) co144 u) ((bag_laws_toSyn F) hS34.enter0 hs55 hl56 hx59) ?_
   rintro e69 w62 ⟨a64,n65,c66,K61,B61,rfl,hS63,hs67,hl68⟩
   refine⟨_,u,?_⟩
   have hS70:SH _ _ _ _ _ [_,_]:=SH.bagJoin (SH.perm (SH.call0 hS34 hS63) (List.Perm.cons _ (List.Perm.swap _ _ _)))
   obtain⟨x71,hx72,h73⟩:=ob h60
   obtain⟨u74,hu75,hk76⟩:=RowAt.at (RowAt.mono (only_mono hS63.le fun _ h=>h) hrow37) hx72
   obtain⟨a78,n79,c80,rfl,hs81,hl82⟩:=hu75
   have hk77: ∀(j:Nat) (d:Value),[.slice a78 n79 c80,sv x71.To][j]? =some d→cs36[s26.1.toNat*tGSyn.size+j]? =some d:=hk76
   refine wl_val wn u (rv_indexRow (t:=tGSyn) Tryz.underlying31 tf159 u u hm38 hx72) ?_
   have hS83:SH _ _ _ _ _ [_,_]:=SH.front (p:=[_]) hS70
   refine wl_storeRow (t:=Ty.fix tGSyn (K61.only (B61++B30))) (v:=.agg #[.slice a64 n65 c66,sv r58.To]) (e:=r58) wn tf159 u u ⟨a64,n65,c66,u,(SliceAt.mono (only_mono (KLe.refl _) fun _ h=>List.mem_append_left _ h) hs67),hl68⟩ hS83 (show RowAt true tGSyn (K61.only (B61++B30)) _ _ from RowAt.mono (only_mono hS63.le fun _ h=>List.mem_append_right _ h) hrow37) hx72 ?_
   intro cs84 w85 hrow86 hS87
   have hm88:=hm38.trans (List.length_set (i:=s26.1.toNat) (a:=r58)).symm
   refine nb ?_
   refine qe_seq ?_
   refine wc_region ?_
   refine vm u u ?_
   refine wl_val wn u (rv_add u u) ?_
   refine va u u ?_
   refine wl_nil ?_
   obtain rfl:=oi h73
   have hS89:=hS87
   exact qe_mid' ⟨_,u,cs84,K61,(B61++B30),u,hS89,(hl31.trans hS63.le),(w64_rng _),hrow86,hm88⟩ ⟨u,u,u,trivial⟩
  ·have h43:=cond_f hb42 h40
   refine wc_exit ?_
   refine qe_then_exit ?_
   refine qe_then_exit ?_
   obtain rfl:=oi h43
   have e90:=hx41 _ u
   subst e90
   refine qe_block_eq ?_
   obtain rfl:=oi h29
   exact qe_mid' ⟨cs36,K30,B30,u,hS34,hl31,hrow37,hm38⟩ ⟨u,trivial⟩
 ·rintro _ w21 ⟨cs23,K19,B19,rfl,hS22,hl20,hrow24,hm25⟩
  refine qr ?_
  refine vm u u ?_
  refine va u u ?_
  refine nq ?_
  refine wc_ret ?_
  obtain⟨K91,hl92,hs93,hS94⟩:=SH.freeze (t:=Ty.fix tGSyn (K19.only B19)) hS22 hrow24 (row_max hm25 hmx13)
  rw [←hm25] at hs93 hS94
  obtain rfl:=oi h18
  obtain⟨Bz,hSz,hBz⟩:=SH.bagTail hS94
  exact qe_ret (vs:=[_]) Tryz.results70 ⟨u,trivial⟩ ⟨(some ⟨g8,0,none⟩),m14,m14,K91,(Bz++B19),u,SH.bagJoin hSz,SliceAt.unfix hs93 (only_mono hl92 fun _ h=>List.mem_append_right _ h) (fun hc b o e=>List.mem_append_left _ (hBz hc b o e))⟩

theorem bag_laws_toConf (F:Nat){w:World}{K:KMap}{a1:Option Addr}{n2 c3:Nat}{a5:Option Addr}{n6 c7:Nat}{p0_a:GConf}{r:GConf}(hS:SH w K [] w K [])(hs4:SliceAt tStr K a1 n2 c3 p0_a.Stops)(hs8:SliceAt tGSyn K a5 n6 c7 p0_a.Syns)(hm:M.laws_toConf F p0_a=some r):
  Calls Tryz.prog 19 #[.agg #[.slice a1 n2 c3,.slice a5 n6 c7]] w fun e w'=>∃(a_1:Option Addr) (n_2 c_3:Nat) (a_5:Option Addr) (n_6 c_7:Nat) (K':KMap) (B':List Nat),e= .returned (.agg #[.slice a_1 n_2 c_3,.slice a_5 n_6 c_7])∧SH w K [] w' K' [bag B']∧SliceAt tStr (K'.only B') a_1 n_2 c_3 r.Stops∧SliceAt tGSyn (K'.only B') a_5 n_6 c_7 r.Syns:=by
 rw [M.laws_toConf] at hm
 refine calls_in Tryz.func19 u Tryz.ntmps19 u ?_
 refine sr ?_
 refine wl_box wn u u hS ?_
 intro g9 w10 hS11
 have hS12:SH _ _ _ _ _ [obj g9 [.slice a1 n2 c3,.slice a5 n6 c7] 25]:=hS11
 refine wl_alloc wn u tf33 hS12 ?_
 intro g13 w14 hS15
 have hS16:SH _ _ _ _ _ [obj g13 [.slice none 0 0,.slice none 0 0] 33,_]:=hS15
 refine nr ?_
 refine wl_alloc wn u tf33 hS16 ?_
 intro g17 w18 hS19
 have hS20:SH _ _ _ _ _ [obj g17 [.slice none 0 0,.slice none 0 0] 33,_,_]:=hS19
 refine nr ?_
 refine wl_val wn u (rv_fieldAddr ff25_0 u) ?_
 refine wl_val wn u (rv_loadm1 tf22 u (.tail _ (.tail _ (.head _))) hS20 u) ?_
 obtain⟨r21,hx22,h23⟩:=ob hm
 refine wl_call wn u (rt_call (vs:=[.slice a1 n2 c3]) co69 u) ((bag_laws_toStringS F) hS20.enter0 hs4 hx22) ?_
 rintro e31 w25 ⟨a27,n28,c29,K24,B24,rfl,hS26,hs30⟩
 refine⟨_,u,?_⟩
 have hS32:SH _ _ _ _ _ [_,_,_,_]:=SH.call0 hS20 hS26
 refine wl_val wn u (rv_fieldAddr ff33_0 u) ?_
 have hS33:SH _ _ _ _ _ [_,_,_,_]:=SH.front (p:=[_]) hS32
 refine wl_store (cs':=[.slice a27 n28 c29,.slice none 0 0]) (v:=.slice a27 n28 c29) wn tf22 u u u (by simp [Value.cells,Value.oneCell']) hS33 u u ?_
 intro w34 hS35
 refine nr ?_
 refine wl_val wn u (rv_fieldAddr ff25_1 u) ?_
 refine wl_val wn u (rv_loadm1 tf23 u (.tail _ (.tail _ (.tail _ (.head _)))) hS35 u) ?_
 obtain⟨r36,hx37,h38⟩:=ob h23
 refine wl_call wn u (rt_call (vs:=[.slice a5 n6 c7]) co70 u) ((bag_laws_toSynS F) hS35.enter0 (SliceAt.mono hS26.le hs8) hx37) ?_
 rintro e46 w40 ⟨a42,n43,c44,K39,B39,rfl,hS41,hs45⟩
 refine⟨_,u,?_⟩
 have hS47:SH _ _ _ _ _ [_,_,_,_,_]:=SH.call0 hS35 hS41
 refine wl_val wn u (rv_fieldAddr ff33_1 u) ?_
 have hS48:SH _ _ _ _ _ [_,_,_,_,_]:=SH.front (p:=[_]) hS47
 refine wl_store (cs':=[.slice a27 n28 c29,.slice a42 n43 c44]) (v:=.slice a42 n43 c44) wn tf31 u u u (by simp [Value.cells,Value.oneCell']) hS48 u u ?_
 intro w49 hS50
 refine nr ?_
 refine wl_val wn u (rv_loadmS (ds:=[.slice a27 n28 c29,.slice a42 n43 c44]) tf33 u (.head _) hS50 u u) ?_
 have hS51:SH _ _ _ _ _ [_,_,_,_,_]:=SH.front (p:=[_,_,_]) hS50
 refine wl_store (cs':=[.slice a27 n28 c29,.slice a42 n43 c44]) (v:=.agg #[.slice a27 n28 c29,.slice a42 n43 c44]) wn tf33 u u u (by simp [Value.cells,Value.oneCell']) hS51 u u ?_
 intro w52 hS53
 refine nq ?_
 refine wc_ret ?_
 obtain rfl:=oi h38
 have hS54:SH _ _ _ _ _ [_,_,_,_,_]:=SH.front (p:=[_,_]) hS53
 have hS55:SH _ _ _ _ _ [_,_,_,_,_]:=SH.front (p:=[_,_,_]) hS54
 have hS56:SH _ _ _ _ _ [_,_]:=SH.sublist hS55 (.cons_cons _ (.cons_cons _ (.cons _ (.cons _ (.cons _ .slnil)))))
 exact qe_ret (vs:=[_]) Tryz.results19 ⟨⟨_,_,u,run_loadVar_at tf33 (cs:=[.slice a27 n28 c29,.slice a42 n43 c44]) (fun j c e=>by rw [Nat.zero_add,hS53.mem_obj (.head _)];exact e) (.inl ⟨u,u,u⟩)⟩,trivial⟩ ⟨a27,n28,c29,a42,n43,c44,K39,(B24++B39),u,SH.bagJoin hS56,(SliceAt.mono (only_mono hS41.le fun _ h=>List.mem_append_left _ h) hs30),(SliceAt.mono (only_mono (KLe.refl _) fun _ h=>List.mem_append_right _ h) hs45)⟩

theorem ok_laws_toField {q0:GField}{r:GField}(hS:SH w K [] w K [])(f:q0.Name.length≤maxLen)(i:q0.Text.length≤maxLen)(hm:M.laws_toField F q0=some r):
  Calls prog 199 #[.agg #[sv q0.Name,sv q0.Text]] w fun e w'=>∃K',e= .returned (.agg #[sv r.Name,sv r.Text])∧SH w K [] w' K' []∧r.Name.length≤maxLen∧r.Text.length≤maxLen:=by
 rw [M.laws_toField] at hm
 refine ci func199 u ntmps199 (sr (bx u hS fun g3 x k=>?_))
 have l:SH _ _ _ _ _ [obj g3 [sv q0.Name,sv q0.Text] 223]:=k
 refine al tf108 l fun m y o=>?_
 have q:SH _ _ _ _ _ [obj m [sv [],sv []] 108,_]:=o
 refine nr (al tf108 q fun s A v=>?_)
 have a:SH _ _ _ _ _ [obj s [sv [],sv []] 108,_,_]:=v
 refine nr (fl ff223_0 u tf9 m2 a u (fa ff108_0 u (ls [sv q0.Name,sv []] (sv q0.Name) tf9 a fun B b=>(nr (fl ff223_1 u tf9 m2 b u (fa ff108_1 u (ls [sv q0.Name,sv q0.Text] (sv q0.Text) tf9 b fun C c=>(nr (lv (rv_loadmS (ds:=[sv q0.Name,sv q0.Text]) tf108 u m0 c u u) ?_)))))))))
 refine lw [sv q0.Name,sv q0.Text] tf108 c.f1 fun D d=>(nq (wc_ret ?_))
 cases oi hm
 exact ez results199 tf108 d m0 ⟨K,u,d.s,f,i⟩

theorem ok_laws_toFieldS {q0:List GField}{r:(List GField)}(hS:SH w K [] w K [])(y:SliceAt tGField K A a b q0)(hm:M.laws_toFieldS F q0=some r):
  Calls prog 145 #[V3 A a b] w fun e w'=>∃a_1 n_2 c_3 K',e= .returned (V3 a_1 n_2 c_3)∧SH w K [] w' K' [tail (V3 a_1 n_2 c_3) 108 2]∧SliceAt tGField K' a_1 n_2 c_3 r:=by
 rw [M.laws_toFieldS] at hm
 refine ci func145 u ntmps145 (sr (lv (r_n u) (nr (mv u (lv (rv_len underlying99 u y) ?_)))))
 obtain⟨O,R,S⟩:=ob hm
 refine wl_make (t:=tGField) wn u underlying74 tf108 u u u R ⟨u,(by decide :([]:Str).length≤maxLen),(by decide :([]:Str).length≤maxLen)⟩ hS fun f cs9 aA hmx13 hrow11 T=>?_
 obtain⟨m14,hm15⟩: ∃m,m=O.length:=⟨_,u⟩
 rw [←hm15] at hmx13
 rw [←hm15]
 refine av u (nsr (lv (r_0 u) (nq ?_)))
 obtain⟨D,U,V⟩:=ob S
 refine wc_cutg (fun E' w'=>∃cs23 l,E'=[(3,V3 (some ⟨f,0,none⟩) m14 m14)]∧SH w K [] w' l [obj f cs23 108]∧KLe K l∧RowAt true tGField l cs23 D∧m14=D.length) ?_ ?_
 ·refine wc_block ?_
  obtain⟨aB,W,X⟩:=ob U
  refine qw (fun (c:Int×(List GField)) E' w'=>∃cs36 k,E'=[(0,V3 A a b),(3,V3 (some ⟨f,0,none⟩) m14 m14),(4,V6 c.1)]∧SH w K [] w' k [obj f cs36 108]∧KLe K k∧rng64 c.1∧RowAt true tGField k cs36 c.2∧m14=c.2.length) W ⟨cs9,K,u,T,kr,d_0,hrow11,hm15⟩ ?_
  rintro c _ aC aD Y aa ⟨cs36,k,rfl,o,q,aE,hrow37,hm38⟩
  refine wc_seq (sr (mv u (mv u (lv (rv_len underlying99 u (y.mono q)) (lv (rv_lss u u) (nq (wcc Y u (fun ab B=>?_) (fun ab B=>?_))))))))
  ·refine wc_skip (qs (wc_block (wc_region (mv u (mv u (mv u (mv u ?_)))))))
   obtain⟨G,ac,ad⟩:=ob B
   refine li underlying99 tf223 (y.mono q) ac fun ae af aF ag ah=>?_
   obtain⟨rfl,ai,aj⟩:=ag
   have ak:AtK _ ae af [sv G.Name,sv G.Text]:=ah
   refine lv (rv_loadS tf223 u o ak u) ?_
   obtain⟨s,al,am⟩:=ob ad
   refine lk co199 (ok_laws_toField F o.enter0 ai aj al) ?_
   rintro aG aH ⟨an,rfl,x,ao,ap⟩
   have aq:=(o.c0 x).t1
   obtain⟨H,C,ar⟩:=ob am
   obtain⟨aI,au,aw⟩:=RowAt.at (RowAt.mono x.le hrow37) C
   obtain⟨rfl,aJ,aK⟩:=au
   have aL: ∀(j:Nat) (d:Value),[sv H.Name,sv H.Text][j]? =some d→cs36[c.1.toNat*tGField.size+j]? =some d:=aw
   refine lv (rv_indexRow (t:=tGField) underlying74 tf108 u u hm38 C) (wl_storeRow (t:=tGField) (v:=.agg #[sv s.Name,sv s.Text]) (e:=s) wn tf108 u u ⟨u,ao,ap⟩ aq (RowAt.mono x.le hrow37) C fun cs74 aM hrow76 ax=>?_)
   have hm78:=hm38.trans (List.length_set (i:=c.1.toNat) (a:=s)).symm
   refine nb (qe_seq (wc_region (mv u (lv (rv_add u u) (av u (wl_nil ?_))))))
   cases oi ar
   exact qd ⟨_,u,cs74,an,u,ax,(q.trans x.le),(w64_rng _),hrow76,hm78⟩
  refine wc_exit (qe_then_exit (qe_then_exit ?_))
  cases oi B
  cases aa _ u
  refine qe_block_eq ?_
  cases oi X
  exact qd ⟨cs36,k,u,o,q,hrow37,hm38⟩
 rintro _ aN ⟨cs23,l,rfl,ay,aO,hrow24,hm25⟩
 refine qr (mv u (av u (nq (wc_ret ?_))))
 obtain⟨az,aP,I,J⟩:=SH.freeze ay hrow24 (row_max hm25 hmx13)
 rw [←hm25] at I J
 cases oi V
 exact ey results145 ⟨(some ⟨f,0,none⟩),m14,m14,az,u,J,I⟩

theorem bag_laws_toFieldS (F:Nat){w:World}{K:KMap}{a1:Option Addr}{n2 c3:Nat}{p0_a:List GField}{r:(List GField)}(hS:SH w K [] w K [])(hs4:SliceAt tGField K a1 n2 c3 p0_a)(hm:M.laws_toFieldS F p0_a=some r):
  Calls Tryz.prog 145 #[.slice a1 n2 c3] w fun e w'=>∃(a_1:Option Addr) (n_2 c_3:Nat) (K':KMap) (B':List Nat),e= .returned (.slice a_1 n_2 c_3)∧SH w K [] w' K' [bag B']∧SliceAt tGField (K'.only B') a_1 n_2 c_3 r:=
 (ok_laws_toFieldS F hS hs4 hm).mono fun e w' ⟨a,n,c,K',he,hS',hs'⟩=>
  let ⟨B,hB,hb⟩:=SH.bagTail hS'
  ⟨a,n,c,K',B,he,hB,SliceAt.only_flat (t:=tGField) (fun h=>h) hs' hb⟩

theorem ok_laws_toAttr {q0:GAttr}{r:GAttr}(hS:SH w K [] w K [])(f:q0.Name.length≤maxLen)(i:rng64 q0.Num)(hm:M.laws_toAttr F q0=some r):
  Calls prog 200 #[.agg #[sv q0.Name,V6 q0.Num]] w fun e w'=>∃K',e= .returned (.agg #[sv r.Name,V6 r.Num])∧SH w K [] w' K' []∧r.Name.length≤maxLen∧rng64 r.Num:=by
 rw [M.laws_toAttr] at hm
 refine ci func200 u ntmps200 (sr (bx u hS fun g3 x k=>?_))
 have l:SH _ _ _ _ _ [obj g3 [sv q0.Name,V6 q0.Num] 225]:=k
 refine al tf142 l fun m y o=>?_
 have q:SH _ _ _ _ _ [obj m [sv [],V6 0] 142,_]:=o
 refine nr (al tf142 q fun s A v=>?_)
 have a:SH _ _ _ _ _ [obj s [sv [],V6 0] 142,_,_]:=v
 refine nr (fl ff225_0 u tf9 m2 a u (fa ff142_0 u (ls [sv q0.Name,V6 0] (sv q0.Name) tf9 a fun B b=>(nr (fl ff225_1 u tf3 m2 b u (fa ff142_1 u (ls [sv q0.Name,V6 q0.Num] (V6 q0.Num) tf3 b fun C c=>(nr (lv (rv_loadmS (ds:=[sv q0.Name,V6 q0.Num]) tf142 u m0 c u u) ?_)))))))))
 refine lw [sv q0.Name,V6 q0.Num] tf142 c.f1 fun D d=>(nq (wc_ret ?_))
 cases oi hm
 exact ez results200 tf142 d m0 ⟨K,u,d.s,f,i⟩

theorem ok_laws_toAttrS {q0:List GAttr}{r:(List GAttr)}(hS:SH w K [] w K [])(y:SliceAt tGAttr K A a b q0)(hm:M.laws_toAttrS F q0=some r):
  Calls prog 146 #[V3 A a b] w fun e w'=>∃a_1 n_2 c_3 K',e= .returned (V3 a_1 n_2 c_3)∧SH w K [] w' K' [tail (V3 a_1 n_2 c_3) 142 2]∧SliceAt tGAttr K' a_1 n_2 c_3 r:=by
 rw [M.laws_toAttrS] at hm
 refine ci func146 u ntmps146 (sr (lv (r_n u) (nr (mv u (lv (rv_len underlying100 u y) ?_)))))
 obtain⟨O,R,S⟩:=ob hm
 refine wl_make (t:=tGAttr) wn u underlying75 tf142 u u u R ⟨u,(by decide :([]:Str).length≤maxLen),d_0⟩ hS fun f cs9 aA hmx13 hrow11 T=>?_
 obtain⟨m14,hm15⟩: ∃m,m=O.length:=⟨_,u⟩
 rw [←hm15] at hmx13
 rw [←hm15]
 refine av u (nsr (lv (r_0 u) (nq ?_)))
 obtain⟨D,U,V⟩:=ob S
 refine wc_cutg (fun E' w'=>∃cs23 l,E'=[(3,V3 (some ⟨f,0,none⟩) m14 m14)]∧SH w K [] w' l [obj f cs23 142]∧KLe K l∧RowAt true tGAttr l cs23 D∧m14=D.length) ?_ ?_
 ·refine wc_block ?_
  obtain⟨aB,W,X⟩:=ob U
  refine qw (fun (c:Int×(List GAttr)) E' w'=>∃cs36 k,E'=[(0,V3 A a b),(3,V3 (some ⟨f,0,none⟩) m14 m14),(4,V6 c.1)]∧SH w K [] w' k [obj f cs36 142]∧KLe K k∧rng64 c.1∧RowAt true tGAttr k cs36 c.2∧m14=c.2.length) W ⟨cs9,K,u,T,kr,d_0,hrow11,hm15⟩ ?_
  rintro c _ aC aD Y aa ⟨cs36,k,rfl,o,q,aE,hrow37,hm38⟩
  refine wc_seq (sr (mv u (mv u (lv (rv_len underlying100 u (y.mono q)) (lv (rv_lss u u) (nq (wcc Y u (fun ab B=>?_) (fun ab B=>?_))))))))
  ·refine wc_skip (qs (wc_block (wc_region (mv u (mv u (mv u (mv u ?_)))))))
   obtain⟨G,ac,ad⟩:=ob B
   refine li underlying100 tf225 (y.mono q) ac fun ae af aF ag ah=>?_
   obtain⟨rfl,ai,aj⟩:=ag
   have ak:AtK _ ae af [sv G.Name,V6 G.Num]:=ah
   refine lv (rv_loadS tf225 u o ak u) ?_
   obtain⟨s,al,am⟩:=ob ad
   refine lk co200 (ok_laws_toAttr F o.enter0 ai aj al) ?_
   rintro aG aH ⟨an,rfl,x,ao,ap⟩
   have aq:=(o.c0 x).t1
   obtain⟨H,C,ar⟩:=ob am
   obtain⟨aI,au,aw⟩:=RowAt.at (RowAt.mono x.le hrow37) C
   obtain⟨rfl,aJ,aK⟩:=au
   have aL: ∀(j:Nat) (d:Value),[sv H.Name,V6 H.Num][j]? =some d→cs36[c.1.toNat*tGAttr.size+j]? =some d:=aw
   refine lv (rv_indexRow (t:=tGAttr) underlying75 tf142 u u hm38 C) (wl_storeRow (t:=tGAttr) (v:=.agg #[sv s.Name,V6 s.Num]) (e:=s) wn tf142 u u ⟨u,ao,ap⟩ aq (RowAt.mono x.le hrow37) C fun cs74 aM hrow76 ax=>?_)
   have hm78:=hm38.trans (List.length_set (i:=c.1.toNat) (a:=s)).symm
   refine nb (qe_seq (wc_region (mv u (lv (rv_add u u) (av u (wl_nil ?_))))))
   cases oi ar
   exact qd ⟨_,u,cs74,an,u,ax,(q.trans x.le),(w64_rng _),hrow76,hm78⟩
  refine wc_exit (qe_then_exit (qe_then_exit ?_))
  cases oi B
  cases aa _ u
  refine qe_block_eq ?_
  cases oi X
  exact qd ⟨cs36,k,u,o,q,hrow37,hm38⟩
 rintro _ aN ⟨cs23,l,rfl,ay,aO,hrow24,hm25⟩
 refine qr (mv u (av u (nq (wc_ret ?_))))
 obtain⟨az,aP,I,J⟩:=SH.freeze ay hrow24 (row_max hm25 hmx13)
 rw [←hm25] at I J
 cases oi V
 exact ey results146 ⟨(some ⟨f,0,none⟩),m14,m14,az,u,J,I⟩

theorem bag_laws_toAttrS (F:Nat){w:World}{K:KMap}{a1:Option Addr}{n2 c3:Nat}{p0_a:List GAttr}{r:(List GAttr)}(hS:SH w K [] w K [])(hs4:SliceAt tGAttr K a1 n2 c3 p0_a)(hm:M.laws_toAttrS F p0_a=some r):
  Calls Tryz.prog 146 #[.slice a1 n2 c3] w fun e w'=>∃(a_1:Option Addr) (n_2 c_3:Nat) (K':KMap) (B':List Nat),e= .returned (.slice a_1 n_2 c_3)∧SH w K [] w' K' [bag B']∧SliceAt tGAttr (K'.only B') a_1 n_2 c_3 r:=
 (ok_laws_toAttrS F hS hs4 hm).mono fun e w' ⟨a,n,c,K',he,hS',hs'⟩=>
  let ⟨B,hB,hb⟩:=SH.bagTail hS'
  ⟨a,n,c,K',B,he,hB,SliceAt.only_flat (t:=tGAttr) (fun h=>h) hs' hb⟩

theorem bag_laws_toDoc (F:Nat){w:World}{K:KMap}{a2:Option Addr}{n3 c4:Nat}{a6:Option Addr}{n7 c8:Nat}{p0_a:GDoc}{r:GDoc}(hS:SH w K [] w K [])(hr1:rng64 p0_a.Id)(hs5:SliceAt tGField K a2 n3 c4 p0_a.Fields)(hs9:SliceAt tGAttr K a6 n7 c8 p0_a.Nums)(hm:M.laws_toDoc F p0_a=some r):
  Calls Tryz.prog 71 #[.agg #[.int .i64 p0_a.Id,.slice a2 n3 c4,.slice a6 n7 c8]] w fun e w'=>∃(a_2:Option Addr) (n_3 c_4:Nat) (a_6:Option Addr) (n_7 c_8:Nat) (K':KMap) (B':List Nat),e= .returned (.agg #[.int .i64 r.Id,.slice a_2 n_3 c_4,.slice a_6 n_7 c_8])∧SH w K [] w' K' [bag B']∧rng64 r.Id∧SliceAt tGField (K'.only B') a_2 n_3 c_4 r.Fields∧SliceAt tGAttr (K'.only B') a_6 n_7 c_8 r.Nums:=by
 rw [M.laws_toDoc] at hm
 refine calls_in Tryz.func71 u Tryz.ntmps71 u ?_
 refine sr ?_
 refine wl_box wn u u hS ?_
 intro g10 w11 hS12
 have hS13:SH _ _ _ _ _ [obj g10 [.int .i64 p0_a.Id,.slice a2 n3 c4,.slice a6 n7 c8] 102]:=hS12
 refine wl_alloc wn u tf77 hS13 ?_
 intro g14 w15 hS16
 have hS17:SH _ _ _ _ _ [obj g14 [.int .i64 0,.slice none 0 0,.slice none 0 0] 77,_]:=hS16
 refine nr ?_
 refine wl_alloc wn u tf77 hS17 ?_
 intro g18 w19 hS20
 have hS21:SH _ _ _ _ _ [obj g18 [.int .i64 0,.slice none 0 0,.slice none 0 0] 77,_,_]:=hS20
 refine nr ?_
 refine wl_val wn u (rv_fieldAddr ff102_0 u) ?_
 refine wl_val wn u (rv_loadm1 tf3 u (.tail _ (.tail _ (.head _))) hS21 u) ?_
 refine wl_val wn u (rv_fieldAddr ff77_0 u) ?_
 refine wl_store (cs':=[.int .i64 p0_a.Id,.slice none 0 0,.slice none 0 0]) (v:=.int .i64 p0_a.Id) wn tf3 u u u (by simp [Value.cells,Value.oneCell']) hS21 u u ?_
 intro w22 hS23
 refine nr ?_
 refine wl_val wn u (rv_fieldAddr ff102_1 u) ?_
 refine wl_val wn u (rv_loadm1 tf99 u (.tail _ (.tail _ (.head _))) hS23 u) ?_
 obtain⟨r24,hx25,h26⟩:=ob hm
 refine wl_call wn u (rt_call (vs:=[.slice a2 n3 c4]) co145 u) ((bag_laws_toFieldS F) hS23.enter0 hs5 hx25) ?_
 rintro e34 w28 ⟨a30,n31,c32,K27,B27,rfl,hS29,hs33⟩
 refine⟨_,u,?_⟩
 have hS35:SH _ _ _ _ _ [_,_,_,_]:=SH.call0 hS23 hS29
 refine wl_val wn u (rv_fieldAddr ff77_1 u) ?_
 have hS36:SH _ _ _ _ _ [_,_,_,_]:=SH.front (p:=[_]) hS35
 refine wl_store (cs':=[.int .i64 p0_a.Id,.slice a30 n31 c32,.slice none 0 0]) (v:=.slice a30 n31 c32) wn tf74 u u u (by simp [Value.cells,Value.oneCell']) hS36 u u ?_
 intro w37 hS38
 refine nr ?_
 refine wl_val wn u (rv_fieldAddr ff102_2 u) ?_
 refine wl_val wn u (rv_loadm1 tf100 u (.tail _ (.tail _ (.tail _ (.head _)))) hS38 u) ?_
 obtain⟨r39,hx40,h41⟩:=ob h26
 refine wl_call wn u (rt_call (vs:=[.slice a6 n7 c8]) co146 u) ((bag_laws_toAttrS F) hS38.enter0 (SliceAt.mono hS29.le hs9) hx40) ?_
 rintro e49 w43 ⟨a45,n46,c47,K42,B42,rfl,hS44,hs48⟩
 refine⟨_,u,?_⟩
 have hS50:SH _ _ _ _ _ [_,_,_,_,_]:=SH.call0 hS38 hS44
 refine wl_val wn u (rv_fieldAddr ff77_2 u) ?_
 have hS51:SH _ _ _ _ _ [_,_,_,_,_]:=SH.front (p:=[_]) hS50
 refine wl_store (cs':=[.int .i64 p0_a.Id,.slice a30 n31 c32,.slice a45 n46 c47]) (v:=.slice a45 n46 c47) wn tf75 u u u (by simp [Value.cells,Value.oneCell']) hS51 u u ?_
 intro w52 hS53
 refine nr ?_
 refine wl_val wn u (rv_loadmS (ds:=[.int .i64 p0_a.Id,.slice a30 n31 c32,.slice a45 n46 c47]) tf77 u (.head _) hS53 u u) ?_
 have hS54:SH _ _ _ _ _ [_,_,_,_,_]:=SH.front (p:=[_,_,_]) hS53
 refine wl_store (cs':=[.int .i64 p0_a.Id,.slice a30 n31 c32,.slice a45 n46 c47]) (v:=.agg #[.int .i64 p0_a.Id,.slice a30 n31 c32,.slice a45 n46 c47]) wn tf77 u u u (by simp [Value.cells,Value.oneCell']) hS54 u u ?_
 intro w55 hS56
 refine nq ?_
 refine wc_ret ?_
 obtain rfl:=oi h41
 have hS57:SH _ _ _ _ _ [_,_,_,_,_]:=SH.front (p:=[_,_]) hS56
 have hS58:SH _ _ _ _ _ [_,_,_,_,_]:=SH.front (p:=[_,_,_]) hS57
 have hS59:SH _ _ _ _ _ [_,_]:=SH.sublist hS58 (.cons_cons _ (.cons_cons _ (.cons _ (.cons _ (.cons _ .slnil)))))
 exact qe_ret (vs:=[_]) Tryz.results71 ⟨⟨_,_,u,run_loadVar_at tf77 (cs:=[.int .i64 p0_a.Id,.slice a30 n31 c32,.slice a45 n46 c47]) (fun j c e=>by rw [Nat.zero_add,hS56.mem_obj (.head _)];exact e) (.inl ⟨u,u,u⟩)⟩,trivial⟩ ⟨a30,n31,c32,a45,n46,c47,K42,(B27++B42),u,SH.bagJoin hS59,hr1,(SliceAt.mono (only_mono hS44.le fun _ h=>List.mem_append_left _ h) hs33),(SliceAt.mono (only_mono (KLe.refl _) fun _ h=>List.mem_append_right _ h) hs48)⟩

theorem bag_laws_toDocS (F:Nat){w:World}{K:KMap}{a1:Option Addr}{n2 c3:Nat}{p0_a:List GDoc}{r:(List GDoc)}(hS:SH w K [] w K [])(hs4:SliceAt tGDoc K a1 n2 c3 p0_a)(hm:M.laws_toDocS F p0_a=some r):
  Calls Tryz.prog 20 #[.slice a1 n2 c3] w fun e w'=>∃(a_1:Option Addr) (n_2 c_3:Nat) (K':KMap) (B':List Nat),e= .returned (.slice a_1 n_2 c_3)∧SH w K [] w' K' [bag B']∧SliceAt tGDoc (K'.only B') a_1 n_2 c_3 r:=by
 rw [M.laws_toDocS] at hm
 refine calls_in Tryz.func20 u Tryz.ntmps20 u ?_
 refine sr ?_
 refine wl_val wn u (rv_assign (v:=.slice none 0 0) u) ?_
 refine nr ?_
 refine vm u u ?_
 refine wl_val wn u (rv_len (t:=tGDoc) Tryz.underlying40 u hs4) ?_
 obtain⟨x5,hx6,h7⟩:=ob hm
 refine wl_make (t:=Ty.fix tGDoc (K.only [])) wn u Tryz.underlying43 tf77 u u u hx6 ⟨none,0,0,none,0,0,u,d_0,(SliceAt.nil _ _),(SliceAt.nil _ _)⟩ hS ?_
 intro g8 cs9 w10 hmx13 hrow11 hS12
 obtain⟨m14,hm15⟩: ∃m,m=x5.length:=⟨_,u⟩
 rw [←hm15] at hmx13
 rw [←hm15]
 refine va u u ?_
 refine nsr ?_
 refine wl_val wn u (rv_assign (v:=.int .i64 0) u) ?_
 refine nq ?_
 obtain⟨o16,h17,h18⟩:=ob h7
 refine wc_cutg (fun E' w'=>∃(cs23:List Value) (K19:KMap) (B19:List Nat),E'=[(3,.slice (some ⟨g8,0,none⟩) m14 m14)]∧SH w K [] w' K19 [obj g8 cs23 77,bag B19]∧KLe K K19∧RowAt true tGDoc (K19.only B19) cs23 o16∧m14=o16.length) ?_ ?_
 ·refine wc_block ?_
  obtain⟨r27,h28,h29⟩:=ob h17
  refine wc_while' (fun (s26:Int×(List GDoc)) E' w'=>∃(cs36:List Value) (K30:KMap) (B30:List Nat),E'=[(0,.slice a1 n2 c3),(3,.slice (some ⟨g8,0,none⟩) m14 m14),(4,.int .i64 s26.1)]∧SH w K [] w' K30 [obj g8 cs36 77,bag B30]∧KLe K K30∧rng64 s26.1∧RowAt true tGDoc (K30.only B30) cs36 s26.2∧m14=s26.2.length) h28 ⟨cs9,K,[],u,(SH.perm (SH.bag0 hS12) (List.Perm.swap _ _ _)),(KLe.refl _),d_0,hrow11,hm15⟩ ⟨u,u,u,trivial⟩ ?_
  rintro s26 _ w33 r39 h40 hx41 ⟨cs36,K30,B30,rfl,hS34,hl31,hr35,hrow37,hm38⟩
  refine wc_seq ?_
  refine sr ?_
  refine vm u u ?_
  refine vm u u ?_
  refine wl_val wn u (rv_len (t:=tGDoc) Tryz.underlying40 u (SliceAt.mono hl31 hs4)) ?_
  refine wl_val wn u (rv_lss u u) ?_
  refine nq ?_
  refine wc_cond u (fun hb42=>?_) (fun hb42=>?_)
  ·have h43:=cond_t hb42 h40
   refine wc_skip ?_
   refine qs ?_
   refine wc_block ?_
   refine wc_region ?_
   refine vm u u ?_
   refine vm u u ?_
   refine vm u u ?_
   refine vm u u ?_
   obtain⟨x44,hx45,h46⟩:=ob h43
   refine wl_indexAddr (t:=tGDoc) wn u Tryz.underlying40 tf102 u u (SliceAt.mono hl31 hs4) hx45 ?_
   intro b47 o48 u49 hu50 ha51
   obtain⟨a53,n54,c55,a57,n58,c59,rfl,hr52,hs56,hs60⟩:=hu50
   have ha61:AtK _ b47 o48 [.int .i64 x44.Id,.slice a53 n54 c55,.slice a57 n58 c59]:=ha51
   refine wl_val wn u (rv_loadS (cs:=[.int .i64 x44.Id,.slice a53 n54 c55,.slice a57 n58 c59]) tf102 u hS34 ha61 u) ?_
   obtain⟨r62,hx63,h64⟩:=ob h46
   refine wl_call wn u (rt_call (vs:=[.agg #[.int .i64 x44.Id,.slice a53 n54 c55,.slice a57 n58 c59]]) co71 u) ((bag_laws_toDoc F) hS34.enter0 hr52 hs56 hs60 hx63) ?_
   rintro e77 w66 ⟨a69,n70,c71,a73,n74,c75,K65,B65,rfl,hS67,hr68,hs72,hs76⟩
   refine⟨_,u,?_⟩
   have hS78:SH _ _ _ _ _ [_,_]:=SH.bagJoin (SH.perm (SH.call0 hS34 hS67) (List.Perm.cons _ (List.Perm.swap _ _ _)))
   obtain⟨x79,hx80,h81⟩:=ob h64
   obtain⟨u82,hu83,hk84⟩:=RowAt.at (RowAt.mono (only_mono hS67.le fun _ h=>h) hrow37) hx80
   obtain⟨a87,n88,c89,a91,n92,c93,rfl,hr86,hs90,hs94⟩:=hu83
   have hk85: ∀(j:Nat) (d:Value),[.int .i64 x79.Id,.slice a87 n88 c89,.slice a91 n92 c93][j]? =some d→cs36[s26.1.toNat*tGDoc.size+j]? =some d:=hk84
   refine wl_val wn u (rv_indexRow (t:=tGDoc) Tryz.underlying43 tf77 u u hm38 hx80) ?_
   have hS95:SH _ _ _ _ _ [_,_]:=SH.front (p:=[_]) hS78
   refine wl_storeRow (t:=Ty.fix tGDoc (K65.only (B65++B30))) (v:=.agg #[.int .i64 r62.Id,.slice a69 n70 c71,.slice a73 n74 c75]) (e:=r62) wn tf77 u u ⟨a69,n70,c71,a73,n74,c75,u,hr68,(SliceAt.mono (only_mono (KLe.refl _) fun _ h=>List.mem_append_left _ h) hs72),(SliceAt.mono (only_mono (KLe.refl _) fun _ h=>List.mem_append_left _ h) hs76)⟩ hS95 (show RowAt true tGDoc (K65.only (B65++B30)) _ _ from RowAt.mono (only_mono hS67.le fun _ h=>List.mem_append_right _ h) hrow37) hx80 ?_
   intro cs96 w97 hrow98 hS99
   have hm100:=hm38.trans (List.length_set (i:=s26.1.toNat) (a:=r62)).symm
   refine nb ?_
   refine qe_seq ?_
   refine wc_region ?_
   refine vm u u ?_
   refine wl_val wn u (rv_add u u) ?_
   refine va u u ?_
   refine wl_nil ?_
   obtain rfl:=oi h81
   have hS101:=hS99
   exact qe_mid' ⟨_,u,cs96,K65,(B65++B30),u,hS101,(hl31.trans hS67.le),(w64_rng _),hrow98,hm100⟩ ⟨u,u,u,trivial⟩
  ·have h43:=cond_f hb42 h40
   refine wc_exit ?_
   refine qe_then_exit ?_
   refine qe_then_exit ?_
   obtain rfl:=oi h43
   have e102:=hx41 _ u
   subst e102
   refine qe_block_eq ?_
   obtain rfl:=oi h29
   exact qe_mid' ⟨cs36,K30,B30,u,hS34,hl31,hrow37,hm38⟩ ⟨u,trivial⟩
 ·rintro _ w21 ⟨cs23,K19,B19,rfl,hS22,hl20,hrow24,hm25⟩
  refine qr ?_
  refine vm u u ?_
  refine va u u ?_
  refine nq ?_
  refine wc_ret ?_
  obtain⟨K103,hl104,hs105,hS106⟩:=SH.freeze (t:=Ty.fix tGDoc (K19.only B19)) hS22 hrow24 (row_max hm25 hmx13)
  rw [←hm25] at hs105 hS106
  obtain rfl:=oi h18
  obtain⟨Bz,hSz,hBz⟩:=SH.bagTail hS106
  exact qe_ret (vs:=[_]) Tryz.results20 ⟨u,trivial⟩ ⟨(some ⟨g8,0,none⟩),m14,m14,K103,(Bz++B19),u,SH.bagJoin hSz,SliceAt.unfix hs105 (only_mono hl104 fun _ h=>List.mem_append_right _ h) (fun hc b o e=>List.mem_append_left _ (hBz hc b o e))⟩

theorem ok_laws_toIntS {q0:List Int}{r:(List Int)}(hS:SH w K [] w K [])(s:SliceAt tInt K A a b q0)(hm:M.laws_toIntS F q0=some r):
  Calls prog 184 #[V3 A a b] w fun e w'=>∃a_1 n_2 c_3 K',e= .returned (V3 a_1 n_2 c_3)∧SH w K [] w' K' [tail (V3 a_1 n_2 c_3) 3 1]∧SliceAt tInt K' a_1 n_2 c_3 r:=by
 rw [M.laws_toIntS] at hm
 refine ci func184 u ntmps184 (sr (lv (r_n u) (nr (mv u (lv (rv_len underlying71 u s) ?_)))))
 obtain⟨H,I,J⟩:=ob hm
 refine wl_make (t:=tInt) wn u underlying71 tf3 u u u I ⟨u,d_0⟩ hS fun k cs9 ao hmx13 hrow11 O=>?_
 obtain⟨m14,hm15⟩: ∃m,m=H.length:=⟨_,u⟩
 rw [←hm15] at hmx13
 rw [←hm15]
 refine av u (nsr (lv (r_0 u) (nq ?_)))
 obtain⟨C,R,S⟩:=ob J
 refine wc_cutg (fun E' w'=>∃cs23 l,E'=[(3,V3 (some ⟨k,0,none⟩) m14 m14)]∧SH w K [] w' l [obj k cs23 3]∧KLe K l∧RowAt true tInt l cs23 C∧m14=C.length) ?_ ?_
 ·refine wc_block ?_
  obtain⟨ap,T,U⟩:=ob R
  refine qw (fun (c:Int×(List Int)) E' w'=>∃cs36 f,E'=[(0,V3 A a b),(3,V3 (some ⟨k,0,none⟩) m14 m14),(4,V6 c.1)]∧SH w K [] w' f [obj k cs36 3]∧KLe K f∧rng64 c.1∧RowAt true tInt f cs36 c.2∧m14=c.2.length) T ⟨cs9,K,u,O,kr,d_0,hrow11,hm15⟩ ?_
  rintro c _ aq ar V W ⟨cs36,f,rfl,x,o,au,hrow37,hm38⟩
  refine wc_seq (sr (mv u (mv u (lv (rv_len underlying71 u (s.mono o)) (lv (rv_lss u u) (nq (wcc V u (fun X y=>?_) (fun X y=>?_))))))))
  ·refine wc_skip (qs (wc_block (wc_region (mv u (mv u (mv u (mv u ?_)))))))
   obtain⟨q,Y,aa⟩:=ob y
   refine li underlying71 tf3 (s.mono o) Y fun ab ac aw ad ae=>?_
   obtain⟨rfl,af⟩:=ad
   have ag:AtK _ ab ac [V6 q]:=ae
   refine lv (rv_load1 tf3 u x (ag 0 _ u)) ?_
   obtain⟨ah,B,ai⟩:=ob aa
   obtain⟨ax,aj,ak⟩:=RowAt.at hrow37 B
   obtain⟨rfl,ay⟩:=aj
   have az: ∀(j:Nat) (d:Value),[V6 ah][j]? =some d→cs36[c.1.toNat*tInt.size+j]? =some d:=ak
   refine lv (rv_indexRow (t:=tInt) underlying71 tf3 u u hm38 B) (wl_storeRow (t:=tInt) (v:=V6 q) (e:=q) wn tf3 u u ⟨u,af⟩ x hrow37 B fun cs62 aA hrow64 al=>?_)
   have hm66:=hm38.trans (List.length_set (i:=c.1.toNat) (a:=q)).symm
   refine nb (qe_seq (wc_region (mv u (lv (rv_add u u) (av u (wl_nil ?_))))))
   cases oi ai
   exact qd ⟨_,u,cs62,f,u,al,o,(w64_rng _),hrow64,hm66⟩
  refine wc_exit (qe_then_exit (qe_then_exit ?_))
  cases oi y
  cases W _ u
  refine qe_block_eq ?_
  cases oi U
  exact qd ⟨cs36,f,u,x,o,hrow37,hm38⟩
 rintro _ aB ⟨cs23,l,rfl,am,aC,hrow24,hm25⟩
 refine qr (mv u (av u (nq (wc_ret ?_))))
 obtain⟨an,aD,D,G⟩:=SH.freeze am hrow24 (row_max hm25 hmx13)
 rw [←hm25] at D G
 cases oi S
 exact ey results184 ⟨(some ⟨k,0,none⟩),m14,m14,an,u,G,D⟩

theorem bag_laws_toIntS (F:Nat){w:World}{K:KMap}{a1:Option Addr}{n2 c3:Nat}{p0_a:List Int}{r:(List Int)}(hS:SH w K [] w K [])(hs4:SliceAt tInt K a1 n2 c3 p0_a)(hm:M.laws_toIntS F p0_a=some r):
  Calls Tryz.prog 184 #[.slice a1 n2 c3] w fun e w'=>∃(a_1:Option Addr) (n_2 c_3:Nat) (K':KMap) (B':List Nat),e= .returned (.slice a_1 n_2 c_3)∧SH w K [] w' K' [bag B']∧SliceAt tInt (K'.only B') a_1 n_2 c_3 r:=
 (ok_laws_toIntS F hS hs4 hm).mono fun e w' ⟨a,n,c,K',he,hS',hs'⟩=>
  let ⟨B,hB,hb⟩:=SH.bagTail hS'
  ⟨a,n,c,K',B,he,hB,SliceAt.only_flat (t:=tInt) (fun h=>h) hs' hb⟩

theorem bag_laws_toPost (F:Nat){w:World}{K:KMap}{a2:Option Addr}{n3 c4:Nat}{p0_a:GPost}{r:GPost}(hS:SH w K [] w K [])(hr1:rng64 p0_a.Doc)(hs5:SliceAt tInt K a2 n3 c4 p0_a.At)(hm:M.laws_toPost F p0_a=some r):
  Calls Tryz.prog 245 #[.agg #[.int .i64 p0_a.Doc,.slice a2 n3 c4]] w fun e w'=>∃(a_2:Option Addr) (n_3 c_4:Nat) (K':KMap) (B':List Nat),e= .returned (.agg #[.int .i64 r.Doc,.slice a_2 n_3 c_4])∧SH w K [] w' K' [bag B']∧rng64 r.Doc∧SliceAt tInt (K'.only B') a_2 n_3 c_4 r.At:=by
 rw [M.laws_toPost] at hm
 refine calls_in Tryz.func245 u Tryz.ntmps245 u ?_
 refine sr ?_
 refine wl_box wn u u hS ?_
 intro g6 w7 hS8
 have hS9:SH _ _ _ _ _ [obj g6 [.int .i64 p0_a.Doc,.slice a2 n3 c4] 268]:=hS8
 refine wl_alloc wn u tf134 hS9 ?_
 intro g10 w11 hS12
 have hS13:SH _ _ _ _ _ [obj g10 [.int .i64 0,.slice none 0 0] 134,_]:=hS12
 refine nr ?_
 refine wl_alloc wn u tf134 hS13 ?_
 intro g14 w15 hS16
 have hS17:SH _ _ _ _ _ [obj g14 [.int .i64 0,.slice none 0 0] 134,_,_]:=hS16
 refine nr ?_
 refine wl_val wn u (rv_fieldAddr ff268_0 u) ?_
 refine wl_val wn u (rv_loadm1 tf3 u (.tail _ (.tail _ (.head _))) hS17 u) ?_
 refine wl_val wn u (rv_fieldAddr ff134_0 u) ?_
 refine wl_store (cs':=[.int .i64 p0_a.Doc,.slice none 0 0]) (v:=.int .i64 p0_a.Doc) wn tf3 u u u (by simp [Value.cells,Value.oneCell']) hS17 u u ?_
 intro w18 hS19
 refine nr ?_
 refine wl_val wn u (rv_fieldAddr ff268_1 u) ?_
 refine wl_val wn u (rv_loadm1 tf71 u (.tail _ (.tail _ (.head _))) hS19 u) ?_
 obtain⟨r20,hx21,h22⟩:=ob hm
 refine wl_call wn u (rt_call (vs:=[.slice a2 n3 c4]) co184 u) ((bag_laws_toIntS F) hS19.enter0 hs5 hx21) ?_
 rintro e30 w24 ⟨a26,n27,c28,K23,B23,rfl,hS25,hs29⟩
 refine⟨_,u,?_⟩
 have hS31:SH _ _ _ _ _ [_,_,_,_]:=SH.call0 hS19 hS25
 refine wl_val wn u (rv_fieldAddr ff134_1 u) ?_
 have hS32:SH _ _ _ _ _ [_,_,_,_]:=SH.front (p:=[_]) hS31
 refine wl_store (cs':=[.int .i64 p0_a.Doc,.slice a26 n27 c28]) (v:=.slice a26 n27 c28) wn tf71 u u u (by simp [Value.cells,Value.oneCell']) hS32 u u ?_
 intro w33 hS34
 refine nr ?_
 refine wl_val wn u (rv_loadmS (ds:=[.int .i64 p0_a.Doc,.slice a26 n27 c28]) tf134 u (.head _) hS34 u u) ?_
 have hS35:SH _ _ _ _ _ [_,_,_,_]:=SH.front (p:=[_,_]) hS34
 refine wl_store (cs':=[.int .i64 p0_a.Doc,.slice a26 n27 c28]) (v:=.agg #[.int .i64 p0_a.Doc,.slice a26 n27 c28]) wn tf134 u u u (by simp [Value.cells,Value.oneCell']) hS35 u u ?_
 intro w36 hS37
 refine nq ?_
 refine wc_ret ?_
 obtain rfl:=oi h22
 have hS38:SH _ _ _ _ _ [_]:=SH.sublist hS37 (.cons _ (.cons _ (.cons_cons _ (.cons _ .slnil))))
 exact qe_ret (vs:=[_]) Tryz.results245 ⟨⟨_,_,u,run_loadVar_at tf134 (cs:=[.int .i64 p0_a.Doc,.slice a26 n27 c28]) (fun j c e=>by rw [Nat.zero_add,hS37.mem_obj (.head _)];exact e) (.inl ⟨u,u,u⟩)⟩,trivial⟩ ⟨a26,n27,c28,K23,B23,u,hS38,hr1,(SliceAt.mono (only_mono (KLe.refl _) fun _ h=>h) hs29)⟩

theorem bag_laws_toPostS (F:Nat){w:World}{K:KMap}{a1:Option Addr}{n2 c3:Nat}{p0_a:List GPost}{r:(List GPost)}(hS:SH w K [] w K [])(hs4:SliceAt tGPost K a1 n2 c3 p0_a)(hm:M.laws_toPostS F p0_a=some r):
  Calls Tryz.prog 216 #[.slice a1 n2 c3] w fun e w'=>∃(a_1:Option Addr) (n_2 c_3:Nat) (K':KMap) (B':List Nat),e= .returned (.slice a_1 n_2 c_3)∧SH w K [] w' K' [bag B']∧SliceAt tGPost (K'.only B') a_1 n_2 c_3 r:=by
 rw [M.laws_toPostS] at hm
 refine calls_in Tryz.func216 u Tryz.ntmps216 u ?_
 refine sr ?_
 refine wl_val wn u (rv_assign (v:=.slice none 0 0) u) ?_
 refine nr ?_
 refine vm u u ?_
 refine wl_val wn u (rv_len (t:=tGPost) Tryz.underlying199 u hs4) ?_
 obtain⟨x5,hx6,h7⟩:=ob hm
 refine wl_make (t:=Ty.fix tGPost (K.only [])) wn u Tryz.underlying61 tf134 u u u hx6 ⟨none,0,0,u,d_0,(SliceAt.nil _ _)⟩ hS ?_
 intro g8 cs9 w10 hmx13 hrow11 hS12
 obtain⟨m14,hm15⟩: ∃m,m=x5.length:=⟨_,u⟩
 rw [←hm15] at hmx13
 rw [←hm15]
 refine va u u ?_
 refine nsr ?_
 refine wl_val wn u (rv_assign (v:=.int .i64 0) u) ?_
 refine nq ?_
 obtain⟨o16,h17,h18⟩:=ob h7
 refine wc_cutg (fun E' w'=>∃(cs23:List Value) (K19:KMap) (B19:List Nat),E'=[(3,.slice (some ⟨g8,0,none⟩) m14 m14)]∧SH w K [] w' K19 [obj g8 cs23 134,bag B19]∧KLe K K19∧RowAt true tGPost (K19.only B19) cs23 o16∧m14=o16.length) ?_ ?_
 ·refine wc_block ?_
  obtain⟨r27,h28,h29⟩:=ob h17
  refine wc_while' (fun (s26:Int×(List GPost)) E' w'=>∃(cs36:List Value) (K30:KMap) (B30:List Nat),E'=[(0,.slice a1 n2 c3),(3,.slice (some ⟨g8,0,none⟩) m14 m14),(4,.int .i64 s26.1)]∧SH w K [] w' K30 [obj g8 cs36 134,bag B30]∧KLe K K30∧rng64 s26.1∧RowAt true tGPost (K30.only B30) cs36 s26.2∧m14=s26.2.length) h28 ⟨cs9,K,[],u,(SH.perm (SH.bag0 hS12) (List.Perm.swap _ _ _)),(KLe.refl _),d_0,hrow11,hm15⟩ ⟨u,u,u,trivial⟩ ?_
  rintro s26 _ w33 r39 h40 hx41 ⟨cs36,K30,B30,rfl,hS34,hl31,hr35,hrow37,hm38⟩
  refine wc_seq ?_
  refine sr ?_
  refine vm u u ?_
  refine vm u u ?_
  refine wl_val wn u (rv_len (t:=tGPost) Tryz.underlying199 u (SliceAt.mono hl31 hs4)) ?_
  refine wl_val wn u (rv_lss u u) ?_
  refine nq ?_
  refine wc_cond u (fun hb42=>?_) (fun hb42=>?_)
  ·have h43:=cond_t hb42 h40
   refine wc_skip ?_
   refine qs ?_
   refine wc_block ?_
   refine wc_region ?_
   refine vm u u ?_
   refine vm u u ?_
   refine vm u u ?_
   refine vm u u ?_
   obtain⟨x44,hx45,h46⟩:=ob h43
   refine wl_indexAddr (t:=tGPost) wn u Tryz.underlying199 tf268 u u (SliceAt.mono hl31 hs4) hx45 ?_
   intro b47 o48 u49 hu50 ha51
   obtain⟨a53,n54,c55,rfl,hr52,hs56⟩:=hu50
   have ha57:AtK _ b47 o48 [.int .i64 x44.Doc,.slice a53 n54 c55]:=ha51
   refine wl_val wn u (rv_loadS (cs:=[.int .i64 x44.Doc,.slice a53 n54 c55]) tf268 u hS34 ha57 u) ?_
   obtain⟨r58,hx59,h60⟩:=ob h46
   refine wl_call wn u (rt_call (vs:=[.agg #[.int .i64 x44.Doc,.slice a53 n54 c55]]) co245 u) ((bag_laws_toPost F) hS34.enter0 hr52 hs56 hx59) ?_
   rintro e69 w62 ⟨a65,n66,c67,K61,B61,rfl,hS63,hr64,hs68⟩
   refine⟨_,u,?_⟩
   have hS70:SH _ _ _ _ _ [_,_]:=SH.bagJoin (SH.perm (SH.call0 hS34 hS63) (List.Perm.cons _ (List.Perm.swap _ _ _)))
   obtain⟨x71,hx72,h73⟩:=ob h60
   obtain⟨u74,hu75,hk76⟩:=RowAt.at (RowAt.mono (only_mono hS63.le fun _ h=>h) hrow37) hx72
   obtain⟨a79,n80,c81,rfl,hr78,hs82⟩:=hu75
   have hk77: ∀(j:Nat) (d:Value),[.int .i64 x71.Doc,.slice a79 n80 c81][j]? =some d→cs36[s26.1.toNat*tGPost.size+j]? =some d:=hk76
   refine wl_val wn u (rv_indexRow (t:=tGPost) Tryz.underlying61 tf134 u u hm38 hx72) ?_
   have hS83:SH _ _ _ _ _ [_,_]:=SH.front (p:=[_]) hS70
   refine wl_storeRow (t:=Ty.fix tGPost (K61.only (B61++B30))) (v:=.agg #[.int .i64 r58.Doc,.slice a65 n66 c67]) (e:=r58) wn tf134 u u ⟨a65,n66,c67,u,hr64,(SliceAt.mono (only_mono (KLe.refl _) fun _ h=>List.mem_append_left _ h) hs68)⟩ hS83 (show RowAt true tGPost (K61.only (B61++B30)) _ _ from RowAt.mono (only_mono hS63.le fun _ h=>List.mem_append_right _ h) hrow37) hx72 ?_
   intro cs84 w85 hrow86 hS87
   have hm88:=hm38.trans (List.length_set (i:=s26.1.toNat) (a:=r58)).symm
   refine nb ?_
   refine qe_seq ?_
   refine wc_region ?_
   refine vm u u ?_
   refine wl_val wn u (rv_add u u) ?_
   refine va u u ?_
   refine wl_nil ?_
   obtain rfl:=oi h73
   have hS89:=hS87
   exact qe_mid' ⟨_,u,cs84,K61,(B61++B30),u,hS89,(hl31.trans hS63.le),(w64_rng _),hrow86,hm88⟩ ⟨u,u,u,trivial⟩
  ·have h43:=cond_f hb42 h40
   refine wc_exit ?_
   refine qe_then_exit ?_
   refine qe_then_exit ?_
   obtain rfl:=oi h43
   have e90:=hx41 _ u
   subst e90
   refine qe_block_eq ?_
   obtain rfl:=oi h29
   exact qe_mid' ⟨cs36,K30,B30,u,hS34,hl31,hrow37,hm38⟩ ⟨u,trivial⟩
 ·rintro _ w21 ⟨cs23,K19,B19,rfl,hS22,hl20,hrow24,hm25⟩
  refine qr ?_
  refine vm u u ?_
  refine va u u ?_
  refine nq ?_
  refine wc_ret ?_
  obtain⟨K91,hl92,hs93,hS94⟩:=SH.freeze (t:=Ty.fix tGPost (K19.only B19)) hS22 hrow24 (row_max hm25 hmx13)
  rw [←hm25] at hs93 hS94
  obtain rfl:=oi h18
  obtain⟨Bz,hSz,hBz⟩:=SH.bagTail hS94
  exact qe_ret (vs:=[_]) Tryz.results216 ⟨u,trivial⟩ ⟨(some ⟨g8,0,none⟩),m14,m14,K91,(Bz++B19),u,SH.bagJoin hSz,SliceAt.unfix hs93 (only_mono hl92 fun _ h=>List.mem_append_right _ h) (fun hc b o e=>List.mem_append_left _ (hBz hc b o e))⟩
end Go.Proofs.YtpjefkdclnmlfaaGreat
