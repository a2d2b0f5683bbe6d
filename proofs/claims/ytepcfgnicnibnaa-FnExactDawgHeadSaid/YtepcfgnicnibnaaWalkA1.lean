/-
 Walks of the functions. Printed by gen.py.
-/
import Derived.Test.YtepcfgnicnibnaaFacts
set_option linter.unusedVariables false
set_option linter.unusedSectionVars false
set_option maxRecDepth 100000
namespace Go.Proofs.Ytepcfgnicnibnaa
set_option maxHeartbeats 4000000
open Go Go.Fk Go.RowKit Try
variable (F:Nat){w:World}{K:KMap}{Z:List Nat}{g1 g2 g3:Nat}{A B C D G H I J O R S T:Option Addr}{a b c d f i k l m n o p q s v x y aa ab ac ad ae af ag:Nat}
variable [dr:Dr]

theorem ok_laws_toArc {q0:GArc}{r:GArc}(hS:SH w K [] w K [])(f:rng64 q0.To)(hm:M.laws_toArc F q0=some r):
  Calls prog 107 #[.agg #[iv8 q0.Byte,V6 q0.To]] w fun e w'=>∃K',e= .returned (.agg #[iv8 r.Byte,V6 r.To])∧SH w K [] w' K' []∧rng64 r.To:=by
 rw [M.laws_toArc] at hm
 refine ci func107 u ntmps107 (sr (bx u hS fun g2 x i=>?_))
 have k:SH _ _ _ _ _ [obj g2 [iv8 q0.Byte,V6 q0.To] 146]:=i
 refine al tf116 k fun l y m=>?_
 have o:SH _ _ _ _ _ [obj l [iv8 0,V6 0] 116,_]:=m
 refine nr (al tf116 o fun q A s=>?_)
 have a:SH _ _ _ _ _ [obj q [iv8 0,V6 0] 116,_,_]:=s
 refine nr (fl ff146_0 u tf5 m2 a u (fa ff116_0 u (wl_store (cs':=[iv8 q0.Byte,V6 0]) (v:=iv8 q0.Byte) wn tf5 u u u (by simp [Value.cells,Value.oneCell',iv8]) a u u fun B b=>(nr (fl ff146_1 u tf3 m2 b u (fa ff116_1 u (ls [iv8 q0.Byte,V6 q0.To] (V6 q0.To) tf3 b fun C c=>(nr (lv (rv_loadmS (ds:=[iv8 q0.Byte,V6 q0.To]) tf116 u m0 c u u) ?_)))))))))
 refine wl_store (cs':=[iv8 q0.Byte,V6 q0.To]) (v:=.agg #[iv8 q0.Byte,V6 q0.To]) wn tf116 u u u (by simp [Value.cells,Value.oneCell',iv8]) c.f1 u u fun D d=>(nq (wc_ret ?_))
 cases oi hm
 exact ez results107 tf116 d m0 ⟨K,u,d.s,f⟩

theorem ok_laws_toArcS {q0:List GArc}{r:(List GArc)}(hS:SH w K [] w K [])(y:SliceAt tGArc K A a b q0)(hm:M.laws_toArcS F q0=some r):
  Calls prog 84 #[V3 A a b] w fun e w'=>∃a_1 n_2 c_3 K',e= .returned (V3 a_1 n_2 c_3)∧SH w K [] w' K' [tail (V3 a_1 n_2 c_3) 116 2]∧SliceAt tGArc K' a_1 n_2 c_3 r:=by
 rw [M.laws_toArcS] at hm
 refine ci func84 u ntmps84 (sr (lv (r_n u) (nr (mv u (lv (rv_len underlying69 u y) ?_)))))
 obtain⟨O,R,S⟩:=ob hm
 refine wl_make (t:=tGArc) wn u underlying76 tf116 u u u R ⟨u,d_0⟩ hS fun f cs9 ay hmx13 hrow11 T=>?_
 obtain⟨m14,hm15⟩: ∃m,m=O.length:=⟨_,u⟩
 rw [←hm15] at hmx13
 rw [←hm15]
 refine av u (nsr (lv (r_0 u) (nq ?_)))
 obtain⟨D,U,V⟩:=ob S
 refine wc_cutg (fun E' w'=>∃cs23 l,E'=[(3,V3 (some ⟨f,0,none⟩) m14 m14)]∧SH w K [] w' l [obj f cs23 116]∧KLe K l∧RowAt true tGArc l cs23 D∧m14=D.length) ?_ ?_
 ·refine wc_block ?_
  obtain⟨az,W,X⟩:=ob U
  refine qw (fun (c:Int×(List GArc)) E' w'=>∃cs36 k,E'=[(0,V3 A a b),(3,V3 (some ⟨f,0,none⟩) m14 m14),(4,V6 c.1)]∧SH w K [] w' k [obj f cs36 116]∧KLe K k∧rng64 c.1∧RowAt true tGArc k cs36 c.2∧m14=c.2.length) W ⟨cs9,K,u,T,kr,d_0,hrow11,hm15⟩ ?_
  rintro c _ aA aB Y aa ⟨cs36,k,rfl,o,q,aC,hrow37,hm38⟩
  refine wc_seq (sr (mv u (mv u (lv (rv_len underlying69 u (y.mono q)) (lv (rv_lss u u) (nq (wcc Y u (fun ab B=>?_) (fun ab B=>?_))))))))
  ·refine wc_skip (qs (wc_block (wc_region (mv u (mv u (mv u (mv u ?_)))))))
   obtain⟨G,ac,ad⟩:=ob B
   refine li underlying69 tf146 (y.mono q) ac fun ae af aD ag ah=>?_
   obtain⟨rfl,ai⟩:=ag
   have aj:AtK _ ae af [iv8 G.Byte,V6 G.To]:=ah
   refine lv (rv_loadS tf146 u o aj u) ?_
   obtain⟨s,ak,al⟩:=ob ad
   refine lk co107 (ok_laws_toArc F o.enter0 ai ak) ?_
   rintro aE aF ⟨am,rfl,x,an⟩
   have ao:=(o.c0 x).t1
   obtain⟨H,C,ap⟩:=ob al
   obtain⟨aG,aq,ar⟩:=RowAt.at (RowAt.mono x.le hrow37) C
   obtain⟨rfl,aH⟩:=aq
   have aI: ∀(j:Nat) (d:Value),[iv8 H.Byte,V6 H.To][j]? =some d→cs36[c.1.toNat*tGArc.size+j]? =some d:=ar
   refine lv (rv_indexRow (t:=tGArc) underlying76 tf116 u u hm38 C) (wl_storeRow (t:=tGArc) (v:=.agg #[iv8 s.Byte,V6 s.To]) (e:=s) wn tf116 u u ⟨u,an⟩ ao (RowAt.mono x.le hrow37) C fun cs71 aJ hrow73 au=>?_)
   have hm75:=hm38.trans (List.length_set (i:=c.1.toNat) (a:=s)).symm
   refine nb (qe_seq (wc_region (mv u (lv (rv_add u u) (av u (wl_nil ?_))))))
   cases oi ap
   exact qd ⟨_,u,cs71,am,u,au,(q.trans x.le),(w64_rng _),hrow73,hm75⟩
  refine wc_exit (qe_then_exit (qe_then_exit ?_))
  cases oi B
  cases aa _ u
  refine qe_block_eq ?_
  cases oi X
  exact qd ⟨cs36,k,u,o,q,hrow37,hm38⟩
 rintro _ aK ⟨cs23,l,rfl,aw,aL,hrow24,hm25⟩
 refine qr (mv u (av u (nq (wc_ret ?_))))
 obtain⟨ax,aM,I,J⟩:=SH.freeze aw hrow24 (row_max hm25 hmx13)
 rw [←hm25] at I J
 cases oi V
 exact ey results84 ⟨(some ⟨f,0,none⟩),m14,m14,ax,u,J,I⟩

theorem bag_laws_toArcS (F:Nat){w:World}{K:KMap}{a1:Option Addr}{n2 c3:Nat}{p0_a:List GArc}{r:(List GArc)}(hS:SH w K [] w K [])(hs4:SliceAt tGArc K a1 n2 c3 p0_a)(hm:M.laws_toArcS F p0_a=some r):
  Calls Try.prog 84 #[.slice a1 n2 c3] w fun e w'=>∃(a_1:Option Addr) (n_2 c_3:Nat) (K':KMap) (B':List Nat),e= .returned (.slice a_1 n_2 c_3)∧SH w K [] w' K' [bag B']∧SliceAt tGArc (K'.only B') a_1 n_2 c_3 r:=
 (ok_laws_toArcS F hS hs4 hm).mono fun e w' ⟨a,n,c,K',he,hS',hs'⟩=>
  let ⟨B,hB,hb⟩:=SH.bagTail hS'
  ⟨a,n,c,K',B,he,hB,SliceAt.only_flat (t:=tGArc) (fun h=>h) hs' hb⟩

theorem bag_laws_toState (F:Nat){w:World}{K:KMap}{a2:Option Addr}{n3 c4:Nat}{p0_a:GState}{r:GState}(hS:SH w K [] w K [])(hr1:rng64 p0_a.Many)(hs5:SliceAt tGArc K a2 n3 c4 p0_a.Arcs)(hm:M.laws_toState F p0_a=some r):
  Calls Try.prog 52 #[.agg #[.bool p0_a.Final,.int .i64 p0_a.Many,.slice a2 n3 c4]] w fun e w'=>∃(a_2:Option Addr) (n_3 c_4:Nat) (K':KMap) (B':List Nat),e= .returned (.agg #[.bool r.Final,.int .i64 r.Many,.slice a_2 n_3 c_4])∧SH w K [] w' K' [bag B']∧rng64 r.Many∧SliceAt tGArc (K'.only B') a_2 n_3 c_4 r.Arcs:=by
 rw [M.laws_toState] at hm
 refine calls_in Try.func52 u Try.ntmps52 u ?_
 refine sr ?_
 refine wl_box wn u u hS ?_
 intro g6 w7 hS8
 have hS9:SH _ _ _ _ _ [obj g6 [.bool p0_a.Final,.int .i64 p0_a.Many,.slice a2 n3 c4] 71]:=hS8
 refine wl_alloc wn u tf78 hS9 ?_
 intro g10 w11 hS12
 have hS13:SH _ _ _ _ _ [obj g10 [.bool false,.int .i64 0,.slice none 0 0] 78,_]:=hS12
 refine nr ?_
 refine wl_alloc wn u tf78 hS13 ?_
 intro g14 w15 hS16
 have hS17:SH _ _ _ _ _ [obj g14 [.bool false,.int .i64 0,.slice none 0 0] 78,_,_]:=hS16
 refine nr ?_
 refine wl_val wn u (rv_fieldAddr ff71_0 u) ?_
 refine wl_val wn u (rv_loadm1 tf4 u (.tail _ (.tail _ (.head _))) hS17 u) ?_
 refine wl_val wn u (rv_fieldAddr ff78_0 u) ?_
 refine wl_store (cs':=[.bool p0_a.Final,.int .i64 0,.slice none 0 0]) (v:=.bool p0_a.Final) wn tf4 u u u (by simp [Value.cells,Value.oneCell']) hS17 u u ?_
 intro w18 hS19
 refine nr ?_
 refine wl_val wn u (rv_fieldAddr ff71_1 u) ?_
 refine wl_val wn u (rv_loadm1 tf3 u (.tail _ (.tail _ (.head _))) hS19 u) ?_
 refine wl_val wn u (rv_fieldAddr ff78_1 u) ?_
 refine wl_store (cs':=[.bool p0_a.Final,.int .i64 p0_a.Many,.slice none 0 0]) (v:=.int .i64 p0_a.Many) wn tf3 u u u (by simp [Value.cells,Value.oneCell']) hS19 u u ?_
 intro w20 hS21
 refine nr ?_
 refine wl_val wn u (rv_fieldAddr ff71_2 u) ?_
 refine wl_val wn u (rv_loadm1 tf69 u (.tail _ (.tail _ (.head _))) hS21 u) ?_
 obtain⟨r22,hx23,h24⟩:=ob hm
 refine wl_call wn u (rt_call (vs:=[.slice a2 n3 c4]) co84 u) ((bag_laws_toArcS F) hS21.enter0 hs5 hx23) ?_
 rintro e32 w26 ⟨a28,n29,c30,K25,B25,rfl,hS27,hs31⟩
 refine⟨_,u,?_⟩
 have hS33:SH _ _ _ _ _ [_,_,_,_]:=SH.call0 hS21 hS27
 refine wl_val wn u (rv_fieldAddr ff78_2 u) ?_
 have hS34:SH _ _ _ _ _ [_,_,_,_]:=SH.front (p:=[_]) hS33
 refine wl_store (cs':=[.bool p0_a.Final,.int .i64 p0_a.Many,.slice a28 n29 c30]) (v:=.slice a28 n29 c30) wn tf76 u u u (by simp [Value.cells,Value.oneCell']) hS34 u u ?_
 intro w35 hS36
 refine nr ?_
 refine wl_val wn u (rv_loadmS (ds:=[.bool p0_a.Final,.int .i64 p0_a.Many,.slice a28 n29 c30]) tf78 u (.head _) hS36 u u) ?_
 have hS37:SH _ _ _ _ _ [_,_,_,_]:=SH.front (p:=[_,_]) hS36
 refine wl_store (cs':=[.bool p0_a.Final,.int .i64 p0_a.Many,.slice a28 n29 c30]) (v:=.agg #[.bool p0_a.Final,.int .i64 p0_a.Many,.slice a28 n29 c30]) wn tf78 u u u (by simp [Value.cells,Value.oneCell']) hS37 u u ?_
 intro w38 hS39
 refine nq ?_
 refine wc_ret ?_
 obtain rfl:=oi h24
 have hS40:SH _ _ _ _ _ [_]:=SH.sublist hS39 (.cons _ (.cons _ (.cons_cons _ (.cons _ .slnil))))
 exact qe_ret (vs:=[_]) Try.results52 ⟨⟨_,_,u,run_loadVar_at tf78 (cs:=[.bool p0_a.Final,.int .i64 p0_a.Many,.slice a28 n29 c30]) (fun j c e=>by rw [Nat.zero_add,hS39.mem_obj (.head _)];exact e) (.inl ⟨u,u,u⟩)⟩,trivial⟩ ⟨a28,n29,c30,K25,B25,u,hS40,hr1,(SliceAt.mono (only_mono (KLe.refl _) fun _ h=>h) hs31)⟩

theorem bag_laws_toStateS (F:Nat){w:World}{K:KMap}{a1:Option Addr}{n2 c3:Nat}{p0_a:List GState}{r:(List GState)}(hS:SH w K [] w K [])(hs4:SliceAt tGState K a1 n2 c3 p0_a)(hm:M.laws_toStateS F p0_a=some r):
  Calls Try.prog 18 #[.slice a1 n2 c3] w fun e w'=>∃(a_1:Option Addr) (n_2 c_3:Nat) (K':KMap) (B':List Nat),e= .returned (.slice a_1 n_2 c_3)∧SH w K [] w' K' [bag B']∧SliceAt tGState (K'.only B') a_1 n_2 c_3 r:=by
 rw [M.laws_toStateS] at hm
 refine calls_in Try.func18 u Try.ntmps18 u ?_
 refine sr ?_
 refine wl_val wn u (rv_assign (v:=.slice none 0 0) u) ?_
 refine nr ?_
 refine vm u u ?_
 refine wl_val wn u (rv_len (t:=tGState) Try.underlying33 u hs4) ?_
 obtain⟨x5,hx6,h7⟩:=ob hm
 refine wl_make (t:=Ty.fix tGState (K.only [])) wn u Try.underlying37 tf78 u u u hx6 ⟨none,0,0,u,d_0,(SliceAt.nil _ _)⟩ hS ?_
 intro g8 cs9 w10 hmx13 hrow11 hS12
 obtain⟨m14,hm15⟩: ∃m,m=x5.length:=⟨_,u⟩
 rw [←hm15] at hmx13
 rw [←hm15]
 refine va u u ?_
 refine nsr ?_
 refine wl_val wn u (rv_assign (v:=.int .i64 0) u) ?_
 refine nq ?_
 obtain⟨o16,h17,h18⟩:=ob h7
 refine wc_cutg (fun E' w'=>∃(cs23:List Value) (K19:KMap) (B19:List Nat),E'=[(3,.slice (some ⟨g8,0,none⟩) m14 m14)]∧SH w K [] w' K19 [obj g8 cs23 78,bag B19]∧KLe K K19∧RowAt true tGState (K19.only B19) cs23 o16∧m14=o16.length) ?_ ?_
 ·refine wc_block ?_
  obtain⟨r27,h28,h29⟩:=ob h17
  refine wc_while' (fun (s26:Int×(List GState)) E' w'=>∃(cs36:List Value) (K30:KMap) (B30:List Nat),E'=[(0,.slice a1 n2 c3),(3,.slice (some ⟨g8,0,none⟩) m14 m14),(4,.int .i64 s26.1)]∧SH w K [] w' K30 [obj g8 cs36 78,bag B30]∧KLe K K30∧rng64 s26.1∧RowAt true tGState (K30.only B30) cs36 s26.2∧m14=s26.2.length) h28 ⟨cs9,K,[],u,(SH.perm (SH.bag0 hS12) (List.Perm.swap _ _ _)),(KLe.refl _),d_0,hrow11,hm15⟩ ⟨u,u,u,trivial⟩ ?_
  rintro s26 _ w33 r39 h40 hx41 ⟨cs36,K30,B30,rfl,hS34,hl31,hr35,hrow37,hm38⟩
  refine wc_seq ?_
  refine sr ?_
  refine vm u u ?_
  refine vm u u ?_
  refine wl_val wn u (rv_len (t:=tGState) Try.underlying33 u (SliceAt.mono hl31 hs4)) ?_
  refine wl_val wn u (rv_lss u u) ?_
  refine nq ?_
  refine wc_cond u (fun hb42=>?_) (fun hb42=>?_)
  ·have h43:=cond_t hb42 h40
   refine wc_skip ?_
   refine qs ?_
   refine wc_block ?_
   refine wc_region ?_
   refine vm u u ?_
   refine vm u u ?_
   refine vm u u ?_
   refine vm u u ?_
   obtain⟨x44,hx45,h46⟩:=ob h43
   refine wl_indexAddr (t:=tGState) wn u Try.underlying33 tf71 u u (SliceAt.mono hl31 hs4) hx45 ?_
   intro b47 o48 u49 hu50 ha51
   obtain⟨a53,n54,c55,rfl,hr52,hs56⟩:=hu50
   have ha57:AtK _ b47 o48 [.bool x44.Final,.int .i64 x44.Many,.slice a53 n54 c55]:=ha51
   refine wl_val wn u (rv_loadS (cs:=[.bool x44.Final,.int .i64 x44.Many,.slice a53 n54 c55]) tf71 u hS34 ha57 u) ?_
   obtain⟨r58,hx59,h60⟩:=ob h46
   refine wl_call wn u (rt_call (vs:=[.agg #[.bool x44.Final,.int .i64 x44.Many,.slice a53 n54 c55]]) co52 u) ((bag_laws_toState F) hS34.enter0 hr52 hs56 hx59) ?_
   rintro e69 w62 ⟨a65,n66,c67,K61,B61,rfl,hS63,hr64,hs68⟩
   refine⟨_,u,?_⟩
   have hS70:SH _ _ _ _ _ [_,_]:=SH.bagJoin (SH.perm (SH.call0 hS34 hS63) (List.Perm.cons _ (List.Perm.swap _ _ _)))
   obtain⟨x71,hx72,h73⟩:=ob h60
   obtain⟨u74,hu75,hk76⟩:=RowAt.at (RowAt.mono (only_mono hS63.le fun _ h=>h) hrow37) hx72
   obtain⟨a79,n80,c81,rfl,hr78,hs82⟩:=hu75
   have hk77: ∀(j:Nat) (d:Value),[.bool x71.Final,.int .i64 x71.Many,.slice a79 n80 c81][j]? =some d→cs36[s26.1.toNat*tGState.size+j]? =some d:=hk76
   refine wl_val wn u (rv_indexRow (t:=tGState) Try.underlying37 tf78 u u hm38 hx72) ?_
   have hS83:SH _ _ _ _ _ [_,_]:=SH.front (p:=[_]) hS70
   refine wl_storeRow (t:=Ty.fix tGState (K61.only (B61++B30))) (v:=.agg #[.bool r58.Final,.int .i64 r58.Many,.slice a65 n66 c67]) (e:=r58) wn tf78 u u ⟨a65,n66,c67,u,hr64,(SliceAt.mono (only_mono (KLe.refl _) fun _ h=>List.mem_append_left _ h) hs68)⟩ hS83 (show RowAt true tGState (K61.only (B61++B30)) _ _ from RowAt.mono (only_mono hS63.le fun _ h=>List.mem_append_right _ h) hrow37) hx72 ?_
   intro cs84 w85 hrow86 hS87
   have hm88:=hm38.trans (List.length_set (i:=s26.1.toNat) (a:=r58)).symm
   refine nb ?_
   refine qe_seq ?_
   refine wc_region ?_
   refine vm u u ?_
   refine wl_val wn u (rv_add u u) ?_
   refine va u u ?_
   refine wl_nil ?_
   obtain rfl:=oi h73
   have hS89:=hS87
   exact qe_mid' ⟨_,u,cs84,K61,(B61++B30),u,hS89,(hl31.trans hS63.le),(w64_rng _),hrow86,hm88⟩ ⟨u,u,u,trivial⟩
  ·have h43:=cond_f hb42 h40
   refine wc_exit ?_
   refine qe_then_exit ?_
   refine qe_then_exit ?_
   obtain rfl:=oi h43
   have e90:=hx41 _ u
   subst e90
   refine qe_block_eq ?_
   obtain rfl:=oi h29
   exact qe_mid' ⟨cs36,K30,B30,u,hS34,hl31,hrow37,hm38⟩ ⟨u,trivial⟩
 ·rintro _ w21 ⟨cs23,K19,B19,rfl,hS22,hl20,hrow24,hm25⟩
  refine qr ?_
  refine vm u u ?_
  refine va u u ?_
  refine nq ?_
  refine wc_ret ?_
  obtain⟨K91,hl92,hs93,hS94⟩:=SH.freeze (t:=Ty.fix tGState (K19.only B19)) hS22 hrow24 (row_max hm25 hmx13)
  rw [←hm25] at hs93 hS94
  obtain rfl:=oi h18
  obtain⟨Bz,hSz,hBz⟩:=SH.bagTail hS94
  exact qe_ret (vs:=[_]) Try.results18 ⟨u,trivial⟩ ⟨(some ⟨g8,0,none⟩),m14,m14,K91,(Bz++B19),u,SH.bagJoin hSz,SliceAt.unfix hs93 (only_mono hl92 fun _ h=>List.mem_append_right _ h) (fun hc b o e=>List.mem_append_left _ (hBz hc b o e))⟩

theorem ok_impl_within {q0:Int}{q1:Int}{q2:Int}{r:Bool}(hS:SH w K [] w K [])(c:rng64 q0)(d:rng64 q1)(f:rng64 q2)(hm:M.impl_within F q0 q1 q2=some r):
  Calls prog 43 #[V6 q0,V6 q1,V6 q2] w (R_b w K r):=by
 rw [M.impl_within] at hm
 refine ci func43 u ntmps43 (sr (lv (r_f u) (nr (mv u (mv u (lv (rv_geq u u) (mv u (bt hm (fun a b=>?_) (fun a b=>?_)))))))))
 ·refine lg a (rv_move u) (lg a (rv_move u) (lg a (rv_leq u u) (lv (rv_pick_t u a u) (av u (nq (wc_ret ?_))))))
  cases oi b
  exact ey results43 ⟨K,u,hS⟩
 refine lu a (lu a (lu a (lv (p_f u a u) (av u (nq (wc_ret ?_))))))
 cases oi b
 exact ey results43 ⟨K,u,hS⟩

theorem ok_impl_wordByte {q0:UInt8}{r:Bool}(hS:SH w K [] w K [])(hm:M.impl_wordByte F q0=some r):
  Calls prog 131 #[iv8 q0] w (R_b w K r):=by
 rw [M.impl_wordByte] at hm
 refine ci func131 u ntmps131 (sr (lv (r_f u) (nr (mv u (lv (rv_bge (b:=(97:UInt8)) u u) (mv u (bt hm (fun c i=>?_) (fun c i=>?_))))))))
 ·refine lg c (rv_move u) (lg c (rv_ble (b:=(122:UInt8)) u u) (lv (rv_pick_t u c u) (mv u (bt i (fun a k=>?_) (fun a k=>?_)))))
  ·refine lu a (lu a (lu a (wl_un (uu u u) u (wl_un (uu u u) u (lu a (lv (p_t u a u) (av u (nq (wc_ret ?_)))))))))
   cases oi k
   exact ey results131 ⟨K,u,hS⟩
  refine lg a (rv_move u) (lg a (rv_bge (b:=(48:UInt8)) u u) (lg a (rv_move u) (bt k (fun d l=>?_) (fun d l=>?_))))
  ·refine lg d (rv_move u) (lg d (rv_ble (b:=(57:UInt8)) u u) (lg a (rv_pick_t u d u) (lv (rv_pick_f u a u) (av u (nq (wc_ret ?_))))))
   cases oi l
   exact ey results131 ⟨K,u,hS⟩
  refine lu d (lu d (lg a (p_f u d u) (lv (rv_pick_f u a u) (av u (nq (wc_ret ?_))))))
  cases oi l
  exact ey results131 ⟨K,u,hS⟩
 refine lu c (lu c (lv (p_f u c u) (mv u (lg u (rv_move u) (lg u (rv_bge (b:=(48:UInt8)) u u) (lg u (rv_move u) (bt i (fun f m=>?_) (fun f m=>?_))))))))
 ·refine lg f (rv_move u) (lg f (rv_ble (b:=(57:UInt8)) u u) (lg u (rv_pick_t u f u) (lv (rv_pick_f u u u) (av u (nq (wc_ret ?_))))))
  cases oi m
  exact ey results131 ⟨K,u,hS⟩
 refine lu f (lu f (lg u (p_f u f u) (lv (rv_pick_f u u u) (av u (nq (wc_ret ?_))))))
 cases oi m
 exact ey results131 ⟨K,u,hS⟩

theorem ok_impl_WordOk {q0:Str}{r:Bool}(hS:SH w K [] w K [])(f:q0.length≤maxLen)(hm:M.impl_WordOk F q0=some r):
  Calls prog 111 #[sv q0] w (R_b w K r):=by
 rw [M.impl_WordOk] at hm
 refine ci func111 u ntmps111 (sr (lv (r_f u) (nsr (mv u (lv (rv_slen underlying9 u) (lv (r_m u) (nq ?_)))))))
 obtain⟨y,A,a⟩:=ob hm
 refine wc_cutg (IE y w K [] K [(0,sv q0)] []) ?_ ?_
 ·refine wc_block ?_
  obtain⟨Y,B,i⟩:=ob A
  refine qf (fun (k:Nat) (l:Unit)=>IV w K [] K [(0,sv q0),(5,V6 (q0.length:Int)),(6,V6 ((k:Nat):Int))] []) B ⟨K,u,hS,kr⟩ ?_ ?_
  ·rintro k l _ C aa hi21 D G ⟨m,rfl,b,c⟩
   refine sr (lv (rv_lss u u) (ns (wc_cond_t u (decide_eq_true (by omega)) (wc_skip (qe_seq (wc_seq (wc_block (sr (mv u (av u (nr (mv u ?_))))))))))))
   refine mv u ?_
   obtain⟨ab,H,I⟩:=ob D
   refine lv (rv_sidx underlying9 u u H) ?_
   obtain⟨ac,J,O⟩:=ob I
   refine lk co131 (ok_impl_wordByte F b.enter0 J) ?_
   rintro ad ae ⟨o,rfl,q⟩
   have s:=(b.c0 q).t0
   refine lv (rv_not u) (nq (wcc O u (fun R d=>?_) (fun R d=>?_)))
   ·refine sr (lv (r_f u) (nq (wc_ret (qe_block_ret (qe_then_ret (qe_then_ret ?_))))))
    cases oi d
    cases G _ u
    refine qe_block_ret (qe_then_ret ?_)
    cases oi i
    refine qe_then_ret ?_
    cases oi a
    exact ey results111 ⟨o,u,s⟩
   refine wc_skip (qe_block (qg (lv (rv_add_to u u (w64_succ hi21 f)) (mv u (wl_nil ?_)))))
   cases oi d
   exact qd ⟨_,u,o,u,s,(c.trans q.le)⟩
  rintro l _ C S ⟨m,rfl,b,c⟩
  subst S
  refine sr (lv (rv_lss u u) (ns (wc_cond_f u (decide_eq_false (by omega)) (wc_exit (qe_then_exit (qe_then_exit (qe_block_eq ?_)))))))
  cases oi i
  exact qd ⟨_,m,u,u,b,c⟩
 rintro _ w9 ⟨s5,K6,rfl,rfl,x,ai⟩
 have a:=elim_l a
 refine qr (mv u (lv (rv_slen underlying9 u) ?_))
 obtain⟨aj,T,U⟩:=ob a
 refine lk co43 (ok_impl_within F x.enter0 (rng_nat f) (by decide :rng64 1) (by decide :rng64 12) T) ?_
 rintro ak al ⟨V,rfl,W⟩
 have X:=(x.c0 W).t0
 refine av u (nq (wc_ret ?_))
 cases oi U
 exact ey results111 ⟨V,u,X⟩

theorem ok_impl_wordsAscend {q0:List Str}{r:Bool}(hS:SH w K [] w K [])(l:SliceAt tStr K A a b q0)(hm:M.impl_wordsAscend F q0=some r):
  Calls prog 92 #[V3 A a b] w (R_b w K r):=by
 rw [M.impl_wordsAscend] at hm
 refine ci func92 u ntmps92 (sr (lv (r_f u) (nsr (mv u (lv (rv_len underlying35 u l) (lv (r_m u) (nq ?_)))))))
 obtain⟨J,O,m⟩:=ob hm
 refine wc_cutg (IE J w K [] K [] []) ?_ ?_
 ·refine wc_block ?_
  obtain⟨aA,R,D⟩:=ob O
  refine qf (fun (q:Nat) (G:Unit)=>IV w K [] K [(0,V3 A a b),(5,V3 A a b),(6,V6 (q0.length:Int)),(7,V6 ((q:Nat):Int))] []) R ⟨K,u,hS,kr⟩ ?_ ?_
  ·rintro q G _ S aB hi23 T U ⟨s,rfl,f,i⟩
   refine sr (lv (rv_lss u u) (ns (wc_cond_t u (decide_eq_true (by omega)) (wc_skip (qe_seq (wc_seq (wc_block (sr (mv u ?_)))))))))
   obtain⟨V,W,X⟩:=ob T
   refine li underlying35 tf9 (l.mono i) W fun Y aa aC ab ac=>?_
   obtain⟨rfl,ad⟩:=ab
   have ae:AtK _ Y aa [sv V]:=ac
   refine lv (rv_load1 tf9 u f (ae 0 _ u)) (av u (av u (ns ?_)))
   obtain⟨af,ag,ah⟩:=ob X
   refine wc_cutg (IV w K [] s [(0,V3 A a b),(5,V3 A a b),(6,V6 (q0.length:Int)),(7,V6 ((q:Nat):Int)),(27,.bool af)] []) ?_ ?_
   ·refine wc_region (mv u ?_)
    obtain⟨aD,ai,aj⟩:=ob ag
    refine lk co111 (ok_impl_WordOk F f.enter0 ad ai) ?_
    rintro aE aF ⟨x,rfl,k⟩
    have o:=(f.c0 k).t0
    refine lv (rv_not u) (mv u (bt aj (fun c y=>?_) (fun c y=>?_)))
    ·refine lu c (lu c (lu c (wl_un (uu u u) u (wl_un (uu u u) u (wl_un (uu u u) u (wl_un (uu u u) u (wl_un (uu u u) u (wl_un (uu u u) u (wl_un (uu u u) u ?_)))))))))
     refine lu c (lv (p_t u c u) (wl_nil ?_))
     cases oi y
     exact qd ⟨x,u,o,k.le⟩
    refine lg c (rv_move u) (lg c (rv_gtr u u) (lg c (rv_move u) (bt y (fun d B=>?_) (fun d B=>?_))))
    ·refine lg d (rv_move u) (lg d (rv_move u) (lg d (rv_sub u u) ?_))
     obtain⟨ak,al,am⟩:=ob B
     refine wl_indexAddr (t:=tStr) (wg u u d) u underlying35 tf9 u u (l.mono (i.trans k.le)) al fun an ao aG ap aq=>?_
     obtain⟨rfl,aH⟩:=ap
     have ar:AtK _ an ao [sv ak]:=aq
     refine lg d (rv_load1 tf9 u o (ar 0 _ u)) (lg d (rv_move u) (lg d (rv_sgeq u u) (lg c (rv_pick_t u d u) (lv (rv_pick_f u c u) (wl_nil ?_)))))
     cases oi am
     exact qd ⟨x,u,o,k.le⟩
    iterate 7 refine lu d ?_
    refine lg c (p_f u d u) (lv (rv_pick_f u c u) (wl_nil ?_))
    cases oi B
    exact qd ⟨x,u,o,k.le⟩
   rintro _ aI ⟨H,rfl,I,au⟩
   refine qe_seq (wcc ah u (fun aw C=>?_) (fun aw C=>?_))
   ·refine sr (lv (r_f u) (nq (wc_ret (qe_block_ret (qe_then_ret (qe_then_ret ?_))))))
    cases oi C
    cases U _ u
    refine qe_block_ret (qe_then_ret ?_)
    cases oi D
    refine qe_then_ret ?_
    cases oi m
    exact ey results92 ⟨H,u,I⟩
   refine wc_skip (qe_block (qg (lv (rv_add_to u u (w64_succ hi23 (SliceAt.max l))) (mv u (wl_nil ?_)))))
   cases oi C
   exact qd ⟨_,u,H,u,I,(i.trans au)⟩
  rintro G _ S ax ⟨s,rfl,f,i⟩
  subst ax
  refine sr (lv (rv_lss u u) (ns (wc_cond_f u (decide_eq_false (by omega)) (wc_exit (qe_then_exit (qe_then_exit (qe_block_eq ?_)))))))
  cases oi D
  exact qe_mid' ⟨_,s,u,u,f,i⟩ trivial
 rintro _ aJ ⟨s8,K9,rfl,rfl,az,aL⟩
 have m:=elim_l m
 refine qr (lv (r_t u) (nq (wc_ret ?_)))
 cases oi m
 exact ey results92 ⟨K9,u,az⟩

theorem ok_impl_WordsUp {q0:List Str}{r:Bool}(hS:SH w K [] w K [])(f:SliceAt tStr K A a b q0)(hm:M.impl_WordsUp F q0=some r):
  Calls prog 60 #[V3 A a b] w (R_b w K r):=by
 rw [M.impl_WordsUp] at hm
 refine ci func60 u ntmps60 (sr (lv (r_f u) (nr (mv u (lv (rv_len underlying35 u f) (lv (rv_leq u u) (mv u (bt hm (fun c d=>?_) (fun c d=>?_)))))))))
 ·refine lg c (rv_move u) ?_
  obtain⟨q,i,k⟩:=ob d
  refine wl_call (wg u u c) u (rt_call (vs:=[V3 A a b]) co92 u) (ok_impl_wordsAscend F hS.enter0 f i) ?_
  rintro s x ⟨l,rfl,m⟩
  refine⟨_,u,?_⟩
  have o:=(hS.c0 m).t0
  refine lv (rv_pick_t u c u) (av u (nq (wc_ret ?_)))
  cases oi k
  exact ey results60 ⟨l,u,o⟩
 refine lu c (lu c (lv (p_f u c u) (av u (nq (wc_ret ?_)))))
 cases oi d
 exact ey results60 ⟨K,u,hS⟩

theorem ok_slices_Equal_Arc {q0:List GArc}{q1:List GArc}{r:Bool}(hS:SH w K [] w K [])(i:SliceAt tGArc K A a b q0)(y:SliceAt tGArc K B c d q1)(hm:M.slices_Equal_Arc F q0 q1=some r):
  Calls prog 108 #[V3 A a b,V3 B c d] w (R_b w K r):=by
 rw [M.slices_Equal_Arc] at hm
 refine ci func108 u ntmps108 (sr (lv (r_f u) (nsr (mv u (lv (rv_len underlying76 u i) (mv u (lv (rv_len underlying76 u y) (lv (rv_neq u u) (nq ?_)))))))))
 refine wc_cond u (fun o=>?_) (fun o=>?_)
 ·have q:=cond_t o hm
  refine sr (lv (r_f u) (nq (rr ?_)))
  cases oi q
  exact ey results108 ⟨K,u,hS⟩
 have q:=cond_f o hm
 refine wc_skip (qs (sr (mv u (lv (rv_len underlying76 u i) (lv (r_m u) (nq ?_))))))
 obtain⟨O,R,k⟩:=ob q
 refine wc_cutg (IE O w K [] K [] []) ?_ ?_
 ·refine wc_block ?_
  obtain⟨aq,S,C⟩:=ob R
  refine qf (fun (D:Nat) (G:Unit)=>IV w K [] K [(0,V3 A a b),(1,V3 B c d),(12,V6 (q0.length:Int)),(13,V6 ((D:Nat):Int))] []) S ⟨K,u,hS,kr⟩ ?_ ?_
  ·rintro D G _ T ar hi29 U V ⟨H,rfl,s,f⟩
   refine sr (lv (rv_lss u u) (ns (wc_cond_t u (decide_eq_true (by omega)) (wc_skip (qe_seq (wc_seq (wc_block (sr (mv u (av u (ns (wc_quiet mixed (by kernel_rfl) s ?_))))))))))))
   refine km u (km u ?_)
   obtain⟨l,W,X⟩:=ob U
   refine ki underlying76 tf116 (i.mono f) W fun Y aa au ab ac=>?_
   obtain⟨rfl,aw⟩:=ab
   have ad:AtK _ Y aa [iv8 l.Byte,V6 l.To]:=ac
   refine kh (rq_loadS tf116 u ad u) (km u (km u ?_))
   obtain⟨m,ae,af⟩:=ob X
   refine ki underlying76 tf116 (y.mono f) ae fun ag ah ax ai aj=>?_
   obtain⟨rfl,ay⟩:=ai
   have ak:AtK _ ag ah [iv8 m.Byte,V6 m.To]:=aj
   refine kh (rq_loadS tf116 u ak u) (kv (rv_neS eqg116 u u (eqs116 l.Byte l.To m.Byte m.To)) (wq_nil ?_))
   rintro az ⟨I,J,al⟩
   refine qe_seq (wcc af u (fun am x=>?_) (fun am x=>?_))
   ·refine sr (lv (r_f u) (nq (wc_ret (qe_block_ret (qe_then_ret (qe_then_ret ?_))))))
    cases oi x
    cases V _ u
    refine qe_block_ret (qe_then_ret ?_)
    cases oi C
    refine qe_then_ret ?_
    cases oi k
    exact ey results108 ⟨I,u,J⟩
   refine wc_skip (qe_block (qg (lv (rv_add_to u u (w64_succ hi29 (SliceAt.max i))) (mv u (wl_nil ?_)))))
   cases oi x
   exact qd ⟨_,u,I,u,J,(f.trans al)⟩
  rintro G _ T an ⟨H,rfl,s,f⟩
  subst an
  refine sr (lv (rv_lss u u) (ns (wc_cond_f u (decide_eq_false (by omega)) (wc_exit (qe_then_exit (qe_then_exit (qe_block_eq ?_)))))))
  cases oi C
  exact qe_mid' ⟨_,H,u,u,s,f⟩ trivial
 rintro _ aA ⟨aB,ao,rfl,rfl,ap,aC⟩
 have k:=elim_l k
 refine qr (lv (r_t u) (nq (wc_ret ?_)))
 cases oi k
 exact ey results108 ⟨ao,u,ap⟩

theorem ok_impl_sameState {q0:GState}{q1:GState}{r:Bool}(hS:SH w K [] w K [])(R:rng64 q0.Many)(o:SliceAt tGArc K A a b q0.Arcs)(S:rng64 q1.Many)(q:SliceAt tGArc K B c d q1.Arcs)(hm:M.impl_sameState F q0 q1=some r):
  Calls prog 87 #[.agg #[.bool q0.Final,V6 q0.Many,V3 A a b],.agg #[.bool q1.Final,V6 q1.Many,V3 B c d]] w (R_b w K r):=by
 rw [M.impl_sameState] at hm
 refine ci func87 u ntmps87 (sr (bx u hS fun s T x=>?_))
 have y:SH _ _ _ _ _ [obj s [.bool q0.Final,V6 q0.Many,V3 A a b] 78]:=x
 refine bx u y fun C U D=>?_
 have f:SH _ _ _ _ _ [obj C [.bool q1.Final,V6 q1.Many,V3 B c d] 78,_]:=D
 refine lv (r_f u) (nr (fl ff78_0 u tf4 m1 f u (fl ff78_0 u tf4 m0 f u (lv (rv_booleq underlying4 u u) (mv u (bt hm (fun i l=>?_) (fun i l=>?_)))))))
 ·refine lg i (rv_fieldAddr ff78_1 u) (lg i (rv_loadm1 tf3 u m1 f u) (lg i (rv_fieldAddr ff78_1 u) (lg i (rv_loadm1 tf3 u m0 f u) (lg i (rv_eql u u) (lv (rv_pick_t u i u) (mv u (bt l (fun k m=>?_) (fun k m=>?_))))))))
  ·refine lg k (rv_fieldAddr ff78_2 u) (lg k (rv_loadm1 tf76 u m1 f u) (lg k (rv_fieldAddr ff78_2 u) (lg k (rv_loadm1 tf76 u m0 f u) ?_)))
   obtain⟨V,G,H⟩:=ob m
   refine wl_call (wg u u k) u (rt_call (vs:=[V3 A a b,V3 B c d]) co108 u) (ok_slices_Equal_Arc F f.enter0 o q G) ?_
   rintro W X ⟨I,rfl,J⟩
   refine⟨_,u,?_⟩
   have O:=(f.c0 J).t2
   refine lv (rv_pick_t u k u) (av u (nq (wc_ret ?_)))
   cases oi H
   exact ey results87 ⟨I,u,O.s⟩
  iterate 5 refine lu k ?_
  refine lv (p_f u k u) (av u (nq (wc_ret ?_)))
  cases oi m
  exact ey results87 ⟨K,u,f.s⟩
 iterate 5 refine lu i ?_
 refine lv (p_f u i u) (mv u ?_)
 iterate 5 refine lu u ?_
 refine lv (p_f u u u) (av u (nq (wc_ret ?_)))
 cases oi l
 exact ey results87 ⟨K,u,f.s⟩

theorem ok_impl_dawg_put (F:Nat): ∀{w:World} {K:KMap} {g1:Nat} {a:Option Addr} {b c:Nat} {a6:Option Addr} {n7 c8:Nat} {q0:GDawg} {q1:List Str} {r:Int×GDawg} (hS:SH w K (List.flatMap Item.gs [obj g1 [V3 a b c] 90,tail (V3 a b c) 78 3]) w K [obj g1 [V3 a b c] 90,tail (V3 a b c) 78 3]) (bD:SliceAt tGState K a b c q0.states_) (I:SliceAt tStr K a6 n7 c8 q1) (hm:M.impl_dawg_put F q0 q1=some r),
  Calls prog 61 #[.pointer (some ⟨g1,0,none⟩),V3 a6 n7 c8] w fun e w'=>∃a_2 n_3 c_4 K',e= .returned (V6 r.1)∧SH w K (List.flatMap Item.gs [obj g1 [V3 a b c] 90,tail (V3 a b c) 78 3]) w' K' [obj g1 [V3 a_2 n_3 c_4] 90,tail (V3 a_2 n_3 c_4) 78 3]∧rng64 r.1∧SliceAt tGState K' a_2 n_3 c_4 r.2.states_:=by
 induction F with
 | zero=>intros;rename_i hm;rw [M.impl_dawg_put] at hm;cases hm
 | succ F ih=>
  intro w K g1 a b c a6 n7 c8 q0 q1 r hS bD I hm
  rw [M.impl_dawg_put] at hm
  refine ci func61 u ntmps61 (sr (lv (r_0 u) (nr (mv u (lv (rv_len underlying35 u I) (b0 tGArc underlying76 tf116 hS fun T eU aU aj bE cd=>(lv (rv_build (cs:=#[.bool false,V6 (q1.length:Int),V3 T 0 0]) sp78 tf78 u (by kernel_rfl)) (al tf78 cd fun d eV ce=>?_))))))))
  have cf:SH _ _ _ _ _ [obj d [.bool false,V6 0,V3 none 0 0] 78,_,_,_]:=ce
  refine lw [.bool false,V6 (q1.length:Int),V3 T 0 0] tf78 cf fun eW aV=>(ns (wc_seq ?_))
  obtain⟨cg,ch,cj⟩:=ob hm
  refine wc_cutg (IV w K (List.flatMap Item.gs [obj g1 [V3 a b c] 90,tail (V3 a b c) 78 3]) aU [(0,pt g1),(1,V3 a6 n7 c8),(5,pt d),(22,.bool cg)] [obj g1 [V3 a b c] 90,tail (V3 a b c) 78 3,obj d [.bool false,V6 (q1.length:Int),V3 T 0 0] 78,tail (V3 T 0 0) 116 2]) ?_ ?_
  ·refine wc_region (mv u (lv (rv_len underlying35 u (I.mono aj)) (lv (rv_gtr u u) (mv u (bt ch (fun x aW=>?_) (fun x aW=>?_))))))
   ·refine lg x (rv_move u) ?_
    obtain⟨ck,cl,cm⟩:=ob aW
    refine wl_indexAddr (t:=tStr) (wg u u x) u underlying35 tf9 u u (I.mono aj) cl fun cn cp eX cq cr=>?_
    obtain⟨rfl,eY⟩:=cq
    have ct:AtK _ cn cp [sv ck]:=cr
    refine lg x (rv_load1 tf9 u aV (ct 0 _ u)) (lg x (rv_seql (r:=([]:Str)) u u) (lv (rv_pick_t u x u) (wl_nil ?_)))
    cases oi cm
    exact qd ⟨aU,u,aV.f1.f1.f3.f3,kr⟩
   refine lu x (lu x (lu x (lu x (lv (p_f u x u) (wl_nil ?_)))))
   cases oi aW
   exact qd ⟨aU,u,aV.f1.f1.f3.f3,kr⟩
  rintro _ eZ ⟨aX,rfl,bF,ak⟩
  refine qe_seq ?_
  obtain⟨am,cu,cv⟩:=ob cj
  refine wc_cutg (fun E' w'=>∃ay az aA an ao ap J,E'=[(0,pt g1),(1,V3 ay az aA),(5,pt d)]∧SH w K (List.flatMap Item.gs [obj g1 [V3 a b c] 90,tail (V3 a b c) 78 3]) w' J [obj g1 [V3 a b c] 90,tail (V3 a b c) 78 3,obj d [.bool am.2.Final,V6 am.2.Many,V3 an ao ap] 78,tail (V3 an ao ap) 116 2]∧KLe aX J∧SliceAt tStr J ay az aA am.1∧rng64 am.2.Many∧SliceAt tGArc J an ao ap am.2.Arcs) ?_ ?_
  ·refine wcc cu u (fun cw aY=>?_) (fun cw aY=>?_)
   ·refine sr (fa ff78_0 u (ls [.bool true,V6 (q1.length:Int),V3 T 0 0] (.bool true) tf4 bF.f2 fun fb cx=>(nq (wc_region (mv u ?_)))))
    obtain⟨fc,cy,cz⟩:=ob aY
    refine wl_sl_l (t:=tStr) wn u underlying35 tf9 u u (I.mono (aj.trans ak)) cy fun cA cB cC cD=>(av u (wl_nil ?_))
    cases oi cz
    exact qd ⟨cA,cB,cC,T,0,0,aX,u,cx.f3.f1.f3.f3,kr,cD,I.rn,(bE.mono ak)⟩
   refine wc_skip ?_
   cases oi aY
   exact qd ⟨a6,n7,c8,T,0,0,aX,u,bF,kr,(I.mono (aj.trans ak)),I.rn,(bE.mono ak)⟩
  rintro _ fd ⟨ay,az,aA,an,ao,ap,J,rfl,cE,cF,cG,cH,cI⟩
  refine qs ?_
  obtain⟨f,cJ,cK⟩:=ob cv
  refine wc_cutg (fun E' w'=>∃y A B k l m O,E'=[(0,pt g1),(5,pt d)]∧SH w K (List.flatMap Item.gs [obj g1 [V3 a b c] 90,tail (V3 a b c) 78 3]) w' O [obj g1 [V3 y A B] 90,tail (V3 y A B) 78 3,obj d [.bool f.2.Final,V6 f.2.Many,V3 k l m] 78,tail (V3 k l m) 116 2]∧KLe J O∧SliceAt tGState O y A B f.1.states_∧rng64 f.2.Many∧SliceAt tGArc O k l m f.2.Arcs) ?_ ?_
  ·refine wc_block ?_
   obtain⟨fe,cL,cM⟩:=ob cJ
   refine qw (fun (i:(List Str)×GDawg×GState) E' w'=>∃aB aC aD C D G o q s U,E'=[(0,pt g1),(1,V3 aB aC aD),(5,pt d)]∧SH w K (List.flatMap Item.gs [obj g1 [V3 a b c] 90,tail (V3 a b c) 78 3]) w' U [obj g1 [V3 C D G] 90,tail (V3 C D G) 78 3,obj d [.bool i.2.2.Final,V6 i.2.2.Many,V3 o q s] 78,tail (V3 o q s) 116 2]∧KLe J U∧SliceAt tStr U aB aC aD i.1∧SliceAt tGState U C D G i.2.1.states_∧rng64 i.2.2.Many∧SliceAt tGArc U o q s i.2.2.Arcs) cL ⟨ay,az,aA,a,b,c,an,ao,ap,J,u,cE,kr,cG,(bD.mono ((aj.trans ak).trans cF)),cH,cI⟩ ?_
   rintro i _ fg fh cN cO ⟨aB,aC,aD,C,D,G,o,q,s,U,rfl,aZ,bG,ba,bH,bI,bJ⟩
   refine wc_seq (sr (mv u (lv (rv_len underlying35 u ba) (lv (rv_gtr u u) (nq (wcc cN u (fun cP bb=>?_) (fun cP bb=>?_)))))))
   ·refine wc_skip (qe_seq (wc_block (sr (mv u ?_))))
    obtain⟨cQ,cR,cS⟩:=ob bb
    refine li underlying35 tf9 ba cR fun cT cU fi cV cW=>?_
    obtain⟨rfl,fj⟩:=cV
    have cX:AtK _ cT cU [sv cQ]:=cW
    refine lv (rv_load1 tf9 u aZ (cX 0 _ u)) ?_
    obtain⟨V,cY,cZ⟩:=ob cS
    refine lv (rv_sidx underlying9 u u cY) (av u (nr (b0 tStr underlying35 tf9 aZ fun da fk bc aE db dc=>(av u (ns ?_)))))
    obtain⟨bK,dd,de⟩:=ob cZ
    refine wc_cutg (fun E' w'=>∃aF aG aH aI aJ aK ac,E'=[(0,pt g1),(1,V3 aF aG aH),(5,pt d),(6,iv8 V),(7,V3 aI aJ aK)]∧SH w K (List.flatMap Item.gs [obj g1 [V3 a b c] 90,tail (V3 a b c) 78 3]) w' ac [obj g1 [V3 C D G] 90,tail (V3 C D G) 78 3,obj d [.bool i.2.2.Final,V6 i.2.2.Many,V3 o q s] 78,tail (V3 o q s) 116 2,tail (V3 aI aJ aK) 9 1]∧KLe bc ac∧SliceAt tStr ac aF aG aH bK.1∧SliceAt tStr ac aI aJ aK bK.2) ?_ ?_
    ·refine wc_block ?_
     obtain⟨fm,df,dg⟩:=ob dd
     refine qw (fun (bd:(List Str)×(List Str)) E' w'=>∃aq ar au W X Y R,E'=[(0,pt g1),(1,V3 aq ar au),(5,pt d),(6,iv8 V),(7,V3 W X Y)]∧SH w K (List.flatMap Item.gs [obj g1 [V3 a b c] 90,tail (V3 a b c) 78 3]) w' R [obj g1 [V3 C D G] 90,tail (V3 C D G) 78 3,obj d [.bool i.2.2.Final,V6 i.2.2.Many,V3 o q s] 78,tail (V3 o q s) 116 2,tail (V3 W X Y) 9 1]∧KLe bc R∧SliceAt tStr R aq ar au bd.1∧SliceAt tStr R W X Y bd.2) df ⟨aB,aC,aD,da,0,0,bc,u,dc.f4.f4.f4.f4,kr,(ba.mono aE),db⟩ ?_
     rintro bd _ fn fo dh di ⟨aq,ar,au,W,X,Y,R,rfl,be,bL,aw,bM⟩
     refine wc_seq (wc_seq ?_)
     obtain⟨dj,dk,dl⟩:=ob dh
     refine wc_cutg (IV w K (List.flatMap Item.gs [obj g1 [V3 a b c] 90,tail (V3 a b c) 78 3]) R [(0,pt g1),(1,V3 aq ar au),(5,pt d),(6,iv8 V),(7,V3 W X Y),(44,.bool dj)] [obj g1 [V3 C D G] 90,tail (V3 C D G) 78 3,obj d [.bool i.2.2.Final,V6 i.2.2.Many,V3 o q s] 78,tail (V3 o q s) 116 2,tail (V3 W X Y) 9 1]) ?_ ?_
     ·refine wc_region (mv u (lv (rv_len underlying35 u aw) (lv (rv_gtr u u) (mv u (bt dk (fun H bf=>?_) (fun H bf=>?_))))))
      ·refine lg H (rv_move u) ?_
       obtain⟨dm,dn,dp⟩:=ob bf
       refine wl_indexAddr (t:=tStr) (wg u u H) u underlying35 tf9 u u aw dn fun dq dr fp dt du=>?_
       obtain⟨rfl,fq⟩:=dt
       have dv:AtK _ dq dr [sv dm]:=du
       refine lg H (rv_load1 tf9 u be (dv 0 _ u)) ?_
       obtain⟨fr,dw,dx⟩:=ob dp
       refine lg H (rv_sidx underlying9 u u dw) (lg H (rv_move u) (lg H (rv_beq u u) (lv (rv_pick_t u H u) (wl_nil ?_))))
       cases oi dx
       exact qd ⟨R,u,be,kr⟩
      iterate 6 refine lu H ?_
      refine lv (p_f u H u) (wl_nil ?_)
      cases oi bf
      exact qd ⟨R,u,be,kr⟩
     rintro _ fs ⟨dy,rfl,bg,aa⟩
     refine qe_seq (wcc dl u (fun dz bh=>?_) (fun dz bh=>?_))
     ·refine wc_skip (qe_seq (wc_block (sr (mv u (mv u ?_)))))
      obtain⟨dA,dB,dC⟩:=ob bh
      refine li underlying35 tf9 (aw.mono aa) dB fun dD dE ft dF dG=>?_
      obtain⟨rfl,dH⟩:=dF
      have dI:AtK _ dD dE [sv dA]:=dG
      refine lv (rv_load1 tf9 u bg (dI 0 _ u)) ?_
      obtain⟨bi,bN,dJ⟩:=ob dC
      refine lv (rv_ssl_l underlying9 u u bN) (lb tStr (sv bi) [sv bi] bi underlying35 tf9 ⟨u,(len_sub dH bN)⟩ bg fun fu fv fw bj dK dL=>?_)
      obtain⟨fx,dM,dN⟩:=ob dJ
      refine lp underlying35 tf9 (bM.mono (aa.trans bj)) dK dM dL.f5 fun dO dP dQ fy dR bO dS dT=>(av u (nq (wc_region (mv u ?_))))
      obtain⟨fz,dU,dV⟩:=ob dN
      refine wl_sl_l (t:=tStr) wn u underlying35 tf9 u u (aw.mono ((aa.trans bj).trans bO)) dU fun dW dX dY dZ=>(av u (nb ?_))
      cases oi dV
      exact qd ⟨_,u,dW,dX,dY,dO,dP,dQ,dR,u,dT.f5.f5.f5.f5.s,(((bL.trans aa).trans bj).trans bO),dZ,dS⟩
     refine wc_exit (qe_then_exit (qe_then_exit ?_))
     cases oi bh
     cases di _ u
     refine qe_block_eq ?_
     cases oi dg
     exact qd ⟨aq,ar,au,W,X,Y,dy,u,bg,(bL.trans aa),(aw.mono aa),(bM.mono aa)⟩
    rintro _ fA ⟨aF,aG,aH,aI,aJ,aK,ac,rfl,ea,bk,eb,ec⟩
    refine qe_seq ?_
    have bl:=ea.drew
    refine wh1 (fun w'=>Holds ac w') (fun w'=>HasObj d [.bool i.2.2.Final,V6 i.2.2.Many,V3 o q s] w') 10 [(1,8),(1,9),(1,10),(8,9),(8,10),(9,10)] mixed (bl.hasK kr) (fun _=>bl.hasObj (.tail _ (.tail _ (.head _)))) (gt (rv_fieldAddr ff78_2 u) (gf (fun _ h=>rh_loadm1 tf76 u u h) (gt (rv_move u) (gt (rv_move u) (gt (rv_move u) (gn ?_))))))
    obtain⟨aL,ed,ee⟩:=ob de
    have bP:=bl.f1.f1
    refine lk co61 (ih bP.e2 (bH.mono (aE.trans bk)) ec ed) ?_
    rintro fB fC ⟨ef,eg,eh,fD,rfl,S,ei,ej⟩
    have bm:=(bP.c2 S).t5
    refine wl_nil (qh (bm.hasK S.le) (fun _=>bm.hasObj (.tail _ (.tail _ (.head _)))) (gt (rv_build (cs:=#[iv8 V,V6 aL.1]) sp116 tf116 u (by kernel_rfl)) (gn (lb tGArc (.agg #[iv8 V,V6 aL.1]) [iv8 V,V6 aL.1] (GArc.mk V aL.1) underlying76 tf116 ⟨u,ei⟩ bm fun fE fF fG ab ek bn=>(wl_nil (qh (bn.hasK (S.le.trans ab)) (fun _=>bn.hasObj (.tail _ (.tail _ (.tail _ (.head _))))) (gn ?_)))))))
    obtain⟨fH,el,em⟩:=ob ee
    refine lp underlying76 tf116 (SliceAt.mono (((aE.trans bk).trans S.le).trans ab) bJ) ek el bn.f4 fun bo bp bq fI en ax eo br=>(wl_nil (qh (br.hasK ((S.le.trans ab).trans ax)) (fun _=>br.hasObj (.tail _ (.tail _ (.tail _ (.tail _ (.head _)))))) (gt (rv_fieldAddr ff78_2 u) (gn (ls [.bool i.2.2.Final,V6 i.2.2.Many,V3 bo bp bq] (V3 bo bp bq) tf76 br.f4 fun fJ bQ=>(wl_nil (qh (bQ.hasK ((S.le.trans ab).trans ax)) (fun h=>nomatch h) (gd' (qe_block ?_)))))))))
    cases oi em
    exact qd ⟨_,u,aF,aG,aH,ef,eg,eh,bo,bp,bq,en,u,bQ.f1.f1.f4.f4.s,(((((bG.trans aE).trans bk).trans S.le).trans ab).trans ax),(eb.mono ((S.le.trans ab).trans ax)),(ej.mono (ab.trans ax)),bI,eo⟩
   refine wc_exit (qe_then_exit (qe_then_exit ?_))
   cases oi bb
   cases cO _ u
   refine qe_block_eq ?_
   cases oi cM
   exact qd ⟨C,D,G,o,q,s,U,u,aZ,bG,bH,bI,bJ⟩
  rintro _ fK ⟨y,A,B,k,l,m,O,rfl,bR,fL,ad,bS,bT⟩
  refine qs (sr (mv u (lv (rv_nilCheck u) (fl ff90_0 u tf37 m0 bR u (lv (rv_len underlying37 u ad) (lv (r_m u) (nq ?_)))))))
  obtain⟨ep,eq,aM⟩:=ob cK
  refine wc_cutg (IE ep w K (List.flatMap Item.gs [obj g1 [V3 a b c] 90,tail (V3 a b c) 78 3]) O [(0,pt g1),(5,pt d)] [obj g1 [V3 y A B] 90,tail (V3 y A B) 78 3,obj d [.bool f.2.Final,V6 f.2.Many,V3 k l m] 78,tail (V3 k l m) 116 2]) ?_ ?_
  ·refine wc_block ?_
   obtain⟨fM,es,bU⟩:=ob eq
   refine qf (fun (bV:Nat) (bW:Unit)=>IV w K (List.flatMap Item.gs [obj g1 [V3 a b c] 90,tail (V3 a b c) 78 3]) O [(0,pt g1),(5,pt d),(67,V3 y A B),(68,V6 (f.1.states_.length:Int)),(69,V6 ((bV:Nat):Int))] [obj g1 [V3 y A B] 90,tail (V3 y A B) 78 3,obj d [.bool f.2.Final,V6 f.2.Many,V3 k l m] 78,tail (V3 k l m) 116 2]) es ⟨O,u,bR,kr⟩ ?_ ?_
   ·rintro bV bW _ et fN hi310 eu ev ⟨bX,rfl,aN,ae⟩
    refine sr (lv (rv_lss u u) (ns (wc_cond_t u (decide_eq_true (by omega)) (wc_skip (qe_seq (wc_seq (wc_block (sr (mv u ?_)))))))))
    obtain⟨af,ew,ex⟩:=ob eu
    refine li underlying37 tf78 (ad.mono ae) ew fun eA eB fO eC eD=>?_
    obtain⟨bs,bu,bv,rfl,eE,eF⟩:=eC
    have eG:AtK _ eA eB [.bool af.Final,V6 af.Many,V3 bs bu bv]:=eD
    refine lv (rv_loadS tf78 u aN eG u) (al tf78 aN fun eH fP eI=>?_)
    have eJ:SH _ _ _ _ _ [obj eH [.bool false,V6 0,V3 none 0 0] 78,_,_,_,_]:=eI
    refine av u (lw [.bool af.Final,V6 af.Many,V3 bs bu bv] tf78 eJ fun fQ aO=>(nr (lv (rv_loadmS (ds:=[.bool af.Final,V6 af.Many,V3 bs bu bv]) tf78 u m0 aO u u) (lv (rv_loadmS (ds:=[.bool f.2.Final,V6 f.2.Many,V3 k l m]) tf78 u m3 aO u u) ?_))))
    obtain⟨fR,eK,eL⟩:=ob ex
    refine lk co87 (ok_impl_sameState F aO.enter0 eE eF bS (bT.mono ae) eK) ?_
    rintro fS fT ⟨bY,rfl,bx⟩
    have bZ:=(aO.c0 bx).t5
    refine nq (wcc eL u (fun eM bz=>?_) (fun eM bz=>?_))
    ·refine sr (mv u (av u (nq (wc_ret (qe_block_ret (qe_then_ret (qe_then_ret ?_)))))))
     cases oi bz
     cases ev _ u
     refine qe_block_ret (qe_then_ret ?_)
     cases oi bU
     refine qe_then_ret ?_
     cases oi aM
     exact ey results61 ⟨y,A,B,bY,u,bZ.s,(rng_idx hi310 (SliceAt.max ad)),(ad.mono (ae.trans bx.le))⟩
    refine wc_skip (qe_block (qg (lv (rv_add_to u u (w64_succ hi310 (SliceAt.max ad))) (mv u (wl_nil ?_)))))
    cases oi bz
    exact qd ⟨_,u,bY,u,bZ.s,(ae.trans bx.le)⟩
   rintro bW _ et eN ⟨bX,rfl,aN,ae⟩
   subst eN
   refine sr (lv (rv_lss u u) (ns (wc_cond_f u (decide_eq_false (by omega)) (wc_exit (qe_then_exit (qe_then_exit (qe_block_eq ?_)))))))
   cases oi bU
   exact qd ⟨_,bX,u,u,aN,ae⟩
  rintro _ fU ⟨fV,eO,rfl,rfl,eP,ca⟩
  have aM:=elim_l aM
  refine qs ?_
  have aP:=eP.drew
  refine wh1 (fun w'=>Holds eO w'∧HasObj d [.bool f.2.Final,V6 f.2.Many,V3 k l m] w') (fun w'=>HasObj g1 [V3 y A B] w') 10 [(4,7),(4,8),(4,9),(4,10),(7,8),(7,9),(7,10),(8,9),(9,10)] mixed ⟨aP.hasK kr,aP.hasObj m2⟩ (fun _=>aP.hasObj (.head _)) (gt (rv_move u) (gt (rv_move u) (gt (rv_nilCheck u) (gt (rv_fieldAddr ff90_0 u) (gf (fun _ h=>rh_loadm1 tf37 u u h) (gh (fun _ h=>rh_loadmS (ds:=[.bool f.2.Final,V6 f.2.Many,V3 k l m]) tf78 u u u h.2) (gn (lb tGState (.agg #[.bool f.2.Final,V6 f.2.Many,V3 k l m]) [.bool f.2.Final,V6 f.2.Many,V3 k l m] f.2 underlying37 tf78 ⟨k,l,m,u,bS,(bT.mono ca)⟩ aP fun fW fX fY aQ eQ aR=>(wl_nil (qh ⟨aR.hasK aQ,aR.hasObj m3⟩ (fun _=>aR.hasObj (.tail _ (.head _))) ?_))))))))))
  refine gn ?_
  obtain⟨fZ,eR,eS⟩:=ob aM
  refine lp underlying37 tf78 (ad.mono (ca.trans aQ)) eQ eR aR.f2 fun bA bB bC ga eT cb cc aS=>(wl_nil (qh ⟨aS.hasK (aQ.trans cb),aS.hasObj m3⟩ (fun _=>aS.hasObj (.tail _ (.tail _ (.head _)))) (gt (rv_nilCheck u) (gt (rv_fieldAddr ff90_0 u) (gn (ls [V3 bA bB bC] (V3 bA bB bC) tf37 aS.f2 fun gb aT=>(wl_nil (qh ⟨aT.hasK (aQ.trans cb),aT.hasObj m3⟩ (fun h=>nomatch h) (gd' (qr (mv u ?_)))))))))))
  refine lv (rv_nilCheck u) (fl ff90_0 u tf37 m0 aT u (lv (rv_len underlying37 u cc) (lv (rv_sub u u) (av u (nq (wc_ret ?_))))))
  cases oi eS
  exact ey results61 ⟨bA,bB,bC,eT,u,aT.s,(w64_rng _),cc⟩

theorem ok_impl_DawgOf {q0:List Str}{r:(List GState)}(hS:SH w K [] w K [])(d:SliceAt tStr K A a b q0)(hm:M.impl_DawgOf F q0=some r):
  Calls prog 28 #[V3 A a b] w fun e w'=>∃a_1 n_2 c_3 K',e= .returned (V3 a_1 n_2 c_3)∧SH w K [] w' K' [tail (V3 a_1 n_2 c_3) 78 3]∧SliceAt tGState K' a_1 n_2 c_3 r:=by
 rw [M.impl_DawgOf] at hm
 refine ci func28 u ntmps28 (sr (lv (r_n u) (nsr (mv u ?_))))
 obtain⟨r5,o,q⟩:=ob hm
 refine lk co60 (ok_impl_WordsUp F hS.enter0 d o) ?_
 rintro ab w9 ⟨K8,rfl,f⟩
 have i:=(hS.c0 f).t0
 refine lv (rv_not u) (nq (wcc q u (fun s c=>?_) (fun s c=>?_)))
 ·refine sr (b0 tGState underlying37 tf78 i fun x ae y af B C=>(av u (nq (rr ?_))))
  cases oi c
  exact ey results28 ⟨x,0,0,y,u,C,B⟩
 refine wc_skip (qr (b0 tGState underlying37 tf78 i fun k ag ah D G H=>(lv (rv_build (cs:=#[V3 k 0 0]) sp90 tf90 u (by kernel_rfl)) (bx u H fun I ai J=>?_))))
 have O:SH _ _ _ _ _ [obj I [V3 k 0 0] 90,_]:=J
 refine av u (nr (mv u (mv u ?_)))
 obtain⟨aj,R,S⟩:=ob c
 have l:=O.f1.f1
 refine lk co61 ((ok_impl_dawg_put F (q0:=(GDawg.mk ([]:List GState)))) l.e2 G (d.mono (f.le.trans D)) R) ?_
 rintro ak al ⟨T,U,V,W,rfl,X,am,Y⟩
 have m:=(l.c2 X).t2
 refine nr (mv u (lv (rv_nilCheck u) (fl ff90_0 u tf37 m0 m u (av u (nq (wc_ret ?_))))))
 cases oi S
 exact ey results28 ⟨T,U,V,W,u,m.s,Y⟩

theorem ok_impl_lister_visit (F:Nat): ∀{w:World} {K:KMap} {g1:Nat} {d:Option Addr} {f i:Nat} {a:Option Addr} {b c:Nat} {q0:GLister} {q1:Int} {q2:Str} {r:GLister} (hS:SH w K (List.flatMap Item.gs [obj g1 [V3 d f i,V3 a b c,V6 q0.steps_,.bool q0.bad_] 121,tail (V3 a b c) 9 1]) w K [obj g1 [V3 d f i,V3 a b c,V6 q0.steps_,.bool q0.bad_] 121,tail (V3 a b c) 9 1]) (aF:SliceAt tGState K d f i q0.d_) (aG:SliceAt tStr K a b c q0.words_) (bk:rng64 q0.steps_) (bl:rng64 q1) (bb:q2.length≤maxLen) (hm:M.impl_lister_visit F q0 q1 q2=some r),
  Calls prog 85 #[.pointer (some ⟨g1,0,none⟩),V6 q1,sv q2] w fun e w'=>∃a_1 n_2 c_3 a_5 n_6 c_7 K',e= .returned (.tuple #[])∧SH w K (List.flatMap Item.gs [obj g1 [V3 d f i,V3 a b c,V6 q0.steps_,.bool q0.bad_] 121,tail (V3 a b c) 9 1]) w' K' [obj g1 [V3 a_1 n_2 c_3,V3 a_5 n_6 c_7,V6 r.steps_,.bool r.bad_] 121,tail (V3 a_5 n_6 c_7) 9 1]∧SliceAt tGState K' a_1 n_2 c_3 r.d_∧SliceAt tStr K' a_5 n_6 c_7 r.words_∧rng64 r.steps_:=by
 induction F with
 | zero=>intros;rename_i hm;rw [M.impl_lister_visit] at hm;cases hm
 | succ F ih=>
  intro w K g1 d f i a b c q0 q1 q2 r hS aF aG bk bl bb hm
  rw [M.impl_lister_visit] at hm
  refine ci func85 u ntmps85 (sr (mv u (lv (rv_nilCheck u) (fl ff121_2 u tf3 m0 hS u (lv (rv_add u u) (lv (rv_nilCheck u) (fa ff121_2 u (ls [V3 d f i,V3 a b c,V6 (w64 (q0.steps_+(1:Int))),.bool q0.bad_] (V6 (w64 (q0.steps_+(1:Int)))) tf3 hS fun cN aH=>(ns ?_)))))))))
  refine wc_seq ?_
  obtain⟨bm,bn,bo⟩:=ob hm
  refine wc_cutg (IV w K (List.flatMap Item.gs [obj g1 [V3 d f i,V3 a b c,V6 q0.steps_,.bool q0.bad_] 121,tail (V3 a b c) 9 1]) K [(0,pt g1),(1,V6 q1),(2,sv q2),(25,.bool bm)] [obj g1 [V3 d f i,V3 a b c,V6 (w64 (q0.steps_+(1:Int))),.bool q0.bad_] 121,tail (V3 a b c) 9 1]) ?_ ?_
  ·refine wc_region (mv u (lv (rv_nilCheck u) (fl ff121_2 u tf3 m0 aH u (lv (rv_gtr u u) (mv u (bt bn (fun y aI=>?_) (fun y aI=>?_)))))))
   ·refine lu y (lu y (lu y (lv (p_t u y u) (wl_nil ?_))))
    cases oi aI
    exact qd ⟨K,u,aH,kr⟩
   refine lg y (rv_move u) (lg y (rv_slen underlying9 u) (lg y (rv_gtr u u) (lv (rv_pick_f u y u) (wl_nil ?_))))
   cases oi aI
   exact qd ⟨K,u,aH,kr⟩
  rintro _ cO ⟨aJ,rfl,bc,ak⟩
  refine qe_seq ?_
  obtain⟨I,bp,bq⟩:=ob bo
  refine wc_cutg (fun E' w'=>∃J O R T U V A,E'=[(0,pt g1),(1,V6 q1),(2,sv q2)]∧SH w K (List.flatMap Item.gs [obj g1 [V3 d f i,V3 a b c,V6 q0.steps_,.bool q0.bad_] 121,tail (V3 a b c) 9 1]) w' A [obj g1 [V3 J O R,V3 T U V,V6 I.steps_,.bool I.bad_] 121,tail (V3 T U V) 9 1]∧KLe aJ A∧SliceAt tGState A J O R I.d_∧SliceAt tStr A T U V I.words_∧rng64 I.steps_) ?_ ?_
  ·refine wcc bp u (fun br aK=>?_) (fun br aK=>?_)
   ·refine wc_region (mv u (lv (rv_nilCheck u) (fa ff121_3 u (ls [V3 d f i,V3 a b c,V6 (w64 (q0.steps_+(1:Int))),.bool true] (.bool true) tf4 bc fun cP bs=>(wl_nil ?_)))))
    cases oi aK
    exact qd ⟨d,f,i,a,b,c,aJ,u,bs,kr,(aF.mono ak),(aG.mono ak),(w64_rng _)⟩
   refine wc_skip ?_
   cases oi aK
   exact qd ⟨d,f,i,a,b,c,aJ,u,bc,kr,(aF.mono ak),(aG.mono ak),(w64_rng _)⟩
  rintro _ cQ ⟨J,O,R,T,U,V,A,rfl,X,cR,am,aL,aM⟩
  refine qs (sr (mv u (lv (rv_nilCheck u) (fl ff121_3 u tf4 m0 X u (nq (wcc bq u (fun bu aN=>?_) (fun bu aN=>?_)))))))
  ·refine rr ?_
   cases oi aN
   exact qe_ret (vs:=[]) results85 trivial ⟨J,O,R,T,U,V,A,u,X,am,aL,aM⟩
  refine wc_skip (qr (mv u (lv (rv_nilCheck u) (fl ff121_0 u tf37 m0 X u (mv u ?_)))))
  obtain⟨B,bv,bx⟩:=ob aN
  refine li underlying37 tf78 am bv fun bz bA cS bB bC=>?_
  obtain⟨Y,aa,ab,rfl,cT,aO⟩:=bB
  have bD:AtK _ bz bA [.bool B.Final,V6 B.Many,V3 Y aa ab]:=bC
  refine lv (rv_loadS tf78 u X bD u) (al tf78 X fun aP cU bE=>?_)
  have bF:SH _ _ _ _ _ [obj aP [.bool false,V6 0,V3 none 0 0] 78,_,_]:=bE
  refine lw [.bool B.Final,V6 B.Many,V3 Y aa ab] tf78 bF fun cV an=>(nsr (fl ff78_0 u tf4 m0 an u (nq ?_)))
  obtain⟨ac,bG,bH⟩:=ob bx
  refine wc_cutg (fun E' w'=>∃ao ap aq ad ae af C,E'=[(0,pt g1),(1,V6 q1),(2,sv q2),(6,pt aP)]∧SH w K (List.flatMap Item.gs [obj g1 [V3 d f i,V3 a b c,V6 q0.steps_,.bool q0.bad_] 121,tail (V3 a b c) 9 1]) w' C [obj g1 [V3 ao ap aq,V3 ad ae af,V6 ac.steps_,.bool ac.bad_] 121,tail (V3 ad ae af) 9 1,obj aP [.bool B.Final,V6 B.Many,V3 Y aa ab] 78]∧KLe A C∧SliceAt tGState C ao ap aq ac.d_∧SliceAt tStr C ad ae af ac.words_∧rng64 ac.steps_) ?_ ?_
  ·refine wcc bG u (fun bI aQ=>?_) (fun bI aQ=>?_)
   ·refine wc_region (mv u (mv u (lv (rv_nilCheck u) (fl ff121_1 u tf35 m1 an u (mv u (lb tStr (sv q2) [sv q2] q2 underlying35 tf9 ⟨u,bb⟩ an fun cW cX cY aR bJ bK=>?_))))))
    obtain⟨cZ,bL,bM⟩:=ob aQ
    refine lp underlying35 tf9 (aL.mono aR) bJ bL bK.f3 fun aS aT aU da bN bd bO bP=>(lv (rv_nilCheck u) (fa ff121_1 u (ls [V3 J O R,V3 aS aT aU,V6 I.steps_,.bool I.bad_] (V3 aS aT aU) tf35 bP.f3 fun db bQ=>(wl_nil ?_))))
    cases oi bM
    exact qd ⟨J,O,R,aS,aT,aU,bN,u,bQ.s,(aR.trans bd),(am.mono (aR.trans bd)),bO,aM⟩
   refine wc_skip ?_
   cases oi aQ
   exact qd ⟨J,O,R,T,U,V,A,u,an.f2.f2,kr,am,aL,aM⟩
  rintro _ dc ⟨ao,ap,aq,ad,ae,af,C,rfl,be,aV,bR,bS,bT⟩
  refine qr (fl ff78_2 u tf76 m2 be u (lv (rv_len underlying76 u (aO.mono aV)) (lv (r_m u) (nq ?_))))
  obtain⟨bU,bV,ar⟩:=ob bH
  refine wc_cutg (fun E' w'=>∃S au aw ax ag ah ai W,bU= .inl S∧E'=[(0,pt g1)]∧SH w K (List.flatMap Item.gs [obj g1 [V3 d f i,V3 a b c,V6 q0.steps_,.bool q0.bad_] 121,tail (V3 a b c) 9 1]) w' W [obj g1 [V3 au aw ax,V3 ag ah ai,V6 S.steps_,.bool S.bad_] 121,tail (V3 ag ah ai) 9 1]∧KLe C W∧SliceAt tGState W au aw ax S.d_∧SliceAt tStr W ag ah ai S.words_∧rng64 S.steps_) ?_ ?_
  ·refine wc_block ?_
   obtain⟨dd,bW,bf⟩:=ob bV
   have bX:=be.sb (sk (sk (sd sz)))
   refine qf (fun (aW:Nat) (m:GLister) E' w'=>∃D G H o q s x,E'=[(0,pt g1),(1,V6 q1),(2,sv q2),(53,V3 Y aa ab),(54,V6 (B.Arcs.length:Int)),(55,V6 ((aW:Nat):Int))]∧SH w K (List.flatMap Item.gs [obj g1 [V3 d f i,V3 a b c,V6 q0.steps_,.bool q0.bad_] 121,tail (V3 a b c) 9 1]) w' x [obj g1 [V3 D G H,V3 o q s,V6 m.steps_,.bool m.bad_] 121,tail (V3 o q s) 9 1]∧KLe C x∧SliceAt tGState x D G H m.d_∧SliceAt tStr x o q s m.words_∧rng64 m.steps_) bW ⟨ao,ap,aq,ad,ae,af,C,u,bX,kr,bR,bS,bT⟩ ?_ ?_
   ·rintro aW m _ bY de hi146 bZ ca ⟨D,G,H,o,q,s,x,rfl,ay,az,aA,aB,aC⟩
    refine sr (lv (rv_lss u u) (ns (wc_cond_t u (decide_eq_true (by omega)) (wc_skip (qe_seq (wc_seq (wc_block (sr ?_))))))))
    obtain⟨k,cb,cc⟩:=ob bZ
    refine li underlying76 tf116 (aO.mono (aV.trans az)) cb fun cd ce df cf cg=>?_
    obtain⟨rfl,ch⟩:=cf
    have cj:AtK _ cd ce [iv8 k.Byte,V6 k.To]:=cg
    refine lv (rv_loadS tf116 u ay cj u) (al tf116 ay fun aX dg ck=>?_)
    have cl:SH _ _ _ _ _ [obj aX [iv8 0,V6 0] 116,_,_]:=ck
    refine wl_store (cs':=[iv8 k.Byte,V6 k.To]) (v:=.agg #[iv8 k.Byte,V6 k.To]) wn tf116 u u u (by simp [Value.cells,Value.oneCell',iv8]) cl u u fun dh aD=>(ns (wc_seq ?_))
    obtain⟨cm,cn,cp⟩:=ob cc
    refine wc_cutg (IV w K (List.flatMap Item.gs [obj g1 [V3 d f i,V3 a b c,V6 q0.steps_,.bool q0.bad_] 121,tail (V3 a b c) 9 1]) x [(0,pt g1),(1,V6 q1),(2,sv q2),(8,pt aX),(53,V3 Y aa ab),(54,V6 (B.Arcs.length:Int)),(55,V6 ((aW:Nat):Int)),(67,.bool cm)] [obj g1 [V3 D G H,V3 o q s,V6 m.steps_,.bool m.bad_] 121,tail (V3 o q s) 9 1,obj aX [iv8 k.Byte,V6 k.To] 116]) ?_ ?_
    ·refine wc_region (fl ff116_1 u tf3 m0 aD u (lv (rv_lss u u) (mv u (bt cn (fun l aY=>?_) (fun l aY=>?_)))))
     ·refine lu l (lu l (lu l (lu l (lv (p_t u l u) (wl_nil ?_)))))
      cases oi aY
      exact qd ⟨x,u,aD.f2.f2,kr⟩
     refine lg l (rv_fieldAddr ff116_1 u) (lg l (rv_loadm1 tf3 u m0 aD u) (lg l (rv_move u) (lg l (rv_geq u u) (lv (rv_pick_f u l u) (wl_nil ?_)))))
     cases oi aY
     exact qd ⟨x,u,aD.f2.f2,kr⟩
    rintro _ di ⟨cq,rfl,aE,aj⟩
    refine qe_seq (wcc cp u (fun cr aZ=>?_) (fun cr aZ=>?_))
    ·refine sr (mv u (lv (rv_nilCheck u) (fa ff121_3 u (ls [V3 D G H,V3 o q s,V6 m.steps_,.bool true] (.bool true) tf4 aE fun dj cs=>(nq (rr (qe_block_ret (qe_then_ret (qe_then_ret ?_)))))))))
     cases oi aZ
     cases ca _ u
     refine qe_block_ret (qe_then_ret ?_)
     cases oi bf
     cases oi ar
     exact qe_ret (vs:=[]) results85 trivial ⟨D,G,H,o,q,s,cq,u,cs.s,(aA.mono aj),(aB.mono aj),aC⟩
    refine wc_skip (qe_seq (wc_region (mv u (fl ff116_1 u tf3 m2 aE u (mv u (fl ff116_0 u tf5 m2 aE u (lb tU8 (iv8 k.Byte) [iv8 k.Byte] k.Byte underlying117 tf5 u aE fun dk dl dm ba ct bg=>(lv (rv_b2s underlying117 underlying5 underlying9 u ct bg) ?_))))))))
    obtain⟨dn,bh,cu⟩:=ob aZ
    refine lv (rv_sadd u u bh) ?_
    obtain⟨dp,cv,cw⟩:=ob cu
    have bi:=bg.f2.f2
    refine lk co85 (ih bi.e2 (aA.mono (aj.trans ba)) (aB.mono (aj.trans ba)) aC ch (len_cat bh) cv) ?_
    rintro dq dr ⟨cx,cy,cz,cA,cB,cC,cD,rfl,bj,cE,cF,cG⟩
    have cH:=(bi.c2 bj).t4
    refine nb (qg (lv (rv_add_to u u (w64_succ hi146 (SliceAt.max (aO.mono aV)))) (mv u (wl_nil ?_))))
    cases oi cw
    exact qd ⟨_,u,cx,cy,cz,cA,cB,cC,cD,u,cH.s,(((az.trans aj).trans ba).trans bj.le),cE,cF,cG⟩
   rintro m _ bY cI ⟨D,G,H,o,q,s,x,rfl,ay,az,aA,aB,aC⟩
   subst cI
   refine sr (lv (rv_lss u u) (ns (wc_cond_f u (decide_eq_false (by omega)) (wc_exit (qe_then_exit (qe_then_exit (qe_block_eq ?_)))))))
   cases oi bf
   exact qd ⟨_,D,G,H,o,q,s,x,u,u,ay,az,aA,aB,aC⟩
  rintro _ ds ⟨S,au,aw,ax,ag,ah,ai,W,rfl,rfl,cJ,dt,cK,cL,cM⟩
  have ar:=elim_l ar
  refine qe_ret_normal ?_
  cases oi ar
  exact qe_ret (vs:=[]) results85 trivial ⟨au,aw,ax,ag,ah,ai,W,u,cJ,cK,cL,cM⟩

theorem ok_slices_EqualFunc_State__impl_sameState {q0:List GState}{q1:List GState}{r:Bool}(hS:SH w K [] w K [])(l:SliceAt tGState K A a b q0)(O:SliceAt tGState K B c d q1)(hm:M.slices_EqualFunc_State__impl_sameState F q0 q1=some r):
  Calls prog 86 #[V3 A a b,V3 B c d,.func (.func 87) #[] #[]] w (R_b w K r):=by
 rw [M.slices_EqualFunc_State__impl_sameState] at hm
 refine ci func86 u ntmps86 (sr (lv (r_f u) (nsr (mv u (lv (rv_len underlying37 u l) (mv u (lv (rv_len underlying37 u O) (lv (rv_neq u u) (nq ?_)))))))))
 refine wc_cond u (fun H=>?_) (fun H=>?_)
 ·have I:=cond_t H hm
  refine sr (lv (r_f u) (nq (rr ?_)))
  cases oi I
  exact ey results86 ⟨K,u,hS⟩
 have I:=cond_f H hm
 refine wc_skip (qs (sr (mv u (lv (rv_len underlying37 u l) (lv (r_m u) (nq ?_))))))
 obtain⟨aa,ab,m⟩:=ob I
 refine wc_cutg (IE aa w K [] K [] []) ?_ ?_
 ·refine wc_block ?_
  obtain⟨aO,ac,R⟩:=ob ab
  refine qf (fun (S:Nat) (T:Unit)=>IV w K [] K [(1,V3 B c d),(2,.func (.func 87) #[] #[]),(15,V3 A a b),(16,V6 (q0.length:Int)),(17,V6 ((S:Nat):Int))] []) ac ⟨K,u,hS,kr⟩ ?_ ?_
  ·rintro S T _ ad aP hi29 ae af ⟨U,rfl,o,k⟩
   refine sr (lv (rv_lss u u) (ns (wc_cond_t u (decide_eq_true (by omega)) (wc_skip (qe_seq (wc_seq (wc_block (sr (mv u ?_)))))))))
   obtain⟨f,ag,ah⟩:=ob ae
   refine li underlying37 tf78 (l.mono k) ag fun ai aj aQ ak am=>?_
   obtain⟨q,s,x,rfl,an,ao⟩:=ak
   have ap:AtK _ ai aj [.bool f.Final,V6 f.Many,V3 q s x]:=am
   refine lv (rv_loadS tf78 u o ap u) (al tf78 o fun aq aR ar=>?_)
   have au:SH _ _ _ _ _ [obj aq [.bool false,V6 0,V3 none 0 0] 78]:=ar
   refine av u (lw [.bool f.Final,V6 f.Many,V3 q s x] tf78 au fun aS V=>(nr (mv u (mv u ?_))))
   obtain⟨i,aw,ax⟩:=ob ah
   refine li underlying37 tf78 (O.mono k) aw fun ay az aT aA aB=>?_
   obtain⟨y,C,D,rfl,aC,aD⟩:=aA
   have aE:AtK _ ay az [.bool i.Final,V6 i.Many,V3 y C D]:=aB
   refine lv (rv_loadS tf78 u V aE u) (al tf78 V fun aF aU aG=>?_)
   have aH:SH _ _ _ _ _ [obj aF [.bool false,V6 0,V3 none 0 0] 78,_]:=aG
   refine lw [.bool i.Final,V6 i.Many,V3 y C D] tf78 aH fun aV G=>(nr (mv u (lv (rv_loadmS (ds:=[.bool f.Final,V6 f.Many,V3 q s x]) tf78 u m1 G u u) (lv (rv_loadmS (ds:=[.bool i.Final,V6 i.Many,V3 y C D]) tf78 u m0 G u u) ?_))))
   obtain⟨aW,aI,aJ⟩:=ob ax
   refine wl_call wn u (rt_callv (vs:=[.agg #[.bool f.Final,V6 f.Many,V3 q s x],.agg #[.bool i.Final,V6 i.Many,V3 y C D]]) (cap:=#[]) co87 u u) (ok_impl_sameState F G.enter0 an ao aC aD aI) ?_
   rintro aX aY ⟨W,rfl,X⟩
   refine⟨_,u,?_⟩
   have Y:=(G.c0 X).t2
   refine lv (rv_not u) (nq (wcc aJ u (fun aK J=>?_) (fun aK J=>?_)))
   ·refine sr (lv (r_f u) (nq (wc_ret (qe_block_ret (qe_then_ret (qe_then_ret ?_))))))
    cases oi J
    cases af _ u
    refine qe_block_ret (qe_then_ret ?_)
    cases oi R
    refine qe_then_ret ?_
    cases oi m
    exact ey results86 ⟨W,u,Y.s⟩
   refine wc_skip (qe_block (qg (lv (rv_add_to u u (w64_succ hi29 (SliceAt.max l))) (mv u (wl_nil ?_)))))
   cases oi J
   exact qd ⟨_,u,W,u,Y.s,(k.trans X.le)⟩
  rintro T _ ad aL ⟨U,rfl,o,k⟩
  subst aL
  refine sr (lv (rv_lss u u) (ns (wc_cond_f u (decide_eq_false (by omega)) (wc_exit (qe_then_exit (qe_then_exit (qe_block_eq ?_)))))))
  cases oi R
  exact qe_mid' ⟨_,U,u,u,o,k⟩ trivial
 rintro _ aZ ⟨ba,aM,rfl,rfl,aN,bb⟩
 have m:=elim_l m
 refine qr (lv (r_t u) (nq (wc_ret ?_)))
 cases oi m
 exact ey results86 ⟨aM,u,aN⟩

theorem ok_impl_wordsIn {q0:List GState}{r:(List Str)×Bool}(hS:SH w K [] w K [])(o:SliceAt tGState K A a b q0)(hm:M.impl_wordsIn F q0=some r):
  Calls prog 53 #[V3 A a b] w fun e w'=>∃a_1 n_2 c_3 K',e= .returned (.tuple #[V3 a_1 n_2 c_3,.bool r.2])∧SH w K [] w' K' [tail (V3 a_1 n_2 c_3) 9 1]∧SliceAt tStr K' a_1 n_2 c_3 r.1:=by
 rw [M.impl_wordsIn] at hm
 refine ci func53 u ntmps53 (sr (lv (r_n u) (lv (r_f u) (nsr (mv u (lv (rv_len underlying37 u o) (lv (rv_eql u u) (nq (wc_cond u (fun s=>?_) (fun s=>?_))))))))))
 ·have x:=cond_t s hm
  refine sr (lv (r_n u) (lv (r_f u) (nq (rr ?_))))
  cases oi x
  have Y:=hS.nil 9 1
  exact qe_ret (vs:=[_,_]) results53 ⟨u,u,trivial⟩ ⟨none,0,0,K,u,Y,(SliceAt.nil _ _)⟩
 have x:=cond_f s hm
 refine wc_skip (qr (mv u (b0 tStr underlying35 tf9 hS fun O w9 aG y aa ab=>(lv (rv_build (cs:=#[V3 A a b,V3 O 0 0,V6 0,.bool false]) sp121 tf121 u (by kernel_rfl)) (bx u ab fun B aH ac=>?_)))))
 have ad:SH _ _ _ _ _ [obj B [V3 A a b,V3 O 0 0,V6 0,.bool false] 121,_]:=ac
 refine av u (nr (mv u (mv u (lv (rv_len underlying37 u (o.mono y)) (lv (rv_sub u u) ?_)))))
 obtain⟨R,ae,af⟩:=ob x
 have S:=ad.f1.f1
 refine lk co85 ((ok_impl_lister_visit F (q0:=(GLister.mk q0 ([]:List Str) (0:Int) false))) S.e2 (o.mono y) aa d_0 (w64_rng _) (by decide :([]:Str).length≤maxLen) ae) ?_
 rintro aI aJ ⟨ag,ah,ai,f,i,k,T,rfl,U,aK,C,aL⟩
 have l:=(S.c2 U).t2
 refine ns (wc_seq ?_)
 obtain⟨aj,ak,al⟩:=ob af
 refine wc_cutg (IV w K [] T [(4,pt B),(38,.bool aj)] [obj B [V3 ag ah ai,V3 f i k,V6 R.steps_,.bool R.bad_] 121,tail (V3 f i k) 9 1]) ?_ ?_
 ·refine wc_region (mv u (lv (rv_nilCheck u) (fl ff121_3 u tf4 m0 l u (mv u (bt ak (fun d D=>?_) (fun d D=>?_))))))
  ·iterate 6 refine lu d ?_
   refine lv (p_t u d u) (mv u ?_)
   iterate 8 refine lu u ?_
   refine lv (p_t u u u) (wl_nil ?_)
   cases oi D
   exact qd ⟨T,u,l,kr⟩
  refine lg d (rv_move u) (lg d (rv_nilCheck u) (lg d (rv_fieldAddr ff121_1 u) (lg d (rv_loadm1 tf35 u m0 l u) ?_)))
  obtain⟨aM,am,an⟩:=ob D
  refine wl_call (wg u u d) u (rt_call (vs:=[V3 f i k]) co60 u) (ok_impl_WordsUp F l.enter0 C am) ?_
  rintro aN aO ⟨ao,rfl,m⟩
  refine⟨_,u,?_⟩
  have q:=(l.c0 m).t2
  refine lg d (rv_not u) (lv (rv_pick_f u d u) (mv u (bt an (fun c G=>?_) (fun c G=>?_))))
  ·iterate 8 refine lu c ?_
   refine lv (p_t u c u) (wl_nil ?_)
   cases oi G
   exact qd ⟨ao,u,q,m.le⟩
  refine lg c (rv_move u) (lg c (rv_nilCheck u) (lg c (rv_fieldAddr ff121_1 u) (lg c (rv_loadm1 tf35 u m0 q u) ?_)))
  obtain⟨aP,ap,aq⟩:=ob G
  refine wl_call (wg u u c) u (rt_call (vs:=[V3 f i k]) co28 u) (ok_impl_DawgOf F q.enter0 (C.mono m.le) ap) ?_
  rintro aQ aR ⟨ar,au,aw,aS,rfl,H,ax⟩
  refine⟨_,u,?_⟩
  have V:=(q.c0 H).t3
  refine lg c (rv_move u) ?_
  obtain⟨aT,ay,az⟩:=ob aq
  refine wl_call (wg u u c) u (rt_call (vs:=[V3 ar au aw,V3 A a b,.func (.func 87) #[] #[]]) co86 u) (ok_slices_EqualFunc_State__impl_sameState F V.enter0 ax (SliceAt.mono (((y.trans U.le).trans m.le).trans H.le) o) ay) ?_
  rintro aU aV ⟨aA,rfl,W⟩
  refine⟨_,u,?_⟩
  have aB:=(V.c0 W).t3
  refine lg c (rv_not u) (lv (rv_pick_f u c u) (wl_nil ?_))
  cases oi az
  exact qd ⟨aA,u,aB.s,((m.le.trans H.le).trans W.le)⟩
 rintro _ aW ⟨X,rfl,I,aC⟩
 refine qe_seq (wcc al u (fun aD J=>?_) (fun aD J=>?_))
 ·refine sr (lv (r_n u) (lv (r_f u) (nq (rr ?_))))
  cases oi J
  have aE:=I.nil 9 1
  exact qe_ret (vs:=[_,_]) results53 ⟨u,u,trivial⟩ ⟨none,0,0,X,u,aE.s,(SliceAt.nil _ _)⟩
 refine wc_skip (qr (mv u (lv (rv_nilCheck u) (fl ff121_1 u tf35 m0 I u (av u (lv (r_t u) (nq (wc_ret ?_))))))))
 cases oi J
 exact qe_ret (vs:=[_,_]) results53 ⟨u,u,trivial⟩ ⟨f,i,k,X,u,I.s,(C.mono aC)⟩
end Go.Proofs.Ytepcfgnicnibnaa
