/-
 Walks of the functions. Printed by gen.py.
-/
import Derived.Test.YtpjefkdclnmlfaaGreatWalkA4
set_option linter.unusedVariables false
set_option linter.unusedSectionVars false
set_option maxRecDepth 100000
namespace Go.Proofs.YtpjefkdclnmlfaaGreat
set_option maxHeartbeats 4000000
open Go Go.Fk Go.RowKit Tryz
variable (F:Nat){w:World}{K:KMap}{Z:List Nat}{g1 g2 g3:Nat}{A B C D G H I J O R S T:Option Addr}{a b c d f i k l m n o p q s v x y aa ab ac ad ae af ag:Nat}
variable [dr:Dr]

theorem ok_laws_toAttrS {q0:List GAttr}{r:(List GAttr)}(hS:SH w K [] w K [])(y:SliceAt tGAttr K A a b q0)(hm:M.laws_toAttrS F q0=some r):
  Calls prog 146 #[V3 A a b] w fun e w'=>∃a_1 n_2 c_3 K',e= .returned (V3 a_1 n_2 c_3)∧SH w K [] w' K' [tail (V3 a_1 n_2 c_3) 142 2]∧SliceAt tGAttr K' a_1 n_2 c_3 r:=by
 rw [M.laws_toAttrS] at hm
 refine ci func146 u ntmps146 (sr (lv (r_n u) (nr (mv u (lv (rv_len underlying100 u y) ?_)))))
 obtain⟨O,R,S⟩:=ob hm
 refine wl_make (t:=tGAttr) wn u underlying75 tf142 u u u R ⟨u,(by decide :([]:Str).length≤maxLen),d_0⟩ hS fun f cs9 aA hmx13 hrow11 T=>?_
 obtain⟨m14,hm15⟩: ∃m,m=O.length:=⟨_,u⟩
 rw [←hm15] at hmx13
 rw [←hm15]
 refine av u (nsr (lv (r_0 u) (nq ?_)))
 obtain⟨D,U,V⟩:=ob S
 refine wc_cutg (fun E' w'=>∃cs23 l,E'=[(3,V3 (some ⟨f,0,none⟩) m14 m14)]∧SH w K [] w' l [obj f cs23 142]∧KLe K l∧RowAt true tGAttr l cs23 D∧m14=D.length) ?_ ?_
 ·refine wc_block ?_
  obtain⟨aB,W,X⟩:=ob U
  refine qw (fun (c:Int×(List GAttr)) E' w'=>∃cs36 k,E'=[(0,V3 A a b),(3,V3 (some ⟨f,0,none⟩) m14 m14),(4,V6 c.1)]∧SH w K [] w' k [obj f cs36 142]∧KLe K k∧rng64 c.1∧RowAt true tGAttr k cs36 c.2∧m14=c.2.length) W ⟨cs9,K,u,T,kr,d_0,hrow11,hm15⟩ ?_
  rintro c _ aC aD Y aa ⟨cs36,k,rfl,o,q,aE,hrow37,hm38⟩
  refine wc_seq (sr (mv u (mv u (lv (rv_len underlying100 u (y.mono q)) (lv (rv_lss u u) (nq (wcc Y u (fun ab B=>?_) (fun ab B=>?_))))))))
  ·refine wc_skip (qs (wc_block (wc_region (mv u (mv u (mv u (mv u ?_)))))))
   obtain⟨G,ac,ad⟩:=ob B
   refine li underlying100 tf225 (y.mono q) ac fun ae af aF ag ah=>?_
   obtain⟨rfl,ai,aj⟩:=ag
   have ak:AtK _ ae af [sv G.Name,V6 G.Num]:=ah
   refine lv (rv_loadS tf225 u o ak u) ?_
   obtain⟨s,al,am⟩:=ob ad
   refine lk co200 (ok_laws_toAttr F o.enter0 ai aj al) ?_
   rintro aG aH ⟨an,rfl,x,ao,ap⟩
   have aq:=(o.c0 x).t1
   obtain⟨H,C,ar⟩:=ob am
   obtain⟨aI,au,aw⟩:=RowAt.at (RowAt.mono x.le hrow37) C
   obtain⟨rfl,aJ,aK⟩:=au
   have aL: ∀(j:Nat) (d:Value),[sv H.Name,V6 H.Num][j]? =some d→cs36[c.1.toNat*tGAttr.size+j]? =some d:=aw
   refine lv (rv_indexRow (t:=tGAttr) underlying75 tf142 u u hm38 C) (wl_storeRow (t:=tGAttr) (v:=.agg #[sv s.Name,V6 s.Num]) (e:=s) wn tf142 u u ⟨u,ao,ap⟩ aq (RowAt.mono x.le hrow37) C fun cs74 aM hrow76 ax=>?_)
   have hm78:=hm38.trans (List.length_set (i:=c.1.toNat) (a:=s)).symm
   refine nb (qe_seq (wc_region (mv u (lv (rv_add u u) (av u (wl_nil ?_))))))
   cases oi ar
   exact qd ⟨_,u,cs74,an,u,ax,(q.trans x.le),(w64_rng _),hrow76,hm78⟩
  refine wc_exit (qe_then_exit (qe_then_exit ?_))
  cases oi B
  cases aa _ u
  refine qe_block_eq ?_
  cases oi X
  exact qd ⟨cs36,k,u,o,q,hrow37,hm38⟩
 rintro _ aN ⟨cs23,l,rfl,ay,aO,hrow24,hm25⟩
 refine qr (mv u (av u (nq (wc_ret ?_))))
 obtain⟨az,aP,I,J⟩:=SH.freeze ay hrow24 (row_max hm25 hmx13)
 rw [←hm25] at I J
 cases oi V
 exact ey results146 ⟨(some ⟨f,0,none⟩),m14,m14,az,u,J,I⟩

theorem bag_laws_toAttrS (F:Nat){w:World}{K:KMap}{a1:Option Addr}{n2 c3:Nat}{p0_a:List GAttr}{r:(List GAttr)}(hS:SH w K [] w K [])(hs4:SliceAt tGAttr K a1 n2 c3 p0_a)(hm:M.laws_toAttrS F p0_a=some r):
  Calls Tryz.prog 146 #[.slice a1 n2 c3] w fun e w'=>∃(a_1:Option Addr) (n_2 c_3:Nat) (K':KMap) (B':List Nat),e= .returned (.slice a_1 n_2 c_3)∧SH w K [] w' K' [bag B']∧SliceAt tGAttr (K'.only B') a_1 n_2 c_3 r:=
 (ok_laws_toAttrS F hS hs4 hm).mono fun e w' ⟨a,n,c,K',he,hS',hs'⟩=>
  let ⟨B,hB,hb⟩:=SH.bagTail hS'
  ⟨a,n,c,K',B,he,hB,SliceAt.only_flat (t:=tGAttr) (fun h=>h) hs' hb⟩

theorem bag_laws_toDoc (F:Nat){w:World}{K:KMap}{a2:Option Addr}{n3 c4:Nat}{a6:Option Addr}{n7 c8:Nat}{p0_a:GDoc}{r:GDoc}(hS:SH w K [] w K [])(hr1:rng64 p0_a.Id)(hs5:SliceAt tGField K a2 n3 c4 p0_a.Fields)(hs9:SliceAt tGAttr K a6 n7 c8 p0_a.Nums)(hm:M.laws_toDoc F p0_a=some r):
  Calls Tryz.prog 71 #[.agg #[.int .i64 p0_a.Id,.slice a2 n3 c4,.slice a6 n7 c8]] w fun e w'=>∃(a_2:Option Addr) (n_3 c_4:Nat) (a_6:Option Addr) (n_7 c_8:Nat) (K':KMap) (B':List Nat),e= .returned (.agg #[.int .i64 r.Id,.slice a_2 n_3 c_4,.slice a_6 n_7 c_8])∧SH w K [] w' K' [bag B']∧rng64 r.Id∧SliceAt tGField (K'.only B') a_2 n_3 c_4 r.Fields∧SliceAt tGAttr (K'.only B') a_6 n_7 c_8 r.Nums:=by
 rw [M.laws_toDoc] at hm
 refine calls_in Tryz.func71 u Tryz.ntmps71 u ?_
 refine sr ?_
 refine wl_box wn u u hS ?_
 intro g10 w11 hS12
 have hS13:SH _ _ _ _ _ [obj g10 [.int .i64 p0_a.Id,.slice a2 n3 c4,.slice a6 n7 c8] 102]:=hS12
 refine wl_alloc wn u tf77 hS13 ?_
 intro g14 w15 hS16
 have hS17:SH _ _ _ _ _ [obj g14 [.int .i64 0,.slice none 0 0,.slice none 0 0] 77,_]:=hS16
 refine nr ?_
 refine wl_alloc wn u tf77 hS17 ?_
 intro g18 w19 hS20
 have hS21:SH _ _ _ _ _ [obj g18 [.int .i64 0,.slice none 0 0,.slice none 0 0] 77,_,_]:=hS20
 refine nr ?_
 refine wl_val wn u (rv_fieldAddr ff102_0 u) ?_
 refine wl_val wn u (rv_loadm1 tf3 u (.tail _ (.tail _ (.head _))) hS21 u) ?_
 refine wl_val wn u (rv_fieldAddr ff77_0 u) ?_
 refine wl_store (cs':=[.int .i64 p0_a.Id,.slice none 0 0,.slice none 0 0]) (v:=.int .i64 p0_a.Id) wn tf3 u u u (by simp [Value.cells,Value.oneCell']) hS21 u u ?_
 intro w22 hS23
 refine nr ?_
 refine wl_val wn u (rv_fieldAddr ff102_1 u) ?_
 refine wl_val wn u (rv_loadm1 tf99 u (.tail _ (.tail _ (.head _))) hS23 u) ?_
 obtain⟨r24,hx25,h26⟩:=ob hm
 refine wl_call wn u (rt_call (vs:=[.slice a2 n3 c4]) co145 u) ((bag_laws_toFieldS F) hS23.enter0 hs5 hx25) ?_
 rintro e34 w28 ⟨a30,n31,c32,K27,B27,rfl,hS29,hs33⟩
 refine⟨_,u,?_⟩
 have hS35:SH _ _ _ _ _ [_,_,_,_]:=SH.call0 hS23 hS29
 refine wl_val wn u (rv_fieldAddr ff77_1 u) ?_
 have hS36:SH _ _ _ _ _ [_,_,_,_]:=SH.front (p:=[_]) hS35
 refine wl_store (cs':=[.int .i64 p0_a.Id,.slice a30 n31 c32,.slice none 0 0]) (v:=.slice a30 n31 c32) wn tf74 u u u (by simp [Value.cells,Value.oneCell']) hS36 u u ?_
 intro w37 hS38
 refine nr ?_
 refine wl_val wn u (rv_fieldAddr ff102_2 u) ?_
 refine wl_val wn u (rv_loadm1 tf100 u (.tail _ (.tail _ (.tail _ (.head _)))) hS38 u) ?_
 obtain⟨r39,hx40,h41⟩:=ob h26
 refine wl_call wn u (rt_call (vs:=[.slice a6 n7 c8]) co146 u) ((bag_laws_toAttrS F) hS38.enter0 (SliceAt.mono hS29.le hs9) hx40) ?_
 rintro e49 w43 ⟨a45,n46,c47,K42,B42,rfl,hS44,hs48⟩
 refine⟨_,u,?_⟩
 have hS50:SH _ _ _ _ _ [_,_,_,_,_]:=SH.call0 hS38 hS44
 refine wl_val wn u (rv_fieldAddr ff77_2 u) ?_
 have hS51:SH _ _ _ _ _ [_,_,_,_,_]:=SH.front (p:=[_]) hS50
 refine wl_store (cs':=[.int .i64 p0_a.Id,.slice a30 n31 c32,.slice a45 n46 c47]) (v:=.slice a45 n46 c47) wn tf75 u u u (by simp [Value.cells,Value.oneCell']) hS51 u u ?_
 intro w52 hS53
 refine nr ?_
 refine wl_val wn u (rv_loadmS (ds:=[.int .i64 p0_a.Id,.slice a30 n31 c32,.slice a45 n46 c47]) tf77 u (.head _) hS53 u u) ?_
 have hS54:SH _ _ _ _ _ [_,_,_,_,_]:=SH.front (p:=[_,_,_]) hS53
 refine wl_store (cs':=[.int .i64 p0_a.Id,.slice a30 n31 c32,.slice a45 n46 c47]) (v:=.agg #[.int .i64 p0_a.Id,.slice a30 n31 c32,.slice a45 n46 c47]) wn tf77 u u u (by simp [Value.cells,Value.oneCell']) hS54 u u ?_
 intro w55 hS56
 refine nq ?_
 refine wc_ret ?_
 obtain rfl:=oi h41
 have hS57:SH _ _ _ _ _ [_,_,_,_,_]:=SH.front (p:=[_,_]) hS56
 have hS58:SH _ _ _ _ _ [_,_,_,_,_]:=SH.front (p:=[_,_,_]) hS57
 have hS59:SH _ _ _ _ _ [_,_]:=SH.sublist hS58 (.cons_cons _ (.cons_cons _ (.cons _ (.cons _ (.cons _ .slnil)))))
 exact qe_ret (vs:=[_]) Tryz.results71 ⟨⟨_,_,u,run_loadVar_at tf77 (cs:=[.int .i64 p0_a.Id,.slice a30 n31 c32,.slice a45 n46 c47]) (fun j c e=>by rw [Nat.zero_add,hS56.mem_obj (.head _)];exact e) (.inl ⟨u,u,u⟩)⟩,trivial⟩ ⟨a30,n31,c32,a45,n46,c47,K42,(B27++B42),u,SH.bagJoin hS59,hr1,(SliceAt.mono (only_mono hS44.le fun _ h=>List.mem_append_left _ h) hs33),(SliceAt.mono (only_mono (KLe.refl _) fun _ h=>List.mem_append_right _ h) hs48)⟩

theorem bag_laws_toDocS (F:Nat){w:World}{K:KMap}{a1:Option Addr}{n2 c3:Nat}{p0_a:List GDoc}{r:(List GDoc)}(hS:SH w K [] w K [])(hs4:SliceAt tGDoc K a1 n2 c3 p0_a)(hm:M.laws_toDocS F p0_a=some r):
  Calls Tryz.prog 20 #[.slice a1 n2 c3] w fun e w'=>∃(a_1:Option Addr) (n_2 c_3:Nat) (K':KMap) (B':List Nat),e= .returned (.slice a_1 n_2 c_3)∧SH w K [] w' K' [bag B']∧SliceAt tGDoc (K'.only B') a_1 n_2 c_3 r:=by
 rw [M.laws_toDocS] at hm
 refine calls_in Tryz.func20 u Tryz.ntmps20 u ?_
 refine sr ?_
 refine wl_val wn u (rv_assign (v:=.slice none 0 0) u) ?_
 refine nr ?_
 refine vm u u ?_
 refine wl_val wn u (rv_len (t:=tGDoc) Tryz.underlying40 u hs4) ?_
 obtain⟨x5,hx6,h7⟩:=ob hm
 refine wl_make (t:=Ty.fix tGDoc (K.only [])) wn u Tryz.underlying43 tf77 u u u hx6 ⟨none,0,0,none,0,0,u,d_0,(SliceAt.nil _ _),(SliceAt.nil _ _)⟩ hS ?_
 intro g8 cs9 w10 hmx13 hrow11 hS12
 obtain⟨m14,hm15⟩: ∃m,m=x5.length:=⟨_,u⟩
 rw [←hm15] at hmx13
 rw [←hm15]
 refine va u u ?_
 refine nsr ?_
 refine wl_val wn u (rv_assign (v:=.int .i64 0) u) ?_
 refine nq ?_
 obtain⟨o16,h17,h18⟩:=ob h7
 refine wc_cutg (fun E' w'=>∃(cs23:List Value) (K19:KMap) (B19:List Nat),E'=[(3,.slice (some ⟨g8,0,none⟩) m14 m14)]∧SH w K [] w' K19 [obj g8 cs23 77,bag B19]∧KLe K K19∧RowAt true tGDoc (K19.only B19) cs23 o16∧m14=o16.length) ?_ ?_
 ·refine wc_block ?_
  obtain⟨r27,h28,h29⟩:=ob h17
  refine wc_while' (fun (s26:Int×(List GDoc)) E' w'=>∃(cs36:List Value) (K30:KMap) (B30:List Nat),E'=[(0,.slice a1 n2 c3),(3,.slice (some ⟨g8,0,none⟩) m14 m14),(4,.int .i64 s26.1)]∧SH w K [] w' K30 [obj g8 cs36 77,bag B30]∧KLe K K30∧rng64 s26.1∧RowAt true tGDoc (K30.only B30) cs36 s26.2∧m14=s26.2.length) h28 ⟨cs9,K,[],u,(SH.perm (SH.bag0 hS12) (List.Perm.swap _ _ _)),(KLe.refl _),d_0,hrow11,hm15⟩ ⟨u,u,u,trivial⟩ ?_
  rintro s26 _ w33 r39 h40 hx41 ⟨cs36,K30,B30,rfl,hS34,hl31,hr35,hrow37,hm38⟩
  refine wc_seq ?_
  refine sr ?_
  refine vm u u ?_
  refine vm u u ?_
  refine wl_val wn u (rv_len (t:=tGDoc) Tryz.underlying40 u (SliceAt.mono hl31 hs4)) ?_
  refine wl_val wn u (rv_lss u u) ?_
  refine nq ?_
  refine wc_cond u (fun hb42=>?_) (fun hb42=>?_)
  ·have h43:=cond_t hb42 h40
   refine wc_skip ?_
   refine qs ?_
   refine wc_block ?_
   refine wc_region ?_
   refine vm u u ?_
   refine vm u u ?_
   refine vm u u ?_
   refine vm u u ?_
   obtain⟨x44,hx45,h46⟩:=ob h43
   refine wl_indexAddr (t:=tGDoc) wn u Tryz.underlying40 tf102 u u (SliceAt.mono hl31 hs4) hx45 ?_
   intro b47 o48 u49 hu50 ha51
   obtain⟨a53,n54,c55,a57,n58,c59,rfl,hr52,hs56,hs60⟩:=hu50
   have ha61:AtK _ b47 o48 [.int .i64 x44.Id,.slice a53 n54 c55,.slice a57 n58 c59]:=ha51
   refine wl_val wn u (rv_loadS (cs:=[.int .i64 x44.Id,.slice a53 n54 c55,.slice a57 n58 c59]) tf102 u hS34 ha61 u) ?_
   obtain⟨r62,hx63,h64⟩:=ob h46
   refine wl_call wn u (rt_call (vs:=[.agg #[.int .i64 x44.Id,.slice a53 n54 c55,.slice a57 n58 c59]]) co71 u) ((bag_laws_toDoc F) hS34.enter0 hr52 hs56 hs60 hx63) ?_
   rintro e77 w66 ⟨a69,n70,c71,a73,n74,c75,K65,B65,rfl,hS67,hr68,hs72,hs76⟩
   refine⟨_,u,?_⟩
   have hS78:SH _ _ _ _ _ [_,_]:=SH.bagJoin (SH.perm (SH.call0 hS34 hS67) (List.Perm.cons _ (List.Perm.swap _ _ _)))
   obtain⟨x79,hx80,h81⟩:=ob h64
   obtain⟨u82,hu83,hk84⟩:=RowAt.at (RowAt.mono (only_mono hS67.le fun _ h=>h) hrow37) hx80
   obtain⟨a87,n88,c89,a91,n92,c93,rfl,hr86,hs90,hs94⟩:=hu83
   have hk85: ∀(j:Nat) (d:Value),[.int .i64 x79.Id,.slice a87 n88 c89,.slice a91 n92 c93][j]? =some d→cs36[s26.1.toNat*tGDoc.size+j]? =some d:=hk84
   refine wl_val wn u (rv_indexRow (t:=tGDoc) Tryz.underlying43 tf77 u u hm38 hx80) ?_
   have hS95:SH _ _ _ _ _ [_,_]:=SH.front (p:=[_]) hS78
   refine wl_storeRow (t:=Ty.fix tGDoc (K65.only (B65++B30))) (v:=.agg #[.int .i64 r62.Id,.slice a69 n70 c71,.slice a73 n74 c75]) (e:=r62) wn tf77 u u ⟨a69,n70,c71,a73,n74,c75,u,hr68,(SliceAt.mono (only_mono (KLe.refl _) fun _ h=>List.mem_append_left _ h) hs72),(SliceAt.mono (only_mono (KLe.refl _) fun _ h=>List.mem_append_left _ h) hs76)⟩ hS95 (show RowAt true tGDoc (K65.only (B65++B30)) _ _ from RowAt.mono (only_mono hS67.le fun _ h=>List.mem_append_right _ h) hrow37) hx80 ?_
   intro cs96 w97 hrow98 hS99
   have hm100:=hm38.trans (List.length_set (i:=s26.1.toNat) (a:=r62)).symm
   refine nb ?_
   refine qe_seq ?_
   refine wc_region ?_
   refine vm u u ?_
   refine wl_val wn u (rv_add u u) ?_
   refine va u u ?_
   refine wl_nil ?_
   obtain rfl:=oi h81
   have hS101:=hS99
   exact qe_mid' ⟨_,u,cs96,K65,(B65++B30),u,hS101,(hl31.trans hS67.le),(w64_rng _),hrow98,hm100⟩ ⟨u,u,u,trivial⟩
  ·have h43:=cond_f hb42 h40
   refine wc_exit ?_
   refine qe_then_exit ?_
   refine qe_then_exit ?_
   obtain rfl:=oi h43
   have e102:=hx41 _ u
   subst e102
   refine qe_block_eq ?_
   obtain rfl:=oi h29
   exact qe_mid' ⟨cs36,K30,B30,u,hS34,hl31,hrow37,hm38⟩ ⟨u,trivial⟩
 ·rintro _ w21 ⟨cs23,K19,B19,rfl,hS22,hl20,hrow24,hm25⟩
  refine qr ?_
  refine vm u u ?_
  refine va u u ?_
  refine nq ?_
  refine wc_ret ?_
  obtain⟨K103,hl104,hs105,hS106⟩:=SH.freeze (t:=Ty.fix tGDoc (K19.only B19)) hS22 hrow24 (row_max hm25 hmx13)
  rw [←hm25] at hs105 hS106
  obtain rfl:=oi h18
  obtain⟨Bz,hSz,hBz⟩:=SH.bagTail hS106
  exact qe_ret (vs:=[_]) Tryz.results20 ⟨u,trivial⟩ ⟨(some ⟨g8,0,none⟩),m14,m14,K103,(Bz++B19),u,SH.bagJoin hSz,SliceAt.unfix hs105 (only_mono hl104 fun _ h=>List.mem_append_right _ h) (fun hc b o e=>List.mem_append_left _ (hBz hc b o e))⟩

theorem ok_laws_toIntS {q0:List Int}{r:(List Int)}(hS:SH w K [] w K [])(s:SliceAt tInt K A a b q0)(hm:M.laws_toIntS F q0=some r):
  Calls prog 184 #[V3 A a b] w fun e w'=>∃a_1 n_2 c_3 K',e= .returned (V3 a_1 n_2 c_3)∧SH w K [] w' K' [tail (V3 a_1 n_2 c_3) 3 1]∧SliceAt tInt K' a_1 n_2 c_3 r:=by
 rw [M.laws_toIntS] at hm
 refine ci func184 u ntmps184 (sr (lv (r_n u) (nr (mv u (lv (rv_len underlying71 u s) ?_)))))
 obtain⟨H,I,J⟩:=ob hm
 refine wl_make (t:=tInt) wn u underlying71 tf3 u u u I ⟨u,d_0⟩ hS fun k cs9 ao hmx13 hrow11 O=>?_
 obtain⟨m14,hm15⟩: ∃m,m=H.length:=⟨_,u⟩
 rw [←hm15] at hmx13
 rw [←hm15]
 refine av u (nsr (lv (r_0 u) (nq ?_)))
 obtain⟨C,R,S⟩:=ob J
 refine wc_cutg (fun E' w'=>∃cs23 l,E'=[(3,V3 (some ⟨k,0,none⟩) m14 m14)]∧SH w K [] w' l [obj k cs23 3]∧KLe K l∧RowAt true tInt l cs23 C∧m14=C.length) ?_ ?_
 ·refine wc_block ?_
  obtain⟨ap,T,U⟩:=ob R
  refine qw (fun (c:Int×(List Int)) E' w'=>∃cs36 f,E'=[(0,V3 A a b),(3,V3 (some ⟨k,0,none⟩) m14 m14),(4,V6 c.1)]∧SH w K [] w' f [obj k cs36 3]∧KLe K f∧rng64 c.1∧RowAt true tInt f cs36 c.2∧m14=c.2.length) T ⟨cs9,K,u,O,kr,d_0,hrow11,hm15⟩ ?_
  rintro c _ aq ar V W ⟨cs36,f,rfl,x,o,au,hrow37,hm38⟩
  refine wc_seq (sr (mv u (mv u (lv (rv_len underlying71 u (s.mono o)) (lv (rv_lss u u) (nq (wcc V u (fun X y=>?_) (fun X y=>?_))))))))
  ·refine wc_skip (qs (wc_block (wc_region (mv u (mv u (mv u (mv u ?_)))))))
   obtain⟨q,Y,aa⟩:=ob y
   refine li underlying71 tf3 (s.mono o) Y fun ab ac aw ad ae=>?_
   obtain⟨rfl,af⟩:=ad
   have ag:AtK _ ab ac [V6 q]:=ae
   refine lv (rv_load1 tf3 u x (ag 0 _ u)) ?_
   obtain⟨ah,B,ai⟩:=ob aa
   obtain⟨ax,aj,ak⟩:=RowAt.at hrow37 B
   obtain⟨rfl,ay⟩:=aj
   have az: ∀(j:Nat) (d:Value),[V6 ah][j]? =some d→cs36[c.1.toNat*tInt.size+j]? =some d:=ak
   refine lv (rv_indexRow (t:=tInt) underlying71 tf3 u u hm38 B) (wl_storeRow (t:=tInt) (v:=V6 q) (e:=q) wn tf3 u u ⟨u,af⟩ x hrow37 B fun cs62 aA hrow64 al=>?_)
   have hm66:=hm38.trans (List.length_set (i:=c.1.toNat) (a:=q)).symm
   refine nb (qe_seq (wc_region (mv u (lv (rv_add u u) (av u (wl_nil ?_))))))
   cases oi ai
   exact qd ⟨_,u,cs62,f,u,al,o,(w64_rng _),hrow64,hm66⟩
  refine wc_exit (qe_then_exit (qe_then_exit ?_))
  cases oi y
  cases W _ u
  refine qe_block_eq ?_
  cases oi U
  exact qd ⟨cs36,f,u,x,o,hrow37,hm38⟩
 rintro _ aB ⟨cs23,l,rfl,am,aC,hrow24,hm25⟩
 refine qr (mv u (av u (nq (wc_ret ?_))))
 obtain⟨an,aD,D,G⟩:=SH.freeze am hrow24 (row_max hm25 hmx13)
 rw [←hm25] at D G
 cases oi S
 exact ey results184 ⟨(some ⟨k,0,none⟩),m14,m14,an,u,G,D⟩

theorem bag_laws_toIntS (F:Nat){w:World}{K:KMap}{a1:Option Addr}{n2 c3:Nat}{p0_a:List Int}{r:(List Int)}(hS:SH w K [] w K [])(hs4:SliceAt tInt K a1 n2 c3 p0_a)(hm:M.laws_toIntS F p0_a=some r):
  Calls Tryz.prog 184 #[.slice a1 n2 c3] w fun e w'=>∃(a_1:Option Addr) (n_2 c_3:Nat) (K':KMap) (B':List Nat),e= .returned (.slice a_1 n_2 c_3)∧SH w K [] w' K' [bag B']∧SliceAt tInt (K'.only B') a_1 n_2 c_3 r:=
 (ok_laws_toIntS F hS hs4 hm).mono fun e w' ⟨a,n,c,K',he,hS',hs'⟩=>
  let ⟨B,hB,hb⟩:=SH.bagTail hS'
  ⟨a,n,c,K',B,he,hB,SliceAt.only_flat (t:=tInt) (fun h=>h) hs' hb⟩

theorem bag_laws_toPost (F:Nat){w:World}{K:KMap}{a2:Option Addr}{n3 c4:Nat}{p0_a:GPost}{r:GPost}(hS:SH w K [] w K [])(hr1:rng64 p0_a.Doc)(hs5:SliceAt tInt K a2 n3 c4 p0_a.At)(hm:M.laws_toPost F p0_a=some r):
  Calls Tryz.prog 245 #[.agg #[.int .i64 p0_a.Doc,.slice a2 n3 c4]] w fun e w'=>∃(a_2:Option Addr) (n_3 c_4:Nat) (K':KMap) (B':List Nat),e= .returned (.agg #[.int .i64 r.Doc,.slice a_2 n_3 c_4])∧SH w K [] w' K' [bag B']∧rng64 r.Doc∧SliceAt tInt (K'.only B') a_2 n_3 c_4 r.At:=by
 rw [M.laws_toPost] at hm
 refine calls_in Tryz.func245 u Tryz.ntmps245 u ?_
 refine sr ?_
 refine wl_box wn u u hS ?_
 intro g6 w7 hS8
 have hS9:SH _ _ _ _ _ [obj g6 [.int .i64 p0_a.Doc,.slice a2 n3 c4] 268]:=hS8
 refine wl_alloc wn u tf134 hS9 ?_
 intro g10 w11 hS12
 have hS13:SH _ _ _ _ _ [obj g10 [.int .i64 0,.slice none 0 0] 134,_]:=hS12
 refine nr ?_
 refine wl_alloc wn u tf134 hS13 ?_
 intro g14 w15 hS16
 have hS17:SH _ _ _ _ _ [obj g14 [.int .i64 0,.slice none 0 0] 134,_,_]:=hS16
 refine nr ?_
 refine wl_val wn u (rv_fieldAddr ff268_0 u) ?_
 refine wl_val wn u (rv_loadm1 tf3 u (.tail _ (.tail _ (.head _))) hS17 u) ?_
 refine wl_val wn u (rv_fieldAddr ff134_0 u) ?_
 refine wl_store (cs':=[.int .i64 p0_a.Doc,.slice none 0 0]) (v:=.int .i64 p0_a.Doc) wn tf3 u u u (by simp [Value.cells,Value.oneCell']) hS17 u u ?_
 intro w18 hS19
 refine nr ?_
 refine wl_val wn u (rv_fieldAddr ff268_1 u) ?_
 refine wl_val wn u (rv_loadm1 tf71 u (.tail _ (.tail _ (.head _))) hS19 u) ?_
 obtain⟨r20,hx21,h22⟩:=ob hm
 refine wl_call wn u (rt_call (vs:=[.slice a2 n3 c4]) co184 u) ((bag_laws_toIntS F) hS19.enter0 hs5 hx21) ?_
 rintro e30 w24 ⟨a26,n27,c28,K23,B23,rfl,hS25,hs29⟩
 refine⟨_,u,?_⟩
 have hS31:SH _ _ _ _ _ [_,_,_,_]:=SH.call0 hS19 hS25
 refine wl_val wn u (rv_fieldAddr ff134_1 u) ?_
 have hS32:SH _ _ _ _ _ [_,_,_,_]:=SH.front (p:=[_]) hS31
 refine wl_store (cs':=[.int .i64 p0_a.Doc,.slice a26 n27 c28]) (v:=.slice a26 n27 c28) wn tf71 u u u (by simp [Value.cells,Value.oneCell']) hS32 u u ?_
 intro w33 hS34
 refine nr ?_
 refine wl_val wn u (rv_loadmS (ds:=[.int .i64 p0_a.Doc,.slice a26 n27 c28]) tf134 u (.head _) hS34 u u) ?_
 have hS35:SH _ _ _ _ _ [_,_,_,_]:=SH.front (p:=[_,_]) hS34
 refine wl_store (cs':=[.int .i64 p0_a.Doc,.slice a26 n27 c28]) (v:=.agg #[.int .i64 p0_a.Doc,.slice a26 n27 c28]) wn tf134 u u u (by simp [Value.cells,Value.oneCell']) hS35 u u ?_
 intro w36 hS37
 refine nq ?_
 refine wc_ret ?_
 obtain rfl:=oi h22
 have hS38:SH _ _ _ _ _ [_]:=SH.sublist hS37 (.cons _ (.cons _ (.cons_cons _ (.cons _ .slnil))))
 exact qe_ret (vs:=[_]) Tryz.results245 ⟨⟨_,_,u,run_loadVar_at tf134 (cs:=[.int .i64 p0_a.Doc,.slice a26 n27 c28]) (fun j c e=>by rw [Nat.zero_add,hS37.mem_obj (.head _)];exact e) (.inl ⟨u,u,u⟩)⟩,trivial⟩ ⟨a26,n27,c28,K23,B23,u,hS38,hr1,(SliceAt.mono (only_mono (KLe.refl _) fun _ h=>h) hs29)⟩

theorem bag_laws_toPostS (F:Nat){w:World}{K:KMap}{a1:Option Addr}{n2 c3:Nat}{p0_a:List GPost}{r:(List GPost)}(hS:SH w K [] w K [])(hs4:SliceAt tGPost K a1 n2 c3 p0_a)(hm:M.laws_toPostS F p0_a=some r):
  Calls Tryz.prog 216 #[.slice a1 n2 c3] w fun e w'=>∃(a_1:Option Addr) (n_2 c_3:Nat) (K':KMap) (B':List Nat),e= .returned (.slice a_1 n_2 c_3)∧SH w K [] w' K' [bag B']∧SliceAt tGPost (K'.only B') a_1 n_2 c_3 r:=by
 rw [M.laws_toPostS] at hm
 refine calls_in Tryz.func216 u Tryz.ntmps216 u ?_
 refine sr ?_
 refine wl_val wn u (rv_assign (v:=.slice none 0 0) u) ?_
 refine nr ?_
 refine vm u u ?_
 refine wl_val wn u (rv_len (t:=tGPost) Tryz.underlying199 u hs4) ?_
 obtain⟨x5,hx6,h7⟩:=ob hm
 refine wl_make (t:=Ty.fix tGPost (K.only [])) wn u Tryz.underlying61 tf134 u u u hx6 ⟨none,0,0,u,d_0,(SliceAt.nil _ _)⟩ hS ?_
 intro g8 cs9 w10 hmx13 hrow11 hS12
 obtain⟨m14,hm15⟩: ∃m,m=x5.length:=⟨_,u⟩
 rw [←hm15] at hmx13
 rw [←hm15]
 refine va u u ?_
 refine nsr ?_
 refine wl_val wn u (rv_assign (v:=.int .i64 0) u) ?_
 refine nq ?_
 obtain⟨o16,h17,h18⟩:=ob h7
 refine wc_cutg (fun E' w'=>∃(cs23:List Value) (K19:KMap) (B19:List Nat),E'=[(3,.slice (some ⟨g8,0,none⟩) m14 m14)]∧SH w K [] w' K19 [obj g8 cs23 134,bag B19]∧KLe K K19∧RowAt true tGPost (K19.only B19) cs23 o16∧m14=o16.length) ?_ ?_
 ·refine wc_block ?_
  obtain⟨r27,h28,h29⟩:=ob h17
  refine wc_while' (fun (s26:Int×(List GPost)) E' w'=>∃(cs36:List Value) (K30:KMap) (B30:List Nat),E'=[(0,.slice a1 n2 c3),(3,.slice (some ⟨g8,0,none⟩) m14 m14),(4,.int .i64 s26.1)]∧SH w K [] w' K30 [obj g8 cs36 134,bag B30]∧KLe K K30∧rng64 s26.1∧RowAt true tGPost (K30.only B30) cs36 s26.2∧m14=s26.2.length) h28 ⟨cs9,K,[],u,(SH.perm (SH.bag0 hS12) (List.Perm.swap _ _ _)),(KLe.refl _),d_0,hrow11,hm15⟩ ⟨u,u,u,trivial⟩ ?_
  rintro s26 _ w33 r39 h40 hx41 ⟨cs36,K30,B30,rfl,hS34,hl31,hr35,hrow37,hm38⟩
  refine wc_seq ?_
  refine sr ?_
  refine vm u u ?_
  refine vm u u ?_
  refine wl_val wn u (rv_len (t:=tGPost) Tryz.underlying199 u (SliceAt.mono hl31 hs4)) ?_
  refine wl_val wn u (rv_lss u u) ?_
  refine nq ?_
  refine wc_cond u (fun hb42=>?_) (fun hb42=>?_)
  ·have h43:=cond_t hb42 h40
   refine wc_skip ?_
   refine qs ?_
   refine wc_block ?_
   refine wc_region ?_
   refine vm u u ?_
   refine vm u u ?_
   refine vm u u ?_
   refine vm u u ?_
   obtain⟨x44,hx45,h46⟩:=ob h43
   refine wl_indexAddr (t:=tGPost) wn u Tryz.underlying199 tf268 u u (SliceAt.mono hl31 hs4) hx45 ?_
   intro b47 o48 u49 hu50 ha51
   obtain⟨a53,n54,c55,rfl,hr52,hs56⟩:=hu50
   have ha57:AtK _ b47 o48 [.int .i64 x44.Doc,.slice a53 n54 c55]:=ha51
   refine wl_val wn u (rv_loadS (cs:=[.int .i64 x44.Doc,.slice a53 n54 c55]) tf268 u hS34 ha57 u) ?_
   obtain⟨r58,hx59,h60⟩:=ob h46
   refine wl_call wn u (rt_call (vs:=[.agg #[.int .i64 x44.Doc,.slice a53 n54 c55]]) co245 u) ((bag_laws_toPost F) hS34.enter0 hr52 hs56 hx59) ?_
   rintro e69 w62 ⟨a65,n66,c67,K61,B61,rfl,hS63,hr64,hs68⟩
   refine⟨_,u,?_⟩
   have hS70:SH _ _ _ _ _ [_,_]:=SH.bagJoin (SH.perm (SH.call0 hS34 hS63) (List.Perm.cons _ (List.Perm.swap _ _ _)))
   obtain⟨x71,hx72,h73⟩:=ob h60
   obtain⟨u74,hu75,hk76⟩:=RowAt.at (RowAt.mono (only_mono hS63.le fun _ h=>h) hrow37) hx72
   obtain⟨a79,n80,c81,rfl,hr78,hs82⟩:=hu75
   have hk77: ∀(j:Nat) (d:Value),[.int .i64 x71.Doc,.slice a79 n80 c81][j]? =some d→cs36[s26.1.toNat*tGPost.size+j]? =some d:=hk76
   refine wl_val wn u (rv_indexRow (t:=tGPost) Tryz.underlying61 tf134 u u hm38 hx72) ?_
   have hS83:SH _ _ _ _ _ [_,_]:=SH.front (p:=[_]) hS70
   refine wl_storeRow (t:=Ty.fix tGPost (K61.only (B61++B30))) (v:=.agg #[.int .i64 r58.Doc,.slice a65 n66 c67]) (e:=r58) wn tf134 u u ⟨a65,n66,c67,u,hr64,(SliceAt.mono (only_mono (KLe.refl _) fun _ h=>List.mem_append_left _ h) hs68)⟩ hS83 (show RowAt true tGPost (K61.only (B61++B30)) _ _ from RowAt.mono (only_mono hS63.le fun _ h=>List.mem_append_right _ h) hrow37) hx72 ?_
   intro cs84 w85 hrow86 hS87
   have hm88:=hm38.trans (List.length_set (i:=s26.1.toNat) (a:=r58)).symm
   refine nb ?_
   refine qe_seq ?_
   refine wc_region ?_
   refine vm u u ?_
   refine wl_val wn u (rv_add u u) ?_
   refine va u u ?_
   refine wl_nil ?_
   obtain rfl:=oi h73
   have hS89:=hS87
   exact qe_mid' ⟨_,u,cs84,K61,(B61++B30),u,hS89,(hl31.trans hS63.le),(w64_rng _),hrow86,hm88⟩ ⟨u,u,u,trivial⟩
  ·have h43:=cond_f hb42 h40
   refine wc_exit ?_
   refine qe_then_exit ?_
   refine qe_then_exit ?_
   obtain rfl:=oi h43
   have e90:=hx41 _ u
   subst e90
   refine qe_block_eq ?_
   obtain rfl:=oi h29
   exact qe_mid' ⟨cs36,K30,B30,u,hS34,hl31,hrow37,hm38⟩ ⟨u,trivial⟩
 ·rintro _ w21 ⟨cs23,K19,B19,rfl,hS22,hl20,hrow24,hm25⟩
  refine qr ?_
  refine vm u u ?_
  refine va u u ?_
  refine nq ?_
  refine wc_ret ?_
  obtain⟨K91,hl92,hs93,hS94⟩:=SH.freeze (t:=Ty.fix tGPost (K19.only B19)) hS22 hrow24 (row_max hm25 hmx13)
  rw [←hm25] at hs93 hS94
  obtain rfl:=oi h18
  obtain⟨Bz,hSz,hBz⟩:=SH.bagTail hS94
  exact qe_ret (vs:=[_]) Tryz.results216 ⟨u,trivial⟩ ⟨(some ⟨g8,0,none⟩),m14,m14,K91,(Bz++B19),u,SH.bagJoin hSz,SliceAt.unfix hs93 (only_mono hl92 fun _ h=>List.mem_append_right _ h) (fun hc b o e=>List.mem_append_left _ (hBz hc b o e))⟩

theorem bag_laws_toEntry (F:Nat){w:World}{K:KMap}{a3:Option Addr}{n4 c5:Nat}{p0_a:GEntry}{r:GEntry}(hS:SH w K [] w K [])(hl1:p0_a.Field.length≤maxLen)(hl2:p0_a.Term.length≤maxLen)(hs6:SliceAt tGPost K a3 n4 c5 p0_a.Posts)(hm:M.laws_toEntry F p0_a=some r):
  Calls Tryz.prog 163 #[.agg #[sv p0_a.Field,sv p0_a.Term,.slice a3 n4 c5]] w fun e w'=>∃(a_3:Option Addr) (n_4 c_5:Nat) (K':KMap) (B':List Nat),e= .returned (.agg #[sv r.Field,sv r.Term,.slice a_3 n_4 c_5])∧SH w K [] w' K' [bag B']∧r.Field.length≤maxLen∧r.Term.length≤maxLen∧SliceAt tGPost (K'.only B') a_3 n_4 c_5 r.Posts:=by
 rw [M.laws_toEntry] at hm
 refine calls_in Tryz.func163 u Tryz.ntmps163 u ?_
 refine sr ?_
 refine wl_box wn u u hS ?_
 intro g7 w9 hS10
 have hS11:SH _ _ _ _ _ [obj g7 [sv p0_a.Field,sv p0_a.Term,.slice a3 n4 c5] 201]:=hS10
 refine wl_alloc wn u tf116 hS11 ?_
 intro g12 w13 hS14
 have hS15:SH _ _ _ _ _ [obj g12 [sv [],sv [],.slice none 0 0] 116,_]:=hS14
 refine nr ?_
 refine wl_alloc wn u tf116 hS15 ?_
 intro g16 w17 hS18
 have hS19:SH _ _ _ _ _ [obj g16 [sv [],sv [],.slice none 0 0] 116,_,_]:=hS18
 refine nr ?_
 refine wl_val wn u (rv_fieldAddr ff201_0 u) ?_
 refine wl_val wn u (rv_loadm1 tf9 u (.tail _ (.tail _ (.head _))) hS19 u) ?_
 refine wl_val wn u (rv_fieldAddr ff116_0 u) ?_
 refine wl_store (cs':=[sv p0_a.Field,sv [],.slice none 0 0]) (v:=sv p0_a.Field) wn tf9 u u u (by simp [Value.cells,Value.oneCell',sv]) hS19 u u ?_
 intro w20 hS21
 refine nr ?_
 refine wl_val wn u (rv_fieldAddr ff201_1 u) ?_
 refine wl_val wn u (rv_loadm1 tf9 u (.tail _ (.tail _ (.head _))) hS21 u) ?_
 refine wl_val wn u (rv_fieldAddr ff116_1 u) ?_
 refine wl_store (cs':=[sv p0_a.Field,sv p0_a.Term,.slice none 0 0]) (v:=sv p0_a.Term) wn tf9 u u u (by simp [Value.cells,Value.oneCell',sv]) hS21 u u ?_
 intro w22 hS23
 refine nr ?_
 refine wl_val wn u (rv_fieldAddr ff201_2 u) ?_
 refine wl_val wn u (rv_loadm1 tf199 u (.tail _ (.tail _ (.head _))) hS23 u) ?_
 obtain⟨r24,hx25,h26⟩:=ob hm
 refine wl_call wn u (rt_call (vs:=[.slice a3 n4 c5]) co216 u) ((bag_laws_toPostS F) hS23.enter0 hs6 hx25) ?_
 rintro e34 w28 ⟨a30,n31,c32,K27,B27,rfl,hS29,hs33⟩
 refine⟨_,u,?_⟩
 have hS35:SH _ _ _ _ _ [_,_,_,_]:=SH.call0 hS23 hS29
 refine wl_val wn u (rv_fieldAddr ff116_2 u) ?_
 have hS36:SH _ _ _ _ _ [_,_,_,_]:=SH.front (p:=[_]) hS35
 refine wl_store (cs':=[sv p0_a.Field,sv p0_a.Term,.slice a30 n31 c32]) (v:=.slice a30 n31 c32) wn tf61 u u u (by simp [Value.cells,Value.oneCell']) hS36 u u ?_
 intro w37 hS38
 refine nr ?_
 refine wl_val wn u (rv_loadmS (ds:=[sv p0_a.Field,sv p0_a.Term,.slice a30 n31 c32]) tf116 u (.head _) hS38 u u) ?_
 have hS39:SH _ _ _ _ _ [_,_,_,_]:=SH.front (p:=[_,_]) hS38
 refine wl_store (cs':=[sv p0_a.Field,sv p0_a.Term,.slice a30 n31 c32]) (v:=.agg #[sv p0_a.Field,sv p0_a.Term,.slice a30 n31 c32]) wn tf116 u u u (by simp [Value.cells,Value.oneCell',sv]) hS39 u u ?_
 intro w40 hS41
 refine nq ?_
 refine wc_ret ?_
 obtain rfl:=oi h26
 have hS42:SH _ _ _ _ _ [_]:=SH.sublist hS41 (.cons _ (.cons _ (.cons_cons _ (.cons _ .slnil))))
 exact qe_ret (vs:=[_]) Tryz.results163 ⟨⟨_,_,u,run_loadVar_at tf116 (cs:=[sv p0_a.Field,sv p0_a.Term,.slice a30 n31 c32]) (fun j c e=>by rw [Nat.zero_add,hS41.mem_obj (.head _)];exact e) (.inl ⟨u,u,u⟩)⟩,trivial⟩ ⟨a30,n31,c32,K27,B27,u,hS42,hl1,hl2,(SliceAt.mono (only_mono (KLe.refl _) fun _ h=>h) hs33)⟩

theorem bag_laws_toEntryS (F:Nat){w:World}{K:KMap}{a1:Option Addr}{n2 c3:Nat}{p0_a:List GEntry}{r:(List GEntry)}(hS:SH w K [] w K [])(hs4:SliceAt tGEntry K a1 n2 c3 p0_a)(hm:M.laws_toEntryS F p0_a=some r):
  Calls Tryz.prog 93 #[.slice a1 n2 c3] w fun e w'=>∃(a_1:Option Addr) (n_2 c_3:Nat) (K':KMap) (B':List Nat),e= .returned (.slice a_1 n_2 c_3)∧SH w K [] w' K' [bag B']∧SliceAt tGEntry (K'.only B') a_1 n_2 c_3 r:=by
 rw [M.laws_toEntryS] at hm
 refine calls_in Tryz.func93 u Tryz.ntmps93 u ?_
 refine sr ?_
 refine wl_val wn u (rv_assign (v:=.slice none 0 0) u) ?_
 refine nr ?_
 refine vm u u ?_
 refine wl_val wn u (rv_len (t:=tGEntry) Tryz.underlying57 u hs4) ?_
 obtain⟨x5,hx6,h7⟩:=ob hm
 refine wl_make (t:=Ty.fix tGEntry (K.only [])) wn u Tryz.underlying44 tf116 u u u hx6 ⟨none,0,0,u,(by decide :([]:Str).length≤maxLen),(by decide :([]:Str).length≤maxLen),(SliceAt.nil _ _)⟩ hS ?_
 intro g8 cs9 w10 hmx13 hrow11 hS12
 obtain⟨m14,hm15⟩: ∃m,m=x5.length:=⟨_,u⟩
 rw [←hm15] at hmx13
 rw [←hm15]
 refine va u u ?_
 refine nsr ?_
 refine wl_val wn u (rv_assign (v:=.int .i64 0) u) ?_
 refine nq ?_
 obtain⟨o16,h17,h18⟩:=ob h7
 refine wc_cutg (fun E' w'=>∃(cs23:List Value) (K19:KMap) (B19:List Nat),E'=[(3,.slice (some ⟨g8,0,none⟩) m14 m14)]∧SH w K [] w' K19 [obj g8 cs23 116,bag B19]∧KLe K K19∧RowAt true tGEntry (K19.only B19) cs23 o16∧m14=o16.length) ?_ ?_
 ·refine wc_block ?_
  obtain⟨r27,h28,h29⟩:=ob h17
  refine wc_while' (fun (s26:Int×(List GEntry)) E' w'=>∃(cs36:List Value) (K30:KMap) (B30:List Nat),E'=[(0,.slice a1 n2 c3),(3,.slice (some ⟨g8,0,none⟩) m14 m14),(4,.int .i64 s26.1)]∧SH w K [] w' K30 [obj g8 cs36 116,bag B30]∧KLe K K30∧rng64 s26.1∧RowAt true tGEntry (K30.only B30) cs36 s26.2∧m14=s26.2.length) h28 ⟨cs9,K,[],u,(SH.perm (SH.bag0 hS12) (List.Perm.swap _ _ _)),(KLe.refl _),d_0,hrow11,hm15⟩ ⟨u,u,u,trivial⟩ ?_
  rintro s26 _ w33 r39 h40 hx41 ⟨cs36,K30,B30,rfl,hS34,hl31,hr35,hrow37,hm38⟩
  refine wc_seq ?_
  refine sr ?_
  refine vm u u ?_
  refine vm u u ?_
  refine wl_val wn u (rv_len (t:=tGEntry) Tryz.underlying57 u (SliceAt.mono hl31 hs4)) ?_
  refine wl_val wn u (rv_lss u u) ?_
  refine nq ?_
  refine wc_cond u (fun hb42=>?_) (fun hb42=>?_)
  ·have h43:=cond_t hb42 h40
   refine wc_skip ?_
   refine qs ?_
   refine wc_block ?_
   refine wc_region ?_
   refine vm u u ?_
   refine vm u u ?_
   refine vm u u ?_
   refine vm u u ?_
   obtain⟨x44,hx45,h46⟩:=ob h43
   refine wl_indexAddr (t:=tGEntry) wn u Tryz.underlying57 tf201 u u (SliceAt.mono hl31 hs4) hx45 ?_
   intro b47 o48 u49 hu50 ha51
   obtain⟨a54,n55,c56,rfl,hl52,hl53,hs57⟩:=hu50
   have ha58:AtK _ b47 o48 [sv x44.Field,sv x44.Term,.slice a54 n55 c56]:=ha51
   refine wl_val wn u (rv_loadS (cs:=[sv x44.Field,sv x44.Term,.slice a54 n55 c56]) tf201 u hS34 ha58 u) ?_
   obtain⟨r59,hx60,h61⟩:=ob h46
   refine wl_call wn u (rt_call (vs:=[.agg #[sv x44.Field,sv x44.Term,.slice a54 n55 c56]]) co163 u) ((bag_laws_toEntry F) hS34.enter0 hl52 hl53 hs57 hx60) ?_
   rintro e71 w63 ⟨a67,n68,c69,K62,B62,rfl,hS64,hl65,hl66,hs70⟩
   refine⟨_,u,?_⟩
   have hS72:SH _ _ _ _ _ [_,_]:=SH.bagJoin (SH.perm (SH.call0 hS34 hS64) (List.Perm.cons _ (List.Perm.swap _ _ _)))
   obtain⟨x73,hx74,h75⟩:=ob h61
   obtain⟨u76,hu77,hk78⟩:=RowAt.at (RowAt.mono (only_mono hS64.le fun _ h=>h) hrow37) hx74
   obtain⟨a82,n83,c84,rfl,hl80,hl81,hs85⟩:=hu77
   have hk79: ∀(j:Nat) (d:Value),[sv x73.Field,sv x73.Term,.slice a82 n83 c84][j]? =some d→cs36[s26.1.toNat*tGEntry.size+j]? =some d:=hk78
   refine wl_val wn u (rv_indexRow (t:=tGEntry) Tryz.underlying44 tf116 u u hm38 hx74) ?_
   have hS86:SH _ _ _ _ _ [_,_]:=SH.front (p:=[_]) hS72
   refine wl_storeRow (t:=Ty.fix tGEntry (K62.only (B62++B30))) (v:=.agg #[sv r59.Field,sv r59.Term,.slice a67 n68 c69]) (e:=r59) wn tf116 u u ⟨a67,n68,c69,u,hl65,hl66,(SliceAt.mono (only_mono (KLe.refl _) fun _ h=>List.mem_append_left _ h) hs70)⟩ hS86 (show RowAt true tGEntry (K62.only (B62++B30)) _ _ from RowAt.mono (only_mono hS64.le fun _ h=>List.mem_append_right _ h) hrow37) hx74 ?_
   intro cs87 w88 hrow89 hS90
   have hm91:=hm38.trans (List.length_set (i:=s26.1.toNat) (a:=r59)).symm
   refine nb ?_
   refine qe_seq ?_
   refine wc_region ?_
   refine vm u u ?_
   refine wl_val wn u (rv_add u u) ?_
   refine va u u ?_
   refine wl_nil ?_
   obtain rfl:=oi h75
   have hS92:=hS90
   exact qe_mid' ⟨_,u,cs87,K62,(B62++B30),u,hS92,(hl31.trans hS64.le),(w64_rng _),hrow89,hm91⟩ ⟨u,u,u,trivial⟩
  ·have h43:=cond_f hb42 h40
   refine wc_exit ?_
   refine qe_then_exit ?_
   refine qe_then_exit ?_
   obtain rfl:=oi h43
   have e93:=hx41 _ u
   subst e93
   refine qe_block_eq ?_
   obtain rfl:=oi h29
   exact qe_mid' ⟨cs36,K30,B30,u,hS34,hl31,hrow37,hm38⟩ ⟨u,trivial⟩
 ·rintro _ w21 ⟨cs23,K19,B19,rfl,hS22,hl20,hrow24,hm25⟩
  refine qr ?_
  refine vm u u ?_
  refine va u u ?_
  refine nq ?_
  refine wc_ret ?_
  obtain⟨K94,hl95,hs96,hS97⟩:=SH.freeze (t:=Ty.fix tGEntry (K19.only B19)) hS22 hrow24 (row_max hm25 hmx13)
  rw [←hm25] at hs96 hS97
  obtain rfl:=oi h18
  obtain⟨Bz,hSz,hBz⟩:=SH.bagTail hS97
  exact qe_ret (vs:=[_]) Tryz.results93 ⟨u,trivial⟩ ⟨(some ⟨g8,0,none⟩),m14,m14,K94,(Bz++B19),u,SH.bagJoin hSz,SliceAt.unfix hs96 (only_mono hl95 fun _ h=>List.mem_append_right _ h) (fun hc b o e=>List.mem_append_left _ (hBz hc b o e))⟩

theorem bag_laws_toSeg (F:Nat){w:World}{K:KMap}{a1:Option Addr}{n2 c3:Nat}{a5:Option Addr}{n6 c7:Nat}{p0_a:GSeg}{r:GSeg}(hS:SH w K [] w K [])(hs4:SliceAt tGDoc K a1 n2 c3 p0_a.Docs)(hs8:SliceAt tGEntry K a5 n6 c7 p0_a.Entries)(hm:M.laws_toSeg F p0_a=some r):
  Calls Tryz.prog 31 #[.agg #[.slice a1 n2 c3,.slice a5 n6 c7]] w fun e w'=>∃(a_1:Option Addr) (n_2 c_3:Nat) (a_5:Option Addr) (n_6 c_7:Nat) (K':KMap) (B':List Nat),e= .returned (.agg #[.slice a_1 n_2 c_3,.slice a_5 n_6 c_7])∧SH w K [] w' K' [bag B']∧SliceAt tGDoc (K'.only B') a_1 n_2 c_3 r.Docs∧SliceAt tGEntry (K'.only B') a_5 n_6 c_7 r.Entries:=by
 rw [M.laws_toSeg] at hm
 refine calls_in Tryz.func31 u Tryz.ntmps31 u ?_
 refine sr ?_
 refine wl_box wn u u hS ?_
 intro g9 w10 hS11
 have hS12:SH _ _ _ _ _ [obj g9 [.slice a1 n2 c3,.slice a5 n6 c7] 59]:=hS11
 refine wl_alloc wn u tf46 hS12 ?_
 intro g13 w14 hS15
 have hS16:SH _ _ _ _ _ [obj g13 [.slice none 0 0,.slice none 0 0] 46,_]:=hS15
 refine nr ?_
 refine wl_alloc wn u tf46 hS16 ?_
 intro g17 w18 hS19
 have hS20:SH _ _ _ _ _ [obj g17 [.slice none 0 0,.slice none 0 0] 46,_,_]:=hS19
 refine nr ?_
 refine wl_val wn u (rv_fieldAddr ff59_0 u) ?_
 refine wl_val wn u (rv_loadm1 tf40 u (.tail _ (.tail _ (.head _))) hS20 u) ?_
 obtain⟨r21,hx22,h23⟩:=ob hm
 refine wl_call wn u (rt_call (vs:=[.slice a1 n2 c3]) co20 u) ((bag_laws_toDocS F) hS20.enter0 hs4 hx22) ?_
 rintro e31 w25 ⟨a27,n28,c29,K24,B24,rfl,hS26,hs30⟩
 refine⟨_,u,?_⟩
 have hS32:SH _ _ _ _ _ [_,_,_,_]:=SH.call0 hS20 hS26
 refine wl_val wn u (rv_fieldAddr ff46_0 u) ?_
 have hS33:SH _ _ _ _ _ [_,_,_,_]:=SH.front (p:=[_]) hS32
 refine wl_store (cs':=[.slice a27 n28 c29,.slice none 0 0]) (v:=.slice a27 n28 c29) wn tf43 u u u (by simp [Value.cells,Value.oneCell']) hS33 u u ?_
 intro w34 hS35
 refine nr ?_
 refine wl_val wn u (rv_fieldAddr ff59_1 u) ?_
 refine wl_val wn u (rv_loadm1 tf57 u (.tail _ (.tail _ (.tail _ (.head _)))) hS35 u) ?_
 obtain⟨r36,hx37,h38⟩:=ob h23
 refine wl_call wn u (rt_call (vs:=[.slice a5 n6 c7]) co93 u) ((bag_laws_toEntryS F) hS35.enter0 (SliceAt.mono hS26.le hs8) hx37) ?_
 rintro e46 w40 ⟨a42,n43,c44,K39,B39,rfl,hS41,hs45⟩
 refine⟨_,u,?_⟩
 have hS47:SH _ _ _ _ _ [_,_,_,_,_]:=SH.call0 hS35 hS41
 refine wl_val wn u (rv_fieldAddr ff46_1 u) ?_
 have hS48:SH _ _ _ _ _ [_,_,_,_,_]:=SH.front (p:=[_]) hS47
 refine wl_store (cs':=[.slice a27 n28 c29,.slice a42 n43 c44]) (v:=.slice a42 n43 c44) wn tf44 u u u (by simp [Value.cells,Value.oneCell']) hS48 u u ?_
 intro w49 hS50
 refine nr ?_
 refine wl_val wn u (rv_loadmS (ds:=[.slice a27 n28 c29,.slice a42 n43 c44]) tf46 u (.head _) hS50 u u) ?_
 have hS51:SH _ _ _ _ _ [_,_,_,_,_]:=SH.front (p:=[_,_,_]) hS50
 refine wl_store (cs':=[.slice a27 n28 c29,.slice a42 n43 c44]) (v:=.agg #[.slice a27 n28 c29,.slice a42 n43 c44]) wn tf46 u u u (by simp [Value.cells,Value.oneCell']) hS51 u u ?_
 intro w52 hS53
 refine nq ?_
 refine wc_ret ?_
 obtain rfl:=oi h38
 have hS54:SH _ _ _ _ _ [_,_,_,_,_]:=SH.front (p:=[_,_]) hS53
 have hS55:SH _ _ _ _ _ [_,_,_,_,_]:=SH.front (p:=[_,_,_]) hS54
 have hS56:SH _ _ _ _ _ [_,_]:=SH.sublist hS55 (.cons_cons _ (.cons_cons _ (.cons _ (.cons _ (.cons _ .slnil)))))
 exact qe_ret (vs:=[_]) Tryz.results31 ⟨⟨_,_,u,run_loadVar_at tf46 (cs:=[.slice a27 n28 c29,.slice a42 n43 c44]) (fun j c e=>by rw [Nat.zero_add,hS53.mem_obj (.head _)];exact e) (.inl ⟨u,u,u⟩)⟩,trivial⟩ ⟨a27,n28,c29,a42,n43,c44,K39,(B24++B39),u,SH.bagJoin hS56,(SliceAt.mono (only_mono hS41.le fun _ h=>List.mem_append_left _ h) hs30),(SliceAt.mono (only_mono (KLe.refl _) fun _ h=>List.mem_append_right _ h) hs45)⟩

theorem ok_impl_within {q0:Int}{q1:Int}{q2:Int}{r:Bool}(hS:SH w K [] w K [])(c:rng64 q0)(d:rng64 q1)(f:rng64 q2)(hm:M.impl_within F q0 q1 q2=some r):
  Calls prog 108 #[V6 q0,V6 q1,V6 q2] w (R_b w K r):=by
 rw [M.impl_within] at hm
 refine ci func108 u ntmps108 (sr (lv (r_f u) (nr (mv u (mv u (lv (rv_geq u u) (mv u (bt hm (fun a b=>?_) (fun a b=>?_)))))))))
 ·refine lg a (rv_move u) (lg a (rv_move u) (lg a (rv_leq u u) (lv (rv_pick_t u a u) (av u (nq (wc_ret ?_))))))
  cases oi b
  exact ey results108 ⟨K,u,hS⟩
 refine lu a (lu a (lu a (lv (p_f u a u) (av u (nq (wc_ret ?_))))))
 cases oi b
 exact ey results108 ⟨K,u,hS⟩

theorem ok_impl_wordByte {q0:UInt8}{r:Bool}(hS:SH w K [] w K [])(hm:M.impl_wordByte F q0=some r):
  Calls prog 185 #[iv8 q0] w (R_b w K r):=by
 rw [M.impl_wordByte] at hm
 refine ci func185 u ntmps185 (sr (lv (r_f u) (nr (mv u (lv (rv_bge (b:=(97:UInt8)) u u) (mv u (bt hm (fun c i=>?_) (fun c i=>?_))))))))
 ·refine lg c (rv_move u) (lg c (rv_ble (b:=(122:UInt8)) u u) (lv (rv_pick_t u c u) (mv u (bt i (fun a k=>?_) (fun a k=>?_)))))
  ·refine lu a (lu a (lu a (wl_un (uu u u) u (wl_un (uu u u) u (lu a (lv (p_t u a u) (av u (nq (wc_ret ?_)))))))))
   cases oi k
   exact ey results185 ⟨K,u,hS⟩
  refine lg a (rv_move u) (lg a (rv_bge (b:=(48:UInt8)) u u) (lg a (rv_move u) (bt k (fun d l=>?_) (fun d l=>?_))))
  ·refine lg d (rv_move u) (lg d (rv_ble (b:=(57:UInt8)) u u) (lg a (rv_pick_t u d u) (lv (rv_pick_f u a u) (av u (nq (wc_ret ?_))))))
   cases oi l
   exact ey results185 ⟨K,u,hS⟩
  refine lu d (lu d (lg a (p_f u d u) (lv (rv_pick_f u a u) (av u (nq (wc_ret ?_))))))
  cases oi l
  exact ey results185 ⟨K,u,hS⟩
 refine lu c (lu c (lv (p_f u c u) (mv u (lg u (rv_move u) (lg u (rv_bge (b:=(48:UInt8)) u u) (lg u (rv_move u) (bt i (fun f m=>?_) (fun f m=>?_))))))))
 ·refine lg f (rv_move u) (lg f (rv_ble (b:=(57:UInt8)) u u) (lg u (rv_pick_t u f u) (lv (rv_pick_f u u u) (av u (nq (wc_ret ?_))))))
  cases oi m
  exact ey results185 ⟨K,u,hS⟩
 refine lu f (lu f (lg u (p_f u f u) (lv (rv_pick_f u u u) (av u (nq (wc_ret ?_))))))
 cases oi m
 exact ey results185 ⟨K,u,hS⟩

theorem ok_impl_WordOk {q0:Str}{r:Bool}(hS:SH w K [] w K [])(f:q0.length≤maxLen)(hm:M.impl_WordOk F q0=some r):
  Calls prog 123 #[sv q0] w (R_b w K r):=by
 rw [M.impl_WordOk] at hm
 refine ci func123 u ntmps123 (sr (lv (r_f u) (nsr (mv u (lv (rv_slen underlying9 u) (lv (r_m u) (nq ?_)))))))
 obtain⟨y,A,a⟩:=ob hm
 refine wc_cutg (IE y w K [] K [(0,sv q0)] []) ?_ ?_
 ·refine wc_block ?_
  obtain⟨Y,B,i⟩:=ob A
  refine qf (fun (k:Nat) (l:Unit)=>IV w K [] K [(0,sv q0),(5,V6 (q0.length:Int)),(6,V6 ((k:Nat):Int))] []) B ⟨K,u,hS,kr⟩ ?_ ?_
  ·rintro k l _ C aa hi21 D G ⟨m,rfl,b,c⟩
   refine sr (lv (rv_lss u u) (ns (wc_cond_t u (decide_eq_true (by omega)) (wc_skip (qe_seq (wc_seq (wc_block (sr (mv u (av u (nr (mv u ?_))))))))))))
   refine mv u ?_
   obtain⟨ab,H,I⟩:=ob D
   refine lv (rv_sidx underlying9 u u H) ?_
   obtain⟨ac,J,O⟩:=ob I
   refine lk co185 (ok_impl_wordByte F b.enter0 J) ?_
   rintro ad ae ⟨o,rfl,q⟩
   have s:=(b.c0 q).t0
   refine lv (rv_not u) (nq (wcc O u (fun R d=>?_) (fun R d=>?_)))
   ·refine sr (lv (r_f u) (nq (wc_ret (qe_block_ret (qe_then_ret (qe_then_ret ?_))))))
    cases oi d
    cases G _ u
    refine qe_block_ret (qe_then_ret ?_)
    cases oi i
    refine qe_then_ret ?_
    cases oi a
    exact ey results123 ⟨o,u,s⟩
   refine wc_skip (qe_block (qg (lv (rv_add_to u u (w64_succ hi21 f)) (mv u (wl_nil ?_)))))
   cases oi d
   exact qd ⟨_,u,o,u,s,(c.trans q.le)⟩
  rintro l _ C S ⟨m,rfl,b,c⟩
  subst S
  refine sr (lv (rv_lss u u) (ns (wc_cond_f u (decide_eq_false (by omega)) (wc_exit (qe_then_exit (qe_then_exit (qe_block_eq ?_)))))))
  cases oi i
  exact qd ⟨_,m,u,u,b,c⟩
 rintro _ w9 ⟨s5,K6,rfl,rfl,x,ai⟩
 have a:=elim_l a
 refine qr (mv u (lv (rv_slen underlying9 u) ?_))
 obtain⟨aj,T,U⟩:=ob a
 refine lk co108 (ok_impl_within F x.enter0 (rng_nat f) (by decide :rng64 1) (by decide :rng64 12) T) ?_
 rintro ak al ⟨V,rfl,W⟩
 have X:=(x.c0 W).t0
 refine av u (nq (wc_ret ?_))
 cases oi U
 exact ey results123 ⟨V,u,X⟩

theorem ok_impl_TextOk {q0:Str}{r:Bool}(hS:SH w K [] w K [])(y:q0.length≤maxLen)(hm:M.impl_TextOk F q0=some r):
  Calls prog 148 #[sv q0] w (R_b w K r):=by
 rw [M.impl_TextOk] at hm
 refine ci func148 u ntmps148 (sr (lv (r_f u) (nsr (mv u (lv (rv_slen underlying9 u) (lv (r_m u) (nq ?_)))))))
 obtain⟨A,B,d⟩:=ob hm
 refine wc_cutg (IE A w K [] K [(0,sv q0)] []) ?_ ?_
 ·refine wc_block ?_
  obtain⟨ab,C,o⟩:=ob B
  refine qf (fun (i:Nat) (q:Unit)=>IV w K [] K [(0,sv q0),(5,V6 (q0.length:Int)),(6,V6 ((i:Nat):Int))] []) C ⟨K,u,hS,kr⟩ ?_ ?_
  ·rintro i q _ D ac hi21 G H ⟨c,rfl,f,k⟩
   refine sr (lv (rv_lss u u) (ns (wc_cond_t u (decide_eq_true (by omega)) (wc_skip (qe_seq (wc_seq (wc_block (sr (mv u (av u (ns ?_)))))))))))
   obtain⟨I,J,O⟩:=ob G
   refine wc_cutg (IV w K [] c [(0,sv q0),(5,V6 (q0.length:Int)),(6,V6 ((i:Nat):Int)),(18,.bool I)] []) ?_ ?_
   ·refine wc_region (mv u (mv u ?_))
    obtain⟨ad,R,S⟩:=ob J
    refine lv (rv_sidx underlying9 u u R) (lv (rv_bl (b:=(32:UInt8)) u u) (mv u (bt S (fun a l=>?_) (fun a l=>?_))))
    ·refine lu a (lu a (lu a (lu a (lv (p_t u a u) (wl_nil ?_)))))
     cases oi l
     exact qd ⟨c,u,f,kr⟩
    refine lg a (rv_move u) (lg a (rv_move u) ?_)
    obtain⟨ae,T,U⟩:=ob l
    refine lg a (rv_sidx underlying9 u u T) (lg a (rv_bg (b:=(126:UInt8)) u u) (lv (rv_pick_f u a u) (wl_nil ?_)))
    cases oi U
    exact qd ⟨c,u,f,kr⟩
   rintro _ af ⟨s,rfl,x,V⟩
   refine qe_seq (wcc O u (fun W m=>?_) (fun W m=>?_))
   ·refine sr (lv (r_f u) (nq (wc_ret (qe_block_ret (qe_then_ret (qe_then_ret ?_))))))
    cases oi m
    cases H _ u
    refine qe_block_ret (qe_then_ret ?_)
    cases oi o
    refine qe_then_ret ?_
    cases oi d
    exact ey results148 ⟨s,u,x⟩
   refine wc_skip (qe_block (qg (lv (rv_add_to u u (w64_succ hi21 y)) (mv u (wl_nil ?_)))))
   cases oi m
   exact qd ⟨_,u,s,u,x,(k.trans V)⟩
  rintro q _ D X ⟨c,rfl,f,k⟩
  subst X
  refine sr (lv (rv_lss u u) (ns (wc_cond_f u (decide_eq_false (by omega)) (wc_exit (qe_then_exit (qe_then_exit (qe_block_eq ?_)))))))
  cases oi o
  exact qd ⟨_,c,u,u,f,k⟩
 rintro _ w9 ⟨s5,Y,rfl,rfl,aa,ai⟩
 have d:=elim_l d
 refine qr (mv u (lv (rv_slen underlying9 u) (lv (rv_leq u u) (av u (nq (wc_ret ?_))))))
 cases oi d
 exact ey results148 ⟨Y,u,aa⟩

theorem ok_impl_DocOk {q0:GDoc}{r:Bool}(hS:SH w K [] w K [])(aH:rng64 q0.Id)(D:SliceAt tGField K A a b q0.Fields)(G:SliceAt tGAttr K B c d q0.Nums)(hm:M.impl_DocOk F q0=some r):
  Calls prog 105 #[.agg #[V6 q0.Id,V3 A a b,V3 B c d]] w (R_b w K r):=by
 rw [M.impl_DocOk] at hm
 refine ci func105 u ntmps105 (sr (bx u hS fun k cT aI=>?_))
 have Y:SH _ _ _ _ _ [obj k [V6 q0.Id,V3 A a b,V3 B c d] 77]:=aI
 refine lv (r_f u) (ns (wc_seq ?_))
 obtain⟨aJ,aK,aL⟩:=ob hm
 refine wc_cutg (IV w K [] K [(1,pt k),(22,.bool aJ)] [obj k [V6 q0.Id,V3 A a b,V3 B c d] 77]) ?_ ?_
 ·refine wc_region (fl ff77_0 u tf3 m0 Y u ?_)
  obtain⟨cU,aM,aN⟩:=ob aK
  refine lk co108 (ok_impl_within F Y.enter0 aH (by decide :rng64 1) (by decide :rng64 9999) aM) ?_
  rintro cV cW ⟨aa,rfl,C⟩
  have H:=(Y.c0 C).t1
  refine lv (rv_not u) (mv u (bt aN (fun o ab=>?_) (fun o ab=>?_)))
  ·refine lu o (lu o (lu o (lu o (lv (p_t u o u) (mv u (lu u (lu u (lu u (lu u ?_)))))))))
   refine lv (p_t u u u) (wl_nil ?_)
   cases oi ab
   exact qd ⟨aa,u,H,C.le⟩
  refine lg o (rv_fieldAddr ff77_1 u) (lg o (rv_loadm1 tf74 u m0 H u) (lg o (rv_len underlying74 u (D.mono C.le)) (lg o (rv_gtr u u) (lv (rv_pick_f u o u) (mv u (bt ab (fun q ac=>?_) (fun q ac=>?_)))))))
  ·refine lu q (lu q (lu q (lu q (lv (p_t u q u) (wl_nil ?_)))))
   cases oi ac
   exact qd ⟨aa,u,H,C.le⟩
  refine lg q (rv_fieldAddr ff77_2 u) (lg q (rv_loadm1 tf75 u m0 H u) (lg q (rv_len underlying75 u (G.mono C.le)) (lg q (rv_gtr u u) (lv (rv_pick_f u q u) (wl_nil ?_)))))
  cases oi ac
  exact qd ⟨aa,u,H,C.le⟩
 rintro _ cX ⟨O,rfl,ad,y⟩
 refine qe_seq (wcc aL u (fun aO ae=>?_) (fun aO ae=>?_))
 ·refine sr (lv (r_f u) (nq (rr ?_)))
  cases oi ae
  exact ey results105 ⟨O,u,ad.s⟩
 refine wc_skip (qs (sr (fl ff77_1 u tf74 m0 ad u (lv (rv_len underlying74 u (D.mono y)) (lv (r_m u) (nq ?_))))))
 obtain⟨aP,aQ,R⟩:=ob ae
 refine wc_cutg (IE aP w K [] O [(1,pt k)] [obj k [V6 q0.Id,V3 A a b,V3 B c d] 77]) ?_ ?_
 ·refine wc_block ?_
  obtain⟨cY,aR,aw⟩:=ob aQ
  refine qf (fun (af:Nat) (ax:Unit)=>IV w K [] O [(1,pt k),(24,V3 A a b),(25,V6 (q0.Fields.length:Int)),(26,V6 ((af:Nat):Int))] [obj k [V6 q0.Id,V3 A a b,V3 B c d] 77]) aR ⟨O,u,ad,kr⟩ ?_ ?_
  ·rintro af ax _ aS cZ hi54 aT aU ⟨ag,rfl,S,I⟩
   refine sr (lv (rv_lss u u) (ns (wc_cond_t u (decide_eq_true (by omega)) (wc_skip (qe_seq (wc_seq (wc_block (sr (mv u ?_)))))))))
   obtain⟨T,aV,aW⟩:=ob aT
   refine li underlying74 tf108 (D.mono (y.trans I)) aV fun aX aY da aZ ba=>?_
   obtain⟨rfl,bb,bc⟩:=aZ
   have bd:AtK _ aX aY [sv T.Name,sv T.Text]:=ba
   refine lv (rv_loadS tf108 u S bd u) (al tf108 S fun be db bf=>?_)
   have bg:SH _ _ _ _ _ [obj be [sv [],sv []] 108,_]:=bf
   refine av u (lw [sv T.Name,sv T.Text] tf108 bg fun dc bh=>(ns ?_))
   obtain⟨bi,bj,bk⟩:=ob aW
   refine wc_cutg (IV w K [] ag [(1,pt k),(24,V3 A a b),(25,V6 (q0.Fields.length:Int)),(26,V6 ((af:Nat):Int)),(56,.bool bi)] [obj k [V6 q0.Id,V3 A a b,V3 B c d] 77]) ?_ ?_
   ·refine wc_quiet mixed (by kernel_rfl) bh (kv (rv_fieldAddr ff108_0 u) (kh (rq_loadm1 tf9 u m0 u) ?_))
    obtain⟨dd,bl,bm⟩:=ob bj
    refine kc co123 (fun _ _ bn de=>(ok_impl_WordOk F) bn.enter0 bb bl) (kv (rv_not u) (km u (bt bm (fun s ah=>?_) (fun s ah=>?_))))
    ·refine kn s (kn s (kn s (kn s (kv (p_t u s u) (km u (qv u u u u (qv u u u u (qv u u u u ?_))))))))
     iterate 10 refine ku ?_
     refine qv u u u u (kv (p_t u u u) (wq_nil ?_))
     rintro df ⟨bo,bp,bq⟩
     cases oi ah
     exact qd ⟨bo,u,bp.s,bq⟩
    refine kg s (rv_fieldAddr ff108_1 u) (kgh s (rq_loadm1 tf9 u m0 u) ?_)
    obtain⟨dg,br,bs⟩:=ob ah
    refine kcg s co148 (fun _ _ bu dh=>(ok_impl_TextOk F) bu.enter0 bc br) (kg s (rv_not u) (kv (rv_pick_f u s u) (km u (bt bs (fun l ai=>?_) (fun l ai=>?_)))))
    ·refine kn l (kn l (kn l ?_))
     iterate 10 refine ku ?_
     refine kn l (kv (p_t u l u) (wq_nil ?_))
     rintro di ⟨bv,bz,bA⟩
     cases oi ai
     exact qd ⟨bv,u,bz.s,bA⟩
    refine kg l (rv_move u) (kg l (rv_gtr u u) (kg l (rv_move u) (bt ai (fun f aj=>?_) (fun f aj=>?_))))
    ·refine kg f (rv_fieldAddr ff77_1 u) (kgh f (rq_loadm1 tf74 u m1 u) (kg f (rv_move u) (kg f (rv_sub u u) ?_)))
     obtain⟨ay,bB,bC⟩:=ob aj
     refine wq_indexAddr (t:=tGField) (wg u u f) u underlying74 tf108 u u (D.mono (y.trans I)) bB fun bD bE dj bF bG=>?_
     obtain⟨rfl,dk,dl⟩:=bF
     have bH:AtK _ bD bE [sv ay.Name,sv ay.Text]:=bG
     refine kg f (rv_fieldAddr ff108_0 u) (kgh f (rq_load1 tf9 u (bH 0 _ u)) (kg f (rv_fieldAddr ff108_0 u) (kgh f (rq_loadm1 tf9 u m0 u) (kg f (rv_sgeq u u) (kg l (rv_pick_t u f u) (kv (rv_pick_f u l u) (wq_nil ?_)))))))
     rintro dm ⟨bI,bJ,bK⟩
     cases oi bC
     exact qd ⟨bI,u,bJ.s,bK⟩
    iterate 10 refine kn f ?_
    refine kg l (p_f u f u) (kv (rv_pick_f u l u) (wq_nil ?_))
    rintro dn ⟨bL,bM,bN⟩
    cases oi aj
    exact qd ⟨bL,u,bM.s,bN⟩
   rintro _ dp ⟨az,rfl,aA,bO⟩
   refine qe_seq (wcc bk u (fun bP ak=>?_) (fun bP ak=>?_))
   ·refine sr (lv (r_f u) (nq (wc_ret (qe_block_ret (qe_then_ret (qe_then_ret ?_))))))
    cases oi ak
    cases aU _ u
    refine qe_block_ret (qe_then_ret ?_)
    cases oi aw
    refine qe_then_ret ?_
    cases oi R
    exact ey results105 ⟨az,u,aA.s⟩
   refine wc_skip (qe_block (qg (lv (rv_add_to u u (w64_succ hi54 (SliceAt.max (D.mono y)))) (mv u (wl_nil ?_)))))
   cases oi ak
   exact qd ⟨_,u,az,u,aA,(I.trans bO)⟩
  rintro ax _ aS bQ ⟨ag,rfl,S,I⟩
  subst bQ
  refine sr (lv (rv_lss u u) (ns (wc_cond_f u (decide_eq_false (by omega)) (wc_exit (qe_then_exit (qe_then_exit (qe_block_eq ?_)))))))
  cases oi aw
  exact qd ⟨_,ag,u,u,S,I⟩
 rintro _ dq ⟨dr,am,rfl,rfl,aB,U⟩
 have R:=elim_l R
 refine qs (sr (fl ff77_2 u tf75 m0 aB u (lv (rv_len underlying75 u (G.mono (y.trans U))) (lv (r_m u) (nq ?_)))))
 obtain⟨bR,bS,V⟩:=ob R
 refine wc_cutg (IE bR w K [] am [] []) ?_ ?_
 ·refine wc_block ?_
  obtain⟨ds,bT,aC⟩:=ob bS
  refine qf (fun (an:Nat) (aD:Unit)=>IV w K [] am [(1,pt k),(59,V3 B c d),(60,V6 (q0.Nums.length:Int)),(61,V6 ((an:Nat):Int))] [obj k [V6 q0.Id,V3 A a b,V3 B c d] 77]) bT ⟨am,u,aB,kr⟩ ?_ ?_
  ·rintro an aD _ bU dt hi156 bV bW ⟨ao,rfl,W,J⟩
   refine sr (lv (rv_lss u u) (ns (wc_cond_t u (decide_eq_true (by omega)) (wc_skip (qe_seq (wc_seq (wc_block (sr (mv u ?_)))))))))
   obtain⟨X,bX,bY⟩:=ob bV
   refine li underlying75 tf142 (G.mono ((y.trans U).trans J)) bX fun bZ ca du cb cc=>?_
   obtain⟨rfl,cd,ce⟩:=cb
   have cf:AtK _ bZ ca [sv X.Name,V6 X.Num]:=cc
   refine lv (rv_loadS tf142 u W cf u) (al tf142 W fun cg dv ch=>?_)
   have cj:SH _ _ _ _ _ [obj cg [sv [],V6 0] 142,_]:=ch
   refine av u (lw [sv X.Name,V6 X.Num] tf142 cj fun dw ck=>(ns ?_))
   obtain⟨cl,cm,cn⟩:=ob bY
   refine wc_cutg (IV w K [] ao [(1,pt k),(59,V3 B c d),(60,V6 (q0.Nums.length:Int)),(61,V6 ((an:Nat):Int)),(91,.bool cl)] [obj k [V6 q0.Id,V3 A a b,V3 B c d] 77]) ?_ ?_
   ·refine wc_quiet mixed (by kernel_rfl) ck (kv (rv_fieldAddr ff142_0 u) (kh (rq_loadm1 tf9 u m0 u) ?_))
    obtain⟨dx,cp,cq⟩:=ob cm
    refine kc co123 (fun _ _ cr dy=>(ok_impl_WordOk F) cr.enter0 cd cp) (kv (rv_not u) (km u (bt cq (fun x ap=>?_) (fun x ap=>?_))))
    ·refine kn x (kn x (kn x (kn x (kv (p_t u x u) (km u (qv u u u u (qv u u u u (qv u u u u ?_))))))))
     iterate 10 refine ku ?_
     refine qv u u u u (kv (p_t u u u) (wq_nil ?_))
     rintro dz ⟨cs,ct,cu⟩
     cases oi ap
     exact qd ⟨cs,u,ct.s,cu⟩
    refine kg x (rv_fieldAddr ff142_1 u) (kgh x (rq_loadm1 tf3 u m0 u) ?_)
    obtain⟨dA,cv,cw⟩:=ob ap
    refine kcg x co108 (fun _ _ cx dB=>(ok_impl_within F) cx.enter0 ce d_0 (by decide :rng64 999999999) cv) (kg x (rv_not u) (kv (rv_pick_f u x u) (km u (bt cw (fun m aq=>?_) (fun m aq=>?_)))))
    ·refine kn m (kn m (kn m ?_))
     iterate 10 refine ku ?_
     refine kn m (kv (p_t u m u) (wq_nil ?_))
     rintro dC ⟨cy,cz,cA⟩
     cases oi aq
     exact qd ⟨cy,u,cz.s,cA⟩
    refine kg m (rv_move u) (kg m (rv_gtr u u) (kg m (rv_move u) (bt aq (fun i ar=>?_) (fun i ar=>?_))))
    ·refine kg i (rv_fieldAddr ff77_2 u) (kgh i (rq_loadm1 tf75 u m1 u) (kg i (rv_move u) (kg i (rv_sub u u) ?_)))
     obtain⟨aE,cB,cC⟩:=ob ar
     refine wq_indexAddr (t:=tGAttr) (wg u u i) u underlying75 tf142 u u (G.mono ((y.trans U).trans J)) cB fun cD cE dD cF cG=>?_
     obtain⟨rfl,dE,dF⟩:=cF
     have cH:AtK _ cD cE [sv aE.Name,V6 aE.Num]:=cG
     refine kg i (rv_fieldAddr ff142_0 u) (kgh i (rq_load1 tf9 u (cH 0 _ u)) (kg i (rv_fieldAddr ff142_0 u) (kgh i (rq_loadm1 tf9 u m0 u) (kg i (rv_sgeq u u) (kg m (rv_pick_t u i u) (kv (rv_pick_f u m u) (wq_nil ?_)))))))
     rintro dG ⟨cI,cJ,cK⟩
     cases oi cC
     exact qd ⟨cI,u,cJ.s,cK⟩
    iterate 10 refine kn i ?_
    refine kg m (p_f u i u) (kv (rv_pick_f u m u) (wq_nil ?_))
    rintro dH ⟨cL,cM,cN⟩
    cases oi ar
    exact qd ⟨cL,u,cM.s,cN⟩
   rintro _ dI ⟨aF,rfl,aG,cO⟩
   refine qe_seq (wcc cn u (fun cP au=>?_) (fun cP au=>?_))
   ·refine sr (lv (r_f u) (nq (wc_ret (qe_block_ret (qe_then_ret (qe_then_ret ?_))))))
    cases oi au
    cases bW _ u
    refine qe_block_ret (qe_then_ret ?_)
    cases oi aC
    refine qe_then_ret ?_
    cases oi V
    exact ey results105 ⟨aF,u,aG.s⟩
   refine wc_skip (qe_block (qg (lv (rv_add_to u u (w64_succ hi156 (SliceAt.max (G.mono (y.trans U))))) (mv u (wl_nil ?_)))))
   cases oi au
   exact qd ⟨_,u,aF,u,aG,(J.trans cO)⟩
  rintro aD _ bU cQ ⟨ao,rfl,W,J⟩
  subst cQ
  refine sr (lv (rv_lss u u) (ns (wc_cond_f u (decide_eq_false (by omega)) (wc_exit (qe_then_exit (qe_then_exit (qe_block_eq ?_)))))))
  cases oi aC
  exact qe_mid' ⟨_,ao,u,u,W.s,J⟩ trivial
 rintro _ dJ ⟨dK,cR,rfl,rfl,cS,dL⟩
 have V:=elim_l V
 refine qr (lv (r_t u) (nq (wc_ret ?_)))
 cases oi V
 exact ey results105 ⟨cR,u,cS⟩

theorem ok_impl_DocsOk {q0:List GDoc}{r:Bool}(hS:SH w K [] w K [])(f:SliceAt tGDoc K A a b q0)(hm:M.impl_DocsOk F q0=some r):
  Calls prog 45 #[V3 A a b] w (R_b w K r):=by
 rw [M.impl_DocsOk] at hm
 refine ci func45 u ntmps45 (sr (lv (r_f u) (nsr (mv u (lv (rv_len underlying43 u f) (lv (r_m u) (nq ?_)))))))
 obtain⟨U,V,k⟩:=ob hm
 refine wc_cutg (IE U w K [] K [(0,V3 A a b)] []) ?_ ?_
 ·refine wc_block ?_
  obtain⟨bc,W,J⟩:=ob V
  refine qf (fun (m:Nat) (O:Unit)=>IV w K [] K [(0,V3 A a b),(5,V3 A a b),(6,V6 (q0.length:Int)),(7,V6 ((m:Nat):Int))] []) W ⟨K,u,hS,kr⟩ ?_ ?_
  ·rintro m O _ X bd hi23 Y aa ⟨o,rfl,l,i⟩
   refine sr (lv (rv_lss u u) (ns (wc_cond_t u (decide_eq_true (by omega)) (wc_skip (qe_seq (wc_seq (wc_block (sr (mv u ?_)))))))))
   obtain⟨q,ab,ac⟩:=ob Y
   refine li underlying43 tf77 (f.mono i) ab fun ad ae be af ag=>?_
   obtain⟨s,x,y,B,C,D,rfl,ah,ai,aj⟩:=af
   have ak:AtK _ ad ae [V6 q.Id,V3 s x y,V3 B C D]:=ag
   refine lv (rv_loadS tf77 u l ak u) (al tf77 l fun am bf an=>?_)
   have ao:SH _ _ _ _ _ [obj am [V6 0,V3 none 0 0,V3 none 0 0] 77]:=an
   refine av u (lw [V6 q.Id,V3 s x y,V3 B C D] tf77 ao fun bg ap=>(ns ?_))
   obtain⟨aq,ar,au⟩:=ob ac
   refine wc_cutg (IV w K [] o [(0,V3 A a b),(5,V3 A a b),(6,V6 (q0.length:Int)),(7,V6 ((m:Nat):Int)),(29,.bool aq)] []) ?_ ?_
   ·refine wc_quiet mixed (by kernel_rfl) ap (kh (rq_loadmS (ds:=[V6 q.Id,V3 s x y,V3 B C D]) tf77 u m0 u u) ?_)
    obtain⟨bh,aw,ax⟩:=ob ar
    refine kc co105 (fun _ _ ay R=>(ok_impl_DocOk F) ay.enter0 ah (ai.mono R) (aj.mono R) aw) (kv (rv_not u) (km u (bt ax (fun c G=>?_) (fun c G=>?_))))
    ·refine kn c (kn c (kn c ?_))
     iterate 9 refine ku ?_
     refine kn c (kv (p_t u c u) (wq_nil ?_))
     rintro bi ⟨az,aA,aB⟩
     cases oi G
     exact qd ⟨az,u,aA.s,aB⟩
    refine kg c (rv_move u) (kg c (rv_gtr u u) (kg c (rv_move u) (bt G (fun d H=>?_) (fun d H=>?_))))
    ·refine kg d (rv_move u) (kg d (rv_move u) (kg d (rv_sub u u) ?_))
     obtain⟨aC,aD,aE⟩:=ob H
     refine wq_indexAddr (t:=tGDoc) (wg u u d) u underlying43 tf77 u u (f.mono i) aD fun aF aG bj aH aI=>?_
     obtain⟨aJ,aK,aL,aM,aN,aO,rfl,bk,bl,bm⟩:=aH
     have aP:AtK _ aF aG [V6 aC.Id,V3 aJ aK aL,V3 aM aN aO]:=aI
     refine kg d (rv_fieldAddr ff77_0 u) (kgh d (rq_load1 tf3 u (aP 0 _ u)) (kg d (rv_fieldAddr ff77_0 u) (kgh d (rq_loadm1 tf3 u m0 u) (kg d (rv_geq u u) (kg c (rv_pick_t u d u) (kv (rv_pick_f u c u) (wq_nil ?_)))))))
     rintro bn ⟨aQ,aR,aS⟩
     cases oi aE
     exact qd ⟨aQ,u,aR.s,aS⟩
    iterate 9 refine kn d ?_
    refine kg c (p_f u d u) (kv (rv_pick_f u c u) (wq_nil ?_))
    rintro bo ⟨aT,aU,aV⟩
    cases oi H
    exact qd ⟨aT,u,aU.s,aV⟩
   rintro _ bp ⟨S,rfl,T,aW⟩
   refine qe_seq (wcc au u (fun aX I=>?_) (fun aX I=>?_))
   ·refine sr (lv (r_f u) (nq (wc_ret (qe_block_ret (qe_then_ret (qe_then_ret ?_))))))
    cases oi I
    cases aa _ u
    refine qe_block_ret (qe_then_ret ?_)
    cases oi J
    refine qe_then_ret ?_
    cases oi k
    exact ey results45 ⟨S,u,T⟩
   refine wc_skip (qe_block (qg (lv (rv_add_to u u (w64_succ hi23 (SliceAt.max f))) (mv u (wl_nil ?_)))))
   cases oi I
   exact qd ⟨_,u,S,u,T,(i.trans aW)⟩
  rintro O _ X aY ⟨o,rfl,l,i⟩
  subst aY
  refine sr (lv (rv_lss u u) (ns (wc_cond_f u (decide_eq_false (by omega)) (wc_exit (qe_then_exit (qe_then_exit (qe_block_eq ?_)))))))
  cases oi J
  exact qd ⟨_,o,u,u,l,i⟩
 rintro _ bq ⟨s8,K9,rfl,rfl,ba,bb⟩
 have k:=elim_l k
 refine qr (mv u (lv (rv_len underlying43 u (f.mono bb)) (lv (rv_leq u u) (av u (nq (wc_ret ?_))))))
 cases oi k
 exact ey results45 ⟨K9,u,ba⟩

theorem ok_impl_wordsAscend {q0:List Str}{r:Bool}(hS:SH w K [] w K [])(l:SliceAt tStr K A a b q0)(hm:M.impl_wordsAscend F q0=some r):
  Calls prog 122 #[V3 A a b] w (R_b w K r):=by
 rw [M.impl_wordsAscend] at hm
 refine ci func122 u ntmps122 (sr (lv (r_f u) (nsr (mv u (lv (rv_len underlying22 u l) (lv (r_m u) (nq ?_)))))))
 obtain⟨J,O,m⟩:=ob hm
 refine wc_cutg (IE J w K [] K [] []) ?_ ?_
 ·refine wc_block ?_
  obtain⟨aA,R,D⟩:=ob O
  refine qf (fun (q:Nat) (G:Unit)=>IV w K [] K [(0,V3 A a b),(5,V3 A a b),(6,V6 (q0.length:Int)),(7,V6 ((q:Nat):Int))] []) R ⟨K,u,hS,kr⟩ ?_ ?_
  ·rintro q G _ S aB hi23 T U ⟨s,rfl,f,i⟩
   refine sr (lv (rv_lss u u) (ns (wc_cond_t u (decide_eq_true (by omega)) (wc_skip (qe_seq (wc_seq (wc_block (sr (mv u ?_)))))))))
   obtain⟨V,W,X⟩:=ob T
   refine li underlying22 tf9 (l.mono i) W fun Y aa aC ab ac=>?_
   obtain⟨rfl,ad⟩:=ab
   have ae:AtK _ Y aa [sv V]:=ac
   refine lv (rv_load1 tf9 u f (ae 0 _ u)) (av u (av u (ns ?_)))
   obtain⟨af,ag,ah⟩:=ob X
   refine wc_cutg (IV w K [] s [(0,V3 A a b),(5,V3 A a b),(6,V6 (q0.length:Int)),(7,V6 ((q:Nat):Int)),(27,.bool af)] []) ?_ ?_
   ·refine wc_region (mv u ?_)
    obtain⟨aD,ai,aj⟩:=ob ag
    refine lk co123 (ok_impl_WordOk F f.enter0 ad ai) ?_
    rintro aE aF ⟨x,rfl,k⟩
    have o:=(f.c0 k).t0
    refine lv (rv_not u) (mv u (bt aj (fun c y=>?_) (fun c y=>?_)))
    ·refine lu c (lu c (lu c (wl_un (uu u u) u (wl_un (uu u u) u (wl_un (uu u u) u (wl_un (uu u u) u (wl_un (uu u u) u (wl_un (uu u u) u (wl_un (uu u u) u ?_)))))))))
     refine lu c (lv (p_t u c u) (wl_nil ?_))
     cases oi y
     exact qd ⟨x,u,o,k.le⟩
    refine lg c (rv_move u) (lg c (rv_gtr u u) (lg c (rv_move u) (bt y (fun d B=>?_) (fun d B=>?_))))
    ·refine lg d (rv_move u) (lg d (rv_move u) (lg d (rv_sub u u) ?_))
     obtain⟨ak,al,am⟩:=ob B
     refine wl_indexAddr (t:=tStr) (wg u u d) u underlying22 tf9 u u (l.mono (i.trans k.le)) al fun an ao aG ap aq=>?_
     obtain⟨rfl,aH⟩:=ap
     have ar:AtK _ an ao [sv ak]:=aq
     refine lg d (rv_load1 tf9 u o (ar 0 _ u)) (lg d (rv_move u) (lg d (rv_sgeq u u) (lg c (rv_pick_t u d u) (lv (rv_pick_f u c u) (wl_nil ?_)))))
     cases oi am
     exact qd ⟨x,u,o,k.le⟩
    iterate 7 refine lu d ?_
    refine lg c (p_f u d u) (lv (rv_pick_f u c u) (wl_nil ?_))
    cases oi B
    exact qd ⟨x,u,o,k.le⟩
   rintro _ aI ⟨H,rfl,I,au⟩
   refine qe_seq (wcc ah u (fun aw C=>?_) (fun aw C=>?_))
   ·refine sr (lv (r_f u) (nq (wc_ret (qe_block_ret (qe_then_ret (qe_then_ret ?_))))))
    cases oi C
    cases U _ u
    refine qe_block_ret (qe_then_ret ?_)
    cases oi D
    refine qe_then_ret ?_
    cases oi m
    exact ey results122 ⟨H,u,I⟩
   refine wc_skip (qe_block (qg (lv (rv_add_to u u (w64_succ hi23 (SliceAt.max l))) (mv u (wl_nil ?_)))))
   cases oi C
   exact qd ⟨_,u,H,u,I,(i.trans au)⟩
  rintro G _ S ax ⟨s,rfl,f,i⟩
  subst ax
  refine sr (lv (rv_lss u u) (ns (wc_cond_f u (decide_eq_false (by omega)) (wc_exit (qe_then_exit (qe_then_exit (qe_block_eq ?_)))))))
  cases oi D
  exact qe_mid' ⟨_,s,u,u,f,i⟩ trivial
 rintro _ aJ ⟨s8,K9,rfl,rfl,az,aL⟩
 have m:=elim_l m
 refine qr (lv (r_t u) (nq (wc_ret ?_)))
 cases oi m
 exact ey results122 ⟨K9,u,az⟩
end Go.Proofs.YtpjefkdclnmlfaaGreat
