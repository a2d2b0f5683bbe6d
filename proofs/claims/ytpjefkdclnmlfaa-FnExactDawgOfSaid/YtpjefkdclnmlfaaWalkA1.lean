/-
 Walks of the functions. Printed by gen.py.
-/
import Derived.Test.YtpjefkdclnmlfaaWalkA0
set_option linter.unusedVariables false
set_option linter.unusedSectionVars false
set_option maxRecDepth 100000
namespace Go.Proofs.Ytpjefkdclnmlfaa
set_option maxHeartbeats 4000000
open Go Go.Fk Go.RowKit Try
variable (F:Nat){w:World}{K:KMap}{Z:List Nat}{g1 g2 g3:Nat}{A B C D G H I J O R S T:Option Addr}{a b c d f i k l m n o p q s v x y aa ab ac ad ae af ag:Nat}
variable [dr:Dr]

theorem ok_impl_sameState {q0:GState}{q1:GState}{r:Bool}(hS:SH w K [] w K [])(R:rng64 q0.Many)(o:SliceAt tGArc K A a b q0.Arcs)(S:rng64 q1.Many)(q:SliceAt tGArc K B c d q1.Arcs)(hm:M.impl_sameState F q0 q1=some r):
  Calls prog 45 #[.agg #[.bool q0.Final,V6 q0.Many,V3 A a b],.agg #[.bool q1.Final,V6 q1.Many,V3 B c d]] w (R_b w K r):=by
 rw [M.impl_sameState] at hm
 refine ci func45 u ntmps45 (sr (bx u hS fun s T x=>?_))
 have y:SH _ _ _ _ _ [obj s [.bool q0.Final,V6 q0.Many,V3 A a b] 48]:=x
 refine bx u y fun C U D=>?_
 have f:SH _ _ _ _ _ [obj C [.bool q1.Final,V6 q1.Many,V3 B c d] 48,_]:=D
 refine lv (r_f u) (nr (fl ff48_0 u tf4 m1 f u (fl ff48_0 u tf4 m0 f u (lv (rv_booleq underlying4 u u) (mv u (bt hm (fun i l=>?_) (fun i l=>?_)))))))
 ·refine lg i (rv_fieldAddr ff48_1 u) (lg i (rv_loadm1 tf3 u m1 f u) (lg i (rv_fieldAddr ff48_1 u) (lg i (rv_loadm1 tf3 u m0 f u) (lg i (rv_eql u u) (lv (rv_pick_t u i u) (mv u (bt l (fun k m=>?_) (fun k m=>?_))))))))
  ·refine lg k (rv_fieldAddr ff48_2 u) (lg k (rv_loadm1 tf46 u m1 f u) (lg k (rv_fieldAddr ff48_2 u) (lg k (rv_loadm1 tf46 u m0 f u) ?_)))
   obtain⟨V,G,H⟩:=ob m
   refine wl_call (wg u u k) u (rt_call (vs:=[V3 A a b,V3 B c d]) co59 u) (ok_slices_Equal_Arc F f.enter0 o q G) ?_
   rintro W X ⟨I,rfl,J⟩
   refine⟨_,u,?_⟩
   have O:=(f.c0 J).t2
   refine lv (rv_pick_t u k u) (av u (nq (wc_ret ?_)))
   cases oi H
   exact ey results45 ⟨I,u,O.s⟩
  iterate 5 refine lu k ?_
  refine lv (p_f u k u) (av u (nq (wc_ret ?_)))
  cases oi m
  exact ey results45 ⟨K,u,f.s⟩
 iterate 5 refine lu i ?_
 refine lv (p_f u i u) (mv u ?_)
 iterate 5 refine lu u ?_
 refine lv (p_f u u u) (av u (nq (wc_ret ?_)))
 cases oi l
 exact ey results45 ⟨K,u,f.s⟩

set_option maxHeartbeats 2000000 in
theorem own_impl_dawg_put (F:Nat): ∀{w:World} {K:KMap} {g1:Nat} {a2:Option Addr} {n3 c4:Nat} {B2:List Nat} {a6:Option Addr} {n7 c8:Nat} {p0_d:GDawg} {p1_list:List Str} {r:Int×GDawg} (hS:SH w K (List.flatMap Item.gs [obj g1 [.slice a2 n3 c4] 43,tail (.slice a2 n3 c4) 48 3,bag B2]) w K [obj g1 [.slice a2 n3 c4] 43,tail (.slice a2 n3 c4) 48 3,bag B2]) (ho5:OwnS oState K a2 n3 c4 B2 p0_d.states_) (hs9:SliceAt tStr K a6 n7 c8 p1_list) (hm:M.impl_dawg_put F p0_d p1_list=some r),
  Calls Try.prog 24 #[.pointer (some ⟨g1,0,none⟩),.slice a6 n7 c8] w fun e w'=>∃(a_2:Option Addr) (n_3 c_4:Nat) (K':KMap) (B_2:List Nat),e= .returned (.int .i64 r.1)∧SH w K (List.flatMap Item.gs [obj g1 [.slice a2 n3 c4] 43,tail (.slice a2 n3 c4) 48 3,bag B2]) w' K' [obj g1 [.slice a_2 n_3 c_4] 43,tail (.slice a_2 n_3 c_4) 48 3,bag B_2]∧rng64 r.1∧OwnS oState K' a_2 n_3 c_4 B_2 r.2.states_:=by
 induction F with
 | zero=>intros;rename_i hm;rw [M.impl_dawg_put] at hm;cases hm
 | succ F ih=>
  intro w K g1 a2 n3 c4 B2 a6 n7 c8 p0_d p1_list r hS ho5 hs9 hm
  have hs5:=OwnS.sl ho5
  rw [M.impl_dawg_put] at hm
  refine calls_in Try.func24 rfl Try.ntmps24 rfl ?_
  refine sr ?_
  refine wl_val wn rfl (rv_assign (v:=.int .i64 0) rfl) ?_
  refine nr ?_
  refine vm rfl rfl ?_
  refine wl_val wn rfl (rv_len (t:=tStr) Try.underlying22 rfl hs9) ?_
  refine wl_buildSlice0 tGArc wn rfl Try.underlying46 tf70 hS ?_
  intro a10 w11 K12 hl13 hs14 hS15
  refine wl_val wn rfl (rv_build (cs:=#[.bool false,.int .i64 (p1_list.length:Int),.slice a10 0 0]) sp48 tf48 rfl (by kernel_rfl)) ?_
  refine wl_alloc wn rfl tf48 hS15 ?_
  intro g16 w17 hS18
  have hS19:SH _ _ _ _ _ [obj g16 [.bool false,.int .i64 0,.slice none 0 0] 48,_,_,_,_]:=hS18
  refine wl_store (cs':=[.bool false,.int .i64 (p1_list.length:Int),.slice a10 0 0]) (v:=.agg #[.bool false,.int .i64 (p1_list.length:Int),.slice a10 0 0]) wn tf48 rfl rfl rfl (by simp [Value.cells,Value.oneCell']) hS19 rfl rfl ?_
  intro w20 hS21
  refine ns ?_
  refine wc_seq ?_
  obtain⟨o22,h23,h24⟩:=ob hm
  refine wc_cutg (fun E' w'=>∃(K25:KMap),E'=[(0,.pointer (some ⟨g1,0,none⟩)),(1,.slice a6 n7 c8),(5,.pointer (some ⟨g16,0,none⟩)),(22,.bool o22)]∧SH w K (List.flatMap Item.gs [obj g1 [.slice a2 n3 c4] 43,tail (.slice a2 n3 c4) 48 3,bag B2]) w' K25 [obj g1 [.slice a2 n3 c4] 43,tail (.slice a2 n3 c4) 48 3,obj g16 [.bool false,.int .i64 (p1_list.length:Int),.slice a10 0 0] 48,tail (.slice a10 0 0) 70 2,bag B2]∧KLe K12 K25) ?_ ?_
  ·refine wc_region ?_
   refine vm rfl rfl ?_
   refine wl_val wn rfl (rv_len (t:=tStr) Try.underlying22 rfl (SliceAt.mono hl13 hs9)) ?_
   refine wl_val wn rfl (rv_gtr rfl rfl) ?_
   refine vm rfl rfl ?_
   rcases bool_tf (decide ((0:Int)<(p1_list.length:Int))) with hb29 | hb29
   ·have h30:=cond_t hb29 h23
    refine wl_val (wg rfl rfl hb29) rfl (rv_move rfl) ?_
    obtain⟨x31,hx32,h33⟩:=ob h30
    refine wl_indexAddr (t:=tStr) (wg rfl rfl hb29) rfl Try.underlying22 tf9 rfl rfl (SliceAt.mono hl13 hs9) hx32 ?_
    intro b34 o35 u36 hu37 ha38
    obtain⟨rfl,hl39⟩:=hu37
    have ha40:AtK _ b34 o35 [sv x31]:=ha38
    refine wl_val (wg rfl rfl hb29) rfl (rv_load1 tf9 rfl hS21 (ha40 0 _ rfl)) ?_
    refine wl_val (wg rfl rfl hb29) rfl (rv_seql (r:=([]:Str)) rfl rfl) ?_
    refine wl_val wn rfl (rv_pick_t rfl hb29 rfl) ?_
    refine wl_nil ?_
    obtain rfl:=oi h33
    have hS41:SH _ _ _ _ _ [_,_,_,_,_]:=SH.front (p:=[_]) hS21
    have hS42:SH _ _ _ _ _ [_,_,_,_,_]:=SH.front (p:=[_]) hS41
    have hS43:SH _ _ _ _ _ [_,_,_,_,_]:=SH.front (p:=[_,_,_]) hS42
    have hS44:SH _ _ _ _ _ [_,_,_,_,_]:=SH.front (p:=[_,_,_]) hS43
    exact qe_mid' ⟨K12,rfl,hS44,(KLe.refl _)⟩ ⟨rfl,rfl,rfl,rfl,trivial⟩
   ·have h30:=cond_f hb29 h23
    refine wl_un (ug rfl rfl hb29) rfl ?_
    refine wl_un (ug rfl rfl hb29) rfl ?_
    refine wl_un (ug rfl rfl hb29) rfl ?_
    refine wl_un (ug rfl rfl hb29) rfl ?_
    refine wl_val wn rfl (p_f rfl hb29 rfl) ?_
    refine wl_nil ?_
    obtain rfl:=oi h30
    have hS45:SH _ _ _ _ _ [_,_,_,_,_]:=SH.front (p:=[_]) hS21
    have hS46:SH _ _ _ _ _ [_,_,_,_,_]:=SH.front (p:=[_]) hS45
    have hS47:SH _ _ _ _ _ [_,_,_,_,_]:=SH.front (p:=[_,_,_]) hS46
    have hS48:SH _ _ _ _ _ [_,_,_,_,_]:=SH.front (p:=[_,_,_]) hS47
    exact qe_mid' ⟨K12,rfl,hS48,(KLe.refl _)⟩ ⟨rfl,rfl,rfl,rfl,trivial⟩
  ·rintro _ w27 ⟨K25,rfl,hS28,hl26⟩
   refine qe_seq ?_
   obtain⟨o49,h50,h51⟩:=ob h24
   refine wc_cutg (fun E' w'=>∃(a56:Option Addr) (n57 c58:Nat) (a61:Option Addr) (n62 c63:Nat) (K52:KMap),E'=[(0,.pointer (some ⟨g1,0,none⟩)),(1,.slice a56 n57 c58),(5,.pointer (some ⟨g16,0,none⟩))]∧SH w K (List.flatMap Item.gs [obj g1 [.slice a2 n3 c4] 43,tail (.slice a2 n3 c4) 48 3,bag B2]) w' K52 [obj g1 [.slice a2 n3 c4] 43,tail (.slice a2 n3 c4) 48 3,obj g16 [.bool o49.2.Final,.int .i64 o49.2.Many,.slice a61 n62 c63] 48,tail (.slice a61 n62 c63) 70 2,bag B2]∧KLe K25 K52∧SliceAt tStr K52 a56 n57 c58 o49.1∧rng64 o49.2.Many∧SliceAt tGArc K52 a61 n62 c63 o49.2.Arcs) ?_ ?_
   ·refine wc_cond rfl (fun hb65=>?_) (fun hb65=>?_)
    ·have h66:=cond_t hb65 h50
     refine sr ?_
     refine wl_val wn rfl (rv_fieldAddr ff48_0 rfl) ?_
     have hS67:SH _ _ _ _ _ [_,_,_,_,_]:=SH.front (p:=[_,_]) hS28
     refine wl_store (cs':=[.bool true,.int .i64 (p1_list.length:Int),.slice a10 0 0]) (v:=.bool true) wn tf4 rfl rfl rfl (by simp [Value.cells,Value.oneCell']) hS67 rfl rfl ?_
     intro w68 hS69
     refine nq ?_
     refine wc_region ?_
     refine vm rfl rfl ?_
     obtain⟨x70,hx71,h72⟩:=ob h66
     refine wl_sl_l (t:=tStr) wn rfl Try.underlying22 tf9 rfl rfl (SliceAt.mono (hl13.trans hl26) hs9) hx71 ?_
     intro a73 n74 c75 hs76
     refine va rfl rfl ?_
     refine wl_nil ?_
     obtain rfl:=oi h72
     have hS77:SH _ _ _ _ _ [_,_,_,_,_]:=SH.front (p:=[_,_,_]) hS69
     have hS78:SH _ _ _ _ _ [_,_,_,_,_]:=SH.front (p:=[_]) hS77
     have hS79:SH _ _ _ _ _ [_,_,_,_,_]:=SH.front (p:=[_,_,_]) hS78
     have hS80:SH _ _ _ _ _ [_,_,_,_,_]:=SH.front (p:=[_,_,_]) hS79
     exact qe_mid' ⟨a73,n74,c75,a10,0,0,K25,rfl,hS80,(KLe.refl _),hs76,(rng_nat (SliceAt.max hs9)),(SliceAt.mono hl26 hs14)⟩ ⟨rfl,rfl,rfl,trivial⟩
    ·have h66:=cond_f hb65 h50
     refine wc_skip ?_
     obtain rfl:=oi h66
     exact qe_mid' ⟨a6,n7,c8,a10,0,0,K25,rfl,hS28,(KLe.refl _),(SliceAt.mono (hl13.trans hl26) hs9),(rng_nat (SliceAt.max hs9)),(SliceAt.mono hl26 hs14)⟩ ⟨rfl,rfl,rfl,trivial⟩
   ·rintro _ w54 ⟨a56,n57,c58,a61,n62,c63,K52,rfl,hS55,hl53,hs59,hr60,hs64⟩
    refine qs ?_
    obtain⟨o81,h82,h83⟩:=ob h51
    refine wc_cutg (fun E' w'=>∃(a88:Option Addr) (n89 c90:Nat) (a93:Option Addr) (n94 c95:Nat) (K84:KMap) (B88:List Nat),E'=[(0,.pointer (some ⟨g1,0,none⟩)),(5,.pointer (some ⟨g16,0,none⟩))]∧SH w K (List.flatMap Item.gs [obj g1 [.slice a2 n3 c4] 43,tail (.slice a2 n3 c4) 48 3,bag B2]) w' K84 [obj g1 [.slice a88 n89 c90] 43,tail (.slice a88 n89 c90) 48 3,obj g16 [.bool o81.2.Final,.int .i64 o81.2.Many,.slice a93 n94 c95] 48,tail (.slice a93 n94 c95) 70 2,bag B88]∧KLe K52 K84∧OwnS oState K84 a88 n89 c90 B88 o81.1.states_∧rng64 o81.2.Many∧SliceAt tGArc K84 a93 n94 c95 o81.2.Arcs) ?_ ?_
    ·refine wc_block ?_
     obtain⟨r98,h99,h100⟩:=ob h82
     refine wc_while' (fun (s97:(List Str)×GDawg×GState) E' w'=>∃(a105:Option Addr) (n106 c107:Nat) (a109:Option Addr) (n110 c111:Nat) (a114:Option Addr) (n115 c116:Nat) (K101:KMap) (B109:List Nat),E'=[(0,.pointer (some ⟨g1,0,none⟩)),(1,.slice a105 n106 c107),(5,.pointer (some ⟨g16,0,none⟩))]∧SH w K (List.flatMap Item.gs [obj g1 [.slice a2 n3 c4] 43,tail (.slice a2 n3 c4) 48 3,bag B2]) w' K101 [obj g1 [.slice a109 n110 c111] 43,tail (.slice a109 n110 c111) 48 3,obj g16 [.bool s97.2.2.Final,.int .i64 s97.2.2.Many,.slice a114 n115 c116] 48,tail (.slice a114 n115 c116) 70 2,bag B109]∧KLe K52 K101∧SliceAt tStr K101 a105 n106 c107 s97.1∧OwnS oState K101 a109 n110 c111 B109 s97.2.1.states_∧rng64 s97.2.2.Many∧SliceAt tGArc K101 a114 n115 c116 s97.2.2.Arcs) h99 ⟨a56,n57,c58,a2,n3,c4,a61,n62,c63,K52,B2,rfl,hS55,(KLe.refl _),hs59,(OwnS.mono ho5 ((hl13.trans hl26).trans hl53)),hr60,hs64⟩ ⟨rfl,rfl,rfl,trivial⟩ ?_
     rintro s97 _ w103 r118 h119 hx120 ⟨a105,n106,c107,a109,n110,c111,a114,n115,c116,K101,B109,rfl,hS104,hl102,hs108,ho112,hr113,hs117⟩
     have hs112:=OwnS.sl ho112
     refine wc_seq ?_
     refine sr ?_
     refine vm rfl rfl ?_
     refine wl_val wn rfl (rv_len (t:=tStr) Try.underlying22 rfl hs108) ?_
     refine wl_val wn rfl (rv_gtr rfl rfl) ?_
     refine nq ?_
     refine wc_cond rfl (fun hb121=>?_) (fun hb121=>?_)
     ·have h122:=cond_t hb121 h119
      refine wc_skip ?_
      refine qe_seq ?_
      refine wc_block ?_
      refine sr ?_
      refine vm rfl rfl ?_
      obtain⟨x123,hx124,h125⟩:=ob h122
      refine wl_indexAddr (t:=tStr) wn rfl Try.underlying22 tf9 rfl rfl hs108 hx124 ?_
      intro b126 o127 u128 hu129 ha130
      obtain⟨rfl,hl131⟩:=hu129
      have ha132:AtK _ b126 o127 [sv x123]:=ha130
      refine wl_val wn rfl (rv_load1 tf9 rfl hS104 (ha132 0 _ rfl)) ?_
      obtain⟨x133,hx134,h135⟩:=ob h125
      refine wl_val wn rfl (rv_sidx Try.underlying9 rfl rfl hx134) ?_
      refine va rfl rfl ?_
      refine nr ?_
      refine wl_buildSlice0 tStr wn rfl Try.underlying22 tf9 hS104 ?_
      intro a136 w137 K138 hl139 hs140 hS141
      refine va rfl rfl ?_
      refine ns ?_
      obtain⟨o142,h143,h144⟩:=ob h135
      refine wc_cutg (fun E' w'=>∃(a149:Option Addr) (n150 c151:Nat) (a153:Option Addr) (n154 c155:Nat) (K145:KMap),E'=[(0,.pointer (some ⟨g1,0,none⟩)),(1,.slice a149 n150 c151),(5,.pointer (some ⟨g16,0,none⟩)),(6,iv8 x133),(7,.slice a153 n154 c155)]∧SH w K (List.flatMap Item.gs [obj g1 [.slice a2 n3 c4] 43,tail (.slice a2 n3 c4) 48 3,bag B2]) w' K145 [obj g1 [.slice a109 n110 c111] 43,tail (.slice a109 n110 c111) 48 3,obj g16 [.bool s97.2.2.Final,.int .i64 s97.2.2.Many,.slice a114 n115 c116] 48,tail (.slice a114 n115 c116) 70 2,tail (.slice a153 n154 c155) 9 1,bag B109]∧KLe K138 K145∧SliceAt tStr K145 a149 n150 c151 o142.1∧SliceAt tStr K145 a153 n154 c155 o142.2) ?_ ?_
      ·refine wc_block ?_
       obtain⟨r158,h159,h160⟩:=ob h143
       have hS173:SH _ _ _ _ _ [_,_,_,_,_,_]:=SH.front (p:=[_,_,_,_]) hS141
       have hS174:SH _ _ _ _ _ [_,_,_,_,_,_]:=SH.front (p:=[_,_,_,_]) hS173
       have hS175:SH _ _ _ _ _ [_,_,_,_,_,_]:=SH.front (p:=[_,_,_,_]) hS174
       have hS176:SH _ _ _ _ _ [_,_,_,_,_,_]:=SH.front (p:=[_,_,_,_]) hS175
       refine wc_while' (fun (s157:(List Str)×(List Str)) E' w'=>∃(a165:Option Addr) (n166 c167:Nat) (a169:Option Addr) (n170 c171:Nat) (K161:KMap),E'=[(0,.pointer (some ⟨g1,0,none⟩)),(1,.slice a165 n166 c167),(5,.pointer (some ⟨g16,0,none⟩)),(6,iv8 x133),(7,.slice a169 n170 c171)]∧SH w K (List.flatMap Item.gs [obj g1 [.slice a2 n3 c4] 43,tail (.slice a2 n3 c4) 48 3,bag B2]) w' K161 [obj g1 [.slice a109 n110 c111] 43,tail (.slice a109 n110 c111) 48 3,obj g16 [.bool s97.2.2.Final,.int .i64 s97.2.2.Many,.slice a114 n115 c116] 48,tail (.slice a114 n115 c116) 70 2,tail (.slice a169 n170 c171) 9 1,bag B109]∧KLe K138 K161∧SliceAt tStr K161 a165 n166 c167 s157.1∧SliceAt tStr K161 a169 n170 c171 s157.2) h159 ⟨a105,n106,c107,a136,0,0,K138,rfl,hS176,(KLe.refl _),(SliceAt.mono hl139 hs108),hs140⟩ ⟨rfl,rfl,rfl,rfl,rfl,trivial⟩ ?_
       rintro s157 _ w163 r177 h178 hx179 ⟨a165,n166,c167,a169,n170,c171,K161,rfl,hS164,hl162,hs168,hs172⟩
       refine wc_seq ?_
       refine wc_seq ?_
       obtain⟨o180,h181,h182⟩:=ob h178
       refine wc_cutg (fun E' w'=>∃(K183:KMap),E'=[(0,.pointer (some ⟨g1,0,none⟩)),(1,.slice a165 n166 c167),(5,.pointer (some ⟨g16,0,none⟩)),(6,iv8 x133),(7,.slice a169 n170 c171),(44,.bool o180)]∧SH w K (List.flatMap Item.gs [obj g1 [.slice a2 n3 c4] 43,tail (.slice a2 n3 c4) 48 3,bag B2]) w' K183 [obj g1 [.slice a109 n110 c111] 43,tail (.slice a109 n110 c111) 48 3,obj g16 [.bool s97.2.2.Final,.int .i64 s97.2.2.Many,.slice a114 n115 c116] 48,tail (.slice a114 n115 c116) 70 2,tail (.slice a169 n170 c171) 9 1,bag B109]∧KLe K161 K183) ?_ ?_
       ·refine wc_region ?_
        refine vm rfl rfl ?_
        refine wl_val wn rfl (rv_len (t:=tStr) Try.underlying22 rfl hs168) ?_
        refine wl_val wn rfl (rv_gtr rfl rfl) ?_
        refine vm rfl rfl ?_
        rcases bool_tf (decide ((0:Int)<(s157.1.length:Int))) with hb187 | hb187
        ·have h188:=cond_t hb187 h181
         refine wl_val (wg rfl rfl hb187) rfl (rv_move rfl) ?_
         obtain⟨x189,hx190,h191⟩:=ob h188
         refine wl_indexAddr (t:=tStr) (wg rfl rfl hb187) rfl Try.underlying22 tf9 rfl rfl hs168 hx190 ?_
         intro b192 o193 u194 hu195 ha196
         obtain⟨rfl,hl197⟩:=hu195
         have ha198:AtK _ b192 o193 [sv x189]:=ha196
         refine wl_val (wg rfl rfl hb187) rfl (rv_load1 tf9 rfl hS164 (ha198 0 _ rfl)) ?_
         obtain⟨x199,hx200,h201⟩:=ob h191
         refine wl_val (wg rfl rfl hb187) rfl (rv_sidx Try.underlying9 rfl rfl hx200) ?_
         refine wl_val (wg rfl rfl hb187) rfl (rv_move rfl) ?_
         refine wl_val (wg rfl rfl hb187) rfl (rv_beq rfl rfl) ?_
         refine wl_val wn rfl (rv_pick_t rfl hb187 rfl) ?_
         refine wl_nil ?_
         obtain rfl:=oi h201
         exact qe_mid' ⟨K161,rfl,hS164,(KLe.refl _)⟩ ⟨rfl,rfl,rfl,rfl,rfl,rfl,trivial⟩
        ·have h188:=cond_f hb187 h181
         refine wl_un (ug rfl rfl hb187) rfl ?_
         refine wl_un (ug rfl rfl hb187) rfl ?_
         refine wl_un (ug rfl rfl hb187) rfl ?_
         refine wl_un (ug rfl rfl hb187) rfl ?_
         refine wl_un (ug rfl rfl hb187) rfl ?_
         refine wl_un (ug rfl rfl hb187) rfl ?_
         refine wl_val wn rfl (p_f rfl hb187 rfl) ?_
         refine wl_nil ?_
         obtain rfl:=oi h188
         exact qe_mid' ⟨K161,rfl,hS164,(KLe.refl _)⟩ ⟨rfl,rfl,rfl,rfl,rfl,rfl,trivial⟩
       ·rintro _ w185 ⟨K183,rfl,hS186,hl184⟩
        refine qe_seq ?_
        refine wc_cond rfl (fun hb202=>?_) (fun hb202=>?_)
        ·have h203:=cond_t hb202 h182
         refine wc_skip ?_
         refine qe_seq ?_
         refine wc_block ?_
         refine sr ?_
         refine vm rfl rfl ?_
         refine vm rfl rfl ?_
         obtain⟨x204,hx205,h206⟩:=ob h203
         refine wl_indexAddr (t:=tStr) wn rfl Try.underlying22 tf9 rfl rfl (SliceAt.mono hl184 hs168) hx205 ?_
         intro b207 o208 u209 hu210 ha211
         obtain⟨rfl,hl212⟩:=hu210
         have ha213:AtK _ b207 o208 [sv x204]:=ha211
         refine wl_val wn rfl (rv_load1 tf9 rfl hS186 (ha213 0 _ rfl)) ?_
         obtain⟨x214,hx215,h216⟩:=ob h206
         refine wl_val wn rfl (rv_ssl_l Try.underlying9 rfl rfl hx215) ?_
         refine wl_buildSlice (t:=tStr) (n:=1) (pv:=[(0,sv x214)]) (cs:=[sv x214]) (xs:=[x214]) wn rfl Try.underlying22 tf9 rfl rfl rfl (by kernel_rfl) rfl rfl (lit_cons (u:=sv x214) (z:=x214) ⟨rfl,(len_sub hl212 hx215)⟩ lit_nil) hS186 ?_
         intro a217 w218 K219 hl220 hs221 hS222
         have hS223:SH _ _ _ _ _ [_,_,_,_,_,_,_]:=SH.front (p:=[_,_,_,_,_]) hS222
         obtain⟨x224,hx225,h226⟩:=ob h216
         refine wl_append (t:=tStr) wn rfl Try.underlying22 tf9 rfl rfl rfl rfl rfl (SliceAt.mono (hl184.trans hl220) hs172) hs221 hx225 hS223 ?_
         intro a227 n228 c229 w230 K231 hl232 hs233 hS234
         refine va rfl rfl ?_
         refine nq ?_
         refine wc_region ?_
         refine vm rfl rfl ?_
         obtain⟨x235,hx236,h237⟩:=ob h226
         refine wl_sl_l (t:=tStr) wn rfl Try.underlying22 tf9 rfl rfl (SliceAt.mono ((hl184.trans hl220).trans hl232) hs168) hx236 ?_
         intro a238 n239 c240 hs241
         refine va rfl rfl ?_
         refine nb ?_
         obtain rfl:=oi h237
         have hS242:SH _ _ _ _ _ [_,_,_,_,_,_,_]:=SH.front (p:=[_,_,_,_,_]) hS234
         have hS243:SH _ _ _ _ _ [_,_,_,_,_,_,_]:=SH.front (p:=[_,_,_,_,_]) hS242
         have hS244:SH _ _ _ _ _ [_,_,_,_,_,_,_]:=SH.front (p:=[_,_,_,_,_]) hS243
         have hS245:SH _ _ _ _ _ [_,_,_,_,_,_,_]:=SH.front (p:=[_,_,_,_,_]) hS244
         have hS246:SH _ _ _ _ _ [_,_,_,_,_,_]:=SH.sublist hS245 (.cons_cons _ (.cons_cons _ (.cons_cons _ (.cons_cons _ (.cons_cons _ (.cons _ (.cons_cons _ .slnil)))))))
         exact qe_mid' ⟨_,rfl,a238,n239,c240,a227,n228,c229,K231,rfl,hS246,(((hl162.trans hl184).trans hl220).trans hl232),hs241,hs233⟩ ⟨rfl,rfl,rfl,rfl,rfl,trivial⟩
        ·have h203:=cond_f hb202 h182
         refine wc_exit ?_
         refine qe_then_exit ?_
         refine qe_then_exit ?_
         obtain rfl:=oi h203
         have e247:=hx179 _ rfl
         subst e247
         refine qe_block_eq ?_
         obtain rfl:=oi h160
         exact qe_mid' ⟨a165,n166,c167,a169,n170,c171,K183,rfl,hS186,(hl162.trans hl184),(SliceAt.mono hl184 hs168),(SliceAt.mono hl184 hs172)⟩ ⟨rfl,rfl,rfl,rfl,rfl,trivial⟩
      ·rintro _ w147 ⟨a149,n150,c151,a153,n154,c155,K145,rfl,hS148,hl146,hs152,hs156⟩
       refine qe_seq ?_
       refine wc_held (fun w'=>Holds K145 w') (fun w'=>HasObj g16 [.bool s97.2.2.Final,.int .i64 s97.2.2.Many,.slice a114 n115 c116] w') 10 [(1,8),(1,9),(1,10),(8,9),(8,10),(9,10)] mixed ?_
       have hS249:=SH.drew hS148
       refine wg_val (i:=0) (listed':=L_ 11 0) (fun _=>True) rfl (by kernel_rfl) (pk_block (pk_then (pk_block (pk_then (pk_then pk_body))))) (by kernel_rfl) rfl (by kernel_rfl) (by kernel_rfl) rfl (.inl fun _ _=>trivial) ⟨(hS249.hasK (KLe.refl _)),(fun _=>hS249.hasObj (.tail _ (.tail _ (.head _)))),by decide⟩ wn rfl (fun _ _=>(rv_fieldAddr ff48_2 rfl)) ?_
       refine wg_val (i:=1) (listed':=L_ 11 1) (HasObj g16 [.bool s97.2.2.Final,.int .i64 s97.2.2.Many,.slice a114 n115 c116]) rfl (by kernel_rfl) (pk_block (pk_then (pk_block (pk_then (pk_then pk_body))))) (by kernel_rfl) rfl (by kernel_rfl) (by kernel_rfl) rfl (.inr ⟨rfl,fun _ _ h=>h⟩) ⟨(hS249.hasK (KLe.refl _)),(fun _=>hS249.hasObj (.tail _ (.tail _ (.head _)))),by decide⟩ wn rfl (fun _ h=>rh_loadm1 tf46 rfl rfl h) ?_
       refine wg_val (i:=2) (listed':=L_ 11 2) (fun _=>True) rfl (by kernel_rfl) (pk_block (pk_then (pk_block (pk_then (pk_then pk_body))))) (by kernel_rfl) rfl (by kernel_rfl) (by kernel_rfl) rfl (.inl fun _ _=>trivial) ⟨(hS249.hasK (KLe.refl _)),(fun _=>hS249.hasObj (.tail _ (.tail _ (.head _)))),by decide⟩ wn rfl (fun _ _=>(rv_move rfl)) ?_
       refine wg_val (i:=3) (listed':=L_ 11 3) (fun _=>True) rfl (by kernel_rfl) (pk_block (pk_then (pk_block (pk_then (pk_then pk_body))))) (by kernel_rfl) rfl (by kernel_rfl) (by kernel_rfl) rfl (.inl fun _ _=>trivial) ⟨(hS249.hasK (KLe.refl _)),(fun _=>hS249.hasObj (.tail _ (.tail _ (.head _)))),by decide⟩ wn rfl (fun _ _=>(rv_move rfl)) ?_
       refine wg_val (i:=4) (listed':=L_ 11 4) (fun _=>True) rfl (by kernel_rfl) (pk_block (pk_then (pk_block (pk_then (pk_then pk_body))))) (by kernel_rfl) rfl (by kernel_rfl) (by kernel_rfl) rfl (.inl fun _ _=>trivial) ⟨(hS249.hasK (KLe.refl _)),(fun _=>hS249.hasObj (.tail _ (.tail _ (.head _)))),by decide⟩ wn rfl (fun _ _=>(rv_move rfl)) ?_
       refine wg_one (i:=5) (by kernel_rfl) rfl ?_
       obtain⟨r250,hx251,h252⟩:=ob h144
       have hS253:SH _ _ _ _ _ [_,_,_,_,_,_]:=SH.front (p:=[_]) hS249
       have hS254:SH _ _ _ _ _ [_,_,_,_,_,_]:=SH.front (p:=[_]) hS253
       have hS254x:SH _ _ _ _ _ [_,_,_,_,_,_]:=SH.fromEnd (p:=[_,_]) (q:=[_,_,_]) hS254
       refine wl_call wn rfl (rt_call (vs:=[.pointer (some ⟨g1,0,none⟩),.slice a153 n154 c155]) co24 rfl) (ih (SH.enter (Lin:=[_,_,_]) hS254x) (OwnS.mono ho112 (hl139.trans hl146)) hs156 hx251) ?_
       rintro e263 w256 ⟨a259,n260,c261,K255,B259,rfl,hS257,hr258,ho262⟩
       refine⟨_,rfl,?_⟩
       have hs262:=OwnS.sl ho262
       have hS264x:SH _ _ _ _ _ [_,_,_,_,_,_]:=SH.call (Lin:=[_,_,_]) hS254x hS257
       have hS264:SH _ _ _ _ _ [_,_,_,_,_,_]:=SH.toEnd (p:=[_,_]) (q:=[_,_,_]) hS264x
       refine wl_nil (qe_held (listed':=L_ 11 5) rfl ⟨(hS264.hasK hS257.le),(fun _=>hS264.hasObj (.tail _ (.tail _ (.head _)))),by decide⟩ ?_)
       refine wg_val (i:=6) (listed':=L_ 11 6) (fun _=>True) rfl (by kernel_rfl) (pk_block (pk_then (pk_block (pk_then (pk_then pk_body))))) (by kernel_rfl) rfl (by kernel_rfl) (by kernel_rfl) rfl (.inl fun _ _=>trivial) ⟨(hS264.hasK hS257.le),(fun _=>hS264.hasObj (.tail _ (.tail _ (.head _)))),by decide⟩ wn rfl (fun _ _=>(rv_build (cs:=#[iv8 x133,.int .i64 r250.1]) sp70 tf70 rfl (by kernel_rfl))) ?_
       refine wg_one (i:=7) (by kernel_rfl) rfl ?_
       refine wl_buildSlice (t:=tGArc) (n:=1) (pv:=[(0,.agg #[iv8 x133,.int .i64 r250.1])]) (cs:=[iv8 x133,.int .i64 r250.1]) (xs:=[(GArc.mk x133 r250.1)]) wn rfl Try.underlying46 tf70 rfl rfl rfl (by kernel_rfl) rfl rfl (lit_cons (u:=.agg #[iv8 x133,.int .i64 r250.1]) (z:=(GArc.mk x133 r250.1)) ⟨rfl,hr258⟩ lit_nil) hS264 ?_
       intro a265 w266 K267 hl268 hs269 hS270
       refine wl_nil (qe_held (listed':=L_ 11 7) rfl ⟨(hS270.hasK (hS257.le.trans hl268)),(fun _=>hS270.hasObj (.tail _ (.tail _ (.tail _ (.head _))))),by decide⟩ ?_)
       refine wg_one (i:=8) (by kernel_rfl) rfl ?_
       have hS271:SH _ _ _ _ _ [_,_,_,_,_,_,_]:=SH.front (p:=[_,_,_,_]) hS270
       obtain⟨x272,hx273,h274⟩:=ob h252
       refine wl_append (t:=tGArc) wn rfl Try.underlying46 tf70 rfl rfl rfl rfl rfl (SliceAt.mono (((hl139.trans hl146).trans hS257.le).trans hl268) hs117) hs269 hx273 hS271 ?_
       intro a275 n276 c277 w278 K279 hl280 hs281 hS282
       refine wl_nil (qe_held (listed':=L_ 11 8) rfl ⟨(hS282.hasK ((hS257.le.trans hl268).trans hl280)),(fun _=>hS282.hasObj (.tail _ (.tail _ (.tail _ (.tail _ (.head _)))))),by decide⟩ ?_)
       refine wg_val (i:=9) (listed':=L_ 11 9) (fun _=>True) rfl (by kernel_rfl) (pk_block (pk_then (pk_block (pk_then (pk_then pk_body))))) (by kernel_rfl) rfl (by kernel_rfl) (by kernel_rfl) rfl (.inl fun _ _=>trivial) ⟨(hS282.hasK ((hS257.le.trans hl268).trans hl280)),(fun _=>hS282.hasObj (.tail _ (.tail _ (.tail _ (.tail _ (.head _)))))),by decide⟩ wn rfl (fun _ _=>(rv_fieldAddr ff48_2 rfl)) ?_
       refine wg_one (i:=10) (by kernel_rfl) rfl ?_
       have hS283:SH _ _ _ _ _ [_,_,_,_,_,_,_]:=SH.front (p:=[_,_,_,_]) hS282
       refine wl_store (cs':=[.bool s97.2.2.Final,.int .i64 s97.2.2.Many,.slice a275 n276 c277]) (v:=.slice a275 n276 c277) wn tf46 rfl rfl rfl (by simp [Value.cells,Value.oneCell']) hS283 rfl rfl ?_
       intro w284 hS285
       refine wl_nil (qe_held (listed':=L_ 11 10) rfl ⟨(hS285.hasK ((hS257.le.trans hl268).trans hl280)),(fun h=>nomatch h),by decide⟩ ?_)
       refine wg_done (by kernel_rfl) ?_
       refine qe_block ?_
       obtain rfl:=oi h274
       have hS286:SH _ _ _ _ _ [_,_,_,_,_,_,_]:=SH.front (p:=[_]) hS285
       have hS287:SH _ _ _ _ _ [_,_,_,_,_,_,_]:=SH.front (p:=[_]) hS286
       have hS288:SH _ _ _ _ _ [_,_,_,_,_,_,_]:=SH.front (p:=[_,_,_,_]) hS287
       have hS289:SH _ _ _ _ _ [_,_,_,_,_,_,_]:=SH.front (p:=[_,_,_,_]) hS288
       have hS290:SH _ _ _ _ _ [_,_,_,_,_]:=SH.sublist hS289 (.cons_cons _ (.cons_cons _ (.cons_cons _ (.cons_cons _ (.cons _ (.cons _ (.cons_cons _ .slnil)))))))
       exact qe_mid' ⟨_,rfl,a149,n150,c151,a259,n260,c261,a275,n276,c277,K279,B259,rfl,hS290,(((((hl102.trans hl139).trans hl146).trans hS257.le).trans hl268).trans hl280),(SliceAt.mono ((hS257.le.trans hl268).trans hl280) hs152),(OwnS.mono ho262 (hl268.trans hl280)),hr113,hs281⟩ ⟨rfl,rfl,rfl,trivial⟩
     ·have h122:=cond_f hb121 h119
      refine wc_exit ?_
      refine qe_then_exit ?_
      refine qe_then_exit ?_
      obtain rfl:=oi h122
      have e291:=hx120 _ rfl
      subst e291
      refine qe_block_eq ?_
      obtain rfl:=oi h100
      exact qe_mid' ⟨a109,n110,c111,a114,n115,c116,K101,B109,rfl,hS104,hl102,ho112,hr113,hs117⟩ ⟨rfl,rfl,trivial⟩
    ·rintro _ w86 ⟨a88,n89,c90,a93,n94,c95,K84,B88,rfl,hS87,hl85,ho91,hr92,hs96⟩
     have hs91:=OwnS.sl ho91
     refine qs ?_
     refine sr ?_
     refine vm rfl rfl ?_
     refine wl_val wn rfl (rv_nilCheck rfl) ?_
     refine wl_val wn rfl (rv_fieldAddr ff43_0 rfl) ?_
     refine wl_val wn rfl (rv_loadm1 tf24 rfl (.head _) hS87 rfl) ?_
     refine wl_val wn rfl (rv_len (t:=tGState) Try.underlying24 rfl hs91) ?_
     refine wl_val wn rfl (rv_move (v:=.int .i64 0) rfl) ?_
     refine nq ?_
     obtain⟨o292,h293,h294⟩:=ob h83
     refine wc_cutg (fun E' w'=>∃(s295:Unit) (K296:KMap),o292= .inl s295∧E'=[(0,.pointer (some ⟨g1,0,none⟩)),(5,.pointer (some ⟨g16,0,none⟩))]∧SH w K (List.flatMap Item.gs [obj g1 [.slice a2 n3 c4] 43,tail (.slice a2 n3 c4) 48 3,bag B2]) w' K296 [obj g1 [.slice a88 n89 c90] 43,tail (.slice a88 n89 c90) 48 3,obj g16 [.bool o81.2.Final,.int .i64 o81.2.Many,.slice a93 n94 c95] 48,tail (.slice a93 n94 c95) 70 2,bag B88]∧KLe K84 K296) ?_ ?_
     ·refine wc_block ?_
      obtain⟨r301,h302,h303⟩:=ob h293
      refine wc_for' (fun (i304:Nat) (s300:Unit) E' w'=>∃(K305:KMap),E'=[(0,.pointer (some ⟨g1,0,none⟩)),(5,.pointer (some ⟨g16,0,none⟩)),(67,.slice a88 n89 c90),(68,.int .i64 (o81.1.states_.length:Int)),(69,.int .i64 ((i304:Nat):Int))]∧SH w K (List.flatMap Item.gs [obj g1 [.slice a2 n3 c4] 43,tail (.slice a2 n3 c4) 48 3,bag B2]) w' K305 [obj g1 [.slice a88 n89 c90] 43,tail (.slice a88 n89 c90) 48 3,obj g16 [.bool o81.2.Final,.int .i64 o81.2.Many,.slice a93 n94 c95] 48,tail (.slice a93 n94 c95) 70 2,bag B88]∧KLe K84 K305) h302 ⟨K84,rfl,hS87,(KLe.refl _)⟩ ⟨rfl,rfl,rfl,rfl,rfl,trivial⟩ ?_ ?_
      ·rintro i304 s300 _ w307 r309 hi310 h311 hx312 ⟨K305,rfl,hS308,hl306⟩
       refine sr ?_
       refine wl_val wn rfl (rv_lss rfl rfl) ?_
       refine ns ?_
       refine wc_cond_t rfl (decide_eq_true (by omega)) (wc_skip (qe_seq (wc_seq ?_)))
       refine wc_block ?_
       refine sr ?_
       refine vm rfl rfl ?_
       obtain⟨x313,hx314,h315⟩:=ob h311
       refine wl_indexAddr (t:=tGState) wn rfl Try.underlying24 tf48 rfl rfl (SliceAt.mono hl306 hs91) hx314 ?_
       intro b316 o317 u318 hu319 ha320
       obtain⟨a322,n323,c324,rfl,hr321,hs325⟩:=hu319
       have ha326:AtK _ b316 o317 [.bool x313.Final,.int .i64 x313.Many,.slice a322 n323 c324]:=ha320
       refine wl_val wn rfl (rv_loadS (cs:=[.bool x313.Final,.int .i64 x313.Many,.slice a322 n323 c324]) tf48 rfl hS308 ha326 rfl) ?_
       refine wl_alloc wn rfl tf48 hS308 ?_
       intro g327 w328 hS329
       have hS330:SH _ _ _ _ _ [obj g327 [.bool false,.int .i64 0,.slice none 0 0] 48,_,_,_,_,_]:=hS329
       refine va rfl rfl ?_
       refine wl_store (cs':=[.bool x313.Final,.int .i64 x313.Many,.slice a322 n323 c324]) (v:=.agg #[.bool x313.Final,.int .i64 x313.Many,.slice a322 n323 c324]) wn tf48 rfl rfl rfl (by simp [Value.cells,Value.oneCell']) hS330 rfl rfl ?_
       intro w331 hS332
       refine nr ?_
       refine wl_val wn rfl (rv_loadmS (ds:=[.bool x313.Final,.int .i64 x313.Many,.slice a322 n323 c324]) tf48 rfl (.head _) hS332 rfl rfl) ?_
       refine wl_val wn rfl (rv_loadmS (ds:=[.bool o81.2.Final,.int .i64 o81.2.Many,.slice a93 n94 c95]) tf48 rfl (.tail _ (.tail _ (.tail _ (.head _)))) hS332 rfl rfl) ?_
       obtain⟨r333,hx334,h335⟩:=ob h315
       refine wl_call wn rfl (rt_call (vs:=[.agg #[.bool x313.Final,.int .i64 x313.Many,.slice a322 n323 c324],.agg #[.bool o81.2.Final,.int .i64 o81.2.Many,.slice a93 n94 c95]]) co45 rfl) ((ok_impl_sameState F) hS332.enter0 hr321 hs325 hr92 (SliceAt.mono hl306 hs96) hx334) ?_
       rintro e339 w337 ⟨K336,rfl,hS338⟩
       refine⟨_,rfl,?_⟩
       have hS340:SH _ _ _ _ _ [_,_,_,_,_,_]:=SH.call0 hS332 hS338
       refine nq ?_
       refine wc_cond rfl (fun hb341=>?_) (fun hb341=>?_)
       ·have h342:=cond_t hb341 h335
        refine sr ?_
        refine vm rfl rfl ?_
        refine va rfl rfl ?_
        refine nq ?_
        refine wc_ret ?_
        refine qe_block_ret ?_
        refine qe_then_ret ?_
        refine qe_then_ret ?_
        obtain rfl:=oi h342
        have e343:=hx312 _ rfl
        subst e343
        refine qe_block_ret ?_
        refine qe_then_ret ?_
        obtain rfl:=oi h303
        refine qe_then_ret ?_
        obtain rfl:=oi h294
        have hS344:SH _ _ _ _ _ [_,_,_]:=SH.sublist hS340 (.cons _ (.cons_cons _ (.cons_cons _ (.cons _ (.cons _ (.cons_cons _ .slnil))))))
        exact qe_ret (vs:=[_]) Try.results24 ⟨rfl,trivial⟩ ⟨a88,n89,c90,K336,B88,rfl,hS344,(rng_idx hi310 (SliceAt.max hs91)),(OwnS.mono ho91 (hl306.trans hS338.le))⟩
       ·have h342:=cond_f hb341 h335
        refine wc_skip ?_
        refine qe_block ?_
        refine qg ?_
        refine wl_val wn rfl (rv_add_to rfl rfl (w64_succ hi310 (SliceAt.max hs91))) ?_
        refine vm rfl rfl ?_
        refine wl_nil ?_
        obtain rfl:=oi h342
        have hS345:SH _ _ _ _ _ [_,_,_,_,_]:=SH.sublist hS340 (.cons _ (.cons_cons _ (.cons_cons _ (.cons_cons _ (.cons_cons _ (.cons_cons _ .slnil))))))
        exact qe_mid' ⟨_,rfl,K336,rfl,hS345,(hl306.trans hS338.le)⟩ ⟨rfl,rfl,rfl,rfl,rfl,trivial⟩
      ·rintro s300 _ w307 hr346 ⟨K305,rfl,hS308,hl306⟩
       subst hr346
       refine sr ?_
       refine wl_val wn rfl (rv_lss rfl rfl) ?_
       refine ns ?_
       refine wc_cond_f rfl (decide_eq_false (by omega)) ?_
       refine wc_exit ?_
       refine qe_then_exit ?_
       refine qe_then_exit ?_
       refine qe_block_eq ?_
       obtain rfl:=oi h303
       exact qe_mid' ⟨_,K305,rfl,rfl,hS308,hl306⟩ ⟨rfl,rfl,trivial⟩
     ·rintro _ w298 ⟨s295,K296,rfl,rfl,hS299,hl297⟩
      have h294:=elim_l h294
      refine qs ?_
      refine wc_held (fun w'=>Holds K296 w'∧HasObj g16 [.bool o81.2.Final,.int .i64 o81.2.Many,.slice a93 n94 c95] w') (fun w'=>HasObj g1 [.slice a88 n89 c90] w') 10 [(4,7),(4,8),(4,9),(4,10),(7,8),(7,9),(7,10),(8,9),(9,10)] mixed ?_
      have hS349:=SH.drew hS299
      refine wg_val (i:=0) (listed':=L_ 11 0) (fun _=>True) rfl (by kernel_rfl) (pk_then pk_body) (by kernel_rfl) rfl (by kernel_rfl) (by kernel_rfl) rfl (.inl fun _ _=>trivial) ⟨⟨hS349.hasK (KLe.refl _),hS349.hasObj (.tail _ (.tail _ (.head _)))⟩,(fun _=>hS349.hasObj (.head _)),by decide⟩ wn rfl (fun _ _=>(rv_move rfl)) ?_
      refine wg_val (i:=1) (listed':=L_ 11 1) (fun _=>True) rfl (by kernel_rfl) (pk_then pk_body) (by kernel_rfl) rfl (by kernel_rfl) (by kernel_rfl) rfl (.inl fun _ _=>trivial) ⟨⟨hS349.hasK (KLe.refl _),hS349.hasObj (.tail _ (.tail _ (.head _)))⟩,(fun _=>hS349.hasObj (.head _)),by decide⟩ wn rfl (fun _ _=>(rv_move rfl)) ?_
      refine wg_val (i:=2) (listed':=L_ 11 2) (fun _=>True) rfl (by kernel_rfl) (pk_then pk_body) (by kernel_rfl) rfl (by kernel_rfl) (by kernel_rfl) rfl (.inl fun _ _=>trivial) ⟨⟨hS349.hasK (KLe.refl _),hS349.hasObj (.tail _ (.tail _ (.head _)))⟩,(fun _=>hS349.hasObj (.head _)),by decide⟩ wn rfl (fun _ _=>(rv_nilCheck rfl)) ?_
      refine wg_val (i:=3) (listed':=L_ 11 3) (fun _=>True) rfl (by kernel_rfl) (pk_then pk_body) (by kernel_rfl) rfl (by kernel_rfl) (by kernel_rfl) rfl (.inl fun _ _=>trivial) ⟨⟨hS349.hasK (KLe.refl _),hS349.hasObj (.tail _ (.tail _ (.head _)))⟩,(fun _=>hS349.hasObj (.head _)),by decide⟩ wn rfl (fun _ _=>(rv_fieldAddr ff43_0 rfl)) ?_
      refine wg_val (i:=4) (listed':=L_ 11 4) (HasObj g1 [.slice a88 n89 c90]) rfl (by kernel_rfl) (pk_then pk_body) (by kernel_rfl) rfl (by kernel_rfl) (by kernel_rfl) rfl (.inr ⟨rfl,fun _ _ h=>h⟩) ⟨⟨hS349.hasK (KLe.refl _),hS349.hasObj (.tail _ (.tail _ (.head _)))⟩,(fun _=>hS349.hasObj (.head _)),by decide⟩ wn rfl (fun _ h=>rh_loadm1 tf24 rfl rfl h) ?_
      refine wg_val (i:=5) (listed':=L_ 11 5) (HasObj g16 [.bool o81.2.Final,.int .i64 o81.2.Many,.slice a93 n94 c95]) rfl (by kernel_rfl) (pk_then pk_body) (by kernel_rfl) rfl (by kernel_rfl) (by kernel_rfl) rfl (.inl fun _ h=>h.2) ⟨⟨hS349.hasK (KLe.refl _),hS349.hasObj (.tail _ (.tail _ (.head _)))⟩,(fun _=>hS349.hasObj (.head _)),by decide⟩ wn rfl (fun _ h=>rh_loadmS (ds:=[.bool o81.2.Final,.int .i64 o81.2.Many,.slice a93 n94 c95]) tf48 rfl rfl rfl h) ?_
      refine wg_one (i:=6) (by kernel_rfl) rfl ?_
      have hSa0:SH _ _ _ _ _ [_,_,_,_,_]:=SH.front (p:=[_,_,_]) hS349
      obtain⟨fx0,hSb0,hox0⟩:=SH.ownState (x:=o81.2) hSa0 hr92 (SliceAt.mono hl297 hs96)
      have hSx0:SH _ _ _ _ _ [_,_,_,_,_]:=SH.back (p:=[_,_,_]) hSb0
      refine wl_buildSlice (t:=oState.pair) (n:=1) (pv:=[(0,.agg #[.bool o81.2.Final,.int .i64 o81.2.Many,.slice a93 n94 c95])]) (cs:=[.bool o81.2.Final,.int .i64 o81.2.Many,.slice a93 n94 c95]) (xs:=[(o81.2,fx0)]) wn rfl Try.underlying24 tf48 rfl rfl rfl (by kernel_rfl) rfl rfl (lit_cons (u:=.agg #[.bool o81.2.Final,.int .i64 o81.2.Many,.slice a93 n94 c95]) (z:=(o81.2,fx0)) hox0 lit_nil) hSx0 ?_
      intro a350 w351 K352 hl353 hs354 hS355
      refine wl_nil (qe_held (listed':=L_ 11 6) rfl ⟨⟨hS355.hasK hl353,hS355.hasObj (.tail _ (.tail _ (.tail _ (.head _))))⟩,(fun _=>hS355.hasObj (.tail _ (.head _))),by decide⟩ ?_)
      refine wg_one (i:=7) (by kernel_rfl) rfl ?_
      have hS356:SH _ _ _ _ _ [_,_,_,_,_,_]:=SH.front (p:=[_,_]) hS355
      obtain⟨x357,hx358,h359⟩:=ob h294
      refine wl_appendO (o:=oState) wn rfl Try.underlying24 tf48 rfl rfl rfl rfl rfl (OwnS.mono ho91 (hl297.trans hl353)) (OwnS.one hs354) hx358 hS356 ?_
      intro a360 n361 c362 w363 K364 hl365 ho366 hS367
      have hs366:=OwnS.sl ho366
      refine wl_nil (qe_held (listed':=L_ 11 7) rfl ⟨⟨hS367.hasK (hl353.trans hl365),hS367.hasObj (.tail _ (.tail _ (.tail _ (.head _))))⟩,(fun _=>hS367.hasObj (.tail _ (.tail _ (.head _)))),by decide⟩ ?_)
      refine wg_val (i:=8) (listed':=L_ 11 8) (fun _=>True) rfl (by kernel_rfl) (pk_then pk_body) (by kernel_rfl) rfl (by kernel_rfl) (by kernel_rfl) rfl (.inl fun _ _=>trivial) ⟨⟨hS367.hasK (hl353.trans hl365),hS367.hasObj (.tail _ (.tail _ (.tail _ (.head _))))⟩,(fun _=>hS367.hasObj (.tail _ (.tail _ (.head _)))),by decide⟩ wn rfl (fun _ _=>(rv_nilCheck rfl)) ?_
      refine wg_val (i:=9) (listed':=L_ 11 9) (fun _=>True) rfl (by kernel_rfl) (pk_then pk_body) (by kernel_rfl) rfl (by kernel_rfl) (by kernel_rfl) rfl (.inl fun _ _=>trivial) ⟨⟨hS367.hasK (hl353.trans hl365),hS367.hasObj (.tail _ (.tail _ (.tail _ (.head _))))⟩,(fun _=>hS367.hasObj (.tail _ (.tail _ (.head _)))),by decide⟩ wn rfl (fun _ _=>(rv_fieldAddr ff43_0 rfl)) ?_
      refine wg_one (i:=10) (by kernel_rfl) rfl ?_
      have hS368:SH _ _ _ _ _ [_,_,_,_,_,_]:=SH.front (p:=[_,_]) hS367
      refine wl_store (cs':=[.slice a360 n361 c362]) (v:=.slice a360 n361 c362) wn tf24 rfl rfl rfl (by simp [Value.cells,Value.oneCell']) hS368 rfl rfl ?_
      intro w369 hS370
      refine wl_nil (qe_held (listed':=L_ 11 10) rfl ⟨⟨hS370.hasK (hl353.trans hl365),hS370.hasObj (.tail _ (.tail _ (.tail _ (.head _))))⟩,(fun h=>nomatch h),by decide⟩ ?_)
      refine wg_done (by kernel_rfl) ?_
      refine qr ?_
      refine vm rfl rfl ?_
      refine wl_val wn rfl (rv_nilCheck rfl) ?_
      refine wl_val wn rfl (rv_fieldAddr ff43_0 rfl) ?_
      refine wl_val wn rfl (rv_loadm1 tf24 rfl (.head _) hS370 rfl) ?_
      refine wl_val wn rfl (rv_len (t:=tGState) Try.underlying24 rfl hs366) ?_
      refine wl_val wn rfl (rv_sub rfl rfl) ?_
      refine va rfl rfl ?_
      refine nq ?_
      refine wc_ret ?_
      obtain rfl:=oi h359
      have hS371:SH _ _ _ _ _ [_,_,_]:=SH.bagEnd2 (SH.sublist (L':=[_,_,_,_]) hS370 (.cons_cons _ (.cons_cons _ (.cons _ (.cons _ (.cons_cons _ (.cons_cons _ .slnil)))))))
      exact qe_ret (vs:=[_]) Try.results24 ⟨rfl,trivial⟩ ⟨a360,n361,c362,K364,(B88++fx0),rfl,hS371,(w64_rng _),ho366⟩

theorem own_impl_DawgOf (F:Nat){w:World}{K:KMap}{a1:Option Addr}{n2 c3:Nat}{p0_words:List Str}{r:(List GState)}(hS:SH w K [] w K [])(hs4:SliceAt tStr K a1 n2 c3 p0_words)(hm:M.impl_DawgOf F p0_words=some r):
  Calls Try.prog 8 #[.slice a1 n2 c3] w fun e w'=>∃(a_1:Option Addr) (n_2 c_3:Nat) (K':KMap) (f':List Nat),e= .returned (.slice a_1 n_2 c_3)∧SH w K [] w' K' [bag f']∧RowO oState K' f' (.slice a_1 n_2 c_3) r:=by
 rw [M.impl_DawgOf] at hm
 refine calls_in Try.func8 u Try.ntmps8 u ?_
 refine sr ?_
 refine wl_val wn u (rv_assign (v:=.slice none 0 0) u) ?_
 refine nsr ?_
 refine vm u u ?_
 obtain⟨r5,hx6,h7⟩:=ob hm
 refine wl_call wn u (rt_call (vs:=[.slice a1 n2 c3]) co23 u) ((ok_impl_WordsUp F) hS.enter0 hs4 hx6) ?_
 rintro e11 w9 ⟨K8,rfl,hS10⟩
 refine⟨_,u,?_⟩
 have hS12:SH _ _ _ _ _ []:=SH.call0 hS hS10
 refine wl_val wn u (rv_not u) ?_
 refine nq ?_
 refine wc_cond u (fun hb13=>?_) (fun hb13=>?_)
 ·have h14:=cond_t hb13 h7
  refine sr ?_
  refine wl_buildSlice0 tGState wn u Try.underlying24 tf48 hS12 ?_
  intro a15 w17 K18 hl19 hs20 hS21
  refine va u u ?_
  refine nq ?_
  refine rr ?_
  obtain rfl:=oi h14
  obtain⟨ff0,hSf0,hRf0⟩:=SH.ownS (SH.bagAdd hS21) (OwnS.none (o:=oState) hs20)
  exact qe_ret (vs:=[_]) Try.results8 ⟨u,trivial⟩ ⟨a15,0,0,K18,ff0,u,hSf0,hRf0⟩
 ·have h14:=cond_f hb13 h7
  refine wc_skip ?_
  refine qr ?_
  refine wl_buildSlice0 tGState wn u Try.underlying24 tf48 hS12 ?_
  intro a22 w23 K24 hl25 hs26 hS27
  refine wl_val wn u (rv_build (cs:=#[.slice a22 0 0]) sp43 tf43 u (by kernel_rfl)) ?_
  refine wl_box wn u u hS27 ?_
  intro g28 w29 hS30
  have hS31:SH _ _ _ _ _ [obj g28 [.slice a22 0 0] 43,_]:=hS30
  refine va u u ?_
  refine nr ?_
  refine vm u u ?_
  refine vm u u ?_
  obtain⟨r32,hx33,h34⟩:=ob h14
  have hS35:SH _ _ _ _ _ [_,_]:=SH.front (p:=[_]) hS31
  have hS36:SH _ _ _ _ _ [_,_]:=SH.front (p:=[_]) hS35
  have hSy0:SH _ _ _ _ _ [_,_,_]:=SH.back (p:=[_,_]) (SH.bag0 hS36)
  refine wl_call wn u (rt_call (vs:=[.pointer (some ⟨g28,0,none⟩),.slice a1 n2 c3]) co24 u) ((own_impl_dawg_put F (p0_d:=(GDawg.mk ([]:List GState)))) (SH.enter (Lin:=[_,_,_]) hSy0) (OwnS.none (o:=oState) hs26) (SliceAt.mono (hS10.le.trans hl25) hs4) hx33) ?_
  rintro e45 w38 ⟨a41,n42,c43,K37,By0,rfl,hS39,hr40,ho44⟩
  refine⟨_,u,?_⟩
  have hs44:=OwnS.sl ho44
  have hS46:SH _ _ _ _ _ [_,_,_]:=SH.call (Lin:=[_,_,_]) hSy0 hS39
  refine nr ?_
  refine vm u u ?_
  refine wl_val wn u (rv_nilCheck u) ?_
  refine wl_val wn u (rv_fieldAddr ff43_0 u) ?_
  refine wl_val wn u (rv_loadm1 tf24 u (.head _) hS46 u) ?_
  refine va u u ?_
  refine nq ?_
  refine wc_ret ?_
  obtain rfl:=oi h34
  have hS47:SH _ _ _ _ _ [_,_]:=SH.sublist hS46 (.cons _ (.cons_cons _ (.cons_cons _ .slnil)))
  obtain⟨ff0,hSf0,hRf0⟩:=SH.ownS hS47 ho44
  exact qe_ret (vs:=[_]) Try.results8 ⟨u,trivial⟩ ⟨a41,n42,c43,K37,ff0,u,hSf0,hRf0⟩

theorem ok_laws_eqArc {q0:GArc}{q1:GArc}{r:Bool}(hS:SH w K [] w K [])(o:rng64 q0.To)(q:rng64 q1.To)(hm:M.laws_eqArc F q0 q1=some r):
  Calls prog 60 #[.agg #[iv8 q0.Byte,V6 q0.To],.agg #[iv8 q1.Byte,V6 q1.To]] w (R_b w K r):=by
 rw [M.laws_eqArc] at hm
 refine ci func60 u ntmps60 (sr (bx u hS fun g3 s f=>?_))
 have i:SH _ _ _ _ _ [obj g3 [iv8 q0.Byte,V6 q0.To] 70]:=f
 refine bx u i fun k x l=>?_
 have a:SH _ _ _ _ _ [obj k [iv8 q1.Byte,V6 q1.To] 70,_]:=l
 refine lv (r_f u) (nsr (fl ff70_0 u tf5 m1 a u (fl ff70_0 u tf5 m0 a u (lv (rv_bne u u) (nq (wc_cond u (fun b=>?_) (fun b=>?_)))))))
 ·have c:=cond_t b hm
  refine sr (lv (r_f u) (nq (rr ?_)))
  cases oi c
  exact ey results60 ⟨K,u,a.s⟩
 have c:=cond_f b hm
 refine wc_skip (qs (sr (fl ff70_1 u tf3 m1 a u (fl ff70_1 u tf3 m0 a u (lv (rv_neq u u) (nq (wcc c u (fun m d=>?_) (fun m d=>?_))))))))
 ·refine sr (lv (r_f u) (nq (rr ?_)))
  cases oi d
  exact ey results60 ⟨K,u,a.s⟩
 refine wc_skip (qr (lv (r_t u) (nq (wc_ret ?_))))
 cases oi d
 exact ey results60 ⟨K,u,a.s⟩

theorem ok_laws_eqArcS {q0:List GArc}{q1:List GArc}{r:Bool}(hS:SH w K [] w K [])(k:SliceAt tGArc K A a b q0)(x:SliceAt tGArc K B c d q1)(hm:M.laws_eqArcS F q0 q1=some r):
  Calls prog 46 #[V3 A a b,V3 B c d] w (R_b w K r):=by
 rw [M.laws_eqArcS] at hm
 refine ci func46 u ntmps46 (sr (lv (r_f u) (nsr (mv u (lv (rv_len underlying46 u k) (mv u (lv (rv_len underlying46 u x) (lv (rv_neq u u) (nq ?_)))))))))
 refine wc_cond u (fun l=>?_) (fun l=>?_)
 ·have m:=cond_t l hm
  refine sr (lv (r_f u) (nq (rr ?_)))
  cases oi m
  exact ey results46 ⟨K,u,hS⟩
 have m:=cond_f l hm
 refine wc_skip (qs (sr (lv (r_0 u) (nq ?_))))
 obtain⟨O,R,i⟩:=ob m
 refine wc_cutg (IE O w K [] K [] []) ?_ ?_
 ·refine wc_block ?_
  obtain⟨ax,S,y⟩:=ob R
  refine qw (fun (o:Int)=>IW w K [] K [(0,V3 A a b),(1,V3 B c d),(5,V6 o)] [] (rng64 o)) S ⟨K,u,hS,kr,d_0⟩ ?_
  rintro o _ ay az T C ⟨U,rfl,D,f,aA⟩
  refine wc_seq (sr (mv u (mv u (lv (rv_len underlying46 u (k.mono f)) (lv (rv_lss u u) (nq (wcc T u (fun V q=>?_) (fun V q=>?_))))))))
  ·refine wc_skip (qs (wc_block (wc_seq (wc_quiet mixed (by kernel_rfl) D (km u (km u ?_))))))
   obtain⟨G,W,X⟩:=ob q
   refine ki underlying46 tf70 (k.mono f) W fun Y aa aB ab ac=>?_
   obtain⟨rfl,ad⟩:=ab
   have ae:AtK _ Y aa [iv8 G.Byte,V6 G.To]:=ac
   refine kh (rq_loadS tf70 u ae u) (km u (km u ?_))
   obtain⟨H,af,ag⟩:=ob X
   refine ki underlying46 tf70 (x.mono f) af fun ah ai aC aj ak=>?_
   obtain⟨rfl,al⟩:=aj
   have am:AtK _ ah ai [iv8 H.Byte,V6 H.To]:=ak
   refine kh (rq_loadS tf70 u am u) ?_
   obtain⟨aD,an,ao⟩:=ob ag
   refine kc co60 (fun _ _ ap aE=>(ok_laws_eqArc F) ap.enter0 ad al an) (kv (rv_not u) (wq_nil ?_))
   rintro aF ⟨I,J,aq⟩
   refine qe_seq (wcc ao u (fun ar s=>?_) (fun ar s=>?_))
   ·refine sr (lv (r_f u) (nq (wc_ret (qe_block_ret (qe_then_ret (qe_then_ret ?_))))))
    cases oi s
    cases C _ u
    refine qe_block_ret (qe_then_ret ?_)
    cases oi y
    refine qe_then_ret ?_
    cases oi i
    exact ey results46 ⟨I,u,J⟩
   refine wc_skip (qe_block (qe_seq (wc_region (mv u (lv (rv_add u u) (av u (wl_nil ?_)))))))
   cases oi s
   exact qd ⟨_,u,I,u,J,(f.trans aq),(w64_rng _)⟩
  refine wc_exit (qe_then_exit (qe_then_exit ?_))
  cases oi q
  cases C _ u
  refine qe_block_eq ?_
  cases oi y
  exact qe_mid' ⟨_,U,u,u,D,f⟩ trivial
 rintro _ aG ⟨aH,au,rfl,rfl,aw,aI⟩
 have i:=elim_l i
 refine qr (lv (r_t u) (nq (wc_ret ?_)))
 cases oi i
 exact ey results46 ⟨au,u,aw⟩

theorem ok_laws_eqState {q0:GState}{q1:GState}{r:Bool}(hS:SH w K [] w K [])(T:rng64 q0.Many)(s:SliceAt tGArc K A a b q0.Arcs)(U:rng64 q1.Many)(x:SliceAt tGArc K B c d q1.Arcs)(hm:M.laws_eqState F q0 q1=some r):
  Calls prog 25 #[.agg #[.bool q0.Final,V6 q0.Many,V3 A a b],.agg #[.bool q1.Final,V6 q1.Many,V3 B c d]] w (R_b w K r):=by
 rw [M.laws_eqState] at hm
 refine ci func25 u ntmps25 (sr (bx u hS fun y V C=>?_))
 have D:SH _ _ _ _ _ [obj y [.bool q0.Final,V6 q0.Many,V3 A a b] 48]:=C
 refine bx u D fun G W H=>?_
 have f:SH _ _ _ _ _ [obj G [.bool q1.Final,V6 q1.Many,V3 B c d] 48,_]:=H
 refine lv (r_f u) (nsr (fl ff48_0 u tf4 m1 f u (fl ff48_0 u tf4 m0 f u (lv (rv_boolne underlying4 u u) (nq (wc_cond u (fun i=>?_) (fun i=>?_)))))))
 ·have k:=cond_t i hm
  refine sr (lv (r_f u) (nq (rr ?_)))
  cases oi k
  exact ey results25 ⟨K,u,f.s⟩
 have k:=cond_f i hm
 refine wc_skip (qs (sr (fl ff48_1 u tf3 m1 f u (fl ff48_1 u tf3 m0 f u (lv (rv_neq u u) (nq (wcc k u (fun I l=>?_) (fun I l=>?_))))))))
 ·refine sr (lv (r_f u) (nq (rr ?_)))
  cases oi l
  exact ey results25 ⟨K,u,f.s⟩
 refine wc_skip (qs (sr (fl ff48_2 u tf46 m1 f u (fl ff48_2 u tf46 m0 f u ?_))))
 obtain⟨X,J,O⟩:=ob l
 refine lk co46 (ok_laws_eqArcS F f.enter0 s x J) ?_
 rintro Y aa ⟨o,rfl,R⟩
 have q:=(f.c0 R).t2
 refine lv (rv_not u) (nq (wcc O u (fun S m=>?_) (fun S m=>?_)))
 ·refine sr (lv (r_f u) (nq (rr ?_)))
  cases oi m
  exact ey results25 ⟨o,u,q.s⟩
 refine wc_skip (qr (lv (r_t u) (nq (wc_ret ?_))))
 cases oi m
 exact ey results25 ⟨o,u,q.s⟩

theorem ok_laws_eqStateS {q0:List GState}{q1:List GState}{r:Bool}(hS:SH w K [] w K [])(k:SliceAt tGState K A a b q0)(x:SliceAt tGState K B c d q1)(hm:M.laws_eqStateS F q0 q1=some r):
  Calls prog 9 #[V3 A a b,V3 B c d] w (R_b w K r):=by
 rw [M.laws_eqStateS] at hm
 refine ci func9 u ntmps9 (sr (lv (r_f u) (nsr (mv u (lv (rv_len underlying24 u k) (mv u (lv (rv_len underlying24 u x) (lv (rv_neq u u) (nq ?_)))))))))
 refine wc_cond u (fun l=>?_) (fun l=>?_)
 ·have m:=cond_t l hm
  refine sr (lv (r_f u) (nq (rr ?_)))
  cases oi m
  exact ey results9 ⟨K,u,hS⟩
 have m:=cond_f l hm
 refine wc_skip (qs (sr (lv (r_0 u) (nq ?_))))
 obtain⟨R,S,i⟩:=ob m
 refine wc_cutg (IE R w K [] K [] []) ?_ ?_
 ·refine wc_block ?_
  obtain⟨aG,T,y⟩:=ob S
  refine qw (fun (o:Int)=>IW w K [] K [(0,V3 A a b),(1,V3 B c d),(5,V6 o)] [] (rng64 o)) T ⟨K,u,hS,kr,d_0⟩ ?_
  rintro o _ aH aI U C ⟨V,rfl,D,f,aJ⟩
  refine wc_seq (sr (mv u (mv u (lv (rv_len underlying24 u (k.mono f)) (lv (rv_lss u u) (nq (wcc U u (fun W q=>?_) (fun W q=>?_))))))))
  ·refine wc_skip (qs (wc_block (wc_seq (wc_quiet mixed (by kernel_rfl) D (km u (km u ?_))))))
   obtain⟨G,X,Y⟩:=ob q
   refine ki underlying24 tf48 (k.mono f) X fun aa ab aK ac ad=>?_
   obtain⟨ae,af,ag,rfl,ah,ai⟩:=ac
   have aj:AtK _ aa ab [.bool G.Final,V6 G.Many,V3 ae af ag]:=ad
   refine kh (rq_loadS tf48 u aj u) (km u (km u ?_))
   obtain⟨H,ak,al⟩:=ob Y
   refine ki underlying24 tf48 (x.mono f) ak fun am an aL ao ap=>?_
   obtain⟨aq,ar,au,rfl,aw,ax⟩:=ao
   have ay:AtK _ am an [.bool H.Final,V6 H.Many,V3 aq ar au]:=ap
   refine kh (rq_loadS tf48 u ay u) ?_
   obtain⟨aM,az,aA⟩:=ob al
   refine kc co25 (fun _ _ aB I=>(ok_laws_eqState F) aB.enter0 ah (ai.mono I) aw (ax.mono I) az) (kv (rv_not u) (wq_nil ?_))
   rintro aN ⟨J,O,aC⟩
   refine qe_seq (wcc aA u (fun aD s=>?_) (fun aD s=>?_))
   ·refine sr (lv (r_f u) (nq (wc_ret (qe_block_ret (qe_then_ret (qe_then_ret ?_))))))
    cases oi s
    cases C _ u
    refine qe_block_ret (qe_then_ret ?_)
    cases oi y
    refine qe_then_ret ?_
    cases oi i
    exact ey results9 ⟨J,u,O⟩
   refine wc_skip (qe_block (qe_seq (wc_region (mv u (lv (rv_add u u) (av u (wl_nil ?_)))))))
   cases oi s
   exact qd ⟨_,u,J,u,O,(f.trans aC),(w64_rng _)⟩
  refine wc_exit (qe_then_exit (qe_then_exit ?_))
  cases oi q
  cases C _ u
  refine qe_block_eq ?_
  cases oi y
  exact qe_mid' ⟨_,V,u,u,D,f⟩ trivial
 rintro _ aO ⟨aP,aE,rfl,rfl,aF,aQ⟩
 have i:=elim_l i
 refine qr (lv (r_t u) (nq (wc_ret ?_)))
 cases oi i
 exact ey results9 ⟨aE,u,aF⟩

theorem ok_laws_eqStringS {q0:List Str}{q1:List Str}{r:Bool}(hS:SH w K [] w K [])(k:SliceAt tStr K A a b q0)(x:SliceAt tStr K B c d q1)(hm:M.laws_eqStringS F q0 q1=some r):
  Calls prog 10 #[V3 A a b,V3 B c d] w (R_b w K r):=by
 rw [M.laws_eqStringS] at hm
 refine ci func10 u ntmps10 (sr (lv (r_f u) (nsr (mv u (lv (rv_len underlying22 u k) (mv u (lv (rv_len underlying22 u x) (lv (rv_neq u u) (nq ?_)))))))))
 refine wc_cond u (fun l=>?_) (fun l=>?_)
 ·have m:=cond_t l hm
  refine sr (lv (r_f u) (nq (rr ?_)))
  cases oi m
  exact ey results10 ⟨K,u,hS⟩
 have m:=cond_f l hm
 refine wc_skip (qs (sr (lv (r_0 u) (nq ?_))))
 obtain⟨I,J,i⟩:=ob m
 refine wc_cutg (IE I w K [] K [] []) ?_ ?_
 ·refine wc_block ?_
  obtain⟨ap,O,y⟩:=ob J
  refine qw (fun (o:Int)=>IW w K [] K [(0,V3 A a b),(1,V3 B c d),(5,V6 o)] [] (rng64 o)) O ⟨K,u,hS,kr,d_0⟩ ?_
  rintro o _ aq ar R C ⟨S,rfl,D,f,au⟩
  refine wc_seq (sr (mv u (mv u (lv (rv_len underlying22 u (k.mono f)) (lv (rv_lss u u) (nq (wcc R u (fun T q=>?_) (fun T q=>?_))))))))
  ·refine wc_skip (qs (wc_block (wc_seq (wc_quiet mixed (by kernel_rfl) D (km u (km u ?_))))))
   obtain⟨U,V,W⟩:=ob q
   refine ki underlying22 tf9 (k.mono f) V fun X Y aw aa ab=>?_
   obtain⟨rfl,ax⟩:=aa
   have ac:AtK _ X Y [sv U]:=ab
   refine kh (rq_load1 tf9 u (ac 0 _ u)) (km u (km u ?_))
   obtain⟨ad,ae,af⟩:=ob W
   refine ki underlying22 tf9 (x.mono f) ae fun ag ah ay ai aj=>?_
   obtain⟨rfl,az⟩:=ai
   have ak:AtK _ ag ah [sv ad]:=aj
   refine kh (rq_load1 tf9 u (ak 0 _ u)) (kv (rv_sneq u u) (wq_nil ?_))
   rintro aA ⟨G,H,al⟩
   refine qe_seq (wcc af u (fun am s=>?_) (fun am s=>?_))
   ·refine sr (lv (r_f u) (nq (wc_ret (qe_block_ret (qe_then_ret (qe_then_ret ?_))))))
    cases oi s
    cases C _ u
    refine qe_block_ret (qe_then_ret ?_)
    cases oi y
    refine qe_then_ret ?_
    cases oi i
    exact ey results10 ⟨G,u,H⟩
   refine wc_skip (qe_block (qe_seq (wc_region (mv u (lv (rv_add u u) (av u (wl_nil ?_)))))))
   cases oi s
   exact qd ⟨_,u,G,u,H,(f.trans al),(w64_rng _)⟩
  refine wc_exit (qe_then_exit (qe_then_exit ?_))
  cases oi q
  cases C _ u
  refine qe_block_eq ?_
  cases oi y
  exact qe_mid' ⟨_,S,u,u,D,f⟩ trivial
 rintro _ aB ⟨aC,an,rfl,rfl,ao,aD⟩
 have i:=elim_l i
 refine qr (lv (r_t u) (nq (wc_ret ?_)))
 cases oi i
 exact ey results10 ⟨an,u,ao⟩

theorem ok_laws_markText {q0:Int}{r:Str}(hS:SH w K [] w K [])(y:rng64 q0)(hm:M.laws_markText F q0=some r):
  Calls prog 26 #[V6 q0] w fun e w'=>∃K',e= .returned (sv r)∧SH w K [] w' K' []∧r.length≤maxLen:=by
 rw [M.laws_markText] at hm
 refine ci func26 u ntmps26 (sr (lv (r_s u) (nsr (mv u (lv (rv_leq u u) (nq (wc_cond u (fun b=>?_) (fun b=>?_))))))))
 ·have c:=cond_t b hm
  refine sr (lv (rv_assign (v:=sv [109,48]) u) (nq (rr ?_)))
  cases oi c
  exact ey results26 ⟨K,u,hS,(by decide :([109,48]:Str).length≤maxLen)⟩
 have c:=cond_f b hm
 refine wc_skip (qr (lv (r_s u) (ns ?_)))
 obtain⟨i,A,B⟩:=ob c
 refine wc_cutg (IW w K [] K [(3,sv i)] [] (i.length≤maxLen)) ?_ ?_
 ·refine wc_block ?_
  obtain⟨ac,C,D⟩:=ob A
  refine qw (fun (a:Int×Str)=>IW w K [] K [(0,V6 a.1),(3,sv a.2)] [] (rng64 a.1∧a.2.length≤maxLen)) C ⟨K,u,hS,kr,y,(by decide :([]:Str).length≤maxLen)⟩ ?_
  rintro a _ ad ae G H ⟨I,rfl,k,l,af,J⟩
  refine wc_seq (sr (mv u (lv (rv_gtr u u) (nq (wcc G u (fun O d=>?_) (fun O d=>?_))))))
  ·refine wc_skip (qe_seq (wc_block (sr (mv u ?_))))
   obtain⟨f,R,S⟩:=ob d
   refine lv (rv_rem u u R) (lv (rv_add u u) (lv (rv_i2b underlying3 underlying5 u) (lb tU8 (iv8 (byteOfI (w64 ((48:Int)+f)))) [iv8 (byteOfI (w64 ((48:Int)+f)))] (byteOfI (w64 ((48:Int)+f))) underlying73 tf5 u k fun ag ah T U V m=>(lv (rv_b2s underlying73 underlying5 underlying9 u V m) (mv u ?_)))))
   obtain⟨ai,o,W⟩:=ob S
   refine lv (rv_sadd u u o) (av u (nq (wc_region (mv u ?_))))
   obtain⟨aj,q,X⟩:=ob W
   refine lv (rv_quo u u q) (av u (nb ?_))
   cases oi X
   exact qd ⟨_,u,T,u,m.s,(l.trans U),(rng_quo q),(len_cat o)⟩
  refine wc_exit (qe_then_exit (qe_then_exit ?_))
  cases oi d
  cases H _ u
  refine qe_block_eq ?_
  cases oi D
  exact qd ⟨I,u,k,l,J⟩
 rintro _ w9 ⟨Y,rfl,aa,al,am⟩
 refine qr (mv u ?_)
 obtain⟨an,x,ab⟩:=ob B
 refine lv (rv_sadd (s:=([109]:Str)) u u x) (av u (nq (wc_ret ?_)))
 cases oi ab
 exact ey results26 ⟨Y,u,aa,(len_cat x)⟩

theorem ok_laws_markStringS {B:List Nat}{KM:KMap}{q0:List Str}{q1:Int}{r:Int}(hS:SH w K Z w K [mkI B KM])(i:SliceAt tStr (KM.only B) A a b q0)(q:rng64 q1)(hm:M.laws_markStringS F q0 q1=some r):
  Calls prog 11 #[V3 A a b,V6 q1] w fun e w'=>∃K',e= .returned (V6 r)∧SH w K Z w' K' [mkI B KM]∧rng64 r:=by
 rw [M.laws_markStringS] at hm
 refine ci func11 u ntmps11 (sr (lv (r_0 u) (nsr (lv (r_0 u) (nq ?_)))))
 obtain⟨k,s,x⟩:=ob hm
 refine wc_cutg (IW w K Z K [(1,V6 k)] [mkI B KM] (rng64 k)) ?_ ?_
 ·refine wc_block ?_
  obtain⟨ah,y,C⟩:=ob s
  refine qw (fun (c:Int×Int)=>IW w K Z K [(0,V3 A a b),(1,V6 c.1),(5,V6 c.2)] [mkI B KM] (rng64 c.1∧rng64 c.2)) y ⟨K,u,hS,kr,q,d_0⟩ ?_
  rintro c _ ai aj D G ⟨H,rfl,d,l,m,ak⟩
  refine wc_seq (sr (mv u (mv u (lv (rv_len underlying22 u i) (lv (rv_lss u u) (nq (wcc D u (fun I f=>?_) (fun I f=>?_))))))))
  ·refine wc_skip (qs (wc_block (sr (mv u (mv u (mv u ?_))))))
   obtain⟨J,O,R⟩:=ob f
   refine lk co26 (ok_laws_markText F d.enter0 m O) ?_
   rintro al am ⟨S,rfl,o,an⟩
   have T:=(d.c0 o).t1
   obtain⟨U,V,W⟩:=ob R
   refine li underlying22 tf9 i V fun X Y ao aa ab=>?_
   obtain⟨rfl,ap⟩:=aa
   have ac:AtK _ X Y [sv U]:=ab
   refine mk_store (v:=sv J) wn tf9 u u u T (ac 0 _ u) u fun aq ad=>(nq (wc_region (mv u (lv (rv_add u u) (av u (nb (qe_seq (wc_region (mv u ?_)))))))))
   refine lv (rv_add u u) (av u (wl_nil ?_))
   cases oi W
   exact qd ⟨_,u,S,u,ad,(l.trans o.le),(w64_rng _),(w64_rng _)⟩
  refine wc_exit (qe_then_exit (qe_then_exit ?_))
  cases oi f
  cases G _ u
  refine qe_block_eq ?_
  cases oi C
  exact qd ⟨H,u,d,l,m⟩
 rintro _ ar ⟨K9,rfl,af,au,ag⟩
 refine qr (mv u (av u (nq (wc_ret ?_))))
 cases oi x
 exact ey results11 ⟨K9,u,af,ag⟩

theorem hx_laws_markArcS (F:Nat){w:World}{K:KMap}{a1:Option Addr}{n2 c3:Nat}{B f0:List Nat}{H:KMap}{p0_a:List GArc}{p1_k r:Int}(hS:SH w K (List.flatMap Item.gs [hp B H]) w K [hp B H])(hB0: ∀b∈f0,b∈B)(hN0:f0.Nodup)(ho0:RowO oArc H f0 (.slice a1 n2 c3) p0_a)(hr5:rng64 p1_k)(hm:M.laws_markArcS F p0_a p1_k=some r):
  Calls Try.prog 27 #[.slice a1 n2 c3,.int .i64 p1_k] w fun e w'=>∃(K' H':KMap),e= .returned (.int .i64 r)∧SH w K (List.flatMap Item.gs [hp B H]) w' K' [hp B H']∧rng64 r∧RowO oArc H' f0 (.slice a1 n2 c3) (mkRow (stepGArc F) p1_k p0_a).1∧r=(mkRow (stepGArc F) p1_k p0_a).2∧∀b,b∉f0→H' b=H b:=by
 rw [M.laws_markArcS] at hm
 refine calls_in Try.func27 u Try.ntmps27 u ?_
 refine sr ?_
 refine wl_val wn u (rv_assign (v:=.int .i64 0) u) ?_
 refine nsr ?_
 refine wl_val wn u (rv_assign (v:=.int .i64 0) u) ?_
 refine nq ?_
 obtain⟨o6,h7,h8⟩:=ob hm
 refine wc_cutg (fun E' w'=>∃(K9 H9:KMap),E'=[(1,.int .i64 o6)]∧SH w K (List.flatMap Item.gs [hp B H]) w' K9 [hp B H9]∧KLe K K9∧rng64 o6∧RowO oArc H9 f0 (.slice a1 n2 c3) (mkRow (stepGArc F) p1_k p0_a).1∧o6=(mkRow (stepGArc F) p1_k p0_a).2∧∀b,b∉f0→H9 b=H b) ?_ ?_
 ·refine wc_block ?_
  obtain⟨r15,h16,h17⟩:=ob h7
  refine wc_while' (fun (s14:Int×Int) E' w'=>∃(K18 H18:KMap) (i18:Nat),E'=[(0,.slice a1 n2 c3),(1,.int .i64 s14.1),(5,.int .i64 s14.2)]∧SH w K (List.flatMap Item.gs [hp B H]) w' K18 [hp B H18]∧KLe K K18∧rng64 s14.1∧rng64 s14.2∧s14.2=(i18:Int)∧s14.1=mkAt (stepGArc F) p1_k p0_a i18∧RowO oArc H18 f0 (.slice a1 n2 c3) (mkTo (stepGArc F) p1_k p0_a i18)∧∀b,b∉f0→H18 b=H b) h16 ⟨K,H,0,u,hS,(KLe.refl _),hr5,d_0,u,u,ho0,fun _ _=>rfl⟩ ⟨u,u,u,trivial⟩ ?_
  rintro s14 _ w20 r24 h25 hx26 ⟨K18,H18,i18,rfl,hS21,hl19,hr22,hr23,hj0,hk0,hoR,hsM⟩
  have hn0:n2=p0_a.length:=hoR.sl.1.trans mkTo_len
  refine wc_seq ?_
  refine sr ?_
  refine vm u u ?_
  refine vm u u ?_
  refine wl_val wn u (rv_lenRow Try.underlying46 u hn0) ?_
  refine wl_val wn u (rv_lss u u) ?_
  refine nq ?_
  refine wc_cond u (fun hb27=>?_) (fun hb27=>?_)
  ·have h28:=cond_t hb27 h25
   refine wc_skip ?_
   refine qs ?_
   refine wc_block ?_
   refine sr ?_
   refine vm u u ?_
   refine vm u u ?_
   refine vm u u ?_
   refine wl_val wn u (rv_i2b Try.underlying3 Try.underlying5 u) ?_
   obtain⟨x29,hx30,h31⟩:=ob h28
   obtain⟨g0,fi0,u0,rfl,_,hgf0,hff0,hgn0,hfn0,hu0,hA0,hcl0⟩:=RowO.at hoR hN0 (mkTo_get (step:=(stepGArc F)) (k:=p1_k) hj0 hx30)
   obtain⟨hq0,hf0⟩:=hu0
   subst hf0
   obtain⟨rfl,_⟩:=hq0
   have hE0:El H18 H18 g0 (s14.2.toNat*2) 2 [] [iv8 x29.Byte,.int .i64 x29.To]:=El.start hA0
   refine wl_val wn u (rv_indexRow (t:=tGArc) (xs:=p0_a) Try.underlying46 tf70 u u hn0 hx30) ?_
   refine wl_val wn u (rv_fieldAddr ff70_0 u) ?_
   refine hp_store (v:=iv8 (byteOfI s14.1)) wn tf5 (by exact rfl) u u hS21 (hB0 _ hgf0) (hE0.1 0 _ u) ?_
   intro w39 hSq0
   have hS40:SH _ _ _ _ _ [hp B (poke H18 g0 ((s14.2.toNat*2)+0) (iv8 (byteOfI s14.1)))]:=hSq0
   have hE1:El H18 (poke H18 g0 ((s14.2.toNat*2)+0) (iv8 (byteOfI s14.1))) g0 (s14.2.toNat*2) 2 [] [iv8 (byteOfI s14.1),.int .i64 x29.To]:=El.poke hE0 (by decide)
   have hsM1:=off_poke (p:=(s14.2.toNat*2)+0) (v:=iv8 (byteOfI s14.1)) hsM hgf0
   refine nr ?_
   refine vm u u ?_
   refine wl_val wn u (rv_add u u) ?_
   refine va u u ?_
   refine nr ?_
   refine vm u u ?_
   refine vm u u ?_
   refine vm u u ?_
   obtain⟨x41,hx42,h43⟩:=ob h31
   have hxe41:x29=x41:=oi (hx30.symm.trans hx42)
   subst hxe41
   refine wl_val wn u (rv_indexRow (t:=tGArc) (xs:=p0_a) Try.underlying46 tf70 u u hn0 hx42) ?_
   refine wl_val wn u (rv_fieldAddr ff70_1 u) ?_
   refine hp_store (v:=.int .i64 (w64 (s14.1+(1:Int)))) wn tf3 (by exact rfl) u u hS40 (hB0 _ hgf0) (hE1.1 1 _ u) ?_
   intro w51 hSq1
   have hS52:SH _ _ _ _ _ [hp B (poke (poke H18 g0 ((s14.2.toNat*2)+0) (iv8 (byteOfI s14.1))) g0 ((s14.2.toNat*2)+1) (.int .i64 (w64 (s14.1+(1:Int)))))]:=hSq1
   have hE2:El H18 (poke (poke H18 g0 ((s14.2.toNat*2)+0) (iv8 (byteOfI s14.1))) g0 ((s14.2.toNat*2)+1) (.int .i64 (w64 (s14.1+(1:Int))))) g0 (s14.2.toNat*2) 2 [] [iv8 (byteOfI s14.1),.int .i64 (w64 (s14.1+(1:Int)))]:=El.poke hE1 (by decide)
   have hsM2:=off_poke (p:=(s14.2.toNat*2)+1) (v:=.int .i64 (w64 (s14.1+(1:Int)))) hsM1 hgf0
   refine nq ?_
   refine wc_region ?_
   refine vm u u ?_
   refine wl_val wn u (rv_add u u) ?_
   refine va u u ?_
   refine nb ?_
   refine qe_seq ?_
   refine wc_region ?_
   refine vm u u ?_
   refine wl_val wn u (rv_add u u) ?_
   refine va u u ?_
   refine wl_nil ?_
   obtain rfl:=oi h43
   have hnx:=mkTo_next (step:=(stepGArc F)) (k:=p1_k) hj0 hx30
   rw [←hk0] at hnx
   have hro:=hcl0 (poke (poke H18 g0 ((s14.2.toNat*2)+0) (iv8 (byteOfI s14.1))) g0 ((s14.2.toNat*2)+1) (.int .i64 (w64 (s14.1+(1:Int))))) (.agg #[iv8 (byteOfI s14.1),.int .i64 (w64 (s14.1+(1:Int)))]) _ (show oArc.own _ [] _ (⟨(byteOfI s14.1),(w64 (s14.1+(1:Int)))⟩:GArc) from⟨⟨u,(w64_rng _)⟩,u⟩) hE2.1 hE2.2
   obtain⟨ye,hye⟩: ∃y,y=stepGArc F s14.1 x29:=⟨_,u⟩
   rw [←hye] at hnx
   unfold stepGArc at hye
   subst hye
   obtain⟨hn1,hn2,hn3⟩:=hnx
   have hmx:=Nat.le_trans (Nat.le_of_eq mkTo_len.symm) hoR.sl.max
   exact qe_mid' ⟨_,u,K18,(poke (poke H18 g0 ((s14.2.toNat*2)+0) (iv8 (byteOfI s14.1))) g0 ((s14.2.toNat*2)+1) (.int .i64 (w64 (s14.1+(1:Int))))),i18+1,u,hS52,hl19,(w64_rng _),(w64_rng _),(by rw [hj0];exact w64_next (Nat.lt_of_lt_of_le hn3 hmx)),hn2,(by rw [←hn1];exact hro),hsM2⟩ ⟨u,u,u,trivial⟩
  ·have h28:=cond_f hb27 h25
   refine wc_exit ?_
   refine qe_then_exit ?_
   refine qe_then_exit ?_
   obtain rfl:=oi h28
   have e53:=hx26 _ u
   subst e53
   refine qe_block_eq ?_
   obtain rfl:=oi h17
   have hge0:p0_a.length≤i18:=by have:=of_decide_eq_false hb27;omega
   obtain⟨he1,he2⟩:=mkTo_end (step:=(stepGArc F)) (k:=p1_k) hge0
   rw [he1] at hoR
   rw [he2] at hk0
   exact qe_mid' ⟨K18,H18,u,hS21,hl19,hr22,hoR,hk0,hsM⟩ ⟨u,trivial⟩
 ·rintro _ w11 ⟨K9,H9,rfl,hS12,hl10,hr13,hoF,hkF,hsF⟩
  refine qr ?_
  refine vm u u ?_
  refine va u u ?_
  refine nq ?_
  refine wc_ret ?_
  obtain rfl:=oi h8
  exact qe_ret (vs:=[_]) Try.results27 ⟨u,trivial⟩ ⟨K9,H9,u,hS12,hr13,hoF,hkF,hsF⟩

theorem hx_laws_markStateS (F:Nat){w:World}{K:KMap}{a1:Option Addr}{n2 c3:Nat}{B f0:List Nat}{H:KMap}{p0_a:List GState}{p1_k r:Int}(hS:SH w K (List.flatMap Item.gs [hp B H]) w K [hp B H])(hB0: ∀b∈f0,b∈B)(hN0:f0.Nodup)(ho0:RowO oState H f0 (.slice a1 n2 c3) p0_a)(hr5:rng64 p1_k)(hm:M.laws_markStateS F p0_a p1_k=some r):
  Calls Try.prog 12 #[.slice a1 n2 c3,.int .i64 p1_k] w fun e w'=>∃(K' H':KMap),e= .returned (.int .i64 r)∧SH w K (List.flatMap Item.gs [hp B H]) w' K' [hp B H']∧rng64 r∧RowO oState H' f0 (.slice a1 n2 c3) (mkRow (stepGState F) p1_k p0_a).1∧r=(mkRow (stepGState F) p1_k p0_a).2∧∀b,b∉f0→H' b=H b:=by
 rw [M.laws_markStateS] at hm
 refine calls_in Try.func12 rfl Try.ntmps12 rfl ?_
 refine sr ?_
 refine wl_val wn rfl (rv_assign (v:=.int .i64 0) rfl) ?_
 refine nsr ?_
 refine wl_val wn rfl (rv_assign (v:=.int .i64 0) rfl) ?_
 refine nq ?_
 obtain⟨o6,h7,h8⟩:=ob hm
 refine wc_cutg (fun E' w'=>∃(K9 H9:KMap),E'=[(1,.int .i64 o6)]∧SH w K (List.flatMap Item.gs [hp B H]) w' K9 [hp B H9]∧KLe K K9∧rng64 o6∧RowO oState H9 f0 (.slice a1 n2 c3) (mkRow (stepGState F) p1_k p0_a).1∧o6=(mkRow (stepGState F) p1_k p0_a).2∧∀b,b∉f0→H9 b=H b) ?_ ?_
 ·refine wc_block ?_
  obtain⟨r15,h16,h17⟩:=ob h7
  refine wc_while' (fun (s14:Int×Int) E' w'=>∃(K18 H18:KMap) (i18:Nat),E'=[(0,.slice a1 n2 c3),(1,.int .i64 s14.1),(5,.int .i64 s14.2)]∧SH w K (List.flatMap Item.gs [hp B H]) w' K18 [hp B H18]∧KLe K K18∧rng64 s14.1∧rng64 s14.2∧s14.2=(i18:Int)∧s14.1=mkAt (stepGState F) p1_k p0_a i18∧RowO oState H18 f0 (.slice a1 n2 c3) (mkTo (stepGState F) p1_k p0_a i18)∧∀b,b∉f0→H18 b=H b) h16 ⟨K,H,0,rfl,hS,(KLe.refl _),hr5,d_0,rfl,rfl,ho0,fun _ _=>rfl⟩ ⟨rfl,rfl,rfl,trivial⟩ ?_
  rintro s14 _ w20 r24 h25 hx26 ⟨K18,H18,i18,rfl,hS21,hl19,hr22,hr23,hj0,hk0,hoR,hsM⟩
  have hn0:n2=p0_a.length:=hoR.sl.1.trans mkTo_len
  refine wc_seq ?_
  refine sr ?_
  refine vm rfl rfl ?_
  refine vm rfl rfl ?_
  refine wl_val wn rfl (rv_lenRow Try.underlying24 rfl hn0) ?_
  refine wl_val wn rfl (rv_lss rfl rfl) ?_
  refine nq ?_
  refine wc_cond rfl (fun hb27=>?_) (fun hb27=>?_)
  ·have h28:=cond_t hb27 h25
   refine wc_skip ?_
   refine qs ?_
   refine wc_block ?_
   refine sr ?_
   refine vm rfl rfl ?_
   refine vm rfl rfl ?_
   refine vm rfl rfl ?_
   obtain⟨x29,hx30,h31⟩:=ob h28
   refine wl_val wn rfl (rv_rem rfl rfl hx30) ?_
   refine wl_val wn rfl (rv_eql rfl rfl) ?_
   obtain⟨x32,hx33,h34⟩:=ob h31
   obtain⟨g0,fi0,u0,rfl,_,hgf0,hff0,hgn0,hfn0,hu0,hA0,hcl0⟩:=RowO.at hoR hN0 (mkTo_get (step:=(stepGState F)) (k:=p1_k) hj0 hx33)
   obtain⟨v2,rfl,_,hor2⟩:=hu0
   obtain⟨av2,nv2,cv2,rfl⟩:=hor2.val
   have hE0:El H18 H18 g0 (s14.2.toNat*3) 3 fi0 [.bool x32.Final,.int .i64 x32.Many,.slice av2 nv2 cv2]:=El.start hA0
   refine wl_val wn rfl (rv_indexRow (t:=tGState) (xs:=p0_a) Try.underlying24 tf48 rfl rfl hn0 hx33) ?_
   refine wl_val wn rfl (rv_fieldAddr ff48_0 rfl) ?_
   refine hp_store (v:=.bool (x29==(0:Int))) wn tf4 (by exact rfl) rfl rfl hS21 (hB0 _ hgf0) (hE0.1 0 _ rfl) ?_
   intro w46 hSq0
   have hS47:SH _ _ _ _ _ [hp B (poke H18 g0 ((s14.2.toNat*3)+0) (.bool (x29==(0:Int))))]:=hSq0
   have hE1:El H18 (poke H18 g0 ((s14.2.toNat*3)+0) (.bool (x29==(0:Int)))) g0 (s14.2.toNat*3) 3 fi0 [.bool (x29==(0:Int)),.int .i64 x32.Many,.slice av2 nv2 cv2]:=El.poke hE0 (by decide)
   have hor2_1:=RowO.poke (p:=(s14.2.toNat*3)+0) (u:=.bool (x29==(0:Int))) hor2 hgn0
   have hsM1:=off_poke (p:=(s14.2.toNat*3)+0) (v:=.bool (x29==(0:Int))) hsM hgf0
   refine nr ?_
   refine vm rfl rfl ?_
   refine wl_val wn rfl (rv_add rfl rfl) ?_
   refine va rfl rfl ?_
   refine nr ?_
   refine vm rfl rfl ?_
   refine vm rfl rfl ?_
   refine vm rfl rfl ?_
   obtain⟨x48,hx49,h50⟩:=ob h34
   have hxe48:x32=x48:=oi (hx33.symm.trans hx49)
   subst hxe48
   refine wl_val wn rfl (rv_indexRow (t:=tGState) (xs:=p0_a) Try.underlying24 tf48 rfl rfl hn0 hx49) ?_
   refine wl_val wn rfl (rv_fieldAddr ff48_1 rfl) ?_
   refine hp_store (v:=.int .i64 (w64 (s14.1+(1:Int)))) wn tf3 (by exact rfl) rfl rfl hS47 (hB0 _ hgf0) (hE1.1 1 _ rfl) ?_
   intro w62 hSq1
   have hS63:SH _ _ _ _ _ [hp B (poke (poke H18 g0 ((s14.2.toNat*3)+0) (.bool (x29==(0:Int)))) g0 ((s14.2.toNat*3)+1) (.int .i64 (w64 (s14.1+(1:Int)))))]:=hSq1
   have hE2:El H18 (poke (poke H18 g0 ((s14.2.toNat*3)+0) (.bool (x29==(0:Int)))) g0 ((s14.2.toNat*3)+1) (.int .i64 (w64 (s14.1+(1:Int))))) g0 (s14.2.toNat*3) 3 fi0 [.bool (x29==(0:Int)),.int .i64 (w64 (s14.1+(1:Int))),.slice av2 nv2 cv2]:=El.poke hE1 (by decide)
   have hor2_2:=RowO.poke (p:=(s14.2.toNat*3)+1) (u:=.int .i64 (w64 (s14.1+(1:Int)))) hor2_1 hgn0
   have hsM2:=off_poke (p:=(s14.2.toNat*3)+1) (v:=.int .i64 (w64 (s14.1+(1:Int)))) hsM1 hgf0
   refine nr ?_
   refine vm rfl rfl ?_
   refine wl_val wn rfl (rv_add rfl rfl) ?_
   refine va rfl rfl ?_
   refine nq ?_
   refine wc_region ?_
   refine vm rfl rfl ?_
   refine vm rfl rfl ?_
   obtain⟨x64,hx65,h66⟩:=ob h50
   have hxe64:x32=x64:=oi (hx33.symm.trans hx65)
   subst hxe64
   refine wl_val wn rfl (rv_indexRow (t:=tGState) (xs:=p0_a) Try.underlying24 tf48 rfl rfl hn0 hx65) ?_
   refine wl_val wn rfl (rv_fieldAddr ff48_2 rfl) ?_
   refine wl_val wn rfl (hp_load tf46 (by exact rfl) hS63 (hB0 _ hgf0) (hE2.1 2 _ rfl)) ?_
   refine vm rfl rfl ?_
   obtain⟨r78,hx79,h80⟩:=ob h66
   refine wl_call wn rfl (rt_call (vs:=[.slice av2 nv2 cv2,.int .i64 (w64 ((w64 (s14.1+(1:Int)))+(1:Int)))]) co27 rfl) ((hx_laws_markArcS F) (SH.enter (Lin:=[_]) hS63) (fun b hb=>hB0 b (hff0 b hb)) hfn0 hor2_2 (w64_rng _) hx79) ?_
   rintro e85 w82 ⟨K81,H81,rfl,hS83,hr84,hor2_3,hke2,hsm2⟩
   have hE3:El H18 H81 g0 (s14.2.toNat*3) 3 fi0 [.bool (x29==(0:Int)),.int .i64 (w64 (s14.1+(1:Int))),.slice av2 nv2 cv2]:=El.sub hE2 hgn0 (fun _ h=>h) hsm2
   have hsM3:=off_sub hsM2 hsm2 (fun b hb=>hff0 b ((fun _ h=>h) b hb))
   refine⟨_,rfl,?_⟩
   have hS86:SH _ _ _ _ _ [_]:=SH.call (Lin:=[_]) hS63 hS83
   refine va rfl rfl ?_
   refine nb ?_
   refine qe_seq ?_
   refine wc_region ?_
   refine vm rfl rfl ?_
   refine wl_val wn rfl (rv_add rfl rfl) ?_
   refine va rfl rfl ?_
   refine wl_nil ?_
   obtain rfl:=oi h80
   have hnx:=mkTo_next (step:=(stepGState F)) (k:=p1_k) hj0 hx33
   rw [←hk0] at hnx
   have hro:=hcl0 H81 (.agg #[.bool (x29==(0:Int)),.int .i64 (w64 (s14.1+(1:Int))),.slice av2 nv2 cv2]) _ (show oState.own _ fi0 _ (⟨(x29==(0:Int)),(w64 (s14.1+(1:Int))),_⟩:GState) from⟨_,rfl,(w64_rng _),hor2_3⟩) hE3.1 hE3.2
   obtain⟨ye,hye⟩: ∃y,y=stepGState F s14.1 x32:=⟨_,rfl⟩
   rw [←hye] at hnx
   unfold stepGState at hye
   rw [hx30] at hye
   rw [←hke2] at hye
   simp only [Option.getD_some] at hye
   subst hye
   obtain⟨hn1,hn2,hn3⟩:=hnx
   have hmx:=Nat.le_trans (Nat.le_of_eq mkTo_len.symm) hoR.sl.max
   exact qe_mid' ⟨_,rfl,K81,H81,i18+1,rfl,hS86,(hl19.trans hS83.le),hr84,(w64_rng _),(by rw [hj0];exact w64_next (Nat.lt_of_lt_of_le hn3 hmx)),hn2,(by rw [←hn1];exact hro),hsM3⟩ ⟨rfl,rfl,rfl,trivial⟩
  ·have h28:=cond_f hb27 h25
   refine wc_exit ?_
   refine qe_then_exit ?_
   refine qe_then_exit ?_
   obtain rfl:=oi h28
   have e87:=hx26 _ rfl
   subst e87
   refine qe_block_eq ?_
   obtain rfl:=oi h17
   have hge0:p0_a.length≤i18:=by have:=of_decide_eq_false hb27;omega
   obtain⟨he1,he2⟩:=mkTo_end (step:=(stepGState F)) (k:=p1_k) hge0
   rw [he1] at hoR
   rw [he2] at hk0
   exact qe_mid' ⟨K18,H18,rfl,hS21,hl19,hr22,hoR,hk0,hsM⟩ ⟨rfl,trivial⟩
 ·rintro _ w11 ⟨K9,H9,rfl,hS12,hl10,hr13,hoF,hkF,hsF⟩
  refine qr ?_
  refine vm rfl rfl ?_
  refine va rfl rfl ?_
  refine nq ?_
  refine wc_ret ?_
  obtain rfl:=oi h8
  exact qe_ret (vs:=[_]) Try.results12 ⟨rfl,trivial⟩ ⟨K9,H9,rfl,hS12,hr13,hoF,hkF,hsF⟩

theorem xo_laws_markStateS (F:Nat){w0 w:World}{K0 K:KMap}{L:List Fk.Item}{f0:List Nat}{a:Option Addr}{n c:Nat}{xs:List GState}{k r:Int}(h0:Holds K0 w0)(hS:SH w0 K0 [] w K (bag f0::L))(ho:RowO oState K f0 (.slice a n c) xs)(hk:rng64 k)(hm:M.laws_markStateS F xs k=some r):
  Calls Try.prog 12 #[.slice a n c,.int .i64 k] w fun e w'=>∃(K':KMap),e= .returned (.int .i64 r)∧SH w0 K0 [] w' K' (bag f0::L)∧RowO oState K' f0 (.slice a n c) (mkRow (stepGState F) k xs).1∧KLe (K.but f0) K'∧rng64 r∧r=(mkRow (stepGState F) k xs).2:=
 omark_call h0 hS fun h1=>hx_laws_markStateS F h1 (fun _ h=>h) hS.bag_nodup ho hk hm

theorem ok_laws_heldArcS {q0:List GArc}{q1:Int}{r:Int}(hS:SH w K [] w K [])(o:SliceAt tGArc K A a b q0)(G:rng64 q1)(hm:M.laws_heldArcS F q0 q1=some r):
  Calls prog 28 #[V3 A a b,V6 q1] w (R_i w K r):=by
 rw [M.laws_heldArcS] at hm
 refine ci func28 u ntmps28 (sr (lv (r_0 u) (nsr (lv (r_0 u) (nq ?_)))))
 obtain⟨H,I,d⟩:=ob hm
 refine wc_cutg (fun E' w'=>∃k l,H= .inl k∧E'=[(1,V6 k)]∧SH w K [] w' l []∧KLe K l∧rng64 k) ?_ ?_
 ·refine wc_block ?_
  obtain⟨am,J,q⟩:=ob I
  refine qw (fun (f:Int×Int)=>IW w K [] K [(0,V3 A a b),(1,V6 f.1),(5,V6 f.2)] [] (rng64 f.1∧rng64 f.2)) J ⟨K,u,hS,kr,G,d_0⟩ ?_
  rintro f _ an ao O s ⟨m,rfl,c,i,R,ap⟩
  refine wc_seq (sr (mv u (mv u (lv (rv_len underlying46 u (o.mono i)) (lv (rv_lss u u) (nq (wcc O u (fun S x=>?_) (fun S x=>?_))))))))
  ·refine wc_skip (qs (wc_block (wc_seq (sr (mv u (mv u ?_))))))
   obtain⟨C,T,U⟩:=ob x
   refine li underlying46 tf70 (o.mono i) T fun V W aq X Y=>?_
   obtain⟨rfl,ar⟩:=X
   have aa:AtK _ V W [iv8 C.Byte,V6 C.To]:=Y
   refine fa ff70_0 u (lv (rv_load1 tf5 u c (aa 0 _ u)) (mv u (lv (rv_i2b underlying3 underlying5 u) (lv (rv_bne u u) (nq (wcc U u (fun ab y=>?_) (fun ab y=>?_)))))))
   ·refine sr (lv (rv_assign (v:=V6 (-1)) u) (nq (rr (qe_block_ret (qe_then_ret (qe_then_ret ?_))))))
    cases oi y
    cases s _ u
    refine qe_block_ret (qe_then_ret ?_)
    cases oi q
    refine qe_then_ret ?_
    cases oi d
    exact ey results28 ⟨m,u,c,(by decide :rng64 (-1))⟩
   refine wc_skip (qr (mv u (lv (rv_add u u) (av u (nsr (mv u (mv u ?_)))))))
   obtain⟨D,ac,ad⟩:=ob y
   refine li underlying46 tf70 (o.mono i) ac fun ae af au ag ah=>?_
   obtain⟨rfl,aw⟩:=ag
   have ai:AtK _ ae af [iv8 D.Byte,V6 D.To]:=ah
   refine fa ff70_1 u (lv (rv_load1 tf3 u c (ai 1 _ u)) (mv u (lv (rv_neq u u) (nq (wcc ad u (fun aj B=>?_) (fun aj B=>?_))))))
   ·refine sr (lv (rv_assign (v:=V6 (-1)) u) (nq (rr (qe_block_ret (qe_then_ret (qe_then_ret ?_))))))
    cases oi B
    cases s _ u
    refine qe_block_ret (qe_then_ret ?_)
    cases oi q
    refine qe_then_ret ?_
    cases oi d
    exact ey results28 ⟨m,u,c,(by decide :rng64 (-1))⟩
   refine wc_skip (qe_seq (wc_region (mv u (lv (rv_add u u) (av u (nb (qe_seq (wc_region (mv u ?_)))))))))
   refine lv (rv_add u u) (av u (wl_nil ?_))
   cases oi B
   exact qd ⟨_,u,m,u,c,i,(w64_rng _),(w64_rng _)⟩
  refine wc_exit (qe_then_exit (qe_then_exit ?_))
  cases oi x
  cases s _ u
  refine qe_block_eq ?_
  cases oi q
  exact qd ⟨_,m,u,u,c,i,R⟩
 rintro _ ax ⟨k,l,rfl,rfl,ak,ay,al⟩
 have d:=elim_l d
 refine qr (mv u (av u (nq (wc_ret ?_))))
 cases oi d
 exact ey results28 ⟨l,u,ak,al⟩

theorem ok_laws_heldStateS {q0:List GState}{q1:Int}{r:Int}(hS:SH w K [] w K [])(k:SliceAt tGState K A a b q0)(R:rng64 q1)(hm:M.laws_heldStateS F q0 q1=some r):
  Calls prog 13 #[V3 A a b,V6 q1] w (R_i w K r):=by
 rw [M.laws_heldStateS] at hm
 refine ci func13 u ntmps13 (sr (lv (r_0 u) (nsr (lv (r_0 u) (nq ?_)))))
 obtain⟨S,T,d⟩:=ob hm
 refine wc_cutg (fun E' w'=>∃l m,S= .inl l∧E'=[(1,V6 l)]∧SH w K [] w' m []∧KLe K m∧rng64 l) ?_ ?_
 ·refine wc_block ?_
  obtain⟨aR,U,o⟩:=ob T
  refine qw (fun (i:Int×Int)=>IW w K [] K [(0,V3 A a b),(1,V6 i.1),(5,V6 i.2)] [] (rng64 i.1∧rng64 i.2)) U ⟨K,u,hS,kr,R,d_0⟩ ?_
  rintro i _ aS aT V q ⟨s,rfl,c,f,W,aU⟩
  refine wc_seq (sr (mv u (mv u (lv (rv_len underlying24 u (k.mono f)) (lv (rv_lss u u) (nq (wcc V u (fun X x=>?_) (fun X x=>?_))))))))
  ·refine wc_skip (qs (wc_block (wc_seq (sr (mv u (mv u ?_))))))
   obtain⟨D,Y,aa⟩:=ob x
   refine li underlying24 tf48 (k.mono f) Y fun ab ac aV ad ae=>?_
   obtain⟨af,ag,ah,rfl,aW,aX⟩:=ad
   have ai:AtK _ ab ac [.bool D.Final,V6 D.Many,V3 af ag ah]:=ae
   refine fa ff48_0 u (lv (rv_load1 tf4 u c (ai 0 _ u)) (mv u ?_))
   obtain⟨aY,aj,ak⟩:=ob aa
   refine lv (rv_rem u u aj) (lv (rv_eql u u) (lv (rv_boolne underlying4 u u) (nq (wcc ak u (fun al y=>?_) (fun al y=>?_)))))
   ·refine sr (lv (rv_assign (v:=V6 (-1)) u) (nq (rr (qe_block_ret (qe_then_ret (qe_then_ret ?_))))))
    cases oi y
    cases q _ u
    refine qe_block_ret (qe_then_ret ?_)
    cases oi o
    refine qe_then_ret ?_
    cases oi d
    exact ey results13 ⟨s,u,c,(by decide :rng64 (-1))⟩
   refine wc_skip (qr (mv u (lv (rv_add u u) (av u (nsr (mv u (mv u ?_)))))))
   obtain⟨G,am,an⟩:=ob y
   refine li underlying24 tf48 (k.mono f) am fun ao ap aZ aq ar=>?_
   obtain⟨au,aw,ax,rfl,ba,bb⟩:=aq
   have ay:AtK _ ao ap [.bool G.Final,V6 G.Many,V3 au aw ax]:=ar
   refine fa ff48_1 u (lv (rv_load1 tf3 u c (ay 1 _ u)) (mv u (lv (rv_neq u u) (nq (wcc an u (fun az B=>?_) (fun az B=>?_))))))
   ·refine sr (lv (rv_assign (v:=V6 (-1)) u) (nq (rr (qe_block_ret (qe_then_ret (qe_then_ret ?_))))))
    cases oi B
    cases q _ u
    refine qe_block_ret (qe_then_ret ?_)
    cases oi o
    refine qe_then_ret ?_
    cases oi d
    exact ey results13 ⟨s,u,c,(by decide :rng64 (-1))⟩
   refine wc_skip (qr (mv u (lv (rv_add u u) (av u (nr (mv u (mv u ?_)))))))
   obtain⟨H,aA,aB⟩:=ob B
   refine li underlying24 tf48 (k.mono f) aA fun aC aD bc aE aF=>?_
   obtain⟨aG,aH,aI,rfl,bd,aJ⟩:=aE
   have aK:AtK _ aC aD [.bool H.Final,V6 H.Many,V3 aG aH aI]:=aF
   refine fa ff48_2 u (lv (rv_load1 tf46 u c (aK 2 _ u)) (mv u ?_))
   obtain⟨be,aL,aM⟩:=ob aB
   refine lk co28 (ok_laws_heldArcS F c.enter0 aJ (w64_rng _) aL) ?_
   rintro bf bg ⟨I,rfl,J,aN⟩
   have O:=(c.c0 J).t0
   refine av u (nr (mv u (lv (rv_lss u u) (nq (wcc aM u (fun aO C=>?_) (fun aO C=>?_))))))
   ·refine sr (lv (rv_assign (v:=V6 (-1)) u) (nq (wc_ret (qe_block_ret (qe_then_ret (qe_then_ret ?_))))))
    cases oi C
    cases q _ u
    refine qe_block_ret (qe_then_ret ?_)
    cases oi o
    refine qe_then_ret ?_
    cases oi d
    exact ey results13 ⟨I,u,O,(by decide :rng64 (-1))⟩
   refine wc_skip (qe_block (qe_seq (wc_region (mv u (lv (rv_add u u) (av u (wl_nil ?_)))))))
   cases oi C
   exact qd ⟨_,u,I,u,O,(f.trans J.le),aN,(w64_rng _)⟩
  refine wc_exit (qe_then_exit (qe_then_exit ?_))
  cases oi x
  cases q _ u
  refine qe_block_eq ?_
  cases oi o
  exact qd ⟨_,s,u,u,c,f,W⟩
 rintro _ bh ⟨l,m,rfl,rfl,aP,bi,aQ⟩
 have d:=elim_l d
 refine qr (mv u (av u (nq (wc_ret ?_))))
 cases oi d
 exact ey results13 ⟨m,u,aP,aQ⟩

theorem ok_laws_FnExactDawgOf {q0:List Str}{r:Bool}(hS:SH w K [] w K [])(s:SliceAt tStr K A a b q0)(hm:M.laws_FnExactDawgOf F q0=some r):
  Calls prog 3 #[V3 A a b] w (R_b w K r):=by
 rw [M.laws_FnExactDawgOf] at hm
 refine ci func3 rfl ntmps3 (sr (lv (r_f rfl) (nr (lv (rv_assign (v:=V6 1048576) rfl) (nr (mv rfl (mv rfl ?_)))))))
 obtain⟨r5,aK,h7⟩:=ob hm
 refine lk co5 (ok_laws_szStringS F hS.enter0 s (by decide :rng64 1048576) aK) ?_
 rintro bY w9 ⟨K8,rfl,x,ca⟩
 have I:=(hS.c0 x).t0
 refine av rfl (nsr (mv rfl (lv (rv_lss rfl rfl) (nq (wcc h7 rfl (fun aN J=>?_) (fun aN J=>?_))))))
 ·refine sr (lv (r_t rfl) (nq (rr ?_)))
  cases oi J
  exact ey results3 ⟨K8,rfl,I⟩
 refine wc_skip (qr (mv rfl ?_))
 obtain⟨cb,aO,aP⟩:=ob J
 refine lk co7 ((bag_laws_toStringS F) I.enter0 (s.mono x.le) aO) ?_
 rintro cc cd ⟨ce,cf,cg,ch,B22,rfl,B,aQ⟩
 have aR:=aQ.mono only_le
 have an:=(I.c0 B).t1
 obtain⟨cj,aS,aT⟩:=ob aP
 refine lk co6 (ok_spec_DawgOf F an.enter0 aR aS) ?_
 rintro ck cl ⟨O,R,S,cm,rfl,C,T⟩
 have y:=(an.c0 C).t2
 refine av rfl (nr (mv rfl ?_))
 obtain⟨cn,aU,aV⟩:=ob aT
 refine lk co7 ((bag_laws_toStringS F) y.enter0 (s.mono ((x.le.trans B.le).trans C.le)) aU) ?_
 rintro cp cq ⟨cr,cs,ct,cu,B48,rfl,c,ao⟩
 have ap:=ao.mono only_le
 have D:=(y.c0 c).t3
 refine av rfl (nr (mv rfl ?_))
 obtain⟨cv,aW,aX⟩:=ob aV
 refine lk co8 ((own_impl_DawgOf F) D.enter0 ap aW) ?_
 rintro cw cx ⟨aq,ar,au,cy,B66,rfl,f,ho67⟩
 have aY:=RowO.sl ho67
 have aw:=(D.c0 f).t4
 refine av rfl (nsr (mv rfl (mv rfl ?_)))
 obtain⟨cz,aZ,ba⟩:=ob aX
 refine lk co9 (ok_laws_eqStateS F aw.enter0 aY (T.mono (c.le.trans f.le)) aZ) ?_
 rintro cA cB ⟨bb,rfl,k⟩
 have U:=(aw.c0 k).t4
 refine lv (rv_not rfl) (nq (wcc ba rfl (fun bc V=>?_) (fun bc V=>?_)))
 ·refine sr (lv (r_f rfl) (nq (rr ?_)))
  cases oi V
  exact ey results3 ⟨bb,rfl,U.s⟩
 refine wc_skip (qs (sr (mv rfl (mv rfl ?_))))
 obtain⟨cC,bd,be⟩:=ob V
 refine lk co7 ((bag_laws_toStringS F) U.enter0 (SliceAt.mono (((((x.le.trans B.le).trans C.le).trans c.le).trans f.le).trans k.le) s) bd) ?_
 rintro cD cE ⟨cF,cG,cH,cI,B88,rfl,l,ax⟩
 have bf:=ax.mono only_le
 have ay:=(U.c0 l).t5
 obtain⟨cJ,bg,bh⟩:=ob be
 refine lk co10 (ok_laws_eqStringS F ay.enter0 (ap.mono ((f.le.trans k.le).trans l.le)) bf bg) ?_
 rintro cK cL ⟨bi,rfl,m⟩
 have az:=(ay.c0 m).t5
 refine lv (rv_not rfl) (nq (wcc bh rfl (fun bj W=>?_) (fun bj W=>?_)))
 ·refine sr (lv (r_f rfl) (nq (rr ?_)))
  cases oi W
  exact ey results3 ⟨bi,rfl,az.s⟩
 refine wc_skip (qr (lv (rv_assign (v:=V6 1) rfl) (nr (mv rfl (mv rfl ?_)))))
 obtain⟨cM,bk,bl⟩:=ob W
 have X:=az.f2
 have hd111: ∀b∈B66,b∉B48:=SH.bag_off X _ m1
 have ho112:=RowO.loc (RowO.mono ho67 ((k.le.trans l.le).trans m.le)) fun b hb i u e=>(but_at (hd111 b hb) i).trans e
 have bm:=RowO.sl ho112
 have hd114: ∀b∈B88,b∉B48:=SH.bag_off X _ m0
 have bn:=SliceAt.mono (only_but2 hd114) (ax.mono (only_mono m.le fun _ h=>h))
 have cN:=bn.mono only_le
 have hM117:=SH.toMk hS.holds X
 refine lk co11 (ok_laws_markStringS F hM117.e1 (SliceAt.mono (only_mono (((f.le.trans k.le).trans l.le).trans m.le) fun _ h=>h) ao) (by decide :rng64 1) bk) ?_
 rintro cO cP ⟨aA,rfl,q,cQ⟩
 have Y:SH _ _ _ _ _ [_,_,_,_]:=SH.drop (SH.call (Lin:=[_]) hM117 q)
 refine av rfl (ns (wc_seq ?_))
 obtain⟨bo,bp,bq⟩:=ob bl
 refine wc_cutg (IV w K [] aA [(0,V3 A a b),(4,V3 O R S),(6,V3 aq ar au),(42,.bool bo)] [tail (V3 O R S) 48 3,bag B88,bag B66,bag B22]) ?_ ?_
 ·refine wc_region (mv rfl (lv (rv_lss rfl rfl) (mv rfl (bt bp (fun d aa=>?_) (fun d aa=>?_)))))
  ·refine lu d (lu d (lu d (lu d (lv (p_t rfl d rfl) (wl_nil ?_)))))
   cases oi aa
   exact qd ⟨aA,rfl,Y.f3.f2.f2.f3,kr⟩
  refine lg d (rv_move rfl) (lg d (rv_move rfl) ?_)
  obtain⟨cR,br,bs⟩:=ob aa
  refine wl_call (wg rfl rfl d) rfl (rt_call (vs:=[V3 aq ar au,V3 O R S]) co9 rfl) (ok_laws_eqStateS F Y.enter0 (bm.mono q.le) (SliceAt.mono ((le_but ((((c.le.trans f.le).trans k.le).trans l.le).trans m.le) y.holds fun b hb=>(c.bag_new b hb).1).trans q.le) T) br) ?_
  rintro cS cT ⟨bu,rfl,aB⟩
  refine⟨_,rfl,?_⟩
  have bv:=(Y.c0 aB).t4
  refine lg d (rv_not rfl) (lv (rv_pick_f rfl d rfl) (wl_nil ?_))
  cases oi bs
  exact qd ⟨bu,rfl,bv.f3.f2.f2.f3,aB.le⟩
 rintro _ cU ⟨bx,rfl,aC,ab⟩
 refine qe_seq (wcc bq rfl (fun bz ac=>?_) (fun bz ac=>?_))
 ·refine sr (lv (r_f rfl) (nq (rr ?_)))
  cases oi ac
  exact ey results3 ⟨bx,rfl,aC.s⟩
 refine wc_skip (qr (lv (rv_assign (v:=V6 1) rfl) (nr (mv rfl (mv rfl ?_)))))
 obtain⟨cV,bA,bB⟩:=ob ac
 refine lk co12 ((xo_laws_markStateS F) hS.holds aC.f2 (RowO.mono ho112 (q.le.trans ab)) (by decide :rng64 1) bA) ?_
 rintro cW cX ⟨cY,rfl,bC,ho162,aD,cZ,_⟩
 have aE:=RowO.sl ho162
 have aF:SH _ _ _ _ _ [_,_,_,_]:=bC
 refine av rfl (nr (lv (rv_assign (v:=V6 1) rfl) (nr (mv rfl (mv rfl ?_)))))
 obtain⟨da,bD,bE⟩:=ob bB
 refine lk co13 (ok_laws_heldStateS F aF.enter0 aE (by decide :rng64 1) bD) ?_
 rintro db dc ⟨aG,rfl,G,dd⟩
 have H:=(aF.c0 G).t4
 refine av rfl (nsr (mv rfl (lv (rv_lss rfl rfl) (nq (wcc bE rfl (fun bF ad=>?_) (fun bF ad=>?_))))))
 ·refine sr (lv (r_f rfl) (nq (rr ?_)))
  cases oi ad
  exact ey results3 ⟨aG,rfl,H.s⟩
 refine wc_skip (qs (sr (mv rfl (mv rfl (lv (rv_neq rfl rfl) (nq (wcc ad rfl (fun bG ae=>?_) (fun bG ae=>?_))))))))
 ·refine sr (lv (r_f rfl) (nq (rr ?_)))
  cases oi ae
  exact ey results3 ⟨aG,rfl,H.s⟩
 refine wc_skip (qr (mv rfl ?_))
 obtain⟨de,bH,bI⟩:=ob ae
 refine lk co7 ((bag_laws_toStringS F) H.enter0 (SliceAt.mono (((((x.le.trans B.le).trans C.le).trans (le_but (((le_but ((((c.le.trans f.le).trans k.le).trans l.le).trans m.le) y.holds fun b hb=>(c.bag_new b hb).1).trans q.le).trans ab) (fun b o v e=>D.holds b o v (c.le b o v e)) fun b hb=>(f.bag_new b hb).1)).trans aD).trans G.le) s) bH) ?_
 rintro df dg ⟨dh,di,dj,dk,B186,rfl,af,bJ⟩
 have bK:=bJ.mono only_le
 have aH:=(H.c0 af).t5
 obtain⟨dl,bL,bM⟩:=ob bI
 refine lk co8 ((own_impl_DawgOf F) aH.enter0 bK bL) ?_
 rintro dm dn ⟨dp,dq,dr,ds,B204,rfl,ag,ho205⟩
 have bN:=RowO.sl ho205
 have aI:=(aH.c0 ag).t6
 refine av rfl (nsr (mv rfl (mv rfl ?_)))
 obtain⟨dt,bO,bP⟩:=ob bM
 refine lk co9 (ok_laws_eqStateS F aI.enter0 bN (SliceAt.mono (((((le_but (((le_but ((((c.le.trans f.le).trans k.le).trans l.le).trans m.le) y.holds fun b hb=>(c.bag_new b hb).1).trans q.le).trans ab) (fun b o v e=>D.holds b o v (c.le b o v e)) fun b hb=>(f.bag_new b hb).1).trans aD).trans G.le).trans af.le).trans ag.le) T) bO) ?_
 rintro du dv ⟨bQ,rfl,aJ⟩
 have ah:=(aI.c0 aJ).t6
 refine lv (rv_not rfl) (nq (wcc bP rfl (fun bR ai=>?_) (fun bR ai=>?_)))
 ·refine sr (lv (r_f rfl) (nq (rr ?_)))
  cases oi ai
  exact ey results3 ⟨bQ,rfl,ah.s⟩
 refine wc_skip (qr (lv (rv_assign (v:=V6 1) rfl) (nr (mv rfl (mv rfl ?_)))))
 obtain⟨dw,bS,bT⟩:=ob ai
 refine lk co13 (ok_laws_heldStateS F ah.enter0 (SliceAt.mono (((G.le.trans af.le).trans ag.le).trans aJ.le) aE) (by decide :rng64 1) bS) ?_
 rintro dx dy ⟨aj,rfl,bU,dz⟩
 have ak:=(ah.c0 bU).t6
 refine av rfl (nsr (mv rfl (lv (rv_lss rfl rfl) (nq (wcc bT rfl (fun bV al=>?_) (fun bV al=>?_))))))
 ·refine sr (lv (r_f rfl) (nq (rr ?_)))
  cases oi al
  exact ey results3 ⟨aj,rfl,ak.s⟩
 refine wc_skip (qs (sr (mv rfl (mv rfl (lv (rv_neq rfl rfl) (nq (wcc al rfl (fun bW am=>?_) (fun bW am=>?_))))))))
 ·refine sr (lv (r_f rfl) (nq (rr ?_)))
  cases oi am
  exact ey results3 ⟨aj,rfl,ak.s⟩
 refine wc_skip (qr (lv (r_t rfl) (nq (wc_ret ?_))))
 cases oi am
 exact ey results3 ⟨aj,rfl,ak.s⟩
end Go.Proofs.Ytpjefkdclnmlfaa
