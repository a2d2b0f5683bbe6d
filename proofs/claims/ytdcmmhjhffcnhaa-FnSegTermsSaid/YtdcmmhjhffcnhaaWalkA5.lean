/-
 Walks of the functions. Printed by gen.py.
-/
import Derived.Test.YtdcmmhjhffcnhaaWalkA4
set_option linter.unusedVariables false
set_option maxRecDepth 100000
namespace Go.Proofs.Ytdcmmhjhffcnhaa
open Go Go.Fk Go.RowKit

set_option maxHeartbeats 2000000 in
theorem ok_laws_FnSegTerms (F : Nat) {w : World} {K : KMap} {a1 : Option Addr} {n2 c3 : Nat} {p0_code : List UInt8} {r : Bool} (hS : SH w K [] w K []) (hs4 : SliceAt tU8 K a1 n2 c3 p0_code) (hm : M.laws_FnSegTerms F p0_code = some r) :
  Calls Try.prog 7 #[.slice a1 n2 c3] w fun e w' => ∃ (K' : KMap), e = .returned (.bool r) ∧ SH w K [] w' K' [] := by
 rw [M.laws_FnSegTerms] at hm
 refine calls_in Try.func7 rfl Try.ntmps7 rfl ?_
 refine sr ?_
 refine wl_val wn rfl (rv_assign (v := .bool false) rfl) ?_
 refine nsr ?_
 refine vm rfl rfl ?_
 refine wl_val wn rfl (rv_len (t := tU8) Try.underlying22 rfl hs4) ?_
 refine wl_val wn rfl (rv_gtr rfl rfl) ?_
 refine nq ?_
 refine wc_cond rfl (fun hb5 => ?_) (fun hb5 => ?_)
 ·have h6 := cond_t hb5 hm
  refine sr ?_
  refine wl_val wn rfl (rv_assign (v := .bool true) rfl) ?_
  refine nq ?_
  refine rr ?_
  obtain rfl := oi h6
  exact qe_ret (vs := [_]) Try.results7 ⟨rfl, trivial⟩ ⟨K, rfl, hS⟩
 ·have h6 := cond_f hb5 hm
  refine wc_skip ?_
  refine qr ?_
  refine vm rfl rfl ?_
  obtain ⟨r7, hx8, h9⟩ := ob h6
  refine wl_call wn rfl (rt_call (vs := [.slice a1 n2 c3]) co29 rfl) ((ok_spec_DrawSegTerms F) hS.enter0 hs4 hx8) ?_
  rintro e30 w11 ⟨a13, n14, c15, a17, n18, c19, a21, n22, c23, a25, n26, c27, K10, rfl, hS12, hs16, hs20, hs24, hs28, hl29⟩
  refine ⟨_, rfl, ?_⟩
  have hS31 : SH _ _ _ _ _ [_, _, _] := SH.call0 hS hS12
  refine vm rfl rfl ?_
  refine wl_val wn rfl (rv_extract rfl rfl) ?_
  refine wl_val wn rfl (rv_extract rfl rfl) ?_
  refine wl_val wn rfl (rv_extract rfl rfl) ?_
  refine wl_alloc wn rfl tf39 hS31 ?_
  intro g32 w33 hS34
  have hS35 : SH _ _ _ _ _ [obj g32 [.slice none 0 0, .slice none 0 0] 39, _, _, _] := hS34
  refine wl_alloc wn rfl tf42 hS35 ?_
  intro g36 w37 hS38
  have hS39 : SH _ _ _ _ _ [obj g36 [.slice none 0 0, .slice none 0 0] 42, _, _, _, _] := hS38
  have hS40 : SH _ _ _ _ _ [_, _, _, _, _] := SH.front (p := [_]) hS39
  refine wl_store (cs' := [.slice a13 n14 c15, .slice a17 n18 c19]) (v := .agg #[.slice a13 n14 c15, .slice a17 n18 c19]) wn tf39 rfl rfl rfl (by simp [Value.cells, Value.oneCell']) hS40 rfl rfl ?_
  intro w41 hS42
  have hS43 : SH _ _ _ _ _ [_, _, _, _, _] := SH.front (p := [_]) hS42
  refine wl_store (cs' := [.slice a21 n22 c23, .slice a25 n26 c27]) (v := .agg #[.slice a21 n22 c23, .slice a25 n26 c27]) wn tf42 rfl rfl rfl (by simp [Value.cells, Value.oneCell']) hS43 rfl rfl ?_
  intro w44 hS45
  refine va rfl rfl ?_
  refine nr ?_
  refine wl_val wn rfl (rv_loadmS (ds := [.slice a13 n14 c15, .slice a17 n18 c19]) tf39 rfl (.tail _ (.head _)) hS45 rfl rfl) ?_
  refine wl_val wn rfl (rv_loadmS (ds := [.slice a21 n22 c23, .slice a25 n26 c27]) tf42 rfl (.head _) hS45 rfl rfl) ?_
  refine vm rfl rfl ?_
  obtain ⟨r46, hx47, h48⟩ := ob h9
  refine wl_call wn rfl (rt_call (vs := [.agg #[.slice a13 n14 c15, .slice a17 n18 c19], .agg #[.slice a21 n22 c23, .slice a25 n26 c27], sv r7.2.2]) co30 rfl) ((ok_impl_SegTerms F) hS45.enter0 hs16 hs20 hs24 hs28 hl29 hx47) ?_
  rintro e56 w50 ⟨a52, n53, c54, K49, rfl, hS51, hs55⟩
  refine ⟨_, rfl, ?_⟩
  have hS57 : SH _ _ _ _ _ [_, _, _, _, _, _] := SH.call0 hS45 hS51
  refine va rfl rfl ?_
  refine ns ?_
  refine wc_seq ?_
  obtain ⟨o58, h59, h60⟩ := ob h48
  refine wc_cutg (fun E' w' => ∃ (K61 : KMap), E' = [(3, .pointer (some ⟨g32, 0, none⟩)), (4, .pointer (some ⟨g36, 0, none⟩)), (5, sv r7.2.2), (6, .slice a52 n53 c54), (36, .bool o58)] ∧ SH w K [] w' K61 [obj g32 [.slice a13 n14 c15, .slice a17 n18 c19] 39, obj g36 [.slice a21 n22 c23, .slice a25 n26 c27] 42] ∧ KLe K49 K61) ?_ ?_
  ·refine wc_region ?_
   refine vm rfl rfl ?_
   refine wl_val wn rfl (rv_loadmS (ds := [.slice a13 n14 c15, .slice a17 n18 c19]) tf39 rfl (.tail _ (.tail _ (.head _))) hS57 rfl rfl) ?_
   refine wl_val wn rfl (rv_loadmS (ds := [.slice a21 n22 c23, .slice a25 n26 c27]) tf42 rfl (.tail _ (.head _)) hS57 rfl rfl) ?_
   refine vm rfl rfl ?_
   obtain ⟨r65, hx66, h67⟩ := ob h59
   refine wl_call wn rfl (rt_call (vs := [.agg #[.slice a13 n14 c15, .slice a17 n18 c19], .agg #[.slice a21 n22 c23, .slice a25 n26 c27], sv r7.2.2]) co32 rfl) ((ok_spec_SegTerms F) hS57.enter0 (SliceAt.mono hS51.le hs16) (SliceAt.mono hS51.le hs20) (SliceAt.mono hS51.le hs24) (SliceAt.mono hS51.le hs28) hl29 hx66) ?_
   rintro e75 w69 ⟨a71, n72, c73, K68, rfl, hS70, hs74⟩
   refine ⟨_, rfl, ?_⟩
   have hS76 : SH _ _ _ _ _ [_, _, _, _, _, _, _] := SH.call0 hS57 hS70
   obtain ⟨r77, hx78, h79⟩ := ob h67
   refine wl_call wn rfl (rt_call (vs := [.slice a52 n53 c54, .slice a71 n72 c73]) co31 rfl) ((ok_laws_foTexts F) hS76.enter0 (SliceAt.mono hS70.le hs55) hs74 hx78) ?_
   rintro e83 w81 ⟨K80, rfl, hS82⟩
   refine ⟨_, rfl, ?_⟩
   have hS84 : SH _ _ _ _ _ [_, _, _, _, _, _, _] := SH.call0 hS76 hS82
   refine wl_val wn rfl (rv_not rfl) ?_
   refine vm rfl rfl ?_
   rcases bool_tf ((!r77)) with hb85 | hb85
   ·have h86 := cond_t hb85 h79
    refine wl_un (ug rfl rfl hb85) rfl ?_
    refine wl_un (ug rfl rfl hb85) rfl ?_
    refine wl_un (ug rfl rfl hb85) rfl ?_
    refine wl_un (ug rfl rfl hb85) rfl ?_
    refine wl_val wn rfl (rv_pick_t (v := .bool true) rfl hb85 rfl) ?_
    refine wl_nil ?_
    obtain rfl := oi h86
    have hS87 : SH _ _ _ _ _ [_, _, _, _, _, _, _] := SH.front (p := [_, _]) hS84
    have hS88 : SH _ _ _ _ _ [_, _, _, _, _, _, _] := SH.front (p := [_, _, _]) hS87
    have hS89 : SH _ _ _ _ _ [_, _] := SH.sublist hS88 (.cons_cons _ (.cons_cons _ (.cons _ (.cons _ (.cons _ (.cons _ (.cons _ .slnil)))))))
    exact qe_mid' ⟨K80, rfl, hS89, (hS70.le.trans hS82.le)⟩ ⟨rfl, rfl, rfl, rfl, rfl, trivial⟩
   ·have h86 := cond_f hb85 h79
    refine wl_val (wg rfl rfl hb85) rfl (rv_loadmS (ds := [.slice a13 n14 c15, .slice a17 n18 c19]) tf39 rfl (.tail _ (.tail _ (.tail _ (.head _)))) hS84 rfl rfl) ?_
    refine wl_val (wg rfl rfl hb85) rfl (rv_loadmS (ds := [.slice a21 n22 c23, .slice a25 n26 c27]) tf42 rfl (.tail _ (.tail _ (.head _))) hS84 rfl rfl) ?_
    obtain ⟨r90, hx91, h92⟩ := ob h86
    refine wl_call (wg rfl rfl hb85) rfl (rt_call (vs := [.agg #[.slice a13 n14 c15, .slice a17 n18 c19], .agg #[.slice a21 n22 c23, .slice a25 n26 c27]]) co25 rfl) ((ok_impl_SegOk F) hS84.enter0 (SliceAt.mono ((hS51.le.trans hS70.le).trans hS82.le) hs16) (SliceAt.mono ((hS51.le.trans hS70.le).trans hS82.le) hs20) (SliceAt.mono ((hS51.le.trans hS70.le).trans hS82.le) hs24) (SliceAt.mono ((hS51.le.trans hS70.le).trans hS82.le) hs28) hx91) ?_
    rintro e96 w94 ⟨K93, rfl, hS95⟩
    refine ⟨_, rfl, ?_⟩
    have hS97 : SH _ _ _ _ _ [_, _, _, _, _, _, _] := SH.call0 hS84 hS95
    refine wl_val (wg rfl rfl hb85) rfl (rv_not rfl) ?_
    refine wl_val wn rfl (rv_pick_f rfl hb85 rfl) ?_
    refine wl_nil ?_
    obtain rfl := oi h92
    have hS98 : SH _ _ _ _ _ [_, _, _, _, _, _, _] := SH.front (p := [_, _]) hS97
    have hS99 : SH _ _ _ _ _ [_, _, _, _, _, _, _] := SH.front (p := [_, _, _]) hS98
    have hS100 : SH _ _ _ _ _ [_, _] := SH.sublist hS99 (.cons_cons _ (.cons_cons _ (.cons _ (.cons _ (.cons _ (.cons _ (.cons _ .slnil)))))))
    exact qe_mid' ⟨K93, rfl, hS100, ((hS70.le.trans hS82.le).trans hS95.le)⟩ ⟨rfl, rfl, rfl, rfl, rfl, trivial⟩
  ·rintro _ w63 ⟨K61, rfl, hS64, hl62⟩
   refine qe_seq ?_
   refine wc_cond rfl (fun hb101 => ?_) (fun hb101 => ?_)
   ·have h102 := cond_t hb101 h60
    refine sr ?_
    refine vm rfl rfl ?_
    refine wl_val wn rfl (rv_loadmS (ds := [.slice a13 n14 c15, .slice a17 n18 c19]) tf39 rfl (.head _) hS64 rfl rfl) ?_
    refine wl_val wn rfl (rv_loadmS (ds := [.slice a21 n22 c23, .slice a25 n26 c27]) tf42 rfl (.tail _ (.head _)) hS64 rfl rfl) ?_
    refine vm rfl rfl ?_
    obtain ⟨r103, hx104, h105⟩ := ob h102
    refine wl_call wn rfl (rt_call (vs := [.agg #[.slice a13 n14 c15, .slice a17 n18 c19], .agg #[.slice a21 n22 c23, .slice a25 n26 c27], sv r7.2.2]) co32 rfl) ((ok_spec_SegTerms F) hS64.enter0 (SliceAt.mono (hS51.le.trans hl62) hs16) (SliceAt.mono (hS51.le.trans hl62) hs20) (SliceAt.mono (hS51.le.trans hl62) hs24) (SliceAt.mono (hS51.le.trans hl62) hs28) hl29 hx104) ?_
    rintro e113 w107 ⟨a109, n110, c111, K106, rfl, hS108, hs112⟩
    refine ⟨_, rfl, ?_⟩
    have hS114 : SH _ _ _ _ _ [_, _, _] := SH.call0 hS64 hS108
    obtain ⟨r115, hx116, h117⟩ := ob h105
    refine wl_call wn rfl (rt_call (vs := [.slice a52 n53 c54, .slice a109 n110 c111]) co31 rfl) ((ok_laws_foTexts F) hS114.enter0 (SliceAt.mono (hl62.trans hS108.le) hs55) hs112 hx116) ?_
    rintro e121 w119 ⟨K118, rfl, hS120⟩
    refine ⟨_, rfl, ?_⟩
    have hS122 : SH _ _ _ _ _ [_, _, _] := SH.call0 hS114 hS120
    refine va rfl rfl ?_
    refine nq ?_
    refine rr ?_
    obtain rfl := oi h117
    have hS123 : SH _ _ _ _ _ [] := SH.sublist hS122 (.cons _ (.cons _ (.cons _ .slnil)))
    exact qe_ret (vs := [_]) Try.results7 ⟨rfl, trivial⟩ ⟨K118, rfl, hS123⟩
   ·have h102 := cond_f hb101 h60
    refine wc_skip ?_
    refine qs ?_
    refine sr ?_
    refine wl_val wn rfl (rv_assign (v := .int .i64 0) rfl) ?_
    refine nq ?_
    obtain ⟨o124, h125, h126⟩ := ob h102
    refine wc_cutg (fun E' w' => ∃ (s127 : Unit) (K128 : KMap), o124 = .inl s127 ∧ E' = [(3, .pointer (some ⟨g32, 0, none⟩)), (4, .pointer (some ⟨g36, 0, none⟩)), (5, sv r7.2.2), (6, .slice a52 n53 c54)] ∧ SH w K [] w' K128 [obj g32 [.slice a13 n14 c15, .slice a17 n18 c19] 39, obj g36 [.slice a21 n22 c23, .slice a25 n26 c27] 42] ∧ KLe K61 K128) ?_ ?_
    ·refine wc_block ?_
     obtain ⟨r133, h134, h135⟩ := ob h125
     refine wc_while' (fun (s132 : Int) E' w' => ∃ (K136 : KMap), E' = [(3, .pointer (some ⟨g32, 0, none⟩)), (4, .pointer (some ⟨g36, 0, none⟩)), (5, sv r7.2.2), (6, .slice a52 n53 c54), (7, .int .i64 s132)] ∧ SH w K [] w' K136 [obj g32 [.slice a13 n14 c15, .slice a17 n18 c19] 39, obj g36 [.slice a21 n22 c23, .slice a25 n26 c27] 42] ∧ KLe K61 K136 ∧ rng64 s132) h134 ⟨K61, rfl, hS64, (KLe.refl _), (by decide : rng64 0)⟩ ⟨rfl, rfl, rfl, rfl, rfl, trivial⟩ ?_
     rintro s132 _ w138 r141 h142 hx143 ⟨K136, rfl, hS139, hl137, hr140⟩
     refine wc_seq ?_
     refine sr ?_
     refine vm rfl rfl ?_
     refine vm rfl rfl ?_
     refine wl_val wn rfl (rv_len (t := tStr) Try.underlying36 rfl (SliceAt.mono (hl62.trans hl137) hs55)) ?_
     refine wl_val wn rfl (rv_lss rfl rfl) ?_
     refine nq ?_
     refine wc_cond rfl (fun hb144 => ?_) (fun hb144 => ?_)
     ·have h145 := cond_t hb144 h142
      refine wc_skip ?_
      refine qs ?_
      refine wc_block ?_
      refine wc_seq ?_
      obtain ⟨o146, h147, h148⟩ := ob h145
      refine wc_cutg (fun E' w' => ∃ (K149 : KMap), E' = [(3, .pointer (some ⟨g32, 0, none⟩)), (4, .pointer (some ⟨g36, 0, none⟩)), (5, sv r7.2.2), (6, .slice a52 n53 c54), (7, .int .i64 s132), (74, .bool o146)] ∧ SH w K [] w' K149 [obj g32 [.slice a13 n14 c15, .slice a17 n18 c19] 39, obj g36 [.slice a21 n22 c23, .slice a25 n26 c27] 42] ∧ KLe K136 K149) ?_ ?_
      ·refine wc_held (fun w' => Holds K136 w' ∧ HasObj g32 [.slice a13 n14 c15, .slice a17 n18 c19] w' ∧ HasObj g36 [.slice a21 n22 c23, .slice a25 n26 c27] w') (fun w' => True) 26 [] mixed ?_
       have hS154 := SH.drew hS139
       refine wg_val (i := 0) (listed' := #[true, false, false, false, false, false, false, false, false, false, false, false, false, false, false, false, false, false, false, false, false, false, false, false, false, false]) (fun _ => True) rfl (by kernel_rfl) (pk_then (pk_then (pk_block (pk_then (pk_then (pk_block (pk_then (pk_then pk_body)))))))) (by kernel_rfl) rfl (by kernel_rfl) (by kernel_rfl) rfl (.inl fun _ _ => trivial) ⟨⟨hS154.hasK (KLe.refl _), hS154.hasObj (.head _), hS154.hasObj (.tail _ (.head _))⟩, (fun _ => trivial), by decide⟩ wn rfl (fun _ _ => (rv_move rfl)) ?_
       refine wg_val (i := 1) (listed' := #[true, true, false, false, false, false, false, false, false, false, false, false, false, false, false, false, false, false, false, false, false, false, false, false, false, false]) (fun _ => True) rfl (by kernel_rfl) (pk_then (pk_then (pk_block (pk_then (pk_then (pk_block (pk_then (pk_then pk_body)))))))) (by kernel_rfl) rfl (by kernel_rfl) (by kernel_rfl) rfl (.inl fun _ _ => trivial) ⟨⟨hS154.hasK (KLe.refl _), hS154.hasObj (.head _), hS154.hasObj (.tail _ (.head _))⟩, (fun _ => trivial), by decide⟩ wn rfl (fun _ _ => (rv_gtr rfl rfl)) ?_
       refine wg_val (i := 2) (listed' := #[true, true, true, false, false, false, false, false, false, false, false, false, false, false, false, false, false, false, false, false, false, false, false, false, false, false]) (fun _ => True) rfl (by kernel_rfl) (pk_then (pk_then (pk_block (pk_then (pk_then (pk_block (pk_then (pk_then pk_body)))))))) (by kernel_rfl) rfl (by kernel_rfl) (by kernel_rfl) rfl (.inl fun _ _ => trivial) ⟨⟨hS154.hasK (KLe.refl _), hS154.hasObj (.head _), hS154.hasObj (.tail _ (.head _))⟩, (fun _ => trivial), by decide⟩ wn rfl (fun _ _ => (rv_move rfl)) ?_
       rcases bool_tf (decide ((0 : Int) < s132)) with hb155 | hb155
       ·have h156 := cond_t hb155 h147
        refine wg_val (i := 3) (listed' := #[true, true, true, true, false, false, false, false, false, false, false, false, false, false, false, false, false, false, false, false, false, false, false, false, false, false]) (fun _ => True) rfl (by kernel_rfl) (pk_then (pk_then (pk_block (pk_then (pk_then (pk_block (pk_then (pk_then pk_body)))))))) (by kernel_rfl) rfl (by kernel_rfl) (by kernel_rfl) rfl (.inl fun _ _ => trivial) ⟨⟨hS154.hasK (KLe.refl _), hS154.hasObj (.head _), hS154.hasObj (.tail _ (.head _))⟩, (fun _ => trivial), by decide⟩ (wg rfl rfl hb155) rfl (fun _ _ => (rv_move rfl)) ?_
        refine wg_val (i := 4) (listed' := #[true, true, true, true, true, false, false, false, false, false, false, false, false, false, false, false, false, false, false, false, false, false, false, false, false, false]) (fun _ => True) rfl (by kernel_rfl) (pk_then (pk_then (pk_block (pk_then (pk_then (pk_block (pk_then (pk_then pk_body)))))))) (by kernel_rfl) rfl (by kernel_rfl) (by kernel_rfl) rfl (.inl fun _ _ => trivial) ⟨⟨hS154.hasK (KLe.refl _), hS154.hasObj (.head _), hS154.hasObj (.tail _ (.head _))⟩, (fun _ => trivial), by decide⟩ (wg rfl rfl hb155) rfl (fun _ _ => (rv_move rfl)) ?_
        obtain ⟨x157, hx158, h159⟩ := ob h156
        refine wg_indexAddr (t := tStr) (j := 5) (listed' := #[true, true, true, true, true, true, false, false, false, false, false, false, false, false, false, false, false, false, false, false, false, false, false, false, false, false]) rfl (by kernel_rfl) (pk_then (pk_then (pk_block (pk_then (pk_then (pk_block (pk_then (pk_then pk_body)))))))) (by kernel_rfl) rfl (by kernel_rfl) (by kernel_rfl) rfl ⟨⟨hS154.hasK (KLe.refl _), hS154.hasObj (.head _), hS154.hasObj (.tail _ (.head _))⟩, (fun _ => trivial), by decide⟩ (wg rfl rfl hb155) rfl Try.underlying36 tf9 rfl rfl (SliceAt.mono (hl62.trans hl137) hs55) hx158 ?_
        intro b160 o161 u162 hu163 ha164
        obtain ⟨rfl, hl165⟩ := hu163
        have ha166 : AtK _ b160 o161 [sv x157] := ha164
        refine wg_val (i := 6) (listed' := #[true, true, true, true, true, true, true, false, false, false, false, false, false, false, false, false, false, false, false, false, false, false, false, false, false, false]) (Holds K136) rfl (by kernel_rfl) (pk_then (pk_then (pk_block (pk_then (pk_then (pk_block (pk_then (pk_then pk_body)))))))) (by kernel_rfl) rfl (by kernel_rfl) (by kernel_rfl) rfl (.inl fun _ h => h.1) ⟨⟨hS154.hasK (KLe.refl _), hS154.hasObj (.head _), hS154.hasObj (.tail _ (.head _))⟩, (fun _ => trivial), by decide⟩ (wg rfl rfl hb155) rfl (fun _ h => rh_load1 tf9 rfl (ha166 0 _ rfl) h) ?_
        refine wg_val (i := 7) (listed' := #[true, true, true, true, true, true, true, true, false, false, false, false, false, false, false, false, false, false, false, false, false, false, false, false, false, false]) (fun _ => True) rfl (by kernel_rfl) (pk_then (pk_then (pk_block (pk_then (pk_then (pk_block (pk_then (pk_then pk_body)))))))) (by kernel_rfl) rfl (by kernel_rfl) (by kernel_rfl) rfl (.inl fun _ _ => trivial) ⟨⟨hS154.hasK (KLe.refl _), hS154.hasObj (.head _), hS154.hasObj (.tail _ (.head _))⟩, (fun _ => trivial), by decide⟩ (wg rfl rfl hb155) rfl (fun _ _ => (rv_move rfl)) ?_
        refine wg_val (i := 8) (listed' := #[true, true, true, true, true, true, true, true, true, false, false, false, false, false, false, false, false, false, false, false, false, false, false, false, false, false]) (fun _ => True) rfl (by kernel_rfl) (pk_then (pk_then (pk_block (pk_then (pk_then (pk_block (pk_then (pk_then pk_body)))))))) (by kernel_rfl) rfl (by kernel_rfl) (by kernel_rfl) rfl (.inl fun _ _ => trivial) ⟨⟨hS154.hasK (KLe.refl _), hS154.hasObj (.head _), hS154.hasObj (.tail _ (.head _))⟩, (fun _ => trivial), by decide⟩ (wg rfl rfl hb155) rfl (fun _ _ => (rv_move rfl)) ?_
        refine wg_val (i := 9) (listed' := #[true, true, true, true, true, true, true, true, true, true, false, false, false, false, false, false, false, false, false, false, false, false, false, false, false, false]) (fun _ => True) rfl (by kernel_rfl) (pk_then (pk_then (pk_block (pk_then (pk_then (pk_block (pk_then (pk_then pk_body)))))))) (by kernel_rfl) rfl (by kernel_rfl) (by kernel_rfl) rfl (.inl fun _ _ => trivial) ⟨⟨hS154.hasK (KLe.refl _), hS154.hasObj (.head _), hS154.hasObj (.tail _ (.head _))⟩, (fun _ => trivial), by decide⟩ (wg rfl rfl hb155) rfl (fun _ _ => (rv_sub rfl rfl)) ?_
        obtain ⟨x167, hx168, h169⟩ := ob h159
        refine wg_indexAddr (t := tStr) (j := 10) (listed' := #[true, true, true, true, true, true, true, true, true, true, true, false, false, false, false, false, false, false, false, false, false, false, false, false, false, false]) rfl (by kernel_rfl) (pk_then (pk_then (pk_block (pk_then (pk_then (pk_block (pk_then (pk_then pk_body)))))))) (by kernel_rfl) rfl (by kernel_rfl) (by kernel_rfl) rfl ⟨⟨hS154.hasK (KLe.refl _), hS154.hasObj (.head _), hS154.hasObj (.tail _ (.head _))⟩, (fun _ => trivial), by decide⟩ (wg rfl rfl hb155) rfl Try.underlying36 tf9 rfl rfl (SliceAt.mono (hl62.trans hl137) hs55) hx168 ?_
        intro b170 o171 u172 hu173 ha174
        obtain ⟨rfl, hl175⟩ := hu173
        have ha176 : AtK _ b170 o171 [sv x167] := ha174
        refine wg_val (i := 11) (listed' := #[true, true, true, true, true, true, true, true, true, true, true, true, false, false, false, false, false, false, false, false, false, false, false, false, false, false]) (Holds K136) rfl (by kernel_rfl) (pk_then (pk_then (pk_block (pk_then (pk_then (pk_block (pk_then (pk_then pk_body)))))))) (by kernel_rfl) rfl (by kernel_rfl) (by kernel_rfl) rfl (.inl fun _ h => h.1) ⟨⟨hS154.hasK (KLe.refl _), hS154.hasObj (.head _), hS154.hasObj (.tail _ (.head _))⟩, (fun _ => trivial), by decide⟩ (wg rfl rfl hb155) rfl (fun _ h => rh_load1 tf9 rfl (ha176 0 _ rfl) h) ?_
        refine wg_val (i := 12) (listed' := #[true, true, true, true, true, true, true, true, true, true, true, true, true, false, false, false, false, false, false, false, false, false, false, false, false, false]) (fun _ => True) rfl (by kernel_rfl) (pk_then (pk_then (pk_block (pk_then (pk_then (pk_block (pk_then (pk_then pk_body)))))))) (by kernel_rfl) rfl (by kernel_rfl) (by kernel_rfl) rfl (.inl fun _ _ => trivial) ⟨⟨hS154.hasK (KLe.refl _), hS154.hasObj (.head _), hS154.hasObj (.tail _ (.head _))⟩, (fun _ => trivial), by decide⟩ (wg rfl rfl hb155) rfl (fun _ _ => (rv_sleq rfl rfl)) ?_
        refine wg_val (i := 13) (listed' := #[true, true, true, true, true, true, true, true, true, true, true, true, true, true, false, false, false, false, false, false, false, false, false, false, false, false]) (fun _ => True) rfl (by kernel_rfl) (pk_then (pk_then (pk_block (pk_then (pk_then (pk_block (pk_then (pk_then pk_body)))))))) (by kernel_rfl) rfl (by kernel_rfl) (by kernel_rfl) rfl (.inl fun _ _ => trivial) ⟨⟨hS154.hasK (KLe.refl _), hS154.hasObj (.head _), hS154.hasObj (.tail _ (.head _))⟩, (fun _ => trivial), by decide⟩ wn rfl (fun _ _ => (rv_pick_t rfl hb155 rfl)) ?_
        refine wg_val (i := 14) (listed' := #[true, true, true, true, true, true, true, true, true, true, true, true, true, true, true, false, false, false, false, false, false, false, false, false, false, false]) (fun _ => True) rfl (by kernel_rfl) (pk_then (pk_then (pk_block (pk_then (pk_then (pk_block (pk_then (pk_then pk_body)))))))) (by kernel_rfl) rfl (by kernel_rfl) (by kernel_rfl) rfl (.inl fun _ _ => trivial) ⟨⟨hS154.hasK (KLe.refl _), hS154.hasObj (.head _), hS154.hasObj (.tail _ (.head _))⟩, (fun _ => trivial), by decide⟩ wn rfl (fun _ _ => (rv_move rfl)) ?_
        rcases bool_tf ((strLess x157 x167 || x157 == x167)) with hb177 | hb177
        ·have h178 := cond_t hb177 h169
         refine wg_un (i := 15) (listed' := #[true, true, true, true, true, true, true, true, true, true, true, true, true, true, true, true, false, false, false, false, false, false, false, false, false, false]) rfl (by kernel_rfl) (pk_then (pk_then (pk_block (pk_then (pk_then (pk_block (pk_then (pk_then pk_body)))))))) (by kernel_rfl) rfl (by kernel_rfl) (by kernel_rfl) rfl ⟨⟨hS154.hasK (KLe.refl _), hS154.hasObj (.head _), hS154.hasObj (.tail _ (.head _))⟩, (fun _ => trivial), by decide⟩ (ug rfl rfl hb177) rfl ?_
         refine wg_un (i := 16) (listed' := #[true, true, true, true, true, true, true, true, true, true, true, true, true, true, true, true, true, false, false, false, false, false, false, false, false, false]) rfl (by kernel_rfl) (pk_then (pk_then (pk_block (pk_then (pk_then (pk_block (pk_then (pk_then pk_body)))))))) (by kernel_rfl) rfl (by kernel_rfl) (by kernel_rfl) rfl ⟨⟨hS154.hasK (KLe.refl _), hS154.hasObj (.head _), hS154.hasObj (.tail _ (.head _))⟩, (fun _ => trivial), by decide⟩ (ug rfl rfl hb177) rfl ?_
         refine wg_un (i := 17) (listed' := #[true, true, true, true, true, true, true, true, true, true, true, true, true, true, true, true, true, true, false, false, false, false, false, false, false, false]) rfl (by kernel_rfl) (pk_then (pk_then (pk_block (pk_then (pk_then (pk_block (pk_then (pk_then pk_body)))))))) (by kernel_rfl) rfl (by kernel_rfl) (by kernel_rfl) rfl ⟨⟨hS154.hasK (KLe.refl _), hS154.hasObj (.head _), hS154.hasObj (.tail _ (.head _))⟩, (fun _ => trivial), by decide⟩ (ug rfl rfl hb177) rfl ?_
         refine wg_un (i := 18) (listed' := #[true, true, true, true, true, true, true, true, true, true, true, true, true, true, true, true, true, true, true, false, false, false, false, false, false, false]) rfl (by kernel_rfl) (pk_then (pk_then (pk_block (pk_then (pk_then (pk_block (pk_then (pk_then pk_body)))))))) (by kernel_rfl) rfl (by kernel_rfl) (by kernel_rfl) rfl ⟨⟨hS154.hasK (KLe.refl _), hS154.hasObj (.head _), hS154.hasObj (.tail _ (.head _))⟩, (fun _ => trivial), by decide⟩ (ug rfl rfl hb177) rfl ?_
         refine wg_un (i := 19) (listed' := #[true, true, true, true, true, true, true, true, true, true, true, true, true, true, true, true, true, true, true, true, false, false, false, false, false, false]) rfl (by kernel_rfl) (pk_then (pk_then (pk_block (pk_then (pk_then (pk_block (pk_then (pk_then pk_body)))))))) (by kernel_rfl) rfl (by kernel_rfl) (by kernel_rfl) rfl ⟨⟨hS154.hasK (KLe.refl _), hS154.hasObj (.head _), hS154.hasObj (.tail _ (.head _))⟩, (fun _ => trivial), by decide⟩ (ug rfl rfl hb177) rfl ?_
         refine wg_un (i := 20) (listed' := #[true, true, true, true, true, true, true, true, true, true, true, true, true, true, true, true, true, true, true, true, true, false, false, false, false, false]) rfl (by kernel_rfl) (pk_then (pk_then (pk_block (pk_then (pk_then (pk_block (pk_then (pk_then pk_body)))))))) (by kernel_rfl) rfl (by kernel_rfl) (by kernel_rfl) rfl ⟨⟨hS154.hasK (KLe.refl _), hS154.hasObj (.head _), hS154.hasObj (.tail _ (.head _))⟩, (fun _ => trivial), by decide⟩ (ug rfl rfl hb177) rfl ?_
         refine wg_un (i := 21) (listed' := #[true, true, true, true, true, true, true, true, true, true, true, true, true, true, true, true, true, true, true, true, true, true, false, false, false, false]) rfl (by kernel_rfl) (pk_then (pk_then (pk_block (pk_then (pk_then (pk_block (pk_then (pk_then pk_body)))))))) (by kernel_rfl) rfl (by kernel_rfl) (by kernel_rfl) rfl ⟨⟨hS154.hasK (KLe.refl _), hS154.hasObj (.head _), hS154.hasObj (.tail _ (.head _))⟩, (fun _ => trivial), by decide⟩ (ug rfl rfl hb177) rfl ?_
         refine wg_one (i := 22) (by kernel_rfl) rfl ?_
         refine wl_un (ug rfl rfl hb177) rfl ?_
         refine wl_nil (qe_held (listed' := #[true, true, true, true, true, true, true, true, true, true, true, true, true, true, true, true, true, true, true, true, true, true, true, false, false, false]) rfl ⟨⟨hS154.hasK (KLe.refl _), hS154.hasObj (.head _), hS154.hasObj (.tail _ (.head _))⟩, (fun _ => trivial), by decide⟩ ?_)
         refine wg_un (i := 23) (listed' := #[true, true, true, true, true, true, true, true, true, true, true, true, true, true, true, true, true, true, true, true, true, true, true, true, false, false]) rfl (by kernel_rfl) (pk_then (pk_then (pk_block (pk_then (pk_then (pk_block (pk_then (pk_then pk_body)))))))) (by kernel_rfl) rfl (by kernel_rfl) (by kernel_rfl) rfl ⟨⟨hS154.hasK (KLe.refl _), hS154.hasObj (.head _), hS154.hasObj (.tail _ (.head _))⟩, (fun _ => trivial), by decide⟩ (ug rfl rfl hb177) rfl ?_
         refine wg_un (i := 24) (listed' := #[true, true, true, true, true, true, true, true, true, true, true, true, true, true, true, true, true, true, true, true, true, true, true, true, true, false]) rfl (by kernel_rfl) (pk_then (pk_then (pk_block (pk_then (pk_then (pk_block (pk_then (pk_then pk_body)))))))) (by kernel_rfl) rfl (by kernel_rfl) (by kernel_rfl) rfl ⟨⟨hS154.hasK (KLe.refl _), hS154.hasObj (.head _), hS154.hasObj (.tail _ (.head _))⟩, (fun _ => trivial), by decide⟩ (ug rfl rfl hb177) rfl ?_
         refine wg_val (i := 25) (listed' := #[true, true, true, true, true, true, true, true, true, true, true, true, true, true, true, true, true, true, true, true, true, true, true, true, true, true]) (fun _ => True) rfl (by kernel_rfl) (pk_then (pk_then (pk_block (pk_then (pk_then (pk_block (pk_then (pk_then pk_body)))))))) (by kernel_rfl) rfl (by kernel_rfl) (by kernel_rfl) rfl (.inl fun _ _ => trivial) ⟨⟨hS154.hasK (KLe.refl _), hS154.hasObj (.head _), hS154.hasObj (.tail _ (.head _))⟩, (fun _ => trivial), by decide⟩ wn rfl (fun _ _ => (rv_pick_t (v := .bool true) rfl hb177 rfl)) ?_
         refine wg_done (by kernel_rfl) ?_
         obtain rfl := oi h178
         exact qe_mid' ⟨K136, rfl, hS154, (KLe.refl _)⟩ ⟨rfl, rfl, rfl, rfl, rfl, rfl, trivial⟩
        ·have h178 := cond_f hb177 h169
         refine wg_val (i := 15) (listed' := #[true, true, true, true, true, true, true, true, true, true, true, true, true, true, true, true, false, false, false, false, false, false, false, false, false, false]) (HasObj g32 [.slice a13 n14 c15, .slice a17 n18 c19]) rfl (by kernel_rfl) (pk_then (pk_then (pk_block (pk_then (pk_then (pk_block (pk_then (pk_then pk_body)))))))) (by kernel_rfl) rfl (by kernel_rfl) (by kernel_rfl) rfl (.inl fun _ h => h.2.1) ⟨⟨hS154.hasK (KLe.refl _), hS154.hasObj (.head _), hS154.hasObj (.tail _ (.head _))⟩, (fun _ => trivial), by decide⟩ (wg rfl rfl hb177) rfl (fun _ h => rh_loadmS (ds := [.slice a13 n14 c15, .slice a17 n18 c19]) tf39 rfl rfl rfl h) ?_
         refine wg_val (i := 16) (listed' := #[true, true, true, true, true, true, true, true, true, true, true, true, true, true, true, true, true, false, false, false, false, false, false, false, false, false]) (HasObj g36 [.slice a21 n22 c23, .slice a25 n26 c27]) rfl (by kernel_rfl) (pk_then (pk_then (pk_block (pk_then (pk_then (pk_block (pk_then (pk_then pk_body)))))))) (by kernel_rfl) rfl (by kernel_rfl) (by kernel_rfl) rfl (.inl fun _ h => h.2.2) ⟨⟨hS154.hasK (KLe.refl _), hS154.hasObj (.head _), hS154.hasObj (.tail _ (.head _))⟩, (fun _ => trivial), by decide⟩ (wg rfl rfl hb177) rfl (fun _ h => rh_loadmS (ds := [.slice a21 n22 c23, .slice a25 n26 c27]) tf42 rfl rfl rfl h) ?_
         refine wg_val (i := 17) (listed' := #[true, true, true, true, true, true, true, true, true, true, true, true, true, true, true, true, true, true, false, false, false, false, false, false, false, false]) (fun _ => True) rfl (by kernel_rfl) (pk_then (pk_then (pk_block (pk_then (pk_then (pk_block (pk_then (pk_then pk_body)))))))) (by kernel_rfl) rfl (by kernel_rfl) (by kernel_rfl) rfl (.inl fun _ _ => trivial) ⟨⟨hS154.hasK (KLe.refl _), hS154.hasObj (.head _), hS154.hasObj (.tail _ (.head _))⟩, (fun _ => trivial), by decide⟩ (wg rfl rfl hb177) rfl (fun _ _ => (rv_move rfl)) ?_
         refine wg_val (i := 18) (listed' := #[true, true, true, true, true, true, true, true, true, true, true, true, true, true, true, true, true, true, true, false, false, false, false, false, false, false]) (fun _ => True) rfl (by kernel_rfl) (pk_then (pk_then (pk_block (pk_then (pk_then (pk_block (pk_then (pk_then pk_body)))))))) (by kernel_rfl) rfl (by kernel_rfl) (by kernel_rfl) rfl (.inl fun _ _ => trivial) ⟨⟨hS154.hasK (KLe.refl _), hS154.hasObj (.head _), hS154.hasObj (.tail _ (.head _))⟩, (fun _ => trivial), by decide⟩ (wg rfl rfl hb177) rfl (fun _ _ => (rv_move rfl)) ?_
         refine wg_val (i := 19) (listed' := #[true, true, true, true, true, true, true, true, true, true, true, true, true, true, true, true, true, true, true, true, false, false, false, false, false, false]) (fun _ => True) rfl (by kernel_rfl) (pk_then (pk_then (pk_block (pk_then (pk_then (pk_block (pk_then (pk_then pk_body)))))))) (by kernel_rfl) rfl (by kernel_rfl) (by kernel_rfl) rfl (.inl fun _ _ => trivial) ⟨⟨hS154.hasK (KLe.refl _), hS154.hasObj (.head _), hS154.hasObj (.tail _ (.head _))⟩, (fun _ => trivial), by decide⟩ (wg rfl rfl hb177) rfl (fun _ _ => (rv_move rfl)) ?_
         obtain ⟨x179, hx180, h181⟩ := ob h178
         refine wg_indexAddr (t := tStr) (j := 20) (listed' := #[true, true, true, true, true, true, true, true, true, true, true, true, true, true, true, true, true, true, true, true, true, false, false, false, false, false]) rfl (by kernel_rfl) (pk_then (pk_then (pk_block (pk_then (pk_then (pk_block (pk_then (pk_then pk_body)))))))) (by kernel_rfl) rfl (by kernel_rfl) (by kernel_rfl) rfl ⟨⟨hS154.hasK (KLe.refl _), hS154.hasObj (.head _), hS154.hasObj (.tail _ (.head _))⟩, (fun _ => trivial), by decide⟩ (wg rfl rfl hb177) rfl Try.underlying36 tf9 rfl rfl (SliceAt.mono (hl62.trans hl137) hs55) hx180 ?_
         intro b182 o183 u184 hu185 ha186
         obtain ⟨rfl, hl187⟩ := hu185
         have ha188 : AtK _ b182 o183 [sv x179] := ha186
         refine wg_val (i := 21) (listed' := #[true, true, true, true, true, true, true, true, true, true, true, true, true, true, true, true, true, true, true, true, true, true, false, false, false, false]) (Holds K136) rfl (by kernel_rfl) (pk_then (pk_then (pk_block (pk_then (pk_then (pk_block (pk_then (pk_then pk_body)))))))) (by kernel_rfl) rfl (by kernel_rfl) (by kernel_rfl) rfl (.inl fun _ h => h.1) ⟨⟨hS154.hasK (KLe.refl _), hS154.hasObj (.head _), hS154.hasObj (.tail _ (.head _))⟩, (fun _ => trivial), by decide⟩ (wg rfl rfl hb177) rfl (fun _ h => rh_load1 tf9 rfl (ha188 0 _ rfl) h) ?_
         refine wg_one (i := 22) (by kernel_rfl) rfl ?_
         obtain ⟨r189, hx190, h191⟩ := ob h181
         refine wl_call (wg rfl rfl hb177) rfl (rt_call (vs := [.agg #[.slice a13 n14 c15, .slice a17 n18 c19], .agg #[.slice a21 n22 c23, .slice a25 n26 c27], sv r7.2.2, sv x179]) co28 rfl) ((ok_impl_SegPosts F) hS154.enter0 (SliceAt.mono ((hS51.le.trans hl62).trans hl137) hs16) (SliceAt.mono ((hS51.le.trans hl62).trans hl137) hs20) (SliceAt.mono ((hS51.le.trans hl62).trans hl137) hs24) (SliceAt.mono ((hS51.le.trans hl62).trans hl137) hs28) hl29 hl187 hx190) ?_
         rintro e199 w193 ⟨a195, n196, c197, K192, rfl, hS194, hs198⟩
         refine ⟨_, rfl, ?_⟩
         have hS200 : SH _ _ _ _ _ [_, _, _] := SH.call0 hS154 hS194
         refine wl_nil (qe_held (listed' := #[true, true, true, true, true, true, true, true, true, true, true, true, true, true, true, true, true, true, true, true, true, true, true, false, false, false]) rfl ⟨⟨hS200.hasK hS194.le, hS200.hasObj (.tail _ (.head _)), hS200.hasObj (.tail _ (.tail _ (.head _)))⟩, (fun _ => trivial), by decide⟩ ?_)
         refine wg_val (i := 23) (listed' := #[true, true, true, true, true, true, true, true, true, true, true, true, true, true, true, true, true, true, true, true, true, true, true, true, false, false]) (fun _ => True) rfl (by kernel_rfl) (pk_then (pk_then (pk_block (pk_then (pk_then (pk_block (pk_then (pk_then pk_body)))))))) (by kernel_rfl) rfl (by kernel_rfl) (by kernel_rfl) rfl (.inl fun _ _ => trivial) ⟨⟨hS200.hasK hS194.le, hS200.hasObj (.tail _ (.head _)), hS200.hasObj (.tail _ (.tail _ (.head _)))⟩, (fun _ => trivial), by decide⟩ (wg rfl rfl hb177) rfl (fun _ _ => (rv_len (t := tGPost) Try.underlying58 rfl hs198)) ?_
         refine wg_val (i := 24) (listed' := #[true, true, true, true, true, true, true, true, true, true, true, true, true, true, true, true, true, true, true, true, true, true, true, true, true, false]) (fun _ => True) rfl (by kernel_rfl) (pk_then (pk_then (pk_block (pk_then (pk_then (pk_block (pk_then (pk_then pk_body)))))))) (by kernel_rfl) rfl (by kernel_rfl) (by kernel_rfl) rfl (.inl fun _ _ => trivial) ⟨⟨hS200.hasK hS194.le, hS200.hasObj (.tail _ (.head _)), hS200.hasObj (.tail _ (.tail _ (.head _)))⟩, (fun _ => trivial), by decide⟩ (wg rfl rfl hb177) rfl (fun _ _ => (rv_eql rfl rfl)) ?_
         refine wg_val (i := 25) (listed' := #[true, true, true, true, true, true, true, true, true, true, true, true, true, true, true, true, true, true, true, true, true, true, true, true, true, true]) (fun _ => True) rfl (by kernel_rfl) (pk_then (pk_then (pk_block (pk_then (pk_then (pk_block (pk_then (pk_then pk_body)))))))) (by kernel_rfl) rfl (by kernel_rfl) (by kernel_rfl) rfl (.inl fun _ _ => trivial) ⟨⟨hS200.hasK hS194.le, hS200.hasObj (.tail _ (.head _)), hS200.hasObj (.tail _ (.tail _ (.head _)))⟩, (fun _ => trivial), by decide⟩ wn rfl (fun _ _ => (rv_pick_f rfl hb177 rfl)) ?_
         refine wg_done (by kernel_rfl) ?_
         obtain rfl := oi h191
         have hS201 : SH _ _ _ _ _ [_, _] := SH.sublist hS200 (.cons _ (.cons_cons _ (.cons_cons _ .slnil)))
         exact qe_mid' ⟨K192, rfl, hS201, hS194.le⟩ ⟨rfl, rfl, rfl, rfl, rfl, rfl, trivial⟩
       ·have h156 := cond_f hb155 h147
        refine wg_un (i := 3) (listed' := #[true, true, true, true, false, false, false, false, false, false, false, false, false, false, false, false, false, false, false, false, false, false, false, false, false, false]) rfl (by kernel_rfl) (pk_then (pk_then (pk_block (pk_then (pk_then (pk_block (pk_then (pk_then pk_body)))))))) (by kernel_rfl) rfl (by kernel_rfl) (by kernel_rfl) rfl ⟨⟨hS154.hasK (KLe.refl _), hS154.hasObj (.head _), hS154.hasObj (.tail _ (.head _))⟩, (fun _ => trivial), by decide⟩ (ug rfl rfl hb155) rfl ?_
        refine wg_un (i := 4) (listed' := #[true, true, true, true, true, false, false, false, false, false, false, false, false, false, false, false, false, false, false, false, false, false, false, false, false, false]) rfl (by kernel_rfl) (pk_then (pk_then (pk_block (pk_then (pk_then (pk_block (pk_then (pk_then pk_body)))))))) (by kernel_rfl) rfl (by kernel_rfl) (by kernel_rfl) rfl ⟨⟨hS154.hasK (KLe.refl _), hS154.hasObj (.head _), hS154.hasObj (.tail _ (.head _))⟩, (fun _ => trivial), by decide⟩ (ug rfl rfl hb155) rfl ?_
        refine wg_un (i := 5) (listed' := #[true, true, true, true, true, true, false, false, false, false, false, false, false, false, false, false, false, false, false, false, false, false, false, false, false, false]) rfl (by kernel_rfl) (pk_then (pk_then (pk_block (pk_then (pk_then (pk_block (pk_then (pk_then pk_body)))))))) (by kernel_rfl) rfl (by kernel_rfl) (by kernel_rfl) rfl ⟨⟨hS154.hasK (KLe.refl _), hS154.hasObj (.head _), hS154.hasObj (.tail _ (.head _))⟩, (fun _ => trivial), by decide⟩ (ug rfl rfl hb155) rfl ?_
        refine wg_un (i := 6) (listed' := #[true, true, true, true, true, true, true, false, false, false, false, false, false, false, false, false, false, false, false, false, false, false, false, false, false, false]) rfl (by kernel_rfl) (pk_then (pk_then (pk_block (pk_then (pk_then (pk_block (pk_then (pk_then pk_body)))))))) (by kernel_rfl) rfl (by kernel_rfl) (by kernel_rfl) rfl ⟨⟨hS154.hasK (KLe.refl _), hS154.hasObj (.head _), hS154.hasObj (.tail _ (.head _))⟩, (fun _ => trivial), by decide⟩ (ug rfl rfl hb155) rfl ?_
        refine wg_un (i := 7) (listed' := #[true, true, true, true, true, true, true, true, false, false, false, false, false, false, false, false, false, false, false, false, false, false, false, false, false, false]) rfl (by kernel_rfl) (pk_then (pk_then (pk_block (pk_then (pk_then (pk_block (pk_then (pk_then pk_body)))))))) (by kernel_rfl) rfl (by kernel_rfl) (by kernel_rfl) rfl ⟨⟨hS154.hasK (KLe.refl _), hS154.hasObj (.head _), hS154.hasObj (.tail _ (.head _))⟩, (fun _ => trivial), by decide⟩ (ug rfl rfl hb155) rfl ?_
        refine wg_un (i := 8) (listed' := #[true, true, true, true, true, true, true, true, true, false, false, false, false, false, false, false, false, false, false, false, false, false, false, false, false, false]) rfl (by kernel_rfl) (pk_then (pk_then (pk_block (pk_then (pk_then (pk_block (pk_then (pk_then pk_body)))))))) (by kernel_rfl) rfl (by kernel_rfl) (by kernel_rfl) rfl ⟨⟨hS154.hasK (KLe.refl _), hS154.hasObj (.head _), hS154.hasObj (.tail _ (.head _))⟩, (fun _ => trivial), by decide⟩ (ug rfl rfl hb155) rfl ?_
        refine wg_un (i := 9) (listed' := #[true, true, true, true, true, true, true, true, true, true, false, false, false, false, false, false, false, false, false, false, false, false, false, false, false, false]) rfl (by kernel_rfl) (pk_then (pk_then (pk_block (pk_then (pk_then (pk_block (pk_then (pk_then pk_body)))))))) (by kernel_rfl) rfl (by kernel_rfl) (by kernel_rfl) rfl ⟨⟨hS154.hasK (KLe.refl _), hS154.hasObj (.head _), hS154.hasObj (.tail _ (.head _))⟩, (fun _ => trivial), by decide⟩ (ug rfl rfl hb155) rfl ?_
        refine wg_un (i := 10) (listed' := #[true, true, true, true, true, true, true, true, true, true, true, false, false, false, false, false, false, false, false, false, false, false, false, false, false, false]) rfl (by kernel_rfl) (pk_then (pk_then (pk_block (pk_then (pk_then (pk_block (pk_then (pk_then pk_body)))))))) (by kernel_rfl) rfl (by kernel_rfl) (by kernel_rfl) rfl ⟨⟨hS154.hasK (KLe.refl _), hS154.hasObj (.head _), hS154.hasObj (.tail _ (.head _))⟩, (fun _ => trivial), by decide⟩ (ug rfl rfl hb155) rfl ?_
        refine wg_un (i := 11) (listed' := #[true, true, true, true, true, true, true, true, true, true, true, true, false, false, false, false, false, false, false, false, false, false, false, false, false, false]) rfl (by kernel_rfl) (pk_then (pk_then (pk_block (pk_then (pk_then (pk_block (pk_then (pk_then pk_body)))))))) (by kernel_rfl) rfl (by kernel_rfl) (by kernel_rfl) rfl ⟨⟨hS154.hasK (KLe.refl _), hS154.hasObj (.head _), hS154.hasObj (.tail _ (.head _))⟩, (fun _ => trivial), by decide⟩ (ug rfl rfl hb155) rfl ?_
        refine wg_un (i := 12) (listed' := #[true, true, true, true, true, true, true, true, true, true, true, true, true, false, false, false, false, false, false, false, false, false, false, false, false, false]) rfl (by kernel_rfl) (pk_then (pk_then (pk_block (pk_then (pk_then (pk_block (pk_then (pk_then pk_body)))))))) (by kernel_rfl) rfl (by kernel_rfl) (by kernel_rfl) rfl ⟨⟨hS154.hasK (KLe.refl _), hS154.hasObj (.head _), hS154.hasObj (.tail _ (.head _))⟩, (fun _ => trivial), by decide⟩ (ug rfl rfl hb155) rfl ?_
        refine wg_val (i := 13) (listed' := #[true, true, true, true, true, true, true, true, true, true, true, true, true, true, false, false, false, false, false, false, false, false, false, false, false, false]) (fun _ => True) rfl (by kernel_rfl) (pk_then (pk_then (pk_block (pk_then (pk_then (pk_block (pk_then (pk_then pk_body)))))))) (by kernel_rfl) rfl (by kernel_rfl) (by kernel_rfl) rfl (.inl fun _ _ => trivial) ⟨⟨hS154.hasK (KLe.refl _), hS154.hasObj (.head _), hS154.hasObj (.tail _ (.head _))⟩, (fun _ => trivial), by decide⟩ wn rfl (fun _ _ => (rv_pick_f (v := .bool false) rfl hb155 rfl)) ?_
        refine wg_val (i := 14) (listed' := #[true, true, true, true, true, true, true, true, true, true, true, true, true, true, true, false, false, false, false, false, false, false, false, false, false, false]) (fun _ => True) rfl (by kernel_rfl) (pk_then (pk_then (pk_block (pk_then (pk_then (pk_block (pk_then (pk_then pk_body)))))))) (by kernel_rfl) rfl (by kernel_rfl) (by kernel_rfl) rfl (.inl fun _ _ => trivial) ⟨⟨hS154.hasK (KLe.refl _), hS154.hasObj (.head _), hS154.hasObj (.tail _ (.head _))⟩, (fun _ => trivial), by decide⟩ wn rfl (fun _ _ => (rv_move rfl)) ?_
        refine wg_val (i := 15) (listed' := #[true, true, true, true, true, true, true, true, true, true, true, true, true, true, true, true, false, false, false, false, false, false, false, false, false, false]) (HasObj g32 [.slice a13 n14 c15, .slice a17 n18 c19]) rfl (by kernel_rfl) (pk_then (pk_then (pk_block (pk_then (pk_then (pk_block (pk_then (pk_then pk_body)))))))) (by kernel_rfl) rfl (by kernel_rfl) (by kernel_rfl) rfl (.inl fun _ h => h.2.1) ⟨⟨hS154.hasK (KLe.refl _), hS154.hasObj (.head _), hS154.hasObj (.tail _ (.head _))⟩, (fun _ => trivial), by decide⟩ (wg rfl rfl rfl) rfl (fun _ h => rh_loadmS (ds := [.slice a13 n14 c15, .slice a17 n18 c19]) tf39 rfl rfl rfl h) ?_
        refine wg_val (i := 16) (listed' := #[true, true, true, true, true, true, true, true, true, true, true, true, true, true, true, true, true, false, false, false, false, false, false, false, false, false]) (HasObj g36 [.slice a21 n22 c23, .slice a25 n26 c27]) rfl (by kernel_rfl) (pk_then (pk_then (pk_block (pk_then (pk_then (pk_block (pk_then (pk_then pk_body)))))))) (by kernel_rfl) rfl (by kernel_rfl) (by kernel_rfl) rfl (.inl fun _ h => h.2.2) ⟨⟨hS154.hasK (KLe.refl _), hS154.hasObj (.head _), hS154.hasObj (.tail _ (.head _))⟩, (fun _ => trivial), by decide⟩ (wg rfl rfl rfl) rfl (fun _ h => rh_loadmS (ds := [.slice a21 n22 c23, .slice a25 n26 c27]) tf42 rfl rfl rfl h) ?_
        refine wg_val (i := 17) (listed' := #[true, true, true, true, true, true, true, true, true, true, true, true, true, true, true, true, true, true, false, false, false, false, false, false, false, false]) (fun _ => True) rfl (by kernel_rfl) (pk_then (pk_then (pk_block (pk_then (pk_then (pk_block (pk_then (pk_then pk_body)))))))) (by kernel_rfl) rfl (by kernel_rfl) (by kernel_rfl) rfl (.inl fun _ _ => trivial) ⟨⟨hS154.hasK (KLe.refl _), hS154.hasObj (.head _), hS154.hasObj (.tail _ (.head _))⟩, (fun _ => trivial), by decide⟩ (wg rfl rfl rfl) rfl (fun _ _ => (rv_move rfl)) ?_
        refine wg_val (i := 18) (listed' := #[true, true, true, true, true, true, true, true, true, true, true, true, true, true, true, true, true, true, true, false, false, false, false, false, false, false]) (fun _ => True) rfl (by kernel_rfl) (pk_then (pk_then (pk_block (pk_then (pk_then (pk_block (pk_then (pk_then pk_body)))))))) (by kernel_rfl) rfl (by kernel_rfl) (by kernel_rfl) rfl (.inl fun _ _ => trivial) ⟨⟨hS154.hasK (KLe.refl _), hS154.hasObj (.head _), hS154.hasObj (.tail _ (.head _))⟩, (fun _ => trivial), by decide⟩ (wg rfl rfl rfl) rfl (fun _ _ => (rv_move rfl)) ?_
        refine wg_val (i := 19) (listed' := #[true, true, true, true, true, true, true, true, true, true, true, true, true, true, true, true, true, true, true, true, false, false, false, false, false, false]) (fun _ => True) rfl (by kernel_rfl) (pk_then (pk_then (pk_block (pk_then (pk_then (pk_block (pk_then (pk_then pk_body)))))))) (by kernel_rfl) rfl (by kernel_rfl) (by kernel_rfl) rfl (.inl fun _ _ => trivial) ⟨⟨hS154.hasK (KLe.refl _), hS154.hasObj (.head _), hS154.hasObj (.tail _ (.head _))⟩, (fun _ => trivial), by decide⟩ (wg rfl rfl rfl) rfl (fun _ _ => (rv_move rfl)) ?_
        obtain ⟨x202, hx203, h204⟩ := ob h156
        refine wg_indexAddr (t := tStr) (j := 20) (listed' := #[true, true, true, true, true, true, true, true, true, true, true, true, true, true, true, true, true, true, true, true, true, false, false, false, false, false]) rfl (by kernel_rfl) (pk_then (pk_then (pk_block (pk_then (pk_then (pk_block (pk_then (pk_then pk_body)))))))) (by kernel_rfl) rfl (by kernel_rfl) (by kernel_rfl) rfl ⟨⟨hS154.hasK (KLe.refl _), hS154.hasObj (.head _), hS154.hasObj (.tail _ (.head _))⟩, (fun _ => trivial), by decide⟩ (wg rfl rfl rfl) rfl Try.underlying36 tf9 rfl rfl (SliceAt.mono (hl62.trans hl137) hs55) hx203 ?_
        intro b205 o206 u207 hu208 ha209
        obtain ⟨rfl, hl210⟩ := hu208
        have ha211 : AtK _ b205 o206 [sv x202] := ha209
        refine wg_val (i := 21) (listed' := #[true, true, true, true, true, true, true, true, true, true, true, true, true, true, true, true, true, true, true, true, true, true, false, false, false, false]) (Holds K136) rfl (by kernel_rfl) (pk_then (pk_then (pk_block (pk_then (pk_then (pk_block (pk_then (pk_then pk_body)))))))) (by kernel_rfl) rfl (by kernel_rfl) (by kernel_rfl) rfl (.inl fun _ h => h.1) ⟨⟨hS154.hasK (KLe.refl _), hS154.hasObj (.head _), hS154.hasObj (.tail _ (.head _))⟩, (fun _ => trivial), by decide⟩ (wg rfl rfl rfl) rfl (fun _ h => rh_load1 tf9 rfl (ha211 0 _ rfl) h) ?_
        refine wg_one (i := 22) (by kernel_rfl) rfl ?_
        obtain ⟨r212, hx213, h214⟩ := ob h204
        refine wl_call (wg rfl rfl rfl) rfl (rt_call (vs := [.agg #[.slice a13 n14 c15, .slice a17 n18 c19], .agg #[.slice a21 n22 c23, .slice a25 n26 c27], sv r7.2.2, sv x202]) co28 rfl) ((ok_impl_SegPosts F) hS154.enter0 (SliceAt.mono ((hS51.le.trans hl62).trans hl137) hs16) (SliceAt.mono ((hS51.le.trans hl62).trans hl137) hs20) (SliceAt.mono ((hS51.le.trans hl62).trans hl137) hs24) (SliceAt.mono ((hS51.le.trans hl62).trans hl137) hs28) hl29 hl210 hx213) ?_
        rintro e222 w216 ⟨a218, n219, c220, K215, rfl, hS217, hs221⟩
        refine ⟨_, rfl, ?_⟩
        have hS223 : SH _ _ _ _ _ [_, _, _] := SH.call0 hS154 hS217
        refine wl_nil (qe_held (listed' := #[true, true, true, true, true, true, true, true, true, true, true, true, true, true, true, true, true, true, true, true, true, true, true, false, false, false]) rfl ⟨⟨hS223.hasK hS217.le, hS223.hasObj (.tail _ (.head _)), hS223.hasObj (.tail _ (.tail _ (.head _)))⟩, (fun _ => trivial), by decide⟩ ?_)
        refine wg_val (i := 23) (listed' := #[true, true, true, true, true, true, true, true, true, true, true, true, true, true, true, true, true, true, true, true, true, true, true, true, false, false]) (fun _ => True) rfl (by kernel_rfl) (pk_then (pk_then (pk_block (pk_then (pk_then (pk_block (pk_then (pk_then pk_body)))))))) (by kernel_rfl) rfl (by kernel_rfl) (by kernel_rfl) rfl (.inl fun _ _ => trivial) ⟨⟨hS223.hasK hS217.le, hS223.hasObj (.tail _ (.head _)), hS223.hasObj (.tail _ (.tail _ (.head _)))⟩, (fun _ => trivial), by decide⟩ (wg rfl rfl rfl) rfl (fun _ _ => (rv_len (t := tGPost) Try.underlying58 rfl hs221)) ?_
        refine wg_val (i := 24) (listed' := #[true, true, true, true, true, true, true, true, true, true, true, true, true, true, true, true, true, true, true, true, true, true, true, true, true, false]) (fun _ => True) rfl (by kernel_rfl) (pk_then (pk_then (pk_block (pk_then (pk_then (pk_block (pk_then (pk_then pk_body)))))))) (by kernel_rfl) rfl (by kernel_rfl) (by kernel_rfl) rfl (.inl fun _ _ => trivial) ⟨⟨hS223.hasK hS217.le, hS223.hasObj (.tail _ (.head _)), hS223.hasObj (.tail _ (.tail _ (.head _)))⟩, (fun _ => trivial), by decide⟩ (wg rfl rfl rfl) rfl (fun _ _ => (rv_eql rfl rfl)) ?_
        refine wg_val (i := 25) (listed' := #[true, true, true, true, true, true, true, true, true, true, true, true, true, true, true, true, true, true, true, true, true, true, true, true, true, true]) (fun _ => True) rfl (by kernel_rfl) (pk_then (pk_then (pk_block (pk_then (pk_then (pk_block (pk_then (pk_then pk_body)))))))) (by kernel_rfl) rfl (by kernel_rfl) (by kernel_rfl) rfl (.inl fun _ _ => trivial) ⟨⟨hS223.hasK hS217.le, hS223.hasObj (.tail _ (.head _)), hS223.hasObj (.tail _ (.tail _ (.head _)))⟩, (fun _ => trivial), by decide⟩ wn rfl (fun _ _ => (rv_pick_f rfl rfl rfl)) ?_
        refine wg_done (by kernel_rfl) ?_
        obtain rfl := oi h214
        have hS224 : SH _ _ _ _ _ [_, _] := SH.sublist hS223 (.cons _ (.cons_cons _ (.cons_cons _ .slnil)))
        exact qe_mid' ⟨K215, rfl, hS224, hS217.le⟩ ⟨rfl, rfl, rfl, rfl, rfl, rfl, trivial⟩
      ·rintro _ w151 ⟨K149, rfl, hS152, hl150⟩
       refine qe_seq ?_
       refine wc_cond rfl (fun hb225 => ?_) (fun hb225 => ?_)
       ·have h226 := cond_t hb225 h148
        refine sr ?_
        refine wl_val wn rfl (rv_assign (v := .bool false) rfl) ?_
        refine nq ?_
        refine wc_ret ?_
        refine qe_block_ret ?_
        refine qe_then_ret ?_
        refine qe_then_ret ?_
        obtain rfl := oi h226
        have e227 := hx143 _ rfl
        subst e227
        refine qe_block_ret ?_
        refine qe_then_ret ?_
        obtain rfl := oi h135
        refine qe_then_ret ?_
        obtain rfl := oi h126
        have hS228 : SH _ _ _ _ _ [] := SH.sublist hS152 (.cons _ (.cons _ .slnil))
        exact qe_ret (vs := [_]) Try.results7 ⟨rfl, trivial⟩ ⟨K149, rfl, hS228⟩
       ·have h226 := cond_f hb225 h148
        refine wc_skip ?_
        refine qe_block ?_
        refine qe_seq ?_
        refine wc_region ?_
        refine vm rfl rfl ?_
        refine wl_val wn rfl (rv_add rfl rfl) ?_
        refine va rfl rfl ?_
        refine wl_nil ?_
        obtain rfl := oi h226
        exact qe_mid' ⟨_, rfl, K149, rfl, hS152, (hl137.trans hl150), (w64_rng _)⟩ ⟨rfl, rfl, rfl, rfl, rfl, trivial⟩
     ·have h145 := cond_f hb144 h142
      refine wc_exit ?_
      refine qe_then_exit ?_
      refine qe_then_exit ?_
      obtain rfl := oi h145
      have e229 := hx143 _ rfl
      subst e229
      refine qe_block_eq ?_
      obtain rfl := oi h135
      exact qe_mid' ⟨_, K136, rfl, rfl, hS139, hl137⟩ ⟨rfl, rfl, rfl, rfl, trivial⟩
    ·rintro _ w130 ⟨s127, K128, rfl, rfl, hS131, hl129⟩
     refine qs ?_
     refine sr ?_
     refine wl_val wn rfl (rv_assign (v := .int .i64 0) rfl) ?_
     refine nq ?_
     obtain ⟨o232, h233, h234⟩ := ob h126
     refine wc_cutg (fun E' w' => ∃ (s235 : Unit) (K236 : KMap), o232 = .inl s235 ∧ E' = [] ∧ SH w K [] w' K236 [] ∧ KLe K128 K236) ?_ ?_
     ·refine wc_block ?_
      obtain ⟨r241, h242, h243⟩ := ob h233
      refine wc_while' (fun (s240 : Int) E' w' => ∃ (K244 : KMap), E' = [(3, .pointer (some ⟨g32, 0, none⟩)), (4, .pointer (some ⟨g36, 0, none⟩)), (5, sv r7.2.2), (6, .slice a52 n53 c54), (8, .int .i64 s240)] ∧ SH w K [] w' K244 [obj g32 [.slice a13 n14 c15, .slice a17 n18 c19] 39, obj g36 [.slice a21 n22 c23, .slice a25 n26 c27] 42] ∧ KLe K128 K244 ∧ rng64 s240) h242 ⟨K128, rfl, hS131, (KLe.refl _), (by decide : rng64 0)⟩ ⟨rfl, rfl, rfl, rfl, rfl, trivial⟩ ?_
      rintro s240 _ w246 r249 h250 hx251 ⟨K244, rfl, hS247, hl245, hr248⟩
      refine wc_seq ?_
      refine sr ?_
      refine vm rfl rfl ?_
      refine wl_val wn rfl (rv_fieldAddr ff42_0 rfl) ?_
      refine wl_val wn rfl (rv_loadm1 tf23 rfl (.tail _ (.head _)) hS247 rfl) ?_
      refine wl_val wn rfl (rv_len (t := tGDoc) Try.underlying23 rfl (SliceAt.mono (((hS51.le.trans hl62).trans hl129).trans hl245) hs24)) ?_
      refine wl_val wn rfl (rv_lss rfl rfl) ?_
      refine nq ?_
      refine wc_cond rfl (fun hb252 => ?_) (fun hb252 => ?_)
      ·have h253 := cond_t hb252 h250
       refine wc_skip ?_
       refine qs ?_
       refine wc_block ?_
       refine wc_seq ?_
       refine wc_held (fun w' => Holds K244 w' ∧ HasObj g32 [.slice a13 n14 c15, .slice a17 n18 c19] w' ∧ HasObj g36 [.slice a21 n22 c23, .slice a25 n26 c27] w') (fun w' => True) 10 [] mixed ?_
       have hS255 := SH.drew hS247
       refine wg_val (i := 0) (listed' := #[true, false, false, false, false, false, false, false, false, false]) (HasObj g32 [.slice a13 n14 c15, .slice a17 n18 c19]) rfl (by kernel_rfl) (pk_then (pk_block (pk_then (pk_then (pk_block (pk_then (pk_then pk_body))))))) (by kernel_rfl) rfl (by kernel_rfl) (by kernel_rfl) rfl (.inl fun _ h => h.2.1) ⟨⟨hS255.hasK (KLe.refl _), hS255.hasObj (.head _), hS255.hasObj (.tail _ (.head _))⟩, (fun _ => trivial), by decide⟩ wn rfl (fun _ h => rh_loadmS (ds := [.slice a13 n14 c15, .slice a17 n18 c19]) tf39 rfl rfl rfl h) ?_
       refine wg_val (i := 1) (listed' := #[true, true, false, false, false, false, false, false, false, false]) (fun _ => True) rfl (by kernel_rfl) (pk_then (pk_block (pk_then (pk_then (pk_block (pk_then (pk_then pk_body))))))) (by kernel_rfl) rfl (by kernel_rfl) (by kernel_rfl) rfl (.inl fun _ _ => trivial) ⟨⟨hS255.hasK (KLe.refl _), hS255.hasObj (.head _), hS255.hasObj (.tail _ (.head _))⟩, (fun _ => trivial), by decide⟩ wn rfl (fun _ _ => (rv_fieldAddr ff42_0 rfl)) ?_
       refine wg_val (i := 2) (listed' := #[true, true, true, false, false, false, false, false, false, false]) (HasObj g36 [.slice a21 n22 c23, .slice a25 n26 c27]) rfl (by kernel_rfl) (pk_then (pk_block (pk_then (pk_then (pk_block (pk_then (pk_then pk_body))))))) (by kernel_rfl) rfl (by kernel_rfl) (by kernel_rfl) rfl (.inl fun _ h => h.2.2) ⟨⟨hS255.hasK (KLe.refl _), hS255.hasObj (.head _), hS255.hasObj (.tail _ (.head _))⟩, (fun _ => trivial), by decide⟩ wn rfl (fun _ h => rh_loadm1 tf23 rfl rfl h) ?_
       refine wg_val (i := 3) (listed' := #[true, true, true, true, false, false, false, false, false, false]) (fun _ => True) rfl (by kernel_rfl) (pk_then (pk_block (pk_then (pk_then (pk_block (pk_then (pk_then pk_body))))))) (by kernel_rfl) rfl (by kernel_rfl) (by kernel_rfl) rfl (.inl fun _ _ => trivial) ⟨⟨hS255.hasK (KLe.refl _), hS255.hasObj (.head _), hS255.hasObj (.tail _ (.head _))⟩, (fun _ => trivial), by decide⟩ wn rfl (fun _ _ => (rv_move rfl)) ?_
       obtain ⟨x256, hx257, h258⟩ := ob h253
       refine wg_indexAddr (t := tGDoc) (j := 4) (listed' := #[true, true, true, true, true, false, false, false, false, false]) rfl (by kernel_rfl) (pk_then (pk_block (pk_then (pk_then (pk_block (pk_then (pk_then pk_body))))))) (by kernel_rfl) rfl (by kernel_rfl) (by kernel_rfl) rfl ⟨⟨hS255.hasK (KLe.refl _), hS255.hasObj (.head _), hS255.hasObj (.tail _ (.head _))⟩, (fun _ => trivial), by decide⟩ wn rfl Try.underlying23 tf49 rfl rfl (SliceAt.mono (((hS51.le.trans hl62).trans hl129).trans hl245) hs24) hx257 ?_
       intro b259 o260 u261 hu262 ha263
       obtain ⟨a265, n266, c267, a269, n270, c271, rfl, hr264, hs268, hs272⟩ := hu262
       have ha273 : AtK _ b259 o260 [.int .i64 x256.Id, .slice a265 n266 c267, .slice a269 n270 c271] := ha263
       refine wg_val (i := 5) (listed' := #[true, true, true, true, true, true, false, false, false, false]) (Holds K244) rfl (by kernel_rfl) (pk_then (pk_block (pk_then (pk_then (pk_block (pk_then (pk_then pk_body))))))) (by kernel_rfl) rfl (by kernel_rfl) (by kernel_rfl) rfl (.inl fun _ h => h.1) ⟨⟨hS255.hasK (KLe.refl _), hS255.hasObj (.head _), hS255.hasObj (.tail _ (.head _))⟩, (fun _ => trivial), by decide⟩ wn rfl (fun _ h => rh_loadS (cs := [.int .i64 x256.Id, .slice a265 n266 c267, .slice a269 n270 c271]) tf49 rfl ha273 rfl h) ?_
       refine wg_val (i := 6) (listed' := #[true, true, true, true, true, true, true, false, false, false]) (fun _ => True) rfl (by kernel_rfl) (pk_then (pk_block (pk_then (pk_then (pk_block (pk_then (pk_then pk_body))))))) (by kernel_rfl) rfl (by kernel_rfl) (by kernel_rfl) rfl (.inl fun _ _ => trivial) ⟨⟨hS255.hasK (KLe.refl _), hS255.hasObj (.head _), hS255.hasObj (.tail _ (.head _))⟩, (fun _ => trivial), by decide⟩ wn rfl (fun _ _ => (rv_move rfl)) ?_
       refine wg_one (i := 7) (by kernel_rfl) rfl ?_
       obtain ⟨r274, hx275, h276⟩ := ob h258
       refine wl_call wn rfl (rt_call (vs := [.agg #[.int .i64 x256.Id, .slice a265 n266 c267, .slice a269 n270 c271], sv r7.2.2]) co19 rfl) ((ok_impl_DocField F) hS255.enter0 hr264 hs268 hs272 hl29 hx275) ?_
       rintro e281 w278 ⟨K277, rfl, hS279, hl280⟩
       refine ⟨_, rfl, ?_⟩
       have hS282 : SH _ _ _ _ _ [_, _] := SH.call0 hS255 hS279
       refine wl_nil (qe_held (listed' := #[true, true, true, true, true, true, true, true, false, false]) rfl ⟨⟨hS282.hasK hS279.le, hS282.hasObj (.head _), hS282.hasObj (.tail _ (.head _))⟩, (fun _ => trivial), by decide⟩ ?_)
       refine wg_one (i := 8) (by kernel_rfl) rfl ?_
       obtain ⟨r283, hx284, h285⟩ := ob h276
       refine wl_call wn rfl (rt_call (vs := [.agg #[.slice a13 n14 c15, .slice a17 n18 c19], sv r274]) co18 rfl) ((ok_impl_TermsOf F) hS282.enter0 (SliceAt.mono ((((hS51.le.trans hl62).trans hl129).trans hl245).trans hS279.le) hs16) (SliceAt.mono ((((hS51.le.trans hl62).trans hl129).trans hl245).trans hS279.le) hs20) hl280 hx284) ?_
       rintro e293 w287 ⟨a289, n290, c291, K286, rfl, hS288, hs292⟩
       refine ⟨_, rfl, ?_⟩
       have hS294 : SH _ _ _ _ _ [_, _, _] := SH.call0 hS282 hS288
       refine wl_nil (qe_held (listed' := #[true, true, true, true, true, true, true, true, true, false]) rfl ⟨⟨hS294.hasK (hS279.le.trans hS288.le), hS294.hasObj (.tail _ (.head _)), hS294.hasObj (.tail _ (.tail _ (.head _)))⟩, (fun _ => trivial), by decide⟩ ?_)
       refine wg_val (i := 9) (listed' := #[true, true, true, true, true, true, true, true, true, true]) (fun _ => True) rfl (by kernel_rfl) (pk_then (pk_block (pk_then (pk_then (pk_block (pk_then (pk_then pk_body))))))) (by kernel_rfl) rfl (by kernel_rfl) (by kernel_rfl) rfl (.inl fun _ _ => trivial) ⟨⟨hS294.hasK (hS279.le.trans hS288.le), hS294.hasObj (.tail _ (.head _)), hS294.hasObj (.tail _ (.tail _ (.head _)))⟩, (fun _ => trivial), by decide⟩ wn rfl (fun _ _ => (rv_assign rfl)) ?_
       refine wg_done (by kernel_rfl) ?_
       refine qr ?_
       refine wl_val wn rfl (rv_assign (v := .int .i64 0) rfl) ?_
       refine nq ?_
       obtain ⟨o295, h296, h297⟩ := ob h285
       refine wc_cutg (fun E' w' => ∃ (s298 : Unit) (K299 : KMap), o295 = .inl s298 ∧ E' = [(3, .pointer (some ⟨g32, 0, none⟩)), (4, .pointer (some ⟨g36, 0, none⟩)), (5, sv r7.2.2), (6, .slice a52 n53 c54), (8, .int .i64 s240)] ∧ SH w K [] w' K299 [obj g32 [.slice a13 n14 c15, .slice a17 n18 c19] 39, obj g36 [.slice a21 n22 c23, .slice a25 n26 c27] 42] ∧ KLe K286 K299) ?_ ?_
       ·refine wc_block ?_
        obtain ⟨r304, h305, h306⟩ := ob h296
        have hS312 : SH _ _ _ _ _ [_, _] := SH.sublist hS294 (.cons _ (.cons_cons _ (.cons_cons _ .slnil)))
        refine wc_while' (fun (s303 : Int) E' w' => ∃ (K307 : KMap), E' = [(3, .pointer (some ⟨g32, 0, none⟩)), (4, .pointer (some ⟨g36, 0, none⟩)), (5, sv r7.2.2), (6, .slice a52 n53 c54), (8, .int .i64 s240), (9, .slice a289 n290 c291), (10, .int .i64 s303)] ∧ SH w K [] w' K307 [obj g32 [.slice a13 n14 c15, .slice a17 n18 c19] 39, obj g36 [.slice a21 n22 c23, .slice a25 n26 c27] 42] ∧ KLe K286 K307 ∧ rng64 s303) h305 ⟨K286, rfl, hS312, (KLe.refl _), (by decide : rng64 0)⟩ ⟨rfl, rfl, rfl, rfl, rfl, rfl, rfl, trivial⟩ ?_
        rintro s303 _ w309 r313 h314 hx315 ⟨K307, rfl, hS310, hl308, hr311⟩
        refine wc_seq ?_
        refine sr ?_
        refine vm rfl rfl ?_
        refine vm rfl rfl ?_
        refine wl_val wn rfl (rv_len (t := tGTerm) Try.underlying50 rfl (SliceAt.mono hl308 hs292)) ?_
        refine wl_val wn rfl (rv_lss rfl rfl) ?_
        refine nq ?_
        refine wc_cond rfl (fun hb316 => ?_) (fun hb316 => ?_)
        ·have h317 := cond_t hb316 h314
         refine wc_skip ?_
         refine qs ?_
         refine wc_block ?_
         refine sr ?_
         refine vm rfl rfl ?_
         refine vm rfl rfl ?_
         refine vm rfl rfl ?_
         obtain ⟨x318, hx319, h320⟩ := ob h317
         refine wl_indexAddr (t := tGTerm) wn rfl Try.underlying50 tf74 rfl rfl (SliceAt.mono hl308 hs292) hx319 ?_
         intro b321 o322 u323 hu324 ha325
         obtain ⟨rfl, hl326, hr327⟩ := hu324
         have ha328 : AtK _ b321 o322 [sv x318.Text, .int .i64 x318.At] := ha325
         refine wl_val wn rfl (rv_fieldAddr ff74_0 rfl) ?_
         refine wl_val wn rfl (rv_load1 tf9 rfl hS310 (ha328 0 _ rfl)) ?_
         obtain ⟨r329, hx330, h331⟩ := ob h320
         refine wl_call wn rfl (rt_call (vs := [.slice a52 n53 c54, sv x318.Text]) co33 rfl) ((ok_laws_foHas F) hS310.enter0 (SliceAt.mono (((((hl62.trans hl129).trans hl245).trans hS279.le).trans hS288.le).trans hl308) hs55) hl326 hx330) ?_
         rintro e335 w333 ⟨K332, rfl, hS334⟩
         refine ⟨_, rfl, ?_⟩
         have hS336 : SH _ _ _ _ _ [_, _] := SH.call0 hS310 hS334
         refine wl_val wn rfl (rv_not rfl) ?_
         refine nq ?_
         refine wc_cond rfl (fun hb337 => ?_) (fun hb337 => ?_)
         ·have h338 := cond_t hb337 h331
          refine sr ?_
          refine wl_val wn rfl (rv_assign (v := .bool false) rfl) ?_
          refine nq ?_
          refine wc_ret ?_
          refine qe_block_ret ?_
          refine qe_then_ret ?_
          refine qe_then_ret ?_
          obtain rfl := oi h338
          have e339 := hx315 _ rfl
          subst e339
          refine qe_block_ret ?_
          refine qe_then_ret ?_
          obtain rfl := oi h306
          refine qe_block_ret ?_
          refine qe_then_ret ?_
          refine qe_then_ret ?_
          obtain rfl := oi h297
          have e340 := hx251 _ rfl
          subst e340
          refine qe_block_ret ?_
          refine qe_then_ret ?_
          obtain rfl := oi h243
          refine qe_then_ret ?_
          obtain rfl := oi h234
          have hS341 : SH _ _ _ _ _ [] := SH.sublist hS336 (.cons _ (.cons _ .slnil))
          exact qe_ret (vs := [_]) Try.results7 ⟨rfl, trivial⟩ ⟨K332, rfl, hS341⟩
         ·have h338 := cond_f hb337 h331
          refine wc_skip ?_
          refine qe_block ?_
          refine qe_seq ?_
          refine wc_region ?_
          refine vm rfl rfl ?_
          refine wl_val wn rfl (rv_add rfl rfl) ?_
          refine va rfl rfl ?_
          refine wl_nil ?_
          obtain rfl := oi h338
          exact qe_mid' ⟨_, rfl, K332, rfl, hS336, (hl308.trans hS334.le), (w64_rng _)⟩ ⟨rfl, rfl, rfl, rfl, rfl, rfl, rfl, trivial⟩
        ·have h317 := cond_f hb316 h314
         refine wc_exit ?_
         refine qe_then_exit ?_
         refine qe_then_exit ?_
         obtain rfl := oi h317
         have e342 := hx315 _ rfl
         subst e342
         refine qe_block_eq ?_
         obtain rfl := oi h306
         exact qe_mid' ⟨_, K307, rfl, rfl, hS310, hl308⟩ ⟨rfl, rfl, rfl, rfl, rfl, trivial⟩
       ·rintro _ w301 ⟨s298, K299, rfl, rfl, hS302, hl300⟩
        refine qe_block ?_
        refine qe_seq ?_
        refine wc_region ?_
        refine vm rfl rfl ?_
        refine wl_val wn rfl (rv_add rfl rfl) ?_
        refine va rfl rfl ?_
        refine wl_nil ?_
        obtain rfl := oi h297
        exact qe_mid' ⟨_, rfl, K299, rfl, hS302, (((hl245.trans hS279.le).trans hS288.le).trans hl300), (w64_rng _)⟩ ⟨rfl, rfl, rfl, rfl, rfl, trivial⟩
      ·have h253 := cond_f hb252 h250
       refine wc_exit ?_
       refine qe_then_exit ?_
       refine qe_then_exit ?_
       obtain rfl := oi h253
       have e346 := hx251 _ rfl
       subst e346
       refine qe_block_eq ?_
       obtain rfl := oi h243
       have hS347 : SH _ _ _ _ _ [] := SH.sublist hS247 (.cons _ (.cons _ .slnil))
       exact qe_mid' ⟨_, K244, rfl, rfl, hS347, hl245⟩ trivial
     ·rintro _ w238 ⟨s235, K236, rfl, rfl, hS239, hl237⟩
      refine qr ?_
      refine wl_val wn rfl (rv_assign (v := .bool true) rfl) ?_
      refine nq ?_
      refine wc_ret ?_
      obtain rfl := oi h234
      exact qe_ret (vs := [_]) Try.results7 ⟨rfl, trivial⟩ ⟨K236, rfl, hS239⟩
end Go.Proofs.Ytdcmmhjhffcnhaa
