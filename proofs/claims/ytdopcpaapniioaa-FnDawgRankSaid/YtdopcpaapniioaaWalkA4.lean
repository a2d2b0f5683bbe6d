/-
  Walks of the functions. Printed by gen.py.
-/
import Derived.Test.YtdopcpaapniioaaWalkA3
set_option linter.unusedVariables false
set_option maxRecDepth 100000
namespace Go.Proofs.Ytdopcpaapniioaa
open Go Go.Fk Go.RowKit

set_option maxHeartbeats 2000000 in
theorem ok_spec_l4Count (F : Nat) {w : World} {K : KMap} {a1 : Option Addr} {n2 c3 : Nat} {p0_d : List GState} {r : Int} (hS : SH w K [] w K []) (hs4 : SliceAt tGState K a1 n2 c3 p0_d) (hm : M.spec_l4Count F p0_d = some r) :
    Calls Try.prog 94 #[.slice a1 n2 c3] w fun e w' => ∃ (K' : KMap), e = .returned (.int .i64 r) ∧ SH w K [] w' K' [] ∧ rng64 r := by
  rw [M.spec_l4Count] at hm
  refine calls_in Try.func94 rfl Try.ntmps94 rfl ?_
  refine wc_seq ?_
  refine wc_region ?_
  refine wl_val wn rfl (rv_assign (v := .int .i64 0) rfl) ?_
  refine wl_nil ?_
  refine qe_seq ?_
  refine wc_seq ?_
  refine wc_region ?_
  refine wl_val wn rfl (rv_move rfl) ?_
  refine wl_val wn rfl (rv_len (t := tGState) Try.underlying28 rfl hs4) ?_
  obtain ⟨x5, hx6, h7⟩ := Option.bind_eq_some_iff.1 hm
  refine wl_make (t := tInt) wn rfl Try.underlying100 tf3 rfl rfl rfl hx6 ⟨rfl, (by decide : rng64 0)⟩ hS ?_
  intro g8 cs9 w10 hmx13 hrow11 hS12
  obtain ⟨m14, hm15⟩ : ∃ m, m = x5.length := ⟨_, rfl⟩
  rw [← hm15] at hmx13
  rw [← hm15]
  refine wl_val wn rfl (rv_assign rfl) ?_
  refine wl_nil ?_
  refine qe_seq ?_
  refine wc_seq ?_
  refine wc_seq ?_
  refine wc_region ?_
  refine wl_val wn rfl (rv_assign (v := .int .i64 0) rfl) ?_
  refine wl_nil ?_
  refine qe_seq ?_
  obtain ⟨o16, h17, h18⟩ := Option.bind_eq_some_iff.1 h7
  refine wc_cutg (fun E' w' => ∃ (s19 : (List Int)) (cs24 : List Value) (K20 : KMap), o16 = .inl s19 ∧ E' = [(0, .slice a1 n2 c3), (3, .slice (some ⟨g8, 0, none⟩) m14 m14)] ∧ SH w K [] w' K20 [obj g8 cs24 3] ∧ KLe K K20 ∧ RowAt true tInt K20 cs24 s19 ∧ m14 = s19.length) ?_ ?_
  · refine wc_block ?_
    obtain ⟨r28, h29, h30⟩ := Option.bind_eq_some_iff.1 h17
    refine wc_while' (fun (s27 : Int × (List Int)) E' w' => ∃ (cs36 : List Value) (K31 : KMap), E' = [(0, .slice a1 n2 c3), (3, .slice (some ⟨g8, 0, none⟩) m14 m14), (4, .int .i64 s27.1)] ∧ SH w K [] w' K31 [obj g8 cs36 3] ∧ KLe K K31 ∧ rng64 s27.1 ∧ RowAt true tInt K31 cs36 s27.2 ∧ m14 = s27.2.length) h29 ⟨cs9, K, rfl, hS12, (KLe.refl _), (by decide : rng64 0), hrow11, hm15⟩ ⟨rfl, rfl, rfl, trivial⟩ ?_
    rintro s27 _ w33 r39 h40 hx41 ⟨cs36, K31, rfl, hS34, hl32, hr35, hrow37, hm38⟩
    refine wc_seq ?_
    refine wc_seq ?_
    refine wc_region ?_
    refine wl_val wn rfl (rv_move rfl) ?_
    refine wl_val wn rfl (rv_move rfl) ?_
    refine wl_val wn rfl (rv_len (t := tGState) Try.underlying28 rfl (SliceAt.mono hl32 hs4)) ?_
    refine wl_val wn rfl (rv_lss rfl rfl) ?_
    refine wl_nil ?_
    refine qe_seq ?_
    refine wc_cond rfl (fun hb42 => ?_) (fun hb42 => ?_)
    · have h43 := cond_t hb42 h40
      refine wc_skip ?_
      refine qe_seq ?_
      refine wc_seq ?_
      refine wc_block ?_
      refine wc_seq ?_
      refine wc_seq ?_
      refine wc_region ?_
      refine wl_val wn rfl (rv_move rfl) ?_
      refine wl_val wn rfl (rv_move rfl) ?_
      obtain ⟨x44, hx45, h46⟩ := Option.bind_eq_some_iff.1 h43
      refine wl_indexAddr (t := tGState) wn rfl Try.underlying28 tf33 rfl rfl (SliceAt.mono hl32 hs4) hx45 ?_
      intro b47 o48 u49 hu50 ha51
      obtain ⟨a53, n54, c55, rfl, hr52, hs56⟩ := hu50
      have ha57 : AtK _ b47 o48 [.bool x44.Final, .int .i64 x44.Many, .slice a53 n54 c55] := ha51
      refine wl_val wn rfl (rv_fieldAddr ff33_0 rfl) ?_
      refine wl_val wn rfl (rv_load1 tf4 rfl hS34 (ha57 0 _ rfl)) ?_
      refine wl_nil ?_
      refine qe_seq ?_
      obtain ⟨o58, h59, h60⟩ := Option.bind_eq_some_iff.1 h46
      refine wc_cutg (fun E' w' => ∃ (cs65 : List Value) (K61 : KMap), E' = [(0, .slice a1 n2 c3), (3, .slice (some ⟨g8, 0, none⟩) m14 m14), (4, .int .i64 s27.1)] ∧ SH w K [] w' K61 [obj g8 cs65 3] ∧ KLe K31 K61 ∧ RowAt true tInt K61 cs65 o58 ∧ m14 = o58.length) ?_ ?_
      · refine wc_cond rfl (fun hb68 => ?_) (fun hb68 => ?_)
        · have h69 := cond_t hb68 h59
          refine wc_region ?_
          refine wl_val wn rfl (rv_move rfl) ?_
          refine wl_val wn rfl (rv_move rfl) ?_
          obtain ⟨x70, hx71, h72⟩ := Option.bind_eq_some_iff.1 h69
          obtain ⟨u73, hu74, hk75⟩ := RowAt.at hrow37 hx71
          obtain ⟨rfl, hr77⟩ := hu74
          have hk76 : ∀ (j : Nat) (d : Value), [.int .i64 x70][j]? = some d → cs36[s27.1.toNat * tInt.size + j]? = some d := hk75
          refine wl_val wn rfl (rv_indexRow (t := tInt) Try.underlying100 tf3 rfl rfl hm38 hx71) ?_
          refine wl_storeRow (t := tInt) (v := .int .i64 1) (e := (1 : Int)) wn tf3 rfl rfl ⟨rfl, (by decide : rng64 1)⟩ hS34 hrow37 hx71 ?_
          intro cs78 w79 hrow80 hS81
          have hm82 := hm38.trans (List.length_set (i := s27.1.toNat) (a := (1 : Int))).symm
          refine wl_nil ?_
          obtain rfl := Option.some.inj h72
          exact qe_mid' ⟨cs78, K31, rfl, hS81, (KLe.refl _), hrow80, hm82⟩ ⟨rfl, rfl, rfl, trivial⟩
        · have h69 := cond_f hb68 h59
          refine wc_skip ?_
          obtain rfl := Option.some.inj h69
          exact qe_mid' ⟨cs36, K31, rfl, hS34, (KLe.refl _), hrow37, hm38⟩ ⟨rfl, rfl, rfl, trivial⟩
      · rintro _ w63 ⟨cs65, K61, rfl, hS64, hl62, hrow66, hm67⟩
        refine qe_seq ?_
        refine wc_seq ?_
        refine wc_seq ?_
        refine wc_region ?_
        refine wl_val wn rfl (rv_assign (v := .int .i64 0) rfl) ?_
        refine wl_nil ?_
        refine qe_seq ?_
        obtain ⟨o83, h84, h85⟩ := Option.bind_eq_some_iff.1 h60
        refine wc_cutg (fun E' w' => ∃ (cs90 : List Value) (K86 : KMap), E' = [(0, .slice a1 n2 c3), (3, .slice (some ⟨g8, 0, none⟩) m14 m14), (4, .int .i64 s27.1)] ∧ SH w K [] w' K86 [obj g8 cs90 3] ∧ KLe K61 K86 ∧ RowAt true tInt K86 cs90 o83 ∧ m14 = o83.length) ?_ ?_
        · refine wc_block ?_
          obtain ⟨r94, h95, h96⟩ := Option.bind_eq_some_iff.1 h84
          refine wc_while' (fun (s93 : Int × (List Int)) E' w' => ∃ (cs102 : List Value) (K97 : KMap), E' = [(0, .slice a1 n2 c3), (3, .slice (some ⟨g8, 0, none⟩) m14 m14), (4, .int .i64 s27.1), (5, .int .i64 s93.1)] ∧ SH w K [] w' K97 [obj g8 cs102 3] ∧ KLe K61 K97 ∧ rng64 s93.1 ∧ RowAt true tInt K97 cs102 s93.2 ∧ m14 = s93.2.length) h95 ⟨cs65, K61, rfl, hS64, (KLe.refl _), (by decide : rng64 0), hrow66, hm67⟩ ⟨rfl, rfl, rfl, rfl, trivial⟩ ?_
          rintro s93 _ w99 r105 h106 hx107 ⟨cs102, K97, rfl, hS100, hl98, hr101, hrow103, hm104⟩
          refine wc_seq ?_
          refine wc_seq ?_
          refine wc_region ?_
          refine wl_val wn rfl (rv_move rfl) ?_
          refine wl_val wn rfl (rv_move rfl) ?_
          refine wl_val wn rfl (rv_move rfl) ?_
          obtain ⟨x108, hx109, h110⟩ := Option.bind_eq_some_iff.1 h106
          refine wl_indexAddr (t := tGState) wn rfl Try.underlying28 tf33 rfl rfl (SliceAt.mono ((hl32.trans hl62).trans hl98) hs4) hx109 ?_
          intro b111 o112 u113 hu114 ha115
          obtain ⟨a117, n118, c119, rfl, hr116, hs120⟩ := hu114
          have ha121 : AtK _ b111 o112 [.bool x108.Final, .int .i64 x108.Many, .slice a117 n118 c119] := ha115
          refine wl_val wn rfl (rv_fieldAddr ff33_2 rfl) ?_
          refine wl_val wn rfl (rv_load1 tf31 rfl hS100 (ha121 2 _ rfl)) ?_
          refine wl_val wn rfl (rv_len (t := tGArc) Try.underlying31 rfl hs120) ?_
          refine wl_val wn rfl (rv_lss rfl rfl) ?_
          refine wl_nil ?_
          refine qe_seq ?_
          refine wc_cond rfl (fun hb122 => ?_) (fun hb122 => ?_)
          · have h123 := cond_t hb122 h110
            refine wc_skip ?_
            refine qe_seq ?_
            refine wc_seq ?_
            refine wc_block ?_
            refine wc_held (fun w' => Holds K97 w') (fun w' => HasObj g8 cs102 w') 20 [(5, 18), (5, 19), (5, 20), (17, 18), (17, 19), (17, 20), (18, 19), (18, 20), (19, 20)] mixed ?_
            have hS125 := SH.drew hS100
            refine wg_val (i := 0) (listed' := #[true, false, false, false, false, false, false, false, false, false, false, false, false, false, false, false, false, false, false, false, false]) (fun _ => True) rfl (by kernel_rfl) (pk_block (pk_then (pk_then (pk_block (pk_then (pk_then (pk_block (pk_then (pk_then (pk_block (pk_then (pk_then pk_body)))))))))))) (by kernel_rfl) rfl (by kernel_rfl) (by kernel_rfl) rfl (.inl fun _ _ => trivial) ⟨(hS125.hasK (KLe.refl _)), (fun _ => hS125.hasObj (.head _)), by decide⟩ wn rfl (fun _ _ => (rv_move rfl)) ?_
            refine wg_val (i := 1) (listed' := #[true, true, false, false, false, false, false, false, false, false, false, false, false, false, false, false, false, false, false, false, false]) (fun _ => True) rfl (by kernel_rfl) (pk_block (pk_then (pk_then (pk_block (pk_then (pk_then (pk_block (pk_then (pk_then (pk_block (pk_then (pk_then pk_body)))))))))))) (by kernel_rfl) rfl (by kernel_rfl) (by kernel_rfl) rfl (.inl fun _ _ => trivial) ⟨(hS125.hasK (KLe.refl _)), (fun _ => hS125.hasObj (.head _)), by decide⟩ wn rfl (fun _ _ => (rv_move rfl)) ?_
            refine wg_val (i := 2) (listed' := #[true, true, true, false, false, false, false, false, false, false, false, false, false, false, false, false, false, false, false, false, false]) (fun _ => True) rfl (by kernel_rfl) (pk_block (pk_then (pk_then (pk_block (pk_then (pk_then (pk_block (pk_then (pk_then (pk_block (pk_then (pk_then pk_body)))))))))))) (by kernel_rfl) rfl (by kernel_rfl) (by kernel_rfl) rfl (.inl fun _ _ => trivial) ⟨(hS125.hasK (KLe.refl _)), (fun _ => hS125.hasObj (.head _)), by decide⟩ wn rfl (fun _ _ => (rv_move rfl)) ?_
            refine wg_val (i := 3) (listed' := #[true, true, true, true, false, false, false, false, false, false, false, false, false, false, false, false, false, false, false, false, false]) (fun _ => True) rfl (by kernel_rfl) (pk_block (pk_then (pk_then (pk_block (pk_then (pk_then (pk_block (pk_then (pk_then (pk_block (pk_then (pk_then pk_body)))))))))))) (by kernel_rfl) rfl (by kernel_rfl) (by kernel_rfl) rfl (.inl fun _ _ => trivial) ⟨(hS125.hasK (KLe.refl _)), (fun _ => hS125.hasObj (.head _)), by decide⟩ wn rfl (fun _ _ => (rv_move rfl)) ?_
            obtain ⟨x126, hx127, h128⟩ := Option.bind_eq_some_iff.1 h123
            obtain ⟨u129, hu130, hk131⟩ := RowAt.at hrow103 hx127
            obtain ⟨rfl, hr133⟩ := hu130
            have hk132 : ∀ (j : Nat) (d : Value), [.int .i64 x126][j]? = some d → cs102[s27.1.toNat * tInt.size + j]? = some d := hk131
            refine wg_val (i := 4) (listed' := #[true, true, true, true, true, false, false, false, false, false, false, false, false, false, false, false, false, false, false, false, false]) (fun _ => True) rfl (by kernel_rfl) (pk_block (pk_then (pk_then (pk_block (pk_then (pk_then (pk_block (pk_then (pk_then (pk_block (pk_then (pk_then pk_body)))))))))))) (by kernel_rfl) rfl (by kernel_rfl) (by kernel_rfl) rfl (.inl fun _ _ => trivial) ⟨(hS125.hasK (KLe.refl _)), (fun _ => hS125.hasObj (.head _)), by decide⟩ wn rfl (fun _ _ => (rv_indexRow (t := tInt) Try.underlying100 tf3 rfl rfl hm104 hx127)) ?_
            refine wg_val (i := 5) (listed' := #[true, true, true, true, true, true, false, false, false, false, false, false, false, false, false, false, false, false, false, false, false]) (HasObj g8 cs102) rfl (by kernel_rfl) (pk_block (pk_then (pk_then (pk_block (pk_then (pk_then (pk_block (pk_then (pk_then (pk_block (pk_then (pk_then pk_body)))))))))))) (by kernel_rfl) rfl (by kernel_rfl) (by kernel_rfl) rfl (.inr ⟨rfl, fun _ _ h => h⟩) ⟨(hS125.hasK (KLe.refl _)), (fun _ => hS125.hasObj (.head _)), by decide⟩ wn rfl (fun _ h => (rh_loadR1 tf3 rfl rfl (hk132 0 _ rfl) h)) ?_
            refine wg_val (i := 6) (listed' := #[true, true, true, true, true, true, true, false, false, false, false, false, false, false, false, false, false, false, false, false, false]) (fun _ => True) rfl (by kernel_rfl) (pk_block (pk_then (pk_then (pk_block (pk_then (pk_then (pk_block (pk_then (pk_then (pk_block (pk_then (pk_then pk_body)))))))))))) (by kernel_rfl) rfl (by kernel_rfl) (by kernel_rfl) rfl (.inl fun _ _ => trivial) ⟨(hS125.hasK (KLe.refl _)), (fun _ => hS125.hasObj (.head _)), by decide⟩ wn rfl (fun _ _ => (rv_move rfl)) ?_
            refine wg_val (i := 7) (listed' := #[true, true, true, true, true, true, true, true, false, false, false, false, false, false, false, false, false, false, false, false, false]) (fun _ => True) rfl (by kernel_rfl) (pk_block (pk_then (pk_then (pk_block (pk_then (pk_then (pk_block (pk_then (pk_then (pk_block (pk_then (pk_then pk_body)))))))))))) (by kernel_rfl) rfl (by kernel_rfl) (by kernel_rfl) rfl (.inl fun _ _ => trivial) ⟨(hS125.hasK (KLe.refl _)), (fun _ => hS125.hasObj (.head _)), by decide⟩ wn rfl (fun _ _ => (rv_move rfl)) ?_
            refine wg_val (i := 8) (listed' := #[true, true, true, true, true, true, true, true, true, false, false, false, false, false, false, false, false, false, false, false, false]) (fun _ => True) rfl (by kernel_rfl) (pk_block (pk_then (pk_then (pk_block (pk_then (pk_then (pk_block (pk_then (pk_then (pk_block (pk_then (pk_then pk_body)))))))))))) (by kernel_rfl) rfl (by kernel_rfl) (by kernel_rfl) rfl (.inl fun _ _ => trivial) ⟨(hS125.hasK (KLe.refl _)), (fun _ => hS125.hasObj (.head _)), by decide⟩ wn rfl (fun _ _ => (rv_move rfl)) ?_
            obtain ⟨x134, hx135, h136⟩ := Option.bind_eq_some_iff.1 h128
            refine wg_indexAddr (t := tGState) (j := 9) (listed' := #[true, true, true, true, true, true, true, true, true, true, false, false, false, false, false, false, false, false, false, false, false]) rfl (by kernel_rfl) (pk_block (pk_then (pk_then (pk_block (pk_then (pk_then (pk_block (pk_then (pk_then (pk_block (pk_then (pk_then pk_body)))))))))))) (by kernel_rfl) rfl (by kernel_rfl) (by kernel_rfl) rfl ⟨(hS125.hasK (KLe.refl _)), (fun _ => hS125.hasObj (.head _)), by decide⟩ wn rfl Try.underlying28 tf33 rfl rfl (SliceAt.mono ((hl32.trans hl62).trans hl98) hs4) hx135 ?_
            intro b137 o138 u139 hu140 ha141
            obtain ⟨a143, n144, c145, rfl, hr142, hs146⟩ := hu140
            have ha147 : AtK _ b137 o138 [.bool x134.Final, .int .i64 x134.Many, .slice a143 n144 c145] := ha141
            refine wg_val (i := 10) (listed' := #[true, true, true, true, true, true, true, true, true, true, true, false, false, false, false, false, false, false, false, false, false]) (fun _ => True) rfl (by kernel_rfl) (pk_block (pk_then (pk_then (pk_block (pk_then (pk_then (pk_block (pk_then (pk_then (pk_block (pk_then (pk_then pk_body)))))))))))) (by kernel_rfl) rfl (by kernel_rfl) (by kernel_rfl) rfl (.inl fun _ _ => trivial) ⟨(hS125.hasK (KLe.refl _)), (fun _ => hS125.hasObj (.head _)), by decide⟩ wn rfl (fun _ _ => (rv_fieldAddr ff33_2 rfl)) ?_
            refine wg_val (i := 11) (listed' := #[true, true, true, true, true, true, true, true, true, true, true, true, false, false, false, false, false, false, false, false, false]) (Holds K97) rfl (by kernel_rfl) (pk_block (pk_then (pk_then (pk_block (pk_then (pk_then (pk_block (pk_then (pk_then (pk_block (pk_then (pk_then pk_body)))))))))))) (by kernel_rfl) rfl (by kernel_rfl) (by kernel_rfl) rfl (.inl fun _ h => h) ⟨(hS125.hasK (KLe.refl _)), (fun _ => hS125.hasObj (.head _)), by decide⟩ wn rfl (fun _ h => rh_load1 tf31 rfl (ha147 2 _ rfl) h) ?_
            refine wg_val (i := 12) (listed' := #[true, true, true, true, true, true, true, true, true, true, true, true, true, false, false, false, false, false, false, false, false]) (fun _ => True) rfl (by kernel_rfl) (pk_block (pk_then (pk_then (pk_block (pk_then (pk_then (pk_block (pk_then (pk_then (pk_block (pk_then (pk_then pk_body)))))))))))) (by kernel_rfl) rfl (by kernel_rfl) (by kernel_rfl) rfl (.inl fun _ _ => trivial) ⟨(hS125.hasK (KLe.refl _)), (fun _ => hS125.hasObj (.head _)), by decide⟩ wn rfl (fun _ _ => (rv_move rfl)) ?_
            obtain ⟨x148, hx149, h150⟩ := Option.bind_eq_some_iff.1 h136
            refine wg_indexAddr (t := tGArc) (j := 13) (listed' := #[true, true, true, true, true, true, true, true, true, true, true, true, true, true, false, false, false, false, false, false, false]) rfl (by kernel_rfl) (pk_block (pk_then (pk_then (pk_block (pk_then (pk_then (pk_block (pk_then (pk_then (pk_block (pk_then (pk_then pk_body)))))))))))) (by kernel_rfl) rfl (by kernel_rfl) (by kernel_rfl) rfl ⟨(hS125.hasK (KLe.refl _)), (fun _ => hS125.hasObj (.head _)), by decide⟩ wn rfl Try.underlying31 tf35 rfl rfl hs146 hx149 ?_
            intro b151 o152 u153 hu154 ha155
            obtain ⟨rfl, hr156⟩ := hu154
            have ha157 : AtK _ b151 o152 [iv8 x148.Byte, .int .i64 x148.To] := ha155
            refine wg_val (i := 14) (listed' := #[true, true, true, true, true, true, true, true, true, true, true, true, true, true, true, false, false, false, false, false, false]) (fun _ => True) rfl (by kernel_rfl) (pk_block (pk_then (pk_then (pk_block (pk_then (pk_then (pk_block (pk_then (pk_then (pk_block (pk_then (pk_then pk_body)))))))))))) (by kernel_rfl) rfl (by kernel_rfl) (by kernel_rfl) rfl (.inl fun _ _ => trivial) ⟨(hS125.hasK (KLe.refl _)), (fun _ => hS125.hasObj (.head _)), by decide⟩ wn rfl (fun _ _ => (rv_fieldAddr ff35_1 rfl)) ?_
            refine wg_val (i := 15) (listed' := #[true, true, true, true, true, true, true, true, true, true, true, true, true, true, true, true, false, false, false, false, false]) (Holds K97) rfl (by kernel_rfl) (pk_block (pk_then (pk_then (pk_block (pk_then (pk_then (pk_block (pk_then (pk_then (pk_block (pk_then (pk_then pk_body)))))))))))) (by kernel_rfl) rfl (by kernel_rfl) (by kernel_rfl) rfl (.inl fun _ h => h) ⟨(hS125.hasK (KLe.refl _)), (fun _ => hS125.hasObj (.head _)), by decide⟩ wn rfl (fun _ h => rh_load1 tf3 rfl (ha157 1 _ rfl) h) ?_
            obtain ⟨x158, hx159, h160⟩ := Option.bind_eq_some_iff.1 h150
            obtain ⟨u161, hu162, hk163⟩ := RowAt.at hrow103 hx159
            obtain ⟨rfl, hr165⟩ := hu162
            have hk164 : ∀ (j : Nat) (d : Value), [.int .i64 x158][j]? = some d → cs102[x148.To.toNat * tInt.size + j]? = some d := hk163
            refine wg_val (i := 16) (listed' := #[true, true, true, true, true, true, true, true, true, true, true, true, true, true, true, true, true, false, false, false, false]) (fun _ => True) rfl (by kernel_rfl) (pk_block (pk_then (pk_then (pk_block (pk_then (pk_then (pk_block (pk_then (pk_then (pk_block (pk_then (pk_then pk_body)))))))))))) (by kernel_rfl) rfl (by kernel_rfl) (by kernel_rfl) rfl (.inl fun _ _ => trivial) ⟨(hS125.hasK (KLe.refl _)), (fun _ => hS125.hasObj (.head _)), by decide⟩ wn rfl (fun _ _ => (rv_indexRow (t := tInt) Try.underlying100 tf3 rfl rfl hm104 hx159)) ?_
            refine wg_val (i := 17) (listed' := #[true, true, true, true, true, true, true, true, true, true, true, true, true, true, true, true, true, true, false, false, false]) (HasObj g8 cs102) rfl (by kernel_rfl) (pk_block (pk_then (pk_then (pk_block (pk_then (pk_then (pk_block (pk_then (pk_then (pk_block (pk_then (pk_then pk_body)))))))))))) (by kernel_rfl) rfl (by kernel_rfl) (by kernel_rfl) rfl (.inr ⟨rfl, fun _ _ h => h⟩) ⟨(hS125.hasK (KLe.refl _)), (fun _ => hS125.hasObj (.head _)), by decide⟩ wn rfl (fun _ h => (rh_loadR1 tf3 rfl rfl (hk164 0 _ rfl) h)) ?_
            refine wg_val (i := 18) (listed' := #[true, true, true, true, true, true, true, true, true, true, true, true, true, true, true, true, true, true, true, false, false]) (fun _ => True) rfl (by kernel_rfl) (pk_block (pk_then (pk_then (pk_block (pk_then (pk_then (pk_block (pk_then (pk_then (pk_block (pk_then (pk_then pk_body)))))))))))) (by kernel_rfl) rfl (by kernel_rfl) (by kernel_rfl) rfl (.inl fun _ _ => trivial) ⟨(hS125.hasK (KLe.refl _)), (fun _ => hS125.hasObj (.head _)), by decide⟩ wn rfl (fun _ _ => (rv_add rfl rfl)) ?_
            obtain ⟨x166, hx167, h168⟩ := Option.bind_eq_some_iff.1 h160
            obtain ⟨u169, hu170, hk171⟩ := RowAt.at hrow103 hx167
            obtain ⟨rfl, hr173⟩ := hu170
            have hk172 : ∀ (j : Nat) (d : Value), [.int .i64 x166][j]? = some d → cs102[s27.1.toNat * tInt.size + j]? = some d := hk171
            refine wg_val (i := 19) (listed' := #[true, true, true, true, true, true, true, true, true, true, true, true, true, true, true, true, true, true, true, true, false]) (fun _ => True) rfl (by kernel_rfl) (pk_block (pk_then (pk_then (pk_block (pk_then (pk_then (pk_block (pk_then (pk_then (pk_block (pk_then (pk_then pk_body)))))))))))) (by kernel_rfl) rfl (by kernel_rfl) (by kernel_rfl) rfl (.inl fun _ _ => trivial) ⟨(hS125.hasK (KLe.refl _)), (fun _ => hS125.hasObj (.head _)), by decide⟩ wn rfl (fun _ _ => (rv_indexRow (t := tInt) Try.underlying100 tf3 rfl rfl hm104 hx167)) ?_
            refine wg_one (i := 20) (by kernel_rfl) rfl ?_
            refine wl_storeRow (t := tInt) (v := .int .i64 (w64 (x126 + x158))) (e := (w64 (x126 + x158))) wn tf3 rfl rfl ⟨rfl, (w64_rng _)⟩ hS125 hrow103 hx167 ?_
            intro cs174 w175 hrow176 hS177
            have hm178 := hm104.trans (List.length_set (i := s27.1.toNat) (a := (w64 (x126 + x158)))).symm
            refine wl_nil (qe_held (listed' := #[true, true, true, true, true, true, true, true, true, true, true, true, true, true, true, true, true, true, true, true, true]) rfl ⟨(hS177.hasK (KLe.refl _)), (fun h => by cases h), by decide⟩ ?_)
            refine wg_done (by kernel_rfl) ?_
            refine qe_block ?_
            refine qe_seq ?_
            refine wc_region ?_
            refine wl_val wn rfl (rv_move rfl) ?_
            refine wl_val wn rfl (rv_add rfl rfl) ?_
            refine wl_val wn rfl (rv_assign rfl) ?_
            refine wl_nil ?_
            obtain rfl := Option.some.inj h168
            exact qe_mid' ⟨_, rfl, cs174, K97, rfl, hS177, hl98, (w64_rng _), hrow176, hm178⟩ ⟨rfl, rfl, rfl, rfl, trivial⟩
          · have h123 := cond_f hb122 h110
            refine wc_exit ?_
            refine qe_then_exit ?_
            refine qe_then_exit ?_
            obtain rfl := Option.some.inj h123
            have e179 := hx107 _ rfl
            subst e179
            refine qe_block_eq ?_
            obtain rfl := Option.some.inj h96
            exact qe_mid' ⟨cs102, K97, rfl, hS100, hl98, hrow103, hm104⟩ ⟨rfl, rfl, rfl, trivial⟩
        · rintro _ w88 ⟨cs90, K86, rfl, hS89, hl87, hrow91, hm92⟩
          refine qe_seq ?_
          refine wc_seq ?_
          obtain ⟨o180, h181, h182⟩ := Option.bind_eq_some_iff.1 h85
          refine wc_cutg (fun E' w' => ∃ (K183 : KMap), E' = [(0, .slice a1 n2 c3), (3, .slice (some ⟨g8, 0, none⟩) m14 m14), (4, .int .i64 s27.1), (69, .bool o180)] ∧ SH w K [] w' K183 [obj g8 cs90 3] ∧ KLe K86 K183) ?_ ?_
          · refine wc_region ?_
            refine wl_val wn rfl (rv_move rfl) ?_
            refine wl_val wn rfl (rv_move rfl) ?_
            obtain ⟨x187, hx188, h189⟩ := Option.bind_eq_some_iff.1 h181
            obtain ⟨u190, hu191, hk192⟩ := RowAt.at hrow91 hx188
            obtain ⟨rfl, hr194⟩ := hu191
            have hk193 : ∀ (j : Nat) (d : Value), [.int .i64 x187][j]? = some d → cs90[s27.1.toNat * tInt.size + j]? = some d := hk192
            refine wl_val wn rfl (rv_indexRow (t := tInt) Try.underlying100 tf3 rfl rfl hm92 hx188) ?_
            refine wl_val wn rfl (rh_loadR1 tf3 rfl rfl (hk193 0 _ rfl) (hS89.hasObj (.head _))) ?_
            refine wl_val wn rfl (rv_gtr rfl rfl) ?_
            refine wl_val wn rfl (rv_move rfl) ?_
            rcases bool_tf (decide ((40 : Int) < x187)) with hb195 | hb195
            · have h196 := cond_t hb195 h189
              refine wl_un (ug rfl rfl hb195) rfl ?_
              refine wl_un (ug rfl rfl hb195) rfl ?_
              refine wl_un (ug rfl rfl hb195) rfl ?_
              refine wl_un (ug rfl rfl hb195) rfl ?_
              refine wl_un (ug rfl rfl hb195) rfl ?_
              refine wl_un (ug rfl rfl hb195) rfl ?_
              refine wl_un (uu rfl rfl) rfl ?_
              refine wl_un (uu rfl rfl) rfl ?_
              refine wl_un (uu rfl rfl) rfl ?_
              refine wl_un (ug rfl rfl hb195) rfl ?_
              refine wl_val wn rfl (rv_pick_t (v := .bool true) rfl hb195 rfl) ?_
              refine wl_nil ?_
              obtain rfl := Option.some.inj h196
              exact qe_mid' ⟨K86, rfl, hS89, (KLe.refl _)⟩ ⟨rfl, rfl, rfl, rfl, trivial⟩
            · have h196 := cond_f hb195 h189
              refine wl_val (wg rfl rfl hb195) rfl (rv_move rfl) ?_
              refine wl_val (wg rfl rfl hb195) rfl (rv_move rfl) ?_
              obtain ⟨x197, hx198, h199⟩ := Option.bind_eq_some_iff.1 h196
              obtain ⟨u200, hu201, hk202⟩ := RowAt.at hrow91 hx198
              obtain ⟨rfl, hr204⟩ := hu201
              have hk203 : ∀ (j : Nat) (d : Value), [.int .i64 x197][j]? = some d → cs90[s27.1.toNat * tInt.size + j]? = some d := hk202
              refine wl_val (wg rfl rfl hb195) rfl (rv_indexRow (t := tInt) Try.underlying100 tf3 rfl rfl hm92 hx198) ?_
              refine wl_val (wg rfl rfl hb195) rfl (rh_loadR1 tf3 rfl rfl (hk203 0 _ rfl) (hS89.hasObj (.head _))) ?_
              refine wl_val (wg rfl rfl hb195) rfl (rv_eql rfl rfl) ?_
              refine wl_val (wg rfl rfl hb195) rfl (rv_move rfl) ?_
              rcases bool_tf ((x197 == (0 : Int))) with hb205 | hb205
              · have h206 := cond_t hb205 h199
                refine wl_val (wg rfl rfl hb205) rfl (rv_move rfl) ?_
                refine wl_val (wg rfl rfl hb205) rfl (rv_len (t := tGState) Try.underlying28 rfl (SliceAt.mono ((hl32.trans hl62).trans hl87) hs4)) ?_
                refine wl_val (wg rfl rfl hb205) rfl (rv_gtr rfl rfl) ?_
                refine wl_val (wg rfl rfl hb195) rfl (rv_pick_t rfl hb205 rfl) ?_
                refine wl_val wn rfl (rv_pick_f rfl hb195 rfl) ?_
                refine wl_nil ?_
                obtain rfl := Option.some.inj h206
                exact qe_mid' ⟨K86, rfl, hS89, (KLe.refl _)⟩ ⟨rfl, rfl, rfl, rfl, trivial⟩
              · have h206 := cond_f hb205 h199
                refine wl_un (ug rfl rfl hb205) rfl ?_
                refine wl_un (ug rfl rfl hb205) rfl ?_
                refine wl_un (ug rfl rfl hb205) rfl ?_
                refine wl_val (wg rfl rfl hb195) rfl (rv_pick_f (v := .bool false) rfl hb205 rfl) ?_
                refine wl_val wn rfl (rv_pick_f rfl hb195 rfl) ?_
                refine wl_nil ?_
                obtain rfl := Option.some.inj h206
                exact qe_mid' ⟨K86, rfl, hS89, (KLe.refl _)⟩ ⟨rfl, rfl, rfl, rfl, trivial⟩
          · rintro _ w185 ⟨K183, rfl, hS186, hl184⟩
            refine qe_seq ?_
            refine wc_cond rfl (fun hb207 => ?_) (fun hb207 => ?_)
            · have h208 := cond_t hb207 h182
              refine wc_seq ?_
              refine wc_region ?_
              refine wl_val wn rfl (rv_assign (v := .int .i64 41) rfl) ?_
              refine wl_nil ?_
              refine qe_seq ?_
              refine wc_ret ?_
              refine qe_block_ret ?_
              refine qe_then_ret ?_
              refine qe_then_ret ?_
              obtain rfl := Option.some.inj h208
              have e209 := hx41 _ rfl
              subst e209
              refine qe_block_ret ?_
              refine qe_then_ret ?_
              obtain rfl := Option.some.inj h30
              refine qe_then_ret ?_
              obtain rfl := Option.some.inj h18
              have hS210 : SH _ _ _ _ _ [] := SH.sublist hS186 (.cons _ .slnil)
              exact qe_ret (vs := [_]) Try.results94 ⟨rfl, trivial⟩ ⟨K183, rfl, hS210, (by decide : rng64 41)⟩
            · have h208 := cond_f hb207 h182
              refine wc_skip ?_
              refine qe_block ?_
              refine qe_seq ?_
              refine wc_region ?_
              refine wl_val wn rfl (rv_move rfl) ?_
              refine wl_val wn rfl (rv_add rfl rfl) ?_
              refine wl_val wn rfl (rv_assign rfl) ?_
              refine wl_nil ?_
              obtain rfl := Option.some.inj h208
              exact qe_mid' ⟨_, rfl, cs90, K183, rfl, hS186, (((hl32.trans hl62).trans hl87).trans hl184), (w64_rng _), (RowAt.mono hl184 hrow91), hm92⟩ ⟨rfl, rfl, rfl, trivial⟩
    · have h43 := cond_f hb42 h40
      refine wc_exit ?_
      refine qe_then_exit ?_
      refine qe_then_exit ?_
      obtain rfl := Option.some.inj h43
      have e211 := hx41 _ rfl
      subst e211
      refine qe_block_eq ?_
      obtain rfl := Option.some.inj h30
      exact qe_mid' ⟨_, cs36, K31, rfl, rfl, hS34, hl32, hrow37, hm38⟩ ⟨rfl, rfl, trivial⟩
  · rintro _ w22 ⟨s19, cs24, K20, rfl, rfl, hS23, hl21, hrow25, hm26⟩
    refine qe_seq ?_
    refine wc_seq ?_
    refine wc_region ?_
    refine wl_val wn rfl (rv_move rfl) ?_
    refine wl_val wn rfl (rv_move rfl) ?_
    refine wl_val wn rfl (rv_len (t := tGState) Try.underlying28 rfl (SliceAt.mono hl21 hs4)) ?_
    refine wl_val wn rfl (rv_sub rfl rfl) ?_
    obtain ⟨x214, hx215, h216⟩ := Option.bind_eq_some_iff.1 h18
    obtain ⟨u217, hu218, hk219⟩ := RowAt.at hrow25 hx215
    obtain ⟨rfl, hr221⟩ := hu218
    have hk220 : ∀ (j : Nat) (d : Value), [.int .i64 x214][j]? = some d → cs24[(w64 ((p0_d.length : Int) - (1 : Int))).toNat * tInt.size + j]? = some d := hk219
    refine wl_val wn rfl (rv_indexRow (t := tInt) Try.underlying100 tf3 rfl rfl hm26 hx215) ?_
    refine wl_val wn rfl (rh_loadR1 tf3 rfl rfl (hk220 0 _ rfl) (hS23.hasObj (.head _))) ?_
    refine wl_val wn rfl (rv_assign rfl) ?_
    refine wl_nil ?_
    refine qe_seq ?_
    refine wc_ret ?_
    obtain rfl := Option.some.inj h216
    have hS222 : SH _ _ _ _ _ [] := SH.sublist hS23 (.cons _ .slnil)
    exact qe_ret (vs := [_]) Try.results94 ⟨rfl, trivial⟩ ⟨K20, rfl, hS222, hr221⟩

set_option maxHeartbeats 2000000 in
theorem ok_spec_l4Shape (F : Nat) {w : World} {K : KMap} {a1 : Option Addr} {n2 c3 : Nat} {p0_d : List GState} {r : Bool} (hS : SH w K [] w K []) (hs4 : SliceAt tGState K a1 n2 c3 p0_d) (hm : M.spec_l4Shape F p0_d = some r) :
    Calls Try.prog 85 #[.slice a1 n2 c3] w fun e w' => ∃ (K' : KMap), e = .returned (.bool r) ∧ SH w K [] w' K' [] := by
  rw [M.spec_l4Shape] at hm
  refine calls_in Try.func85 rfl Try.ntmps85 rfl ?_
  refine wc_seq ?_
  refine wc_region ?_
  refine wl_val wn rfl (rv_assign (v := .bool false) rfl) ?_
  refine wl_nil ?_
  refine qe_seq ?_
  refine wc_seq ?_
  refine wc_seq ?_
  refine wc_region ?_
  refine wl_val wn rfl (rv_assign (v := .int .i64 0) rfl) ?_
  refine wl_nil ?_
  refine qe_seq ?_
  obtain ⟨o5, h6, h7⟩ := Option.bind_eq_some_iff.1 hm
  refine wc_cutg (fun E' w' => ∃ (s8 : Unit) (K9 : KMap), o5 = .inl s8 ∧ E' = [(0, .slice a1 n2 c3)] ∧ SH w K [] w' K9 [] ∧ KLe K K9) ?_ ?_
  · refine wc_block ?_
    obtain ⟨r14, h15, h16⟩ := Option.bind_eq_some_iff.1 h6
    refine wc_while' (fun (s13 : Int) E' w' => ∃ (K17 : KMap), E' = [(0, .slice a1 n2 c3), (3, .int .i64 s13)] ∧ SH w K [] w' K17 [] ∧ KLe K K17 ∧ rng64 s13) h15 ⟨K, rfl, hS, (KLe.refl _), (by decide : rng64 0)⟩ ⟨rfl, rfl, trivial⟩ ?_
    rintro s13 _ w19 r22 h23 hx24 ⟨K17, rfl, hS20, hl18, hr21⟩
    refine wc_seq ?_
    refine wc_seq ?_
    refine wc_region ?_
    refine wl_val wn rfl (rv_move rfl) ?_
    refine wl_val wn rfl (rv_move rfl) ?_
    refine wl_val wn rfl (rv_len (t := tGState) Try.underlying28 rfl (SliceAt.mono hl18 hs4)) ?_
    refine wl_val wn rfl (rv_lss rfl rfl) ?_
    refine wl_nil ?_
    refine qe_seq ?_
    refine wc_cond rfl (fun hb25 => ?_) (fun hb25 => ?_)
    · have h26 := cond_t hb25 h23
      refine wc_skip ?_
      refine qe_seq ?_
      refine wc_seq ?_
      refine wc_block ?_
      refine wc_seq ?_
      refine wc_seq ?_
      refine wc_region ?_
      refine wl_val wn rfl (rv_assign (v := .int .i64 0) rfl) ?_
      refine wl_nil ?_
      refine qe_seq ?_
      obtain ⟨o27, h28, h29⟩ := Option.bind_eq_some_iff.1 h26
      refine wc_cutg (fun E' w' => ∃ (s30 : Unit) (K31 : KMap), o27 = .inl s30 ∧ E' = [(0, .slice a1 n2 c3), (3, .int .i64 s13)] ∧ SH w K [] w' K31 [] ∧ KLe K17 K31) ?_ ?_
      · refine wc_block ?_
        obtain ⟨r36, h37, h38⟩ := Option.bind_eq_some_iff.1 h28
        refine wc_while' (fun (s35 : Int) E' w' => ∃ (K39 : KMap), E' = [(0, .slice a1 n2 c3), (3, .int .i64 s13), (4, .int .i64 s35)] ∧ SH w K [] w' K39 [] ∧ KLe K17 K39 ∧ rng64 s35) h37 ⟨K17, rfl, hS20, (KLe.refl _), (by decide : rng64 0)⟩ ⟨rfl, rfl, rfl, trivial⟩ ?_
        rintro s35 _ w41 r44 h45 hx46 ⟨K39, rfl, hS42, hl40, hr43⟩
        refine wc_seq ?_
        refine wc_seq ?_
        refine wc_region ?_
        refine wl_val wn rfl (rv_move rfl) ?_
        refine wl_val wn rfl (rv_move rfl) ?_
        refine wl_val wn rfl (rv_move rfl) ?_
        obtain ⟨x47, hx48, h49⟩ := Option.bind_eq_some_iff.1 h45
        refine wl_indexAddr (t := tGState) wn rfl Try.underlying28 tf33 rfl rfl (SliceAt.mono (hl18.trans hl40) hs4) hx48 ?_
        intro b50 o51 u52 hu53 ha54
        obtain ⟨a56, n57, c58, rfl, hr55, hs59⟩ := hu53
        have ha60 : AtK _ b50 o51 [.bool x47.Final, .int .i64 x47.Many, .slice a56 n57 c58] := ha54
        refine wl_val wn rfl (rv_fieldAddr ff33_2 rfl) ?_
        refine wl_val wn rfl (rv_load1 tf31 rfl hS42 (ha60 2 _ rfl)) ?_
        refine wl_val wn rfl (rv_len (t := tGArc) Try.underlying31 rfl hs59) ?_
        refine wl_val wn rfl (rv_lss rfl rfl) ?_
        refine wl_nil ?_
        refine qe_seq ?_
        refine wc_cond rfl (fun hb61 => ?_) (fun hb61 => ?_)
        · have h62 := cond_t hb61 h49
          refine wc_skip ?_
          refine qe_seq ?_
          refine wc_seq ?_
          refine wc_block ?_
          refine wc_seq ?_
          refine wc_region ?_
          refine wl_val wn rfl (rv_move rfl) ?_
          refine wl_val wn rfl (rv_move rfl) ?_
          obtain ⟨x63, hx64, h65⟩ := Option.bind_eq_some_iff.1 h62
          refine wl_indexAddr (t := tGState) wn rfl Try.underlying28 tf33 rfl rfl (SliceAt.mono (hl18.trans hl40) hs4) hx64 ?_
          intro b66 o67 u68 hu69 ha70
          obtain ⟨a72, n73, c74, rfl, hr71, hs75⟩ := hu69
          have ha76 : AtK _ b66 o67 [.bool x63.Final, .int .i64 x63.Many, .slice a72 n73 c74] := ha70
          refine wl_val wn rfl (rv_fieldAddr ff33_2 rfl) ?_
          refine wl_val wn rfl (rv_load1 tf31 rfl hS42 (ha76 2 _ rfl)) ?_
          refine wl_val wn rfl (rv_move rfl) ?_
          obtain ⟨x77, hx78, h79⟩ := Option.bind_eq_some_iff.1 h65
          refine wl_indexAddr (t := tGArc) wn rfl Try.underlying31 tf35 rfl rfl hs75 hx78 ?_
          intro b80 o81 u82 hu83 ha84
          obtain ⟨rfl, hr85⟩ := hu83
          have ha86 : AtK _ b80 o81 [iv8 x77.Byte, .int .i64 x77.To] := ha84
          refine wl_val wn rfl (rv_fieldAddr ff35_1 rfl) ?_
          refine wl_val wn rfl (rv_load1 tf3 rfl hS42 (ha86 1 _ rfl)) ?_
          refine wl_val wn rfl (rv_move rfl) ?_
          refine wl_val wn rfl (rv_sub rfl rfl) ?_
          obtain ⟨r87, hx88, h89⟩ := Option.bind_eq_some_iff.1 h79
          refine wl_call wn rfl (rt_call (vs := [.int .i64 x77.To, .int .i64 0, .int .i64 (w64 (s13 - (1 : Int)))]) co69 rfl) ((ok_spec_l1In F) hS42.enter0 hr85 (by decide : rng64 0) (w64_rng _) hx88) ?_
          rintro e93 w91 ⟨K90, rfl, hS92⟩
          refine ⟨_, rfl, ?_⟩
          have hS94 : SH _ _ _ _ _ [] := SH.call0 hS42 hS92
          refine wl_val wn rfl (rv_not rfl) ?_
          refine wl_nil ?_
          refine qe_seq ?_
          refine wc_cond rfl (fun hb95 => ?_) (fun hb95 => ?_)
          · have h96 := cond_t hb95 h89
            refine wc_seq ?_
            refine wc_region ?_
            refine wl_val wn rfl (rv_assign (v := .bool false) rfl) ?_
            refine wl_nil ?_
            refine qe_seq ?_
            refine wc_ret ?_
            refine qe_block_ret ?_
            refine qe_then_ret ?_
            refine qe_then_ret ?_
            obtain rfl := Option.some.inj h96
            have e97 := hx46 _ rfl
            subst e97
            refine qe_block_ret ?_
            refine qe_then_ret ?_
            obtain rfl := Option.some.inj h38
            refine qe_then_ret ?_
            refine qe_block_ret ?_
            refine qe_then_ret ?_
            refine qe_then_ret ?_
            obtain rfl := Option.some.inj h29
            have e98 := hx24 _ rfl
            subst e98
            refine qe_block_ret ?_
            refine qe_then_ret ?_
            obtain rfl := Option.some.inj h16
            refine qe_then_ret ?_
            obtain rfl := Option.some.inj h7
            exact qe_ret (vs := [_]) Try.results85 ⟨rfl, trivial⟩ ⟨K90, rfl, hS94⟩
          · have h96 := cond_f hb95 h89
            refine wc_skip ?_
            refine qe_block ?_
            refine qe_seq ?_
            refine wc_region ?_
            refine wl_val wn rfl (rv_move rfl) ?_
            refine wl_val wn rfl (rv_add rfl rfl) ?_
            refine wl_val wn rfl (rv_assign rfl) ?_
            refine wl_nil ?_
            obtain rfl := Option.some.inj h96
            exact qe_mid' ⟨_, rfl, K90, rfl, hS94, (hl40.trans hS92.le), (w64_rng _)⟩ ⟨rfl, rfl, rfl, trivial⟩
        · have h62 := cond_f hb61 h49
          refine wc_exit ?_
          refine qe_then_exit ?_
          refine qe_then_exit ?_
          obtain rfl := Option.some.inj h62
          have e99 := hx46 _ rfl
          subst e99
          refine qe_block_eq ?_
          obtain rfl := Option.some.inj h38
          exact qe_mid' ⟨_, K39, rfl, rfl, hS42, hl40⟩ ⟨rfl, rfl, trivial⟩
      · rintro _ w33 ⟨s30, K31, rfl, rfl, hS34, hl32⟩
        refine qe_seq ?_
        refine wc_seq ?_
        obtain ⟨o102, h103, h104⟩ := Option.bind_eq_some_iff.1 h29
        refine wc_cutg (fun E' w' => ∃ (K105 : KMap), E' = [(0, .slice a1 n2 c3), (3, .int .i64 s13), (49, .bool o102)] ∧ SH w K [] w' K105 [] ∧ KLe K31 K105) ?_ ?_
        · refine wc_region ?_
          refine wl_val wn rfl (rv_move rfl) ?_
          refine wl_val wn rfl (rv_move rfl) ?_
          obtain ⟨x109, hx110, h111⟩ := Option.bind_eq_some_iff.1 h103
          refine wl_indexAddr (t := tGState) wn rfl Try.underlying28 tf33 rfl rfl (SliceAt.mono (hl18.trans hl32) hs4) hx110 ?_
          intro b112 o113 u114 hu115 ha116
          obtain ⟨a118, n119, c120, rfl, hr117, hs121⟩ := hu115
          have ha122 : AtK _ b112 o113 [.bool x109.Final, .int .i64 x109.Many, .slice a118 n119 c120] := ha116
          refine wl_val wn rfl (rv_fieldAddr ff33_1 rfl) ?_
          refine wl_val wn rfl (rv_load1 tf3 rfl hS34 (ha122 1 _ rfl)) ?_
          obtain ⟨r123, hx124, h125⟩ := Option.bind_eq_some_iff.1 h111
          refine wl_call wn rfl (rt_call (vs := [.int .i64 x109.Many, .int .i64 0, .int .i64 40]) co69 rfl) ((ok_spec_l1In F) hS34.enter0 hr117 (by decide : rng64 0) (by decide : rng64 40) hx124) ?_
          rintro e129 w127 ⟨K126, rfl, hS128⟩
          refine ⟨_, rfl, ?_⟩
          have hS130 : SH _ _ _ _ _ [] := SH.call0 hS34 hS128
          refine wl_val wn rfl (rv_not rfl) ?_
          refine wl_val wn rfl (rv_move rfl) ?_
          rcases bool_tf ((!r123)) with hb131 | hb131
          · have h132 := cond_t hb131 h125
            refine wl_un (ug rfl rfl hb131) rfl ?_
            refine wl_un (ug rfl rfl hb131) rfl ?_
            refine wl_un (ug rfl rfl hb131) rfl ?_
            refine wl_un (ug rfl rfl hb131) rfl ?_
            refine wl_un (ug rfl rfl hb131) rfl ?_
            refine wl_un (ug rfl rfl hb131) rfl ?_
            refine wl_un (ug rfl rfl hb131) rfl ?_
            refine wl_val wn rfl (rv_pick_t (v := .bool true) rfl hb131 rfl) ?_
            refine wl_nil ?_
            obtain rfl := Option.some.inj h132
            exact qe_mid' ⟨K126, rfl, hS130, hS128.le⟩ ⟨rfl, rfl, rfl, trivial⟩
          · have h132 := cond_f hb131 h125
            refine wl_val (wg rfl rfl hb131) rfl (rv_move rfl) ?_
            refine wl_val (wg rfl rfl hb131) rfl (rv_move rfl) ?_
            obtain ⟨x133, hx134, h135⟩ := Option.bind_eq_some_iff.1 h132
            refine wl_indexAddr (t := tGState) (wg rfl rfl hb131) rfl Try.underlying28 tf33 rfl rfl (SliceAt.mono ((hl18.trans hl32).trans hS128.le) hs4) hx134 ?_
            intro b136 o137 u138 hu139 ha140
            obtain ⟨a142, n143, c144, rfl, hr141, hs145⟩ := hu139
            have ha146 : AtK _ b136 o137 [.bool x133.Final, .int .i64 x133.Many, .slice a142 n143 c144] := ha140
            refine wl_val (wg rfl rfl hb131) rfl (rv_fieldAddr ff33_2 rfl) ?_
            refine wl_val (wg rfl rfl hb131) rfl (rv_load1 tf31 rfl hS130 (ha146 2 _ rfl)) ?_
            refine wl_val (wg rfl rfl hb131) rfl (rv_len (t := tGArc) Try.underlying31 rfl hs145) ?_
            refine wl_val (wg rfl rfl hb131) rfl (rv_gtr rfl rfl) ?_
            refine wl_val wn rfl (rv_pick_f rfl hb131 rfl) ?_
            refine wl_nil ?_
            obtain rfl := Option.some.inj h135
            exact qe_mid' ⟨K126, rfl, hS130, hS128.le⟩ ⟨rfl, rfl, rfl, trivial⟩
        · rintro _ w107 ⟨K105, rfl, hS108, hl106⟩
          refine qe_seq ?_
          refine wc_cond rfl (fun hb147 => ?_) (fun hb147 => ?_)
          · have h148 := cond_t hb147 h104
            refine wc_seq ?_
            refine wc_region ?_
            refine wl_val wn rfl (rv_assign (v := .bool false) rfl) ?_
            refine wl_nil ?_
            refine qe_seq ?_
            refine wc_ret ?_
            refine qe_block_ret ?_
            refine qe_then_ret ?_
            refine qe_then_ret ?_
            obtain rfl := Option.some.inj h148
            have e149 := hx24 _ rfl
            subst e149
            refine qe_block_ret ?_
            refine qe_then_ret ?_
            obtain rfl := Option.some.inj h16
            refine qe_then_ret ?_
            obtain rfl := Option.some.inj h7
            exact qe_ret (vs := [_]) Try.results85 ⟨rfl, trivial⟩ ⟨K105, rfl, hS108⟩
          · have h148 := cond_f hb147 h104
            refine wc_skip ?_
            refine qe_block ?_
            refine qe_seq ?_
            refine wc_region ?_
            refine wl_val wn rfl (rv_move rfl) ?_
            refine wl_val wn rfl (rv_add rfl rfl) ?_
            refine wl_val wn rfl (rv_assign rfl) ?_
            refine wl_nil ?_
            obtain rfl := Option.some.inj h148
            exact qe_mid' ⟨_, rfl, K105, rfl, hS108, ((hl18.trans hl32).trans hl106), (w64_rng _)⟩ ⟨rfl, rfl, trivial⟩
    · have h26 := cond_f hb25 h23
      refine wc_exit ?_
      refine qe_then_exit ?_
      refine qe_then_exit ?_
      obtain rfl := Option.some.inj h26
      have e151 := hx24 _ rfl
      subst e151
      refine qe_block_eq ?_
      obtain rfl := Option.some.inj h16
      exact qe_mid' ⟨_, K17, rfl, rfl, hS20, hl18⟩ ⟨rfl, trivial⟩
  · rintro _ w11 ⟨s8, K9, rfl, rfl, hS12, hl10⟩
    refine qe_seq ?_
    refine wc_seq ?_
    refine wc_region ?_
    refine wl_val wn rfl (rv_move rfl) ?_
    refine wl_val wn rfl (rv_len (t := tGState) Try.underlying28 rfl (SliceAt.mono hl10 hs4)) ?_
    refine wl_val wn rfl (rv_gtr rfl rfl) ?_
    refine wl_val wn rfl (rv_move rfl) ?_
    rcases bool_tf (decide ((0 : Int) < (p0_d.length : Int))) with hb154 | hb154
    · have h155 := cond_t hb154 h7
      refine wl_val (wg rfl rfl hb154) rfl (rv_move rfl) ?_
      obtain ⟨r156, hx157, h158⟩ := Option.bind_eq_some_iff.1 h155
      refine wl_call (wg rfl rfl hb154) rfl (rt_call (vs := [.slice a1 n2 c3]) co94 rfl) ((ok_spec_l4Count F) hS12.enter0 (SliceAt.mono hl10 hs4) hx157) ?_
      rintro e163 w160 ⟨K159, rfl, hS161, hr162⟩
      refine ⟨_, rfl, ?_⟩
      have hS164 : SH _ _ _ _ _ [] := SH.call0 hS12 hS161
      refine wl_val (wg rfl rfl hb154) rfl (rv_leq rfl rfl) ?_
      refine wl_val wn rfl (rv_pick_t rfl hb154 rfl) ?_
      refine wl_val wn rfl (rv_assign rfl) ?_
      refine wl_nil ?_
      refine qe_seq ?_
      refine wc_ret ?_
      obtain rfl := Option.some.inj h158
      exact qe_ret (vs := [_]) Try.results85 ⟨rfl, trivial⟩ ⟨K159, rfl, hS164⟩
    · have h155 := cond_f hb154 h7
      refine wl_un (ug rfl rfl hb154) rfl ?_
      refine wl_un (ug rfl rfl hb154) rfl ?_
      refine wl_un (ug rfl rfl hb154) rfl ?_
      refine wl_val wn rfl (rv_pick_f (v := .bool false) rfl hb154 rfl) ?_
      refine wl_val wn rfl (rv_assign rfl) ?_
      refine wl_nil ?_
      refine qe_seq ?_
      refine wc_ret ?_
      obtain rfl := Option.some.inj h155
      exact qe_ret (vs := [_]) Try.results85 ⟨rfl, trivial⟩ ⟨K9, rfl, hS12⟩

set_option maxHeartbeats 2000000 in
theorem ok_spec_l4Ok (F : Nat) {w : World} {K : KMap} {a1 : Option Addr} {n2 c3 : Nat} {p0_d : List GState} {r : Bool} (hS : SH w K [] w K []) (hs4 : SliceAt tGState K a1 n2 c3 p0_d) (hm : M.spec_l4Ok F p0_d = some r) :
    Calls Try.prog 68 #[.slice a1 n2 c3] w fun e w' => ∃ (K' : KMap), e = .returned (.bool r) ∧ SH w K [] w' K' [] := by
  rw [M.spec_l4Ok] at hm
  refine calls_in Try.func68 rfl Try.ntmps68 rfl ?_
  refine wc_seq ?_
  refine wc_region ?_
  refine wl_val wn rfl (rv_assign (v := .bool false) rfl) ?_
  refine wl_nil ?_
  refine qe_seq ?_
  refine wc_seq ?_
  refine wc_seq ?_
  refine wc_region ?_
  refine wl_val wn rfl (rv_move rfl) ?_
  obtain ⟨r5, hx6, h7⟩ := Option.bind_eq_some_iff.1 hm
  refine wl_call wn rfl (rt_call (vs := [.slice a1 n2 c3]) co85 rfl) ((ok_spec_l4Shape F) hS.enter0 hs4 hx6) ?_
  rintro e11 w9 ⟨K8, rfl, hS10⟩
  refine ⟨_, rfl, ?_⟩
  have hS12 : SH _ _ _ _ _ [] := SH.call0 hS hS10
  refine wl_val wn rfl (rv_not rfl) ?_
  refine wl_nil ?_
  refine qe_seq ?_
  refine wc_cond rfl (fun hb13 => ?_) (fun hb13 => ?_)
  · have h14 := cond_t hb13 h7
    refine wc_seq ?_
    refine wc_region ?_
    refine wl_val wn rfl (rv_assign (v := .bool false) rfl) ?_
    refine wl_nil ?_
    refine qe_seq ?_
    refine wc_ret ?_
    refine qe_then_ret ?_
    obtain rfl := Option.some.inj h14
    exact qe_ret (vs := [_]) Try.results68 ⟨rfl, trivial⟩ ⟨K8, rfl, hS12⟩
  · have h14 := cond_f hb13 h7
    refine wc_skip ?_
    refine qe_seq ?_
    refine wc_seq ?_
    refine wc_region ?_
    refine wl_val wn rfl (rv_move rfl) ?_
    refine wl_val wn rfl (rv_move rfl) ?_
    refine wl_val wn rfl (rv_len (t := tGState) Try.underlying28 rfl (SliceAt.mono hS10.le hs4)) ?_
    refine wl_val wn rfl (rv_sub rfl rfl) ?_
    obtain ⟨r15, hx16, h17⟩ := Option.bind_eq_some_iff.1 h14
    refine wl_call wn rfl (rt_call (vs := [.slice a1 n2 c3, .int .i64 (w64 ((p0_d.length : Int) - (1 : Int))), sv []]) co70 rfl) ((ok_spec_l4All F) hS12.enter0 (SliceAt.mono hS10.le hs4) (w64_rng _) (by decide : ([] : Str).length ≤ maxLen) hx16) ?_
    rintro e25 w19 ⟨a21, n22, c23, K18, rfl, hS20, hs24⟩
    refine ⟨_, rfl, ?_⟩
    have hS26 : SH _ _ _ _ _ [_] := SH.call0 hS12 hS20
    refine wl_val wn rfl (rv_assign rfl) ?_
    refine wl_nil ?_
    refine qe_seq ?_
    refine wc_seq ?_
    refine wc_seq ?_
    refine wc_region ?_
    refine wl_val wn rfl (rv_move rfl) ?_
    obtain ⟨r27, hx28, h29⟩ := Option.bind_eq_some_iff.1 h17
    refine wl_call wn rfl (rt_call (vs := [.slice a21 n22 c23]) co54 rfl) ((ok_spec_l4Sorted F) hS26.enter0 hs24 hx28) ?_
    rintro e33 w31 ⟨K30, rfl, hS32⟩
    refine ⟨_, rfl, ?_⟩
    have hS34 : SH _ _ _ _ _ [_] := SH.call0 hS26 hS32
    refine wl_val wn rfl (rv_not rfl) ?_
    refine wl_nil ?_
    refine qe_seq ?_
    refine wc_cond rfl (fun hb35 => ?_) (fun hb35 => ?_)
    · have h36 := cond_t hb35 h29
      refine wc_seq ?_
      refine wc_region ?_
      refine wl_val wn rfl (rv_assign (v := .bool false) rfl) ?_
      refine wl_nil ?_
      refine qe_seq ?_
      refine wc_ret ?_
      refine qe_then_ret ?_
      obtain rfl := Option.some.inj h36
      have hS37 : SH _ _ _ _ _ [] := SH.sublist hS34 (.cons _ .slnil)
      exact qe_ret (vs := [_]) Try.results68 ⟨rfl, trivial⟩ ⟨K30, rfl, hS37⟩
    · have h36 := cond_f hb35 h29
      refine wc_skip ?_
      refine qe_seq ?_
      refine wc_seq ?_
      refine wc_region ?_
      refine wl_val wn rfl (rv_move rfl) ?_
      obtain ⟨r38, hx39, h40⟩ := Option.bind_eq_some_iff.1 h36
      have hS41 := SH.nil hS34 33 3
      refine wl_call wn rfl (rt_call (vs := [.slice none 0 0, .slice a21 n22 c23, .int .i64 0]) co55 rfl) ((ok_spec_l4Build F) (SH.enter (Lin := [_]) hS41) (SliceAt.nil _ _) (SliceAt.mono hS32.le hs24) (by decide : rng64 0) hx39) ?_
      rintro e50 w43 ⟨a45, n46, c47, K42, rfl, hS44, hs48, hr49⟩
      refine ⟨_, rfl, ?_⟩
      have hS51 : SH _ _ _ _ _ [_, _] := SH.call (Lin := [_]) hS41 hS44
      refine wl_val wn rfl (rv_move rfl) ?_
      refine wl_val wn rfl (rv_extract rfl rfl) ?_
      refine wl_val wn rfl (rv_extract rfl rfl) ?_
      refine wl_val wn rfl (rv_assign rfl) ?_
      refine wl_val wn rfl (rv_assign rfl) ?_
      refine wl_nil ?_
      refine qe_seq ?_
      refine wc_seq ?_
      refine wc_seq ?_
      refine wc_region ?_
      refine wl_val wn rfl (rv_move rfl) ?_
      refine wl_val wn rfl (rv_len (t := tGState) Try.underlying28 rfl hs48) ?_
      refine wl_val wn rfl (rv_move rfl) ?_
      refine wl_val wn rfl (rv_len (t := tGState) Try.underlying28 rfl (SliceAt.mono (((hS10.le.trans hS20.le).trans hS32.le).trans hS44.le) hs4)) ?_
      refine wl_val wn rfl (rv_neq rfl rfl) ?_
      refine wl_nil ?_
      refine qe_seq ?_
      refine wc_cond rfl (fun hb52 => ?_) (fun hb52 => ?_)
      · have h53 := cond_t hb52 h40
        refine wc_seq ?_
        refine wc_region ?_
        refine wl_val wn rfl (rv_assign (v := .bool false) rfl) ?_
        refine wl_nil ?_
        refine qe_seq ?_
        refine wc_ret ?_
        refine qe_then_ret ?_
        obtain rfl := Option.some.inj h53
        have hS54 : SH _ _ _ _ _ [] := SH.sublist hS51 (.cons _ (.cons _ .slnil))
        exact qe_ret (vs := [_]) Try.results68 ⟨rfl, trivial⟩ ⟨K42, rfl, hS54⟩
      · have h53 := cond_f hb52 h40
        refine wc_skip ?_
        refine qe_seq ?_
        refine wc_seq ?_
        refine wc_seq ?_
        refine wc_region ?_
        refine wl_val wn rfl (rv_assign (v := .int .i64 0) rfl) ?_
        refine wl_nil ?_
        refine qe_seq ?_
        obtain ⟨o55, h56, h57⟩ := Option.bind_eq_some_iff.1 h53
        refine wc_cutg (fun E' w' => ∃ (s58 : Unit) (K59 : KMap), o55 = .inl s58 ∧ E' = [] ∧ SH w K [] w' K59 [] ∧ KLe K42 K59) ?_ ?_
        · refine wc_block ?_
          obtain ⟨r64, h65, h66⟩ := Option.bind_eq_some_iff.1 h56
          have hS72 : SH _ _ _ _ _ [] := SH.sublist hS51 (.cons _ (.cons _ .slnil))
          refine wc_while' (fun (s63 : Int) E' w' => ∃ (K67 : KMap), E' = [(0, .slice a1 n2 c3), (4, .slice a45 n46 c47), (6, .int .i64 s63)] ∧ SH w K [] w' K67 [] ∧ KLe K42 K67 ∧ rng64 s63) h65 ⟨K42, rfl, hS72, (KLe.refl _), (by decide : rng64 0)⟩ ⟨rfl, rfl, rfl, trivial⟩ ?_
          rintro s63 _ w69 r73 h74 hx75 ⟨K67, rfl, hS70, hl68, hr71⟩
          refine wc_seq ?_
          refine wc_seq ?_
          refine wc_region ?_
          refine wl_val wn rfl (rv_move rfl) ?_
          refine wl_val wn rfl (rv_move rfl) ?_
          refine wl_val wn rfl (rv_len (t := tGState) Try.underlying28 rfl (SliceAt.mono ((((hS10.le.trans hS20.le).trans hS32.le).trans hS44.le).trans hl68) hs4)) ?_
          refine wl_val wn rfl (rv_lss rfl rfl) ?_
          refine wl_nil ?_
          refine qe_seq ?_
          refine wc_cond rfl (fun hb76 => ?_) (fun hb76 => ?_)
          · have h77 := cond_t hb76 h74
            refine wc_skip ?_
            refine qe_seq ?_
            refine wc_seq ?_
            refine wc_block ?_
            refine wc_seq ?_
            refine wc_quiet mixed (by kernel_rfl) hS70 ?_
            refine wq_val wn rfl (fun _ _ => (rv_move rfl)) ?_
            refine wq_val wn rfl (fun _ _ => (rv_move rfl)) ?_
            obtain ⟨x78, hx79, h80⟩ := Option.bind_eq_some_iff.1 h77
            refine wq_indexAddr (t := tGState) wn rfl Try.underlying28 tf33 rfl rfl (SliceAt.mono hl68 hs48) hx79 ?_
            intro b81 o82 u83 hu84 ha85
            obtain ⟨a87, n88, c89, rfl, hr86, hs90⟩ := hu84
            have ha91 : AtK _ b81 o82 [.bool x78.Final, .int .i64 x78.Many, .slice a87 n88 c89] := ha85
            refine wq_val wn rfl (rq_loadS (cs := [.bool x78.Final, .int .i64 x78.Many, .slice a87 n88 c89]) tf33 rfl ha91 rfl) ?_
            refine wq_val wn rfl (fun _ _ => (rv_move rfl)) ?_
            refine wq_val wn rfl (fun _ _ => (rv_move rfl)) ?_
            obtain ⟨x92, hx93, h94⟩ := Option.bind_eq_some_iff.1 h80
            refine wq_indexAddr (t := tGState) wn rfl Try.underlying28 tf33 rfl rfl (SliceAt.mono ((((hS10.le.trans hS20.le).trans hS32.le).trans hS44.le).trans hl68) hs4) hx93 ?_
            intro b95 o96 u97 hu98 ha99
            obtain ⟨a101, n102, c103, rfl, hr100, hs104⟩ := hu98
            have ha105 : AtK _ b95 o96 [.bool x92.Final, .int .i64 x92.Many, .slice a101 n102 c103] := ha99
            refine wq_val wn rfl (rq_loadS (cs := [.bool x92.Final, .int .i64 x92.Many, .slice a101 n102 c103]) tf33 rfl ha105 rfl) ?_
            obtain ⟨r106, hx107, h108⟩ := Option.bind_eq_some_iff.1 h94
            refine wq_call (v := .bool r106) wn rfl (fun _ => rt_call (vs := [.agg #[.bool x78.Final, .int .i64 x78.Many, .slice a87 n88 c89], .agg #[.bool x92.Final, .int .i64 x92.Many, .slice a101 n102 c103]]) co86 rfl) (fun w111 ⟨K109, hS110, hl112⟩ => ((ok_spec_l4Same F) hS110.enter0 hr86 (SliceAt.mono hl112 hs90) hr100 (SliceAt.mono hl112 hs104) hx107).mono fun e w' ⟨K', he, hS'⟩ => ⟨he, K', hS110.call0 hS', hl112.trans hS'.le⟩) ?_
            refine wq_val wn rfl (fun _ _ => (rv_not rfl)) ?_
            refine wq_nil ?_
            rintro w114 ⟨K113, hS115, hl116⟩
            refine qe_seq ?_
            refine wc_cond rfl (fun hb117 => ?_) (fun hb117 => ?_)
            · have h118 := cond_t hb117 h108
              refine wc_seq ?_
              refine wc_region ?_
              refine wl_val wn rfl (rv_assign (v := .bool false) rfl) ?_
              refine wl_nil ?_
              refine qe_seq ?_
              refine wc_ret ?_
              refine qe_block_ret ?_
              refine qe_then_ret ?_
              refine qe_then_ret ?_
              obtain rfl := Option.some.inj h118
              have e119 := hx75 _ rfl
              subst e119
              refine qe_block_ret ?_
              refine qe_then_ret ?_
              obtain rfl := Option.some.inj h66
              refine qe_then_ret ?_
              obtain rfl := Option.some.inj h57
              exact qe_ret (vs := [_]) Try.results68 ⟨rfl, trivial⟩ ⟨K113, rfl, hS115⟩
            · have h118 := cond_f hb117 h108
              refine wc_skip ?_
              refine qe_block ?_
              refine qe_seq ?_
              refine wc_region ?_
              refine wl_val wn rfl (rv_move rfl) ?_
              refine wl_val wn rfl (rv_add rfl rfl) ?_
              refine wl_val wn rfl (rv_assign rfl) ?_
              refine wl_nil ?_
              obtain rfl := Option.some.inj h118
              exact qe_mid' ⟨_, rfl, K113, rfl, hS115, (hl68.trans hl116), (w64_rng _)⟩ ⟨rfl, rfl, rfl, trivial⟩
          · have h77 := cond_f hb76 h74
            refine wc_exit ?_
            refine qe_then_exit ?_
            refine qe_then_exit ?_
            obtain rfl := Option.some.inj h77
            have e120 := hx75 _ rfl
            subst e120
            refine qe_block_eq ?_
            obtain rfl := Option.some.inj h66
            exact qe_mid' ⟨_, K67, rfl, rfl, hS70, hl68⟩ trivial
        · rintro _ w61 ⟨s58, K59, rfl, rfl, hS62, hl60⟩
          refine qe_seq ?_
          refine wc_seq ?_
          refine wc_region ?_
          refine wl_val wn rfl (rv_assign (v := .bool true) rfl) ?_
          refine wl_nil ?_
          refine qe_seq ?_
          refine wc_ret ?_
          obtain rfl := Option.some.inj h57
          exact qe_ret (vs := [_]) Try.results68 ⟨rfl, trivial⟩ ⟨K59, rfl, hS62⟩

theorem ok_spec_DawgAt (F : Nat) {w : World} {K : KMap} {a1 : Option Addr} {n2 c3 : Nat} {p0_d : List GState} {p1_rank : Int} {r : Str} (hS : SH w K [] w K []) (hs4 : SliceAt tGState K a1 n2 c3 p0_d) (hr5 : rng64 p1_rank) (hm : M.spec_DawgAt F p0_d p1_rank = some r) :
    Calls Try.prog 39 #[.slice a1 n2 c3, .int .i64 p1_rank] w fun e w' => ∃ (K' : KMap), e = .returned (sv r) ∧ SH w K [] w' K' [] ∧ r.length ≤ maxLen := by
  rw [M.spec_DawgAt] at hm
  refine calls_in Try.func39 rfl Try.ntmps39 rfl ?_
  refine wc_seq ?_
  refine wc_region ?_
  refine wl_val wn rfl (rv_assign (v := sv []) rfl) ?_
  refine wl_nil ?_
  refine qe_seq ?_
  refine wc_seq ?_
  refine wc_seq ?_
  obtain ⟨o6, h7, h8⟩ := Option.bind_eq_some_iff.1 hm
  refine wc_cutg (fun E' w' => ∃ (K9 : KMap), E' = [(0, .slice a1 n2 c3), (1, .int .i64 p1_rank), (20, .bool o6)] ∧ SH w K [] w' K9 [] ∧ KLe K K9) ?_ ?_
  · refine wc_region ?_
    refine wl_val wn rfl (rv_move rfl) ?_
    obtain ⟨r13, hx14, h15⟩ := Option.bind_eq_some_iff.1 h7
    refine wl_call wn rfl (rt_call (vs := [.slice a1 n2 c3]) co68 rfl) ((ok_spec_l4Ok F) hS.enter0 hs4 hx14) ?_
    rintro e19 w17 ⟨K16, rfl, hS18⟩
    refine ⟨_, rfl, ?_⟩
    have hS20 : SH _ _ _ _ _ [] := SH.call0 hS hS18
    refine wl_val wn rfl (rv_not rfl) ?_
    refine wl_val wn rfl (rv_move rfl) ?_
    rcases bool_tf ((!r13)) with hb21 | hb21
    · have h22 := cond_t hb21 h15
      refine wl_un (ug rfl rfl hb21) rfl ?_
      refine wl_un (ug rfl rfl hb21) rfl ?_
      refine wl_un (ug rfl rfl hb21) rfl ?_
      refine wl_un (ug rfl rfl hb21) rfl ?_
      refine wl_un (ug rfl rfl hb21) rfl ?_
      refine wl_un (ug rfl rfl hb21) rfl ?_
      refine wl_un (ug rfl rfl hb21) rfl ?_
      refine wl_un (ug rfl rfl hb21) rfl ?_
      refine wl_un (ug rfl rfl hb21) rfl ?_
      refine wl_un (ug rfl rfl hb21) rfl ?_
      refine wl_un (ug rfl rfl hb21) rfl ?_
      refine wl_val wn rfl (rv_pick_t (v := .bool true) rfl hb21 rfl) ?_
      refine wl_nil ?_
      obtain rfl := Option.some.inj h22
      exact qe_mid' ⟨K16, rfl, hS20, hS18.le⟩ ⟨rfl, rfl, rfl, trivial⟩
    · have h22 := cond_f hb21 h15
      refine wl_val (wg rfl rfl hb21) rfl (rv_move rfl) ?_
      refine wl_val (wg rfl rfl hb21) rfl (rv_move rfl) ?_
      refine wl_val (wg rfl rfl hb21) rfl (rv_move rfl) ?_
      refine wl_val (wg rfl rfl hb21) rfl (rv_len (t := tGState) Try.underlying28 rfl (SliceAt.mono hS18.le hs4)) ?_
      refine wl_val (wg rfl rfl hb21) rfl (rv_sub rfl rfl) ?_
      obtain ⟨x23, hx24, h25⟩ := Option.bind_eq_some_iff.1 h22
      refine wl_indexAddr (t := tGState) (wg rfl rfl hb21) rfl Try.underlying28 tf33 rfl rfl (SliceAt.mono hS18.le hs4) hx24 ?_
      intro b26 o27 u28 hu29 ha30
      obtain ⟨a32, n33, c34, rfl, hr31, hs35⟩ := hu29
      have ha36 : AtK _ b26 o27 [.bool x23.Final, .int .i64 x23.Many, .slice a32 n33 c34] := ha30
      refine wl_val (wg rfl rfl hb21) rfl (rv_fieldAddr ff33_1 rfl) ?_
      refine wl_val (wg rfl rfl hb21) rfl (rv_load1 tf3 rfl hS20 (ha36 1 _ rfl)) ?_
      refine wl_val (wg rfl rfl hb21) rfl (rv_sub rfl rfl) ?_
      obtain ⟨r37, hx38, h39⟩ := Option.bind_eq_some_iff.1 h25
      refine wl_call (wg rfl rfl hb21) rfl (rt_call (vs := [.int .i64 p1_rank, .int .i64 0, .int .i64 (w64 (x23.Many - (1 : Int)))]) co69 rfl) ((ok_spec_l1In F) hS20.enter0 hr5 (by decide : rng64 0) (w64_rng _) hx38) ?_
      rintro e43 w41 ⟨K40, rfl, hS42⟩
      refine ⟨_, rfl, ?_⟩
      have hS44 : SH _ _ _ _ _ [] := SH.call0 hS20 hS42
      refine wl_val (wg rfl rfl hb21) rfl (rv_not rfl) ?_
      refine wl_val wn rfl (rv_pick_f rfl hb21 rfl) ?_
      refine wl_nil ?_
      obtain rfl := Option.some.inj h39
      exact qe_mid' ⟨K40, rfl, hS44, (hS18.le.trans hS42.le)⟩ ⟨rfl, rfl, rfl, trivial⟩
  · rintro _ w11 ⟨K9, rfl, hS12, hl10⟩
    refine qe_seq ?_
    refine wc_cond rfl (fun hb45 => ?_) (fun hb45 => ?_)
    · have h46 := cond_t hb45 h8
      refine wc_seq ?_
      refine wc_region ?_
      refine wl_val wn rfl (rv_assign (v := sv []) rfl) ?_
      refine wl_nil ?_
      refine qe_seq ?_
      refine wc_ret ?_
      refine qe_then_ret ?_
      obtain rfl := Option.some.inj h46
      exact qe_ret (vs := [_]) Try.results39 ⟨rfl, trivial⟩ ⟨K9, rfl, hS12, (by decide : ([] : Str).length ≤ maxLen)⟩
    · have h46 := cond_f hb45 h8
      refine wc_skip ?_
      refine qe_seq ?_
      refine wc_seq ?_
      refine wc_region ?_
      refine wl_val wn rfl (rv_move rfl) ?_
      refine wl_val wn rfl (rv_move rfl) ?_
      refine wl_val wn rfl (rv_len (t := tGState) Try.underlying28 rfl (SliceAt.mono hl10 hs4)) ?_
      refine wl_val wn rfl (rv_sub rfl rfl) ?_
      obtain ⟨r47, hx48, h49⟩ := Option.bind_eq_some_iff.1 h46
      refine wl_call wn rfl (rt_call (vs := [.slice a1 n2 c3, .int .i64 (w64 ((p0_d.length : Int) - (1 : Int))), sv []]) co70 rfl) ((ok_spec_l4All F) hS12.enter0 (SliceAt.mono hl10 hs4) (w64_rng _) (by decide : ([] : Str).length ≤ maxLen) hx48) ?_
      rintro e57 w51 ⟨a53, n54, c55, K50, rfl, hS52, hs56⟩
      refine ⟨_, rfl, ?_⟩
      have hS58 : SH _ _ _ _ _ [_] := SH.call0 hS12 hS52
      refine wl_val wn rfl (rv_move rfl) ?_
      obtain ⟨x59, hx60, h61⟩ := Option.bind_eq_some_iff.1 h49
      refine wl_indexAddr (t := tStr) wn rfl Try.underlying26 tf9 rfl rfl hs56 hx60 ?_
      intro b62 o63 u64 hu65 ha66
      obtain ⟨rfl, hl67⟩ := hu65
      have ha68 : AtK _ b62 o63 [sv x59] := ha66
      refine wl_val wn rfl (rv_load1 tf9 rfl hS58 (ha68 0 _ rfl)) ?_
      refine wl_val wn rfl (rv_assign rfl) ?_
      refine wl_nil ?_
      refine qe_seq ?_
      refine wc_ret ?_
      obtain rfl := Option.some.inj h61
      have hS69 : SH _ _ _ _ _ [] := SH.sublist hS58 (.cons _ .slnil)
      exact qe_ret (vs := [_]) Try.results39 ⟨rfl, trivial⟩ ⟨K50, rfl, hS69, hl67⟩

set_option maxHeartbeats 2000000 in
theorem ok_laws_FnDawgAt (F : Nat) {w : World} {K : KMap} {a1 : Option Addr} {n2 c3 : Nat} {p0_code : List UInt8} {r : Bool} (hS : SH w K [] w K []) (hs4 : SliceAt tU8 K a1 n2 c3 p0_code) (hm : M.laws_FnDawgAt F p0_code = some r) :
    Calls Try.prog 8 #[.slice a1 n2 c3] w fun e w' => ∃ (K' : KMap), e = .returned (.bool r) ∧ SH w K [] w' K' [] := by
  rw [M.laws_FnDawgAt] at hm
  refine calls_in Try.func8 rfl Try.ntmps8 rfl ?_
  refine wc_seq ?_
  refine wc_region ?_
  refine wl_val wn rfl (rv_assign (v := .bool false) rfl) ?_
  refine wl_nil ?_
  refine qe_seq ?_
  refine wc_seq ?_
  refine wc_seq ?_
  refine wc_region ?_
  refine wl_val wn rfl (rv_move rfl) ?_
  refine wl_val wn rfl (rv_len (t := tU8) Try.underlying22 rfl hs4) ?_
  refine wl_val wn rfl (rv_gtr rfl rfl) ?_
  refine wl_nil ?_
  refine qe_seq ?_
  refine wc_cond rfl (fun hb5 => ?_) (fun hb5 => ?_)
  · have h6 := cond_t hb5 hm
    refine wc_seq ?_
    refine wc_region ?_
    refine wl_val wn rfl (rv_assign (v := .bool true) rfl) ?_
    refine wl_nil ?_
    refine qe_seq ?_
    refine wc_ret ?_
    refine qe_then_ret ?_
    obtain rfl := Option.some.inj h6
    exact qe_ret (vs := [_]) Try.results8 ⟨rfl, trivial⟩ ⟨K, rfl, hS⟩
  · have h6 := cond_f hb5 hm
    refine wc_skip ?_
    refine qe_seq ?_
    refine wc_seq ?_
    refine wc_region ?_
    refine wl_val wn rfl (rv_move rfl) ?_
    obtain ⟨r7, hx8, h9⟩ := Option.bind_eq_some_iff.1 h6
    refine wl_call wn rfl (rt_call (vs := [.slice a1 n2 c3]) co37 rfl) ((ok_spec_DrawDawgAt F) hS.enter0 hs4 hx8) ?_
    rintro e18 w11 ⟨a13, n14, c15, K10, rfl, hS12, hs16, hr17⟩
    refine ⟨_, rfl, ?_⟩
    have hS19 : SH _ _ _ _ _ [_] := SH.call0 hS hS12
    refine wl_val wn rfl (rv_move rfl) ?_
    refine wl_val wn rfl (rv_extract rfl rfl) ?_
    refine wl_val wn rfl (rv_extract rfl rfl) ?_
    refine wl_val wn rfl (rv_assign rfl) ?_
    refine wl_val wn rfl (rv_assign rfl) ?_
    refine wl_nil ?_
    refine qe_seq ?_
    refine wc_seq ?_
    refine wc_region ?_
    refine wl_val wn rfl (rv_move rfl) ?_
    refine wl_val wn rfl (rv_move rfl) ?_
    obtain ⟨r20, hx21, h22⟩ := Option.bind_eq_some_iff.1 h9
    refine wl_call wn rfl (rt_call (vs := [.slice a13 n14 c15, .int .i64 r7.2]) co38 rfl) ((ok_impl_DawgAt F) hS19.enter0 hs16 hr17 hx21) ?_
    rintro e27 w24 ⟨K23, rfl, hS25, hl26⟩
    refine ⟨_, rfl, ?_⟩
    have hS28 : SH _ _ _ _ _ [_] := SH.call0 hS19 hS25
    refine wl_val wn rfl (rv_assign rfl) ?_
    refine wl_nil ?_
    refine qe_seq ?_
    refine wc_seq ?_
    refine wc_seq ?_
    obtain ⟨o29, h30, h31⟩ := Option.bind_eq_some_iff.1 h22
    refine wc_cutg (fun E' w' => ∃ (K32 : KMap), E' = [(3, .slice a13 n14 c15), (4, .int .i64 r7.2), (5, sv r20), (26, .bool o29)] ∧ SH w K [] w' K32 [] ∧ KLe K23 K32) ?_ ?_
    · refine wc_region ?_
      refine wl_val wn rfl (rv_move rfl) ?_
      refine wl_val wn rfl (rv_move rfl) ?_
      refine wl_val wn rfl (rv_move rfl) ?_
      obtain ⟨r36, hx37, h38⟩ := Option.bind_eq_some_iff.1 h30
      refine wl_call wn rfl (rt_call (vs := [.slice a13 n14 c15, .int .i64 r7.2]) co39 rfl) ((ok_spec_DawgAt F) hS28.enter0 (SliceAt.mono hS25.le hs16) hr17 hx37) ?_
      rintro e43 w40 ⟨K39, rfl, hS41, hl42⟩
      refine ⟨_, rfl, ?_⟩
      have hS44 : SH _ _ _ _ _ [_] := SH.call0 hS28 hS41
      refine wl_val wn rfl (rv_sneq rfl rfl) ?_
      refine wl_val wn rfl (rv_move rfl) ?_
      rcases bool_tf ((!(r20 == r36))) with hb45 | hb45
      · have h46 := cond_t hb45 h38
        refine wl_un (ug rfl rfl hb45) rfl ?_
        refine wl_un (ug rfl rfl hb45) rfl ?_
        refine wl_val wn rfl (rv_pick_t (v := .bool true) rfl hb45 rfl) ?_
        refine wl_nil ?_
        obtain rfl := Option.some.inj h46
        have hS47 : SH _ _ _ _ _ [] := SH.sublist hS44 (.cons _ .slnil)
        exact qe_mid' ⟨K39, rfl, hS47, hS41.le⟩ ⟨rfl, rfl, rfl, rfl, trivial⟩
      · have h46 := cond_f hb45 h38
        refine wl_val (wg rfl rfl hb45) rfl (rv_move rfl) ?_
        refine wl_val (wg rfl rfl hb45) rfl (rv_seql (r := ([] : Str)) rfl rfl) ?_
        refine wl_val wn rfl (rv_pick_f rfl hb45 rfl) ?_
        refine wl_nil ?_
        obtain rfl := Option.some.inj h46
        have hS48 : SH _ _ _ _ _ [] := SH.sublist hS44 (.cons _ .slnil)
        exact qe_mid' ⟨K39, rfl, hS48, hS41.le⟩ ⟨rfl, rfl, rfl, rfl, trivial⟩
    · rintro _ w34 ⟨K32, rfl, hS35, hl33⟩
      refine qe_seq ?_
      refine wc_cond rfl (fun hb49 => ?_) (fun hb49 => ?_)
      · have h50 := cond_t hb49 h31
        refine wc_seq ?_
        refine wc_region ?_
        refine wl_val wn rfl (rv_move rfl) ?_
        refine wl_val wn rfl (rv_move rfl) ?_
        refine wl_val wn rfl (rv_move rfl) ?_
        obtain ⟨r51, hx52, h53⟩ := Option.bind_eq_some_iff.1 h50
        refine wl_call wn rfl (rt_call (vs := [.slice a13 n14 c15, .int .i64 r7.2]) co39 rfl) ((ok_spec_DawgAt F) hS35.enter0 (SliceAt.mono (hS25.le.trans hl33) hs16) hr17 hx52) ?_
        rintro e58 w55 ⟨K54, rfl, hS56, hl57⟩
        refine ⟨_, rfl, ?_⟩
        have hS59 : SH _ _ _ _ _ [] := SH.call0 hS35 hS56
        refine wl_val wn rfl (rv_seql rfl rfl) ?_
        refine wl_val wn rfl (rv_assign rfl) ?_
        refine wl_nil ?_
        refine qe_seq ?_
        refine wc_ret ?_
        refine qe_then_ret ?_
        obtain rfl := Option.some.inj h53
        exact qe_ret (vs := [_]) Try.results8 ⟨rfl, trivial⟩ ⟨K54, rfl, hS59⟩
      · have h50 := cond_f hb49 h31
        refine wc_skip ?_
        refine qe_seq ?_
        refine wc_seq ?_
        refine wc_region ?_
        refine wl_val wn rfl (rv_move rfl) ?_
        refine wl_val wn rfl (rv_move rfl) ?_
        refine wl_val wn rfl (rv_add rfl rfl) ?_
        obtain ⟨r60, hx61, h62⟩ := Option.bind_eq_some_iff.1 h50
        refine wl_call wn rfl (rt_call (vs := [.slice a13 n14 c15, .int .i64 (w64 (r7.2 + (1 : Int)))]) co38 rfl) ((ok_impl_DawgAt F) hS35.enter0 (SliceAt.mono (hS25.le.trans hl33) hs16) (w64_rng _) hx61) ?_
        rintro e67 w64 ⟨K63, rfl, hS65, hl66⟩
        refine ⟨_, rfl, ?_⟩
        have hS68 : SH _ _ _ _ _ [] := SH.call0 hS35 hS65
        refine wl_val wn rfl (rv_assign rfl) ?_
        refine wl_nil ?_
        refine qe_seq ?_
        refine wc_seq ?_
        refine wc_region ?_
        refine wl_val wn rfl (rv_move rfl) ?_
        refine wl_val wn rfl (rv_move rfl) ?_
        obtain ⟨r69, hx70, h71⟩ := Option.bind_eq_some_iff.1 h62
        refine wl_call wn rfl (rt_call (vs := [.slice a13 n14 c15, sv r20]) co32 rfl) ((ok_impl_DawgRank F) hS68.enter0 (SliceAt.mono ((hS25.le.trans hl33).trans hS65.le) hs16) hl26 hx70) ?_
        rintro e76 w73 ⟨K72, rfl, hS74, hr75⟩
        refine ⟨_, rfl, ?_⟩
        have hS77 : SH _ _ _ _ _ [] := SH.call0 hS68 hS74
        refine wl_val wn rfl (rv_move rfl) ?_
        refine wl_val wn rfl (rv_eql rfl rfl) ?_
        refine wl_val wn rfl (rv_move rfl) ?_
        rcases bool_tf ((r69 == r7.2)) with hb78 | hb78
        · have h79 := cond_t hb78 h71
          refine wl_val (wg rfl rfl hb78) rfl (rv_move rfl) ?_
          refine wl_val (wg rfl rfl hb78) rfl (rv_seql (r := ([] : Str)) rfl rfl) ?_
          refine wl_val (wg rfl rfl hb78) rfl (rv_move rfl) ?_
          rcases bool_tf ((r60 == ([] : Str))) with hb80 | hb80
          · have h81 := cond_t hb80 h79
            refine wl_un (ug rfl rfl hb80) rfl ?_
            refine wl_un (ug rfl rfl hb80) rfl ?_
            refine wl_un (ug rfl rfl hb80) rfl ?_
            refine wl_val (wg rfl rfl hb78) rfl (rv_pick_t (v := .bool true) rfl hb80 rfl) ?_
            refine wl_val wn rfl (rv_pick_t rfl hb78 rfl) ?_
            refine wl_val wn rfl (rv_assign rfl) ?_
            refine wl_nil ?_
            refine qe_seq ?_
            refine wc_ret ?_
            obtain rfl := Option.some.inj h81
            exact qe_ret (vs := [_]) Try.results8 ⟨rfl, trivial⟩ ⟨K72, rfl, hS77⟩
          · have h81 := cond_f hb80 h79
            refine wl_val (wg rfl rfl hb80) rfl (rv_move rfl) ?_
            refine wl_val (wg rfl rfl hb80) rfl (rv_move rfl) ?_
            refine wl_val (wg rfl rfl hb80) rfl (rv_slss rfl rfl) ?_
            refine wl_val (wg rfl rfl hb78) rfl (rv_pick_f rfl hb80 rfl) ?_
            refine wl_val wn rfl (rv_pick_t rfl hb78 rfl) ?_
            refine wl_val wn rfl (rv_assign rfl) ?_
            refine wl_nil ?_
            refine qe_seq ?_
            refine wc_ret ?_
            obtain rfl := Option.some.inj h81
            exact qe_ret (vs := [_]) Try.results8 ⟨rfl, trivial⟩ ⟨K72, rfl, hS77⟩
        · have h79 := cond_f hb78 h71
          refine wl_un (ug rfl rfl hb78) rfl ?_
          refine wl_un (ug rfl rfl hb78) rfl ?_
          refine wl_un (ug rfl rfl hb78) rfl ?_
          refine wl_un (uu rfl rfl) rfl ?_
          refine wl_un (uu rfl rfl) rfl ?_
          refine wl_un (uu rfl rfl) rfl ?_
          refine wl_un (ug rfl rfl hb78) rfl ?_
          refine wl_val wn rfl (rv_pick_f (v := .bool false) rfl hb78 rfl) ?_
          refine wl_val wn rfl (rv_assign rfl) ?_
          refine wl_nil ?_
          refine qe_seq ?_
          refine wc_ret ?_
          obtain rfl := Option.some.inj h79
          exact qe_ret (vs := [_]) Try.results8 ⟨rfl, trivial⟩ ⟨K72, rfl, hS77⟩

theorem ok_impl_DawgOk (F : Nat) {w : World} {K : KMap} {a1 : Option Addr} {n2 c3 : Nat} {p0_d : List GState} {r : Bool} (hS : SH w K [] w K []) (hs4 : SliceAt tGState K a1 n2 c3 p0_d) (hm : M.impl_DawgOk F p0_d = some r) :
    Calls Try.prog 34 #[.slice a1 n2 c3] w fun e w' => ∃ (K' : KMap), e = .returned (.bool r) ∧ SH w K [] w' K' [] := by
  rw [M.impl_DawgOk] at hm
  refine calls_in Try.func34 rfl Try.ntmps34 rfl ?_
  refine wc_seq ?_
  refine wc_region ?_
  refine wl_val wn rfl (rv_assign (v := .bool false) rfl) ?_
  refine wl_nil ?_
  refine qe_seq ?_
  refine wc_seq ?_
  refine wc_region ?_
  refine wl_val wn rfl (rv_move rfl) ?_
  obtain ⟨r5, hx6, h7⟩ := Option.bind_eq_some_iff.1 hm
  refine wl_call wn rfl (rt_call (vs := [.slice a1 n2 c3]) co63 rfl) ((ok_impl_wordsIn F) hS.enter0 hs4 hx6) ?_
  rintro e15 w9 ⟨a11, n12, c13, K8, rfl, hS10, hs14⟩
  refine ⟨_, rfl, ?_⟩
  have hS16 : SH _ _ _ _ _ [_] := SH.call0 hS hS10
  refine wl_val wn rfl (rv_move rfl) ?_
  refine wl_val wn rfl (rv_extract rfl rfl) ?_
  refine wl_val wn rfl (rv_extract rfl rfl) ?_
  refine wl_val wn rfl (rv_assign rfl) ?_
  refine wl_val wn rfl (rv_assign rfl) ?_
  refine wl_nil ?_
  refine qe_seq ?_
  refine wc_seq ?_
  refine wc_region ?_
  refine wl_val wn rfl (rv_move rfl) ?_
  refine wl_val wn rfl (rv_assign rfl) ?_
  refine wl_nil ?_
  refine qe_seq ?_
  refine wc_ret ?_
  obtain rfl := Option.some.inj h7
  have hS17 : SH _ _ _ _ _ [] := SH.sublist hS16 (.cons _ .slnil)
  exact qe_ret (vs := [_]) Try.results34 ⟨rfl, trivial⟩ ⟨K8, rfl, hS17⟩

theorem ok_laws_foTexts (F : Nat) {w : World} {K : KMap} {a1 : Option Addr} {n2 c3 : Nat} {a5 : Option Addr} {n6 c7 : Nat} {p0_a : List Str} {p1_b : List Str} {r : Bool} (hS : SH w K [] w K []) (hs4 : SliceAt tStr K a1 n2 c3 p0_a) (hs8 : SliceAt tStr K a5 n6 c7 p1_b) (hm : M.laws_foTexts F p0_a p1_b = some r) :
    Calls Try.prog 35 #[.slice a1 n2 c3, .slice a5 n6 c7] w fun e w' => ∃ (K' : KMap), e = .returned (.bool r) ∧ SH w K [] w' K' [] := by
  rw [M.laws_foTexts] at hm
  refine calls_in Try.func35 rfl Try.ntmps35 rfl ?_
  refine wc_seq ?_
  refine wc_region ?_
  refine wl_val wn rfl (rv_assign (v := .bool false) rfl) ?_
  refine wl_nil ?_
  refine qe_seq ?_
  refine wc_seq ?_
  refine wc_seq ?_
  refine wc_region ?_
  refine wl_val wn rfl (rv_move rfl) ?_
  refine wl_val wn rfl (rv_len (t := tStr) Try.underlying26 rfl hs4) ?_
  refine wl_val wn rfl (rv_move rfl) ?_
  refine wl_val wn rfl (rv_len (t := tStr) Try.underlying26 rfl hs8) ?_
  refine wl_val wn rfl (rv_neq rfl rfl) ?_
  refine wl_nil ?_
  refine qe_seq ?_
  refine wc_cond rfl (fun hb9 => ?_) (fun hb9 => ?_)
  · have h10 := cond_t hb9 hm
    refine wc_seq ?_
    refine wc_region ?_
    refine wl_val wn rfl (rv_assign (v := .bool false) rfl) ?_
    refine wl_nil ?_
    refine qe_seq ?_
    refine wc_ret ?_
    refine qe_then_ret ?_
    obtain rfl := Option.some.inj h10
    exact qe_ret (vs := [_]) Try.results35 ⟨rfl, trivial⟩ ⟨K, rfl, hS⟩
  · have h10 := cond_f hb9 hm
    refine wc_skip ?_
    refine qe_seq ?_
    refine wc_seq ?_
    refine wc_seq ?_
    refine wc_region ?_
    refine wl_val wn rfl (rv_assign (v := .int .i64 0) rfl) ?_
    refine wl_nil ?_
    refine qe_seq ?_
    obtain ⟨o11, h12, h13⟩ := Option.bind_eq_some_iff.1 h10
    refine wc_cutg (fun E' w' => ∃ (s14 : Unit) (K15 : KMap), o11 = .inl s14 ∧ E' = [] ∧ SH w K [] w' K15 [] ∧ KLe K K15) ?_ ?_
    · refine wc_block ?_
      obtain ⟨r20, h21, h22⟩ := Option.bind_eq_some_iff.1 h12
      refine wc_while' (fun (s19 : Int) E' w' => ∃ (K23 : KMap), E' = [(0, .slice a1 n2 c3), (1, .slice a5 n6 c7), (5, .int .i64 s19)] ∧ SH w K [] w' K23 [] ∧ KLe K K23 ∧ rng64 s19) h21 ⟨K, rfl, hS, (KLe.refl _), (by decide : rng64 0)⟩ ⟨rfl, rfl, rfl, trivial⟩ ?_
      rintro s19 _ w25 r28 h29 hx30 ⟨K23, rfl, hS26, hl24, hr27⟩
      refine wc_seq ?_
      refine wc_seq ?_
      refine wc_region ?_
      refine wl_val wn rfl (rv_move rfl) ?_
      refine wl_val wn rfl (rv_move rfl) ?_
      refine wl_val wn rfl (rv_len (t := tStr) Try.underlying26 rfl (SliceAt.mono hl24 hs4)) ?_
      refine wl_val wn rfl (rv_lss rfl rfl) ?_
      refine wl_nil ?_
      refine qe_seq ?_
      refine wc_cond rfl (fun hb31 => ?_) (fun hb31 => ?_)
      · have h32 := cond_t hb31 h29
        refine wc_skip ?_
        refine qe_seq ?_
        refine wc_seq ?_
        refine wc_block ?_
        refine wc_seq ?_
        refine wc_quiet mixed (by kernel_rfl) hS26 ?_
        refine wq_val wn rfl (fun _ _ => (rv_move rfl)) ?_
        refine wq_val wn rfl (fun _ _ => (rv_move rfl)) ?_
        obtain ⟨x33, hx34, h35⟩ := Option.bind_eq_some_iff.1 h32
        refine wq_indexAddr (t := tStr) wn rfl Try.underlying26 tf9 rfl rfl (SliceAt.mono hl24 hs4) hx34 ?_
        intro b36 o37 u38 hu39 ha40
        obtain ⟨rfl, hl41⟩ := hu39
        have ha42 : AtK _ b36 o37 [sv x33] := ha40
        refine wq_val wn rfl (rq_load1 tf9 rfl (ha42 0 _ rfl)) ?_
        refine wq_val wn rfl (fun _ _ => (rv_move rfl)) ?_
        refine wq_val wn rfl (fun _ _ => (rv_move rfl)) ?_
        obtain ⟨x43, hx44, h45⟩ := Option.bind_eq_some_iff.1 h35
        refine wq_indexAddr (t := tStr) wn rfl Try.underlying26 tf9 rfl rfl (SliceAt.mono hl24 hs8) hx44 ?_
        intro b46 o47 u48 hu49 ha50
        obtain ⟨rfl, hl51⟩ := hu49
        have ha52 : AtK _ b46 o47 [sv x43] := ha50
        refine wq_val wn rfl (rq_load1 tf9 rfl (ha52 0 _ rfl)) ?_
        refine wq_val wn rfl (fun _ _ => (rv_sneq rfl rfl)) ?_
        refine wq_nil ?_
        rintro w54 ⟨K53, hS55, hl56⟩
        refine qe_seq ?_
        refine wc_cond rfl (fun hb57 => ?_) (fun hb57 => ?_)
        · have h58 := cond_t hb57 h45
          refine wc_seq ?_
          refine wc_region ?_
          refine wl_val wn rfl (rv_assign (v := .bool false) rfl) ?_
          refine wl_nil ?_
          refine qe_seq ?_
          refine wc_ret ?_
          refine qe_block_ret ?_
          refine qe_then_ret ?_
          refine qe_then_ret ?_
          obtain rfl := Option.some.inj h58
          have e59 := hx30 _ rfl
          subst e59
          refine qe_block_ret ?_
          refine qe_then_ret ?_
          obtain rfl := Option.some.inj h22
          refine qe_then_ret ?_
          obtain rfl := Option.some.inj h13
          exact qe_ret (vs := [_]) Try.results35 ⟨rfl, trivial⟩ ⟨K53, rfl, hS55⟩
        · have h58 := cond_f hb57 h45
          refine wc_skip ?_
          refine qe_block ?_
          refine qe_seq ?_
          refine wc_region ?_
          refine wl_val wn rfl (rv_move rfl) ?_
          refine wl_val wn rfl (rv_add rfl rfl) ?_
          refine wl_val wn rfl (rv_assign rfl) ?_
          refine wl_nil ?_
          obtain rfl := Option.some.inj h58
          exact qe_mid' ⟨_, rfl, K53, rfl, hS55, (hl24.trans hl56), (w64_rng _)⟩ ⟨rfl, rfl, rfl, trivial⟩
      · have h32 := cond_f hb31 h29
        refine wc_exit ?_
        refine qe_then_exit ?_
        refine qe_then_exit ?_
        obtain rfl := Option.some.inj h32
        have e60 := hx30 _ rfl
        subst e60
        refine qe_block_eq ?_
        obtain rfl := Option.some.inj h22
        exact qe_mid' ⟨_, K23, rfl, rfl, hS26, hl24⟩ trivial
    · rintro _ w17 ⟨s14, K15, rfl, rfl, hS18, hl16⟩
      refine qe_seq ?_
      refine wc_seq ?_
      refine wc_region ?_
      refine wl_val wn rfl (rv_assign (v := .bool true) rfl) ?_
      refine wl_nil ?_
      refine qe_seq ?_
      refine wc_ret ?_
      obtain rfl := Option.some.inj h13
      exact qe_ret (vs := [_]) Try.results35 ⟨rfl, trivial⟩ ⟨K15, rfl, hS18⟩

theorem ok_stringslite_HasPrefix (F : Nat) {w : World} {K : KMap} {p0_s : Str} {p1_prefix : Str} {r : Bool} (hS : SH w K [] w K []) (hl1 : p0_s.length ≤ maxLen) (hl2 : p1_prefix.length ≤ maxLen) (hm : M.stringslite_HasPrefix F p0_s p1_prefix = some r) :
    Calls Try.prog 83 #[sv p0_s, sv p1_prefix] w fun e w' => ∃ (K' : KMap), e = .returned (.bool r) ∧ SH w K [] w' K' [] := by
  rw [M.stringslite_HasPrefix] at hm
  refine calls_in Try.func83 rfl Try.ntmps83 rfl ?_
  refine wc_seq ?_
  refine wc_region ?_
  refine wl_val wn rfl (rv_assign (v := .bool false) rfl) ?_
  refine wl_nil ?_
  refine qe_seq ?_
  refine wc_seq ?_
  refine wc_region ?_
  refine wl_val wn rfl (rv_move rfl) ?_
  refine wl_val wn rfl (rv_slen Try.underlying9 rfl) ?_
  refine wl_val wn rfl (rv_move rfl) ?_
  refine wl_val wn rfl (rv_slen Try.underlying9 rfl) ?_
  refine wl_val wn rfl (rv_geq rfl rfl) ?_
  refine wl_val wn rfl (rv_move rfl) ?_
  rcases bool_tf (decide ((p1_prefix.length : Int) ≤ (p0_s.length : Int))) with hb3 | hb3
  · have h4 := cond_t hb3 hm
    refine wl_val (wg rfl rfl hb3) rfl (rv_move rfl) ?_
    refine wl_val (wg rfl rfl hb3) rfl (rv_move rfl) ?_
    refine wl_val (wg rfl rfl hb3) rfl (rv_slen Try.underlying9 rfl) ?_
    obtain ⟨x5, hx6, h7⟩ := Option.bind_eq_some_iff.1 h4
    refine wl_val (wg rfl rfl hb3) rfl (rv_ssl_h Try.underlying9 rfl rfl hx6) ?_
    refine wl_val (wg rfl rfl hb3) rfl (rv_move rfl) ?_
    refine wl_val (wg rfl rfl hb3) rfl (rv_seql rfl rfl) ?_
    refine wl_val wn rfl (rv_pick_t rfl hb3 rfl) ?_
    refine wl_val wn rfl (rv_assign rfl) ?_
    refine wl_nil ?_
    refine qe_seq ?_
    refine wc_ret ?_
    obtain rfl := Option.some.inj h7
    exact qe_ret (vs := [_]) Try.results83 ⟨rfl, trivial⟩ ⟨K, rfl, hS⟩
  · have h4 := cond_f hb3 hm
    refine wl_un (ug rfl rfl hb3) rfl ?_
    refine wl_un (ug rfl rfl hb3) rfl ?_
    refine wl_un (ug rfl rfl hb3) rfl ?_
    refine wl_un (ug rfl rfl hb3) rfl ?_
    refine wl_un (ug rfl rfl hb3) rfl ?_
    refine wl_un (ug rfl rfl hb3) rfl ?_
    refine wl_val wn rfl (rv_pick_f (v := .bool false) rfl hb3 rfl) ?_
    refine wl_val wn rfl (rv_assign rfl) ?_
    refine wl_nil ?_
    refine qe_seq ?_
    refine wc_ret ?_
    obtain rfl := Option.some.inj h4
    exact qe_ret (vs := [_]) Try.results83 ⟨rfl, trivial⟩ ⟨K, rfl, hS⟩
end Go.Proofs.Ytdopcpaapniioaa
