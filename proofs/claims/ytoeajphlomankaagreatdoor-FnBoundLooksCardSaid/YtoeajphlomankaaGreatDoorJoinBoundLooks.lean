/-
  'FnBoundLooksCardSaid' is proved: whatever byte slices are handed in, 'laws.FnBoundLooks' returns true, they read as they did, and so does the listed variable. No conditions but the card's own.
-/
import Derived.Test.YtoeajphlomankaaGreatDoorRows
import Derived.Test.YtoeajphlomankaaGreatDoorCards
import Derived.Test.YtoeajphlomankaaGreatDoorTie
import Derived.Test.YtoeajphlomankaaGreatDoorCoreL
import Derived.Test.YtoeajphlomankaaGreatDoorLawBoundLooks
import Derived.Test.YtoeajphlomankaaGreatDoorWalkA7
import Derived.ChangeVars
import Derived.LaidMore
import Derived.LaidHandle
import Derived.LaidLaws
import Derived.Stop.Joined
import Derived.SevenTiedAt
import Derived.JoinedOf
import Derived.JoinedAt
namespace Go.Proofs.YtoeajphlomankaaGreatDoor.fnBoundLooks
open Go.ChangeShapes Go.WideShapes Go.ChangeAt Go.RowKit Go.Fk
theorem own : ownKnob Tryz.prog.godebug = none := by kernel_rfl
theorem cells5 : Tryz.prog.cellsOf 5 = 1 := by kernel_rfl
theorem gNone : Tryz.prog.globalNamed "loop.example/fossick/impl.none" = some 0 := by kernel_rfl
theorem tNone : (Tryz.prog.globals[0]?).map (·.type) = some 92 := by kernel_rfl
def laid : List (String × DataW Unit) := [("loop.example/fossick/impl.none", Rows.laid_loop_example_fossick_impl_none)]
theorem door_met (os : Os) (args : Array Value) : laidMetH Tryz.prog laid ((World.doorLaid Tryz.prog 4000 os).forCall (fun _ _ => 0) ⟨#[], args, []⟩).memory :=
 laidMetH_of_parts3 (fuel := 8) (laidMet_of_run' 8 (by kernel_rfl) (by kernel_rfl)) (by kernel_rfl) (by kernel_rfl)
theorem var_stands {H : Type} {enc : TypeId × Value → H} {W W' : World} {gs : List (DataW H)} {q : List MemPlace} (hV : DataW.TrodVars enc Tryz.prog W (fun _ => true) ["loop.example/fossick/impl.none"] gs q) (hg : W'.heap[0]? = W.heap[0]?) :
  ∃ g, gs = [g] ∧ ∀ sp : Nat → Bool, DataW.TrodVars enc Tryz.prog W' sp ["loop.example/fossick/impl.none"] [g] q := by
 obtain ⟨g, t, cs, fuel, d, p, rfl, h1, h2, h3, h4, rfl⟩ := trodVars_one hV
 obtain rfl := Option.some.inj (gNone.symm.trans h1)
 obtain rfl := Option.some.inj (tNone.symm.trans h2)
 obtain ⟨y0, y1, m, hx, hl, k0, k1⟩ := trod_struct2 Tryz.underlying92 h4
 obtain ⟨a, e0, rfl, w0⟩ := DataW.trod_int Tryz.underlying3 k0
 obtain ⟨b, e1, rfl, w1⟩ := DataW.trod_int Tryz.underlying3 k1
 simp only [Prod.mk.injEq] at hx
 obtain ⟨rfl, rfl⟩ := hx
 refine ⟨_, rfl, fun sp => trodVars_mk1 gNone tNone (cs := cs) (fuel := 2) ?_ ?_⟩
 ·rw [← h3]
  simp only [World.var?, gNone, Option.bind_some, hg]
 ·exact trod_struct2_mk (n := 1) (y0 := (.lit (.int .i64 a), [])) (y1 := (.lit (.int .i64 b), [])) Tryz.underlying92 hl (by rw [e0]; exact trod_int_mk 0 Tryz.underlying3 w0) (by rw [e1]; exact trod_int_mk 0 Tryz.underlying3 w1)
set_option maxRecDepth 100000 in
theorem lifted (os : Os) (started : os.Started) (H : Type) (enc : TypeId × Value → H) :
  ReturnsInHanded {} Tryz.checked os 5 .any (fun w args => (Rows.fnBoundLooksSpec.pre enc Tryz.prog Tryz.f5 [] false w args ∧ laidMetH Tryz.prog laid w) ∧ sizedMet enc Tryz.prog Tryz.f5 (OpenSpec.ofChange Rows.fnBoundLooksSpec) false w args)
   (Rows.fnBoundLooksSpec.post enc Tryz.prog Tryz.f5 false true false false) := by
 refine returnsInHanded_of_change_and (C := Tryz.checked) (X := fun w _ => laidMetH Tryz.prog laid w) (fun _ _ _ hh h => h.of_heap hh) own started (by kernel_rfl) Tryz.func5
  (ChangeSpec.witness_shaped (enc := enc) (C := Tryz.checked) (os := os) (X := fun w _ => laidMetH Tryz.prog laid w) false (World.doorLaid Tryz.prog 4000 os) #[.slice none 0 0] 8 rfl (World.shaped_of_RefB (by kernel_rfl) (by kernel_rfl)) (by kernel_rfl) (by kernel_rfl) (by kernel_rfl) (door_met os _)) ?_
 intro W base args ds gs before hval0 hW _ _ _ _
 have hval : ∀ (j : Nat) t v, Tryz.f5.params[j]? = some t → args[j]? = some v → Value.okWide Tryz.prog W .any base t v := hval0
 have hW' := hW
 obtain ⟨p, q, hA0, hV0, rfl, _, _⟩ := hW
 have hA : DataW.TrodAll enc Tryz.prog W 0 (fun _ => true) true Tryz.f5.params.toList args.toList ds p := hA0
 have hV : DataW.TrodVars enc Tryz.prog W (fun _ => true) ["loop.example/fossick/impl.none"] gs q := hV0
 rw [Tryz.params5] at hA hval
 obtain ⟨v0, vs0, d0, ds0, p0, q0, hargs, rfl, rfl, h0, r0⟩ := trodAll_cons hA
 obtain ⟨rfl, rfl, rfl⟩ := trodAll_nil r0
 obtain rfl : args = #[v0] := by cases args; simp_all
 obtain ⟨a0, n0, c0, xs0, rfl, hs0, k0⟩ := open_bytesAt Tryz.underlying22 Tryz.underlying5 cells5 (hval 0 22 v0 rfl rfl) h0
 clear hA0 hval0
 simp only [List.append_nil] at hW'
 obtain ⟨g1, rfl, _⟩ := var_stands hV (W' := W) rfl
 obtain ⟨F, hF⟩ := law_boundLooks xs0
 refine (ok_laws_FnBoundLooks F (start_all W) hs0 hF).mono fun e W' ⟨K', he, hS⟩ => ?_
 subst he
 have hB := hS.below
 have h0 : 0 < W.heap.size := by
  obtain ⟨g, t, cs, fuel, d, p, _, h1, _, h3, _, _⟩ := trodVars_one hV
  obtain rfl := Option.some.inj (gNone.symm.trans h1)
  rcases Nat.lt_or_ge 0 W.heap.size with h | h
  ·exact h
  ·simp only [World.var?, gNone, Option.bind_some, Array.getElem?_eq_none h] at h3
   cases h3
 obtain ⟨g2, hg2, hk⟩ := var_stands hV (W' := W') (hS.old 0 h0 (by simp))
 obtain rfl : g1 = g2 := by injection hg2
 exact ⟨_, rfl, post_of_below (pa := (p0 ++ [])) (pv := q) hW' (fun _ _ _ => trodAll_mk1 (shut_bool Tryz.underlying4 _))
  (fun sp hsp => trodAll_cons_mk (k0 W' hB sp fun p hp => hsp p (by simp [hp])) trodAll_mk0) (fun sp _ => hk sp) (by simp) hB
  (ok_one (by kernel_rfl) rfl (okWide_bool_mk Tryz.underlying4 _))⟩
theorem over : Rows.fnBoundLooksRow.holds Tryz.pinned (OpenSpec.ofChange Rows.fnBoundLooksSpec) :=
 OpenClaim.holds_of_wide 5 Tryz.f5 rfl rfl rfl rfl rfl rfl rfl ⟨rfl, rfl, rfl, rfl, rfl⟩ rfl rfl rfl rfl rfl (by kernel_rfl) Tryz.func5 (by kernel_rfl)
  (of_decide_eq_true (by kernel_rfl)) (by unfold Func.isWrapper; first | (rw [if_pos (by decide +kernel)]; kernel_rfl) | (rw [if_neg (by decide +kernel)]; exact ⟨rfl, rfl⟩))
  (fun os started H enc _ => lifted os started H enc)
theorem proved : Rows.FnBoundLooksCardSaid :=
 Claim7.holds_tied_plain_at .later [] [.data] true (true, "38d8c667efe3a085995acb465ab31f2560f6f8fe05eccaf582187654782245af") false
  over (fun _ h => by cases h) (by kernel_rfl) (fun _ h => by cases h) fnBoundLooks_row_tie rfl ⟨rfl, rfl⟩ (by kernel_rfl) rfl
  (fun f fn hf hfn => by
   obtain rfl : f = 5 := Option.some.inj ((show Tryz.prog.funcNamed "loop.example/fossick/laws.FnBoundLooks" = some 5 by kernel_rfl).symm.trans hf) |>.symm
   obtain rfl : fn = Tryz.f5 := (Option.some.inj (Tryz.func5.symm.trans hfn)).symm
   exact ⟨by kernel_rfl, fun j t ht => by
    rw [Tryz.params5] at ht
    have hm : t ∈ [22] := by simpa using Array.mem_of_getElem? ht
    have hall : ([22].all fun u => !Tryz.prog.wantsStandIn u) = true := by kernel_rfl
    exact (show Tryz.prog.wantsStandIn t = false by simpa using List.all_eq_true.1 hall t hm)⟩)
  (by kernel_rfl)
end Go.Proofs.YtoeajphlomankaaGreatDoor.fnBoundLooks
