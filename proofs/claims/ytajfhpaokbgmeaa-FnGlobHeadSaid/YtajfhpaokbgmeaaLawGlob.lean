/-
  What begins with a text is what is of it with a star behind: in plain data. Of no program.
-/
import Derived.Test.YtajfhpaokbgmeaaLawNear
import Derived.Test.YtajfhpaokbgmeaaLawWordDraw
namespace Go.Fk
open Go

theorem hasPre_nil (w : Str) : hasPre [] w = true := by simp [hasPre]
theorem hasPre_cons (c b : UInt8) (s w : Str) : hasPre (c :: s) (b :: w) = (b == c && hasPre s w) := by
  unfold hasPre
  simp only [List.length_cons, List.take_succ_cons, List.cons_beq_cons, Nat.add_le_add_iff_right]
  cases decide (s.length ≤ w.length) <;> cases b == c <;> rfl
theorem word_byte {c : UInt8} (h : wordB c = true) : (c == 42) = false ∧ (c == 63) = false := by
  constructor
  · rw [beq_eq_false_iff_ne]
    rintro rfl
    exact absurd h (by decide)
  · rw [beq_eq_false_iff_ne]
    rintro rfl
    exact absurd h (by decide)
theorem nil_beq (c : UInt8) (s : Str) : ((c :: s) == ([] : Str)) = false := rfl
theorem implStar : ∀ (w : Str) (F : Nat), w.length + 2 ≤ F → M.impl_globHas F [42] w = some true
  | w, F, h => by
    obtain ⟨F, rfl⟩ : ∃ G, F = G + 1 := ⟨F - 1, by omega⟩
    rw [M.impl_globHas]
    dsimp only
    rw [nil_beq, cond_false, getI_zero, Option.bind_some, show ((42 : UInt8) == 42) = true from rfl, cond_true, subS_tail, Option.bind_some]
    obtain ⟨G, rfl⟩ : ∃ G, F = G + 1 := ⟨F - 1, by omega⟩
    have hn : M.impl_globHas (G + 1) [] w = some (w == []) := by rw [M.impl_globHas]; rfl
    rw [hn, Option.bind_some]
    match w, h with
    | [], _ => rfl
    | b :: w, h =>
      rw [nil_beq, cond_false, Bool.not_false, cond_true, subS_tail, Option.bind_some, implStar w (G + 1) (by simp only [List.length_cons] at h; omega)]
      rfl
theorem implGlob : ∀ (s w : Str) (F : Nat), (∀ c ∈ s, wordB c = true) → s.length + w.length + 2 ≤ F → M.impl_globHas F (s ++ [42]) w = some (hasPre s w)
  | [], w, F, _, h => by
    rw [List.nil_append, implStar w F (by simp only [List.length_nil] at h; omega), hasPre_nil]
  | c :: s, w, F, hs, h => by
    simp only [List.length_cons] at h
    obtain ⟨F, rfl⟩ : ∃ G, F = G + 1 := ⟨F - 1, by omega⟩
    obtain ⟨h42, h63⟩ := word_byte (hs c (by simp))
    rw [M.impl_globHas, List.cons_append]
    dsimp only
    rw [nil_beq, cond_false, getI_zero, Option.bind_some, h42, cond_false]
    match w, h with
    | [], _ => rfl
    | b :: w, h =>
      simp only [List.length_cons] at h
      rw [nil_beq, cond_false, Option.bind_some, h63, cond_false, Option.bind_some, getI_zero, Option.bind_some, hasPre_cons]
      have hcb : (c == b) = (b == c) := by rw [Bool.eq_iff_iff, beq_iff_eq, beq_iff_eq]; exact eq_comm
      rw [hcb]
      cases b == c
      · rfl
      · rw [cond_true, subS_tail, Option.bind_some, subS_tail, Option.bind_some, implGlob s w F (fun x hx => hs x (by simp [hx])) (by omega)]; rfl
theorem specStar : ∀ (w : Str) (F : Nat), w.length + 2 ≤ F → M.spec_l5Glob F [42] w = some true
  | w, F, h => by
    obtain ⟨F, rfl⟩ : ∃ G, F = G + 1 := ⟨F - 1, by omega⟩
    rw [M.spec_l5Glob]
    dsimp only
    rw [nil_beq, cond_false, getI_zero, Option.bind_some, show ((42 : UInt8) == 42) = true from rfl, cond_true, subS_tail, Option.bind_some]
    obtain ⟨G, rfl⟩ : ∃ G, F = G + 1 := ⟨F - 1, by omega⟩
    have hn : M.spec_l5Glob (G + 1) [] w = some (w == []) := by rw [M.spec_l5Glob]; rfl
    rw [hn, Option.bind_some]
    match w, h with
    | [], _ => rfl
    | b :: w, h =>
      rw [nil_beq, cond_false, Bool.not_false, cond_true, subS_tail, Option.bind_some, specStar w (G + 1) (by simp only [List.length_cons] at h; omega)]
      rfl
theorem specGlob : ∀ (s w : Str) (F : Nat), (∀ c ∈ s, wordB c = true) → s.length + w.length + 2 ≤ F → M.spec_l5Glob F (s ++ [42]) w = some (hasPre s w)
  | [], w, F, _, h => by
    rw [List.nil_append, specStar w F (by simp only [List.length_nil] at h; omega), hasPre_nil]
  | c :: s, w, F, hs, h => by
    simp only [List.length_cons] at h
    obtain ⟨F, rfl⟩ : ∃ G, F = G + 1 := ⟨F - 1, by omega⟩
    obtain ⟨h42, h63⟩ := word_byte (hs c (by simp))
    rw [M.spec_l5Glob, List.cons_append]
    dsimp only
    rw [nil_beq, cond_false, getI_zero, Option.bind_some, h42, cond_false]
    match w, h with
    | [], _ => rfl
    | b :: w, h =>
      simp only [List.length_cons] at h
      rw [nil_beq, Bool.not_false, cond_true, Option.bind_some, h63, cond_false, Option.bind_some, getI_zero, Option.bind_some, hasPre_cons]
      have hcb : (c == b) = (b == c) := by rw [Bool.eq_iff_iff, beq_iff_eq, beq_iff_eq]; exact eq_comm
      rw [hcb]
      cases b == c
      · rfl
      · rw [cond_true, subS_tail, Option.bind_some, subS_tail, Option.bind_some, specGlob s w F (fun x hx => hs x (by simp [hx])) (by omega)]; rfl
def globB (b : UInt8) : Bool := wordB b || (b == 42 || b == 63)
theorem within_gen (F : Nat) (n a b : Int) : M.impl_within F n a b = some (decide (a ≤ n) && decide (n ≤ b)) := by
  unfold M.impl_within
  cases decide (a ≤ n) <;> rfl
theorem spec_in' (F : Nat) (n a b : Int) : M.spec_l1In F n a b = some (decide (a ≤ n) && decide (n ≤ b)) := by
  unfold M.spec_l1In
  cases decide (a ≤ n) <;> rfl
def globOkS (p : Str) : Bool := p.all globB && (decide (1 ≤ (p.length : Int)) && decide ((p.length : Int) ≤ 12))
theorem implGlobOk (F : Nat) (p : Str) : M.impl_GlobOk F p = some (globOkS p) := by
  unfold M.impl_GlobOk globOkS
  rw [all_from (p := globB) (xs := p) (fun i x hx => ?_) p.length 0 (by omega), List.drop_zero]
  · cases p.all globB
    · rfl
    · simp only [if_true, Option.bind_some, Sum.elim_inl, Bool.true_and]
      rw [within_gen]; rfl
  · rw [getI_n, hx, Option.bind_some, impl_byte, Option.bind_some]
    unfold globB
    cases wordB x
    · rw [Bool.not_false, cond_true, Option.bind_some]
      cases x == 42
      · rw [Bool.not_false, cond_true, Option.bind_some, Option.bind_some]
        cases x == 63 <;> rfl
      · rfl
    · rfl
theorem wordS_one (x : UInt8) : wordS [x] = wordB x := by
  unfold wordS
  simp
theorem specGlobOk (F : Nat) (p : Str) (hF : p.length + 10 < F) (hl : p.length ≤ 1000000) : M.spec_l5GlobOk F p = some (globOkS p) := by
  unfold M.spec_l5GlobOk globOkS
  have key := fun f h h0 => all_while (p := globB) (xs := p) (f := f) h h0 p.length 0 F (by omega) (by omega)
  have key0 : ∀ (f : Int → Option (Int ⊕ (Unit ⊕ Bool))), (∀ (i : Nat) x, p[i]? = some x → f (i : Int) = some (if globB x then .inl ((i + 1 : Nat) : Int) else .inr (.inr false))) → f (p.length : Int) = some (.inr (.inl ())) → whileM f F (0 : Int) = some (if p.all globB then .inl () else .inr false) := fun f h h0 => by
    have := key f h h0
    rwa [List.drop_zero] at this
  rw [key0 _ (fun i x hx => ?_) ?_]
  · cases p.all globB
    · rfl
    · simp only [if_true, Option.bind_some, Sum.elim_inl, Bool.true_and]
      rw [spec_in']; rfl
  · rw [decide_eq_false (by omega)]; rfl
  · have hi := (List.getElem?_eq_some_iff.1 hx).1
    have hm : 1000 ≤ maxLen := by decide
    rw [decide_eq_true (by omega), cond_true, getI_n, hx, Option.bind_some, w64_succ' (by omega)]
    unfold globB
    cases h42 : x == 42
    · rw [Bool.not_false, cond_true, Option.bind_some]
      cases h63 : x == 63
      · have hsub : subS p (i : Int) ((i + 1 : Nat) : Int) = some [x] := by
          have hx' := (List.getElem?_eq_some_iff.1 hx).2
          unfold subS
          rw [if_pos ⟨by omega, by omega, by omega⟩, Int.toNat_natCast, Int.toNat_natCast, List.drop_take, show i + 1 - i = 1 by omega, List.drop_eq_getElem_cons hi, hx']
          rfl
        rw [Bool.not_false, cond_true, hsub, Option.bind_some, spec_word F [x] (by simp only [List.length_singleton]; omega) (by simp only [List.length_singleton]; omega), wordS_one, Option.bind_some]
        cases wordB x <;> rfl
      · cases wordB x <;> rfl
    · cases wordB x <;> rfl
/-- what a loop that keeps the fitting words gives -/
theorem keep_forE {ws : List Str} {p : Str → Bool} {f : Nat → List Str → Option (List Str)} (hl : ws.length ≤ 1000)
    (h : ∀ (i : Nat) w (out : List Str), ws[i]? = some w → out.length ≤ 1000 → f i out = some (if p w then out ++ [w] else out)) : forE f ws.length 0 [] = some (ws.filter p) := by
  obtain ⟨t, ht, hp⟩ := forE_run (σ := List Str) (f := f) (fun i s' => s' = (ws.take i).filter p) ws.length (fun i s' hi hs => by
    have hle : ((ws.take i).filter p).length ≤ 1000 := by
      have h1 := List.length_filter_le p (ws.take i)
      simp only [List.length_take] at h1
      omega
    refine ⟨_, h i ws[i] s' (List.getElem?_eq_getElem hi) (by rw [hs]; exact hle), ?_⟩
    rw [List.take_succ_eq_append_getElem hi, List.filter_append, hs]
    cases hp : p ws[i] <;> simp [hp]) ws.length 0 [] (by omega) (by simp)
  rw [ht, hp, List.take_length]
theorem keep_while {ws : List Str} {p : Str → Bool} {f : (List Str) × Int → Option (((List Str) × Int) ⊕ (List Str))} (hl : ws.length ≤ 1000)
    (h : ∀ (i : Nat) w (out : List Str), ws[i]? = some w → out.length ≤ 1000 → f (out, (i : Int)) = some (.inl (if p w then out ++ [w] else out, ((i + 1 : Nat) : Int))))
    (h0 : ∀ out, f (out, (ws.length : Int)) = some (.inr out)) (F : Nat) (hF : ws.length < F) : whileM f F (([] : List Str), (0 : Int)) = some (ws.filter p) := by
  obtain ⟨t, ht, hp⟩ := whileM_run (σ := (List Str) × Int) (τ := List Str) (f := f) (Post := fun t => t = ws.filter p) (fun i s => s = ((ws.take i).filter p, (i : Int))) ws.length (fun i s hi hs => by
    subst hs
    have hle : ((ws.take i).filter p).length ≤ 1000 := by
      have h1 := List.length_filter_le p (ws.take i)
      simp only [List.length_take] at h1
      omega
    refine .inl ⟨_, h i ws[i] _ (List.getElem?_eq_getElem hi) hle, ?_⟩
    rw [List.take_succ_eq_append_getElem hi, List.filter_append]
    cases hp : p ws[i] <;> simp [hp]) (fun s hs => by
    subst hs
    exact ⟨_, h0 _, by rw [List.take_length]⟩) ws.length 0 (([] : List Str), (0 : Int)) F (by omega) hF (by simp)
  rw [ht, hp]
theorem implGlobOf (F : Nat) (ws : List Str) (s : Str) (hs : ∀ c ∈ s, wordB c = true) (hsl : s.length ≤ 100) (hF : 1000 < F) :
    M.impl_GlobOf F ws (s ++ [42]) = some (if upS ws && globOkS (s ++ [42]) then ws.filter (hasPre s) else []) := by
  unfold M.impl_GlobOf
  rw [impl_up, Option.bind_some]
  cases hu : upS ws with
  | false => rfl
  | true =>
    have hup := (up_iff ws).1 hu
    have hf := hup.few
    rw [Bool.not_true, cond_false, implGlobOk, Option.bind_some, Option.bind_some]
    cases hg : globOkS (s ++ [42]) with
    | false => rfl
    | true =>
      rw [Bool.not_true, cond_false, keep_forE (p := hasPre s) (by omega) (fun i w out hw ho => ?_)]
      · rfl
      · have hwo := hup.word w (List.mem_of_getElem? hw)
        have hwl := word_len hwo
        rw [getI_n, hw, Option.bind_some]
        unfold M.impl_GlobHas
        rw [implGlobOk, hg, Option.bind_some, cond_true, impl_word, hwo, Option.bind_some, cond_true, implGlob s w F hs (by omega), Option.bind_some, Option.bind_some]
        cases hasPre s w
        · rfl
        · rw [cond_true, catL_ok (by simp only [List.length_singleton]; omega)]; rfl
theorem specGlobOf (F : Nat) (ws : List Str) (s : Str) (hs : ∀ c ∈ s, wordB c = true) (hsl : s.length ≤ 100) (hF : 1000 < F) (hl : ws.length ≤ 100) (hn : ∀ w ∈ ws, w.length ≤ 100) :
    M.spec_GlobOf F ws (s ++ [42]) = some (if upS ws && globOkS (s ++ [42]) then ws.filter (hasPre s) else []) := by
  have hm : 1000 ≤ maxLen := by decide
  unfold M.spec_GlobOf
  rw [spec_up F ws (by omega) (by omega) (fun w hw => by have := hn w hw; omega), Option.bind_some]
  cases hu : upS ws with
  | false => rfl
  | true =>
    have hup := (up_iff ws).1 hu
    have hf := hup.few
    rw [Bool.not_true, cond_false, specGlobOk F _ (by simp only [List.length_append, List.length_singleton]; omega) (by simp only [List.length_append, List.length_singleton]; omega), Option.bind_some, Option.bind_some]
    cases hg : globOkS (s ++ [42]) with
    | false => rfl
    | true =>
      rw [Bool.not_true, cond_false, keep_while (ws := ws) (p := hasPre s) (by omega) (fun i w out hw ho => ?_) (fun out => ?_) F (by omega)]
      · rfl
      · have hi := (List.getElem?_eq_some_iff.1 hw).1
        have hwl := word_len (hup.word w (List.mem_of_getElem? hw))
        dsimp only
        rw [decide_eq_true (by omega), cond_true, getI_n, hw, Option.bind_some, specGlob s w F hs (by omega), Option.bind_some, w64_succ' (by omega)]
        cases hasPre s w
        · rfl
        · rw [cond_true, Option.bind_some, catL_ok (by simp only [List.length_singleton]; omega)]; rfl
      · dsimp only
        rw [decide_eq_false (by omega)]; rfl
theorem nearOf_ok (F : Nat) (ws : List Str) (s : Str) (hu : Up ws) (hs : wordS s = true) (hF : 1000 < F) : M.impl_NearOf F ws s 0 = some (ws.filter fun w => w == s) := by
  have hf := hu.few
  unfold M.impl_NearOf
  rw [impl_up, (up_iff ws).2 hu, Option.bind_some, Bool.not_true, cond_false, impl_word, hs, Option.bind_some, Bool.not_true, cond_false, within_gen, Option.bind_some, Option.bind_some]
  rw [show (!(decide ((0 : Int) ≤ 0) && decide ((0 : Int) ≤ 2))) = false from rfl, cond_false, keep_forE (p := fun w => w == s) (by omega) (fun i w out hw ho => ?_)]
  · rfl
  · obtain ⟨r, hr, r0, r1⟩ := nearFar_ok F w s (hu.word w (List.mem_of_getElem? hw)) hs (by omega)
    rw [getI_n, hw, Option.bind_some, hr, Option.bind_some]
    by_cases h : w = s
    · rw [decide_eq_true (by have := r1.2 h; omega), cond_true, catL_ok (by simp only [List.length_singleton]; omega), h]
      simp
    · have hne : ¬ r ≤ 0 := fun hle => h (r1.1 (by omega))
      rw [decide_eq_false hne, beq_eq_false_iff_ne.2 h]; rfl
theorem filter_one : ∀ {ws : List Str} {s : Str}, Asc ws → ws.filter (fun w => w == s) = if s ∈ ws then [s] else []
  | [], s, _ => by simp
  | a :: ws, s, h => by
    have hc := List.pairwise_cons.1 h
    rw [List.filter_cons, filter_one hc.2]
    by_cases e : a = s
    · subst e
      have : a ∉ ws := fun hm => by have := hc.1 a hm; rw [sless_irrefl] at this; cases this
      simp [this]
    · have h1 : (a == s) = false := beq_eq_false_iff_ne.2 e
      have h2 : s ≠ a := fun q => e q.symm
      simp [h1, h2]
theorem rankS_nonneg {ws : List Str} {s : Str} : decide ((0 : Int) ≤ rankS ws s) = decide (s ∈ ws) := by
  by_cases h : s ∈ ws
  · rw [decide_eq_true h]
    unfold rankS
    cases hf : ws.findIdx? (fun x => s == x) with
    | some k => simp
    | none =>
      rw [List.findIdx?_eq_none_iff] at hf
      have := hf s h
      simp at this
  · rw [rankS_none h, decide_eq_false h]; rfl
theorem law_globHead (code more : List UInt8) : ∃ F, M.laws_FnGlobHead F code more = some true := by
  refine ⟨5000000, ?_⟩
  generalize hF : 5000000 = F
  unfold M.laws_FnGlobHead
  cases (decide ((1048576 : Int) < (code.length : Int)))
  case true => rfl
  rw [cond_false, Option.bind_some]
  cases (decide ((1048576 : Int) < (more.length : Int)))
  case true => rfl
  obtain ⟨ws, hw, hd1, hd2⟩ := drawDawgOf_ok F code (by omega)
  obtain ⟨s, s2, hs, hsw⟩ := drawNear_ok F more
  obtain ⟨hg, hl⟩ := dawg_good ws
  have hm : 1000 ≤ maxLen := by decide
  have hsl := word_len hsw
  have hsb : ∀ c ∈ s, wordB c = true := by
    unfold wordS at hsw
    rw [Bool.and_eq_true, List.all_eq_true] at hsw
    exact hsw.1
  have hc : catS s ([42] : Str) = some (s ++ [42]) := by rw [catS, if_pos (by simp only [List.length_singleton]; omega)]
  have hfl : ∀ x : List Str, x.length ≤ 1000 → M.laws_foTexts F x x = some true := fun x hx => foTexts_self F x (by omega) (by omega)
  have hres : (if upS ws && globOkS (s ++ [42]) then ws.filter (hasPre s) else []).length ≤ 1000 := by
    have := List.length_filter_le (hasPre s) ws
    split
    · omega
    · simp
  have hspec := specGlobOf F ws s hsb (by omega) (by omega) (by omega) (fun w hw => by have := hd2 w hw; omega)
  rw [cond_false, hw, Option.bind_some, hs, Option.bind_some]
  dsimp only
  rw [hc, Option.bind_some, implGlobOf F ws s hsb (by omega) (by omega), Option.bind_some, Option.bind_some, hspec, Option.bind_some, hfl _ hres, Option.bind_some, Bool.not_true, cond_false, impl_up, Option.bind_some]
  cases hu : upS ws with
  | false =>
    rw [hu] at hres hspec
    rw [Bool.not_false, cond_true, Option.bind_some, cond_true, Option.bind_some, hspec, Option.bind_some, hfl _ hres]
    rfl
  | true =>
    have hup := (up_iff ws).1 hu
    have hf := hup.few
    rw [Bool.not_true, cond_false, Option.bind_some]
    by_cases h12 : 12 ≤ s.length
    · rw [decide_eq_true (by omega), cond_true, Option.bind_some, hspec, Option.bind_some, hu, Bool.true_and]
      rw [hu, Bool.true_and] at hres
      rw [hfl _ hres]; rfl
    · rw [decide_eq_false (by omega), cond_false]
      have hgok : globOkS (s ++ [42]) = true := by
        unfold globOkS
        rw [Bool.and_eq_true, List.all_eq_true]
        refine ⟨fun c hc => ?_, ?_⟩
        · unfold globB
          rcases List.mem_append.1 hc with h | h
          · rw [hsb c h]; rfl
          · rw [List.mem_singleton.1 h]; rfl
        · simp only [List.length_append, List.length_singleton, Bool.and_eq_true, decide_eq_true_iff]
          omega
      have hi := dawg_of_up hup
      have h2 : ([42] : Str) = [] ++ [42] := rfl
      have hfew : (([] : List Str).length + ([s] : List Str).length) * 16 ≤ 140737488355328 := by simp
      rw [impl_dawg F ws (by omega), Option.bind_some, nearOf_ok F ws s hup hsw (by omega), Option.bind_some, rank_ok F _ s (by omega) (by omega), okS_of hi, hi.wordsOf_eq, if_pos rfl, Option.bind_some, rankS_nonneg, catL_ok hfew, Option.bind_some, List.nil_append]
      have hcond : (cond (decide (s ∈ ws)) (some ([s] : List Str)) (some ([] : List Str)) : Option (List Str)) = some (if s ∈ ws then [s] else []) := by
        by_cases h : s ∈ ws
        · rw [decide_eq_true h, if_pos h]; rfl
        · rw [decide_eq_false h, if_neg h]; rfl
      have hw1 : (if s ∈ ws then [s] else ([] : List Str)).length ≤ 1000 := by split <;> simp
      have hfp := List.length_filter_le (hasPre s) ws
      rw [hcond, Option.bind_some, head_ok F _ s (by omega) (by omega), okS_of hi, hi.wordsOf_eq, Option.bind_some, hgok, Bool.and_self, if_pos rfl, hfl _ (by omega), Option.bind_some, cond_true, filter_one hup.asc, hfl _ hw1, Option.bind_some, cond_true, h2,
        implGlobOf F ws [] (by simp) (by simp) (by omega), hu, Bool.true_and, Option.bind_some]
      have hall : ws.filter (hasPre []) = ws := by
        rw [List.filter_eq_self]
        intro a _
        exact hasPre_nil a
      rw [show globOkS (([] : Str) ++ [42]) = true from rfl, if_pos rfl, hall, hfl ws (by omega)]
      rfl
end Go.Fk
