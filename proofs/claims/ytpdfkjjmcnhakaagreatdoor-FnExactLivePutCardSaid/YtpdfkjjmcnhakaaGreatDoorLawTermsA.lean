import Derived.Test.YtpdfkjjmcnhakaaGreatDoorLawTSC
import Derived.Test.YtpdfkjjmcnhakaaGreatDoorLawGather
/-
  The terms of a text: the program and the reference find the same. Of no program.
-/
set_option linter.unusedVariables false
namespace Go.Fk
open Go
theorem wordsA_ok: ∀(n:Nat) (s:Str) (o k:Nat),s.length≤n→(wordsA s o k).length≤s.length∧∀w∈wordsA s o k,wordS w.Text=true
 | n,[],o,k,_=>by rw [wordsA_nil];simp
 | 0,b::r,o,k,h=>by simp at h
 | n+1,b::r,o,k,h=>by
  rw [wordsA]
  by_cases hb:isW b=true
  ·rw [if_pos hb]
   have hl:=List.takeWhile_prefix isW (l:=b::r)
   have hle:=hl.length_le
   have hpos:0<((b::r).takeWhile isW).length:=by rw [List.takeWhile_cons,if_pos hb];simp
   have ih:=wordsA_ok n ((b::r).drop ((b::r).takeWhile isW).length) (o+((b::r).takeWhile isW).length) (k+1) (by rw [List.length_drop];omega)
   rw [List.length_drop] at ih
   refine⟨by rw [List.length_cons];omega,fun w hw=>?_⟩
   rcases List.mem_cons.1 hw with rfl | hw
   ·simp only [wordS,Bool.and_eq_true,decide_eq_true_iff,List.all_eq_true]
    refine⟨fun x hx=>?_,?_,?_⟩
    ·obtain⟨y,hy,rfl⟩:=List.mem_map.1 (List.mem_of_mem_take hx)
     exact List.all_eq_true.1 List.all_takeWhile y hy
    ·rw [List.length_take,List.length_map];omega
    ·rw [List.length_take];omega
   ·exact ih.2 w hw
  ·rw [if_neg hb]
   have ih:=wordsA_ok n r (o+1) k (by rw [List.length_cons] at h;omega)
   exact⟨by rw [List.length_cons];omega,ih.2⟩
theorem words_len (s:Str):(wordsS s).length≤s.length:=(wordsA_ok s.length s 0 0 (Nat.le_refl _)).1
theorem words_word {s:Str}{w:GWord}(h:w∈wordsS s):wordS w.Text=true:=(wordsA_ok s.length s 0 0 (Nat.le_refl _)).2 w h
def plainOne (stops:List Str)(w:GWord):List GTerm:=if !stops.any (· ==w.Text)&& !stops.any (· ==stemS w.Text) then [⟨stemS w.Text,w.At⟩] else []
def plainS (c:GConf)(s:Str):List GTerm:=(wordsS s).flatMap (plainOne c.Stops)
def beginsS (l:List GTerm)(fr:List Str):Bool:=fr.zipIdx.all fun q=>(l[q.2]?).elim false fun t=>(t.Text==q.1)&&((l[0]?).elim false fun h=>t.At==w64 (h.At+(q.2:Int)))
def better (l:List GTerm)(best:Option GSyn)(r:GSyn):Option GSyn:=if beginsS l r.From&&(best.elim true fun b=>decide (b.From.length<r.From.length)) then some r else best
def bestS (syns:List GSyn)(l:List GTerm):Option GSyn:=syns.foldl (better l) none
def rewS (syns:List GSyn):Nat→List GTerm→List GTerm
 | 0,_=>[]
 | _+1,[]=>[]
 | n+1,t::r=>match bestS syns (t::r) with
  | none=>t::rewS syns n r
  | some y=>⟨y.To,t.At⟩::rewS syns n ((t::r).drop y.From.length)
def termsS (c:GConf)(s:Str):List GTerm:=rewS c.Syns (plainS c s).length (plainS c s)
theorem plain_one_len (stops:List Str)(w:GWord):(plainOne stops w).length≤1:=by unfold plainOne;split<;>simp
theorem plain_len (c:GConf)(s:Str):(plainS c s).length≤s.length:=by
 have h1:=flat_le (g:=plainOne c.Stops) (m:=1) (wordsS s) (fun w _=>plain_one_len c.Stops w)
 have h2:=words_len s
 unfold plainS;omega
theorem best_mem {syns:List GSyn}{l:List GTerm}{y:GSyn}(h:bestS syns l=some y):y∈syns:=by
 have: ∀(ss:List GSyn) (b:Option GSyn),ss.foldl (better l) b=some y→y∈ss∨b=some y:=by
  intro ss
  induction ss with
  | nil=>intro b h;exact .inr h
  | cons x r ih=>
   intro b h
   rw [List.foldl_cons] at h
   rcases ih _ h with h1 | h1
   ·exact .inl (List.mem_cons_of_mem _ h1)
   ·unfold better at h1
    split at h1
    ·cases h1;exact .inl (List.mem_cons_self ..)
    ·exact .inr h1
 exact(this syns none h).resolve_right (by simp)
def FromPos (syns:List GSyn):Prop:=∀r∈syns,1≤r.From.length
theorem rew_fuel {syns:List GSyn}(hp:FromPos syns): ∀(n:Nat) (l:List GTerm),l.length≤n→rewS syns n l=rewS syns l.length l:=by
 intro n
 induction n using Nat.strongRecOn with
 | _ n ih=>
  intro l hl
  match n,l with
  | 0,[]=>rfl
  | 0,t::r=>simp at hl
  | n+1,[]=>rfl
  | n+1,t::r=>
   rw [List.length_cons] at hl ⊢
   simp only [rewS]
   cases hb:bestS syns (t::r) with
   | none=>simp only;rw [ih n (by omega) r (by omega)]
   | some y=>
    simp only
    have hy:=hp y (best_mem hb)
    have hd:((t::r).drop y.From.length).length≤r.length:=by rw [List.length_drop,List.length_cons];omega
    rw [ih n (by omega) _ (by omega)]
    rcases Nat.lt_or_ge r.length (n+1) with h | h
    ·by_cases hrn:r.length<n+1
     ·rw [ih r.length (by omega) _ hd]
     ·omega
    ·omega
theorem conf_pos {c:GConf}(h:confS c=true):FromPos c.Syns:=fun r hr=>by
 unfold confS at h
 rw [Bool.and_eq_true,List.all_eq_true] at h
 have:=h.2 r hr
 simp only [synOk,Bool.and_eq_true,decide_eq_true_iff] at this
 omega
theorem conf_stops {c:GConf}(h:confS c=true):c.Stops.length≤6∧c.Syns.length≤4:=by
 simp only [confS,Bool.and_eq_true,decide_eq_true_iff] at h
 omega
theorem rew_cons {syns:List GSyn}(hp:FromPos syns){l:List GTerm}{i:Nat}(hi:i<l.length):rewS syns (l.length-i) (l.drop i)=match bestS syns (l.drop i) with
  | none=>l[i]::rewS syns (l.length-(i+1)) (l.drop (i+1))
  | some y=>⟨y.To,l[i].At⟩::rewS syns (l.length-(i+y.From.length)) (l.drop (i+y.From.length)):=by
 rw [show l.length-i=(l.length-(i+1))+1 by omega]
 have hc:=List.drop_eq_getElem_cons hi
 cases hb:bestS syns (l.drop i) with
 | none=>
  rw [hc] at hb ⊢
  simp only [rewS,hb]
 | some y=>
  have hy:=hp y (best_mem hb)
  have e1:(l[i]::l.drop (i+1)).drop y.From.length=l.drop (i+y.From.length):=by rw [←hc,List.drop_drop]
  rw [hc] at hb ⊢
  simp only [rewS,hb,e1]
  rw [rew_fuel hp _ (l.drop (i+y.From.length)) (by rw [List.length_drop];omega),List.length_drop]
theorem rew_nil (syns:List GSyn)(n:Nat):rewS syns n []=[]:=by cases n<;>rfl
theorem begins_short {l:List GTerm}{fr:List Str}(h:l.length<fr.length):beginsS l fr=false:=by
 unfold beginsS
 rw [List.all_eq_false]
 refine⟨(fr[l.length],l.length),List.mem_iff_getElem?.2 ⟨l.length,by rw [List.getElem?_zipIdx,List.getElem?_eq_getElem h];simp⟩,?_⟩
 simp
theorem spec_begins (F:Nat)(l:List GTerm)(fr:List Str)(hl:l.length≤2000000)(hfr:fr.length≤2000000)(hF:fr.length<F):M.spec_l2Begins F l fr=some (beginsS l fr):=by
  unfold M.spec_l2Begins beginsS
  have hz:fr.zipIdx.length=fr.length:=by simp
  have hloop:=all_while0 (xs:=fr.zipIdx) (fun q=>(l[q.2]?).elim false fun t=>(t.Text==q.1)&&((l[0]?).elim false fun h=>t.At==w64 (h.At+(q.2:Int)))) F (by omega) (f:=fun (s17:Int)=>(cond (decide (s17<(fr.length:Int))) (Option.bind ((cond (decide ((l.length:Int)≤s17)) (some true) (Option.bind (getI l s17) fun x44=>(Option.bind (getI fr s17) fun x55=>(cond (!(x44.Text==x55)) (some true) (Option.bind (getI l s17) fun x71=>(Option.bind (getI l (0:Int)) fun x82=>(some (!(x71.At==(w64 (x82.At+s17))))))))))):Option Bool) fun o31=>(cond o31 (some (.inr (.inr false))) (some (.inl (w64 (s17+(1:Int))))))) (some (.inr (.inl ())))))
    (fun i q hq=>by
      obtain⟨hx,rfl⟩:=zipAt hq
      have hi:=(List.getElem?_eq_some_iff.1 hx).1
      show cond _ _ _=_
      rw [if_bif,decide_eq_true (by omega),cond_true,w64_succ' (by omega)]
      rcases Nat.lt_or_ge q.2 l.length with h | h
      · rw [decide_eq_false (by omega),cond_false,getI_nat',getI_nat',hx,List.getElem?_eq_getElem h,Option.bind_some,Option.bind_some]
        simp only [Option.elim_some]
        cases l[q.2].Text==q.1
        · rfl
        · simp only [Bool.not_true,cond_false,Option.bind_some,Bool.true_and]
          rw [show (0:Int)=((0:Nat):Int) from rfl,getI_nat',List.getElem?_eq_getElem (show 0<l.length by omega)]
          simp only [Option.bind_some,Option.elim_some]
          cases l[q.2].At==w64 (l[0].At+(q.2:Int))<;>rfl
      · rw [decide_eq_true (by omega),cond_true,List.getElem?_eq_none h];rfl)
    (by show cond _ _ _=_
        rw [hz,decide_eq_false (by omega)];rfl)
  rw [hloop]
  cases fr.zipIdx.all _<;>rfl
theorem spec_syn (F:Nat)(c:GConf)(l:List GTerm)(hl:l.length≤2000000)(hs:c.Syns.length≤2000000)(hfr: ∀r∈c.Syns,r.From.length≤2000000∧r.From.length<F)(hF:c.Syns.length<F):
  ∃k:Int,M.spec_l2Syn F c l=some k∧((k<0∧bestS c.Syns l=none)∨∃y,0≤k∧getI c.Syns k=some y∧bestS c.Syns l=some y):=by
 unfold M.spec_l2Syn
 have key: ∀(k i:Nat) (G:Nat) (b:Int) (m:Option GSyn),i+k=c.Syns.length→k<G→((b<0∧m=none)∨∃y,0≤b∧getI c.Syns b=some y∧m=some y)→
   ∃b':Int,whileM (σ:=Int×Int) (τ:=Int) (fun (s25:Int×Int)=>(cond (decide (s25.2<(c.Syns.length:Int))) (Option.bind ((Option.bind (getI c.Syns s25.2) fun x47=>(Option.bind (M.spec_l2Begins F l x47.From) fun r61=>(cond r61 (cond (decide (s25.1<(0:Int))) (some true) (Option.bind (getI c.Syns s25.2) fun x76=>(Option.bind (getI c.Syns s25.1) fun x90=>(some (decide ((x90.From.length:Int)<(x76.From.length:Int))))))) (some false)))):Option Bool) fun o40=>(cond o40 (some (.inl (s25.2,(w64 (s25.2+(1:Int)))))) (some (.inl (s25.1,(w64 (s25.2+(1:Int)))))))) (some (.inr s25.1)))) G (b,(i:Int))=some b'∧
    ((b'<0∧(c.Syns.drop i).foldl (better l) m=none)∨∃y,0≤b'∧getI c.Syns b'=some y∧(c.Syns.drop i).foldl (better l) m=some y):=by
  intro k
  induction k with
  | zero=>
   intro i G b m hi hG hb
   obtain⟨G,rfl⟩: ∃H,G=H+1:=⟨G-1,by omega⟩
   refine⟨b,?_,?_⟩
   ·rw [whileM]
    simp only
    rw [decide_eq_false (by omega)];rfl
   ·rw [List.drop_of_length_le (by omega)];exact hb
  | succ k ih=>
   intro i G b m hi hG hb
   obtain⟨G,rfl⟩: ∃H,G=H+1:=⟨G-1,by omega⟩
   have hlt:i<c.Syns.length:=by omega
   have hat:getI c.Syns (i:Int)=some c.Syns[i]:=getI_at hlt
   have hmem:c.Syns[i]∈c.Syns:=List.getElem_mem hlt
   rw [List.drop_eq_getElem_cons hlt,List.foldl_cons,whileM]
   simp only
   rw [decide_eq_true (by omega),cond_true,hat,Option.bind_some,spec_begins F l _ hl (hfr _ hmem).1 (hfr _ hmem).2,Option.bind_some,w64_succ' (by omega)]
   cases hbg:beginsS l c.Syns[i].From
   ·have e:better l m c.Syns[i]=m:=by unfold better;rw [hbg];simp
    rw [e]
    exact ih (i+1) G b m (by omega) (by omega) hb
   ·rw [cond_true]
    rcases hb with ⟨h1,rfl⟩ | ⟨y,h1,h2,rfl⟩
    ·have e:better l none c.Syns[i]=some c.Syns[i]:=by unfold better;rw [hbg];simp
     rw [decide_eq_true h1,cond_true,Option.bind_some,cond_true,e]
     exact ih (i+1) G _ _ (by omega) (by omega) (.inr ⟨_,by omega,hat,rfl⟩)
    ·rw [decide_eq_false (by omega),cond_false,h2,Option.bind_some,Option.bind_some,Option.bind_some]
     by_cases hlen:y.From.length<c.Syns[i].From.length
     ·have e:better l (some y) c.Syns[i]=some c.Syns[i]:=by unfold better;rw [hbg];simp [hlen]
      rw [decide_eq_true (by omega),cond_true,e]
      exact ih (i+1) G _ _ (by omega) (by omega) (.inr ⟨_,by omega,hat,rfl⟩)
     ·have e:better l (some y) c.Syns[i]=some y:=by unfold better;rw [hbg];simp [hlen]
      rw [decide_eq_false (by omega),cond_false,e]
      exact ih (i+1) G _ _ (by omega) (by omega) (.inr ⟨_,h1,h2,rfl⟩)
 obtain⟨b',h1,h2⟩:=key c.Syns.length 0 F (-1) none (by omega) hF (.inl ⟨by omega,rfl⟩)
 rw [List.drop_zero] at h2
 refine⟨b',?_,h2⟩
 rw [show (0:Int)=((0:Nat):Int) from rfl] at *
 rw [h1];rfl
theorem and_fold (xs:List (Str×Nat))(p:Str×Nat→Bool): ∀b:Bool,xs.foldl (fun s x=>s&&p x) b=(b&&xs.all p):=by
 induction xs with
 | nil=>intro b;simp
 | cons x r ih=>intro b;rw [List.foldl_cons,ih,List.all_cons,Bool.and_assoc]
theorem impl_rule (F:Nat)(c:GConf)(l:List GTerm)(at_:Nat)(hl:l.length≤2000000)(ha:at_<l.length)(hfr: ∀r∈c.Syns,r.From.length≤2000000):M.impl_ruleAt F c l (at_:Int)=some (bestS c.Syns (l.drop at_)):=by
 unfold M.impl_ruleAt bestS
 rw [fold_forE (better (l.drop at_)) (fun i r b hr=>?_)]
 ·rfl
 ·rw [getI_nat',hr,Option.bind_some,w64_of ⟨by omega,by omega⟩]
  have hrl:=hfr r (List.mem_of_getElem? hr)
  by_cases hlen:(l.length:Int)-at_<r.From.length
  ·rw [decide_eq_true hlen,cond_true,Option.bind_some,cond_true]
   unfold better
   rw [begins_short (by rw [List.length_drop];omega)];simp
  ·rw [decide_eq_false hlen,cond_false]
   have hfits:(forE (fun (i106:Nat) (s102:Bool)=>(Option.bind (getI r.From ((i106:Nat):Int)) fun x115=>(Option.bind (getI l (w64 ((at_:Int)+((i106:Nat):Int)))) fun x125=>(cond s102 (cond (x125.Text==x115) (Option.bind (getI l (at_:Int)) fun x146=>(some (x125.At==(w64 (x146.At+((i106:Nat):Int)))))) (some false)) (some false))))) r.From.length 0 true)=some (beginsS (l.drop at_) r.From):=by
    have hz:r.From.length=r.From.zipIdx.length:=by simp
    rw [hz,fold_forE (xs:=r.From.zipIdx) (fun s q=>s&&(((l.drop at_)[q.2]?).elim false fun t=>(t.Text==q.1)&&(((l.drop at_)[0]?).elim false fun h=>t.At==w64 (h.At+(q.2:Int))))) (fun i q s hq=>?_),and_fold,Bool.true_and]
    ·rfl
    ·obtain⟨hx,rfl⟩:=zipAt hq
     have hi:=(List.getElem?_eq_some_iff.1 hx).1
     rw [getI_nat',hx,Option.bind_some,w64_of ⟨by omega,by omega⟩,show (at_:Int)+(q.2:Int)=((at_+q.2:Nat):Int) by omega,getI_nat',getI_nat',List.getElem?_drop,List.getElem?_drop,Nat.add_zero,List.getElem?_eq_getElem (show at_+q.2<l.length by omega),List.getElem?_eq_getElem ha,Option.bind_some]
     simp only [Option.elim_some,Option.bind_some]
     cases s
     ·rfl
     ·cases l[at_+q.2].Text==q.1<;>rfl
   rw [hfits]
   unfold better
   rw [if_bif]
   cases b with
   | none=>
    simp only [Option.isSome_none,cond_false,Option.bind_some,Option.elim_none,Bool.and_true]
    cases beginsS (l.drop at_) r.From<;>rfl
   | some y=>
    simp only [Option.isSome_some,cond_true,Option.bind_some,Option.elim_some]
    by_cases hy:r.From.length≤y.From.length
    ·rw [decide_eq_true (by omega),decide_eq_false (by omega)];simp
    ·rw [decide_eq_false (by omega),decide_eq_true (by omega)]
     cases beginsS (l.drop at_) r.From<;>rfl
end Go.Fk
set_option linter.unusedVariables false
namespace Go.Fk
open Go
theorem conf_from {c:GConf}(h:confS c=true): ∀r∈c.Syns,r.From.length≤3:=fun r hr=>by
 unfold confS at h
 rw [Bool.and_eq_true,List.all_eq_true] at h
 have:=h.2 r hr
 simp only [synOk,Bool.and_eq_true,decide_eq_true_iff] at this
 omega
theorem rew_len {syns:List GSyn}: ∀(n:Nat) (l:List GTerm),(rewS syns n l).length≤n
 | 0,l=>by rw [rewS];simp
 | n+1,[]=>by rw [rewS];simp
 | n+1,t::r=>by
  simp only [rewS]
  cases bestS syns (t::r) with
  | none=>simp only [List.length_cons];have:=rew_len (syns:=syns) n r;omega
  | some y=>simp only [List.length_cons];have:=rew_len (syns:=syns) n ((t::r).drop y.From.length);omega
theorem terms_len (c:GConf)(s:Str):(termsS c s).length≤s.length:=by
 have h1:=rew_len (syns:=c.Syns) (plainS c s).length (plainS c s)
 have h2:=plain_len c s
 unfold termsS;omega
theorem impl_terms (F:Nat)(c:GConf)(s:Str)(hs:s.length≤2000000)(hc:c.Stops.length≤2000000)(hF:s.length+30<F):M.impl_TermsOf F c s=some (if confS c&&textS s then termsS c s else []):=by
 unfold M.impl_TermsOf
 rw [impl_conf F c hc (by omega),Option.bind_some,if_bif]
 cases hcs:confS c
 ·rfl
 simp only [Bool.not_true,cond_false,Bool.true_and]
 rw [impl_text,Option.bind_some,Option.bind_some]
 cases hts:textS s
 ·rfl
 simp only [Bool.not_true,cond_false,cond_true]
 rw [impl_words F s hs (by omega),hts,if_pos rfl,Option.bind_some]
 have hpl:=plain_len c s
 rw [fm_forE (plainOne c.Stops) 2000000 (fun i w acc hw hB=>?_) [] (by rw [List.nil_append];unfold plainS at hpl;omega),List.nil_append,Option.bind_some,Option.bind_some]
 ·have hfold:(wordsS s).flatMap (plainOne c.Stops)=plainS c s:=rfl
  rw [hfold]
  have hp:=conf_pos hcs
  have hfr:=conf_from hcs
  obtain⟨l,hl⟩: ∃l,l=plainS c s:=⟨_,rfl⟩
  rw [←hl] at hpl ⊢
  rw [whileM_eq (t:=rewS c.Syns l.length l) (fun i st=>∃(out:List GTerm) (o:Nat),st=(out,(o:Int))∧i≤o∧out.length≤o∧o≤l.length+3∧out++rewS c.Syns (l.length-o) (l.drop o)=rewS c.Syns l.length l) l.length
   (fun i st hi ⟨out,o,e1,e2,e3,e4,e5⟩=>?_) (fun st ⟨out,o,e1,e2,e3,e4,e5⟩=>?_) l.length 0 (([]:List GTerm),(0:Int)) F (by omega) (by omega) ⟨[],0,rfl,by omega,by simp,by omega,by simp⟩]
  ·rw [hl];rfl
  ·subst e1
   rcases Nat.lt_or_ge o l.length with hol | hol
   ·refine .inl ?_
    rw [decide_eq_true (by omega),cond_true,impl_rule F c l o (by omega) hol (fun r hr=>by have:=hfr r hr;omega),Option.bind_some,getI_nat',List.getElem?_eq_getElem hol]
    have hr:=rew_cons hp hol
    cases hb:bestS c.Syns (l.drop o) with
    | none=>
     rw [hb] at hr
     simp only [Option.isNone_none,cond_true,Option.bind_some] at hr ⊢
     rw [catLok (by simp;omega),Option.bind_some,w64_succ' (by omega)]
     exact⟨_,rfl,_,_,rfl,by omega,by rw [List.length_append,List.length_singleton];omega,by omega,by rw [List.append_assoc,←e5,hr];rfl⟩
    | some y=>
     rw [hb] at hr
     have hy:=hp y (best_mem hb)
     have hy3:=hfr y (best_mem hb)
     simp only [Option.isNone_some,cond_false,Option.bind_some] at hr ⊢
     rw [catLok (by simp;omega),Option.bind_some,show (o:Int)+(y.From.length:Int)=((o+y.From.length:Nat):Int) by omega,w64_of ⟨by omega,by omega⟩]
     exact⟨_,rfl,_,_,rfl,by omega,by rw [List.length_append,List.length_singleton];omega,by omega,by rw [List.append_assoc,←e5,hr];rfl⟩
   ·refine .inr ?_
    rw [decide_eq_false (by omega)]
    show some (Sum.inr out)=_
    rw [←e5,List.drop_of_length_le hol,rew_nil,List.append_nil]
  ·subst e1
   rw [decide_eq_false (by omega)]
   show some (Sum.inr out)=_
   rw [←e5,List.drop_of_length_le (by omega),rew_nil,List.append_nil]
 ·have hww:=words_word (List.mem_of_getElem? hw)
  rw [getI_nat',hw,Option.bind_some,stem_in F _ hww (by omega),Option.bind_some,impl_contains,Option.bind_some,impl_contains]
  unfold plainOne at hB ⊢
  revert hB
  rw [if_bif]
  cases c.Stops.any (· ==w.Text)
  ·simp only [Bool.not_false,cond_true,Option.bind_some,Bool.true_and]
   cases c.Stops.any (· ==stemS w.Text)
   ·intro hB
    simp only [Bool.not_false,cond_true] at hB ⊢
    rw [catLok (by simp at hB ⊢;omega)];rfl
   ·intro _;simp
  ·intro _;simp
theorem spec_plain (F:Nat)(c:GConf)(s:Str)(hs:s.length≤2000000)(hc:c.Stops.length≤2000000)(hF:s.length+30<F)(hF2:c.Stops.length<F):M.spec_l2Plain F c s=some (plainS c s):=by
 unfold M.spec_l2Plain
 have hpl:=plain_len c s
 have hwl:=words_len s
 rw [spec_words F s hs (by omega),Option.bind_some]
 rw [fm_while (xs:=wordsS s) (plainOne c.Stops) 2000000 F (by omega) (fun i w acc hw hB=>?_) (fun acc=>?_) [] (by rw [List.nil_append];unfold plainS at hpl;omega),List.nil_append]
 ·rfl
 ·have hi:=(List.getElem?_eq_some_iff.1 hw).1
  have hww:=words_word (List.mem_of_getElem? hw)
  have h12:=word_le hww
  have hst:=stem_len w.Text
  rw [decide_eq_true (by omega),cond_true,getI_nat',hw,Option.bind_some,spec_stem F _ (by omega) (by omega),Option.bind_some,w64_succ' (by omega),Option.bind_some,spec_has F _ _ hc hF2,Option.bind_some,spec_has F _ _ hc hF2]
  unfold plainOne at hB ⊢
  revert hB
  rw [if_bif]
  cases c.Stops.any (· ==w.Text)
  ·simp only [Bool.not_false,cond_true,Option.bind_some,Bool.true_and]
   cases c.Stops.any (· ==stemS w.Text)
   ·intro hB
    simp only [Bool.not_false,cond_true] at hB ⊢
    rw [catLok (by simp at hB ⊢;omega)];rfl
   ·intro _;simp
  ·intro _;simp
 ·rw [decide_eq_false (by omega)];rfl
theorem subL_tail {α:Type}{xs:List α}{k:Nat}(h:k≤xs.length):subL xs (k:Int) xs.length=some (xs.drop k):=by
 rw [subL,if_pos (by omega)];simp
theorem begins_len {l:List GTerm}{fr:List Str}(h:beginsS l fr=true):fr.length≤l.length:=by
 rcases Nat.lt_or_ge l.length fr.length with h1 | h1
 ·rw [begins_short h1] at h;cases h
 ·exact h1
theorem best_begins {syns:List GSyn}{l:List GTerm}{y:GSyn}(h:bestS syns l=some y):beginsS l y.From=true:=by
 have: ∀(ss:List GSyn) (b:Option GSyn),(∀z,b=some z→beginsS l z.From=true)→∀z,ss.foldl (better l) b=some z→beginsS l z.From=true:=by
  intro ss
  induction ss with
  | nil=>intro b hb z h;exact hb z h
  | cons x r ih=>
   intro b hb z h
   rw [List.foldl_cons] at h
   refine ih _ (fun z hz=>?_) z h
   unfold better at hz
   split at hz
   ·rename_i hc
    cases hz
    simp only [Bool.and_eq_true] at hc
    exact hc.1
   ·exact hb z hz
 exact this syns none (by simp) y h
theorem spec_terms (F:Nat)(c:GConf)(s:Str)(hcs:confS c=true)(hs:s.length≤2000000)(hF:s.length+30<F):M.spec_l2Terms F c s=some (termsS c s):=by
 unfold M.spec_l2Terms
 have hst:=conf_stops hcs
 have hp:=conf_pos hcs
 have hfr:=conf_from hcs
 rw [spec_plain F c s hs (by omega) (by omega) (by omega),Option.bind_some]
 have hpl:=plain_len c s
 unfold termsS
 obtain⟨l,hl⟩: ∃l,l=plainS c s:=⟨_,rfl⟩
 rw [←hl] at hpl ⊢
 rw [whileM_eq (t:=rewS c.Syns l.length l) (fun i st=>∃(out:List GTerm) (o:Nat),st=(out,l.drop o)∧i≤o∧out.length≤o∧o≤l.length+3∧out++rewS c.Syns (l.length-o) (l.drop o)=rewS c.Syns l.length l) l.length
  (fun i st hi ⟨out,o,e1,e2,e3,e4,e5⟩=>?_) (fun st ⟨out,o,e1,e2,e3,e4,e5⟩=>?_) l.length 0 (([]:List GTerm),l) F (by omega) (by omega) ⟨[],0,rfl,by omega,by simp,by omega,by simp⟩]
 ·rfl
 ·subst e1
  rcases Nat.lt_or_ge o l.length with hol | hol
  ·refine .inl ?_
   have hdl:(l.drop o).length=l.length-o:=List.length_drop
   have hd0:(l.drop o)[0]? =some l[o]:=by rw [List.getElem?_drop,Nat.add_zero];exact List.getElem?_eq_getElem hol
   have h00:getI (l.drop o) (0:Int)=some l[o]:=by rw [show (0:Int)=((0:Nat):Int) from rfl,getI_nat'];exact hd0
   obtain⟨k,hk,hor⟩:=spec_syn F c (l.drop o) (by omega) (by omega) (fun r hr=>by have:=hfr r hr;omega) (by omega)
   rw [decide_eq_true (by simp only;omega),cond_true,hk,Option.bind_some,h00]
   have hr:=rew_cons hp hol
   rcases hor with ⟨h1,hb⟩ | ⟨y,h1,h2,hb⟩
   ·rw [hb] at hr
    rw [decide_eq_true h1,cond_true,Option.bind_some,catLok (by simp;omega),Option.bind_some]
    simp only
    rw [show (1:Int)=((1:Nat):Int) from rfl,subL_tail (by omega),Option.bind_some,List.drop_drop]
    exact⟨_,rfl,_,_,rfl,by omega,by rw [List.length_append,List.length_singleton];omega,by omega,by rw [List.append_assoc,←e5,hr];rfl⟩
   ·rw [hb] at hr
    have hy:=hp y (best_mem hb)
    have hy3:=hfr y (best_mem hb)
    have hyl:=begins_len (best_begins hb)
    rw [decide_eq_false (by omega),cond_false,h2,Option.bind_some,Option.bind_some,catLok (by simp;omega),Option.bind_some,Option.bind_some]
    simp only
    rw [subL_tail (by omega),Option.bind_some,List.drop_drop]
    exact⟨_,rfl,_,_,rfl,by omega,by rw [List.length_append,List.length_singleton];omega,by omega,by rw [List.append_assoc,←e5,hr];rfl⟩
  ·refine .inr ?_
   rw [List.drop_of_length_le hol]
   show some (Sum.inr out)=_
   rw [←e5,List.drop_of_length_le hol,rew_nil,List.append_nil]
 ·subst e1
  rw [List.drop_of_length_le (by omega)]
  show some (Sum.inr out)=_
  rw [←e5,List.drop_of_length_le (by omega),rew_nil,List.append_nil]
end Go.Fk
