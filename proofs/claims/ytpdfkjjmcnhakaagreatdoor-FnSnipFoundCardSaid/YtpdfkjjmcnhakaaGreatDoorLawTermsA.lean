import Derived.Test.YtpdfkjjmcnhakaaGreatDoorLawTSC
import Derived.Test.YtpdfkjjmcnhakaaGreatDoorLawBase
/-
  The terms of a text: the program and the reference find the same. Of no program.
-/
set_option linter.unusedVariables false
namespace Go.Fk
open Go
theorem a4W: ∀(n:Nat) (s:l3) (o k:Nat),s.length≤n→(L7 s o k).length≤s.length∧∀w∈L7 s o k,A1 w.Text=true
 | n,[],o,k,_=>by rw [P1];simp
 | 0,b::r,o,k,h=>by simp at h
 | n+1,b::r,o,k,h=>by
  rw [L7]
  by_cases hb:M9 b=true
  ·rw [if_pos hb]
   have hl:=List.takeWhile_prefix M9 (l:=b::r)
   have hle:=hl.length_le
   have hpos:0<((b::r).takeWhile M9).length:=by rw [List.takeWhile_cons,if_pos hb];simp
   have ih:=a4W n ((b::r).drop ((b::r).takeWhile M9).length) (o+((b::r).takeWhile M9).length) (k+1) (by rw [List.length_drop];omega)
   rw [List.length_drop] at ih
   refine⟨by rw [l9];omega,fun w hw=>?_⟩
   rcases List.mem_cons.1 hw with rfl | hw
   ·simp only [A1,l5,decide_eq_true_iff,List.all_eq_true]
    refine⟨fun x hx=>?_,?_,?_⟩
    ·obtain⟨y,hy,rfl⟩:=List.mem_map.1 (List.mem_of_mem_take hx)
     exact List.all_eq_true.1 List.all_takeWhile y hy
    ·rw [List.length_take,List.length_map];omega
    ·rw [List.length_take];omega
   ·exact ih.2 w hw
  ·rw [if_neg hb]
   have ih:=a4W n r (o+1) k (by rw [l9] at h;omega)
   exact⟨by rw [l9];omega,ih.2⟩
theorem a1C (s:l3):(B1 s).length≤s.length:=(a4W s.length s 0 0 (Nat.le_refl _)).1
theorem a5G {s:l3}{w:M3}(h:w∈B1 s):A1 w.Text=true:=(a4W s.length s 0 0 (Nat.le_refl _)).2 w h
def S9 (stops:List l3)(w:M3):List w8:=if !stops.any (· ==w.Text)&& !stops.any (· ==T1 w.Text) then [⟨T1 w.Text,w.At⟩] else []
def X3 (c:o0)(s:l3):List w8:=(B1 s).flatMap (S9 c.Stops)
def a0g (l:List w8)(fr:List l3):Bool:=fr.zipIdx.all fun q=>(l[q.2]?).elim false fun t=>(t.Text==q.1)&&((l[0]?).elim false fun h=>t.At==y8 (h.At+(q.2:Int)))
def W9 (l:List w8)(best:Option M2)(r:M2):Option M2:=if a0g l r.From&&(best.elim true fun b=>decide (b.From.length<r.From.length)) then some r else best
def a2F (syns:List M2)(l:List w8):Option M2:=syns.foldl (W9 l) none
def a1g (syns:List M2):Nat→List w8→List w8
 | 0,_=>[]
 | _+1,[]=>[]
 | n+1,t::r=>match a2F syns (t::r) with
  | none=>t::a1g syns n r
  | some y=>⟨y.To,t.At⟩::a1g syns n ((t::r).drop y.From.length)
def u2 (c:o0)(s:l3):List w8:=a1g c.Syns (X3 c s).length (X3 c s)
theorem a5e (stops:List l3)(w:M3):(S9 stops w).length≤1:=by unfold S9;split<;>simp
theorem a4P (c:o0)(s:l3):(X3 c s).length≤s.length:=by
 have h1:=U0 (g:=S9 c.Stops) (m:=1) (B1 s) (fun w _=>a5e c.Stops w)
 have h2:=a1C s
 unfold X3;omega
theorem a1P {syns:List M2}{l:List w8}{y:M2}(h:a2F syns l=some y):y∈syns:=by
 have: ∀(ss:List M2) (b:Option M2),ss.foldl (W9 l) b=some y→y∈ss∨b=some y:=by
  intro ss
  induction ss with
  | nil=>intro b h;exact .inr h
  | cons x r ih=>
   intro b h
   rw [List.foldl_cons] at h
   rcases ih _ h with h1 | h1
   ·exact .inl (List.mem_cons_of_mem _ h1)
   ·unfold W9 at h1
    split at h1
    ·cases h1;exact .inl (List.mem_cons_self ..)
    ·exact .inr h1
 exact(this syns none h).resolve_right (by simp)
def a7I (syns:List M2):Prop:=∀r∈syns,1≤r.From.length
theorem b6c {syns:List M2}(hp:a7I syns): ∀(n:Nat) (l:List w8),l.length≤n→a1g syns n l=a1g syns l.length l:=by
 intro n
 induction n using Nat.strongRecOn with
 | _ n ih=>
  intro l hl
  match n,l with
  | 0,[]=>rfl
  | 0,t::r=>simp at hl
  | n+1,[]=>rfl
  | n+1,t::r=>
   rw [l9] at hl ⊢
   simp only [a1g]
   cases hb:a2F syns (t::r) with
   | none=>simp only;rw [ih n (by omega) r (by omega)]
   | some y=>
    simp only
    have hy:=hp y (a1P hb)
    have hd:((t::r).drop y.From.length).length≤r.length:=by rw [List.length_drop,l9];omega
    rw [ih n (by omega) _ (by omega)]
    rcases Nat.lt_or_ge r.length (n+1) with h | h
    ·by_cases hrn:r.length<n+1
     ·rw [ih r.length (by omega) _ hd]
     ·omega
    ·omega
theorem a8c {c:o0}(h:I4 c=true):a7I c.Syns:=fun r hr=>by
 unfold I4 at h
 rw [l5,List.all_eq_true] at h
 have:=h.2 r hr
 simp only [a5j,l5,decide_eq_true_iff] at this
 omega
theorem a3x {c:o0}(h:I4 c=true):c.Stops.length≤6∧c.Syns.length≤4:=by
 simp only [I4,l5,decide_eq_true_iff] at h
 omega
theorem b1Q {syns:List M2}(hp:a7I syns){l:List w8}{i:Nat}(hi:i<l.length):a1g syns (l.length-i) (l.drop i)=match a2F syns (l.drop i) with
  | none=>l[i]::a1g syns (l.length-(i+1)) (l.drop (i+1))
  | some y=>⟨y.To,l[i].At⟩::a1g syns (l.length-(i+y.From.length)) (l.drop (i+y.From.length)):=by
 rw [show l.length-i=(l.length-(i+1))+1 by omega]
 have hc:=List.drop_eq_getElem_cons hi
 cases hb:a2F syns (l.drop i) with
 | none=>
  rw [hc] at hb ⊢
  simp only [a1g,hb]
 | some y=>
  have hy:=hp y (a1P hb)
  have e1:(l[i]::l.drop (i+1)).drop y.From.length=l.drop (i+y.From.length):=by rw [←hc,List.drop_drop]
  rw [hc] at hb ⊢
  simp only [a1g,hb,e1]
  rw [b6c hp _ (l.drop (i+y.From.length)) (by rw [List.length_drop];omega),List.length_drop]
theorem a6g (syns:List M2)(n:Nat):a1g syns n []=[]:=by cases n<;>rfl
theorem a5P {l:List w8}{fr:List l3}(h:l.length<fr.length):a0g l fr=false:=by
 unfold a0g
 rw [List.all_eq_false]
 refine⟨(fr[l.length],l.length),List.mem_iff_getElem?.2 ⟨l.length,by rw [List.getElem?_zipIdx,i6 h];simp⟩,?_⟩
 simp
theorem b16 (F:Nat)(l:List w8)(fr:List l3)(hl:l.length≤2000000)(hfr:fr.length≤2000000)(hF:fr.length<F):Q0 F l fr=some (a0g l fr):=by
  unfold Q0 a0g
  have hz:fr.zipIdx.length=fr.length:=by simp
  have hloop:=a3s (xs:=fr.zipIdx) (fun q=>(l[q.2]?).elim false fun t=>(t.Text==q.1)&&((l[0]?).elim false fun h=>t.At==y8 (h.At+(q.2:Int)))) F (by omega) (f:=fun (s17:Int)=>(cond (decide (s17<(fr.length:Int))) (Option.bind ((cond (decide ((l.length:Int)≤s17)) (some true) (Option.bind (p8 l s17) fun x44=>(Option.bind (p8 fr s17) fun x55=>(cond (!(x44.Text==x55)) (some true) (Option.bind (p8 l s17) fun x71=>(Option.bind (p8 l (0:Int)) fun x82=>(some (!(x71.At==(y8 (x82.At+s17))))))))))):Option Bool) fun o31=>(cond o31 (some (.inr (.inr false))) (some (.inl (y8 (s17+(1:Int))))))) (some (.inr (.inl ())))))
    (fun i q hq=>by
      obtain⟨hx,rfl⟩:=b4b hq
      have hi:=(g8.1 hx).1
      show cond _ _ _=_
      rw [M0,b8 (by omega),j6,u4 (by omega)]
      rcases Nat.lt_or_ge q.2 l.length with h | h
      · rw [c6 (by omega),i9,l8,l8,hx,i6 h,a8,a8]
        simp only [Option.elim_some]
        cases l[q.2].Text==q.1
        · rfl
        · simp only [n5,i9,a8,n8]
          rw [show (0:Int)=((0:Nat):Int) from rfl,l8,i6 (show 0<l.length by omega)]
          simp only [a8,Option.elim_some]
          cases l[q.2].At==y8 (l[0].At+(q.2:Int))<;>rfl
      · rw [b8 (by omega),j6,List.getElem?_eq_none h];rfl)
    (by show cond _ _ _=_
        rw [hz,c6 (by omega)];rfl)
  rw [hloop]
  cases fr.zipIdx.all _<;>rfl
theorem b6A (F:Nat)(c:o0)(l:List w8)(hl:l.length≤2000000)(hs:c.Syns.length≤2000000)(hfr: ∀r∈c.Syns,r.From.length≤2000000∧r.From.length<F)(hF:c.Syns.length<F):
  ∃k:Int,a02 F c l=some k∧((k<0∧a2F c.Syns l=none)∨∃y,0≤k∧p8 c.Syns k=some y∧a2F c.Syns l=some y):=by
 unfold a02
 have key: ∀(k i:Nat) (G:Nat) (b:Int) (m:Option M2),i+k=c.Syns.length→k<G→((b<0∧m=none)∨∃y,0≤b∧p8 c.Syns b=some y∧m=some y)→
   ∃b':Int,u0 (σ:=Int×Int) (τ:=Int) (fun (s25:Int×Int)=>(cond (decide (s25.2<(c.Syns.length:Int))) (Option.bind ((Option.bind (p8 c.Syns s25.2) fun x47=>(Option.bind (Q0 F l x47.From) fun r61=>(cond r61 (cond (decide (s25.1<(0:Int))) (some true) (Option.bind (p8 c.Syns s25.2) fun x76=>(Option.bind (p8 c.Syns s25.1) fun x90=>(some (decide ((x90.From.length:Int)<(x76.From.length:Int))))))) (some false)))):Option Bool) fun o40=>(cond o40 (some (.inl (s25.2,(y8 (s25.2+(1:Int)))))) (some (.inl (s25.1,(y8 (s25.2+(1:Int)))))))) (some (.inr s25.1)))) G (b,(i:Int))=some b'∧
    ((b'<0∧(c.Syns.drop i).foldl (W9 l) m=none)∨∃y,0≤b'∧p8 c.Syns b'=some y∧(c.Syns.drop i).foldl (W9 l) m=some y):=by
  intro k
  induction k with
  | zero=>
   intro i G b m hi hG hb
   obtain⟨G,rfl⟩: ∃H,G=H+1:=⟨G-1,by omega⟩
   refine⟨b,?_,?_⟩
   ·rw [u0]
    simp only
    rw [c6 (by omega)];rfl
   ·rw [List.drop_of_length_le (by omega)];exact hb
  | succ k ih=>
   intro i G b m hi hG hb
   obtain⟨G,rfl⟩: ∃H,G=H+1:=⟨G-1,by omega⟩
   have hlt:i<c.Syns.length:=by omega
   have hat:p8 c.Syns (i:Int)=some c.Syns[i]:=a03 hlt
   have hmem:c.Syns[i]∈c.Syns:=List.getElem_mem hlt
   rw [List.drop_eq_getElem_cons hlt,List.foldl_cons,u0]
   simp only
   rw [b8 (by omega),j6,hat,a8,b16 F l _ hl (hfr _ hmem).1 (hfr _ hmem).2,a8,u4 (by omega)]
   cases hbg:a0g l c.Syns[i].From
   ·have e:W9 l m c.Syns[i]=m:=by unfold W9;rw [hbg];simp
    rw [e]
    exact ih (i+1) G b m (by omega) (by omega) hb
   ·rw [j6]
    rcases hb with ⟨h1,rfl⟩ | ⟨y,h1,h2,rfl⟩
    ·have e:W9 l none c.Syns[i]=some c.Syns[i]:=by unfold W9;rw [hbg];simp
     rw [b8 h1,j6,a8,j6,e]
     exact ih (i+1) G _ _ (by omega) (by omega) (.inr ⟨_,by omega,hat,rfl⟩)
    ·rw [c6 (by omega),i9,h2,a8,a8,a8]
     by_cases hlen:y.From.length<c.Syns[i].From.length
     ·have e:W9 l (some y) c.Syns[i]=some c.Syns[i]:=by unfold W9;rw [hbg];simp [hlen]
      rw [b8 (by omega),j6,e]
      exact ih (i+1) G _ _ (by omega) (by omega) (.inr ⟨_,by omega,hat,rfl⟩)
     ·have e:W9 l (some y) c.Syns[i]=some y:=by unfold W9;rw [hbg];simp [hlen]
      rw [c6 (by omega),i9,e]
      exact ih (i+1) G _ _ (by omega) (by omega) (.inr ⟨_,h1,h2,rfl⟩)
 obtain⟨b',h1,h2⟩:=key c.Syns.length 0 F (-1) none (by omega) hF (.inl ⟨by omega,rfl⟩)
 rw [List.drop_zero] at h2
 refine⟨b',?_,h2⟩
 rw [show (0:Int)=((0:Nat):Int) from rfl] at *
 rw [h1];rfl
theorem b5v (xs:List (l3×Nat))(p:l3×Nat→Bool): ∀b:Bool,xs.foldl (fun s x=>s&&p x) b=(b&&xs.all p):=by
 induction xs with
 | nil=>intro b;simp
 | cons x r ih=>intro b;rw [List.foldl_cons,ih,List.all_cons,Bool.and_assoc]
theorem b4C (F:Nat)(c:o0)(l:List w8)(at_:Nat)(hl:l.length≤2000000)(ha:at_<l.length)(hfr: ∀r∈c.Syns,r.From.length≤2000000):a0v F c l (at_:Int)=some (a2F c.Syns (l.drop at_)):=by
 unfold a0v a2F
 rw [a4L (W9 (l.drop at_)) (fun i r b hr=>?_)]
 ·rfl
 ·rw [l8,hr,a8,B9 ⟨by omega,by omega⟩]
  have hrl:=hfr r (m8 hr)
  by_cases hlen:(l.length:Int)-at_<r.From.length
  ·rw [b8 hlen,j6,a8,j6]
   unfold W9
   rw [a5P (by rw [List.length_drop];omega)];simp
  ·rw [c6 hlen,i9]
   have hfits:(O6 (fun (i106:Nat) (s102:Bool)=>(Option.bind (p8 r.From ((i106:Nat):Int)) fun x115=>(Option.bind (p8 l (y8 ((at_:Int)+((i106:Nat):Int)))) fun x125=>(cond s102 (cond (x125.Text==x115) (Option.bind (p8 l (at_:Int)) fun x146=>(some (x125.At==(y8 (x146.At+((i106:Nat):Int)))))) (some false)) (some false))))) r.From.length 0 true)=some (a0g (l.drop at_) r.From):=by
    have hz:r.From.length=r.From.zipIdx.length:=by simp
    rw [hz,a4L (xs:=r.From.zipIdx) (fun s q=>s&&(((l.drop at_)[q.2]?).elim false fun t=>(t.Text==q.1)&&(((l.drop at_)[0]?).elim false fun h=>t.At==y8 (h.At+(q.2:Int))))) (fun i q s hq=>?_),b5v,n8]
    ·rfl
    ·obtain⟨hx,rfl⟩:=b4b hq
     have hi:=(g8.1 hx).1
     rw [l8,hx,a8,B9 ⟨by omega,by omega⟩,show (at_:Int)+(q.2:Int)=((at_+q.2:Nat):Int) by omega,l8,l8,List.getElem?_drop,List.getElem?_drop,Nat.add_zero,i6 (show at_+q.2<l.length by omega),i6 ha,a8]
     simp only [Option.elim_some,a8]
     cases s
     ·rfl
     ·cases l[at_+q.2].Text==q.1<;>rfl
   rw [hfits]
   unfold W9
   rw [M0]
   cases b with
   | none=>
    simp only [Option.isSome_none,i9,a8,Option.elim_none,Bool.and_true]
    cases a0g (l.drop at_) r.From<;>rfl
   | some y=>
    simp only [Option.isSome_some,j6,a8,Option.elim_some]
    by_cases hy:r.From.length≤y.From.length
    ·rw [b8 (by omega),c6 (by omega)];simp
    ·rw [c6 (by omega),b8 (by omega)]
     cases a0g (l.drop at_) r.From<;>rfl
end Go.Fk
set_option linter.unusedVariables false
namespace Go.Fk
open Go
theorem a9B {c:o0}(h:I4 c=true): ∀r∈c.Syns,r.From.length≤3:=fun r hr=>by
 unfold I4 at h
 rw [l5,List.all_eq_true] at h
 have:=h.2 r hr
 simp only [a5j,l5,decide_eq_true_iff] at this
 omega
theorem a7U {syns:List M2}: ∀(n:Nat) (l:List w8),(a1g syns n l).length≤n
 | 0,l=>by rw [a1g];simp
 | n+1,[]=>by rw [a1g];simp
 | n+1,t::r=>by
  simp only [a1g]
  cases a2F syns (t::r) with
  | none=>simp only [l9];have:=a7U (syns:=syns) n r;omega
  | some y=>simp only [l9];have:=a7U (syns:=syns) n ((t::r).drop y.From.length);omega
theorem W6 (c:o0)(s:l3):(u2 c s).length≤s.length:=by
 have h1:=a7U (syns:=c.Syns) (X3 c s).length (X3 c s)
 have h2:=a4P c s
 unfold u2;omega
theorem a2o (F:Nat)(c:o0)(s:l3)(hs:s.length≤2000000)(hc:c.Stops.length≤2000000)(hF:s.length+30<F):G0 F c s=some (if I4 c&&O9 s then u2 c s else []):=by
 unfold G0
 rw [a4N F c hc (by omega),a8,M0]
 cases hcs:I4 c
 ·rfl
 simp only [n5,i9,n8]
 rw [a4O,a8,a8]
 cases hts:O9 s
 ·rfl
 simp only [n5,i9,j6]
 rw [a5s F s hs (by omega),hts,if_pos rfl,a8]
 have hpl:=a4P c s
 rw [a4K (S9 c.Stops) 2000000 (fun i w acc hw hB=>?_) [] (by rw [List.nil_append];unfold X3 at hpl;omega),List.nil_append,a8,a8]
 ·have hfold:(B1 s).flatMap (S9 c.Stops)=X3 c s:=rfl
  rw [hfold]
  have hp:=a8c hcs
  have hfr:=a9B hcs
  obtain⟨l,hl⟩: ∃l,l=X3 c s:=⟨_,rfl⟩
  rw [←hl] at hpl ⊢
  rw [a4V (t:=a1g c.Syns l.length l) (fun i st=>∃(out:List w8) (o:Nat),st=(out,(o:Int))∧i≤o∧out.length≤o∧o≤l.length+3∧out++a1g c.Syns (l.length-o) (l.drop o)=a1g c.Syns l.length l) l.length
   (fun i st hi ⟨out,o,e1,e2,e3,e4,e5⟩=>?_) (fun st ⟨out,o,e1,e2,e3,e4,e5⟩=>?_) l.length 0 (([]:List w8),(0:Int)) F (by omega) (by omega) ⟨[],0,rfl,by omega,by simp,by omega,by simp⟩]
  ·rw [hl];rfl
  ·subst e1
   rcases Nat.lt_or_ge o l.length with hol | hol
   ·refine .inl ?_
    rw [b8 (by omega),j6,b4C F c l o (by omega) hol (fun r hr=>by have:=hfr r hr;omega),a8,l8,i6 hol]
    have hr:=b1Q hp hol
    cases hb:a2F c.Syns (l.drop o) with
    | none=>
     rw [hb] at hr
     simp only [Option.isNone_none,j6,a8] at hr ⊢
     rw [F5 (by simp;omega),a8,u4 (by omega)]
     exact⟨_,rfl,_,_,rfl,by omega,by rw [j8,l6];omega,by omega,by rw [List.append_assoc,←e5,hr];rfl⟩
    | some y=>
     rw [hb] at hr
     have hy:=hp y (a1P hb)
     have hy3:=hfr y (a1P hb)
     simp only [Option.isNone_some,i9,a8] at hr ⊢
     rw [F5 (by simp;omega),a8,show (o:Int)+(y.From.length:Int)=((o+y.From.length:Nat):Int) by omega,B9 ⟨by omega,by omega⟩]
     exact⟨_,rfl,_,_,rfl,by omega,by rw [j8,l6];omega,by omega,by rw [List.append_assoc,←e5,hr];rfl⟩
   ·refine .inr ?_
    rw [c6 (by omega)]
    show some (Sum.inr out)=_
    rw [←e5,List.drop_of_length_le hol,a6g,List.append_nil]
  ·subst e1
   rw [c6 (by omega)]
   show some (Sum.inr out)=_
   rw [←e5,List.drop_of_length_le (by omega),a6g,List.append_nil]
 ·have hww:=a5G (m8 hw)
  rw [l8,hw,a8,b0X F _ hww (by omega),a8,a0E,a8,a0E]
  unfold S9 at hB ⊢
  revert hB
  rw [M0]
  cases c.Stops.any (· ==w.Text)
  ·simp only [Bool.not_false,j6,a8,n8]
   cases c.Stops.any (· ==T1 w.Text)
   ·intro hB
    simp only [Bool.not_false,j6] at hB ⊢
    rw [F5 (by simp at hB ⊢;omega)];rfl
   ·intro _;simp
  ·intro _;simp
theorem b25 (F:Nat)(c:o0)(s:l3)(hs:s.length≤2000000)(hc:c.Stops.length≤2000000)(hF:s.length+30<F)(hF2:c.Stops.length<F):Y6 F c s=some (X3 c s):=by
 unfold Y6
 have hpl:=a4P c s
 have hwl:=a1C s
 rw [a5z F s hs (by omega),a8]
 rw [b1l (xs:=B1 s) (S9 c.Stops) 2000000 F (by omega) (fun i w acc hw hB=>?_) (fun acc=>?_) [] (by rw [List.nil_append];unfold X3 at hpl;omega),List.nil_append]
 ·rfl
 ·have hi:=(g8.1 hw).1
  have hww:=a5G (m8 hw)
  have h12:=a0o hww
  have hst:=b2c w.Text
  rw [b8 (by omega),j6,l8,hw,a8,a6T F _ (by omega) (by omega),a8,u4 (by omega),a8,a4z F _ _ hc hF2,a8,a4z F _ _ hc hF2]
  unfold S9 at hB ⊢
  revert hB
  rw [M0]
  cases c.Stops.any (· ==w.Text)
  ·simp only [Bool.not_false,j6,a8,n8]
   cases c.Stops.any (· ==T1 w.Text)
   ·intro hB
    simp only [Bool.not_false,j6] at hB ⊢
    rw [F5 (by simp at hB ⊢;omega)];rfl
   ·intro _;simp
  ·intro _;simp
 ·rw [c6 (by omega)];rfl
theorem a4T {α:Type}{xs:List α}{k:Nat}(h:k≤xs.length):Z6 xs (k:Int) xs.length=some (xs.drop k):=by
 rw [Z6,if_pos (by omega)];simp
theorem b2y {l:List w8}{fr:List l3}(h:a0g l fr=true):fr.length≤l.length:=by
 rcases Nat.lt_or_ge l.length fr.length with h1 | h1
 ·rw [a5P h1] at h;cases h
 ·exact h1
theorem b1a {syns:List M2}{l:List w8}{y:M2}(h:a2F syns l=some y):a0g l y.From=true:=by
 have: ∀(ss:List M2) (b:Option M2),(∀z,b=some z→a0g l z.From=true)→∀z,ss.foldl (W9 l) b=some z→a0g l z.From=true:=by
  intro ss
  induction ss with
  | nil=>intro b hb z h;exact hb z h
  | cons x r ih=>
   intro b hb z h
   rw [List.foldl_cons] at h
   refine ih _ (fun z hz=>?_) z h
   unfold W9 at hz
   split at hz
   ·rename_i hc
    cases hz
    simp only [l5] at hc
    exact hc.1
   ·exact hb z hz
 exact this syns none (by simp) y h
theorem a3L (F:Nat)(c:o0)(s:l3)(hcs:I4 c=true)(hs:s.length≤2000000)(hF:s.length+30<F):L5 F c s=some (u2 c s):=by
 unfold L5
 have hst:=a3x hcs
 have hp:=a8c hcs
 have hfr:=a9B hcs
 rw [b25 F c s hs (by omega) (by omega) (by omega),a8]
 have hpl:=a4P c s
 unfold u2
 obtain⟨l,hl⟩: ∃l,l=X3 c s:=⟨_,rfl⟩
 rw [←hl] at hpl ⊢
 rw [a4V (t:=a1g c.Syns l.length l) (fun i st=>∃(out:List w8) (o:Nat),st=(out,l.drop o)∧i≤o∧out.length≤o∧o≤l.length+3∧out++a1g c.Syns (l.length-o) (l.drop o)=a1g c.Syns l.length l) l.length
  (fun i st hi ⟨out,o,e1,e2,e3,e4,e5⟩=>?_) (fun st ⟨out,o,e1,e2,e3,e4,e5⟩=>?_) l.length 0 (([]:List w8),l) F (by omega) (by omega) ⟨[],0,rfl,by omega,by simp,by omega,by simp⟩]
 ·rfl
 ·subst e1
  rcases Nat.lt_or_ge o l.length with hol | hol
  ·refine .inl ?_
   have hdl:(l.drop o).length=l.length-o:=List.length_drop
   have hd0:(l.drop o)[0]? =some l[o]:=by rw [List.getElem?_drop,Nat.add_zero];exact i6 hol
   have h00:p8 (l.drop o) (0:Int)=some l[o]:=by rw [show (0:Int)=((0:Nat):Int) from rfl,l8];exact hd0
   obtain⟨k,hk,hor⟩:=b6A F c (l.drop o) (by omega) (by omega) (fun r hr=>by have:=hfr r hr;omega) (by omega)
   rw [b8 (by simp only;omega),j6,hk,a8,h00]
   have hr:=b1Q hp hol
   rcases hor with ⟨h1,hb⟩ | ⟨y,h1,h2,hb⟩
   ·rw [hb] at hr
    rw [b8 h1,j6,a8,F5 (by simp;omega),a8]
    simp only
    rw [show (1:Int)=((1:Nat):Int) from rfl,a4T (by omega),a8,List.drop_drop]
    exact⟨_,rfl,_,_,rfl,by omega,by rw [j8,l6];omega,by omega,by rw [List.append_assoc,←e5,hr];rfl⟩
   ·rw [hb] at hr
    have hy:=hp y (a1P hb)
    have hy3:=hfr y (a1P hb)
    have hyl:=b2y (b1a hb)
    rw [c6 (by omega),i9,h2,a8,a8,F5 (by simp;omega),a8,a8]
    simp only
    rw [a4T (by omega),a8,List.drop_drop]
    exact⟨_,rfl,_,_,rfl,by omega,by rw [j8,l6];omega,by omega,by rw [List.append_assoc,←e5,hr];rfl⟩
  ·refine .inr ?_
   rw [List.drop_of_length_le hol]
   show some (Sum.inr out)=_
   rw [←e5,List.drop_of_length_le hol,a6g,List.append_nil]
 ·subst e1
  rw [List.drop_of_length_le (by omega)]
  show some (Sum.inr out)=_
  rw [←e5,List.drop_of_length_le (by omega),a6g,List.append_nil]
end Go.Fk
