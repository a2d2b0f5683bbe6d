import Derived.Test.YtpdfkjjmcnhakaaGreatDoorLawMatchQ
import Derived.Test.YtpdfkjjmcnhakaaGreatDoorLawTermS
/-
  Where terms stand: each at a word of its own, and a word's bytes hold no bracket. Of plain data.
-/
set_option linter.unusedVariables false
namespace Go.Fk
open Go
theorem a5E: ∀(n:Nat) (s:l3) (o k:Nat),s.length≤n→∀(i:Nat) (w:M3),(L7 s o k)[i]? =some w→
  w.At=((k+i:Nat):Int)∧∃a b:Nat,w.From=((o+a:Nat):Int)∧w.To=((o+b:Nat):Int)∧a≤b∧b≤s.length∧∀x∈(s.take b).drop a,M9 x=true
 | n,[],o,k,_=>by rw [P1];intro i w h;simp at h
 | 0,b::r,o,k,h=>by simp at h
 | n+1,b::r,o,k,h=>by
  intro i w hw
  rw [L7] at hw
  by_cases hb:M9 b=true
  ·rw [if_pos hb] at hw
   have hl:=List.takeWhile_prefix M9 (l:=b::r)
   have hle:=hl.length_le
   have hpos:=b7z (r:=r) hb
   have htk:=List.prefix_iff_eq_take.1 hl
   have hall: ∀x∈(b::r).takeWhile M9,M9 x=true:=fun x hx=>List.all_eq_true.1 List.all_takeWhile x hx
   generalize hL:((b::r).takeWhile M9).length=L at *
   cases i with
   | zero=>
    rw [List.getElem?_cons_zero] at hw
    cases hw
    refine⟨rfl,0,L,rfl,rfl,by omega,hle,fun x hx=>?_⟩
    rw [List.drop_zero,←htk] at hx
    exact hall x hx
   | succ i=>
    rw [List.getElem?_cons_succ] at hw
    obtain⟨h1,a,b',h2,h3,h4,h5,h6⟩:=a5E n ((b::r).drop L) (o+L) (k+1) (by rw [List.length_drop];omega) i w hw
    rw [List.length_drop] at h5
    refine⟨by rw [h1];omega,L+a,L+b',by rw [h2];omega,by rw [h3];omega,by omega,by omega,fun x hx=>h6 x ?_⟩
    rwa [←List.drop_drop,List.drop_take,Nat.add_sub_cancel_left] at hx
  ·rw [if_neg hb] at hw
   obtain⟨h1,a,b',h2,h3,h4,h5,h6⟩:=a5E n r (o+1) k (by simpa using h) i w hw
   refine⟨h1,a+1,b'+1,by rw [h2];omega,by rw [h3];omega,by omega,by rw [l9];omega,fun x hx=>h6 x ?_⟩
   rwa [List.take_succ_cons,List.drop_succ_cons] at hx
theorem a4H {s:l3}{i:Nat}{w:M3}(h:(B1 s)[i]? =some w):w.At=(i:Int)∧∃a b:Nat,w.From=(a:Int)∧w.To=(b:Int)∧a≤b∧b≤s.length∧∀x∈(s.take b).drop a,M9 x=true:=by
 obtain⟨h1,a,b,h2,h3,h4⟩:=a5E s.length s 0 0 (Nat.le_refl _) i w h
 rw [Nat.zero_add] at h1 h2 h3
 exact⟨h1,a,b,h2,h3,h4⟩
theorem b5n (s:l3):((B1 s).map (·.At)).Pairwise fun a b=>a<b:=by
 rw [List.pairwise_iff_getElem]
 intro i j hi hj hij
 rw [List.length_map] at hi hj
 rw [List.getElem_map,List.getElem_map,(a4H (i6 hi)).1,(a4H (i6 hj)).1]
 omega
theorem b4R (c:o0)(s:l3):((X3 c s).map (·.At)).Sublist ((B1 s).map (·.At)):=by
 unfold X3
 induction B1 s with
 | nil=>exact .slnil
 | cons w l ih=>
  rw [List.flatMap_cons,List.map_append,List.map_cons]
  unfold S9
  split
  ·exact ih.cons_cons _
  ·exact ih.cons _
theorem b0K {syns:List M2}(hp:a7I syns): ∀(n:Nat) (l:List w8),((a1g syns n l).map (·.At)).Sublist (l.map (·.At))
 | 0,l=>by rw [a1g];exact List.nil_sublist _
 | n+1,[]=>by rw [a6g];exact .slnil
 | n+1,t::r=>by
  simp only [a1g]
  cases hb:a2F syns (t::r) with
  | none=>simp only [List.map_cons];exact(b0K hp n r).cons_cons _
  | some y=>
   simp only [List.map_cons]
   have hy:=hp y (a1P hb)
   refine List.Sublist.cons_cons _ ((b0K hp n _).trans ?_)
   obtain⟨m,hm⟩: ∃m,y.From.length=m+1:=⟨y.From.length-1,by omega⟩
   rw [hm,List.drop_succ_cons]
   exact(List.drop_sublist m r).map _
theorem a98 {c:o0}(h:I4 c=true)(s:l3):((u2 c s).map (·.At)).Sublist ((B1 s).map (·.At)):=
 (b0K (a8c h) _ _).trans (b4R c s)
theorem b2m {c:o0}(h:I4 c=true)(s:l3):((u2 c s).map (·.At)).Pairwise fun a b=>a<b:=(b5n s).sublist (a98 h s)
theorem b2l {c:o0}(h:I4 c=true){s:l3}{x:w8}(hx:x∈u2 c s): ∃i:Nat,i<(B1 s).length∧x.At=(i:Int):=by
 have:=(a98 h s).subset (List.mem_map_of_mem hx)
 obtain⟨w,hw,e⟩:=List.mem_map.1 this
 obtain⟨i,hi⟩:=List.getElem?_of_mem hw
 exact⟨i,(g8.1 hi).1,by rw [←e];exact(a4H hi).1⟩
def G8 (T:List w8)(t:l3)(i:Nat):Bool:=T.any fun x=>x.At==(i:Int)&&x.Text==t
def a1m (h:Nat→Bool):Nat→Nat×Int
 | 0=>(0, -1)
 | n+1=>if decide ((a1m h n).2<(if h n then 1 else 0)) then (n,if h n then 1 else 0) else a1m h n
theorem a2Z (h:Nat→Bool): ∀n,n=0∧a1m h n=(0, -1)∨0<n∧((a1m h n).2=0∧(a1m h n).1=0∧(∀i,i<n→h i=false)∨(a1m h n).2=1∧(a1m h n).1<n∧h (a1m h n).1=true)
 | 0=>.inl ⟨rfl,rfl⟩
 | n+1=>by
  refine .inr ⟨Nat.succ_pos n,?_⟩
  rw [a1m]
  rcases a2Z h n with ⟨rfl,e⟩ | ⟨hn,⟨e1,e2,e3⟩ | ⟨e1,e2,e3⟩⟩
  ·rw [e]
   cases h0:h 0 with
   | true=>exact .inr ⟨rfl,by simp,by simpa using h0⟩
   | false=>exact .inl ⟨rfl,rfl,fun i hi=>by rw [show i=0 by omega];exact h0⟩
  ·rw [e1]
   cases h0:h n with
   | true=>exact .inr ⟨rfl,by simp,by simpa using h0⟩
   | false=>
    refine .inl ⟨?_,?_,fun i hi=>?_⟩
    ·simpa using e1
    ·simpa using e2
    ·rcases Nat.lt_or_ge i n with q | q
     ·exact e3 i q
     ·rw [show i=n by omega];exact h0
  ·rw [e1]
   have:decide ((1:Int)<if h n then 1 else 0)=false:=by split<;>rfl
   rw [this,if_neg (by decide)]
   exact .inr ⟨e1,by omega,e3⟩
def S6 (h:Nat→Bool)(n:Nat):Nat:=(a1m h n).1
theorem b5x (h:Nat→Bool)(n:Nat):(decide (S6 h n<n)&&h (S6 h n))=(List.range n).any h:=by
 unfold S6
 rw [Bool.eq_iff_iff,List.any_eq_true,l5,decide_eq_true_eq]
 constructor
 ·rintro⟨h1,h2⟩
  exact⟨_,List.mem_range.2 h1,h2⟩
 ·rintro⟨i,hi,h2⟩
  rw [List.mem_range] at hi
  rcases a2Z h n with ⟨rfl,e⟩ | ⟨hn,⟨e1,e2,e3⟩ | ⟨e1,e2,e3⟩⟩
  ·omega
  ·rw [e3 i hi] at h2;cases h2
  ·exact⟨e2,e3⟩
def U7 (s:l3)(i:Nat):l3:=((B1 s)[i]?).elim [] fun w=>(s.take w.To.toNat).drop w.From.toNat
def a5i (c:o0)(s t:l3):l3:=
 if (B1 s).length=0 then [] else
  (if 0<S6 (G8 (u2 c s) t) (B1 s).length then [46,46,32] else [])++
  (if G8 (u2 c s) t (S6 (G8 (u2 c s) t) (B1 s).length) then [91]++U7 s (S6 (G8 (u2 c s) t) (B1 s).length)++[93] else U7 s (S6 (G8 (u2 c s) t) (B1 s).length))++
  (if S6 (G8 (u2 c s) t) (B1 s).length+1<(B1 s).length then [32,46,46] else [])
theorem b1D:M9 91=false:=by decide
theorem b3c (s:l3)(i:Nat):(U7 s i).any (· ==91)=false:=by
 unfold U7
 cases hw:(B1 s)[i]? with
 | none=>rfl
 | some w=>
  obtain⟨_,a,b,h2,h3,_,_,h6⟩:=a4H hw
  rw [Bool.eq_false_iff]
  intro h
  obtain⟨x,hx,e⟩:=List.any_eq_true.1 h
  simp only [Option.elim,h2,h3,Int.toNat_natCast] at hx
  have:=h6 x hx
  rw [eq_of_beq e,b1D] at this
  cases this
theorem b0e {h:Nat→Bool}{n:Nat}(hn:n≠0):S6 h n<n:=by
 unfold S6
 rcases a2Z h n with ⟨rfl,e⟩ | ⟨_,⟨e1,e2,e3⟩ | ⟨e1,e2,e3⟩⟩<;>omega
theorem b7K {c:o0}(hc:I4 c=true)(s t:l3):(a5i c s t).any (· ==91)=(u2 c s).any (fun x=>x.Text==t):=by
 have hany:(u2 c s).any (fun x=>x.Text==t)=(List.range (B1 s).length).any (G8 (u2 c s) t):=by
  rw [Bool.eq_iff_iff,List.any_eq_true,List.any_eq_true]
  constructor
  ·rintro⟨x,hx,e⟩
   obtain⟨i,hi,ha⟩:=b2l hc hx
   exact⟨i,List.mem_range.2 hi,List.any_eq_true.2 ⟨x,hx,by rw [ha,beq_self_eq_true,e];rfl⟩⟩
  ·rintro⟨i,_,h⟩
   obtain⟨x,hx,e⟩:=List.any_eq_true.1 h
   exact⟨x,hx,((l5 _ _).mp e).2⟩
 rw [hany,←b5x]
 unfold a5i
 by_cases h0:(B1 s).length=0
 ·rw [if_pos h0,h0];rfl
 ·rw [if_neg h0,b8 (b0e h0),n8]
  have hw:=b3c s (S6 (G8 (u2 c s) t) (B1 s).length)
  generalize S6 (G8 (u2 c s) t) (B1 s).length=b at *
  have e1:(if 0<b then ([46,46,32]:l3) else []).any (· ==91)=false:=by split<;>rfl
  have e2:(if b+1<(B1 s).length then ([32,46,46]:l3) else []).any (· ==91)=false:=by split<;>rfl
  rw [List.any_append,List.any_append,e1,e2,Bool.or_false,Bool.false_or]
  cases hh:G8 (u2 c s) t b with
  | true=>rw [if_pos rfl];rfl
  | false=>rw [if_neg (by decide)];exact hw
end Go.Fk
set_option linter.unusedVariables false
namespace Go.Fk
open Go
def a1W (T:List w8)(t:l3)(n:Nat):List l3:=(List.range n).map fun i=>if G8 T t i then t else []
theorem a29 {T:List w8}{t:l3}{n i:Nat}(h:i<n):(a1W T t n)[i]? =some (if G8 T t i then t else []):=by
 unfold a1W
 rw [List.getElem?_map,List.getElem?_range h];rfl
theorem a3a (T:List w8)(t:l3)(n:Nat):(a1W T t n).length=n:=by simp [a1W]
theorem b1r (T:List w8)(x:w8)(t:l3)(i:Nat):G8 (T++[x]) t i=(G8 T t i||(x.At==(i:Int)&&x.Text==t)):=by simp [G8,List.any_append]
theorem b2Q {T:List w8}{x:w8}{t:l3}{n i:Nat}(hi:x.At=(i:Int))(hn:i<n):a1W (T++[x]) t n=if x.Text==t then (a1W T t n).set i t else a1W T t n:=by
 apply List.ext_getElem?
 intro j
 rcases Nat.lt_or_ge j n with hj | hj
 ·rw [a29 hj,b1r,hi]
  cases he:x.Text==t with
  | true=>
   rw [if_pos rfl,List.getElem?_set,a3a,a29 hj,Bool.and_true]
   by_cases hij:i=j
   ·subst hij
    rw [if_pos rfl,if_pos hn,beq_self_eq_true,Bool.or_true,if_pos rfl]
   ·rw [if_neg hij,beq_eq_false_iff_ne.2 (by omega),Bool.or_false]
  | false=>rw [Bool.and_false,Bool.or_false,if_neg (show ¬(false=true) by decide),a29 hj]
 ·rw [List.getElem?_eq_none (by rw [a3a];omega)]
  split<;>rw [List.getElem?_eq_none (by simp only [List.length_set,a3a];omega)]
theorem b4J (t:l3)(n:Nat):a1W [] t n=List.replicate n []:=by
 unfold a1W
 apply List.ext_getElem?
 intro j
 rw [List.getElem?_map,List.getElem?_replicate]
 rcases Nat.lt_or_ge j n with hj | hj
 ·rw [List.getElem?_range hj,if_pos hj];rfl
 ·rw [List.getElem?_eq_none (by rw [List.length_range];omega),if_neg (by omega)];rfl
theorem a3o {s:l3}(h:O9 s=true):s.length≤160:=by
 simp only [O9,l5,decide_eq_true_eq] at h
 omega
theorem b3j (a t:l3):([t].any fun y=>y==a)=(a==t):=by
 rw [List.any_cons,List.any_nil,Bool.or_false,b33]
theorem impl_marks (F:Nat){c:o0}(hc:I4 c=true){s t:l3}(ht:O9 s=true)(hst:c.Stops.length≤2000000)(hF:1000<F):a0c F c s [t]=some (a1W (u2 c s) t (B1 s).length):=by
 have hs:=a3o ht
 have hw:=a1C s
 have hsp:=W6 c s
 unfold a0c
 rw [a5s F s (by omega) (by omega),ht,if_pos rfl,a8,a9Q,if_pos ⟨by omega,by omega⟩,a8,a2o F c s (by omega) hst (by omega),hc,ht,if_pos (show (true&&true)=true from rfl),a8,Int.toNat_natCast,←b4J t,
  a2p (m:=a1W ((u2 c s).take (u2 c s).length) t (B1 s).length) (a2g (fun i l=>l=a1W ((u2 c s).take i) t (B1 s).length) (u2 c s).length (fun i l hi e=>?_) (u2 c s).length 0 _ (by omega) (by rw [List.take_zero])),List.take_length]
 ·rfl
 ·subst e
  refine⟨_,?_,rfl⟩
  obtain⟨j,hj,ha⟩:=b2l hc (List.getElem_mem hi)
  rw [a03 hi,a8,a0E,a8,List.take_succ_eq_append_getElem hi,b2Q ha hj,b3j]
  cases he:(u2 c s)[i].Text==t with
  | true=>rw [j6,ha,l8,a29 hj,a8,Int.toNat_natCast,eq_of_beq he,if_pos rfl]
  | false=>rw [i9,if_neg (by decide)]
theorem b6C {α:Type}{xs:List α}{i:Nat}{x:α}(h:xs[i]? =some x):Z6 xs (i:Int) ((i+1:Nat):Int)=some [x]:=by
 obtain⟨hi,rfl⟩:=g8.1 h
 rw [Z6,if_pos ⟨by omega,by omega,by omega⟩]
 simp only [Int.toNat_natCast]
 rw [List.take_succ_eq_append_getElem hi,List.drop_append_of_le_length (by rw [List.length_take];omega),List.drop_take_self,List.nil_append]
theorem b4a {t:l3}(h:A1 t=true):(t==[])=false:=by
 cases t with
 | nil=>exact absurd h (by decide)
 | cons a b=>rfl
theorem b0g {h:Nat→Bool}{n:Nat}(b:Bool)(hb:h n=b):a1m h (n+1)=if decide ((a1m h n).2<(if b then 1 else 0)) then (n,if b then 1 else 0) else a1m h n:=by rw [a1m,hb]
theorem b3l (h:Nat→Bool)(n:Nat): -1≤(a1m h n).2∧(a1m h n).2≤1∧(a1m h n).1≤n:=by
 rcases a2Z h n with ⟨rfl,e⟩ | ⟨_,⟨e1,e2,e3⟩ | ⟨e1,e2,e3⟩⟩
 ·rw [e];exact⟨by decide,by decide,by decide⟩
 ·omega
 ·omega
theorem a6P (k v:Int):((cond (decide (k<v)) (some true) (cond (v==k) (some (decide (k<v))) (some false))):Option Bool)=some (decide (k<v)):=by
 cases h:decide (k<v) with
 | true=>rfl
 | false=>cases v==k<;>rfl
theorem b4G (y:l3):(Option.bind (O6 (fun (i:Nat) (s:Int×(List l3))=>(Option.bind (p8 [y] ((i:Nat):Int)) fun x=>(cond (!(x==[])) (some ((y8 (s.1+1)),(b4S x s.2))) (some (s.1,s.2))))) ([y]:List l3).length 0 ((0:Int),([]:List l3))) fun s=>some (s.1,s.2))=some (if y==[] then ((0:Int),[]) else (1,[y])):=by
 have e0:p8 [y] ((0:Nat):Int)=some y:=rfl
 rw [l6,O6,e0,a8]
 cases y==[]<;>rfl
theorem b1B (F:Nat){c:o0}(hc:I4 c=true){s t:l3}(ht:O9 s=true)(hw:A1 t=true)(hst:c.Stops.length≤2000000)(hF:1000<F):
  a0u F c s [t] 1=some ((S6 (G8 (u2 c s) t) (B1 s).length:Nat):Int):=by
 have hs:=a3o ht
 have hwl:=a1C s
 unfold a0u
 rw [a4N F c hst (by omega),a8,hc,n5,i9,a4O,a8,ht,n5,i9,show decide ((4:Int)<(([t]:List l3).length:Int))=false from rfl,i9,F9,a8,
  show (!(decide ((1:Int)≤1)&&decide ((1:Int)≤12)))=false from rfl,a8,i9,
  a4I (p:=fun _=>true) (e:=(-1:Int)) (xs:=[t]) (fun i x hx=>?_) [t].length 0 rfl]
 ·simp only [List.all_eq_true,implies_true,if_true,a8,Sum.elim_inl]
  rw [impl_marks F hc ht hst hF,a8,
   a2p (m:=((S6 (G8 (u2 c s) t) (B1 s).length:Nat):Int)) (G3 (Post:=fun r=>r=((S6 (G8 (u2 c s) t) (B1 s).length:Nat):Int)) (fun i (st:Int×Int×Int×Int)=>st=(((a1m (G8 (u2 c s) t) i).1:Int),(a1m (G8 (u2 c s) t) i).2,(a1m (G8 (u2 c s) t) i).2,(i:Int))) (B1 s).length (fun i st hi e=>?_) (fun st e=>?_) (B1 s).length 0 ((0:Int),(-1:Int),(-1:Int),(0:Int)) F (by omega) (by omega) rfl),a8,a8]
  ·subst e
   refine .inl ⟨_,?_,rfl⟩
   have hr:=b3l (G8 (u2 c s) t) i
   dsimp only
   rw [u4 (by omega),a3a,b8 (by omega),j6,b6C (a29 hi),a8,b4G,a8]
   cases hh:G8 (u2 c s) t i with
   | true=>
    rw [b0g true hh,if_pos rfl,b4a hw,if_neg (by decide),if_pos rfl,show b1F [t]=some 1 from rfl,a8,a8,a6P,a8]
    cases decide ((a1m (G8 (u2 c s) t) i).2<1)<;>rfl
   | false=>
    rw [b0g false hh]
    simp only [Bool.false_eq_true,if_false]
    rw [show (([]:l3)==[])=true from rfl,if_pos rfl,show b1F []=some 0 from rfl,a8,a8,a6P,a8]
    cases decide ((a1m (G8 (u2 c s) t) i).2<0)<;>rfl
  ·subst e
   refine⟨_,?_,rfl⟩
   dsimp only
   rw [a3a,u4 (by omega),c6 (by omega)];rfl
 ·cases i with
  | succ i=>rw [List.getElem?_cons_succ] at hx;simp at hx
  | zero=>
   rw [List.getElem?_cons_zero] at hx
   cases hx
   show (Option.bind (p8 [t] 0) _)=_
   rw [show p8 [t] (0:Int)=some t from rfl,a8,F3,a8,hw,n5,i9]
   show (Option.bind (Option.bind (Option.bind (Z6 [t] 0 0) _) _) _)=_
   rw [show Z6 [t] 0 0=some [] from rfl,a8,a8,a0E]
   rfl
theorem a34 {a b:l3}(h:a.length+b.length≤10000):a18 a b=some (a++b):=by
 have hm:10000≤maxLen:=by decide
 unfold a18
 rw [if_pos (by omega)]
theorem b2h {s:l3}{i:Nat}{w:M3}(h:(B1 s)[i]? =some w):a1n s w.From w.To=some (U7 s i):=by
 obtain⟨_,a,b,h2,h3,h4,h5,_⟩:=a4H h
 unfold U7
 rw [h,a1n,if_pos ⟨by omega,by omega,by omega⟩];rfl
theorem a5D (s:l3)(i:Nat):(U7 s i).length≤s.length:=by
 unfold U7
 cases (B1 s)[i]? with
 | none=>exact Nat.zero_le _
 | some w=>simp only [Option.elim,List.length_drop,List.length_take];omega
def a11 (c:o0)(s t:l3)(b:Nat):l3:=if G8 (u2 c s) t b then [91]++U7 s b++[93] else U7 s b
theorem a6N (c:o0)(s t:l3)(b:Nat):(a11 c s t b).length≤s.length+2:=by
 have:=a5D s b
 unfold a11
 split
 ·simp only [j8,l6];omega
 ·omega
def b1h (n b:Nat)(m:l3):l3:=(if 0<b then [46,46,32] else [])++m++(if b+1<n then [32,46,46] else [])
theorem b0U (c:o0)(s t:l3)(h:(B1 s).length≠0):a5i c s t=b1h (B1 s).length (S6 (G8 (u2 c s) t) (B1 s).length) (a11 c s t (S6 (G8 (u2 c s) t) (B1 s).length)):=by
 unfold a5i b1h a11
 rw [if_neg h]
theorem a6S (c:o0)(s t:l3)(h:(B1 s).length=0):a5i c s t=[]:=by
 unfold a5i
 rw [if_pos h]
theorem b3p {n b:Nat}{m:l3}(hm:m.length≤1000)(hb:b<10000):(Option.bind ((cond (decide ((0:Int)<(b:Int))) (Option.bind (a18 [46,46,32] m) fun x=>(some x)) (some m)):Option l3) fun o=>(cond (decide (((b+1:Nat):Int)<(n:Int))) (Option.bind (a18 o [32,46,46]) fun x=>(some x)) (some o)))=some (b1h n b m):=by
 unfold b1h
 rw [a34 (by simp only [l9,List.length_nil];omega),a8]
 by_cases h0:0<b
 ·rw [b8 (by omega),j6,a8,if_pos h0,a34 (by simp only [j8,l9,List.length_nil];omega),a8]
  by_cases h1:b+1<n
  ·rw [b8 (by omega),j6,if_pos h1]
  ·rw [c6 (by omega),i9,if_neg h1,List.append_nil]
 ·rw [c6 (by omega),i9,a8,if_neg h0,a34 (by simp only [l9,List.length_nil];omega),a8,List.nil_append]
  by_cases h1:b+1<n
  ·rw [b8 (by omega),j6,if_pos h1]
  ·rw [c6 (by omega),i9,if_neg h1,List.append_nil]
theorem b4D (F:Nat){c:o0}(hc:I4 c=true){s t:l3}(ht:O9 s=true)(hw:A1 t=true)(hst:c.Stops.length≤2000000)(hF:1000<F):V1 F c s [t] 1=some (a5i c s t):=by
 have hs:=a3o ht
 have hwl:=a1C s
 unfold V1
 rw [b1B F hc ht hw hst hF,a8,c6 (by omega),i9,a5s F s (by omega) (by omega),ht,if_pos rfl,a8,impl_marks F hc ht hst hF,a8]
 by_cases h0:(B1 s).length=0
 ·rw [a6S c s t h0,h0]
  obtain⟨G,rfl⟩: ∃G,F=G+1:=⟨F-1,by omega⟩
  rfl
 ·have hb:=b0e (h:=G8 (u2 c s) t) h0
  rw [b0U c s t h0]
  generalize hB:S6 (G8 (u2 c s) t) (B1 s).length=b at *
  have hpl:=a6N c s t b
  have hal:=a5D s b
  rw [u4 (by omega),if_neg (by omega),a8,
   a2p (m:=[a11 c s t b]) (G3 (Post:=fun r=>r=[a11 c s t b]) (fun i (st:List l3×Int)=>st=(if i=0 then [] else [a11 c s t b],((b+i:Nat):Int))) 1 (fun i st hi e=>?_) (fun st e=>?_) 1 0 (([]:List l3),(b:Int)) F (by omega) (by omega) rfl),a8,a8,a8r,Lib.join_one,if_pos ⟨by simp,by omega⟩,a8]
  ·exact b3p (by omega) (by omega)
  ·obtain rfl:i=0:=by omega
   subst e
   refine .inl ⟨_,?_,rfl⟩
   have hg:(B1 s)[b]? =some (B1 s)[b]:=i6 hb
   rw [if_pos rfl,if_neg (by omega)]
   dsimp only
   rw [Nat.add_zero,b8 (by omega),j6,l8,hg,a8,a8,b2h hg,a8,l8,a29 hb,a8,u4 (by omega)]
   unfold a11
   cases hh:G8 (u2 c s) t b with
   | true=>
    rw [if_pos rfl,if_pos rfl,b4a hw,Bool.not_false,j6,a34 (by simp only [l9,List.length_nil];omega),a8,a34 (by simp only [j8,l9,List.length_nil];omega),a8,a8,F5 (by simp)]
    rfl
   | false=>
    rw [if_neg (by decide),if_neg (by decide),show (!(([]:l3)==[]))=false from rfl,i9,a8,F5 (by simp)]
    rfl
  ·subst e
   refine⟨_,?_,rfl⟩
   rw [if_neg (by decide)]
   dsimp only
   rw [c6 (by omega)];rfl
end Go.Fk
set_option linter.unusedVariables false
namespace Go.Fk
open Go
theorem a9C {t:l3}{i:Nat}: ∀{T:List w8},((T.map (·.At)).Pairwise fun a b=>a<b)→T.countP (fun x=>x.Text==t&&x.At==(i:Int))=if G8 T t i then 1 else 0
 | [],_=>rfl
 | x::r,h=>by
  rw [List.map_cons] at h
  obtain⟨h1,h2⟩:=List.pairwise_cons.1 h
  have ih:=a9C (t:=t) (i:=i) h2
  have hc:G8 (x::r) t i=((x.At==(i:Int)&&x.Text==t)||G8 r t i):=rfl
  rw [List.countP_cons,ih,hc]
  cases hx:(x.At==(i:Int)) with
  | false=>rw [Bool.and_false,Bool.false_and,Bool.false_or];simp
  | true=>
   have hn:G8 r t i=false:=by
    rw [Bool.eq_false_iff]
    intro hh
    obtain⟨y,hy,e⟩:=List.any_eq_true.1 hh
    have e1:=eq_of_beq ((l5 _ _).mp e).1
    have e2:=h1 y.At (List.mem_map_of_mem hy)
    have:=eq_of_beq hx
    omega
   rw [hn]
   cases x.Text==t<;>rfl
theorem b8I (F:Nat)(a:Int)(i:Nat):G9 F a (i:Int) (i:Int)=some (a==(i:Int)):=by
 rw [inS]
 by_cases h:a=(i:Int)
 ·rw [h,beq_self_eq_true,b8 (Int.le_refl _)];rfl
 ·rw [beq_eq_false_iff_ne.2 h]
  have:(decide ((i:Int)≤a)&&decide (a≤(i:Int)))=false:=by
   rw [Bool.and_eq_false_iff,decide_eq_false_iff_not,decide_eq_false_iff_not];omega
  rw [this]
theorem b45 (F:Nat){T:List w8}{t:l3}{i:Nat}(hT:T.length≤10000)(hp:(T.map (·.At)).Pairwise fun a b=>a<b)(hi:i≤10000)(hF:20000<F):
  Y5 F T [t] (i:Int) (y8 (y8 ((i:Int)+1)-1))=some (if G8 T t i then 1 else 0,if G8 T t i then 1 else 0):=by
 rw [u4 (by omega),Z7 (by omega) (by omega),Nat.add_sub_cancel]
 have hcl: ∀j,(T.take j).countP (fun x=>x.Text==t&&x.At==(i:Int))≤10000:=fun j=>by
  have:=List.countP_le_length (p:=fun x:w8=>x.Text==t&&x.At==(i:Int)) (l:=T.take j)
  rw [List.length_take] at this;omega
 unfold Y5
 rw [a2p (m:=((if G8 T t i then 1 else 0,if G8 T t i then 1 else 0):Int×Int)) (G3 (Post:=fun r=>r=((if G8 T t i then 1 else 0,if G8 T t i then 1 else 0):Int×Int)) (fun k (st:Int×Int×Int)=>st=(if k=0 then 0 else if G8 T t i then 1 else 0,if k=0 then 0 else if G8 T t i then 1 else 0,(k:Int))) 1 (fun k st hk e=>?_) (fun st e=>?_) 1 0 ((0:Int),(0:Int),(0:Int)) F (by omega) (by omega) rfl),a8,a8]
 ·obtain rfl:k=0:=by omega
  subst e
  refine .inl ⟨_,?_,rfl⟩
  rw [if_pos rfl,if_neg (by decide)]
  dsimp only
  rw [show decide (((0:Nat):Int)<(([t]:List l3).length:Int))=true from rfl,j6,
   a2p (m:=(((T.take T.length).countP (fun x=>x.Text==t&&x.At==(i:Int)):Nat):Int)) (G3 (Post:=fun r=>r=(((T.take T.length).countP (fun x=>x.Text==t&&x.At==(i:Int)):Nat):Int)) (fun j (st:Int×Int)=>st=((((T.take j).countP (fun x=>x.Text==t&&x.At==(i:Int)):Nat):Int),(j:Int))) T.length (fun j st hj e=>?_) (fun st e=>?_) T.length 0 ((0:Int),(0:Int)) F (by omega) (by omega) rfl),List.take_length,a9C hp,a8,a8]
  ·cases G8 T t i<;>rfl
  ·subst e
   refine .inl ⟨_,?_,rfl⟩
   have hcj:=hcl j
   dsimp only
   rw [b8 (by omega),j6,a03 hj,a8,show p8 [t] ((0:Nat):Int)=some t from rfl,a8,a8,b8I,a8,List.take_succ_eq_append_getElem hj,List.countP_append,List.countP_singleton,u4 (by omega),u4 (by omega)]
   cases hx:T[j].Text==t with
   | false=>rw [i9,a8,i9,Bool.false_and,if_neg (by decide)];rfl
   | true=>
    rw [j6,a8,n8]
    cases T[j].At==(i:Int) with
    | false=>rw [i9,if_neg (by decide)];rfl
    | true=>rw [j6,if_pos rfl]
  ·subst e
   refine⟨_,?_,rfl⟩
   dsimp only
   rw [c6 (by omega)];rfl
 ·subst e
  exact⟨_,rfl,rfl⟩
theorem b42 (F:Nat){T:List w8}{t:l3}{n:Nat}(hT:T.length≤10000)(hp:(T.map (·.At)).Pairwise fun a b=>a<b)(hn:n≤10000)(hF:20000<F):
  Y4 F T (n:Int) [t] 1=some ((S6 (G8 T t) n:Nat):Int):=by
 obtain⟨N,hN,hNn,hbest⟩: ∃N,0<N∧(N=n∨n=0∧N=1)∧S6 (G8 T t) N=S6 (G8 T t) n:=by
  by_cases h:n=0
  ·refine⟨1,by omega,.inr ⟨h,rfl⟩,?_⟩
   subst h
   unfold S6
   rcases a2Z (G8 T t) 1 with ⟨e,_⟩ | ⟨_,⟨e1,e2,e3⟩ | ⟨e1,e2,e3⟩⟩
   ·omega
   ·rw [e2];rfl
   ·rw [show (a1m (G8 T t) 1).1=0 by omega];rfl
  ·exact⟨n,by omega,.inl rfl,rfl⟩
 unfold Y4
 rw [←hbest,a2p (m:=((S6 (G8 T t) N:Nat):Int)) (G3 (Post:=fun r=>r=((S6 (G8 T t) N:Nat):Int)) (fun i (st:Int×Int×Int×Int)=>st=(((a1m (G8 T t) i).1:Int),(a1m (G8 T t) i).2,(a1m (G8 T t) i).2,(i:Int))) N (fun i st hi e=>?_) (fun st e=>?_) N 0 ((0:Int),(-1:Int),(-1:Int),(0:Int)) F (by omega) (by omega) rfl),a8,a8]
 ·subst e
  refine .inl ⟨_,?_,rfl⟩
  have hr:=b3l (G8 T t) i
  dsimp only
  have hc:((cond ((i:Int)==0) (some true) (some (decide (y8 ((i:Int)+1)≤(n:Int))))):Option Bool)=some true:=by
   by_cases h:i=0
   ·rw [h];rfl
   ·rw [beq_eq_false_iff_ne.2 (by omega),i9,u4 (by omega),b8 (by omega)]
  rw [hc,a8,j6,b45 F hT hp (by omega) hF,a8]
  dsimp only
  rw [a6P,a8,u4 (by omega)]
  cases hh:G8 T t i with
  | true=>
   rw [b0g true hh,if_pos rfl]
   cases decide ((a1m (G8 T t) i).2<1)<;>rfl
  | false=>
   rw [b0g false hh,if_neg (by decide)]
   cases decide ((a1m (G8 T t) i).2<0)<;>rfl
 ·subst e
  refine⟨_,?_,rfl⟩
  dsimp only
  rw [beq_eq_false_iff_ne.2 (by omega),i9,u4 (by omega),c6 (by omega)];rfl
theorem b2a (F:Nat){c:o0}(hc:I4 c=true)(hfit:a2D 100 c){s t:l3}(ht:O9 s=true)(hw:A1 t=true)(hF:20000<F):
  a0w F c s [t] 1=some ((S6 (G8 (u2 c s) t) (B1 s).length:Nat):Int):=by
 have hs:=a3o ht
 have hwl:=a1C s
 have htl:=W6 c s
 have hw12:=a0o hw
 have hm:2000000≤maxLen:=by decide
 unfold a0w
 rw [a2p (m:=(.inl ():Unit⊕Int)) (G3 (Post:=fun r=>r=(.inl ():Unit⊕Int)) (fun k (st:Int)=>st=(k:Int)) 1 (fun k st hk e=>?_) (fun st e=>?_) 1 0 (0:Int) F (by omega) (by omega) rfl)]
 ·simp only [a8,Sum.elim_inl]
  rw [a94 F 100 c hfit (by omega) (by omega),a8,hc,n5,i9,a96 F s (by omega) (by omega),a8,ht,n5,i9,inS,a8,
   show (!(decide ((1:Int)≤1)&&decide ((1:Int)≤12)))=false from rfl,i9,show decide ((4:Int)<(([t]:List l3).length:Int))=false from rfl,a8,i9,a3L F c s hc (by omega) (by omega),a8,a5z F s (by omega) (by omega),a8,b42 F (by omega) (b2m hc s) (by omega) hF]
  rfl
 ·obtain rfl:k=0:=by omega
  subst e
  refine .inl ⟨_,?_,rfl⟩
  rw [show decide (((0:Nat):Int)<(([t]:List l3).length:Int))=true from rfl,j6,show p8 [t] ((0:Nat):Int)=some t from rfl,a8,a4S F t (by omega) (by omega),a8,hw,n5,i9,show Z6 [t] 0 ((0:Nat):Int)=some [] from rfl,a8,a8,a4z F [] t (by simp) (by show 0<F;omega),a8]
  rfl
 ·subst e
  exact⟨_,rfl,rfl⟩
theorem b2E {T:List w8}{t:l3}{b k:Nat}(hp:(T.map (·.At)).Pairwise fun a b=>a<b)(hk:k<T.length)(h:T[k].At=(b:Int)):G8 (T.take k) t b=false:=by
 rw [Bool.eq_false_iff]
 intro hh
 obtain⟨y,hy,e⟩:=List.any_eq_true.1 hh
 have e1:=eq_of_beq ((l5 _ _).mp e).1
 obtain⟨j,hj,rfl⟩:=List.mem_iff_getElem.1 hy
 rw [List.length_take] at hj
 rw [List.getElem_take] at e1
 have:=List.pairwise_iff_getElem.1 hp j k (by rw [List.length_map];omega) (by rw [List.length_map];exact hk) (by omega)
 rw [List.getElem_map,List.getElem_map] at this
 omega
theorem b48 (F:Nat){c:o0}(hc:I4 c=true)(hfit:a2D 100 c){s t:l3}(ht:O9 s=true)(hw:A1 t=true)(hF:20000<F):V5 F c s [t] 1=some (a5i c s t):=by
 have hs:=a3o ht
 have hwl:=a1C s
 have htl:=W6 c s
 have hup:=b2m hc s
 unfold V5
 rw [b2a F hc hfit ht hw hF,a8,c6 (by omega),i9,a5z F s (by omega) (by omega),a8,a3L F c s hc (by omega) (by omega),a8]
 by_cases h0:(B1 s).length=0
 ·rw [a6S c s t h0,h0]
  obtain⟨G,rfl⟩: ∃G,F=G+1:=⟨F-1,by omega⟩
  rfl
 ·have hb:=b0e (h:=G8 (u2 c s) t) h0
  rw [b0U c s t h0]
  generalize hB:S6 (G8 (u2 c s) t) (B1 s).length=b at *
  have hpl:=a6N c s t b
  have hal:=a5D s b
  rw [u4 (by omega),
   a2p (m:=a11 c s t b) (G3 (Post:=fun r=>r=a11 c s t b) (fun i (st:l3×Int)=>st=(if i=0 then [] else a11 c s t b,((b+i:Nat):Int))) 1 (fun i st hi e=>?_) (fun st e=>?_) 1 0 (([]:l3),(b:Int)) F (by omega) (by omega) rfl),a8,a8]
  ·exact b3p (by omega) (by omega)
  ·obtain rfl:i=0:=by omega
   subst e
   refine .inl ⟨_,?_,rfl⟩
   have hg:(B1 s)[b]? =some (B1 s)[b]:=i6 hb
   rw [if_pos rfl,if_neg (by omega)]
   dsimp only
   rw [Nat.add_zero,b8 (by omega),j6,b8 (by omega),a8,j6,l8,hg,a8,a8,b2h hg,a8,
    a2p (m:=(if G8 ((u2 c s).take (u2 c s).length) t b then [91]++U7 s b++[93] else U7 s b:l3)) (G3 (Post:=fun r=>r=(if G8 ((u2 c s).take (u2 c s).length) t b then [91]++U7 s b++[93] else U7 s b:l3)) (fun k (st:l3×Int)=>st=((if G8 ((u2 c s).take k) t b then [91]++U7 s b++[93] else U7 s b:l3),(k:Int))) (u2 c s).length (fun k st hk e=>?_) (fun st e=>?_) (u2 c s).length 0 (U7 s b,(0:Int)) F (by omega) (by omega) rfl),List.take_length,a8,a8,c6 (by omega),i9,a8]
   ·have e1:(if G8 (u2 c s) t b then [91]++U7 s b++[93] else U7 s b:l3)=a11 c s t b:=rfl
    rw [e1,a34 (by simp only [List.length_nil];omega),a8,u4 (by omega)]
    rfl
   ·subst e
    refine .inl ⟨_,?_,rfl⟩
    dsimp only
    rw [b8 (by omega),j6,a03 hk,a8,a8,a4z F [t] _ (by simp) (by show 1<F;omega),a8,b3j,List.take_succ_eq_append_getElem hk,b1r,u4 (by omega)]
    cases hx:(u2 c s)[k].At==(b:Int) with
    | false=>rw [i9,a8,i9,Bool.false_and,Bool.or_false]
    | true=>
     rw [j6,a8,n8,b2E hup hk (eq_of_beq hx),Bool.false_or,if_neg (by decide)]
     cases (u2 c s)[k].Text==t with
     | false=>rw [i9,if_neg (by decide)]
     | true=>rw [j6,if_pos rfl,a34 (by simp only [l9,List.length_nil];omega),a8,a34 (by simp only [j8,l9,List.length_nil];omega),a8]
   ·subst e
    refine⟨_,?_,rfl⟩
    dsimp only
    rw [c6 (by omega)];rfl
  ·subst e
   refine⟨_,?_,rfl⟩
   rw [if_neg (by decide)]
   dsimp only
   rw [c6 (by omega)];rfl
end Go.Fk
