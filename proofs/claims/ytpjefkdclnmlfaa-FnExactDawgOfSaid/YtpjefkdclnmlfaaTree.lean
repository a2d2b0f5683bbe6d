/-
  Automata of words over plain data: how the least one is built, and what words lead from its states. Of no program.
-/
import Derived.Test.YtpjefkdclnmlfaaTypes
namespace Go.Fk
open Go
abbrev Sts:=List GState
def sameA (a b:GArc):Bool:=a.Byte==b.Byte&&a.To==b.To
theorem sameA_iff (a b:GArc):sameA a b=true↔a=b:=by
 obtain⟨a1,a2⟩:=a
 obtain⟨b1,b2⟩:=b
 simp [sameA]
def sameAs:List GArc→List GArc→Bool
 | [],[]=>true
 | a::x,b::y=>sameA a b&&sameAs x y
 | _,_=>false
theorem sameAs_iff: ∀x y:List GArc,sameAs x y=true↔x=y
 | [],[]=>by simp [sameAs]
 | [],_::_=>by simp [sameAs]
 | _::_,[]=>by simp [sameAs]
 | a::x,b::y=>by simp [sameAs,sameA_iff,sameAs_iff x y]
def sameS (a b:GState):Bool:=a.Final==b.Final&&a.Many==b.Many&&sameAs a.Arcs b.Arcs
theorem sameS_iff (a b:GState):sameS a b=true↔a=b:=by
 obtain⟨a1,a2,a3⟩:=a
 obtain⟨b1,b2,b3⟩:=b
 simp [sameS,sameAs_iff,and_assoc]
def addS (st:Sts)(s:GState):Sts×Nat:=
 match st.findIdx? (fun x=>sameS x s) with
 | some k=>(st,k)
 | none=>(st++[s],st.length)
theorem addS_spec (st:Sts)(s:GState):((addS st s).1=st∧st[(addS st s).2]? =some s)∨(addS st s=(st++[s],st.length)∧s∉st):=by
 unfold addS
 cases h:st.findIdx? (fun x=>sameS x s) with
 | none=>
  refine .inr ⟨rfl,fun hm=>?_⟩
  rw [List.findIdx?_eq_none_iff] at h
  have:=h s hm
  simp [(sameS_iff s s).2 rfl] at this
 | some k=>
  refine .inl ⟨rfl,?_⟩
  obtain⟨hk,h1,_⟩:=List.findIdx?_eq_some_iff_getElem.1 h
  rw [List.getElem?_eq_getElem hk,(sameS_iff _ _).1 h1]
theorem sless_nil (a:Str):strLess a []=false:=by cases a<;>rfl
theorem sless_cons (a b:UInt8)(x y:Str):strLess (a::x) (b::y)=true↔a<b∨(a=b∧strLess x y=true):=by
 simp [strLess,Op.bytesLess]
theorem sless_trans: ∀{x y z:Str},strLess x y=true→strLess y z=true→strLess x z=true
 | _,_,[],_,h=>by rw [sless_nil] at h;cases h
 | _,[],_::_,h,_=>by rw [sless_nil] at h;cases h
 | [],_::_,_::_,_,_=>rfl
 | a::x,b::y,c::z,h,h'=>by
  rw [sless_cons] at h h' ⊢
  rcases h with h | ⟨rfl,h⟩
  ·rcases h' with h' | ⟨rfl,_⟩
   ·exact .inl (UInt8.lt_trans h h')
   ·exact .inl h
  ·rcases h' with h' | ⟨rfl,h'⟩
   ·exact .inl h'
   ·exact .inr ⟨rfl,sless_trans h h'⟩
def Asc (ws:List Str):Prop:=ws.Pairwise fun a b=>strLess a b=true
def wordsAt (d:Sts):Nat→Int→List Str
 | 0,_=>[]
 | k+1,i=>match getI d i with
  | none=>[]
  | some s=>(if s.Final then [[]] else [])++s.Arcs.flatMap fun a=>(wordsAt d k a.To).map (a.Byte:: ·)
def Down (d:Sts):Prop:=∀(i:Nat) s,d[i]? =some s→∀a∈s.Arcs,0≤a.To∧a.To<i
theorem getI_n {α:Type}{xs:List α}{i:Nat}:getI xs (i:Int)=xs[i]? :=by
 unfold getI
 rw [if_pos (by omega)]
 simp
theorem flatMap_congr' {α β:Type}{f g:α→List β}: ∀{l:List α},(∀a∈l,f a=g a)→l.flatMap f=l.flatMap g
 | [],_=>rfl
 | a::l,h=>by
  rw [List.flatMap_cons,List.flatMap_cons,h a (by simp),flatMap_congr' (fun b hb=>h b (by simp [hb]))]
theorem wordsAt_stable {d:Sts}(hd:Down d): ∀(i k k':Nat),i<k→i<k'→wordsAt d k (i:Int)=wordsAt d k' (i:Int):=by
 intro i
 induction i using Nat.strongRecOn with
 | ind i ih=>
  intro k k' h h'
  obtain⟨k,rfl⟩: ∃m,k=m+1:=⟨k-1,by omega⟩
  obtain⟨k',rfl⟩: ∃m,k'=m+1:=⟨k'-1,by omega⟩
  unfold wordsAt
  rw [getI_n]
  cases e:d[i]? with
  | none=>rfl
  | some s=>
   simp only
   congr 1
   refine flatMap_congr' fun a ha=>?_
   obtain⟨h0,h1⟩:=hd i s e a ha
   have e2:a.To=((a.To.toNat:Nat):Int):=by omega
   rw [e2,ih a.To.toNat (by omega) k k' (by omega) (by omega)]
def W (d:Sts)(i:Nat):List Str:=wordsAt d (i+1) (i:Int)
def WA (d:Sts)(a:GArc):List Str:=(W d a.To.toNat).map (a.Byte:: ·)
def stW (d:Sts)(s:GState):List Str:=(if s.Final then [[]] else [])++s.Arcs.flatMap (WA d)
theorem W_at {d:Sts}(hd:Down d){i:Nat}{s:GState}(h:d[i]? =some s):W d i=stW d s:=by
 unfold W wordsAt stW
 rw [getI_n,h]
 simp only
 congr 1
 refine flatMap_congr' fun a ha=>?_
 obtain⟨h0,h1⟩:=hd i s h a ha
 unfold WA W
 have e2:a.To=((a.To.toNat:Nat):Int):=by omega
 rw [←e2,e2,wordsAt_stable hd a.To.toNat i (a.To.toNat+1) (by omega) (by omega),←e2]
theorem Down.pre {d e:Sts}(h:Down (d++e)):Down d:=fun i s hs=>h i s (by
 have:=(List.getElem?_eq_some_iff.1 hs).1
 rw [List.getElem?_append_left this];exact hs)
theorem wordsAt_prefix {d e:Sts}(hd:Down d): ∀(k:Nat) (i:Nat),i<d.length→wordsAt (d++e) k (i:Int)=wordsAt d k (i:Int)
 | 0,_,_=>rfl
 | k+1,i,h=>by
  unfold wordsAt
  rw [getI_n,getI_n,List.getElem?_append_left h,List.getElem?_eq_getElem h]
  simp only
  congr 1
  refine flatMap_congr' fun a ha=>?_
  obtain⟨h0,h1⟩:=hd i _ (List.getElem?_eq_getElem h) a ha
  have e2:a.To=((a.To.toNat:Nat):Int):=by omega
  rw [e2,wordsAt_prefix hd k a.To.toNat (by omega)]
theorem W_prefix {d e:Sts}(hd:Down d){i:Nat}(h:i<d.length):W (d++e) i=W d i:=wordsAt_prefix hd _ i h
theorem WA_prefix {d e:Sts}(hd:Down d){a:GArc}(h:a.To.toNat<d.length):WA (d++e) a=WA d a:=by
 unfold WA;rw [W_prefix hd h]
def splitB (b:UInt8):List Str→List Str×List Str
 | []=>([],[])
 | []::ws=>([],[]::ws)
 | (c::w)::ws=>if c=b then (w::(splitB b ws).1,(splitB b ws).2) else ([],(c::w)::ws)
theorem splitB_len (b:UInt8): ∀ws:List Str,(splitB b ws).1.length+(splitB b ws).2.length=ws.length
 | []=>rfl
 | []::ws=>by simp [splitB]
 | (c::w)::ws=>by
  unfold splitB
  split
  ·have:=splitB_len b ws
   simp only [List.length_cons];omega
  ·simp
theorem splitB_app (b:UInt8): ∀ws:List Str,ws=(splitB b ws).1.map (b:: ·)++(splitB b ws).2
 | []=>rfl
 | []::ws=>rfl
 | (c::w)::ws=>by
  unfold splitB
  split
  ·rename_i h
   subst h
   rw [List.map_cons,List.cons_append,←splitB_app c ws]
  ·rfl
theorem splitB_rest (b:UInt8)(ws:List Str)(hn:[]∉ws)(ha:Asc ws)(hb: ∀w∈ws,∃c x,w=c::x∧b≤c): ∀w∈(splitB b ws).2,∃c x,w=c::x∧b<c:=by
 induction ws with
 | nil=>simp [splitB]
 | cons w ws ih=>
  cases w with
  | nil=>simp at hn
  | cons c w=>
   have ha':=List.pairwise_cons.1 ha
   unfold splitB
   split
   ·exact ih (fun h=>hn (List.mem_cons_of_mem _ h)) ha'.2 (fun v hv=>hb v (List.mem_cons_of_mem _ hv))
   ·rename_i hc
    intro v hv
    obtain⟨c',x',e',hle⟩:=hb (c::w) (by simp)
    injection e' with e1 e2
    subst e1 e2
    have hbc:b<c:=by
     rw [UInt8.lt_iff_toNat_lt]
     rw [UInt8.le_iff_toNat_le] at hle
     have:c.toNat≠b.toNat:=fun h=>hc (UInt8.toNat_inj.1 h)
     omega
    rcases List.mem_cons.1 hv with rfl | hv
    ·exact⟨c,w,rfl,hbc⟩
    ·have h1:=ha'.1 v hv
     cases v with
     | nil=>rw [sless_nil] at h1;cases h1
     | cons c2 v=>
      rcases (sless_cons c c2 w v).1 h1 with h2 | ⟨h2,_⟩
      ·exact⟨c2,v,rfl,UInt8.lt_trans hbc h2⟩
      ·subst h2;exact⟨c,v,rfl,hbc⟩
def arcsB (g:Sts→List Str→Sts×Nat):Nat→Sts→List Str→Sts×List GArc
 | 0,st,_=>(st,[])
 | _+1,st,[]=>(st,[])
 | _+1,st,[]::_=>(st,[])
 | m+1,st,(b::w)::ws=>
  let t:=g st (w::(splitB b ws).1)
  let r:=arcsB g m t.1 (splitB b ws).2
  (r.1,⟨b,(t.2:Int)⟩::r.2)
def cutNil (ws:List Str):List Str:=match ws with
 | []::r=>r
 | r=>r
def hasNil (ws:List Str):Bool:=match ws with
 | []::_=>true
 | _=>false
def build:Nat→Sts→List Str→Sts×Nat
 | 0,st,_=>(st,0)
 | f+1,st,ws=>
  let r:=arcsB (build f) (cutNil ws).length st (cutNil ws)
  addS r.1 ⟨hasNil ws,(ws.length:Int),r.2⟩
structure Good (st:Sts):Prop where
 down:Down st
 bytes: ∀(i:Nat) s,st[i]? =some s→s.Arcs.Pairwise fun a b=>a.Byte<b.Byte
 dist: ∀(i j:Nat) s,st[i]? =some s→st[j]? =some s→i=j
 many: ∀(i:Nat) s,st[i]? =some s→s.Many=((W st i).length:Int)
 full: ∀(i:Nat) s,st[i]? =some s→∀a∈s.Arcs,W st a.To.toNat≠[]
theorem Good.nil:Good []:=⟨fun i s h=>by simp at h,fun i s h=>by simp at h,fun i j s h=>by simp at h,fun i s h=>by simp at h,fun i s h=>by simp at h⟩
def Part (y:Str)(x ws:List Str):Prop:=(x.map (y++ ·)).Sublist ws
structure Built (st:Sts)(ws:List Str)(r:Sts×Nat):Prop where
 pre: ∃e,r.1=st++e
 good:Good r.1
 lt:r.2<r.1.length
 words:W r.1 r.2=ws
 part: ∀j,st.length≤j→j<r.1.length→(∃y,Part y (W r.1 j) ws)∧(W r.1 j≠[]∨ws=[])
 last:st=[]→r.2+1=r.1.length
structure ArcsBuilt (st:Sts)(ws:List Str)(r:Sts×List GArc):Prop where
 pre: ∃e,r.1=st++e
 good:Good r.1
 lt: ∀a∈r.2,0≤a.To∧a.To<r.1.length
 words:r.2.flatMap (WA r.1)=ws
 bytes:r.2.Pairwise fun a b=>a.Byte<b.Byte
 from_: ∀a∈r.2,∃x,a.Byte::x∈ws
 full: ∀a∈r.2,W r.1 a.To.toNat≠[]
 part: ∀j,st.length≤j→j<r.1.length→(∃y,y≠[]∧Part y (W r.1 j) ws)∧W r.1 j≠[]
theorem arcs_built (g:Sts→List Str→Sts×Nat)(f:Nat)(hg: ∀st ws,Good st→Asc ws→ws≠[]→(∀w∈ws,w.length≤f)→Built st ws (g st ws)):
  ∀(m:Nat) (st:Sts) (ws:List Str),ws.length≤m→Good st→Asc ws→[]∉ws→(∀w∈ws,w.length≤f+1)→ArcsBuilt st ws (arcsB g m st ws):=by
 intro m
 induction m with
 | zero=>
  intro st ws hm hgd _ _ _
  obtain rfl:=List.eq_nil_of_length_eq_zero (Nat.le_zero.1 hm)
  exact⟨⟨[],by simp [arcsB]⟩,hgd,by simp [arcsB],rfl,by simp [arcsB],by simp [arcsB],by simp [arcsB],fun j h1 h2=>by simp only [arcsB] at h2;omega⟩
 | succ m ih=>
  intro st ws hm hgd ha hn hl
  match ws,hm,ha,hn,hl with
  | [],_,_,_,_=>exact⟨⟨[],by simp [arcsB]⟩,hgd,by simp [arcsB],rfl,by simp [arcsB],by simp [arcsB],by simp [arcsB],fun j h1 h2=>by simp only [arcsB] at h2;omega⟩
  | []::_,_,_,hn,_=>simp at hn
  | (b::w)::ws,hm,ha,hn,hl=>
   have ha':=List.pairwise_cons.1 ha
   have hn':[]∉ws:=fun h=>hn (List.mem_cons_of_mem _ h)
   have happ:=splitB_app b ws
   have hge: ∀v∈ws,∃c x,v=c::x∧b≤c:=fun v hv=>by
    have h1:=ha'.1 v hv
    cases v with
    | nil=>rw [sless_nil] at h1;cases h1
    | cons c v=>
     rcases (sless_cons b c w v).1 h1 with h2 | ⟨h2,_⟩
     ·exact⟨c,v,rfl,UInt8.le_of_lt h2⟩
     ·subst h2;exact⟨b,v,rfl,UInt8.le_refl _⟩
   have hrest:=splitB_rest b ws hn' ha'.2 hge
   have hlen:=splitB_len b ws
   generalize hp:(splitB b ws).1=p at *
   generalize hq:(splitB b ws).2=q at *
   have hasc:Asc (p.map (b:: ·)++q):=by rw [←happ];exact ha'.2
   obtain⟨hap,haq,_⟩:=List.pairwise_append.1 hasc
   have hg1:=hg st (w::p) hgd (List.pairwise_cons.2 ⟨fun v hv=>by
     have:=ha'.1 (b::v) (by rw [happ];exact List.mem_append_left _ (List.mem_map_of_mem hv))
     rcases (sless_cons b b w v).1 this with h | ⟨_,h⟩
     ·exact absurd h (by simp)
     ·exact h,by
     rw [List.pairwise_map] at hap
     refine hap.imp fun {x y} h=>?_
     rcases (sless_cons b b x y).1 h with h | ⟨_,h⟩
     ·exact absurd h (by simp)
     ·exact h⟩) (by simp) (fun v hv=>by
     rcases List.mem_cons.1 hv with rfl | hv
     ·have:=hl (b::v) (by simp)
      simp only [List.length_cons] at this;omega
     ·have:=hl (b::v) (List.mem_cons_of_mem _ (by rw [happ];exact List.mem_append_left _ (List.mem_map_of_mem hv)))
      simp only [List.length_cons] at this;omega)
   have hunf:arcsB g (m+1) st ((b::w)::ws)=((arcsB g m (g st (w::p)).1 q).1,⟨b,((g st (w::p)).2:Int)⟩::(arcsB g m (g st (w::p)).1 q).2):=by
    rw [arcsB,hp,hq]
   rw [hunf]
   generalize g st (w::p)=t at *
   obtain⟨st1,i⟩:=t
   obtain⟨⟨e1,he1⟩,hgood1,hlt1,hw1,hb1,_⟩:=hg1
   simp only at he1 hgood1 hlt1 hw1 hb1 ⊢
   have h2:=ih st1 q (by simp only [List.length_cons] at hm;omega) hgood1 haq (fun h=>hn' (by rw [happ];exact List.mem_append_right _ h)) (fun v hv=>hl v (List.mem_cons_of_mem _ (by rw [happ];exact List.mem_append_right _ hv)))
   generalize arcsB g m st1 q=t2 at *
   obtain⟨st2,as⟩:=t2
   obtain⟨⟨e2,he2⟩,hgood2,hlt2,hw2,hby2,hfr2,hfu2,hb2⟩:=h2
   simp only at he2 hgood2 hlt2 hw2 hby2 hfr2 hfu2 hb2 ⊢
   have hlen2:st1.length≤st2.length:=by rw [he2,List.length_append];omega
   refine⟨⟨e1++e2,by rw [he2,he1,List.append_assoc]⟩,hgood2,fun a hm=>?_,?_,?_,fun a hm=>?_,fun a hm=>?_,fun j h1 h2=>?_⟩
   ·rcases List.mem_cons.1 hm with rfl | hm
    ·simp only;omega
    ·exact hlt2 a hm
   ·rw [List.flatMap_cons,hw2]
    have:WA st2 ⟨b,(i:Int)⟩=(w::p).map (b:: ·):=by
     unfold WA
     simp only [Int.toNat_natCast]
     rw [he2,W_prefix hgood1.down hlt1,hw1]
    rw [this,List.map_cons,List.cons_append,←happ]
   ·refine List.pairwise_cons.2 ⟨fun a hm=>?_,hby2⟩
    obtain⟨x,hx⟩:=hfr2 a hm
    obtain⟨c,y,e,hlt⟩:=hrest _ hx
    injection e with e1 e2
    rw [e1];exact hlt
   ·rcases List.mem_cons.1 hm with rfl | hm
    ·exact⟨w,by simp⟩
    ·obtain⟨x,hx⟩:=hfr2 a hm
     exact⟨x,List.mem_cons_of_mem _ (by rw [happ];exact List.mem_append_right _ hx)⟩
   ·rcases List.mem_cons.1 hm with rfl | hm
    ·simp only [Int.toNat_natCast]
     rw [he2,W_prefix hgood1.down hlt1,hw1]
     simp
    ·exact hfu2 a hm
   ·rcases Nat.lt_or_ge j st1.length with hj | hj
    ·rw [he2,W_prefix hgood1.down hj]
     obtain⟨⟨y,hy⟩,hne⟩:=hb1 j h1 hj
     refine⟨⟨b::y,by simp,?_⟩,hne.resolve_right (by simp)⟩
     have h3:=hy.map (b:: ·)
     rw [List.map_map] at h3
     unfold Part
     have h4:((w::p).map (b:: ·)).Sublist ((b::w)::ws):=by
      rw [List.map_cons,happ]
      exact List.Sublist.cons_cons _ (List.sublist_append_left _ _)
     exact List.Sublist.trans h3 h4
    ·obtain⟨⟨y,hy0,hy⟩,hne⟩:=hb2 j hj h2
     refine⟨⟨y,hy0,?_⟩,hne⟩
     refine List.Sublist.trans hy (List.Sublist.cons _ ?_)
     rw [happ]
     exact List.sublist_append_right _ _
theorem cutNil_spec {ws:List Str}(ha:Asc ws):ws=(if hasNil ws then [[]] else [])++cutNil ws∧Asc (cutNil ws)∧[]∉cutNil ws:=by
 match ws,ha with
 | [],_=>exact⟨rfl,List.Pairwise.nil,by simp [cutNil]⟩
 | []::r,ha=>
  have ha':=List.pairwise_cons.1 ha
  exact⟨rfl,ha'.2,fun h=>by have:=ha'.1 [] h;rw [sless_nil] at this;cases this⟩
 | (c::w)::r,ha=>
  have ha':=List.pairwise_cons.1 ha
  refine⟨rfl,ha,fun h=>?_⟩
  rcases List.mem_cons.1 h with h | h
  ·cases h
  ·have:=ha'.1 [] h;rw [sless_nil] at this;cases this
theorem stW_prefix {d e:Sts}(hd:Down d){s:GState}(h: ∀a∈s.Arcs,0≤a.To∧a.To<d.length):stW (d++e) s=stW d s:=by
 unfold stW
 congr 1
 exact flatMap_congr' fun a ha=>WA_prefix hd (by have:=h a ha;omega)
theorem Good.snoc {st:Sts}{s:GState}(h:Good st)(hn:s∉st)(hlt: ∀a∈s.Arcs,0≤a.To∧a.To<st.length)(hb:s.Arcs.Pairwise fun a b=>a.Byte<b.Byte)
  (hm:s.Many=((stW st s).length:Int))(hfu: ∀a∈s.Arcs,W st a.To.toNat≠[]):Good (st++[s]):=by
 have hd:Down (st++[s]):=fun i z hz a ha=>by
  rcases Nat.lt_or_ge i st.length with hi | hi
  ·rw [List.getElem?_append_left hi] at hz;exact h.down i z hz a ha
  ·rw [List.getElem?_append_right hi] at hz
   have h0:i-st.length=0:=by have:=(List.getElem?_eq_some_iff.1 hz).1;simp only [List.length_singleton] at this;omega
   rw [h0] at hz
   simp only [List.getElem?_cons_zero,Option.some.injEq] at hz
   subst hz
   have:=hlt a ha
   omega
 have hcase: ∀(i:Nat) z,(st++[s])[i]? =some z→(i<st.length∧st[i]? =some z)∨(i=st.length∧z=s):=fun i z hz=>by
  rcases Nat.lt_or_ge i st.length with hi | hi
  ·rw [List.getElem?_append_left hi] at hz;exact .inl ⟨hi,hz⟩
  ·rw [List.getElem?_append_right hi] at hz
   have h0:i-st.length=0:=by have:=(List.getElem?_eq_some_iff.1 hz).1;simp only [List.length_singleton] at this;omega
   rw [h0] at hz
   simp only [List.getElem?_cons_zero,Option.some.injEq] at hz
   exact .inr ⟨by omega,hz.symm⟩
 refine⟨hd,fun i z hz=>?_,fun i j z hz hz'=>?_,fun i z hz=>?_,fun i z hz a ha=>?_⟩
 ·rcases hcase i z hz with ⟨_,h1⟩ | ⟨_,rfl⟩
  ·exact h.bytes i z h1
  ·exact hb
 ·rcases hcase i z hz with ⟨_,h1⟩ | ⟨rfl,rfl⟩<;>rcases hcase j z hz' with ⟨_,h2⟩ | ⟨rfl,h2⟩
  ·exact h.dist i j z h1 h2
  ·subst h2;exact absurd (List.mem_of_getElem? h1) hn
  ·exact absurd (List.mem_of_getElem? h2) hn
  ·rfl
 ·rw [W_at hd hz]
  rcases hcase i z hz with ⟨hi,h1⟩ | ⟨_,rfl⟩
  ·rw [stW_prefix h.down (fun a ha=>by have:=h.down i z h1 a ha;omega),←W_at h.down h1]
   exact h.many i z h1
  ·rw [stW_prefix h.down hlt];exact hm
 ·rcases hcase i z hz with ⟨hi,h1⟩ | ⟨_,rfl⟩
  ·have:=h.down i z h1 a ha
   rw [W_prefix h.down (by omega)]
   exact h.full i z h1 a ha
  ·have:=hlt a ha
   rw [W_prefix h.down (by omega)]
   exact hfu a ha
theorem part_self {y:Str}{ws:List Str}(h:Part y ws ws)(hy:y≠[]):ws=[]:=by
 have h1:((ws.map (y++ ·)).map List.length).sum≤(ws.map List.length).sum:=by
  have h2:=h.map List.length
  have: ∀{a b:List Nat},a.Sublist b→a.sum≤b.sum:=by
   intro a b hab
   induction hab with
   | slnil=>exact Nat.le_refl _
   | cons x _ ih=>simp only [List.sum_cons];omega
   | cons_cons x _ ih=>simp only [List.sum_cons];omega
  exact this h2
 have h3: ∀l:List Str,((l.map (y++ ·)).map List.length).sum=y.length*l.length+(l.map List.length).sum:=by
  intro l
  induction l with
  | nil=>simp
  | cons a l ih=>simp only [List.map_cons,List.sum_cons,ih,List.length_append,List.length_cons,Nat.mul_add];omega
 rw [h3] at h1
 have h4:0<y.length:=List.length_pos_iff.2 hy
 have h5:y.length*ws.length=0:=by omega
 rcases Nat.mul_eq_zero.1 h5 with h | h
 ·omega
 ·exact List.eq_nil_of_length_eq_zero h
theorem built: ∀(f:Nat) (st:Sts) (ws:List Str),Good st→Asc ws→(∀w∈ws,w.length≤f)→Built st ws (build (f+1) st ws):=by
 intro f
 have main: ∀(st:Sts) (ws:List Str) (r:Sts×List GArc),Good st→Asc ws→ArcsBuilt st (cutNil ws) r→Built st ws (addS r.1 ⟨hasNil ws,(ws.length:Int),r.2⟩):=by
  intro st ws r hgd ha hr
  obtain⟨h0,h1,h2⟩:=cutNil_spec ha
  obtain⟨st1,as⟩:=r
  obtain⟨⟨e,he⟩,hgood,hlt,hw,hby,hfr,hfu,hb⟩:=hr
  simp only at he hgood hlt hw hby hfr hfu hb ⊢
  have hsub:(cutNil ws).Sublist ws:=by
   conv=>rhs;rw [h0]
   exact List.sublist_append_right _ _
  generalize hs:(GState.mk (hasNil ws) (ws.length:Int) as)=s
  have hsw:stW st1 s=ws:=by
   subst hs
   unfold stW
   simp only
   rw [hw,←h0]
  rcases addS_spec st1 s with ⟨q1,q2⟩ | ⟨q1,q2⟩
  ·generalize addS st1 s=t at *
   obtain⟨st2,i⟩:=t
   simp only at q1 q2
   subst q1
   have hlen:=(List.getElem?_eq_some_iff.1 q2).1
   refine⟨⟨e,he⟩,hgood,hlen,by rw [W_at hgood.down q2,hsw],fun j a b=>?_,fun h=>?_⟩
   ·obtain⟨⟨y,_,hy⟩,hne⟩:=hb j a b
    exact⟨⟨y,List.Sublist.trans hy hsub⟩,.inl hne⟩
   ·subst h
    obtain⟨⟨y,hy0,hy⟩,hne⟩:=hb i (Nat.zero_le _) hlen
    have hwi:W st2 i=ws:=by rw [W_at hgood.down q2,hsw]
    rw [hwi] at hy hne
    exact absurd (part_self (List.Sublist.trans hy hsub) hy0) hne
  ·rw [q1]
   have hg2:Good (st1++[s]):=hgood.snoc q2 (by subst hs;exact hlt) (by subst hs;exact hby) (by rw [hsw];subst hs;rfl) (by subst hs;exact hfu)
   have hat:(st1++[s])[st1.length]? =some s:=by simp
   have hww:W (st1++[s]) st1.length=ws:=by rw [W_at hg2.down hat,stW_prefix hgood.down (by subst hs;exact hlt),hsw]
   refine⟨⟨e++[s],by rw [he,List.append_assoc]⟩,hg2,by simp,hww,fun j a b=>?_,fun _=>by simp⟩
   simp only [List.length_append,List.length_singleton] at b
   rcases Nat.lt_or_ge j st1.length with hj | hj
   ·rw [W_prefix hgood.down hj]
    obtain⟨⟨y,_,hy⟩,hne⟩:=hb j a hj
    exact⟨⟨y,List.Sublist.trans hy hsub⟩,.inl hne⟩
   ·obtain rfl:j=st1.length:=by omega
    rw [hww]
    refine⟨⟨[],?_⟩,(Classical.em (ws=[])).symm⟩
    unfold Part
    have:(fun x:Str=>[]++x)=id:=by funext x;rfl
    rw [this,List.map_id]
    exact List.Sublist.refl _
 induction f with
 | zero=>
  intro st ws hgd ha hl
  obtain⟨h0,h1,h2⟩:=cutNil_spec ha
  have hc:cutNil ws=[]:=by
   cases hc:cutNil ws with
   | nil=>rfl
   | cons v r=>
    have hv:v∈ws:=by rw [h0,hc];simp
    have:=hl v hv
    have hv0:v=[]:=List.eq_nil_of_length_eq_zero (by omega)
    rw [hc] at h2
    simp [hv0] at h2
  rw [build,hc]
  refine main st ws _ hgd ha ?_
  rw [hc]
  exact⟨⟨[],by simp [arcsB]⟩,by simpa [arcsB] using hgd,by simp [arcsB],rfl,by simp [arcsB],by simp [arcsB],by simp [arcsB],fun j h1 h2=>by simp only [arcsB,List.length_nil] at h2;omega⟩
 | succ f ih=>
  intro st ws hgd ha hl
  obtain⟨h0,h1,h2⟩:=cutNil_spec ha
  rw [build]
  refine main st ws _ hgd ha ?_
  have hl2: ∀w∈cutNil ws,w.length≤f+1:=fun w hw=>hl w (by rw [h0];exact List.mem_append_right _ hw)
  exact arcs_built (build (f+1)) f (fun st ws a b _ d=>ih st ws a b d) _ st (cutNil ws) (Nat.le_refl _) hgd h1 h2 hl2
end Go.Fk
