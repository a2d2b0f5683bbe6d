/-
  How much an index weighs, and that marks do not count further than that. Of no program.
-/
import Derived.Test.YtpjefkdclnmlfaaGreatLawSzI
import Derived.Test.YtpjefkdclnmlfaaGreatLawMarks
set_option linter.unusedVariables false
namespace Go.Fk
open Go
def Sw (n:Nat)(left:Int)(o:Option Int):Prop:=∃r,o=some r∧(0≤r→r+(n:Int)≤left)
def sumW {α:Type}(w:α→Nat)(xs:List α):Nat:=(xs.map w).sum
theorem sumW_cons {α:Type}(w:α→Nat)(x:α)(xs:List α):sumW w (x::xs)=w x+sumW w xs:=by simp [sumW]
def wList {α:Type}(w:α→Nat)(xs:List α):Nat:=xs.length+sumW w xs
theorem sw_loop {α:Type}{xs:List α}{w:α→Nat}{f:Int×Int→Option ((Int×Int)⊕(Int⊕Int))}
  (h: ∀(i:Nat) x (l:Int),i<xs.length→xs[i]? =some x→0≤l→l≤1048576→f (l,(i:Int))=some (.inr (.inr (-1)))∨∃r,0≤r∧r+(w x:Int)≤l∧f (l,(i:Int))=some (.inl (r,((i+1:Nat):Int))))
  (hE: ∀l,f (l,(xs.length:Int))=some (.inr (.inl l))): ∀(k i:Nat) (l:Int) (F:Nat),i+k=xs.length→k<F→0≤l→l≤1048576→∃t,whileM f F (l,(i:Int))=some t∧(t= .inr (-1)∨∃r,t= .inl r∧0≤r∧r+(sumW w (xs.drop i):Int)≤l)
 | 0,i,l,F,e,hF,l0,l1=>by
  obtain⟨F,rfl⟩: ∃G,F=G+1:=⟨F-1,by omega⟩
  obtain rfl:i=xs.length:=by omega
  rw [whileM,hE,List.drop_of_length_le (Nat.le_refl _)]
  exact⟨.inl l,rfl,.inr ⟨l,rfl,l0,by simp [sumW]⟩⟩
 | k+1,i,l,F,e,hF,l0,l1=>by
  obtain⟨F,rfl⟩: ∃G,F=G+1:=⟨F-1,by omega⟩
  have hi:i<xs.length:=by omega
  rw [whileM]
  rcases h i xs[i] l hi (List.getElem?_eq_getElem hi) l0 l1 with h' | ⟨r,r0,r1,h'⟩
  ·rw [h'];exact⟨_,rfl,.inl rfl⟩
  ·rw [h',Option.bind_some]
   obtain⟨t,ht,hp⟩:=sw_loop h hE k (i+1) r F (by omega) (by omega) r0 (by omega)
   refine⟨t,ht,?_⟩
   rcases hp with hp | ⟨q,e1,q0,hq⟩
   ·exact .inl hp
   ·refine .inr ⟨q,e1,q0,?_⟩
    rw [List.drop_eq_getElem_cons hi,sumW_cons];omega
theorem sw_gen {α:Type}{xs:List α}(w:α→Nat){f:Int×Int→Option ((Int×Int)⊕(Int⊕Int))}{left:Int}(F:Nat)(hF:1048577<F)(h0:0≤left)(h1:left≤1048576)(hl:xs.length≤maxLen)
  (h: ∀(i:Nat) x (l:Int),i<xs.length→xs.length≤1048576→xs[i]? =some x→0≤l→l≤1048576→f (l,(i:Int))=some (.inr (.inr (-1)))∨∃r,0≤r∧r+(w x:Int)≤l∧f (l,(i:Int))=some (.inl (r,((i+1:Nat):Int))))
  (hE: ∀l,f (l,(xs.length:Int))=some (.inr (.inl l))):
  Sw (wList w xs) left (cond (decide ((w64 (left-(xs.length:Int)))<(0:Int))) (some (-1:Int)) (Option.bind ((Option.bind (whileM f F ((w64 (left-(xs.length:Int))),(0:Int))) fun r18=>(r18.elim (fun t46=>(some (.inl t46))) (fun t47=>(some (.inr t47))))):Option ((Int)⊕(Int))) fun o8=>o8.elim (fun s11=>(some s11)) (fun t48=>(some t48)))):=by
 have hm:maxLen≤9223372036854775807:=by decide
 have e1:w64 (left-(xs.length:Int))=left-(xs.length:Int):=w64_of ⟨by omega,by omega⟩
 rw [e1]
 by_cases hneg:left-(xs.length:Int)<0
 ·rw [decide_eq_true hneg]
  exact⟨-1,rfl,fun h=>by omega⟩
 ·rw [decide_eq_false hneg,cond_false]
  obtain⟨t,ht,hp⟩:=sw_loop (w:=w) (xs:=xs) (f:=f) (fun i x l hi hx l0 l1=>h i x l hi (by omega) hx l0 l1) hE xs.length 0 (left-(xs.length:Int)) F (by omega) (by omega) (by omega) (by omega)
  rw [show (0:Int)=((0:Nat):Int) from rfl,ht]
  rcases hp with rfl | ⟨r,rfl,r0,hr⟩
  ·exact⟨-1,rfl,fun h=>by omega⟩
  ·rw [List.drop_zero] at hr
   exact⟨r,rfl,fun _=>by unfold wList;omega⟩
theorem sw_elem {n:Nat}{l:Int}{o:Option Int}{j:Int}(h:Sw n l o):(Option.bind o fun r=>(cond (decide (r<(0:Int))) (some (.inr (.inr (-1:Int)))) (some (.inl (r,j)))):Option ((Int×Int)⊕(Int⊕Int)))=some (.inr (.inr (-1)))∨
  ∃r,0≤r∧r+(n:Int)≤l∧(Option.bind o fun r=>(cond (decide (r<(0:Int))) (some (.inr (.inr (-1:Int)))) (some (.inl (r,j)))):Option ((Int×Int)⊕(Int⊕Int)))=some (.inl (r,j)):=by
 obtain⟨r,rfl,hr⟩:=h
 by_cases h0:r<0
 ·exact .inl (by rw [Option.bind_some,decide_eq_true h0];rfl)
 ·exact .inr ⟨r,by omega,hr (by omega),by rw [Option.bind_some,decide_eq_false h0];rfl⟩
theorem sw_then {n m:Nat}{l:Int}{o:Option Int}{g:Int→Option Int}(h:Sw n l o)(hg: ∀r,0≤r→r≤l→Sw m r (g r)):Sw (n+m) l (Option.bind o fun r=>cond (decide (r<(0:Int))) (some (-1:Int)) (g r)):=by
 obtain⟨r,rfl,hr⟩:=h
 rw [Option.bind_some]
 by_cases h0:r<0
 ·rw [decide_eq_true h0];exact⟨-1,rfl,fun h=>by omega⟩
 ·have a:=hr (by omega)
  obtain⟨q,hq,hq2⟩:=hg r (by omega) (by omega)
  rw [decide_eq_false h0]
  exact⟨q,hq,fun q0=>by have:=hq2 q0;omega⟩
theorem sw_keep {n:Nat}{l:Int}{o:Option Int}(h:Sw n l o):Sw n l (Option.bind o fun r=>cond (decide (r<(0:Int))) (some (-1:Int)) (some r)):=by
 obtain⟨r,rfl,hr⟩:=h
 rw [Option.bind_some]
 by_cases h0:r<0
 ·rw [decide_eq_true h0];exact⟨-1,rfl,fun h=>by omega⟩
 ·rw [decide_eq_false h0];exact⟨r,rfl,hr⟩
theorem Sw.less {n m:Nat}{l:Int}{o:Option Int}(h:Sw n l o)(hm:m≤n):Sw m l o:=by
 obtain⟨r,e,hr⟩:=h
 exact⟨r,e,fun r0=>by have:=hr r0;omega⟩
theorem sw_of {S:Prop}{l:Int}{o:Option Int}(h:Sz S l o):Sw 0 l o:=by
 obtain⟨r,e,hr⟩:=h
 exact⟨r,e,fun r0=>by have:=(hr r0).1;omega⟩
theorem sw_str {left:Int}(h0:0≤left)(h1:left≤1048576){n:Nat}(hn:n≤maxLen):Sw n left (cond (decide ((w64 (left-(n:Int)))<(0:Int))) (some (-1:Int)) (some (w64 (left-(n:Int))))):=by
 have hm:maxLen≤9223372036854775807:=by decide
 rw [w64_of (n:=left-(n:Int)) ⟨by omega,by omega⟩]
 by_cases hneg:left-(n:Int)<0
 ·rw [decide_eq_true hneg];exact⟨-1,rfl,fun h=>by omega⟩
 ·rw [decide_eq_false hneg];exact⟨_,rfl,fun _=>by omega⟩
theorem sw_str_then {left:Int}(h0:0≤left)(h1:left≤1048576){n m:Nat}(hn:n≤maxLen){g:Int→Option Int}(hg: ∀r,0≤r→r≤left→Sw m r (g r)):Sw m left (cond (decide ((w64 (left-(n:Int)))<(0:Int))) (some (-1:Int)) (g (w64 (left-(n:Int))))):=by
 have hm:maxLen≤9223372036854775807:=by decide
 rw [w64_of (n:=left-(n:Int)) ⟨by omega,by omega⟩]
 by_cases hneg:left-(n:Int)<0
 ·rw [decide_eq_true hneg];exact⟨-1,rfl,fun h=>by omega⟩
 ·rw [decide_eq_false hneg]
  obtain⟨r,e,hr⟩:=hg (left-(n:Int)) (by omega) (by omega)
  exact⟨r,e,fun r0=>by have:=hr r0;omega⟩
def wDoc (d:GDoc):Nat:=d.Fields.length+d.Nums.length
def wPost (p:GPost):Nat:=p.At.length
def wEntry (e:GEntry):Nat:=wList wPost e.Posts
def wLive (l:GLive):Nat:=wList wDoc l.Seg.Docs+wList wEntry l.Seg.Entries+l.Dead.length
theorem swDoc (F:Nat)(x:GDoc)(left:Int)(h0:0≤left)(h1:left≤1048576)(hF:2000000<F)(hl:DocLen x):Sw (wDoc x) left (M.laws_szDoc F x left):=by
 unfold M.laws_szDoc
 refine sw_then (?_:Sw x.Fields.length left _) fun r r0 r1=>sw_keep (?_:Sw x.Nums.length r _)
 ·unfold M.laws_szFieldS
  refine(sw_gen (fun _=>0) F (by omega) h0 h1 hl.1.1 (fun i y l hi hxl hy l0 l1=>?_) fun l=>?_).less (by unfold wList;omega)
  ·rw [decide_eq_true (by omega),cond_true,getI_nat',hy,Option.bind_some,w64_succ' (by omega)]
   exact sw_elem (sw_of (szField F y l l0 l1 (hl.1.2 y (List.mem_of_getElem? hy))))
  ·rw [decide_eq_false (by omega)];rfl
 ·unfold M.laws_szAttrS
  refine(sw_gen (fun _=>0) F (by omega) r0 (by omega) hl.2.1 (fun i y l hi hxl hy l0 l1=>?_) fun l=>?_).less (by unfold wList;omega)
  ·rw [decide_eq_true (by omega),cond_true,getI_nat',hy,Option.bind_some,w64_succ' (by omega)]
   exact sw_elem (n:=0) ((by unfold M.laws_szAttr;exact sw_str l0 l1 (hl.2.2 y (List.mem_of_getElem? hy)):Sw y.Name.length l _).less (Nat.zero_le _))
  ·rw [decide_eq_false (by omega)];rfl
theorem swDocs (F:Nat)(xs:List GDoc)(left:Int)(h0:0≤left)(h1:left≤1048576)(hF:2000000<F)(hl:xs.length≤maxLen∧∀s∈xs,DocLen s):Sw (wList wDoc xs) left (M.laws_szDocS F xs left):=by
 unfold M.laws_szDocS
 refine sw_gen wDoc F (by omega) h0 h1 hl.1 (fun i x l hi hxl hx l0 l1=>?_) fun l=>?_
 ·rw [decide_eq_true (by omega),cond_true,getI_nat',hx,Option.bind_some,w64_succ' (by omega)]
  exact sw_elem (swDoc F x l l0 l1 hF (hl.2 x (List.mem_of_getElem? hx)))
 ·rw [decide_eq_false (by omega)];rfl
theorem swPosts (F:Nat)(xs:List GPost)(left:Int)(h0:0≤left)(h1:left≤1048576)(hF:2000000<F)(hl:xs.length≤maxLen∧∀s∈xs,s.At.length≤maxLen):Sw (wList wPost xs) left (M.laws_szPostS F xs left):=by
 unfold M.laws_szPostS
 refine sw_gen wPost F (by omega) h0 h1 hl.1 (fun i x l hi hxl hx l0 l1=>?_) fun l=>?_
 ·rw [decide_eq_true (by omega),cond_true,getI_nat',hx,Option.bind_some,w64_succ' (by omega)]
  refine sw_elem (n:=wPost x) ?_
  unfold M.laws_szPost
  exact sw_keep (by unfold M.laws_szIntS;exact sw_str l0 l1 (hl.2 x (List.mem_of_getElem? hx)))
 ·rw [decide_eq_false (by omega)];rfl
theorem swEntry (F:Nat)(x:GEntry)(left:Int)(h0:0≤left)(h1:left≤1048576)(hF:2000000<F)(hl:EntryLen x):Sw (wEntry x) left (M.laws_szEntry F x left):=by
 unfold M.laws_szEntry
 refine sw_str_then (g:=fun r=>(Option.bind (some (w64 (r-(x.Term.length:Int)))) fun x15=>(cond (decide (x15<(0:Int))) (some (-1:Int)) (Option.bind (M.laws_szPostS F x.Posts x15) fun r22=>(cond (decide (r22<(0:Int))) (some (-1:Int)) (some r22)))))) h0 h1 hl.1 fun r r0 r1=>?_
 rw [Option.bind_some]
 exact sw_str_then (g:=fun q=>Option.bind (M.laws_szPostS F x.Posts q) fun r22=>(cond (decide (r22<(0:Int))) (some (-1:Int)) (some r22))) r0 (by omega) hl.2.1 fun q q0 q1=>sw_keep (swPosts F x.Posts q q0 (by omega) hF hl.2.2)
theorem swEntrys (F:Nat)(xs:List GEntry)(left:Int)(h0:0≤left)(h1:left≤1048576)(hF:2000000<F)(hl:xs.length≤maxLen∧∀s∈xs,EntryLen s):Sw (wList wEntry xs) left (M.laws_szEntryS F xs left):=by
 unfold M.laws_szEntryS
 refine sw_gen wEntry F (by omega) h0 h1 hl.1 (fun i x l hi hxl hx l0 l1=>?_) fun l=>?_
 ·rw [decide_eq_true (by omega),cond_true,getI_nat',hx,Option.bind_some,w64_succ' (by omega)]
  exact sw_elem (swEntry F x l l0 l1 hF (hl.2 x (List.mem_of_getElem? hx)))
 ·rw [decide_eq_false (by omega)];rfl
theorem swLive (F:Nat)(x:GLive)(left:Int)(h0:0≤left)(h1:left≤1048576)(hF:2000000<F)(hl:LiveLen x):Sw (wLive x) left (M.laws_szLive F x left):=by
 unfold M.laws_szLive
 refine sw_then (n:=wList wDoc x.Seg.Docs+wList wEntry x.Seg.Entries) ?_ fun r r0 r1=>sw_keep (sw_str (left:=r) r0 (by omega) hl.2)
 unfold M.laws_szSeg
 exact sw_then (swDocs F x.Seg.Docs left h0 h1 hF hl.1.1) fun r r0 r1=>sw_keep (swEntrys F x.Seg.Entries r r0 (by omega) hF hl.1.2)
theorem swIndex (F:Nat)(x:GIndex)(left:Int)(h0:0≤left)(h1:left≤1048576)(hF:2000000<F)(hl:IndexLen x):Sw (wList wLive x.Segs) left (M.laws_szIndex F x left):=by
 unfold M.laws_szIndex
 refine(sw_then (n:=0) (m:=wList wLive x.Segs) (sw_of (szConf F x.Conf left h0 h1 hF hl.1)) fun r r0 r1=>sw_keep ?_).less (by omega)
 unfold M.laws_szLiveS
 refine sw_gen wLive F (by omega) r0 (by omega) hl.2.1 (fun i y l hi hxl hy l0 l1=>?_) fun l=>?_
 ·rw [decide_eq_true (by omega),cond_true,getI_nat',hy,Option.bind_some,w64_succ' (by omega)]
  exact sw_elem (swLive F y l l0 l1 hF (hl.2.2 y (List.mem_of_getElem? hy)))
 ·rw [decide_eq_false (by omega)];rfl
theorem mw_loop {α:Type}{xs:List α}{f:Int×Int→Option ((Int×Int)⊕Int)}(w:α→Nat)(F:Nat)(hl:xs.length≤1048576)(hF:2000000<F)(k:Nat)(hk:k+2*wList w xs≤9000000000000000000)
  (h: ∀(i v:Nat) x,xs[i]? =some x→i<xs.length→v+2*(1+w x)≤9000000000000000000→∃r:Nat,f ((v:Int),(i:Int))=some (.inl ((r:Int),((i+1:Nat):Int)))∧r≤v+2*(1+w x))
  (h0: ∀v:Nat,f ((v:Int),(xs.length:Int))=some (.inr (v:Int))): ∃r:Nat,(Option.bind (Option.bind (whileM f F ((k:Int),(0:Int))) fun r15=>some r15) fun o6=>some o6)=some (r:Int)∧r≤k+2*wList w xs:=by
 have gen: ∀(j i v F:Nat),i+j=xs.length→j<F→v+2*(j+sumW w (xs.drop i))≤9000000000000000000→∃r:Nat,whileM f F ((v:Int),(i:Int))=some (r:Int)∧r≤v+2*(j+sumW w (xs.drop i)):=by
  intro j
  induction j with
  | zero=>
   intro i v F e hF hv
   obtain⟨F,rfl⟩: ∃G,F=G+1:=⟨F-1,by omega⟩
   obtain rfl:i=xs.length:=by omega
   exact⟨v,by rw [whileM,h0];rfl,by omega⟩
  | succ j ih=>
   intro i v F e hF hv
   obtain⟨F,rfl⟩: ∃G,F=G+1:=⟨F-1,by omega⟩
   have hi:i<xs.length:=by omega
   rw [List.drop_eq_getElem_cons hi,sumW_cons] at hv ⊢
   obtain⟨r,hr,hle⟩:=h i v xs[i] (List.getElem?_eq_getElem hi) hi (by omega)
   obtain⟨q,hq,hql⟩:=ih (i+1) r F (by omega) (by omega) (by omega)
   exact⟨q,by rw [whileM,hr];exact hq,by omega⟩
 obtain⟨r,hr,hle⟩:=gen xs.length 0 k F (by omega) (by omega) (by rw [List.drop_zero];exact hk)
 rw [List.drop_zero] at hle
 refine⟨r,?_,hle⟩
 rw [show (0:Int)=((0:Nat):Int) from rfl,hr];rfl
theorem wNone {α:Type}(xs:List α):wList (fun _=>0) xs=xs.length:=by
 have: ∀ys:List α,sumW (fun _=>0) ys=0:=fun ys=>by
  induction ys with
  | nil=>rfl
  | cons y r ih=>rw [sumW_cons,ih]
 unfold wList
 rw [this];rfl
theorem mwFields (F:Nat)(xs:List GField)(k:Nat)(hF:2000000<F)(hl:xs.length≤1048576)(hk:k+2*xs.length≤9000000000000000000): ∃r:Nat,M.laws_markFieldS F xs (k:Int)=some (r:Int)∧r≤k+2*xs.length:=by
 rw [←wNone xs] at hk ⊢
 unfold M.laws_markFieldS
 refine mw_loop (fun _=>0) F hl hF k hk (fun i v x hx hi hv=>?_) fun v=>?_
 ·obtain⟨s,hs⟩:=markText_ok F (v:Int) (by omega) (by omega)
  obtain⟨s',hs'⟩:=markText_ok F ((v+1:Nat):Int) (by omega) (by omega)
  refine⟨v+1+1,?_,by omega⟩
  have hg:getI xs (i:Int)=some x:=by rw [getI_nat',hx]
  dsimp only
  rw [decide_eq_true (by omega),cond_true,hs,Option.bind_some,hg,Option.bind_some,w64_succ' (i:=v) (by omega),hs',Option.bind_some,Option.bind_some,w64_succ' (i:=v+1) (by omega),w64_succ' (i:=i) (by omega)]
 ·dsimp only
  rw [decide_eq_false (by omega)];rfl
theorem mwAttrs (F:Nat)(xs:List GAttr)(k:Nat)(hF:2000000<F)(hl:xs.length≤1048576)(hk:k+2*xs.length≤9000000000000000000): ∃r:Nat,M.laws_markAttrS F xs (k:Int)=some (r:Int)∧r≤k+2*xs.length:=by
 rw [←wNone xs] at hk ⊢
 unfold M.laws_markAttrS
 refine mw_loop (fun _=>0) F hl hF k hk (fun i v x hx hi hv=>?_) fun v=>?_
 ·obtain⟨s,hs⟩:=markText_ok F (v:Int) (by omega) (by omega)
  refine⟨v+1+1,?_,by omega⟩
  have hg:getI xs (i:Int)=some x:=by rw [getI_nat',hx]
  dsimp only
  rw [decide_eq_true (by omega),cond_true,hs,Option.bind_some,hg,Option.bind_some,Option.bind_some,w64_succ' (i:=v) (by omega),w64_succ' (i:=v+1) (by omega),w64_succ' (i:=i) (by omega)]
 ·dsimp only
  rw [decide_eq_false (by omega)];rfl
theorem mwDocs (F:Nat)(xs:List GDoc)(k:Nat)(hF:2000000<F)(hl:xs.length≤1048576∧∀s∈xs,DocBig 1048576 s)(hk:k+2*wList wDoc xs≤9000000000000000000): ∃r:Nat,M.laws_markDocS F xs (k:Int)=some (r:Int)∧r≤k+2*wList wDoc xs:=by
 obtain⟨hl,ha⟩:=hl
 unfold M.laws_markDocS
 refine mw_loop wDoc F hl hF k hk (fun i v x hx hi hv=>?_) fun v=>?_
 ·have hb:=ha x (List.mem_of_getElem? hx)
  unfold wDoc at hv ⊢
  obtain⟨r,hr,hle⟩:=mwFields F x.Fields (v+1) hF hb.fields (by omega)
  obtain⟨q,hq,hqe⟩:=mwAttrs F x.Nums r hF hb.nums (by omega)
  refine⟨q,?_,by omega⟩
  have hg:getI xs (i:Int)=some x:=by rw [getI_nat',hx]
  dsimp only
  rw [decide_eq_true (by omega),cond_true,hg,Option.bind_some,Option.bind_some,w64_succ' (i:=v) (by omega),hr,Option.bind_some,Option.bind_some,hq,Option.bind_some,w64_succ' (i:=i) (by omega)]
 ·dsimp only
  rw [decide_eq_false (by omega)];rfl
theorem mwInts (F:Nat)(xs:List Int)(k:Nat)(hF:2000000<F)(hl:xs.length≤1048576)(hk:k+2*xs.length≤9000000000000000000): ∃r:Nat,M.laws_markIntS F xs (k:Int)=some (r:Int)∧r≤k+2*xs.length:=by
 rw [←wNone xs] at hk ⊢
 unfold M.laws_markIntS
 refine mw_loop (fun _=>0) F hl hF k hk (fun i v x hx hi hv=>?_) fun v=>?_
 ·refine⟨v+1,?_,by omega⟩
  have hg:getI xs (i:Int)=some x:=by rw [getI_nat',hx]
  dsimp only
  rw [decide_eq_true (by omega),cond_true,hg,Option.bind_some,w64_succ' (i:=v) (by omega),w64_succ' (i:=i) (by omega)]
 ·dsimp only
  rw [decide_eq_false (by omega)];rfl
theorem mwPosts (F:Nat)(xs:List GPost)(k:Nat)(hF:2000000<F)(hl:xs.length≤1048576∧∀s∈xs,s.At.length≤1048576)(hk:k+2*wList wPost xs≤9000000000000000000): ∃r:Nat,M.laws_markPostS F xs (k:Int)=some (r:Int)∧r≤k+2*wList wPost xs:=by
 obtain⟨hl,ha⟩:=hl
 unfold M.laws_markPostS
 refine mw_loop wPost F hl hF k hk (fun i v x hx hi hv=>?_) fun v=>?_
 ·unfold wPost at hv ⊢
  obtain⟨r,hr,hle⟩:=mwInts F x.At (v+1) hF (ha x (List.mem_of_getElem? hx)) (by omega)
  refine⟨r,?_,by omega⟩
  have hg:getI xs (i:Int)=some x:=by rw [getI_nat',hx]
  dsimp only
  rw [decide_eq_true (by omega),cond_true,hg,Option.bind_some,Option.bind_some,w64_succ' (i:=v) (by omega),hr,Option.bind_some,w64_succ' (i:=i) (by omega)]
 ·dsimp only
  rw [decide_eq_false (by omega)];rfl
theorem mwEntrys (F:Nat)(xs:List GEntry)(k:Nat)(hF:2000000<F)(hl:xs.length≤1048576∧∀s∈xs,EntryBig s)(hk:k+2*wList wEntry xs≤9000000000000000000): ∃r:Nat,M.laws_markEntryS F xs (k:Int)=some (r:Int)∧r≤k+2*wList wEntry xs:=by
 obtain⟨hl,ha⟩:=hl
 unfold M.laws_markEntryS
 refine mw_loop wEntry F hl hF k hk (fun i v x hx hi hv=>?_) fun v=>?_
 ·have hb:=ha x (List.mem_of_getElem? hx)
  unfold wEntry at hv ⊢
  obtain⟨s,hs⟩:=markText_ok F (v:Int) (by omega) (by omega)
  obtain⟨s',hs'⟩:=markText_ok F ((v+1:Nat):Int) (by omega) (by omega)
  obtain⟨r,hr,hle⟩:=mwPosts F x.Posts (v+1+1) hF hb.2.2 (by omega)
  refine⟨r,?_,by omega⟩
  have hg:getI xs (i:Int)=some x:=by rw [getI_nat',hx]
  dsimp only
  rw [decide_eq_true (by omega),cond_true,hs,Option.bind_some,hg,Option.bind_some,w64_succ' (i:=v) (by omega),hs',Option.bind_some,Option.bind_some,Option.bind_some,w64_succ' (i:=v+1) (by omega),hr,Option.bind_some,w64_succ' (i:=i) (by omega)]
 ·dsimp only
  rw [decide_eq_false (by omega)];rfl
theorem mwLives (F:Nat)(xs:List GLive)(k:Nat)(hF:2000000<F)(hl:xs.length≤1048576∧∀s∈xs,LiveBig s)(hk:k+2*wList wLive xs≤9000000000000000000): ∃r:Nat,M.laws_markLiveS F xs (k:Int)=some (r:Int)∧r≤k+2*wList wLive xs:=by
 obtain⟨hl,ha⟩:=hl
 unfold M.laws_markLiveS
 refine mw_loop wLive F hl hF k hk (fun i v x hx hi hv=>?_) fun v=>?_
 ·have hb:=ha x (List.mem_of_getElem? hx)
  unfold wLive at hv ⊢
  obtain⟨r,hr,hle⟩:=mwDocs F x.Seg.Docs v hF hb.1.1 (by omega)
  obtain⟨q,hq,hqe⟩:=mwEntrys F x.Seg.Entries r hF hb.1.2 (by omega)
  obtain⟨p,hp,hpe⟩:=mwInts F x.Dead q hF hb.2 (by omega)
  refine⟨p,?_,by omega⟩
  have hg:getI xs (i:Int)=some x:=by rw [getI_nat',hx]
  dsimp only
  rw [decide_eq_true (by omega),cond_true,hg,Option.bind_some,hr,Option.bind_some,Option.bind_some,hq,Option.bind_some,Option.bind_some,hp,Option.bind_some,w64_succ' (i:=i) (by omega)]
 ·dsimp only
  rw [decide_eq_false (by omega)];rfl
end Go.Fk
