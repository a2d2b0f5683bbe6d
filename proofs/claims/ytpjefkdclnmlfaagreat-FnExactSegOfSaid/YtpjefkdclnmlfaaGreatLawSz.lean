/-
  Sizes, copies and comparisons of arguments. Of no program.
-/
import Derived.Test.YtpjefkdclnmlfaaGreatLawSegKL
set_option linter.unusedVariables false
namespace Go.Fk
open Go
theorem SliceAt.all {α:Type}{t:Ty α}{K:KMap}{a:Option Addr}{n c:Nat}{xs:List α}(hs:SliceAt t K a n c xs): ∀x∈xs,∃u,t.rel K u x:=fun f hf=>by
 obtain⟨i,hi⟩:=List.getElem?_of_mem hf
 have hlt:=(List.getElem?_eq_some_iff.1 hi).1
 obtain⟨e1,e2,_,e4⟩:=hs
 obtain⟨b,o,_,h5⟩:=e4 (by omega)
 obtain⟨u,hu,_⟩:=h5 i f hi
 exact⟨u,hu⟩
def SynLen (r:GSyn):Prop:=r.From.length≤maxLen∧r.To.length≤maxLen∧∀w∈r.From,w.length≤maxLen
def ConfLen (c:GConf):Prop:=(c.Stops.length≤maxLen∧∀s∈c.Stops,s.length≤maxLen)∧c.Syns.length≤maxLen∧∀r∈c.Syns,SynLen r
def FieldLen (f:GField):Prop:=f.Name.length≤maxLen∧f.Text.length≤maxLen
def DocLen (d:GDoc):Prop:=(d.Fields.length≤maxLen∧∀f∈d.Fields,FieldLen f)∧d.Nums.length≤maxLen∧∀a∈d.Nums,a.Name.length≤maxLen
theorem str_lens {K:KMap}{a:Option Addr}{n c:Nat}{xs:List Str}(h:SliceAt tStr K a n c xs):xs.length≤maxLen∧∀s∈xs,s.length≤maxLen:=
 ⟨h.max,fun s hs=>by obtain⟨u,hu⟩:=h.all s hs;exact hu.2⟩
theorem conf_lens {K:KMap}{a b:Option Addr}{n c m d:Nat}{x:GConf}(h1:SliceAt tStr K a n c x.Stops)(h2:SliceAt tGSyn K b m d x.Syns):ConfLen x:=
 ⟨str_lens h1,h2.max,fun r hr=>by
  obtain⟨u,a3,n3,c3,_,hs3⟩:=h2.all r hr
  obtain⟨k1,k2⟩:=hs3
  have k3:=k1
  first | exact⟨(str_lens k1).1,k2,(str_lens k1).2⟩ | exact⟨(str_lens k2).1,k1,(str_lens k2).2⟩⟩
theorem doc_lens {K:KMap}{a b:Option Addr}{n c m d:Nat}{x:GDoc}(h1:SliceAt tGField K a n c x.Fields)(h2:SliceAt tGAttr K b m d x.Nums):DocLen x:=
 ⟨⟨h1.max,fun f hf=>by obtain⟨u,hu⟩:=h1.all f hf;exact⟨hu.2.1,hu.2.2⟩⟩,h2.max,fun f hf=>by obtain⟨u,hu⟩:=h2.all f hf;exact hu.2.1⟩
def Sz (S:Prop)(left:Int)(o:Option Int):Prop:=∃r,o=some r∧(0≤r→r≤left∧S)
theorem sz_loop {α:Type}{xs:List α}{S:α→Prop}{f:Int×Int→Option ((Int×Int)⊕(Int⊕Int))}{left:Int}(h1:left≤1048576)
  (h: ∀(i:Nat) x (l:Int),i<xs.length→xs[i]? =some x→0≤l→l≤1048576→f (l,(i:Int))=some (.inr (.inr (-1)))∨∃r,0≤r∧r≤l∧S x∧f (l,(i:Int))=some (.inl (r,((i+1:Nat):Int))))
  (hE: ∀l,f (l,(xs.length:Int))=some (.inr (.inl l))): ∀(k i:Nat) (l:Int) (F:Nat),i+k=xs.length→k<F→0≤l→l≤left→(∀x∈xs.take i,S x)→∃t,whileM f F (l,(i:Int))=some t∧(t= .inr (-1)∨∃r,t= .inl r∧0≤r∧r≤left∧∀x∈xs,S x)
 | 0,i,l,F,e,hF,l0,l1,hS=>by
  obtain⟨F,rfl⟩: ∃G,F=G+1:=⟨F-1,by omega⟩
  obtain rfl:i=xs.length:=by omega
  rw [whileM,hE]
  rw [List.take_of_length_le (Nat.le_refl _)] at hS
  exact⟨.inl l,rfl,.inr ⟨l,rfl,l0,l1,hS⟩⟩
 | k+1,i,l,F,e,hF,l0,l1,hS=>by
  obtain⟨F,rfl⟩: ∃G,F=G+1:=⟨F-1,by omega⟩
  have hi:i<xs.length:=by omega
  rw [whileM]
  rcases h i xs[i] l hi (List.getElem?_eq_getElem hi) l0 (by omega) with h' | ⟨r,r0,r1,hs,h'⟩
  ·rw [h'];exact⟨_,rfl,.inl rfl⟩
  ·rw [h',Option.bind_some]
   refine sz_loop h1 h hE k (i+1) r F (by omega) (by omega) r0 (by omega) fun x hx=>?_
   rw [List.take_add_one,List.getElem?_eq_getElem hi] at hx
   rcases List.mem_append.1 hx with hx | hx
   ·exact hS x hx
   ·simp at hx;subst hx;exact hs
theorem sz_gen {α:Type}{xs:List α}(S:α→Prop){f:Int×Int→Option ((Int×Int)⊕(Int⊕Int))}{left:Int}(F:Nat)(hF:1048577<F)(h0:0≤left)(h1:left≤1048576)(hl:xs.length≤maxLen)
  (h: ∀(i:Nat) x (l:Int),i<xs.length→xs.length≤1048576→xs[i]? =some x→0≤l→l≤1048576→f (l,(i:Int))=some (.inr (.inr (-1)))∨∃r,0≤r∧r≤l∧S x∧f (l,(i:Int))=some (.inl (r,((i+1:Nat):Int))))
  (hE: ∀l,f (l,(xs.length:Int))=some (.inr (.inl l))):
  Sz (xs.length≤1048576∧∀x∈xs,S x) left (cond (decide ((w64 (left-(xs.length:Int)))<(0:Int))) (some (-1:Int)) (Option.bind ((Option.bind (whileM f F ((w64 (left-(xs.length:Int))),(0:Int))) fun r18=>(r18.elim (fun t46=>(some (.inl t46))) (fun t47=>(some (.inr t47))))):Option ((Int)⊕(Int))) fun o8=>o8.elim (fun s11=>(some s11)) (fun t48=>(some t48)))):=by
 have hm:maxLen≤9223372036854775807:=by decide
 have e1:w64 (left-(xs.length:Int))=left-(xs.length:Int):=w64_of ⟨by omega,by omega⟩
 rw [e1]
 by_cases hneg:left-(xs.length:Int)<0
 ·rw [decide_eq_true hneg]
  exact⟨-1,rfl,fun h=>by omega⟩
 ·rw [decide_eq_false hneg,cond_false]
  obtain⟨t,ht,hp⟩:=sz_loop (S:=S) (xs:=xs) (f:=f) (left:=left) h1 (fun i x l hi hx l0 l1=>h i x l hi (by omega) hx l0 l1) hE xs.length 0 (left-(xs.length:Int)) F (by omega) (by omega) (by omega) (by omega) (by simp)
  rw [show (0:Int)=((0:Nat):Int) from rfl,ht]
  rcases hp with rfl | ⟨r,rfl,r0,r1,hS⟩
  ·exact⟨-1,rfl,fun h=>by omega⟩
  ·exact⟨r,rfl,fun _=>⟨r1,by omega,hS⟩⟩
theorem sz_elem {S:Prop}{l:Int}{o:Option Int}{j:Int}(h:Sz S l o):(Option.bind o fun r=>(cond (decide (r<(0:Int))) (some (.inr (.inr (-1:Int)))) (some (.inl (r,j)))):Option ((Int×Int)⊕(Int⊕Int)))=some (.inr (.inr (-1)))∨
  ∃r,0≤r∧r≤l∧S∧(Option.bind o fun r=>(cond (decide (r<(0:Int))) (some (.inr (.inr (-1:Int)))) (some (.inl (r,j)))):Option ((Int×Int)⊕(Int⊕Int)))=some (.inl (r,j)):=by
 obtain⟨r,rfl,hr⟩:=h
 by_cases h0:r<0
 ·exact .inl (by rw [Option.bind_some,decide_eq_true h0];rfl)
 ·obtain⟨a,b⟩:=hr (by omega)
  exact .inr ⟨r,by omega,a,b,by rw [Option.bind_some,decide_eq_false h0];rfl⟩
theorem sz_then {S S':Prop}{l:Int}{o:Option Int}{g:Int→Option Int}(h:Sz S l o)(hg: ∀r,0≤r→r≤l→S→Sz S' l (g r)):Sz (S∧S') l (Option.bind o fun r=>cond (decide (r<(0:Int))) (some (-1:Int)) (g r)):=by
 obtain⟨r,rfl,hr⟩:=h
 rw [Option.bind_some]
 by_cases h0:r<0
 ·rw [decide_eq_true h0];exact⟨-1,rfl,fun h=>by omega⟩
 ·obtain⟨a,b⟩:=hr (by omega)
  obtain⟨q,hq,hq2⟩:=hg r (by omega) a b
  rw [decide_eq_false h0]
  exact⟨q,hq,fun q0=>⟨(hq2 q0).1,b,(hq2 q0).2⟩⟩
theorem Sz.imp {S S':Prop}{l:Int}{o:Option Int}(h:Sz S l o)(hs:S→S'):Sz S' l o:=by
 obtain⟨r,e,hr⟩:=h
 exact⟨r,e,fun r0=>⟨(hr r0).1,hs (hr r0).2⟩⟩
theorem sz_str {left:Int}(h0:0≤left)(h1:left≤1048576){n:Nat}(hn:n≤maxLen):Sz (n≤1048576) left (cond (decide ((w64 (left-(n:Int)))<(0:Int))) (some (-1:Int)) (some (w64 (left-(n:Int))))):=by
 have hm:maxLen≤9223372036854775807:=by decide
 rw [w64_of (n:=left-(n:Int)) ⟨by omega,by omega⟩]
 by_cases hneg:left-(n:Int)<0
 ·rw [decide_eq_true hneg];exact⟨-1,rfl,fun h=>by omega⟩
 ·rw [decide_eq_false hneg];exact⟨_,rfl,fun _=>⟨by omega,by omega⟩⟩
theorem sz_str_then {left:Int}(h0:0≤left)(h1:left≤1048576){n:Nat}(hn:n≤maxLen){S:Prop}{g:Int→Option Int}(hg: ∀r,0≤r→r≤left→Sz S left (g r)):Sz (n≤1048576∧S) left (cond (decide ((w64 (left-(n:Int)))<(0:Int))) (some (-1:Int)) (g (w64 (left-(n:Int))))):=by
 have hm:maxLen≤9223372036854775807:=by decide
 rw [w64_of (n:=left-(n:Int)) ⟨by omega,by omega⟩]
 by_cases hneg:left-(n:Int)<0
 ·rw [decide_eq_true hneg];exact⟨-1,rfl,fun h=>by omega⟩
 ·rw [decide_eq_false hneg]
  exact(hg _ (by omega) (by omega)).imp fun hs=>⟨by omega,hs⟩
theorem szStrs (F:Nat)(xs:List Str)(left:Int)(h0:0≤left)(h1:left≤1048576)(hF:2000000<F)(hl:xs.length≤maxLen∧∀s∈xs,s.length≤maxLen):Sz (xs.length≤1048576∧∀s∈xs,s.length≤1048576) left (M.laws_szStringS F xs left):=by
 unfold M.laws_szStringS
 refine sz_gen (fun s:Str=>s.length≤1048576) F (by omega) h0 h1 hl.1 (fun i x l hi hxl hx l0 l1=>?_) fun l=>?_
 ·rw [decide_eq_true (by omega),cond_true,getI_nat',hx,Option.bind_some,w64_succ' (by omega)]
  have hm:maxLen≤9223372036854775807:=by decide
  have hxm:=hl.2 x (List.mem_of_getElem? hx)
  rw [w64_of (n:=l-(x.length:Int)) ⟨by omega,by omega⟩]
  by_cases hneg:l-(x.length:Int)<0
  ·rw [decide_eq_true hneg];exact .inl rfl
  ·rw [decide_eq_false hneg];exact .inr ⟨l-(x.length:Int),by omega,by omega,by omega,rfl⟩
 ·rw [decide_eq_false (by omega)];rfl
def SynBig (r:GSyn):Prop:=(r.From.length≤1048576∧∀w∈r.From,w.length≤1048576)∧r.To.length≤1048576
theorem szSyn (F:Nat)(x:GSyn)(left:Int)(h0:0≤left)(h1:left≤1048576)(hF:2000000<F)(hl:SynLen x):Sz (SynBig x) left (M.laws_szSyn F x left):=by
 unfold M.laws_szSyn
 exact sz_then (szStrs F x.From left h0 h1 hF ⟨hl.1,hl.2.2⟩) fun r r0 r1 _=>by
  obtain⟨q,e,hq⟩:=sz_str (left:=r) r0 (by omega) hl.2.1
  exact⟨q,e,fun q0=>⟨by have:=(hq q0).1;omega,(hq q0).2⟩⟩
theorem szSyns (F:Nat)(xs:List GSyn)(left:Int)(h0:0≤left)(h1:left≤1048576)(hF:2000000<F)(hl:xs.length≤maxLen∧∀s∈xs,SynLen s):Sz (xs.length≤1048576∧∀s∈xs,SynBig s) left (M.laws_szSynS F xs left):=by
 unfold M.laws_szSynS
 refine sz_gen SynBig F (by omega) h0 h1 hl.1 (fun i x l hi hxl hx l0 l1=>?_) fun l=>?_
 ·rw [decide_eq_true (by omega),cond_true,getI_nat',hx,Option.bind_some,w64_succ' (by omega)]
  exact sz_elem (szSyn F x l l0 l1 hF (hl.2 x (List.mem_of_getElem? hx)))
 ·rw [decide_eq_false (by omega)];rfl
def ConfBig (c:GConf):Prop:=(c.Stops.length≤1048576∧∀s∈c.Stops,s.length≤1048576)∧c.Syns.length≤1048576∧∀s∈c.Syns,SynBig s
theorem sz_keep {S:Prop}{l:Int}{o:Option Int}(h:Sz S l o):Sz S l (Option.bind o fun r=>cond (decide (r<(0:Int))) (some (-1:Int)) (some r)):=by
 obtain⟨r,rfl,hr⟩:=h
 rw [Option.bind_some]
 by_cases h0:r<0
 ·rw [decide_eq_true h0];exact⟨-1,rfl,fun h=>by omega⟩
 ·rw [decide_eq_false h0];exact⟨r,rfl,hr⟩
theorem Sz.le {S:Prop}{l l':Int}{o:Option Int}(h:Sz S l o)(hl:l≤l'):Sz S l' o:=by
 obtain⟨r,e,hr⟩:=h
 exact⟨r,e,fun r0=>⟨by have:=(hr r0).1;omega,(hr r0).2⟩⟩
theorem szConf (F:Nat)(x:GConf)(left:Int)(h0:0≤left)(h1:left≤1048576)(hF:2000000<F)(hl:ConfLen x):Sz (ConfBig x) left (M.laws_szConf F x left):=by
 unfold M.laws_szConf
 exact sz_then (szStrs F x.Stops left h0 h1 hF hl.1) fun r r0 r1 _=>(sz_keep (szSyns F x.Syns r r0 (by omega) hF hl.2)).le r1
def FieldBig (f:GField):Prop:=f.Name.length≤1048576∧f.Text.length≤1048576
theorem szField (F:Nat)(x:GField)(left:Int)(h0:0≤left)(h1:left≤1048576)(hl:FieldLen x):Sz (FieldBig x) left (M.laws_szField F x left):=by
 unfold M.laws_szField
 refine sz_str_then (g:=fun r=>(Option.bind (some (w64 (r-(x.Text.length:Int)))) fun x11=>(cond (decide (x11<(0:Int))) (some (-1:Int)) (some x11)))) h0 h1 hl.1 fun r r0 r1=>?_
 rw [Option.bind_some]
 exact(sz_str r0 (by omega) hl.2).le r1
theorem szFields (F:Nat)(xs:List GField)(left:Int)(h0:0≤left)(h1:left≤1048576)(hF:2000000<F)(hl:xs.length≤maxLen∧∀s∈xs,FieldLen s):Sz (xs.length≤1048576∧∀s∈xs,FieldBig s) left (M.laws_szFieldS F xs left):=by
 unfold M.laws_szFieldS
 refine sz_gen FieldBig F (by omega) h0 h1 hl.1 (fun i x l hi hxl hx l0 l1=>?_) fun l=>?_
 ·rw [decide_eq_true (by omega),cond_true,getI_nat',hx,Option.bind_some,w64_succ' (by omega)]
  exact sz_elem (szField F x l l0 l1 (hl.2 x (List.mem_of_getElem? hx)))
 ·rw [decide_eq_false (by omega)];rfl
theorem szAttrs (F:Nat)(xs:List GAttr)(left:Int)(h0:0≤left)(h1:left≤1048576)(hF:2000000<F)(hl:xs.length≤maxLen∧∀s∈xs,s.Name.length≤maxLen):Sz (xs.length≤1048576∧∀s∈xs,s.Name.length≤1048576) left (M.laws_szAttrS F xs left):=by
 unfold M.laws_szAttrS
 refine sz_gen (fun s:GAttr=>s.Name.length≤1048576) F (by omega) h0 h1 hl.1 (fun i x l hi hxl hx l0 l1=>?_) fun l=>?_
 ·rw [decide_eq_true (by omega),cond_true,getI_nat',hx,Option.bind_some,w64_succ' (by omega)]
  exact sz_elem (S:=x.Name.length≤1048576) (by unfold M.laws_szAttr;exact sz_str l0 l1 (hl.2 x (List.mem_of_getElem? hx)))
 ·rw [decide_eq_false (by omega)];rfl
theorem szDoc (F:Nat)(x:GDoc)(left:Int)(h0:0≤left)(h1:left≤1048576)(hF:2000000<F)(hl:DocLen x):Sz (DocBig 1048576 x) left (M.laws_szDoc F x left):=by
 unfold M.laws_szDoc
 refine(sz_then (szFields F x.Fields left h0 h1 hF hl.1) fun r r0 r1 _=>(sz_keep (szAttrs F x.Nums r r0 (by omega) hF hl.2)).le r1).imp fun⟨k1,k2⟩=>?_
 exact⟨k1.1,k2.1,k1.2,k2.2⟩
theorem szDocs (F:Nat)(xs:List GDoc)(left:Int)(h0:0≤left)(h1:left≤1048576)(hF:2000000<F)(hl:xs.length≤maxLen∧∀s∈xs,DocLen s):Sz (xs.length≤1048576∧∀s∈xs,DocBig 1048576 s) left (M.laws_szDocS F xs left):=by
 unfold M.laws_szDocS
 refine sz_gen (DocBig 1048576) F (by omega) h0 h1 hl.1 (fun i x l hi hxl hx l0 l1=>?_) fun l=>?_
 ·rw [decide_eq_true (by omega),cond_true,getI_nat',hx,Option.bind_some,w64_succ' (by omega)]
  exact sz_elem (szDoc F x l l0 l1 hF (hl.2 x (List.mem_of_getElem? hx)))
 ·rw [decide_eq_false (by omega)];rfl
end Go.Fk
