import Derived.Test.YtpdfkjjmcnhakaaGreatDoorLawSegKL
import Derived.Test.YtpdfkjjmcnhakaaGreatDoorLawIdx18
/-
  Sizes, copies and comparisons of arguments. Of no program.
-/
set_option linter.unusedVariables false
namespace Go.Fk
open Go
theorem SliceAt.all {α:Type}{t:Ty α}{K:KMap}{a:Option Addr}{n c:Nat}{xs:List α}(hs:SliceAt t K a n c xs): ∀x∈xs,∃u,t.rel K u x:=fun f hf=>by
 obtain⟨i,hi⟩:=List.getElem?_of_mem hf
 have hlt:=(List.getElem?_eq_some_iff.1 hi).1
 obtain⟨e1,e2,_,e4⟩:=hs
 obtain⟨b,o,_,h5⟩:=e4 (by omega)
 obtain⟨u,hu,_⟩:=h5 i f hi
 exact⟨u,hu⟩
def SynLen (r:GSyn):Prop:=r.From.length≤maxLen∧r.To.length≤maxLen∧∀w∈r.From,w.length≤maxLen
def ConfLen (c:GConf):Prop:=(c.Stops.length≤maxLen∧∀s∈c.Stops,s.length≤maxLen)∧c.Syns.length≤maxLen∧∀r∈c.Syns,SynLen r
def FieldLen (f:GField):Prop:=f.Name.length≤maxLen∧f.Text.length≤maxLen
def DocLen (d:GDoc):Prop:=(d.Fields.length≤maxLen∧∀f∈d.Fields,FieldLen f)∧d.Nums.length≤maxLen∧∀a∈d.Nums,a.Name.length≤maxLen
def EntryLen (e:GEntry):Prop:=e.Field.length≤maxLen∧e.Term.length≤maxLen∧e.Posts.length≤maxLen∧∀p∈e.Posts,p.At.length≤maxLen
def SegLen (s:GSeg):Prop:=(s.Docs.length≤maxLen∧∀d∈s.Docs,DocLen d)∧s.Entries.length≤maxLen∧∀e∈s.Entries,EntryLen e
theorem str_lens {K:KMap}{a:Option Addr}{n c:Nat}{xs:List Str}(h:SliceAt tStr K a n c xs):xs.length≤maxLen∧∀s∈xs,s.length≤maxLen:=
 ⟨h.max,fun s hs=>by obtain⟨u,hu⟩:=h.all s hs;exact hu.2⟩
theorem conf_lens {K:KMap}{a b:Option Addr}{n c m d:Nat}{x:GConf}(h1:SliceAt tStr K a n c x.Stops)(h2:SliceAt tGSyn K b m d x.Syns):ConfLen x:=
 ⟨str_lens h1,h2.max,fun r hr=>by
  obtain⟨u,a3,n3,c3,_,hs3⟩:=h2.all r hr
  obtain⟨k1,k2⟩:=hs3
  have k3:=k1
  first | exact⟨(str_lens k1).1,k2,(str_lens k1).2⟩ | exact⟨(str_lens k2).1,k1,(str_lens k2).2⟩⟩
theorem doc_lens {K:KMap}{a b:Option Addr}{n c m d:Nat}{x:GDoc}(h1:SliceAt tGField K a n c x.Fields)(h2:SliceAt tGAttr K b m d x.Nums):DocLen x:=
 ⟨⟨h1.max,fun f hf=>by obtain⟨u,hu⟩:=h1.all f hf;exact⟨hu.2.1,hu.2.2⟩⟩,h2.max,fun f hf=>by obtain⟨u,hu⟩:=h2.all f hf;exact hu.2.1⟩
theorem entry_lens {K:KMap}{u:Value}{e:GEntry}(h:tGEntry.rel K u e):EntryLen e:=by
 obtain⟨a,n,c,_,h1,h2,h3⟩:=h
 exact⟨h1,h2,h3.max,fun p hp=>by obtain⟨u,a2,n2,c2,_,_,h4⟩:=h3.all p hp;exact h4.max⟩
theorem seg_lens {K:KMap}{a b:Option Addr}{n c m d:Nat}{x:GSeg}(h1:SliceAt tGDoc K a n c x.Docs)(h2:SliceAt tGEntry K b m d x.Entries):SegLen x:=
 ⟨⟨h1.max,fun f hf=>by
  obtain⟨u,a2,n2,c2,a3,n3,c3,_,_,k1,k2⟩:=h1.all f hf
  exact doc_lens k1 k2⟩,h2.max,fun e he=>by obtain⟨u,hu⟩:=h2.all e he;exact entry_lens hu⟩
def Sz (S:Prop)(left:Int)(o:Option Int):Prop:=∃r,o=some r∧(0≤r→r≤left∧S)
theorem sz_loop {α:Type}{xs:List α}{S:α→Prop}{f:Int×Int→Option ((Int×Int)⊕(Int⊕Int))}{left:Int}(h1:left≤1048576)
  (h: ∀(i:Nat) x (l:Int),i<xs.length→xs[i]? =some x→0≤l→l≤1048576→f (l,(i:Int))=some (.inr (.inr (-1)))∨∃r,0≤r∧r≤l∧S x∧f (l,(i:Int))=some (.inl (r,((i+1:Nat):Int))))
  (hE: ∀l,f (l,(xs.length:Int))=some (.inr (.inl l))): ∀(k i:Nat) (l:Int) (F:Nat),i+k=xs.length→k<F→0≤l→l≤left→(∀x∈xs.take i,S x)→∃t,whileM f F (l,(i:Int))=some t∧(t= .inr (-1)∨∃r,t= .inl r∧0≤r∧r≤left∧∀x∈xs,S x)
 | 0,i,l,F,e,hF,l0,l1,hS=>by
  obtain⟨F,rfl⟩: ∃G,F=G+1:=⟨F-1,by omega⟩
  obtain rfl:i=xs.length:=by omega
  rw [whileM,hE]
  rw [List.take_of_length_le (Nat.le_refl _)] at hS
  exact⟨.inl l,rfl,.inr ⟨l,rfl,l0,l1,hS⟩⟩
 | k+1,i,l,F,e,hF,l0,l1,hS=>by
  obtain⟨F,rfl⟩: ∃G,F=G+1:=⟨F-1,by omega⟩
  have hi:i<xs.length:=by omega
  rw [whileM]
  rcases h i xs[i] l hi (List.getElem?_eq_getElem hi) l0 (by omega) with h' | ⟨r,r0,r1,hs,h'⟩
  ·rw [h'];exact⟨_,rfl,.inl rfl⟩
  ·rw [h',Option.bind_some]
   refine sz_loop h1 h hE k (i+1) r F (by omega) (by omega) r0 (by omega) fun x hx=>?_
   rw [List.take_add_one,List.getElem?_eq_getElem hi] at hx
   rcases List.mem_append.1 hx with hx | hx
   ·exact hS x hx
   ·simp at hx;subst hx;exact hs
theorem sz_gen {α:Type}{xs:List α}(S:α→Prop){f:Int×Int→Option ((Int×Int)⊕(Int⊕Int))}{left:Int}(F:Nat)(hF:1048577<F)(h0:0≤left)(h1:left≤1048576)(hl:xs.length≤maxLen)
  (h: ∀(i:Nat) x (l:Int),i<xs.length→xs.length≤1048576→xs[i]? =some x→0≤l→l≤1048576→f (l,(i:Int))=some (.inr (.inr (-1)))∨∃r,0≤r∧r≤l∧S x∧f (l,(i:Int))=some (.inl (r,((i+1:Nat):Int))))
  (hE: ∀l,f (l,(xs.length:Int))=some (.inr (.inl l))):
  Sz (xs.length≤1048576∧∀x∈xs,S x) left (cond (decide ((w64 (left-(xs.length:Int)))<(0:Int))) (some (-1:Int)) (Option.bind ((Option.bind (whileM f F ((w64 (left-(xs.length:Int))),(0:Int))) fun r18=>(r18.elim (fun t46=>(some (.inl t46))) (fun t47=>(some (.inr t47))))):Option ((Int)⊕(Int))) fun o8=>o8.elim (fun s11=>(some s11)) (fun t48=>(some t48)))):=by
 have hm:maxLen≤9223372036854775807:=by decide
 have e1:w64 (left-(xs.length:Int))=left-(xs.length:Int):=w64_of ⟨by omega,by omega⟩
 rw [e1]
 by_cases hneg:left-(xs.length:Int)<0
 ·rw [decide_eq_true hneg]
  exact⟨-1,rfl,fun h=>by omega⟩
 ·rw [decide_eq_false hneg,cond_false]
  obtain⟨t,ht,hp⟩:=sz_loop (S:=S) (xs:=xs) (f:=f) (left:=left) h1 (fun i x l hi hx l0 l1=>h i x l hi (by omega) hx l0 l1) hE xs.length 0 (left-(xs.length:Int)) F (by omega) (by omega) (by omega) (by omega) (by simp)
  rw [show (0:Int)=((0:Nat):Int) from rfl,ht]
  rcases hp with rfl | ⟨r,rfl,r0,r1,hS⟩
  ·exact⟨-1,rfl,fun h=>by omega⟩
  ·exact⟨r,rfl,fun _=>⟨r1,by omega,hS⟩⟩
theorem sz_elem {S:Prop}{l:Int}{o:Option Int}{j:Int}(h:Sz S l o):(Option.bind o fun r=>(cond (decide (r<(0:Int))) (some (.inr (.inr (-1:Int)))) (some (.inl (r,j)))):Option ((Int×Int)⊕(Int⊕Int)))=some (.inr (.inr (-1)))∨
  ∃r,0≤r∧r≤l∧S∧(Option.bind o fun r=>(cond (decide (r<(0:Int))) (some (.inr (.inr (-1:Int)))) (some (.inl (r,j)))):Option ((Int×Int)⊕(Int⊕Int)))=some (.inl (r,j)):=by
 obtain⟨r,rfl,hr⟩:=h
 by_cases h0:r<0
 ·exact .inl (by rw [Option.bind_some,decide_eq_true h0];rfl)
 ·obtain⟨a,b⟩:=hr (by omega)
  exact .inr ⟨r,by omega,a,b,by rw [Option.bind_some,decide_eq_false h0];rfl⟩
theorem sz_then {S S':Prop}{l:Int}{o:Option Int}{g:Int→Option Int}(h:Sz S l o)(hg: ∀r,0≤r→r≤l→S→Sz S' l (g r)):Sz (S∧S') l (Option.bind o fun r=>cond (decide (r<(0:Int))) (some (-1:Int)) (g r)):=by
 obtain⟨r,rfl,hr⟩:=h
 rw [Option.bind_some]
 by_cases h0:r<0
 ·rw [decide_eq_true h0];exact⟨-1,rfl,fun h=>by omega⟩
 ·obtain⟨a,b⟩:=hr (by omega)
  obtain⟨q,hq,hq2⟩:=hg r (by omega) a b
  rw [decide_eq_false h0]
  exact⟨q,hq,fun q0=>⟨(hq2 q0).1,b,(hq2 q0).2⟩⟩
theorem Sz.imp {S S':Prop}{l:Int}{o:Option Int}(h:Sz S l o)(hs:S→S'):Sz S' l o:=by
 obtain⟨r,e,hr⟩:=h
 exact⟨r,e,fun r0=>⟨(hr r0).1,hs (hr r0).2⟩⟩
theorem sz_str {left:Int}(h0:0≤left)(h1:left≤1048576){n:Nat}(hn:n≤maxLen):Sz (n≤1048576) left (cond (decide ((w64 (left-(n:Int)))<(0:Int))) (some (-1:Int)) (some (w64 (left-(n:Int))))):=by
 have hm:maxLen≤9223372036854775807:=by decide
 rw [w64_of (n:=left-(n:Int)) ⟨by omega,by omega⟩]
 by_cases hneg:left-(n:Int)<0
 ·rw [decide_eq_true hneg];exact⟨-1,rfl,fun h=>by omega⟩
 ·rw [decide_eq_false hneg];exact⟨_,rfl,fun _=>⟨by omega,by omega⟩⟩
theorem sz_str_then {left:Int}(h0:0≤left)(h1:left≤1048576){n:Nat}(hn:n≤maxLen){S:Prop}{g:Int→Option Int}(hg: ∀r,0≤r→r≤left→Sz S left (g r)):Sz (n≤1048576∧S) left (cond (decide ((w64 (left-(n:Int)))<(0:Int))) (some (-1:Int)) (g (w64 (left-(n:Int))))):=by
 have hm:maxLen≤9223372036854775807:=by decide
 rw [w64_of (n:=left-(n:Int)) ⟨by omega,by omega⟩]
 by_cases hneg:left-(n:Int)<0
 ·rw [decide_eq_true hneg];exact⟨-1,rfl,fun h=>by omega⟩
 ·rw [decide_eq_false hneg]
  exact(hg _ (by omega) (by omega)).imp fun hs=>⟨by omega,hs⟩
theorem szStrs (F:Nat)(xs:List Str)(left:Int)(h0:0≤left)(h1:left≤1048576)(hF:2000000<F)(hl:xs.length≤maxLen∧∀s∈xs,s.length≤maxLen):Sz (xs.length≤1048576∧∀s∈xs,s.length≤1048576) left (M.laws_szStringS F xs left):=by
 unfold M.laws_szStringS
 refine sz_gen (fun s:Str=>s.length≤1048576) F (by omega) h0 h1 hl.1 (fun i x l hi hxl hx l0 l1=>?_) fun l=>?_
 ·rw [decide_eq_true (by omega),cond_true,getI_nat',hx,Option.bind_some,w64_succ' (by omega)]
  have hm:maxLen≤9223372036854775807:=by decide
  have hxm:=hl.2 x (List.mem_of_getElem? hx)
  rw [w64_of (n:=l-(x.length:Int)) ⟨by omega,by omega⟩]
  by_cases hneg:l-(x.length:Int)<0
  ·rw [decide_eq_true hneg];exact .inl rfl
  ·rw [decide_eq_false hneg];exact .inr ⟨l-(x.length:Int),by omega,by omega,by omega,rfl⟩
 ·rw [decide_eq_false (by omega)];rfl
def SynBig (r:GSyn):Prop:=(r.From.length≤1048576∧∀w∈r.From,w.length≤1048576)∧r.To.length≤1048576
theorem szSyn (F:Nat)(x:GSyn)(left:Int)(h0:0≤left)(h1:left≤1048576)(hF:2000000<F)(hl:SynLen x):Sz (SynBig x) left (M.laws_szSyn F x left):=by
 unfold M.laws_szSyn
 exact sz_then (szStrs F x.From left h0 h1 hF ⟨hl.1,hl.2.2⟩) fun r r0 r1 _=>by
  obtain⟨q,e,hq⟩:=sz_str (left:=r) r0 (by omega) hl.2.1
  exact⟨q,e,fun q0=>⟨by have:=(hq q0).1;omega,(hq q0).2⟩⟩
theorem szSyns (F:Nat)(xs:List GSyn)(left:Int)(h0:0≤left)(h1:left≤1048576)(hF:2000000<F)(hl:xs.length≤maxLen∧∀s∈xs,SynLen s):Sz (xs.length≤1048576∧∀s∈xs,SynBig s) left (M.laws_szSynS F xs left):=by
 unfold M.laws_szSynS
 refine sz_gen SynBig F (by omega) h0 h1 hl.1 (fun i x l hi hxl hx l0 l1=>?_) fun l=>?_
 ·rw [decide_eq_true (by omega),cond_true,getI_nat',hx,Option.bind_some,w64_succ' (by omega)]
  exact sz_elem (szSyn F x l l0 l1 hF (hl.2 x (List.mem_of_getElem? hx)))
 ·rw [decide_eq_false (by omega)];rfl
def ConfBig (c:GConf):Prop:=(c.Stops.length≤1048576∧∀s∈c.Stops,s.length≤1048576)∧c.Syns.length≤1048576∧∀s∈c.Syns,SynBig s
theorem sz_keep {S:Prop}{l:Int}{o:Option Int}(h:Sz S l o):Sz S l (Option.bind o fun r=>cond (decide (r<(0:Int))) (some (-1:Int)) (some r)):=by
 obtain⟨r,rfl,hr⟩:=h
 rw [Option.bind_some]
 by_cases h0:r<0
 ·rw [decide_eq_true h0];exact⟨-1,rfl,fun h=>by omega⟩
 ·rw [decide_eq_false h0];exact⟨r,rfl,hr⟩
theorem Sz.le {S:Prop}{l l':Int}{o:Option Int}(h:Sz S l o)(hl:l≤l'):Sz S l' o:=by
 obtain⟨r,e,hr⟩:=h
 exact⟨r,e,fun r0=>⟨by have:=(hr r0).1;omega,(hr r0).2⟩⟩
theorem szConf (F:Nat)(x:GConf)(left:Int)(h0:0≤left)(h1:left≤1048576)(hF:2000000<F)(hl:ConfLen x):Sz (ConfBig x) left (M.laws_szConf F x left):=by
 unfold M.laws_szConf
 exact sz_then (szStrs F x.Stops left h0 h1 hF hl.1) fun r r0 r1 _=>(sz_keep (szSyns F x.Syns r r0 (by omega) hF hl.2)).le r1
def FieldBig (f:GField):Prop:=f.Name.length≤1048576∧f.Text.length≤1048576
theorem szField (F:Nat)(x:GField)(left:Int)(h0:0≤left)(h1:left≤1048576)(hl:FieldLen x):Sz (FieldBig x) left (M.laws_szField F x left):=by
 unfold M.laws_szField
 refine sz_str_then (g:=fun r=>(Option.bind (some (w64 (r-(x.Text.length:Int)))) fun x11=>(cond (decide (x11<(0:Int))) (some (-1:Int)) (some x11)))) h0 h1 hl.1 fun r r0 r1=>?_
 rw [Option.bind_some]
 exact(sz_str r0 (by omega) hl.2).le r1
theorem szFields (F:Nat)(xs:List GField)(left:Int)(h0:0≤left)(h1:left≤1048576)(hF:2000000<F)(hl:xs.length≤maxLen∧∀s∈xs,FieldLen s):Sz (xs.length≤1048576∧∀s∈xs,FieldBig s) left (M.laws_szFieldS F xs left):=by
 unfold M.laws_szFieldS
 refine sz_gen FieldBig F (by omega) h0 h1 hl.1 (fun i x l hi hxl hx l0 l1=>?_) fun l=>?_
 ·rw [decide_eq_true (by omega),cond_true,getI_nat',hx,Option.bind_some,w64_succ' (by omega)]
  exact sz_elem (szField F x l l0 l1 (hl.2 x (List.mem_of_getElem? hx)))
 ·rw [decide_eq_false (by omega)];rfl
theorem szAttrs (F:Nat)(xs:List GAttr)(left:Int)(h0:0≤left)(h1:left≤1048576)(hF:2000000<F)(hl:xs.length≤maxLen∧∀s∈xs,s.Name.length≤maxLen):Sz (xs.length≤1048576∧∀s∈xs,s.Name.length≤1048576) left (M.laws_szAttrS F xs left):=by
 unfold M.laws_szAttrS
 refine sz_gen (fun s:GAttr=>s.Name.length≤1048576) F (by omega) h0 h1 hl.1 (fun i x l hi hxl hx l0 l1=>?_) fun l=>?_
 ·rw [decide_eq_true (by omega),cond_true,getI_nat',hx,Option.bind_some,w64_succ' (by omega)]
  exact sz_elem (S:=x.Name.length≤1048576) (by unfold M.laws_szAttr;exact sz_str l0 l1 (hl.2 x (List.mem_of_getElem? hx)))
 ·rw [decide_eq_false (by omega)];rfl
theorem szDoc (F:Nat)(x:GDoc)(left:Int)(h0:0≤left)(h1:left≤1048576)(hF:2000000<F)(hl:DocLen x):Sz (DocBig 1048576 x) left (M.laws_szDoc F x left):=by
 unfold M.laws_szDoc
 refine(sz_then (szFields F x.Fields left h0 h1 hF hl.1) fun r r0 r1 _=>(sz_keep (szAttrs F x.Nums r r0 (by omega) hF hl.2)).le r1).imp fun⟨k1,k2⟩=>?_
 exact⟨k1.1,k2.1,k1.2,k2.2⟩
theorem szDocs (F:Nat)(xs:List GDoc)(left:Int)(h0:0≤left)(h1:left≤1048576)(hF:2000000<F)(hl:xs.length≤maxLen∧∀s∈xs,DocLen s):Sz (xs.length≤1048576∧∀s∈xs,DocBig 1048576 s) left (M.laws_szDocS F xs left):=by
 unfold M.laws_szDocS
 refine sz_gen (DocBig 1048576) F (by omega) h0 h1 hl.1 (fun i x l hi hxl hx l0 l1=>?_) fun l=>?_
 ·rw [decide_eq_true (by omega),cond_true,getI_nat',hx,Option.bind_some,w64_succ' (by omega)]
  exact sz_elem (szDoc F x l l0 l1 hF (hl.2 x (List.mem_of_getElem? hx)))
 ·rw [decide_eq_false (by omega)];rfl
theorem szPost (F:Nat)(x:GPost)(left:Int)(h0:0≤left)(h1:left≤1048576)(hl:x.At.length≤maxLen):Sz (x.At.length≤1048576) left (M.laws_szPost F x left):=by
 unfold M.laws_szPost
 exact sz_keep (by unfold M.laws_szIntS;exact sz_str h0 h1 hl)
theorem szPosts (F:Nat)(xs:List GPost)(left:Int)(h0:0≤left)(h1:left≤1048576)(hF:2000000<F)(hl:xs.length≤maxLen∧∀s∈xs,s.At.length≤maxLen):Sz (xs.length≤1048576∧∀s∈xs,s.At.length≤1048576) left (M.laws_szPostS F xs left):=by
 unfold M.laws_szPostS
 refine sz_gen (fun s:GPost=>s.At.length≤1048576) F (by omega) h0 h1 hl.1 (fun i x l hi hxl hx l0 l1=>?_) fun l=>?_
 ·rw [decide_eq_true (by omega),cond_true,getI_nat',hx,Option.bind_some,w64_succ' (by omega)]
  exact sz_elem (szPost F x l l0 l1 (hl.2 x (List.mem_of_getElem? hx)))
 ·rw [decide_eq_false (by omega)];rfl
def EntryBig (e:GEntry):Prop:=e.Field.length≤1048576∧e.Term.length≤1048576∧e.Posts.length≤1048576∧∀p∈e.Posts,p.At.length≤1048576
theorem szEntry (F:Nat)(x:GEntry)(left:Int)(h0:0≤left)(h1:left≤1048576)(hF:2000000<F)(hl:EntryLen x):Sz (EntryBig x) left (M.laws_szEntry F x left):=by
 unfold M.laws_szEntry
 refine sz_str_then (g:=fun r=>(Option.bind (some (w64 (r-(x.Term.length:Int)))) fun x15=>(cond (decide (x15<(0:Int))) (some (-1:Int)) (Option.bind (M.laws_szPostS F x.Posts x15) fun r22=>(cond (decide (r22<(0:Int))) (some (-1:Int)) (some r22)))))) h0 h1 hl.1 fun r r0 r1=>?_
 rw [Option.bind_some]
 exact(sz_str_then (g:=fun q=>Option.bind (M.laws_szPostS F x.Posts q) fun r22=>(cond (decide (r22<(0:Int))) (some (-1:Int)) (some r22))) r0 (by omega) hl.2.1 fun q q0 q1=>(sz_keep (szPosts F x.Posts q q0 (by omega) hF hl.2.2)).le q1).le r1
theorem szEntrys (F:Nat)(xs:List GEntry)(left:Int)(h0:0≤left)(h1:left≤1048576)(hF:2000000<F)(hl:xs.length≤maxLen∧∀s∈xs,EntryLen s):Sz (xs.length≤1048576∧∀s∈xs,EntryBig s) left (M.laws_szEntryS F xs left):=by
 unfold M.laws_szEntryS
 refine sz_gen EntryBig F (by omega) h0 h1 hl.1 (fun i x l hi hxl hx l0 l1=>?_) fun l=>?_
 ·rw [decide_eq_true (by omega),cond_true,getI_nat',hx,Option.bind_some,w64_succ' (by omega)]
  exact sz_elem (szEntry F x l l0 l1 hF (hl.2 x (List.mem_of_getElem? hx)))
 ·rw [decide_eq_false (by omega)];rfl
def SegBig (s:GSeg):Prop:=(s.Docs.length≤1048576∧∀d∈s.Docs,DocBig 1048576 d)∧s.Entries.length≤1048576∧∀e∈s.Entries,EntryBig e
theorem szSeg (F:Nat)(x:GSeg)(left:Int)(h0:0≤left)(h1:left≤1048576)(hF:2000000<F)(hl:SegLen x):Sz (SegBig x) left (M.laws_szSeg F x left):=by
 unfold M.laws_szSeg
 exact sz_then (szDocs F x.Docs left h0 h1 hF hl.1) fun r r0 r1 _=>(sz_keep (szEntrys F x.Entries r r0 (by omega) hF hl.2)).le r1
end Go.Fk
set_option linter.unusedVariables false
namespace Go.Fk
open Go
theorem to_loop {α:Type}{xs:List α}{f:Int×List α→Option ((Int×List α)⊕List α)}(h: ∀(i:Nat) x (s:List α),xs[i]? =some x→i<s.length→f ((i:Int),s)=some (.inl (((i+1:Nat):Int),s.set i x)))
  (hE: ∀s,f ((xs.length:Int),s)=some (.inr s)): ∀(k i F:Nat) (s:List α),i+k=xs.length→k<F→s.length=xs.length→s.take i=xs.take i→whileM f F ((i:Int),s)=some xs
 | 0,i,F,s,e,hF,hl,hs=>by
  obtain⟨F,rfl⟩: ∃G,F=G+1:=⟨F-1,by omega⟩
  obtain rfl:i=xs.length:=by omega
  rw [whileM,hE]
  rw [List.take_of_length_le (by omega),List.take_of_length_le (Nat.le_refl _)] at hs
  rw [hs];rfl
 | k+1,i,F,s,e,hF,hl,hs=>by
  obtain⟨F,rfl⟩: ∃G,F=G+1:=⟨F-1,by omega⟩
  have hi:i<xs.length:=by omega
  rw [whileM,h i xs[i] s (List.getElem?_eq_getElem hi) (by omega),Option.bind_some]
  refine to_loop h hE k (i+1) F _ (by omega) (by omega) (by rw [List.length_set];exact hl) ?_
  rw [List.take_add_one,List.take_add_one,List.getElem?_set_self (by omega),List.getElem?_eq_getElem hi,List.take_set_of_le (Nat.le_refl _),hs]
theorem to_gen {α:Type}{xs:List α}{z:α}{b:Nat}{f:Int×List α→Option ((Int×List α)⊕List α)}(F:Nat)(hb:b≤100)(hF:1048577<F)(hl:xs.length≤1048576)(h: ∀(i:Nat) x (s:List α),xs[i]? =some x→i<s.length→f ((i:Int),s)=some (.inl (((i+1:Nat):Int),s.set i x)))
  (hE: ∀s,f ((xs.length:Int),s)=some (.inr s)):(Option.bind (makeL b (xs.length:Int) z) fun x5=>(Option.bind ((Option.bind (whileM f F ((0:Int),x5)) fun r27=>(some r27)):Option (List α)) fun o16=>(some o16)))=some xs:=by
 have hm:makeL b (xs.length:Int) z=some (List.replicate xs.length z):=by
  unfold makeL
  rw [if_pos ⟨by omega,by
   have h1:=Nat.mul_le_mul hl hb
   have h2:((xs.length*b:Nat):Int)≤((1048576*100:Nat):Int):=Int.ofNat_le.2 h1
   rw [Int.natCast_mul] at h2
   omega⟩,Int.toNat_natCast]
 rw [hm,Option.bind_some,show (0:Int)=((0:Nat):Int) from rfl,to_loop h hE xs.length 0 F _ (by omega) (by omega) (by simp) (by simp)];rfl
theorem toStrs (F:Nat)(xs:List Str)(hF:2000000<F)(hl:xs.length≤1048576):M.laws_toStringS F xs=some xs:=by
 unfold M.laws_toStringS
 refine to_gen F (by omega) (by omega) hl (fun i x s hx hi=>?_) fun s=>?_
 ·have hix:=(List.getElem?_eq_some_iff.1 hx).1
  have hle:=hl
  rw [decide_eq_true (by omega),cond_true,getI_nat',hx,Option.bind_some,getI_nat',List.getElem?_eq_getElem hi,Option.bind_some,w64_succ' (by omega),Int.toNat_natCast]
 ·rw [decide_eq_false (by omega)];rfl
theorem toSyn (F:Nat)(x:GSyn)(hF:2000000<F)(h:SynBig x):M.laws_toSyn F x=some x:=by
 unfold M.laws_toSyn
 rw [toStrs F x.From hF h.1.1];rfl
theorem toSyns (F:Nat)(xs:List GSyn)(hF:2000000<F)(hl:xs.length≤1048576∧∀s∈xs,SynBig s):M.laws_toSynS F xs=some xs:=by
 unfold M.laws_toSynS
 refine to_gen F (by omega) (by omega) hl.1 (fun i x s hx hi=>?_) fun s=>?_
 ·have hix:=(List.getElem?_eq_some_iff.1 hx).1
  have hle:=hl.1
  rw [decide_eq_true (by omega),cond_true,getI_nat',hx,Option.bind_some,toSyn F x hF (hl.2 x (List.mem_of_getElem? hx)),Option.bind_some,getI_nat',List.getElem?_eq_getElem hi,Option.bind_some,w64_succ' (by omega),Int.toNat_natCast]
 ·rw [decide_eq_false (by omega)];rfl
theorem toConf (F:Nat)(x:GConf)(hF:2000000<F)(h:ConfBig x):M.laws_toConf F x=some x:=by
 unfold M.laws_toConf
 rw [toStrs F x.Stops hF h.1.1,Option.bind_some,toSyns F x.Syns hF h.2];rfl
theorem toFields (F:Nat)(xs:List GField)(hF:2000000<F)(hl:xs.length≤1048576):M.laws_toFieldS F xs=some xs:=by
 unfold M.laws_toFieldS
 refine to_gen F (by omega) (by omega) hl (fun i x s hx hi=>?_) fun s=>?_
 ·have hix:=(List.getElem?_eq_some_iff.1 hx).1
  have hle:=hl
  rw [decide_eq_true (by omega),cond_true,getI_nat',hx,Option.bind_some,M.laws_toField,Option.bind_some,getI_nat',List.getElem?_eq_getElem hi,Option.bind_some,w64_succ' (by omega),Int.toNat_natCast]
 ·rw [decide_eq_false (by omega)];rfl
theorem toAttrs (F:Nat)(xs:List GAttr)(hF:2000000<F)(hl:xs.length≤1048576):M.laws_toAttrS F xs=some xs:=by
 unfold M.laws_toAttrS
 refine to_gen F (by omega) (by omega) hl (fun i x s hx hi=>?_) fun s=>?_
 ·have hix:=(List.getElem?_eq_some_iff.1 hx).1
  have hle:=hl
  rw [decide_eq_true (by omega),cond_true,getI_nat',hx,Option.bind_some,M.laws_toAttr,Option.bind_some,getI_nat',List.getElem?_eq_getElem hi,Option.bind_some,w64_succ' (by omega),Int.toNat_natCast]
 ·rw [decide_eq_false (by omega)];rfl
theorem toDoc (F:Nat)(x:GDoc)(hF:2000000<F)(h:DocBig 1048576 x):M.laws_toDoc F x=some x:=by
 unfold M.laws_toDoc
 rw [toFields F x.Fields hF h.fields,Option.bind_some,toAttrs F x.Nums hF h.nums];rfl
theorem toDocs (F:Nat)(xs:List GDoc)(hF:2000000<F)(hl:xs.length≤1048576∧∀s∈xs,DocBig 1048576 s):M.laws_toDocS F xs=some xs:=by
 unfold M.laws_toDocS
 refine to_gen F (by omega) (by omega) hl.1 (fun i x s hx hi=>?_) fun s=>?_
 ·have hix:=(List.getElem?_eq_some_iff.1 hx).1
  have hle:=hl.1
  rw [decide_eq_true (by omega),cond_true,getI_nat',hx,Option.bind_some,toDoc F x hF (hl.2 x (List.mem_of_getElem? hx)),Option.bind_some,getI_nat',List.getElem?_eq_getElem hi,Option.bind_some,w64_succ' (by omega),Int.toNat_natCast]
 ·rw [decide_eq_false (by omega)];rfl
theorem toInts (F:Nat)(xs:List Int)(hF:2000000<F)(hl:xs.length≤1048576):M.laws_toIntS F xs=some xs:=by
 unfold M.laws_toIntS
 refine to_gen F (by omega) (by omega) hl (fun i x s hx hi=>?_) fun s=>?_
 ·have hix:=(List.getElem?_eq_some_iff.1 hx).1
  have hle:=hl
  rw [decide_eq_true (by omega),cond_true,getI_nat',hx,Option.bind_some,getI_nat',List.getElem?_eq_getElem hi,Option.bind_some,w64_succ' (by omega),Int.toNat_natCast]
 ·rw [decide_eq_false (by omega)];rfl
theorem toPost (F:Nat)(x:GPost)(hF:2000000<F)(h:x.At.length≤1048576):M.laws_toPost F x=some x:=by
 unfold M.laws_toPost
 rw [toInts F x.At hF h];rfl
theorem toPosts (F:Nat)(xs:List GPost)(hF:2000000<F)(hl:xs.length≤1048576∧∀s∈xs,s.At.length≤1048576):M.laws_toPostS F xs=some xs:=by
 unfold M.laws_toPostS
 refine to_gen F (by omega) (by omega) hl.1 (fun i x s hx hi=>?_) fun s=>?_
 ·have hix:=(List.getElem?_eq_some_iff.1 hx).1
  have hle:=hl.1
  rw [decide_eq_true (by omega),cond_true,getI_nat',hx,Option.bind_some,toPost F x hF (hl.2 x (List.mem_of_getElem? hx)),Option.bind_some,getI_nat',List.getElem?_eq_getElem hi,Option.bind_some,w64_succ' (by omega),Int.toNat_natCast]
 ·rw [decide_eq_false (by omega)];rfl
theorem toEntry (F:Nat)(x:GEntry)(hF:2000000<F)(h:EntryBig x):M.laws_toEntry F x=some x:=by
 unfold M.laws_toEntry
 rw [toPosts F x.Posts hF h.2.2];rfl
theorem toEntrys (F:Nat)(xs:List GEntry)(hF:2000000<F)(hl:xs.length≤1048576∧∀s∈xs,EntryBig s):M.laws_toEntryS F xs=some xs:=by
 unfold M.laws_toEntryS
 refine to_gen F (by omega) (by omega) hl.1 (fun i x s hx hi=>?_) fun s=>?_
 ·have hix:=(List.getElem?_eq_some_iff.1 hx).1
  have hle:=hl.1
  rw [decide_eq_true (by omega),cond_true,getI_nat',hx,Option.bind_some,toEntry F x hF (hl.2 x (List.mem_of_getElem? hx)),Option.bind_some,getI_nat',List.getElem?_eq_getElem hi,Option.bind_some,w64_succ' (by omega),Int.toNat_natCast]
 ·rw [decide_eq_false (by omega)];rfl
theorem toSeg (F:Nat)(x:GSeg)(hF:2000000<F)(h:SegBig x):M.laws_toSeg F x=some x:=by
 unfold M.laws_toSeg
 rw [toDocs F x.Docs hF h.1,Option.bind_some,toEntrys F x.Entries hF h.2];rfl
theorem eqStrs (F:Nat)(xs:List Str)(hF:2000000<F)(hl:xs.length≤1048576):M.laws_eqStringS F xs xs=some true:=by
 have hle:=hl
 unfold M.laws_eqStringS
 rw [beq_self_eq_true,Bool.not_true,cond_false,clean0' (n:=xs.length) F (by omega) (fun i hi=>?_) ?_]
 ·rfl
 ·rw [decide_eq_false (by omega)];rfl
 ·rw [decide_eq_true (by omega),cond_true,getI_at hi,Option.bind_some,Option.bind_some,beq_self_eq_true,w64_succ' (by omega)]
  rfl
theorem eqSyn (F:Nat)(x:GSyn)(hF:2000000<F)(h:SynBig x):M.laws_eqSyn F x x=some true:=by
 unfold M.laws_eqSyn
 rw [eqStrs F x.From hF h.1.1,Option.bind_some,beq_self_eq_true];rfl
theorem eqSyns (F:Nat)(xs:List GSyn)(hF:2000000<F)(hl:xs.length≤1048576∧∀s∈xs,SynBig s):M.laws_eqSynS F xs xs=some true:=by
 have hle:=hl.1
 unfold M.laws_eqSynS
 rw [beq_self_eq_true,Bool.not_true,cond_false,clean0' (n:=xs.length) F (by omega) (fun i hi=>?_) ?_]
 ·rfl
 ·rw [decide_eq_false (by omega)];rfl
 ·rw [decide_eq_true (by omega),cond_true,getI_at hi,Option.bind_some,Option.bind_some,eqSyn F _ hF (hl.2 _ (List.getElem_mem hi)),Option.bind_some,w64_succ' (by omega)]
  rfl
theorem eqConf (F:Nat)(x:GConf)(hF:2000000<F)(h:ConfBig x):M.laws_eqConf F x x=some true:=by
 unfold M.laws_eqConf
 rw [eqStrs F x.Stops hF h.1.1,Option.bind_some,eqSyns F x.Syns hF h.2];rfl
theorem eqField (F:Nat)(x:GField):M.laws_eqField F x x=some true:=by
 unfold M.laws_eqField
 rw [beq_self_eq_true,beq_self_eq_true];rfl
theorem eqAttr (F:Nat)(x:GAttr):M.laws_eqAttr F x x=some true:=by
 unfold M.laws_eqAttr
 rw [beq_self_eq_true,beq_self_eq_true];rfl
theorem eqFields (F:Nat)(xs:List GField)(hF:2000000<F)(hl:xs.length≤1048576):M.laws_eqFieldS F xs xs=some true:=by
 have hle:=hl
 unfold M.laws_eqFieldS
 rw [beq_self_eq_true,Bool.not_true,cond_false,clean0' (n:=xs.length) F (by omega) (fun i hi=>?_) ?_]
 ·rfl
 ·rw [decide_eq_false (by omega)];rfl
 ·rw [decide_eq_true (by omega),cond_true,getI_at hi,Option.bind_some,Option.bind_some,eqField,Option.bind_some,w64_succ' (by omega)]
  rfl
theorem eqAttrs (F:Nat)(xs:List GAttr)(hF:2000000<F)(hl:xs.length≤1048576):M.laws_eqAttrS F xs xs=some true:=by
 have hle:=hl
 unfold M.laws_eqAttrS
 rw [beq_self_eq_true,Bool.not_true,cond_false,clean0' (n:=xs.length) F (by omega) (fun i hi=>?_) ?_]
 ·rfl
 ·rw [decide_eq_false (by omega)];rfl
 ·rw [decide_eq_true (by omega),cond_true,getI_at hi,Option.bind_some,Option.bind_some,eqAttr,Option.bind_some,w64_succ' (by omega)]
  rfl
theorem eqDoc (F:Nat)(x:GDoc)(hF:2000000<F)(h:DocBig 1048576 x):M.laws_eqDoc F x x=some true:=by
 unfold M.laws_eqDoc
 rw [beq_self_eq_true,eqFields F x.Fields hF h.fields,Option.bind_some,eqAttrs F x.Nums hF h.nums];rfl
theorem eqDocs (F:Nat)(xs:List GDoc)(hF:2000000<F)(hl:xs.length≤1048576∧∀s∈xs,DocBig 1048576 s):M.laws_eqDocS F xs xs=some true:=by
 have hle:=hl.1
 unfold M.laws_eqDocS
 rw [beq_self_eq_true,Bool.not_true,cond_false,clean0' (n:=xs.length) F (by omega) (fun i hi=>?_) ?_]
 ·rfl
 ·rw [decide_eq_false (by omega)];rfl
 ·rw [decide_eq_true (by omega),cond_true,getI_at hi,Option.bind_some,Option.bind_some,eqDoc F _ hF (hl.2 _ (List.getElem_mem hi)),Option.bind_some,w64_succ' (by omega)]
  rfl
theorem eqInts (F:Nat)(xs:List Int)(hF:2000000<F)(hl:xs.length≤1048576):M.laws_eqIntS F xs xs=some true:=by
 have hle:=hl
 unfold M.laws_eqIntS
 rw [beq_self_eq_true,Bool.not_true,cond_false,clean0' (n:=xs.length) F (by omega) (fun i hi=>?_) ?_]
 ·rfl
 ·rw [decide_eq_false (by omega)];rfl
 ·rw [decide_eq_true (by omega),cond_true,getI_at hi,Option.bind_some,Option.bind_some,beq_self_eq_true,w64_succ' (by omega)]
  rfl
theorem eqPost (F:Nat)(x:GPost)(hF:2000000<F)(h:x.At.length≤1048576):M.laws_eqPost F x x=some true:=by
 unfold M.laws_eqPost
 rw [beq_self_eq_true,eqInts F x.At hF h];rfl
theorem eqPosts (F:Nat)(xs:List GPost)(hF:2000000<F)(hl:xs.length≤1048576∧∀s∈xs,s.At.length≤1048576):M.laws_eqPostS F xs xs=some true:=by
 have hle:=hl.1
 unfold M.laws_eqPostS
 rw [beq_self_eq_true,Bool.not_true,cond_false,clean0' (n:=xs.length) F (by omega) (fun i hi=>?_) ?_]
 ·rfl
 ·rw [decide_eq_false (by omega)];rfl
 ·rw [decide_eq_true (by omega),cond_true,getI_at hi,Option.bind_some,Option.bind_some,eqPost F _ hF (hl.2 _ (List.getElem_mem hi)),Option.bind_some,w64_succ' (by omega)]
  rfl
theorem eqEntry (F:Nat)(x:GEntry)(hF:2000000<F)(h:EntryBig x):M.laws_eqEntry F x x=some true:=by
 unfold M.laws_eqEntry
 rw [beq_self_eq_true,beq_self_eq_true,eqPosts F x.Posts hF h.2.2];rfl
theorem eqEntrys (F:Nat)(xs:List GEntry)(hF:2000000<F)(hl:xs.length≤1048576∧∀s∈xs,EntryBig s):M.laws_eqEntryS F xs xs=some true:=by
 have hle:=hl.1
 unfold M.laws_eqEntryS
 rw [beq_self_eq_true,Bool.not_true,cond_false,clean0' (n:=xs.length) F (by omega) (fun i hi=>?_) ?_]
 ·rfl
 ·rw [decide_eq_false (by omega)];rfl
 ·rw [decide_eq_true (by omega),cond_true,getI_at hi,Option.bind_some,Option.bind_some,eqEntry F _ hF (hl.2 _ (List.getElem_mem hi)),Option.bind_some,w64_succ' (by omega)]
  rfl
theorem eqSeg (F:Nat)(x:GSeg)(hF:2000000<F)(h:SegBig x):M.laws_eqSeg F x x=some true:=by
 unfold M.laws_eqSeg
 rw [eqDocs F x.Docs hF h.1,Option.bind_some,eqEntrys F x.Entries hF h.2];rfl
theorem ConfBig.fit {c:GConf}(h:ConfBig c):ConfFit 1048576 c:=⟨h.1,h.2.1,fun r hr=>⟨(h.2.2 r hr).1.1,(h.2.2 r hr).2,(h.2.2 r hr).1.2⟩⟩
end Go.Fk
set_option linter.unusedVariables false
namespace Go.Fk
open Go
def LiveLen (l:GLive):Prop:=SegLen l.Seg∧l.Dead.length≤maxLen
def LiveBig (l:GLive):Prop:=SegBig l.Seg∧l.Dead.length≤1048576
def IndexBig (x:GIndex):Prop:=ConfBig x.Conf∧x.Segs.length≤1048576∧∀l∈x.Segs,LiveBig l
theorem szLive (F:Nat)(x:GLive)(left:Int)(h0:0≤left)(h1:left≤1048576)(hF:2000000<F)(hl:LiveLen x):Sz (LiveBig x) left (M.laws_szLive F x left):=by
 unfold M.laws_szLive
 exact sz_then (szSeg F x.Seg left h0 h1 hF hl.1) fun r r0 r1 _=>(sz_keep (sz_str (left:=r) r0 (by omega) hl.2)).le r1
theorem toLive (F:Nat)(x:GLive)(hF:2000000<F)(h:LiveBig x):M.laws_toLive F x=some x:=by
 unfold M.laws_toLive
 rw [toSeg F x.Seg hF h.1,Option.bind_some,toInts F x.Dead hF h.2];rfl
theorem eqLive (F:Nat)(x:GLive)(hF:2000000<F)(h:LiveBig x):M.laws_eqLive F x x=some true:=by
 unfold M.laws_eqLive
 rw [eqSeg F x.Seg hF h.1,Option.bind_some,eqInts F x.Dead hF h.2];rfl
end Go.Fk
set_option linter.unusedVariables false
namespace Go.Fk
open Go
theorem spec_18Ok (F:Nat)(x:GIndex)(hx:IndexBig x)(hF:5000000<F):M.spec_l18Ok F x=some (indexS x):=
 spec_18OkD F x ⟨hx.1.fit,hx.2.1,fun l hl=>⟨(hx.2.2 l hl).1.1,(hx.2.2 l hl).2⟩⟩ hF
end Go.Fk
