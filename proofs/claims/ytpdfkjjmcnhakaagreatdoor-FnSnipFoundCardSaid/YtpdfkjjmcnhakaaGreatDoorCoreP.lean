/-
  Packs of items; what a callee is lent of what lies in items; rows that go into K. Of no program.
-/
import Derived.Test.YtpdfkjjmcnhakaaGreatDoorCoreMZ
namespace Go.Fk
open Go
set_option linter.unusedSectionVars false
variable [dr:Dr]
def a4s (ls:List B8):B8:=
 ⟨ls.flatMap B8.gs,∀it∈ls,it.side,fun H K=>∀it∈ls,it.ok H K,fun h h1 it hi=>it.loc (fun b hb=>h b (List.mem_flatMap.2 ⟨it,hi,hb⟩)) (h1 it hi)⟩
section
variable {w w0 w':World}{K K0 K' Kin:C7}{M:List Nat}{L ls Lin Lfr:List B8}
theorem SH.unpack (h:SH w0 K0 M w K (a4s ls::L)):SH w0 K0 M w K (ls++L):=
 ⟨h.os,h.tape,h.output,h.holds,h.le,h.size,h.old,h.oldK,fun it hi=>by
  rcases List.mem_append.1 hi with hi | hi
  ·have h1:=h.items _ (List.mem_cons_self ..)
   exact⟨h1.1 it hi,h1.2 it hi⟩
  ·exact h.items it (List.mem_cons_of_mem _ hi),fun it hi b hb=>by
  rcases List.mem_append.1 hi with hi | hi
  ·exact h.lt _ (List.mem_cons_self ..) b (List.mem_flatMap.2 ⟨it,hi,hb⟩)
  ·exact h.lt it (List.mem_cons_of_mem _ hi) b hb,by
  have:=h.nodup
  rw [List.flatMap_cons] at this
  rw [List.flatMap_append];exact this,h.drawn⟩
theorem SH.packUp (h:SH w0 K0 M w K (ls++L)):SH w0 K0 M w K (a4s ls::L):=
 ⟨h.os,h.tape,h.output,h.holds,h.le,h.size,h.old,h.oldK,fun it hi=>by
  rcases List.mem_cons.1 hi with rfl | hi
  ·exact⟨fun i hi=>(h.items i (List.mem_append_left _ hi)).1,fun i hi=>(h.items i (List.mem_append_left _ hi)).2⟩
  ·exact h.items it (List.mem_append_right _ hi),fun it hi b hb=>by
  rcases List.mem_cons.1 hi with rfl | hi
  ·obtain⟨i,hi,hb⟩:=List.mem_flatMap.1 hb
   exact h.lt i (List.mem_append_left _ hi) b hb
  ·exact h.lt it (List.mem_append_right _ hi) b hb,by
  have:=h.nodup
  rw [List.flatMap_append] at this
  rw [List.flatMap_cons];exact this,h.drawn⟩
def a6Q (K:C7)(w:World)(gs:List Nat):C7:=fun b o=>if b∈gs then w.cell? ⟨b,o,none⟩ else K b o
theorem b20 {gs:List Nat}{b o:Nat}(h:b∈gs):a6Q K w gs b o=w.cell? ⟨b,o,none⟩:=if_pos h
theorem a6h {gs:List Nat}{b:Nat}(h:b∉gs):a6Q K w gs b=K b:=by funext o;exact if_neg h
theorem a80 {gs:List Nat}(hH:F0 K w):H7 K (a6Q K w gs):=fun b o v e=>by
 by_cases hb:b∈gs
 ·rw [b20 hb];exact hH b o v e
 ·rw [a6h hb];exact e
theorem a92 {gs:List Nat}(hH:F0 K w):F0 (a6Q K w gs) w:=fun b o v e=>by
 by_cases hb:b∈gs
 ·rw [b20 hb] at e;exact e
 ·rw [a6h hb] at e;exact hH b o v e
theorem SH.see (h:SH w0 K0 M w K (ls++L)):SH w0 K0 M w (a6Q K w (ls.flatMap B8.gs)) L:=by
 have hnd:=h.nodup
 rw [List.flatMap_append,List.nodup_append] at hnd
 have hlt: ∀b∈ls.flatMap B8.gs,w0.heap.size≤b∨b∈M:=fun b hb=>by
  obtain⟨it,hi,hb⟩:=List.mem_flatMap.1 hb
  exact(h.lt it (List.mem_append_left _ hi) b hb).2
 refine⟨h.os,h.tape,h.output,a92 h.holds,h.le.trans (a80 h.holds),h.size,h.old,fun b hb hm=>?_,fun it hi=>?_,fun it hi=>h.lt it (List.mem_append_right _ hi),hnd.2.1,h.drawn⟩
 ·rw [a6h (fun hg=>(hlt b hg).elim (fun h1=>by omega) hm)];exact h.oldK b hb hm
 ·have h1:=h.items it (List.mem_append_right _ hi)
  exact⟨h1.1,it.loc (fun b hb=>⟨rfl,(a6h (fun hg=>hnd.2.2 b hg b (List.mem_flatMap.2 ⟨it,hi,hb⟩) rfl)).symm⟩) h1.2⟩
theorem SH.lend (h:SH w0 K0 M w K (Lin++Lfr))(hK:F0 Kin w)(hon: ∀it∈Lin,it.on w Kin):SH w Kin (Lin.flatMap B8.gs) w Kin Lin where
 os:=rfl
 tape:=rfl
 output:=rfl
 holds:=hK
 le:=.refl _
 size:=Nat.le_refl _
 drawn:=fun _=>Nat.le_refl _
 old:=fun _ _ _=>rfl
 oldK:=fun _ _ _=>rfl
 items:=hon
 lt:=fun it hi b hb=>⟨(h.lt it (List.mem_append_left _ hi) b hb).1,.inr (List.mem_flatMap.2 ⟨it,hi,hb⟩)⟩
 nodup:=by
  have:=h.nodup
  rw [List.flatMap_append] at this
  exact(List.nodup_append.1 this).1
theorem SH.lent {Lout:List B8}(h:SH w0 K0 M w K (Lin++Lfr))(hle:H7 K Kin)(hc:SH w Kin (Lin.flatMap B8.gs) w' K' Lout)(hgs:Lout.flatMap B8.gs=Lin.flatMap B8.gs)(hon: ∀it∈Lout,it.on w' K):SH w0 K0 M w' K (Lout++Lfr):=by
 have hnd:=h.nodup
 rw [List.flatMap_append,List.nodup_append] at hnd
 have hin: ∀b,b∈Lin.flatMap B8.gs→b<w.heap.size∧(w0.heap.size≤b∨b∈M):=fun b hb=>by
  obtain⟨it,hi,e⟩:=List.mem_flatMap.1 hb
  exact h.lt it (List.mem_append_left _ hi) b e
 refine⟨hc.os.trans h.os,hc.tape.trans h.tape,hc.output.trans h.output,fun b o v e=>hc.holds b o v (hc.le b o v (hle b o v e)),h.le,Nat.le_trans h.size hc.size,fun b hb hm=>?_,h.oldK,fun it hi=>?_,fun it hi b hb=>?_,?_,fun d=>Nat.le_trans (h.drawn d) (hc.drawn d)⟩
 ·have hnot:b∉Lin.flatMap B8.gs:=fun hm2=>(hin b hm2).2.elim (fun h1=>by omega) hm
  rw [hc.old b (Nat.lt_of_lt_of_le hb h.size) hnot];exact h.old b hb hm
 ·rcases List.mem_append.1 hi with hi | hi
  ·exact hon it hi
  ·have h1:=h.items it (List.mem_append_right _ hi)
   refine⟨h1.1,it.loc (fun b hb=>⟨?_,rfl⟩) h1.2⟩
   have hlt:=(h.lt it (List.mem_append_right _ hi) b hb).1
   exact(hc.old b hlt (fun hm=>hnd.2.2 b hm b (List.mem_flatMap.2 ⟨it,hi,hb⟩) rfl)).symm
 ·rcases List.mem_append.1 hi with hi | hi
  ·have:=hin b (hgs▸List.mem_flatMap.2 ⟨it,hi,hb⟩)
   exact⟨Nat.lt_of_lt_of_le this.1 hc.size,this.2⟩
  ·have:=h.lt it (List.mem_append_right _ hi) b hb
   exact⟨Nat.lt_of_lt_of_le this.1 hc.size,this.2⟩
 ·rw [List.flatMap_append,hgs,←List.flatMap_append];exact h.nodup
theorem b56 {g:Nat}{cs:List Value}{T:TypeId}(h:(r5 g cs T).on w K')(hle:H7 K K'):(r5 g cs T).on w K:=
 ⟨h.1,fun b hb=>⟨(h.2 b hb).1,fun i=>by
  cases e:K b i with
  | none=>rfl
  | some v=>have:=hle b i v e;rw [(h.2 b hb).2 i] at this;cases this⟩⟩
theorem b3E {g:Nat}{cs:List Value}{T:TypeId}{gs:List Nat}(h:(r5 g cs T).on w K)(hg:g∉gs):(r5 g cs T).on w (a6Q K w gs):=
 ⟨h.1,fun b hb=>by cases hb;exact⟨(h.2 g rfl).1,fun i=>by rw [a6h hg];exact(h.2 g rfl).2 i⟩⟩
theorem a6R {α:Type}{t:Ty α}{a:Option Addr}{n c:Nat}{cs:List Value}{xs:List α}{U:TypeId}{gs:List Nat}(h:SH w0 K0 M w K L)(hm:N0 (.slice a n c) cs U t.size∈L)(hgs: ∀b∈(N0 (.slice a n c) cs U t.size).gs,b∈gs)(hpos:0<t.size)
  (hr:A9 true t (a6Q K w gs) cs xs):b7 t (a6Q K w gs) a n c xs∧n=xs.length:=by
 have hcl:=hr.1.2 rfl
 rcases h.rowI_cases hm with ⟨rfl,rfl,rfl,rfl⟩ | ⟨g,cur,rfl,h1,h2,h3,h4,h5,h6,h7⟩
 ·have:xs=[]:=by
   cases xs with
   | nil=>rfl
   | cons x r=>simp [Nat.add_mul] at hcl;omega
  subst this
  exact⟨.nil t _,rfl⟩
 ·have hn:n=xs.length:=by
   rw [h3] at hcl
   exact Nat.eq_of_mul_eq_mul_right hpos hcl
  refine⟨b7.of_cells hn h1 h2 (fun i z hz=>?_),hn⟩
  obtain⟨u,hu,hk⟩:=hr.2.2 i z hz
  refine⟨u,hu,fun j d e=>?_⟩
  rw [b20 (hgs g (by simp [N0,one,Value.ownBlock]))]
  exact h.row_cell hm (hk j d e)
theorem A9.flatMap {α β:Type}{t:Ty α}{cells:β→List Value}{f:β→α}: ∀{ps:List β},(∀p∈ps,∃u,t.rel K u (f p)∧u.cells.toList=cells p)→A9 true t K (ps.flatMap cells) (ps.map f)
 | [],_=>A9.nil t K
 | p::ps,h=>by
  obtain⟨u,hu,e⟩:=h p (List.mem_cons_self ..)
  have ih:=A9.flatMap (t:=t) (cells:=cells) (f:=f) (ps:=ps) fun q hq=>h q (List.mem_cons_of_mem _ hq)
  have hl:(cells p).length=t.size:=by rw [←e];simpa using t.size_eq hu
  have h1:A9 true t K (cells p) [f p]:=⟨⟨by simp [hl],fun _=>by simp [hl]⟩,fun c hc=>t.ones hu c (by rw [e];exact hc),fun i z hz=>by
   cases i with
   | zero=>simp at hz;subst hz;exact⟨u,hu,fun j d e'=>by rw [Nat.zero_mul,Nat.zero_add,←e];exact e'⟩
   | succ i=>simp at hz⟩
  have h2:=h1.append (news:=ps.flatMap cells) (ys:=ps.map f) (by rw [ih.1.2 rfl]) ih.2.1 ih.2.2
  simpa using h2
end
end Go.Fk
