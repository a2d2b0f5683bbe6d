/-
  The decimal numeral: the reference's figures are the library's. Of no program.
-/
import Derived.Test.YtpdfkjjmcnhakaaGreatDoorLawKeep
import Derived.Test.YtpdfkjjmcnhakaaGreatDoorModel
import Derived.Lib.ItoaNum
set_option linter.unusedVariables false
namespace Go.Fk
open Go
theorem byte_dig: ∀m:Nat,m<10→byteOfI (w64 (48+(m:Int)))=UInt8.ofNat (48+m):=by decide +kernel
theorem itoa_nat (n:Nat):Lib.itoa (n:Int)=Lib.decDigits n:=by
 unfold Lib.itoa
 rw [if_neg (by omega),Int.toNat_natCast]
theorem dec_ok: ∀(k n F:Nat),n<10 ^ (k+1)→k≤15→k<F→M.spec_l1Dec F (n:Int)=some (Lib.itoa (n:Int))∧(Lib.itoa (n:Int)).length≤k+1
 | k,n,F,hn,hk,hF=>by
  obtain⟨F,rfl⟩: ∃G,F=G+1:=⟨F-1,by omega⟩
  have hp:10 ^ (k+1)≤10 ^ 16:=Nat.pow_le_pow_right (by decide) (by omega)
  have hb:n<10000000000000000:=Nat.lt_of_lt_of_le hn hp
  unfold M.spec_l1Dec
  rw [decide_eq_false (by omega),cond_false,decide_eq_false (by omega),cond_false,itoa_nat]
  by_cases h:n<10
  ·rw [decide_eq_true (by omega),cond_true,Lib.decDigits,dif_pos h,byte_dig n h]
   exact⟨rfl,by simp⟩
  ·cases k with
   | zero=>simp at hn;omega
   | succ k=>
    obtain⟨e,hl⟩:=dec_ok k (n/10) F (by rw [Nat.pow_succ] at hn;omega) (by omega) (by omega)
    have h1:quoI (n:Int) 10=some ((n/10:Nat):Int):=by
     unfold quoI
     rw [if_neg (by decide),Int.tdiv_eq_ediv_of_nonneg (by omega),w64_of ⟨by omega,by omega⟩]
     congr 1
    have h2:remI (n:Int) 10=some ((n%10:Nat):Int):=by
     unfold remI
     rw [if_neg (by decide),Int.tmod_eq_emod_of_nonneg (by omega)]
     congr 1
    rw [itoa_nat] at e hl
    have hm:n%10<10:=Nat.mod_lt _ (by decide)
    rw [decide_eq_false (by omega),cond_false,h1,Option.bind_some,h2,Option.bind_some,e,Option.bind_some,byte_dig _ hm]
    have hlen:(Lib.decDigits (n/10)).length+[UInt8.ofNat (48+n%10)].length≤maxLen:=by
     have:(20:Nat)≤maxLen:=by decide
     simp only [List.length_singleton];omega
    have hd:Lib.decDigits n=Lib.decDigits (n/10)++[UInt8.ofNat (48+n%10)]:=by rw [Lib.decDigits,dif_neg h]
    unfold catS
    rw [if_pos hlen,hd]
    exact⟨rfl,by rw [List.length_append,List.length_singleton];omega⟩
end Go.Fk
