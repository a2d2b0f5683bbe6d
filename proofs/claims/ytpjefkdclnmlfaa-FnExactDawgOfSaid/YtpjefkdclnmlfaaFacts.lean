/-
  Closed facts on the program's tables. Printed by gen.py.
-/
import Derived.Test.YtpjefkdclnmlfaaModel
import Derived.Test.YtpjefkdclnmlfaaChecked
import Derived.KernelRfl
import Derived.Test.YtpjefkdclnmlfaaOwnS
import Derived.Test.YtpjefkdclnmlfaaCoreMm
import Derived.Test.YtpjefkdclnmlfaaCoreYa
namespace Go.Proofs.Ytpjefkdclnmlfaa
open Go Go.Fk Try
theorem mixed:prog.follows .mixedOrders=true:=by kernel_rfl
theorem tf3:TF prog 3 1 false (.int .i64 0) 8:=t_w
theorem tf4:TF prog 4 1 false (.bool false) 1:=t_w
theorem tf5:TF prog 5 1 false (.int .u8 0) 1:=t_w
theorem tf9:TF prog 9 1 false (.string ⟨#[]⟩) 16:=t_w
theorem tf24:TF prog 24 1 false (.slice none 0 0) 24:=t_w
theorem tf43:TF prog 43 1 true (.agg #[.slice none 0 0]) 24:=t_w
theorem tf46:TF prog 46 1 false (.slice none 0 0) 24:=t_w
theorem tf48:TF prog 48 3 true (.agg #[.bool false,.int .i64 0,.slice none 0 0]) 40:=t_w
theorem tf70:TF prog 70 2 true (.agg #[.int .u8 0,.int .i64 0]) 16:=t_w
theorem ff43_0:FF prog 43 0 0:=f_w
theorem ff48_0:FF prog 48 0 0:=f_w
theorem ff48_1:FF prog 48 1 1:=f_w
theorem ff48_2:FF prog 48 2 2:=f_w
theorem ff70_0:FF prog 70 0 0:=f_w
theorem ff70_1:FF prog 70 1 1:=f_w
theorem sp43:SPlaces prog 43=some [(0,1)]:=by kernel_rfl
theorem sp48:SPlaces prog 48=some [(0,1),(1,1),(2,1)]:=by kernel_rfl
theorem sp70:SPlaces prog 70=some [(0,1),(1,1)]:=by kernel_rfl
theorem eqg70:prog.eqGuardType prog.depth 70=false:=by kernel_rfl
theorem fo70:(prog.fieldsOf 70).toList=[⟨ "Byte",5,0,false,"","",0⟩,⟨ "To",3,1,false,"","",8⟩]:=by kernel_rfl
theorem eqs70 (a0:UInt8)(a1:Int)(b0:UInt8)(b1:Int)(w:World):(Op.equalIn 10000 70 (.agg #[iv8 a0,.int .i64 a1]) (.agg #[iv8 b0,.int .i64 b1])).run prog w= .ok ((a0==b0)&&((a1==b1))) w:=by
 have h:(Op.eqFields 9999 #[iv8 a0,.int .i64 a1] #[iv8 b0,.int .i64 b1] (prog.fieldsOf 70).toList).run prog w= .ok ((a0==b0)&&((a1==b1)&&(true))) w:=by
  rw [fo70]
  exact(eqF_cons (by decide) (part_one w Try.underlying5 rfl rfl) (part_one w Try.underlying5 rfl rfl) (eqIn_8 9998 w a0 b0 Try.underlying5) (eqF_cons (by decide) (part_one w Try.underlying3 rfl rfl) (part_one w Try.underlying3 rfl rfl) (eqIn_i 9998 w a1 b1 Try.underlying3) (eqF_nil 9999 _ _ w)))
 rw [run_equalIn_struct w 9999 70 _ _ (by kernel_rfl) (by kernel_rfl),h]
 simp only [Bool.and_true]
theorem co5:CallOk prog 5:=c_w func5
theorem co6:CallOk prog 6:=c_w func6
theorem co7:CallOk prog 7:=c_w func7
theorem co8:CallOk prog 8:=c_w func8
theorem co9:CallOk prog 9:=c_w func9
theorem co10:CallOk prog 10:=c_w func10
theorem co11:CallOk prog 11:=c_w func11
theorem co12:CallOk prog 12:=c_w func12
theorem co13:CallOk prog 13:=c_w func13
theorem co21:CallOk prog 21:=c_w func21
theorem co22:CallOk prog 22:=c_w func22
theorem co23:CallOk prog 23:=c_w func23
theorem co24:CallOk prog 24:=c_w func24
theorem co25:CallOk prog 25:=c_w func25
theorem co26:CallOk prog 26:=c_w func26
theorem co27:CallOk prog 27:=c_w func27
theorem co28:CallOk prog 28:=c_w func28
theorem co31:CallOk prog 31:=c_w func31
theorem co42:CallOk prog 42:=c_w func42
theorem co43:CallOk prog 43:=c_w func43
theorem co44:CallOk prog 44:=c_w func44
theorem co45:CallOk prog 45:=c_w func45
theorem co46:CallOk prog 46:=c_w func46
theorem co53:CallOk prog 53:=c_w func53
theorem co56:CallOk prog 56:=c_w func56
theorem co57:CallOk prog 57:=c_w func57
theorem co58:CallOk prog 58:=c_w func58
theorem co59:CallOk prog 59:=c_w func59
theorem co60:CallOk prog 60:=c_w func60
theorem co69:CallOk prog 69:=c_w func69
end Go.Proofs.Ytpjefkdclnmlfaa
