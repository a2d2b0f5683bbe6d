/-
  Closed facts on the program's tables. Printed by gen.py.
-/
import Derived.Test.YtepcfgnicnibnaaModel
import Derived.Test.YtepcfgnicnibnaaChecked
import Derived.KernelRfl
import Derived.Test.YtepcfgnicnibnaaCoreMx
import Derived.Test.YtepcfgnicnibnaaCoreYa
namespace Go.Proofs.Ytepcfgnicnibnaa
open Go Go.Fk Try
theorem mixed:prog.follows .mixedOrders=true:=by kernel_rfl
theorem tf3:TF prog 3 1 false (.int .i64 0) 8:=t_w
theorem tf4:TF prog 4 1 false (.bool false) 1:=t_w
theorem tf5:TF prog 5 1 false (.int .u8 0) 1:=t_w
theorem tf9:TF prog 9 1 false (.string ⟨#[]⟩) 16:=t_w
theorem tf35:TF prog 35 1 false (.slice none 0 0) 24:=t_w
theorem tf37:TF prog 37 1 false (.slice none 0 0) 24:=t_w
theorem tf69:TF prog 69 1 false (.slice none 0 0) 24:=t_w
theorem tf71:TF prog 71 3 true (.agg #[.bool false,.int .i64 0,.slice none 0 0]) 40:=t_w
theorem tf76:TF prog 76 1 false (.slice none 0 0) 24:=t_w
theorem tf78:TF prog 78 3 true (.agg #[.bool false,.int .i64 0,.slice none 0 0]) 40:=t_w
theorem tf90:TF prog 90 1 true (.agg #[.slice none 0 0]) 24:=t_w
theorem tf116:TF prog 116 2 true (.agg #[.int .u8 0,.int .i64 0]) 16:=t_w
theorem tf121:TF prog 121 4 true (.agg #[.slice none 0 0,.slice none 0 0,.int .i64 0,.bool false]) 64:=t_w
theorem tf146:TF prog 146 2 true (.agg #[.int .u8 0,.int .i64 0]) 16:=t_w
theorem ff71_0:FF prog 71 0 0:=f_w
theorem ff71_1:FF prog 71 1 1:=f_w
theorem ff71_2:FF prog 71 2 2:=f_w
theorem ff78_0:FF prog 78 0 0:=f_w
theorem ff78_1:FF prog 78 1 1:=f_w
theorem ff78_2:FF prog 78 2 2:=f_w
theorem ff90_0:FF prog 90 0 0:=f_w
theorem ff116_0:FF prog 116 0 0:=f_w
theorem ff116_1:FF prog 116 1 1:=f_w
theorem ff121_0:FF prog 121 0 0:=f_w
theorem ff121_1:FF prog 121 1 1:=f_w
theorem ff121_2:FF prog 121 2 2:=f_w
theorem ff121_3:FF prog 121 3 3:=f_w
theorem ff146_0:FF prog 146 0 0:=f_w
theorem ff146_1:FF prog 146 1 1:=f_w
theorem sp78:SPlaces prog 78=some [(0,1),(1,1),(2,1)]:=by kernel_rfl
theorem sp90:SPlaces prog 90=some [(0,1)]:=by kernel_rfl
theorem sp116:SPlaces prog 116=some [(0,1),(1,1)]:=by kernel_rfl
theorem sp121:SPlaces prog 121=some [(0,1),(1,1),(2,1),(3,1)]:=by kernel_rfl
theorem eqg116:prog.eqGuardType prog.depth 116=false:=by kernel_rfl
theorem fo116:(prog.fieldsOf 116).toList=[⟨ "Byte",5,0,false,"","",0⟩,⟨ "To",3,1,false,"","",8⟩]:=by kernel_rfl
theorem eqs116 (a0:UInt8)(a1:Int)(b0:UInt8)(b1:Int)(w:World):(Op.equalIn 10000 116 (.agg #[iv8 a0,.int .i64 a1]) (.agg #[iv8 b0,.int .i64 b1])).run prog w= .ok ((a0==b0)&&((a1==b1))) w:=by
 have h:(Op.eqFields 9999 #[iv8 a0,.int .i64 a1] #[iv8 b0,.int .i64 b1] (prog.fieldsOf 116).toList).run prog w= .ok ((a0==b0)&&((a1==b1)&&(true))) w:=by
  rw [fo116]
  exact(eqF_cons (by decide) (part_one w Try.underlying5 rfl rfl) (part_one w Try.underlying5 rfl rfl) (eqIn_8 9998 w a0 b0 Try.underlying5) (eqF_cons (by decide) (part_one w Try.underlying3 rfl rfl) (part_one w Try.underlying3 rfl rfl) (eqIn_i 9998 w a1 b1 Try.underlying3) (eqF_nil 9999 _ _ w)))
 rw [run_equalIn_struct w 9999 116 _ _ (by kernel_rfl) (by kernel_rfl),h]
 simp only [Bool.and_true]
theorem co16:CallOk prog 16:=c_w func16
theorem co17:CallOk prog 17:=c_w func17
theorem co18:CallOk prog 18:=c_w func18
theorem co19:CallOk prog 19:=c_w func19
theorem co20:CallOk prog 20:=c_w func20
theorem co21:CallOk prog 21:=c_w func21
theorem co22:CallOk prog 22:=c_w func22
theorem co23:CallOk prog 23:=c_w func23
theorem co24:CallOk prog 24:=c_w func24
theorem co28:CallOk prog 28:=c_w func28
theorem co38:CallOk prog 38:=c_w func38
theorem co43:CallOk prog 43:=c_w func43
theorem co48:CallOk prog 48:=c_w func48
theorem co49:CallOk prog 49:=c_w func49
theorem co50:CallOk prog 50:=c_w func50
theorem co51:CallOk prog 51:=c_w func51
theorem co52:CallOk prog 52:=c_w func52
theorem co53:CallOk prog 53:=c_w func53
theorem co54:CallOk prog 54:=c_w func54
theorem co55:CallOk prog 55:=c_w func55
theorem co56:CallOk prog 56:=c_w func56
theorem co57:CallOk prog 57:=c_w func57
theorem co58:CallOk prog 58:=c_w func58
theorem co59:CallOk prog 59:=c_w func59
theorem co60:CallOk prog 60:=c_w func60
theorem co61:CallOk prog 61:=c_w func61
theorem co81:CallOk prog 81:=c_w func81
theorem co82:CallOk prog 82:=c_w func82
theorem co83:CallOk prog 83:=c_w func83
theorem co84:CallOk prog 84:=c_w func84
theorem co85:CallOk prog 85:=c_w func85
theorem co86:CallOk prog 86:=c_w func86
theorem co87:CallOk prog 87:=c_w func87
theorem co88:CallOk prog 88:=c_w func88
theorem co89:CallOk prog 89:=c_w func89
theorem co90:CallOk prog 90:=c_w func90
theorem co91:CallOk prog 91:=c_w func91
theorem co92:CallOk prog 92:=c_w func92
theorem co106:CallOk prog 106:=c_w func106
theorem co107:CallOk prog 107:=c_w func107
theorem co108:CallOk prog 108:=c_w func108
theorem co109:CallOk prog 109:=c_w func109
theorem co110:CallOk prog 110:=c_w func110
theorem co111:CallOk prog 111:=c_w func111
theorem co131:CallOk prog 131:=c_w func131
end Go.Proofs.Ytepcfgnicnibnaa
