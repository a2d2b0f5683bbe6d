/-
  Closed facts on the program's tables. Printed by gen.py.
-/
import Derived.Test.YtpjefkdclnmlfaaModel
import Derived.Test.YtpjefkdclnmlfaaChecked
import Derived.KernelRfl
import Derived.Test.YtpjefkdclnmlfaaOwnD
import Derived.Test.YtpjefkdclnmlfaaCoreMm
import Derived.Test.YtpjefkdclnmlfaaCoreYa
namespace Go.Proofs.Ytpjefkdclnmlfaa
open Go Go.Fk Try
theorem mixed:prog.follows .mixedOrders=true:=by kernel_rfl
theorem tf3:TF prog 3 1 false (.int .i64 0) 8:=t_w
theorem tf5:TF prog 5 1 false (.int .u8 0) 1:=t_w
theorem tf9:TF prog 9 1 false (.string ⟨#[]⟩) 16:=t_w
theorem tf52:TF prog 52 1 false (.slice none 0 0) 24:=t_w
theorem tf53:TF prog 53 1 false (.slice none 0 0) 24:=t_w
theorem tf55:TF prog 55 3 true (.agg #[.int .i64 0,.slice none 0 0,.slice none 0 0]) 56:=t_w
theorem tf58:TF prog 58 1 false (.slice none 0 0) 24:=t_w
theorem tf59:TF prog 59 1 false (.slice none 0 0) 24:=t_w
theorem tf61:TF prog 61 3 true (.agg #[.int .i64 0,.slice none 0 0,.slice none 0 0]) 56:=t_w
theorem tf82:TF prog 82 2 true (.agg #[.string ⟨#[]⟩,.string ⟨#[]⟩]) 32:=t_w
theorem tf84:TF prog 84 2 true (.agg #[.string ⟨#[]⟩,.int .i64 0]) 24:=t_w
theorem tf88:TF prog 88 2 true (.agg #[.string ⟨#[]⟩,.string ⟨#[]⟩]) 32:=t_w
theorem tf90:TF prog 90 2 true (.agg #[.string ⟨#[]⟩,.int .i64 0]) 24:=t_w
theorem ff55_0:FF prog 55 0 0:=f_w
theorem ff55_1:FF prog 55 1 1:=f_w
theorem ff55_2:FF prog 55 2 2:=f_w
theorem ff61_0:FF prog 61 0 0:=f_w
theorem ff61_1:FF prog 61 1 1:=f_w
theorem ff61_2:FF prog 61 2 2:=f_w
theorem ff82_0:FF prog 82 0 0:=f_w
theorem ff82_1:FF prog 82 1 1:=f_w
theorem ff84_0:FF prog 84 0 0:=f_w
theorem ff84_1:FF prog 84 1 1:=f_w
theorem ff88_0:FF prog 88 0 0:=f_w
theorem ff88_1:FF prog 88 1 1:=f_w
theorem ff90_0:FF prog 90 0 0:=f_w
theorem ff90_1:FF prog 90 1 1:=f_w
theorem sp61:SPlaces prog 61=some [(0,1),(1,1),(2,1)]:=by kernel_rfl
theorem co14:CallOk prog 14:=c_w func14
theorem co15:CallOk prog 15:=c_w func15
theorem co16:CallOk prog 16:=c_w func16
theorem co17:CallOk prog 17:=c_w func17
theorem co18:CallOk prog 18:=c_w func18
theorem co19:CallOk prog 19:=c_w func19
theorem co20:CallOk prog 20:=c_w func20
theorem co26:CallOk prog 26:=c_w func26
theorem co29:CallOk prog 29:=c_w func29
theorem co30:CallOk prog 30:=c_w func30
theorem co31:CallOk prog 31:=c_w func31
theorem co32:CallOk prog 32:=c_w func32
theorem co33:CallOk prog 33:=c_w func33
theorem co34:CallOk prog 34:=c_w func34
theorem co35:CallOk prog 35:=c_w func35
theorem co36:CallOk prog 36:=c_w func36
theorem co37:CallOk prog 37:=c_w func37
theorem co38:CallOk prog 38:=c_w func38
theorem co39:CallOk prog 39:=c_w func39
theorem co40:CallOk prog 40:=c_w func40
theorem co41:CallOk prog 41:=c_w func41
theorem co42:CallOk prog 42:=c_w func42
theorem co47:CallOk prog 47:=c_w func47
theorem co48:CallOk prog 48:=c_w func48
theorem co49:CallOk prog 49:=c_w func49
theorem co50:CallOk prog 50:=c_w func50
theorem co51:CallOk prog 51:=c_w func51
theorem co52:CallOk prog 52:=c_w func52
theorem co53:CallOk prog 53:=c_w func53
theorem co54:CallOk prog 54:=c_w func54
theorem co55:CallOk prog 55:=c_w func55
theorem co56:CallOk prog 56:=c_w func56
theorem co58:CallOk prog 58:=c_w func58
theorem co61:CallOk prog 61:=c_w func61
theorem co62:CallOk prog 62:=c_w func62
theorem co63:CallOk prog 63:=c_w func63
theorem co64:CallOk prog 64:=c_w func64
theorem co65:CallOk prog 65:=c_w func65
theorem co66:CallOk prog 66:=c_w func66
theorem co67:CallOk prog 67:=c_w func67
theorem co68:CallOk prog 68:=c_w func68
theorem co69:CallOk prog 69:=c_w func69
end Go.Proofs.Ytpjefkdclnmlfaa
