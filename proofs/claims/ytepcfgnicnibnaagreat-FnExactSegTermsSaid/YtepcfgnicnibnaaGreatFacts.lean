/-
  Closed facts on the program's tables. Printed by gen.py.
-/
import Derived.Test.YtepcfgnicnibnaaGreatModel
import Derived.Test.YtepcfgnicnibnaaGreatChecked
import Derived.KernelRfl
import Derived.Test.YtepcfgnicnibnaaGreatCoreSQ
import Derived.Shelf.SlSortCmp.NoneTotal
import Derived.Test.YtepcfgnicnibnaaGreatSortLay118
import Derived.Test.YtepcfgnicnibnaaGreatSegI
import Derived.Test.YtepcfgnicnibnaaGreatCoreMx
import Derived.Test.YtepcfgnicnibnaaGreatCoreYa
namespace Go.Proofs.YtepcfgnicnibnaaGreat
open Go Go.Fk Tryz
theorem mixed:prog.follows .mixedOrders=true:=by kernel_rfl
theorem tf3:TF prog 3 1 false (.int .i64 0) 8:=t_w
theorem tf5:TF prog 5 1 false (.int .u8 0) 1:=t_w
theorem tf9:TF prog 9 1 false (.string ⟨#[]⟩) 16:=t_w
theorem tf22:TF prog 22 1 false (.slice none 0 0) 24:=t_w
theorem tf23:TF prog 23 1 false (.slice none 0 0) 24:=t_w
theorem tf25:TF prog 25 2 true (.agg #[.slice none 0 0,.slice none 0 0]) 48:=t_w
theorem tf31:TF prog 31 1 false (.slice none 0 0) 24:=t_w
theorem tf33:TF prog 33 2 true (.agg #[.slice none 0 0,.slice none 0 0]) 48:=t_w
theorem tf40:TF prog 40 1 false (.slice none 0 0) 24:=t_w
theorem tf41:TF prog 41 1 false (.slice none 0 0) 24:=t_w
theorem tf43:TF prog 43 2 true (.agg #[.slice none 0 0,.slice none 0 0]) 48:=t_w
theorem tf48:TF prog 48 1 false (.slice none 0 0) 24:=t_w
theorem tf49:TF prog 49 1 false (.slice none 0 0) 24:=t_w
theorem tf51:TF prog 51 2 true (.agg #[.slice none 0 0,.slice none 0 0]) 48:=t_w
theorem tf63:TF prog 63 1 false (.slice none 0 0) 24:=t_w
theorem tf74:TF prog 74 1 false (.slice none 0 0) 24:=t_w
theorem tf76:TF prog 76 3 true (.agg #[.string ⟨#[]⟩,.string ⟨#[]⟩,.slice none 0 0]) 56:=t_w
theorem tf93:TF prog 93 1 false (.slice none 0 0) 24:=t_w
theorem tf94:TF prog 94 1 false (.slice none 0 0) 24:=t_w
theorem tf96:TF prog 96 3 true (.agg #[.int .i64 0,.slice none 0 0,.slice none 0 0]) 56:=t_w
theorem tf102:TF prog 102 2 true (.agg #[.slice none 0 0,.string ⟨#[]⟩]) 40:=t_w
theorem tf116:TF prog 116 2 true (.agg #[.slice none 0 0,.string ⟨#[]⟩]) 40:=t_w
theorem tf118:TF prog 118 1 false (.slice none 0 0) 24:=t_w
theorem tf119:TF prog 119 1 false (.slice none 0 0) 24:=t_w
theorem tf121:TF prog 121 3 true (.agg #[.int .i64 0,.slice none 0 0,.slice none 0 0]) 56:=t_w
theorem tf123:TF prog 123 1 false (.slice none 0 0) 24:=t_w
theorem tf125:TF prog 125 3 true (.agg #[.string ⟨#[]⟩,.string ⟨#[]⟩,.slice none 0 0]) 56:=t_w
theorem tf148:TF prog 148 2 true (.agg #[.string ⟨#[]⟩,.string ⟨#[]⟩]) 32:=t_w
theorem tf150:TF prog 150 2 true (.agg #[.string ⟨#[]⟩,.int .i64 0]) 24:=t_w
theorem tf164:TF prog 164 2 true (.agg #[.int .i64 0,.slice none 0 0]) 32:=t_w
theorem tf172:TF prog 172 2 true (.agg #[.string ⟨#[]⟩,.int .i64 0]) 24:=t_w
theorem tf197:TF prog 197 2 true (.agg #[.string ⟨#[]⟩,.string ⟨#[]⟩]) 32:=t_w
theorem tf199:TF prog 199 2 true (.agg #[.string ⟨#[]⟩,.int .i64 0]) 24:=t_w
theorem tf201:TF prog 201 2 true (.agg #[.int .i64 0,.slice none 0 0]) 32:=t_w
theorem tf211:TF prog 211 4 true (.agg #[.string ⟨#[]⟩,.int .i64 0,.int .i64 0,.int .i64 0]) 40:=t_w
theorem ff25_0:FF prog 25 0 0:=f_w
theorem ff25_1:FF prog 25 1 1:=f_w
theorem ff33_0:FF prog 33 0 0:=f_w
theorem ff33_1:FF prog 33 1 1:=f_w
theorem ff43_0:FF prog 43 0 0:=f_w
theorem ff43_1:FF prog 43 1 1:=f_w
theorem ff51_0:FF prog 51 0 0:=f_w
theorem ff51_1:FF prog 51 1 1:=f_w
theorem ff76_0:FF prog 76 0 0:=f_w
theorem ff76_1:FF prog 76 1 1:=f_w
theorem ff76_2:FF prog 76 2 2:=f_w
theorem ff96_0:FF prog 96 0 0:=f_w
theorem ff96_1:FF prog 96 1 1:=f_w
theorem ff96_2:FF prog 96 2 2:=f_w
theorem ff102_0:FF prog 102 0 0:=f_w
theorem ff102_1:FF prog 102 1 1:=f_w
theorem ff116_0:FF prog 116 0 0:=f_w
theorem ff116_1:FF prog 116 1 1:=f_w
theorem ff121_0:FF prog 121 0 0:=f_w
theorem ff121_1:FF prog 121 1 1:=f_w
theorem ff121_2:FF prog 121 2 2:=f_w
theorem ff125_0:FF prog 125 0 0:=f_w
theorem ff125_1:FF prog 125 1 1:=f_w
theorem ff125_2:FF prog 125 2 2:=f_w
theorem ff148_0:FF prog 148 0 0:=f_w
theorem ff148_1:FF prog 148 1 1:=f_w
theorem ff150_0:FF prog 150 0 0:=f_w
theorem ff150_1:FF prog 150 1 1:=f_w
theorem ff164_0:FF prog 164 0 0:=f_w
theorem ff164_1:FF prog 164 1 1:=f_w
theorem ff172_0:FF prog 172 0 0:=f_w
theorem ff172_1:FF prog 172 1 1:=f_w
theorem ff197_0:FF prog 197 0 0:=f_w
theorem ff197_1:FF prog 197 1 1:=f_w
theorem ff199_0:FF prog 199 0 0:=f_w
theorem ff199_1:FF prog 199 1 1:=f_w
theorem ff201_0:FF prog 201 0 0:=f_w
theorem ff201_1:FF prog 201 1 1:=f_w
theorem ff211_0:FF prog 211 0 0:=f_w
theorem ff211_1:FF prog 211 1 1:=f_w
theorem ff211_3:FF prog 211 3 3:=f_w
theorem fg51_1:FG prog 51 1 49 1:=by unfold FG;kernel_rfl
theorem sp51:SPlaces prog 51=some [(0,1),(1,1)]:=by kernel_rfl
theorem sp76:SPlaces prog 76=some [(0,1),(1,1),(2,1)]:=by kernel_rfl
theorem sp96:SPlaces prog 96=some [(0,1),(1,1),(2,1)]:=by kernel_rfl
theorem sp164:SPlaces prog 164=some [(0,1),(1,1)]:=by kernel_rfl
theorem sp172:SPlaces prog 172=some [(0,1),(1,1)]:=by kernel_rfl
theorem sp211:SPlaces prog 211=some [(0,1),(1,1),(2,1),(3,1)]:=by kernel_rfl
theorem sortLay118:SlLaysF0.n6 prog Tryz.sortLay118_ren:=Tryz.sortLay118
theorem sortNone118 (p:Option Addr)(cap:Nat)(fv:Value)(w:World):Calls prog (Tryz.sortLay118_ren.f 6) #[.slice p 0 cap,fv] w fun e w'=>e= .returned (.tuple #[])∧w'=w:=Go.Proofs.AnyF.slices_SortFunc_none sortLay118 p cap fv w
theorem co10:CallOk prog 10:=c_w func10
theorem co11:CallOk prog 11:=c_w func11
theorem co12:CallOk prog 12:=c_w func12
theorem co13:CallOk prog 13:=c_w func13
theorem co14:CallOk prog 14:=c_w func14
theorem co15:CallOk prog 15:=c_w func15
theorem co16:CallOk prog 16:=c_w func16
theorem co17:CallOk prog 17:=c_w func17
theorem co18:CallOk prog 18:=c_w func18
theorem co19:CallOk prog 19:=c_w func19
theorem co20:CallOk prog 20:=c_w func20
theorem co21:CallOk prog 21:=c_w func21
theorem co22:CallOk prog 22:=c_w func22
theorem co26:CallOk prog 26:=c_w func26
theorem co28:CallOk prog 28:=c_w func28
theorem co31:CallOk prog 31:=c_w func31
theorem co32:CallOk prog 32:=c_w func32
theorem co33:CallOk prog 33:=c_w func33
theorem co34:CallOk prog 34:=c_w func34
theorem co35:CallOk prog 35:=c_w func35
theorem co36:CallOk prog 36:=c_w func36
theorem co37:CallOk prog 37:=c_w func37
theorem co38:CallOk prog 38:=c_w func38
theorem co39:CallOk prog 39:=c_w func39
theorem co40:CallOk prog 40:=c_w func40
theorem co41:CallOk prog 41:=c_w func41
theorem co42:CallOk prog 42:=c_w func42
theorem co43:CallOk prog 43:=c_w func43
theorem co44:CallOk prog 44:=c_w func44
theorem co45:CallOk prog 45:=c_w func45
theorem co46:CallOk prog 46:=c_w func46
theorem co47:CallOk prog 47:=c_w func47
theorem co48:CallOk prog 48:=c_w func48
theorem co52:CallOk prog 52:=c_w func52
theorem co53:CallOk prog 53:=c_w func53
theorem co56:CallOk prog 56:=c_w func56
theorem co57:CallOk prog 57:=c_w func57
theorem co58:CallOk prog 58:=c_w func58
theorem co59:CallOk prog 59:=c_w func59
theorem co60:CallOk prog 60:=c_w func60
theorem co64:CallOk prog 64:=c_w func64
theorem co69:CallOk prog 69:=c_w func69
theorem co70:CallOk prog 70:=c_w func70
theorem co71:CallOk prog 71:=c_w func71
theorem co72:CallOk prog 72:=c_w func72
theorem co73:CallOk prog 73:=c_w func73
theorem co74:CallOk prog 74:=c_w func74
theorem co75:CallOk prog 75:=c_w func75
theorem co76:CallOk prog 76:=c_w func76
theorem co77:CallOk prog 77:=c_w func77
theorem co78:CallOk prog 78:=c_w func78
theorem co79:CallOk prog 79:=c_w func79
theorem co80:CallOk prog 80:=c_w func80
theorem co81:CallOk prog 81:=c_w func81
theorem co82:CallOk prog 82:=c_w func82
theorem co83:CallOk prog 83:=c_w func83
theorem co84:CallOk prog 84:=c_w func84
theorem co85:CallOk prog 85:=c_w func85
theorem co86:CallOk prog 86:=c_w func86
theorem co87:CallOk prog 87:=c_w func87
theorem co88:CallOk prog 88:=c_w func88
theorem co89:CallOk prog 89:=c_w func89
theorem co90:CallOk prog 90:=c_w func90
theorem co91:CallOk prog 91:=c_w func91
theorem co94:CallOk prog 94:=c_w func94
theorem co95:CallOk prog 95:=c_w func95
theorem co96:CallOk prog 96:=c_w func96
theorem co97:CallOk prog 97:=c_w func97
theorem co99:CallOk prog 99:=c_w func99
theorem co103:CallOk prog 103:=c_w func103
theorem co104:CallOk prog 104:=c_w func104
theorem co105:CallOk prog 105:=c_w func105
theorem co106:CallOk prog 106:=c_w func106
theorem co107:CallOk prog 107:=c_w func107
theorem co108:CallOk prog 108:=c_w func108
theorem co109:CallOk prog 109:=c_w func109
theorem co110:CallOk prog 110:=c_w func110
theorem co111:CallOk prog 111:=c_w func111
theorem co112:CallOk prog 112:=c_w func112
theorem co113:CallOk prog 113:=c_w func113
theorem co114:CallOk prog 114:=c_w func114
theorem co115:CallOk prog 115:=c_w func115
theorem co116:CallOk prog 116:=c_w func116
theorem co117:CallOk prog 117:=c_w func117
theorem co118:CallOk prog 118:=c_w func118
theorem co120:CallOk prog 120:=c_w func120
theorem co121:CallOk prog 121:=c_w func121
theorem co122:CallOk prog 122:=c_w func122
theorem co123:CallOk prog 123:=c_w func123
theorem co124:CallOk prog 124:=c_w func124
theorem co125:CallOk prog 125:=c_w func125
theorem co126:CallOk prog 126:=c_w func126
theorem co127:CallOk prog 127:=c_w func127
theorem co128:CallOk prog 128:=c_w func128
theorem co129:CallOk prog 129:=c_w func129
theorem co130:CallOk prog 130:=c_w func130
theorem co132:CallOk prog 132:=c_w func132
theorem co144:CallOk prog 144:=c_w func144
theorem co145:CallOk prog 145:=c_w func145
theorem co146:CallOk prog 146:=c_w func146
theorem co147:CallOk prog 147:=c_w func147
theorem co148:CallOk prog 148:=c_w func148
theorem co149:CallOk prog 149:=c_w func149
theorem co150:CallOk prog 150:=c_w func150
theorem co151:CallOk prog 151:=c_w func151
theorem co152:CallOk prog 152:=c_w func152
theorem co153:CallOk prog 153:=c_w func153
theorem co154:CallOk prog 154:=c_w func154
theorem co155:CallOk prog 155:=c_w func155
theorem co156:CallOk prog 156:=c_w func156
theorem co157:CallOk prog 157:=c_w func157
theorem co158:CallOk prog 158:=c_w func158
theorem co160:CallOk prog 160:=c_w func160
theorem co161:CallOk prog 161:=c_w func161
theorem co162:CallOk prog 162:=c_w func162
theorem co163:CallOk prog 163:=c_w func163
theorem co164:CallOk prog 164:=c_w func164
theorem co165:CallOk prog 165:=c_w func165
theorem co171:CallOk prog 171:=c_w func171
theorem co172:CallOk prog 172:=c_w func172
theorem co173:CallOk prog 173:=c_w func173
theorem co183:CallOk prog 183:=c_w func183
theorem co184:CallOk prog 184:=c_w func184
end Go.Proofs.YtepcfgnicnibnaaGreat
