/-
  Closed facts on the program's tables. Printed by gen.py.
-/
import Derived.Test.YtfiahfncijjliaaGreatDoorModel
import Derived.Test.YtfiahfncijjliaaGreatDoorChecked
import Derived.KernelRfl
import Derived.Test.YtfiahfncijjliaaGreatDoorCoreSQ
import Derived.Shelf.SlSortCmp.NoneTotal
import Derived.Test.YtfiahfncijjliaaGreatDoorSortLay119
import Derived.Test.YtfiahfncijjliaaGreatDoorSortLay142
import Derived.Test.YtfiahfncijjliaaGreatDoorSegI
import Derived.Test.YtfiahfncijjliaaGreatDoorCoreMm
import Derived.Test.YtfiahfncijjliaaGreatDoorCoreVY
namespace Go.Proofs.YtfiahfncijjliaaGreatDoor
open Go Go.Fk Tryz
theorem mixed:prog.follows .mixedOrders=true:=by kernel_rfl
theorem tf3:TF prog 3 1 false (.int .i64 0) 8:=t_w
theorem tf5:TF prog 5 1 false (.int .u8 0) 1:=t_w
theorem tf9:TF prog 9 1 false (.string ⟨#[]⟩) 16:=t_w
theorem tf22:TF prog 22 1 false (.slice none 0 0) 24:=t_w
theorem tf23:TF prog 23 1 false (.slice none 0 0) 24:=t_w
theorem tf25:TF prog 25 2 true (.agg #[.slice none 0 0,.slice none 0 0]) 48:=t_w
theorem tf26:TF prog 26 1 false (.slice none 0 0) 24:=t_w
theorem tf27:TF prog 27 1 false (.slice none 0 0) 24:=t_w
theorem tf29:TF prog 29 2 true (.agg #[.slice none 0 0,.slice none 0 0]) 48:=t_w
theorem tf32:TF prog 32 1 false (.slice none 0 0) 24:=t_w
theorem tf34:TF prog 34 1 false (.slice none 0 0) 24:=t_w
theorem tf36:TF prog 36 2 true (.agg #[.slice none 0 0,.slice none 0 0]) 48:=t_w
theorem tf38:TF prog 38 1 false (.slice none 0 0) 24:=t_w
theorem tf39:TF prog 39 1 false (.slice none 0 0) 24:=t_w
theorem tf41:TF prog 41 2 true (.agg #[.slice none 0 0,.slice none 0 0]) 48:=t_w
theorem tf69:TF prog 69 4 true (.agg #[.slice none 0 0,.slice none 0 0,.slice none 0 0,.slice none 0 0]) 96:=t_w
theorem tf73:TF prog 73 2 true (.agg #[.int .i64 0,.int .i64 0]) 16:=t_w
theorem tf86:TF prog 86 1 false (.slice none 0 0) 24:=t_w
theorem tf87:TF prog 87 1 false (.slice none 0 0) 24:=t_w
theorem tf89:TF prog 89 3 true (.agg #[.int .i64 0,.slice none 0 0,.slice none 0 0]) 56:=t_w
theorem tf92:TF prog 92 2 true (.agg #[.int .i64 0,.int .i64 0]) 16:=t_w
theorem tf98:TF prog 98 2 true (.agg #[.slice none 0 0,.string ⟨#[]⟩]) 40:=t_w
theorem tf100:TF prog 100 1 false (.slice none 0 0) 24:=t_w
theorem tf101:TF prog 101 1 false (.slice none 0 0) 24:=t_w
theorem tf103:TF prog 103 3 true (.agg #[.int .i64 0,.slice none 0 0,.slice none 0 0]) 56:=t_w
theorem tf105:TF prog 105 1 false (.slice none 0 0) 24:=t_w
theorem tf107:TF prog 107 3 true (.agg #[.string ⟨#[]⟩,.string ⟨#[]⟩,.slice none 0 0]) 56:=t_w
theorem tf112:TF prog 112 1 false (.slice none 0 0) 24:=t_w
theorem tf114:TF prog 114 3 true (.agg #[.string ⟨#[]⟩,.string ⟨#[]⟩,.slice none 0 0]) 56:=t_w
theorem tf117:TF prog 117 1 false (.slice none 0 0) 24:=t_w
theorem tf119:TF prog 119 2 true (.agg #[.int .i64 0,.slice none 0 0]) 32:=t_w
theorem tf120:TF prog 120 2 true (.agg #[.slice none 0 0,.string ⟨#[]⟩]) 40:=t_w
theorem tf136:TF prog 136 2 true (.agg #[.string ⟨#[]⟩,.int .i64 0]) 24:=t_w
theorem tf142:TF prog 142 2 true (.agg #[.int .i64 0,.int .i64 0]) 16:=t_w
theorem tf170:TF prog 170 2 true (.agg #[.string ⟨#[]⟩,.string ⟨#[]⟩]) 32:=t_w
theorem tf183:TF prog 183 2 true (.agg #[.string ⟨#[]⟩,.int .i64 0]) 24:=t_w
theorem tf189:TF prog 189 4 true (.agg #[.string ⟨#[]⟩,.int .i64 0,.int .i64 0,.int .i64 0]) 40:=t_w
theorem tf202:TF prog 202 2 true (.agg #[.string ⟨#[]⟩,.string ⟨#[]⟩]) 32:=t_w
theorem tf204:TF prog 204 2 true (.agg #[.string ⟨#[]⟩,.int .i64 0]) 24:=t_w
theorem tf206:TF prog 206 2 true (.agg #[.int .i64 0,.slice none 0 0]) 32:=t_w
theorem ff25_0:FF prog 25 0 0:=f_w
theorem ff25_1:FF prog 25 1 1:=f_w
theorem ff29_0:FF prog 29 0 0:=f_w
theorem ff29_1:FF prog 29 1 1:=f_w
theorem ff36_0:FF prog 36 0 0:=f_w
theorem ff36_1:FF prog 36 1 1:=f_w
theorem ff41_0:FF prog 41 0 0:=f_w
theorem ff41_1:FF prog 41 1 1:=f_w
theorem ff69_0:FF prog 69 0 0:=f_w
theorem ff69_1:FF prog 69 1 2:=f_w
theorem ff73_0:FF prog 73 0 0:=f_w
theorem ff73_1:FF prog 73 1 1:=f_w
theorem ff89_0:FF prog 89 0 0:=f_w
theorem ff89_1:FF prog 89 1 1:=f_w
theorem ff89_2:FF prog 89 2 2:=f_w
theorem ff92_0:FF prog 92 0 0:=f_w
theorem ff92_1:FF prog 92 1 1:=f_w
theorem ff98_0:FF prog 98 0 0:=f_w
theorem ff98_1:FF prog 98 1 1:=f_w
theorem ff103_0:FF prog 103 0 0:=f_w
theorem ff103_1:FF prog 103 1 1:=f_w
theorem ff103_2:FF prog 103 2 2:=f_w
theorem ff107_0:FF prog 107 0 0:=f_w
theorem ff107_1:FF prog 107 1 1:=f_w
theorem ff107_2:FF prog 107 2 2:=f_w
theorem ff114_0:FF prog 114 0 0:=f_w
theorem ff114_1:FF prog 114 1 1:=f_w
theorem ff114_2:FF prog 114 2 2:=f_w
theorem ff119_0:FF prog 119 0 0:=f_w
theorem ff119_1:FF prog 119 1 1:=f_w
theorem ff120_0:FF prog 120 0 0:=f_w
theorem ff120_1:FF prog 120 1 1:=f_w
theorem ff136_0:FF prog 136 0 0:=f_w
theorem ff136_1:FF prog 136 1 1:=f_w
theorem ff142_0:FF prog 142 0 0:=f_w
theorem ff142_1:FF prog 142 1 1:=f_w
theorem ff170_0:FF prog 170 0 0:=f_w
theorem ff170_1:FF prog 170 1 1:=f_w
theorem ff183_0:FF prog 183 0 0:=f_w
theorem ff183_1:FF prog 183 1 1:=f_w
theorem ff189_0:FF prog 189 0 0:=f_w
theorem ff189_1:FF prog 189 1 1:=f_w
theorem ff189_3:FF prog 189 3 3:=f_w
theorem ff202_0:FF prog 202 0 0:=f_w
theorem ff202_1:FF prog 202 1 1:=f_w
theorem ff204_0:FF prog 204 0 0:=f_w
theorem ff204_1:FF prog 204 1 1:=f_w
theorem ff206_0:FF prog 206 0 0:=f_w
theorem ff206_1:FF prog 206 1 1:=f_w
theorem fg41_1:FG prog 41 1 39 1:=by unfold FG;kernel_rfl
theorem sp41:SPlaces prog 41=some [(0,1),(1,1)]:=by kernel_rfl
theorem sp69:SPlaces prog 69=some [(0,2),(2,2)]:=by kernel_rfl
theorem sp73:SPlaces prog 73=some [(0,1),(1,1)]:=by kernel_rfl
theorem sp89:SPlaces prog 89=some [(0,1),(1,1),(2,1)]:=by kernel_rfl
theorem sp92:SPlaces prog 92=some [(0,1),(1,1)]:=by kernel_rfl
theorem sp114:SPlaces prog 114=some [(0,1),(1,1),(2,1)]:=by kernel_rfl
theorem sp119:SPlaces prog 119=some [(0,1),(1,1)]:=by kernel_rfl
theorem sp136:SPlaces prog 136=some [(0,1),(1,1)]:=by kernel_rfl
theorem sp142:SPlaces prog 142=some [(0,1),(1,1)]:=by kernel_rfl
theorem sp189:SPlaces prog 189=some [(0,1),(1,1),(2,1),(3,1)]:=by kernel_rfl
theorem sortLay119:SlLaysF0.n6 prog Tryz.sortLay119_ren:=Tryz.sortLay119
theorem sortNone119 (p:Option Addr)(cap:Nat)(fv:Value)(w:World):Calls prog (Tryz.sortLay119_ren.f 6) #[.slice p 0 cap,fv] w fun e w'=>e= .returned (.tuple #[])∧w'=w:=Go.Proofs.AnyF.slices_SortFunc_none sortLay119 p cap fv w
theorem sortLay142:SlLaysF0.n6 prog Tryz.sortLay142_ren:=Tryz.sortLay142
theorem sortNone142 (p:Option Addr)(cap:Nat)(fv:Value)(w:World):Calls prog (Tryz.sortLay142_ren.f 6) #[.slice p 0 cap,fv] w fun e w'=>e= .returned (.tuple #[])∧w'=w:=Go.Proofs.AnyF.slices_SortFunc_none sortLay142 p cap fv w
theorem co5:CallOk prog 5:=c_w func5
theorem co6:CallOk prog 6:=c_w func6
theorem co8:CallOk prog 8:=c_w func8
theorem co9:CallOk prog 9:=c_w func9
theorem co12:CallOk prog 12:=c_w func12
theorem co13:CallOk prog 13:=c_w func13
theorem co14:CallOk prog 14:=c_w func14
theorem co15:CallOk prog 15:=c_w func15
theorem co18:CallOk prog 18:=c_w func18
theorem co19:CallOk prog 19:=c_w func19
theorem co20:CallOk prog 20:=c_w func20
theorem co21:CallOk prog 21:=c_w func21
theorem co22:CallOk prog 22:=c_w func22
theorem co23:CallOk prog 23:=c_w func23
theorem co24:CallOk prog 24:=c_w func24
theorem co25:CallOk prog 25:=c_w func25
theorem co26:CallOk prog 26:=c_w func26
theorem co27:CallOk prog 27:=c_w func27
theorem co28:CallOk prog 28:=c_w func28
theorem co29:CallOk prog 29:=c_w func29
theorem co30:CallOk prog 30:=c_w func30
theorem co31:CallOk prog 31:=c_w func31
theorem co32:CallOk prog 32:=c_w func32
theorem co33:CallOk prog 33:=c_w func33
theorem co34:CallOk prog 34:=c_w func34
theorem co35:CallOk prog 35:=c_w func35
theorem co36:CallOk prog 36:=c_w func36
theorem co38:CallOk prog 38:=c_w func38
theorem co39:CallOk prog 39:=c_w func39
theorem co40:CallOk prog 40:=c_w func40
theorem co41:CallOk prog 41:=c_w func41
theorem co42:CallOk prog 42:=c_w func42
theorem co43:CallOk prog 43:=c_w func43
theorem co44:CallOk prog 44:=c_w func44
theorem co45:CallOk prog 45:=c_w func45
theorem co46:CallOk prog 46:=c_w func46
theorem co47:CallOk prog 47:=c_w func47
theorem co48:CallOk prog 48:=c_w func48
theorem co49:CallOk prog 49:=c_w func49
theorem co50:CallOk prog 50:=c_w func50
theorem co51:CallOk prog 51:=c_w func51
theorem co52:CallOk prog 52:=c_w func52
theorem co53:CallOk prog 53:=c_w func53
theorem co54:CallOk prog 54:=c_w func54
theorem co55:CallOk prog 55:=c_w func55
theorem co56:CallOk prog 56:=c_w func56
theorem co57:CallOk prog 57:=c_w func57
theorem co58:CallOk prog 58:=c_w func58
theorem co59:CallOk prog 59:=c_w func59
theorem co60:CallOk prog 60:=c_w func60
theorem co61:CallOk prog 61:=c_w func61
theorem co62:CallOk prog 62:=c_w func62
theorem co63:CallOk prog 63:=c_w func63
theorem co64:CallOk prog 64:=c_w func64
theorem co65:CallOk prog 65:=c_w func65
theorem co66:CallOk prog 66:=c_w func66
theorem co67:CallOk prog 67:=c_w func67
theorem co68:CallOk prog 68:=c_w func68
theorem co69:CallOk prog 69:=c_w func69
theorem co70:CallOk prog 70:=c_w func70
theorem co71:CallOk prog 71:=c_w func71
theorem co72:CallOk prog 72:=c_w func72
theorem co73:CallOk prog 73:=c_w func73
theorem co74:CallOk prog 74:=c_w func74
theorem co75:CallOk prog 75:=c_w func75
theorem co76:CallOk prog 76:=c_w func76
theorem co77:CallOk prog 77:=c_w func77
theorem co78:CallOk prog 78:=c_w func78
theorem co79:CallOk prog 79:=c_w func79
theorem co80:CallOk prog 80:=c_w func80
theorem co81:CallOk prog 81:=c_w func81
theorem co82:CallOk prog 82:=c_w func82
theorem co83:CallOk prog 83:=c_w func83
theorem co84:CallOk prog 84:=c_w func84
theorem co85:CallOk prog 85:=c_w func85
theorem co86:CallOk prog 86:=c_w func86
theorem co87:CallOk prog 87:=c_w func87
theorem co88:CallOk prog 88:=c_w func88
theorem co89:CallOk prog 89:=c_w func89
theorem co90:CallOk prog 90:=c_w func90
theorem co91:CallOk prog 91:=c_w func91
theorem co92:CallOk prog 92:=c_w func92
theorem co93:CallOk prog 93:=c_w func93
theorem co94:CallOk prog 94:=c_w func94
theorem co95:CallOk prog 95:=c_w func95
theorem co96:CallOk prog 96:=c_w func96
theorem co97:CallOk prog 97:=c_w func97
theorem co98:CallOk prog 98:=c_w func98
theorem co99:CallOk prog 99:=c_w func99
theorem co100:CallOk prog 100:=c_w func100
theorem co101:CallOk prog 101:=c_w func101
theorem co102:CallOk prog 102:=c_w func102
theorem co103:CallOk prog 103:=c_w func103
theorem co104:CallOk prog 104:=c_w func104
theorem co105:CallOk prog 105:=c_w func105
theorem co106:CallOk prog 106:=c_w func106
theorem co107:CallOk prog 107:=c_w func107
theorem co108:CallOk prog 108:=c_w func108
theorem co109:CallOk prog 109:=c_w func109
theorem co110:CallOk prog 110:=c_w func110
theorem co111:CallOk prog 111:=c_w func111
theorem co112:CallOk prog 112:=c_w func112
theorem co113:CallOk prog 113:=c_w func113
theorem co114:CallOk prog 114:=c_w func114
theorem co115:CallOk prog 115:=c_w func115
theorem co116:CallOk prog 116:=c_w func116
theorem co117:CallOk prog 117:=c_w func117
theorem co118:CallOk prog 118:=c_w func118
theorem co119:CallOk prog 119:=c_w func119
theorem co121:CallOk prog 121:=c_w func121
theorem co122:CallOk prog 122:=c_w func122
theorem co123:CallOk prog 123:=c_w func123
theorem co124:CallOk prog 124:=c_w func124
theorem co125:CallOk prog 125:=c_w func125
theorem co126:CallOk prog 126:=c_w func126
theorem co127:CallOk prog 127:=c_w func127
theorem co128:CallOk prog 128:=c_w func128
theorem co129:CallOk prog 129:=c_w func129
theorem co130:CallOk prog 130:=c_w func130
theorem co131:CallOk prog 131:=c_w func131
theorem co132:CallOk prog 132:=c_w func132
theorem co133:CallOk prog 133:=c_w func133
theorem co134:CallOk prog 134:=c_w func134
theorem co135:CallOk prog 135:=c_w func135
theorem co136:CallOk prog 136:=c_w func136
theorem co137:CallOk prog 137:=c_w func137
theorem co138:CallOk prog 138:=c_w func138
theorem co139:CallOk prog 139:=c_w func139
theorem co140:CallOk prog 140:=c_w func140
theorem co141:CallOk prog 141:=c_w func141
theorem co142:CallOk prog 142:=c_w func142
theorem co143:CallOk prog 143:=c_w func143
theorem co144:CallOk prog 144:=c_w func144
theorem co145:CallOk prog 145:=c_w func145
theorem co146:CallOk prog 146:=c_w func146
theorem co147:CallOk prog 147:=c_w func147
theorem co148:CallOk prog 148:=c_w func148
theorem co149:CallOk prog 149:=c_w func149
theorem co150:CallOk prog 150:=c_w func150
theorem co151:CallOk prog 151:=c_w func151
theorem co152:CallOk prog 152:=c_w func152
theorem co153:CallOk prog 153:=c_w func153
theorem co154:CallOk prog 154:=c_w func154
theorem co155:CallOk prog 155:=c_w func155
theorem co156:CallOk prog 156:=c_w func156
theorem co157:CallOk prog 157:=c_w func157
theorem co158:CallOk prog 158:=c_w func158
theorem co159:CallOk prog 159:=c_w func159
theorem co162:CallOk prog 162:=c_w func162
theorem co163:CallOk prog 163:=c_w func163
theorem co164:CallOk prog 164:=c_w func164
theorem co165:CallOk prog 165:=c_w func165
theorem co166:CallOk prog 166:=c_w func166
theorem co167:CallOk prog 167:=c_w func167
theorem co168:CallOk prog 168:=c_w func168
theorem co169:CallOk prog 169:=c_w func169
theorem co170:CallOk prog 170:=c_w func170
theorem co171:CallOk prog 171:=c_w func171
theorem co172:CallOk prog 172:=c_w func172
theorem co173:CallOk prog 173:=c_w func173
theorem co175:CallOk prog 175:=c_w func175
theorem co176:CallOk prog 176:=c_w func176
theorem co177:CallOk prog 177:=c_w func177
theorem co178:CallOk prog 178:=c_w func178
theorem co179:CallOk prog 179:=c_w func179
theorem co190:CallOk prog 190:=c_w func190
theorem co191:CallOk prog 191:=c_w func191
end Go.Proofs.YtfiahfncijjliaaGreatDoor
