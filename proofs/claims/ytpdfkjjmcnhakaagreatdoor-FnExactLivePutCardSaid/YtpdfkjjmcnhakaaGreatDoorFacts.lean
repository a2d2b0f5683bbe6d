/-
  Closed facts on the program's tables. Printed by gen.py.
-/
import Derived.Test.YtpdfkjjmcnhakaaGreatDoorModel
import Derived.Test.YtpdfkjjmcnhakaaGreatDoorChecked
import Derived.KernelRfl
import Derived.Test.YtpdfkjjmcnhakaaGreatDoorCoreSQ
import Derived.Shelf.SlSortCmp.NoneTotal
import Derived.Test.YtpdfkjjmcnhakaaGreatDoorSortLay88
import Derived.Test.YtpdfkjjmcnhakaaGreatDoorSortLay123
import Derived.Test.YtpdfkjjmcnhakaaGreatDoorItoaLay
import Derived.Test.YtpdfkjjmcnhakaaGreatDoorSegI
import Derived.Test.YtpdfkjjmcnhakaaGreatDoorItoa
import Derived.Test.YtpdfkjjmcnhakaaGreatDoorCoreYa
namespace Go.Proofs.YtpdfkjjmcnhakaaGreatDoor
open Go Go.Fk Tryz
theorem mixed:prog.follows .mixedOrders=true:=by kernel_rfl
theorem tf3:TF prog 3 1 false (.int .i64 0) 8:=t_w
theorem tf5:TF prog 5 1 false (.int .u8 0) 1:=t_w
theorem tf9:TF prog 9 1 false (.string ⟨#[]⟩) 16:=t_w
theorem tf22:TF prog 22 1 false (.slice none 0 0) 24:=t_w
theorem tf23:TF prog 23 1 false (.slice none 0 0) 24:=t_w
theorem tf25:TF prog 25 2 true (.agg #[.slice none 0 0,.slice none 0 0]) 48:=t_w
theorem tf26:TF prog 26 1 false (.slice none 0 0) 24:=t_w
theorem tf27:TF prog 27 1 false (.slice none 0 0) 24:=t_w
theorem tf29:TF prog 29 2 true (.agg #[.slice none 0 0,.slice none 0 0]) 48:=t_w
theorem tf30:TF prog 30 1 false (.slice none 0 0) 24:=t_w
theorem tf32:TF prog 32 3 true (.agg #[.slice none 0 0,.slice none 0 0,.slice none 0 0]) 72:=t_w
theorem tf36:TF prog 36 1 false (.slice none 0 0) 24:=t_w
theorem tf38:TF prog 38 2 true (.agg #[.slice none 0 0,.slice none 0 0]) 48:=t_w
theorem tf40:TF prog 40 1 false (.slice none 0 0) 24:=t_w
theorem tf41:TF prog 41 1 false (.slice none 0 0) 24:=t_w
theorem tf43:TF prog 43 2 true (.agg #[.slice none 0 0,.slice none 0 0]) 48:=t_w
theorem tf45:TF prog 45 3 true (.agg #[.slice none 0 0,.slice none 0 0,.slice none 0 0]) 72:=t_w
theorem tf61:TF prog 61 1 false (.slice none 0 0) 24:=t_w
theorem tf62:TF prog 62 1 false (.slice none 0 0) 24:=t_w
theorem tf64:TF prog 64 3 true (.agg #[.int .i64 0,.slice none 0 0,.slice none 0 0]) 56:=t_w
theorem tf72:TF prog 72 1 false (.slice none 0 0) 24:=t_w
theorem tf74:TF prog 74 3 true (.agg #[.slice none 0 0,.slice none 0 0,.slice none 0 0]) 72:=t_w
theorem tf95:TF prog 95 1 false (.slice none 0 0) 24:=t_w
theorem tf97:TF prog 97 3 true (.agg #[.string ⟨#[]⟩,.string ⟨#[]⟩,.slice none 0 0]) 56:=t_w
theorem tf104:TF prog 104 2 true (.agg #[.string ⟨#[]⟩,.int .i64 0]) 24:=t_w
theorem tf114:TF prog 114 4 true (.agg #[.string ⟨#[]⟩,.int .i64 0,.int .i64 0,.int .i64 0]) 40:=t_w
theorem tf118:TF prog 118 2 true (.agg #[.string ⟨#[]⟩,.string ⟨#[]⟩]) 32:=t_w
theorem tf122:TF prog 122 2 true (.agg #[.slice none 0 0,.string ⟨#[]⟩]) 40:=t_w
theorem tf128:TF prog 128 2 true (.agg #[.slice none 0 0,.string ⟨#[]⟩]) 40:=t_w
theorem tf135:TF prog 135 2 true (.agg #[.string ⟨#[]⟩,.int .i64 0]) 24:=t_w
theorem tf153:TF prog 153 2 true (.agg #[.int .i64 0,.slice none 0 0]) 32:=t_w
theorem tf177:TF prog 177 1 false (.slice none 0 0) 24:=t_w
theorem tf178:TF prog 178 1 false (.slice none 0 0) 24:=t_w
theorem tf180:TF prog 180 3 true (.agg #[.int .i64 0,.slice none 0 0,.slice none 0 0]) 56:=t_w
theorem tf182:TF prog 182 1 false (.slice none 0 0) 24:=t_w
theorem tf184:TF prog 184 3 true (.agg #[.string ⟨#[]⟩,.string ⟨#[]⟩,.slice none 0 0]) 56:=t_w
theorem tf268:TF prog 268 2 true (.agg #[.string ⟨#[]⟩,.string ⟨#[]⟩]) 32:=t_w
theorem tf270:TF prog 270 2 true (.agg #[.string ⟨#[]⟩,.int .i64 0]) 24:=t_w
theorem tf272:TF prog 272 2 true (.agg #[.int .i64 0,.slice none 0 0]) 32:=t_w
theorem ff25_0:FF prog 25 0 0:=f_w
theorem ff25_1:FF prog 25 1 1:=f_w
theorem ff29_0:FF prog 29 0 0:=f_w
theorem ff29_1:FF prog 29 1 1:=f_w
theorem ff32_0:FF prog 32 0 0:=f_w
theorem ff32_1:FF prog 32 1 2:=f_w
theorem ff38_0:FF prog 38 0 0:=f_w
theorem ff38_1:FF prog 38 1 1:=f_w
theorem ff43_0:FF prog 43 0 0:=f_w
theorem ff43_1:FF prog 43 1 1:=f_w
theorem ff45_0:FF prog 45 0 0:=f_w
theorem ff45_1:FF prog 45 1 2:=f_w
theorem ff64_0:FF prog 64 0 0:=f_w
theorem ff64_1:FF prog 64 1 1:=f_w
theorem ff64_2:FF prog 64 2 2:=f_w
theorem ff74_0:FF prog 74 0 0:=f_w
theorem ff74_1:FF prog 74 1 2:=f_w
theorem ff97_0:FF prog 97 0 0:=f_w
theorem ff97_1:FF prog 97 1 1:=f_w
theorem ff97_2:FF prog 97 2 2:=f_w
theorem ff104_0:FF prog 104 0 0:=f_w
theorem ff104_1:FF prog 104 1 1:=f_w
theorem ff114_0:FF prog 114 0 0:=f_w
theorem ff114_1:FF prog 114 1 1:=f_w
theorem ff114_3:FF prog 114 3 3:=f_w
theorem ff118_0:FF prog 118 0 0:=f_w
theorem ff118_1:FF prog 118 1 1:=f_w
theorem ff122_0:FF prog 122 0 0:=f_w
theorem ff122_1:FF prog 122 1 1:=f_w
theorem ff128_0:FF prog 128 0 0:=f_w
theorem ff128_1:FF prog 128 1 1:=f_w
theorem ff135_0:FF prog 135 0 0:=f_w
theorem ff135_1:FF prog 135 1 1:=f_w
theorem ff153_0:FF prog 153 0 0:=f_w
theorem ff153_1:FF prog 153 1 1:=f_w
theorem ff180_0:FF prog 180 0 0:=f_w
theorem ff180_1:FF prog 180 1 1:=f_w
theorem ff180_2:FF prog 180 2 2:=f_w
theorem ff184_0:FF prog 184 0 0:=f_w
theorem ff184_1:FF prog 184 1 1:=f_w
theorem ff184_2:FF prog 184 2 2:=f_w
theorem ff268_0:FF prog 268 0 0:=f_w
theorem ff268_1:FF prog 268 1 1:=f_w
theorem ff270_0:FF prog 270 0 0:=f_w
theorem ff270_1:FF prog 270 1 1:=f_w
theorem ff272_0:FF prog 272 0 0:=f_w
theorem ff272_1:FF prog 272 1 1:=f_w
theorem fg43_1:FG prog 43 1 41 1:=by unfold FG;kernel_rfl
theorem fg64_0:FG prog 64 0 3 0:=by unfold FG;kernel_rfl
theorem sp43:SPlaces prog 43=some [(0,1),(1,1)]:=by kernel_rfl
theorem sp64:SPlaces prog 64=some [(0,1),(1,1),(2,1)]:=by kernel_rfl
theorem sp74:SPlaces prog 74=some [(0,2),(2,1)]:=by kernel_rfl
theorem sp97:SPlaces prog 97=some [(0,1),(1,1),(2,1)]:=by kernel_rfl
theorem sp104:SPlaces prog 104=some [(0,1),(1,1)]:=by kernel_rfl
theorem sp114:SPlaces prog 114=some [(0,1),(1,1),(2,1),(3,1)]:=by kernel_rfl
theorem sp153:SPlaces prog 153=some [(0,1),(1,1)]:=by kernel_rfl
abbrev Tab10 (w:World):Prop:=Lib.TabIs prog w "internal/strconv.uint64pow10" .u64 Lib.pow10Tab
theorem sortLay88:SlLaysF0.n6 prog Tryz.sortLay88_ren:=Tryz.sortLay88
theorem sortNone88 (p:Option Addr)(cap:Nat)(fv:Value)(w:World):Calls prog (Tryz.sortLay88_ren.f 6) #[.slice p 0 cap,fv] w fun e w'=>e= .returned (.tuple #[])∧w'=w:=Go.Proofs.AnyF.slices_SortFunc_none sortLay88 p cap fv w
theorem sortLay123:SlLaysF0.n6 prog Tryz.sortLay123_ren:=Tryz.sortLay123
theorem sortNone123 (p:Option Addr)(cap:Nat)(fv:Value)(w:World):Calls prog (Tryz.sortLay123_ren.f 6) #[.slice p 0 cap,fv] w fun e w'=>e= .returned (.tuple #[])∧w'=w:=Go.Proofs.AnyF.slices_SortFunc_none sortLay123 p cap fv w
theorem co5:CallOk prog 5:=c_w func5
theorem co6:CallOk prog 6:=c_w func6
theorem co7:CallOk prog 7:=c_w func7
theorem co8:CallOk prog 8:=c_w func8
theorem co9:CallOk prog 9:=c_w func9
theorem co10:CallOk prog 10:=c_w func10
theorem co11:CallOk prog 11:=c_w func11
theorem co12:CallOk prog 12:=c_w func12
theorem co14:CallOk prog 14:=c_w func14
theorem co22:CallOk prog 22:=c_w func22
theorem co23:CallOk prog 23:=c_w func23
theorem co24:CallOk prog 24:=c_w func24
theorem co25:CallOk prog 25:=c_w func25
theorem co26:CallOk prog 26:=c_w func26
theorem co27:CallOk prog 27:=c_w func27
theorem co28:CallOk prog 28:=c_w func28
theorem co29:CallOk prog 29:=c_w func29
theorem co30:CallOk prog 30:=c_w func30
theorem co31:CallOk prog 31:=c_w func31
theorem co32:CallOk prog 32:=c_w func32
theorem co33:CallOk prog 33:=c_w func33
theorem co34:CallOk prog 34:=c_w func34
theorem co35:CallOk prog 35:=c_w func35
theorem co36:CallOk prog 36:=c_w func36
theorem co37:CallOk prog 37:=c_w func37
theorem co38:CallOk prog 38:=c_w func38
theorem co43:CallOk prog 43:=c_w func43
theorem co44:CallOk prog 44:=c_w func44
theorem co45:CallOk prog 45:=c_w func45
theorem co46:CallOk prog 46:=c_w func46
theorem co47:CallOk prog 47:=c_w func47
theorem co48:CallOk prog 48:=c_w func48
theorem co49:CallOk prog 49:=c_w func49
theorem co50:CallOk prog 50:=c_w func50
theorem co53:CallOk prog 53:=c_w func53
theorem co56:CallOk prog 56:=c_w func56
theorem co58:CallOk prog 58:=c_w func58
theorem co59:CallOk prog 59:=c_w func59
theorem co60:CallOk prog 60:=c_w func60
theorem co61:CallOk prog 61:=c_w func61
theorem co62:CallOk prog 62:=c_w func62
theorem co63:CallOk prog 63:=c_w func63
theorem co64:CallOk prog 64:=c_w func64
theorem co65:CallOk prog 65:=c_w func65
theorem co66:CallOk prog 66:=c_w func66
theorem co67:CallOk prog 67:=c_w func67
theorem co68:CallOk prog 68:=c_w func68
theorem co69:CallOk prog 69:=c_w func69
theorem co70:CallOk prog 70:=c_w func70
theorem co71:CallOk prog 71:=c_w func71
theorem co72:CallOk prog 72:=c_w func72
theorem co73:CallOk prog 73:=c_w func73
theorem co74:CallOk prog 74:=c_w func74
theorem co75:CallOk prog 75:=c_w func75
theorem co77:CallOk prog 77:=c_w func77
theorem co78:CallOk prog 78:=c_w func78
theorem co79:CallOk prog 79:=c_w func79
theorem co82:CallOk prog 82:=c_w func82
theorem co83:CallOk prog 83:=c_w func83
theorem co84:CallOk prog 84:=c_w func84
theorem co85:CallOk prog 85:=c_w func85
theorem co86:CallOk prog 86:=c_w func86
theorem co87:CallOk prog 87:=c_w func87
theorem co88:CallOk prog 88:=c_w func88
theorem co90:CallOk prog 90:=c_w func90
theorem co91:CallOk prog 91:=c_w func91
theorem co92:CallOk prog 92:=c_w func92
theorem co93:CallOk prog 93:=c_w func93
theorem co94:CallOk prog 94:=c_w func94
theorem co95:CallOk prog 95:=c_w func95
theorem co96:CallOk prog 96:=c_w func96
theorem co97:CallOk prog 97:=c_w func97
theorem co98:CallOk prog 98:=c_w func98
theorem co101:CallOk prog 101:=c_w func101
theorem co105:CallOk prog 105:=c_w func105
theorem co106:CallOk prog 106:=c_w func106
theorem co107:CallOk prog 107:=c_w func107
theorem co109:CallOk prog 109:=c_w func109
theorem co110:CallOk prog 110:=c_w func110
theorem co111:CallOk prog 111:=c_w func111
theorem co112:CallOk prog 112:=c_w func112
theorem co113:CallOk prog 113:=c_w func113
theorem co114:CallOk prog 114:=c_w func114
theorem co115:CallOk prog 115:=c_w func115
theorem co116:CallOk prog 116:=c_w func116
theorem co117:CallOk prog 117:=c_w func117
theorem co118:CallOk prog 118:=c_w func118
theorem co119:CallOk prog 119:=c_w func119
theorem co120:CallOk prog 120:=c_w func120
theorem co121:CallOk prog 121:=c_w func121
theorem co122:CallOk prog 122:=c_w func122
theorem co123:CallOk prog 123:=c_w func123
theorem co125:CallOk prog 125:=c_w func125
theorem co127:CallOk prog 127:=c_w func127
theorem co128:CallOk prog 128:=c_w func128
theorem co131:CallOk prog 131:=c_w func131
theorem co132:CallOk prog 132:=c_w func132
theorem co133:CallOk prog 133:=c_w func133
theorem co134:CallOk prog 134:=c_w func134
theorem co135:CallOk prog 135:=c_w func135
theorem co138:CallOk prog 138:=c_w func138
theorem co139:CallOk prog 139:=c_w func139
theorem co140:CallOk prog 140:=c_w func140
theorem co141:CallOk prog 141:=c_w func141
theorem co142:CallOk prog 142:=c_w func142
theorem co143:CallOk prog 143:=c_w func143
theorem co144:CallOk prog 144:=c_w func144
theorem co156:CallOk prog 156:=c_w func156
theorem co157:CallOk prog 157:=c_w func157
theorem co158:CallOk prog 158:=c_w func158
theorem co159:CallOk prog 159:=c_w func159
theorem co160:CallOk prog 160:=c_w func160
theorem co161:CallOk prog 161:=c_w func161
theorem co162:CallOk prog 162:=c_w func162
theorem co163:CallOk prog 163:=c_w func163
theorem co164:CallOk prog 164:=c_w func164
theorem co165:CallOk prog 165:=c_w func165
theorem co167:CallOk prog 167:=c_w func167
theorem co172:CallOk prog 172:=c_w func172
theorem co173:CallOk prog 173:=c_w func173
theorem co174:CallOk prog 174:=c_w func174
theorem co176:CallOk prog 176:=c_w func176
theorem co187:CallOk prog 187:=c_w func187
theorem co188:CallOk prog 188:=c_w func188
theorem co189:CallOk prog 189:=c_w func189
theorem co199:CallOk prog 199:=c_w func199
theorem co200:CallOk prog 200:=c_w func200
theorem co201:CallOk prog 201:=c_w func201
theorem co202:CallOk prog 202:=c_w func202
theorem co203:CallOk prog 203:=c_w func203
theorem co204:CallOk prog 204:=c_w func204
theorem co205:CallOk prog 205:=c_w func205
theorem co206:CallOk prog 206:=c_w func206
theorem co219:CallOk prog 219:=c_w func219
theorem co220:CallOk prog 220:=c_w func220
theorem co221:CallOk prog 221:=c_w func221
end Go.Proofs.YtpdfkjjmcnhakaaGreatDoor
