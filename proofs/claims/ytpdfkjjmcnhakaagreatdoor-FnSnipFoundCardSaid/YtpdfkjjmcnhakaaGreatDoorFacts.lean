/-
  Closed facts on the program's tables. Printed by gen.py.
-/
import Derived.Test.YtpdfkjjmcnhakaaGreatDoorModel
import Derived.Test.YtpdfkjjmcnhakaaGreatDoorChecked
import Derived.KernelRfl
import Derived.Test.YtpdfkjjmcnhakaaGreatDoorCoreSQ
import Derived.Shelf.SlSortCmp.NoneTotal
import Derived.Test.YtpdfkjjmcnhakaaGreatDoorSortLay88
import Derived.Test.YtpdfkjjmcnhakaaGreatDoorSegI
import Derived.Test.YtpdfkjjmcnhakaaGreatDoorCoreMZ
import Derived.Test.YtpdfkjjmcnhakaaGreatDoorStrJoin
import Derived.Test.YtpdfkjjmcnhakaaGreatDoorCoreVY
namespace Go.Proofs.YtpdfkjjmcnhakaaGreatDoor
open Go Go.Fk Tryz
theorem mixed:prog.follows .mixedOrders=true:=by kernel_rfl
theorem c0H:P2.Pairwise fun a b=>a.1≠b.1:=by decide
theorem b8A (n:Int):j5 (s4 n).leastWords_:=a28 (ok:=fun x:a0V=>j5 x.leastWords_) (by show ∀p∈P2,j5 p.2.leastWords_;decide) R3 n
theorem b8B (n:Int):j5 (s4 n).mostWords_:=a28 (ok:=fun x:a0V=>j5 x.mostWords_) (by show ∀p∈P2,j5 p.2.mostWords_;decide) R3 n
theorem b8C (n:Int):j5 (s4 n).low_:=a28 (ok:=fun x:a0V=>j5 x.low_) (by show ∀p∈P2,j5 p.2.low_;decide) R3 n
theorem b8D (n:Int):j5 (s4 n).high_:=a28 (ok:=fun x:a0V=>j5 x.high_) (by show ∀p∈P2,j5 p.2.high_;decide) R3 n
theorem b8E (n:Int):j5 (s4 n).leastKids_:=a28 (ok:=fun x:a0V=>j5 x.leastKids_) (by show ∀p∈P2,j5 p.2.leastKids_;decide) R3 n
theorem b8F (n:Int):j5 (s4 n).mostKids_:=a28 (ok:=fun x:a0V=>j5 x.mostKids_) (by show ∀p∈P2,j5 p.2.mostKids_;decide) R3 n
theorem G4:TF prog 3 1 false (.int .i64 0) 8:=t_w
theorem tf4:TF prog 4 1 false (.bool false) 1:=t_w
theorem tf5:TF prog 5 1 false (.int .u8 0) 1:=t_w
theorem D8:TF prog 9 1 false (.string ⟨#[]⟩) 16:=t_w
theorem W1:TF prog 22 1 false (.slice none 0 0) 24:=t_w
theorem a4E:TF prog 30 1 false (.slice none 0 0) 24:=t_w
theorem a5B:TF prog 36 1 false (.slice none 0 0) 24:=t_w
theorem E1:TF prog 38 2 true (.agg #[.slice none 0 0,.slice none 0 0]) 48:=t_w
theorem a42:TF prog 40 1 false (.slice none 0 0) 24:=t_w
theorem a2A:TF prog 41 1 false (.slice none 0 0) 24:=t_w
theorem I9:TF prog 43 2 true (.agg #[.slice none 0 0,.slice none 0 0]) 48:=t_w
theorem b2n:TF prog 50 1 false (.slice none 0 0) 24:=t_w
theorem b5i:TF prog 56 1 false (.slice none 0 0) 24:=t_w
theorem a2C:TF prog 58 6 true (.agg #[.int .i64 0,.string ⟨#[]⟩,.slice none 0 0,.int .i64 0,.int .i64 0,.slice none 0 0]) 88:=t_w
theorem a3p:TF prog 61 1 false (.slice none 0 0) 24:=t_w
theorem a43:TF prog 62 1 false (.slice none 0 0) 24:=t_w
theorem C8:TF prog 64 3 true (.agg #[.int .i64 0,.slice none 0 0,.slice none 0 0]) 56:=t_w
theorem a3X:TF prog 95 1 false (.slice none 0 0) 24:=t_w
theorem P9:TF prog 97 3 true (.agg #[.string ⟨#[]⟩,.string ⟨#[]⟩,.slice none 0 0]) 56:=t_w
theorem E3:TF prog 104 2 true (.agg #[.string ⟨#[]⟩,.int .i64 0]) 24:=t_w
theorem a7h:TF prog 108 2 true (.agg #[.int .i64 0,.int .i64 0]) 16:=t_w
theorem a0p:TF prog 114 4 true (.agg #[.string ⟨#[]⟩,.int .i64 0,.int .i64 0,.int .i64 0]) 40:=t_w
theorem J6:TF prog 118 2 true (.agg #[.string ⟨#[]⟩,.string ⟨#[]⟩]) 32:=t_w
theorem a0T:TF prog 128 2 true (.agg #[.slice none 0 0,.string ⟨#[]⟩]) 40:=t_w
theorem P0:TF prog 135 2 true (.agg #[.string ⟨#[]⟩,.int .i64 0]) 24:=t_w
theorem b8i:TF prog 140 2 true (.agg #[.slice none 0 0,.int .i64 0]) 32:=t_w
theorem T2:TF prog 153 2 true (.agg #[.int .i64 0,.slice none 0 0]) 32:=t_w
theorem b97:TF prog 161 4 true (.agg #[.slice none 0 0,.slice none 0 0,.slice none 0 0,.slice none 0 0]) 96:=t_w
theorem b6H:TF prog 252 8 true (.agg #[.bool false,.int .i64 0,.int .i64 0,.int .i64 0,.int .i64 0,.bool false,.int .i64 0,.int .i64 0]) 64:=t_w
theorem b98:TF prog 254 1 false (.map none) 8:=t_w
theorem Y0:TF prog 257 2 true (.agg #[.int .i64 0,.int .i64 0]) 16:=t_w
theorem a0M:FF prog 38 0 0:=f_w
theorem a0N:FF prog 38 1 1:=f_w
theorem a0q:FF prog 43 0 0:=f_w
theorem P7:FF prog 43 1 1:=f_w
theorem a6x:FF prog 58 0 0:=f_w
theorem a2O:FF prog 58 1 1:=f_w
theorem a6y:FF prog 58 2 2:=f_w
theorem a6z:FF prog 58 3 3:=f_w
theorem b0r:FF prog 58 4 4:=f_w
theorem a6A:FF prog 58 5 5:=f_w
theorem T9:FF prog 64 0 0:=f_w
theorem S7:FF prog 64 1 1:=f_w
theorem a0r:FF prog 64 2 2:=f_w
theorem a3B:FF prog 97 0 0:=f_w
theorem a2P:FF prog 97 1 1:=f_w
theorem X0:FF prog 97 2 2:=f_w
theorem a0h:FF prog 104 0 0:=f_w
theorem a0i:FF prog 104 1 1:=f_w
theorem b7b:FF prog 108 0 0:=f_w
theorem a5S:FF prog 114 0 0:=f_w
theorem b3r:FF prog 114 1 1:=f_w
theorem b3s:FF prog 114 2 2:=f_w
theorem b0m:FF prog 114 3 3:=f_w
theorem a1E:FF prog 118 0 0:=f_w
theorem a5T:FF prog 118 1 1:=f_w
theorem Q5:FF prog 128 0 0:=f_w
theorem a2G:FF prog 128 1 1:=f_w
theorem a3z:FF prog 135 0 0:=f_w
theorem b0n:FF prog 135 1 1:=f_w
theorem a2H:FF prog 140 0 0:=f_w
theorem b0o:FF prog 140 1 1:=f_w
theorem a4J:FF prog 153 0 0:=f_w
theorem a3A:FF prog 153 1 1:=f_w
theorem a7M:FF prog 161 0 0:=f_w
theorem a2I:FF prog 161 1 2:=f_w
theorem b3u:FF prog 252 0 0:=f_w
theorem b7c:FF prog 252 1 1:=f_w
theorem b7e:FF prog 252 2 2:=f_w
theorem b7g:FF prog 252 3 3:=f_w
theorem b7h:FF prog 252 4 4:=f_w
theorem b0p:FF prog 252 5 5:=f_w
theorem b7i:FF prog 252 6 6:=f_w
theorem b7j:FF prog 252 7 7:=f_w
theorem b0q:FF prog 257 0 0:=f_w
theorem a5U:FF prog 257 1 1:=f_w
theorem b8z:FG prog 43 1 41 1:=by unfold FG;kernel_rfl
theorem c0J:Q3 prog 38=some [(0,1),(1,1)]:=by kernel_rfl
theorem b81:Q3 prog 43=some [(0,1),(1,1)]:=by kernel_rfl
theorem c0K:Q3 prog 58=some [(0,1),(1,1),(2,1),(3,1),(4,1),(5,1)]:=by kernel_rfl
theorem b15:Q3 prog 64=some [(0,1),(1,1),(2,1)]:=by kernel_rfl
theorem b95:Q3 prog 97=some [(0,1),(1,1),(2,1)]:=by kernel_rfl
theorem b31:Q3 prog 104=some [(0,1),(1,1)]:=by kernel_rfl
theorem b92:Q3 prog 108=some [(0,1),(1,1)]:=by kernel_rfl
theorem b8b:Q3 prog 114=some [(0,1),(1,1),(2,1),(3,1)]:=by kernel_rfl
theorem b8c:Q3 prog 118=some [(0,1),(1,1)]:=by kernel_rfl
theorem b32:Q3 prog 128=some [(0,1),(1,1)]:=by kernel_rfl
theorem b8e:Q3 prog 135=some [(0,1),(1,1)]:=by kernel_rfl
theorem b8g:Q3 prog 140=some [(0,1),(1,1)]:=by kernel_rfl
theorem b8h:Q3 prog 153=some [(0,1),(1,1)]:=by kernel_rfl
theorem b93:Q3 prog 161=some [(0,2),(2,2)]:=by kernel_rfl
theorem b94:Q3 prog 257=some [(0,1),(1,1)]:=by kernel_rfl
theorem sortLay88:SlLaysF0.n6 prog Tryz.sortLay88_ren:=Tryz.sortLay88
theorem b21 (p:Option Addr)(cap:Nat)(fv:Value)(w:World):Calls prog (Tryz.sortLay88_ren.f 6) #[.slice p 0 cap,fv] w fun e w'=>e= .returned (.tuple #[])∧w'=w:=Go.Proofs.AnyF.slices_SortFunc_none sortLay88 p cap fv w
theorem c0e:q9 prog 13:=J2 func13
theorem b8p:q9 prog 14:=J2 func14
theorem b6Y:q9 prog 15:=J2 func15
theorem c0g:q9 prog 16:=J2 func16
theorem c0h:q9 prog 17:=J2 func17
theorem c0i:q9 prog 18:=J2 func18
theorem b8q:q9 prog 19:=J2 func19
theorem c0j:q9 prog 20:=J2 func20
theorem c0k:q9 prog 21:=J2 func21
theorem c0l:q9 prog 39:=J2 func39
theorem c0m:q9 prog 40:=J2 func40
theorem b9O:q9 prog 41:=J2 func41
theorem b5I:q9 prog 42:=J2 func42
theorem b6Z:q9 prog 43:=J2 func43
theorem b9P:q9 prog 44:=J2 func44
theorem c0n:q9 prog 45:=J2 func45
theorem c0o:q9 prog 46:=J2 func46
theorem c0p:q9 prog 47:=J2 func47
theorem a5l:q9 prog 48:=J2 func48
theorem b5J:q9 prog 49:=J2 func49
theorem c0q:q9 prog 50:=J2 func50
theorem c0r:q9 prog 51:=J2 func51
theorem c0s:q9 prog 52:=J2 func52
theorem b8r:q9 prog 53:=J2 func53
theorem b9Q:q9 prog 54:=J2 func54
theorem b9R:q9 prog 55:=J2 func55
theorem b8s:q9 prog 56:=J2 func56
theorem c0u:q9 prog 57:=J2 func57
theorem b8u:q9 prog 58:=J2 func58
theorem b60:q9 prog 59:=J2 func59
theorem b5K:q9 prog 60:=J2 func60
theorem b9S:q9 prog 66:=J2 func66
theorem c0v:q9 prog 67:=J2 func67
theorem c0w:q9 prog 80:=J2 func80
theorem a5m:q9 prog 81:=J2 func81
theorem c0x:q9 prog 82:=J2 func82
theorem a19:q9 prog 83:=J2 func83
theorem b8v:q9 prog 84:=J2 func84
theorem b5L:q9 prog 85:=J2 func85
theorem c0y:q9 prog 86:=J2 func86
theorem c0z:q9 prog 87:=J2 func87
theorem c0A:q9 prog 88:=J2 func88
theorem c0B:q9 prog 90:=J2 func90
theorem b9T:q9 prog 91:=J2 func91
theorem c0C:q9 prog 92:=J2 func92
theorem c0D:q9 prog 93:=J2 func93
theorem b61:q9 prog 94:=J2 func94
theorem b62:q9 prog 95:=J2 func95
theorem c0E:q9 prog 96:=J2 func96
theorem b9U:q9 prog 97:=J2 func97
theorem c0F:q9 prog 98:=J2 func98
theorem c0G:q9 prog 99:=J2 func99
theorem b1c:q9 prog 100:=J2 func100
theorem b5C:q9 prog 101:=J2 func101
theorem a9A:q9 prog 105:=J2 func105
theorem b7U:q9 prog 106:=J2 func106
theorem a8b:q9 prog 107:=J2 func107
theorem b89:q9 prog 108:=J2 func108
theorem b5D:q9 prog 109:=J2 func109
theorem b9a:q9 prog 110:=J2 func110
theorem b9b:q9 prog 111:=J2 func111
theorem b5E:q9 prog 114:=J2 func114
theorem b9c:q9 prog 115:=J2 func115
theorem b9e:q9 prog 120:=J2 func120
theorem b9g:q9 prog 121:=J2 func121
theorem b9h:q9 prog 129:=J2 func129
theorem b9i:q9 prog 130:=J2 func130
theorem b9j:q9 prog 131:=J2 func131
theorem b9k:q9 prog 132:=J2 func132
theorem b9l:q9 prog 133:=J2 func133
theorem b9m:q9 prog 134:=J2 func134
theorem b9n:q9 prog 135:=J2 func135
theorem b7V:q9 prog 138:=J2 func138
theorem b9o:q9 prog 139:=J2 func139
theorem b9p:q9 prog 140:=J2 func140
theorem b9q:q9 prog 141:=J2 func141
theorem b9r:q9 prog 142:=J2 func142
theorem b9s:q9 prog 143:=J2 func143
theorem b9u:q9 prog 144:=J2 func144
theorem b7W:q9 prog 145:=J2 func145
theorem b5F:q9 prog 146:=J2 func146
theorem b9v:q9 prog 147:=J2 func147
theorem b7X:q9 prog 148:=J2 func148
theorem b9w:q9 prog 149:=J2 func149
theorem b9x:q9 prog 150:=J2 func150
theorem b5G:q9 prog 151:=J2 func151
theorem b9y:q9 prog 152:=J2 func152
theorem b9z:q9 prog 155:=J2 func155
theorem b9A:q9 prog 156:=J2 func156
theorem b7Y:q9 prog 160:=J2 func160
theorem b7Z:q9 prog 167:=J2 func167
theorem b9B:q9 prog 175:=J2 func175
theorem b9C:q9 prog 176:=J2 func176
theorem b70:q9 prog 187:=J2 func187
theorem b71:q9 prog 188:=J2 func188
theorem b9D:q9 prog 189:=J2 func189
theorem b72:q9 prog 190:=J2 func190
theorem b5H:q9 prog 191:=J2 func191
theorem b3n:q9 prog 192:=J2 func192
theorem b3o:q9 prog 193:=J2 func193
theorem b9E:q9 prog 194:=J2 func194
theorem b9F:q9 prog 195:=J2 func195
theorem b1e:q9 prog 196:=J2 func196
theorem b73:q9 prog 202:=J2 func202
theorem b74:q9 prog 222:=J2 func222
theorem b9G:q9 prog 228:=J2 func228
theorem b75:q9 prog 229:=J2 func229
theorem b9H:q9 prog 230:=J2 func230
theorem b9I:q9 prog 231:=J2 func231
theorem b9J:q9 prog 237:=J2 func237
theorem b9K:q9 prog 239:=J2 func239
theorem b76:q9 prog 240:=J2 func240
theorem b9L:q9 prog 241:=J2 func241
theorem b9M:q9 prog 242:=J2 func242
theorem b9N:q9 prog 244:=J2 func244
theorem b77:q9 prog 245:=J2 func245
end Go.Proofs.YtpdfkjjmcnhakaaGreatDoor
