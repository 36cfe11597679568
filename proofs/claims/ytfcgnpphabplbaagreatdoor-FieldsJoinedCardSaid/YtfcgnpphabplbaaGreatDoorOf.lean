/- The functions checked against the loaded program. -/
import Derived.Test.YtfcgnpphabplbaaGreatDoorOc
import Derived.Test.YtfcgnpphabplbaaGreatDoorOe
import Derived.Test.YtfcgnpphabplbaaGreatDoorProg
set_option linter.unusedVariables false
set_option linter.unusedSimpArgs false
set_option maxRecDepth 100000
namespace Go.Proofs.YtfcgnpphabplbaaGreatDoor
open Go.Ak
def zIy:Nat→Nat
 | 3=>110
 | 8=>9
 | 10=>34
 | 11=>45
 | 14=>32
 | 19=>10
 | 20=>35
 | 34=>59
 | 35=>128
 | 37=>145
 | 38=>33
 | 40=>211
 | 41=>58
 | 42=>60
 | 43=>96
 | 44=>55
 | 45=>56
 | 46=>70
 | 47=>61
 | 48=>88
 | 51=>87
 | 55=>89
 | 57=>82
 | 58=>84
 | 59=>83
 | 60=>146
 | 61=>164
 | 62=>165
 | 63=>57
 | 64=>80
 | 65=>85
 | 66=>86
 | 67=>69
 | 68=>95
 | 69=>76
 | 70=>77
 | 71=>78
 | 72=>97
 | 73=>98
 | 74=>99
 | 75=>100
 | 76=>120
 | 79=>119
 | 80=>16
 | 81=>114
 | 82=>115
 | 83=>116
 | 84=>180
 | 85=>79
 | 86=>81
 | 87=>111
 | 88=>112
 | 89=>113
 | 90=>118
 | 91=>117
 | 92=>108
 | 93=>109
 | 94=>43
 | 95=>44
 | 96=>47
 | 97=>46
 | 98=>139
 | 99=>140
 | 100=>141
 | 101=>137
 | 102=>138
 | 103=>67
 | 104=>68
 | 105=>162
 | 106=>163
 | 107=>157
 | 108=>158
 | 109=>159
 | 110=>160
 | 111=>161
 | 112=>94
 | 113=>174
 | 114=>175
 | 115=>176
 | 116=>178
 | 117=>177
 | 118=>179
 | 119=>170
 | 120=>171
 | 121=>172
 | 122=>173
 | 123=>90
 | 124=>183
 | 125=>184
 | 126=>185
 | 127=>186
 | 128=>187
 | 129=>121
 | 130=>126
 | 131=>127
 | 132=>144
 | 133=>189
 | 134=>190
 | 135=>191
 | 136=>192
 | 137=>193
 | 138=>194
 | 139=>2
 | 140=>1
 | 143=>49
 | 147=>13
 | 148=>42
 | 151=>17
 | 152=>71
 | 153=>38
 | 154=>48
 | 155=>101
 | 156=>3
 | 157=>11
 | 158=>12
 | 159=>4
 | 160=>14
 | 161=>15
 | 162=>5
 | 163=>6
 | 164=>7
 | 165=>18
 | 166=>19
 | 167=>20
 | 168=>21
 | 169=>22
 | 170=>23
 | 171=>25
 | 172=>24
 | 173=>8
 | 174=>26
 | 175=>27
 | 176=>29
 | 177=>28
 | 178=>30
 | 179=>31
 | 180=>36
 | 181=>37
 | 182=>39
 | 183=>40
 | 184=>41
 | 185=>52
 | 186=>53
 | 187=>50
 | 188=>51
 | 189=>54
 | 190=>63
 | 191=>62
 | 192=>65
 | 193=>66
 | 194=>72
 | 195=>73
 | 196=>74
 | 197=>75
 | 198=>64
 | 199=>91
 | 200=>92
 | 201=>93
 | 202=>102
 | 203=>103
 | 204=>104
 | 205=>105
 | 206=>106
 | 207=>107
 | 208=>122
 | 209=>123
 | 210=>124
 | 211=>129
 | 212=>130
 | 213=>131
 | 214=>132
 | 215=>133
 | 216=>134
 | 217=>135
 | 218=>143
 | 219=>148
 | 220=>149
 | 221=>150
 | 222=>152
 | 223=>151
 | 224=>154
 | 225=>153
 | 226=>155
 | 227=>136
 | 228=>156
 | 229=>147
 | 230=>166
 | 231=>167
 | 232=>168
 | 233=>169
 | 234=>181
 | 235=>182
 | 236=>188
 | 237=>219
 | _=>0
def zw8:Nat→Nat
 | 1=>119
 | 4=>133
 | 5=>5
 | 6=>9
 | _=>0
noncomputable def zah (G:Nat→Option Obj):Tr:=⟨Tryz.prog,zIy,zw8,G⟩
theorem zJE (G:Nat→Option Obj):zam (zah G) a164 Tryz.f7=true:=by kernel_rfl
theorem chk8 (G:Nat→Option Obj):zam (zah G) a8 Tryz.f9=true:=by kernel_rfl
theorem zJH (G:Nat→Option Obj):zam (zah G) a157 Tryz.f11=true:=by kernel_rfl
theorem zJG (G:Nat→Option Obj):zam (zah G) a160 Tryz.f14=true:=by kernel_rfl
theorem zJF (G:Nat→Option Obj):zam (zah G) a161 Tryz.f15=true:=by kernel_rfl
theorem zJD (G:Nat→Option Obj):zam (zah G) a165 Tryz.f18=true:=by kernel_rfl
theorem zJC (G:Nat→Option Obj):zam (zah G) a166 Tryz.f19=true:=by kernel_rfl
theorem zJB (G:Nat→Option Obj):zam (zah G) a167 Tryz.f20=true:=by kernel_rfl
theorem zJA (G:Nat→Option Obj):zam (zah G) a168 Tryz.f21=true:=by kernel_rfl
theorem zJz (G:Nat→Option Obj):zam (zah G) a169 Tryz.f22=true:=by kernel_rfl
theorem zJy (G:Nat→Option Obj):zam (zah G) a170 Tryz.f23=true:=by kernel_rfl
theorem zJw (G:Nat→Option Obj):zam (zah G) a172 Tryz.f24=true:=by kernel_rfl
theorem zJx (G:Nat→Option Obj):zam (zah G) a171 Tryz.f25=true:=by kernel_rfl
theorem chk14 (G:Nat→Option Obj):zam (zah G) a14 Tryz.f32=true:=by kernel_rfl
theorem chk38 (G:Nat→Option Obj):zam (zah G) a38 Tryz.f33=true:=by kernel_rfl
theorem chk10 (G:Nat→Option Obj):zam (zah G) a10 Tryz.f34=true:=by kernel_rfl
theorem zJv (G:Nat→Option Obj):zam (zah G) a180 Tryz.f36=true:=by kernel_rfl
theorem zJI (G:Nat→Option Obj):zam (zah G) a153 Tryz.f38=true:=by kernel_rfl
theorem chk95 (G:Nat→Option Obj):zam (zah G) a95 Tryz.f44=true:=by kernel_rfl
theorem zJt (G:Nat→Option Obj):zam (zah G) a188 Tryz.f51=true:=by kernel_rfl
theorem zJu (G:Nat→Option Obj):zam (zah G) a185 Tryz.f52=true:=by kernel_rfl
theorem chk44 (G:Nat→Option Obj):zam (zah G) a44 Tryz.f55=true:=by kernel_rfl
theorem chk45 (G:Nat→Option Obj):zam (zah G) a45 Tryz.f56=true:=by kernel_rfl
theorem chk63 (G:Nat→Option Obj):zam (zah G) a63 Tryz.f57=true:=by kernel_rfl
theorem chk34 (G:Nat→Option Obj):zam (zah G) a34 Tryz.f59=true:=by kernel_rfl
theorem chk42 (G:Nat→Option Obj):zam (zah G) a42 Tryz.f60=true:=by kernel_rfl
theorem zKc (G:Nat→Option Obj):zam (zah G) a104 Tryz.f68=true:=by kernel_rfl
theorem zJs (G:Nat→Option Obj):zam (zah G) a194 Tryz.f72=true:=by kernel_rfl
theorem zJr (G:Nat→Option Obj):zam (zah G) a195 Tryz.f73=true:=by kernel_rfl
theorem chk69 (G:Nat→Option Obj):zam (zah G) a69 Tryz.f76=true:=by kernel_rfl
theorem chk70 (G:Nat→Option Obj):zam (zah G) a70 Tryz.f77=true:=by kernel_rfl
theorem chk71 (G:Nat→Option Obj):zam (zah G) a71 Tryz.f78=true:=by kernel_rfl
theorem chk85 (G:Nat→Option Obj):zam (zah G) a85 Tryz.f79=true:=by kernel_rfl
theorem chk86 (G:Nat→Option Obj):zam (zah G) a86 Tryz.f81=true:=by kernel_rfl
theorem chk57 (G:Nat→Option Obj):zam (zah G) a57 Tryz.f82=true:=by kernel_rfl
theorem chk59 (G:Nat→Option Obj):zam (zah G) a59 Tryz.f83=true:=by kernel_rfl
theorem chk58 (G:Nat→Option Obj):zam (zah G) a58 Tryz.f84=true:=by kernel_rfl
theorem chk65 (G:Nat→Option Obj):zam (zah G) a65 Tryz.f85=true:=by kernel_rfl
theorem chk66 (G:Nat→Option Obj):zam (zah G) a66 Tryz.f86=true:=by kernel_rfl
theorem zJU (G:Nat→Option Obj):zam (zah G) a123 Tryz.f90=true:=by kernel_rfl
theorem chk43 (G:Nat→Option Obj):zam (zah G) a43 Tryz.f96=true:=by kernel_rfl
theorem zJq (G:Nat→Option Obj):zam (zah G) a203 Tryz.f103=true:=by kernel_rfl
theorem zJp (G:Nat→Option Obj):zam (zah G) a204 Tryz.f104=true:=by kernel_rfl
theorem chk92 (G:Nat→Option Obj):zam (zah G) a92 Tryz.f108=true:=by kernel_rfl
theorem chk93 (G:Nat→Option Obj):zam (zah G) a93 Tryz.f109=true:=by kernel_rfl
theorem chk3 (G:Nat→Option Obj):zam (zah G) a3 Tryz.f110=true:=by kernel_rfl
theorem chk87 (G:Nat→Option Obj):zam (zah G) a87 Tryz.f111=true:=by kernel_rfl
theorem chk88 (G:Nat→Option Obj):zam (zah G) a88 Tryz.f112=true:=by kernel_rfl
theorem chk89 (G:Nat→Option Obj):zam (zah G) a89 Tryz.f113=true:=by kernel_rfl
theorem chk81 (G:Nat→Option Obj):zam (zah G) a81 Tryz.f114=true:=by kernel_rfl
theorem chk82 (G:Nat→Option Obj):zam (zah G) a82 Tryz.f115=true:=by kernel_rfl
theorem chk83 (G:Nat→Option Obj):zam (zah G) a83 Tryz.f116=true:=by kernel_rfl
theorem chk91 (G:Nat→Option Obj):zam (zah G) a91 Tryz.f117=true:=by kernel_rfl
theorem chk90 (G:Nat→Option Obj):zam (zah G) a90 Tryz.f118=true:=by kernel_rfl
theorem chk35 (G:Nat→Option Obj):zam (zah G) a35 Tryz.f128=true:=by kernel_rfl
theorem zJo (G:Nat→Option Obj):zam (zah G) a213 Tryz.f131=true:=by kernel_rfl
theorem zJn (G:Nat→Option Obj):zam (zah G) a216 Tryz.f134=true:=by kernel_rfl
theorem zKe (G:Nat→Option Obj):zam (zah G) a101 Tryz.f137=true:=by kernel_rfl
theorem zKd (G:Nat→Option Obj):zam (zah G) a102 Tryz.f138=true:=by kernel_rfl
theorem chk98 (G:Nat→Option Obj):zam (zah G) a98 Tryz.f139=true:=by kernel_rfl
theorem chk99 (G:Nat→Option Obj):zam (zah G) a99 Tryz.f140=true:=by kernel_rfl
theorem zKf (G:Nat→Option Obj):zam (zah G) a100 Tryz.f141=true:=by kernel_rfl
theorem chk37 (G:Nat→Option Obj):zam (zah G) a37 Tryz.f145=true:=by kernel_rfl
theorem chk60 (G:Nat→Option Obj):zam (zah G) a60 Tryz.f146=true:=by kernel_rfl
theorem zJ9 (G:Nat→Option Obj):zam (zah G) a107 Tryz.f157=true:=by kernel_rfl
theorem zJ8 (G:Nat→Option Obj):zam (zah G) a108 Tryz.f158=true:=by kernel_rfl
theorem zJ7 (G:Nat→Option Obj):zam (zah G) a109 Tryz.f159=true:=by kernel_rfl
theorem zJ6 (G:Nat→Option Obj):zam (zah G) a110 Tryz.f160=true:=by kernel_rfl
theorem zJ5 (G:Nat→Option Obj):zam (zah G) a111 Tryz.f161=true:=by kernel_rfl
theorem zKb (G:Nat→Option Obj):zam (zah G) a105 Tryz.f162=true:=by kernel_rfl
theorem zKa (G:Nat→Option Obj):zam (zah G) a106 Tryz.f163=true:=by kernel_rfl
theorem chk61 (G:Nat→Option Obj):zam (zah G) a61 Tryz.f164=true:=by kernel_rfl
theorem chk62 (G:Nat→Option Obj):zam (zah G) a62 Tryz.f165=true:=by kernel_rfl
theorem zJY (G:Nat→Option Obj):zam (zah G) a119 Tryz.f170=true:=by kernel_rfl
theorem zJX (G:Nat→Option Obj):zam (zah G) a120 Tryz.f171=true:=by kernel_rfl
theorem zJW (G:Nat→Option Obj):zam (zah G) a121 Tryz.f172=true:=by kernel_rfl
theorem zJV (G:Nat→Option Obj):zam (zah G) a122 Tryz.f173=true:=by kernel_rfl
theorem zJ4 (G:Nat→Option Obj):zam (zah G) a113 Tryz.f174=true:=by kernel_rfl
theorem zJ3 (G:Nat→Option Obj):zam (zah G) a114 Tryz.f175=true:=by kernel_rfl
theorem zJ2 (G:Nat→Option Obj):zam (zah G) a115 Tryz.f176=true:=by kernel_rfl
theorem zJ0 (G:Nat→Option Obj):zam (zah G) a117 Tryz.f177=true:=by kernel_rfl
theorem zJ1 (G:Nat→Option Obj):zam (zah G) a116 Tryz.f178=true:=by kernel_rfl
theorem zJZ (G:Nat→Option Obj):zam (zah G) a118 Tryz.f179=true:=by kernel_rfl
theorem chk84 (G:Nat→Option Obj):zam (zah G) a84 Tryz.f180=true:=by kernel_rfl
theorem zJT (G:Nat→Option Obj):zam (zah G) a124 Tryz.f183=true:=by kernel_rfl
theorem zJS (G:Nat→Option Obj):zam (zah G) a125 Tryz.f184=true:=by kernel_rfl
theorem zJR (G:Nat→Option Obj):zam (zah G) a126 Tryz.f185=true:=by kernel_rfl
theorem zJQ (G:Nat→Option Obj):zam (zah G) a127 Tryz.f186=true:=by kernel_rfl
theorem zJP (G:Nat→Option Obj):zam (zah G) a128 Tryz.f187=true:=by kernel_rfl
theorem zJO (G:Nat→Option Obj):zam (zah G) a133 Tryz.f189=true:=by kernel_rfl
theorem zJN (G:Nat→Option Obj):zam (zah G) a134 Tryz.f190=true:=by kernel_rfl
theorem zJM (G:Nat→Option Obj):zam (zah G) a135 Tryz.f191=true:=by kernel_rfl
theorem zJL (G:Nat→Option Obj):zam (zah G) a136 Tryz.f192=true:=by kernel_rfl
theorem zJK (G:Nat→Option Obj):zam (zah G) a137 Tryz.f193=true:=by kernel_rfl
theorem zJJ (G:Nat→Option Obj):zam (zah G) a138 Tryz.f194=true:=by kernel_rfl
set_option maxRecDepth 100000 in
theorem zBL (G:Nat→Option Obj):FsOK (zah G) fsT:=by
 intro f F h
 unfold fsT at h
 split at h
 ·cases h;exact ⟨Tryz.f7,Tryz.func7,zJE G,by kernel_rfl⟩
 ·cases h;exact ⟨Tryz.f9,Tryz.func9,chk8 G,by kernel_rfl⟩
 ·cases h;exact ⟨Tryz.f11,Tryz.func11,zJH G,by kernel_rfl⟩
 ·cases h;exact ⟨Tryz.f14,Tryz.func14,zJG G,by kernel_rfl⟩
 ·cases h;exact ⟨Tryz.f15,Tryz.func15,zJF G,by kernel_rfl⟩
 ·cases h;exact ⟨Tryz.f18,Tryz.func18,zJD G,by kernel_rfl⟩
 ·cases h;exact ⟨Tryz.f19,Tryz.func19,zJC G,by kernel_rfl⟩
 ·cases h;exact ⟨Tryz.f20,Tryz.func20,zJB G,by kernel_rfl⟩
 ·cases h;exact ⟨Tryz.f21,Tryz.func21,zJA G,by kernel_rfl⟩
 ·cases h;exact ⟨Tryz.f22,Tryz.func22,zJz G,by kernel_rfl⟩
 ·cases h;exact ⟨Tryz.f23,Tryz.func23,zJy G,by kernel_rfl⟩
 ·cases h;exact ⟨Tryz.f24,Tryz.func24,zJw G,by kernel_rfl⟩
 ·cases h;exact ⟨Tryz.f25,Tryz.func25,zJx G,by kernel_rfl⟩
 ·cases h;exact ⟨Tryz.f32,Tryz.func32,chk14 G,by kernel_rfl⟩
 ·cases h;exact ⟨Tryz.f33,Tryz.func33,chk38 G,by kernel_rfl⟩
 ·cases h;exact ⟨Tryz.f34,Tryz.func34,chk10 G,by kernel_rfl⟩
 ·cases h;exact ⟨Tryz.f36,Tryz.func36,zJv G,by kernel_rfl⟩
 ·cases h;exact ⟨Tryz.f38,Tryz.func38,zJI G,by kernel_rfl⟩
 ·cases h;exact ⟨Tryz.f44,Tryz.func44,chk95 G,by kernel_rfl⟩
 ·cases h;exact ⟨Tryz.f51,Tryz.func51,zJt G,by kernel_rfl⟩
 ·cases h;exact ⟨Tryz.f52,Tryz.func52,zJu G,by kernel_rfl⟩
 ·cases h;exact ⟨Tryz.f55,Tryz.func55,chk44 G,by kernel_rfl⟩
 ·cases h;exact ⟨Tryz.f56,Tryz.func56,chk45 G,by kernel_rfl⟩
 ·cases h;exact ⟨Tryz.f57,Tryz.func57,chk63 G,by kernel_rfl⟩
 ·cases h;exact ⟨Tryz.f59,Tryz.func59,chk34 G,by kernel_rfl⟩
 ·cases h;exact ⟨Tryz.f60,Tryz.func60,chk42 G,by kernel_rfl⟩
 ·cases h;exact ⟨Tryz.f68,Tryz.func68,zKc G,by kernel_rfl⟩
 ·cases h;exact ⟨Tryz.f72,Tryz.func72,zJs G,by kernel_rfl⟩
 ·cases h;exact ⟨Tryz.f73,Tryz.func73,zJr G,by kernel_rfl⟩
 ·cases h;exact ⟨Tryz.f76,Tryz.func76,chk69 G,by kernel_rfl⟩
 ·cases h;exact ⟨Tryz.f77,Tryz.func77,chk70 G,by kernel_rfl⟩
 ·cases h;exact ⟨Tryz.f78,Tryz.func78,chk71 G,by kernel_rfl⟩
 ·cases h;exact ⟨Tryz.f79,Tryz.func79,chk85 G,by kernel_rfl⟩
 ·cases h;exact ⟨Tryz.f81,Tryz.func81,chk86 G,by kernel_rfl⟩
 ·cases h;exact ⟨Tryz.f82,Tryz.func82,chk57 G,by kernel_rfl⟩
 ·cases h;exact ⟨Tryz.f83,Tryz.func83,chk59 G,by kernel_rfl⟩
 ·cases h;exact ⟨Tryz.f84,Tryz.func84,chk58 G,by kernel_rfl⟩
 ·cases h;exact ⟨Tryz.f85,Tryz.func85,chk65 G,by kernel_rfl⟩
 ·cases h;exact ⟨Tryz.f86,Tryz.func86,chk66 G,by kernel_rfl⟩
 ·cases h;exact ⟨Tryz.f90,Tryz.func90,zJU G,by kernel_rfl⟩
 ·cases h;exact ⟨Tryz.f96,Tryz.func96,chk43 G,by kernel_rfl⟩
 ·cases h;exact ⟨Tryz.f103,Tryz.func103,zJq G,by kernel_rfl⟩
 ·cases h;exact ⟨Tryz.f104,Tryz.func104,zJp G,by kernel_rfl⟩
 ·cases h;exact ⟨Tryz.f108,Tryz.func108,chk92 G,by kernel_rfl⟩
 ·cases h;exact ⟨Tryz.f109,Tryz.func109,chk93 G,by kernel_rfl⟩
 ·cases h;exact ⟨Tryz.f110,Tryz.func110,chk3 G,by kernel_rfl⟩
 ·cases h;exact ⟨Tryz.f111,Tryz.func111,chk87 G,by kernel_rfl⟩
 ·cases h;exact ⟨Tryz.f112,Tryz.func112,chk88 G,by kernel_rfl⟩
 ·cases h;exact ⟨Tryz.f113,Tryz.func113,chk89 G,by kernel_rfl⟩
 ·cases h;exact ⟨Tryz.f114,Tryz.func114,chk81 G,by kernel_rfl⟩
 ·cases h;exact ⟨Tryz.f115,Tryz.func115,chk82 G,by kernel_rfl⟩
 ·cases h;exact ⟨Tryz.f116,Tryz.func116,chk83 G,by kernel_rfl⟩
 ·cases h;exact ⟨Tryz.f117,Tryz.func117,chk91 G,by kernel_rfl⟩
 ·cases h;exact ⟨Tryz.f118,Tryz.func118,chk90 G,by kernel_rfl⟩
 ·cases h;exact ⟨Tryz.f128,Tryz.func128,chk35 G,by kernel_rfl⟩
 ·cases h;exact ⟨Tryz.f131,Tryz.func131,zJo G,by kernel_rfl⟩
 ·cases h;exact ⟨Tryz.f134,Tryz.func134,zJn G,by kernel_rfl⟩
 ·cases h;exact ⟨Tryz.f137,Tryz.func137,zKe G,by kernel_rfl⟩
 ·cases h;exact ⟨Tryz.f138,Tryz.func138,zKd G,by kernel_rfl⟩
 ·cases h;exact ⟨Tryz.f139,Tryz.func139,chk98 G,by kernel_rfl⟩
 ·cases h;exact ⟨Tryz.f140,Tryz.func140,chk99 G,by kernel_rfl⟩
 ·cases h;exact ⟨Tryz.f141,Tryz.func141,zKf G,by kernel_rfl⟩
 ·cases h;exact ⟨Tryz.f145,Tryz.func145,chk37 G,by kernel_rfl⟩
 ·cases h;exact ⟨Tryz.f146,Tryz.func146,chk60 G,by kernel_rfl⟩
 ·cases h;exact ⟨Tryz.f157,Tryz.func157,zJ9 G,by kernel_rfl⟩
 ·cases h;exact ⟨Tryz.f158,Tryz.func158,zJ8 G,by kernel_rfl⟩
 ·cases h;exact ⟨Tryz.f159,Tryz.func159,zJ7 G,by kernel_rfl⟩
 ·cases h;exact ⟨Tryz.f160,Tryz.func160,zJ6 G,by kernel_rfl⟩
 ·cases h;exact ⟨Tryz.f161,Tryz.func161,zJ5 G,by kernel_rfl⟩
 ·cases h;exact ⟨Tryz.f162,Tryz.func162,zKb G,by kernel_rfl⟩
 ·cases h;exact ⟨Tryz.f163,Tryz.func163,zKa G,by kernel_rfl⟩
 ·cases h;exact ⟨Tryz.f164,Tryz.func164,chk61 G,by kernel_rfl⟩
 ·cases h;exact ⟨Tryz.f165,Tryz.func165,chk62 G,by kernel_rfl⟩
 ·cases h;exact ⟨Tryz.f170,Tryz.func170,zJY G,by kernel_rfl⟩
 ·cases h;exact ⟨Tryz.f171,Tryz.func171,zJX G,by kernel_rfl⟩
 ·cases h;exact ⟨Tryz.f172,Tryz.func172,zJW G,by kernel_rfl⟩
 ·cases h;exact ⟨Tryz.f173,Tryz.func173,zJV G,by kernel_rfl⟩
 ·cases h;exact ⟨Tryz.f174,Tryz.func174,zJ4 G,by kernel_rfl⟩
 ·cases h;exact ⟨Tryz.f175,Tryz.func175,zJ3 G,by kernel_rfl⟩
 ·cases h;exact ⟨Tryz.f176,Tryz.func176,zJ2 G,by kernel_rfl⟩
 ·cases h;exact ⟨Tryz.f177,Tryz.func177,zJ0 G,by kernel_rfl⟩
 ·cases h;exact ⟨Tryz.f178,Tryz.func178,zJ1 G,by kernel_rfl⟩
 ·cases h;exact ⟨Tryz.f179,Tryz.func179,zJZ G,by kernel_rfl⟩
 ·cases h;exact ⟨Tryz.f180,Tryz.func180,chk84 G,by kernel_rfl⟩
 ·cases h;exact ⟨Tryz.f183,Tryz.func183,zJT G,by kernel_rfl⟩
 ·cases h;exact ⟨Tryz.f184,Tryz.func184,zJS G,by kernel_rfl⟩
 ·cases h;exact ⟨Tryz.f185,Tryz.func185,zJR G,by kernel_rfl⟩
 ·cases h;exact ⟨Tryz.f186,Tryz.func186,zJQ G,by kernel_rfl⟩
 ·cases h;exact ⟨Tryz.f187,Tryz.func187,zJP G,by kernel_rfl⟩
 ·cases h;exact ⟨Tryz.f189,Tryz.func189,zJO G,by kernel_rfl⟩
 ·cases h;exact ⟨Tryz.f190,Tryz.func190,zJN G,by kernel_rfl⟩
 ·cases h;exact ⟨Tryz.f191,Tryz.func191,zJM G,by kernel_rfl⟩
 ·cases h;exact ⟨Tryz.f192,Tryz.func192,zJL G,by kernel_rfl⟩
 ·cases h;exact ⟨Tryz.f193,Tryz.func193,zJK G,by kernel_rfl⟩
 ·cases h;exact ⟨Tryz.f194,Tryz.func194,zJJ G,by kernel_rfl⟩
 ·cases h
end Go.Proofs.YtfcgnpphabplbaaGreatDoor
