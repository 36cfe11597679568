/- The functions checked against the loaded program. -/
import Derived.Test.YtfcgnpphabplbaaGreatDoorMc
import Derived.Test.YtfcgnpphabplbaaGreatDoorMe
import Derived.Test.YtfcgnpphabplbaaGreatDoorProg
set_option linter.unusedVariables false
set_option linter.unusedSimpArgs false
set_option maxRecDepth 100000
namespace Go.Proofs.YtfcgnpphabplbaaGreatDoor
open Go.Ak
def zJg:Nat→Nat
 | 3=>110
 | 8=>9
 | 10=>34
 | 11=>45
 | 14=>32
 | 19=>10
 | 20=>35
 | 34=>59
 | 35=>128
 | 37=>145
 | 38=>33
 | 40=>211
 | 41=>58
 | 42=>60
 | 43=>96
 | 44=>55
 | 45=>56
 | 46=>70
 | 47=>61
 | 48=>88
 | 51=>87
 | 55=>89
 | 57=>82
 | 58=>84
 | 59=>83
 | 60=>146
 | 61=>164
 | 62=>165
 | 63=>57
 | 64=>80
 | 65=>85
 | 66=>86
 | 67=>69
 | 68=>95
 | 69=>76
 | 70=>77
 | 71=>78
 | 72=>97
 | 73=>98
 | 74=>99
 | 75=>100
 | 76=>120
 | 79=>119
 | 80=>16
 | 81=>114
 | 82=>115
 | 83=>116
 | 84=>180
 | 85=>79
 | 86=>81
 | 87=>111
 | 88=>112
 | 89=>113
 | 90=>118
 | 91=>117
 | 92=>108
 | 93=>109
 | 94=>43
 | 95=>44
 | 96=>47
 | 97=>46
 | 98=>139
 | 99=>140
 | 100=>141
 | 101=>137
 | 102=>138
 | 103=>67
 | 104=>68
 | 105=>162
 | 106=>163
 | 107=>157
 | 108=>158
 | 109=>159
 | 110=>160
 | 111=>161
 | 112=>94
 | 113=>174
 | 114=>175
 | 115=>176
 | 116=>178
 | 117=>177
 | 118=>179
 | 119=>170
 | 120=>171
 | 121=>172
 | 122=>173
 | 123=>90
 | 124=>183
 | 125=>184
 | 126=>185
 | 127=>186
 | 128=>187
 | 129=>121
 | 130=>126
 | 131=>127
 | 132=>144
 | 133=>189
 | 134=>190
 | 135=>191
 | 136=>192
 | 137=>193
 | 138=>194
 | 139=>2
 | 140=>1
 | 143=>49
 | 147=>13
 | 148=>42
 | 151=>17
 | 152=>71
 | 153=>38
 | 154=>48
 | 155=>101
 | 156=>3
 | 157=>11
 | 158=>12
 | 159=>4
 | 160=>14
 | 161=>15
 | 162=>5
 | 163=>6
 | 164=>7
 | 165=>18
 | 166=>19
 | 167=>20
 | 168=>21
 | 169=>22
 | 170=>23
 | 171=>25
 | 172=>24
 | 173=>8
 | 174=>26
 | 175=>27
 | 176=>29
 | 177=>28
 | 178=>30
 | 179=>31
 | 180=>36
 | 181=>37
 | 182=>39
 | 183=>40
 | 184=>41
 | 185=>52
 | 186=>53
 | 187=>50
 | 188=>51
 | 189=>54
 | 190=>63
 | 191=>62
 | 192=>65
 | 193=>66
 | 194=>72
 | 195=>73
 | 196=>74
 | 197=>75
 | 198=>64
 | 199=>91
 | 200=>92
 | 201=>93
 | 202=>102
 | 203=>103
 | 204=>104
 | 205=>105
 | 206=>106
 | 207=>107
 | 208=>122
 | 209=>123
 | 210=>124
 | 211=>129
 | 212=>130
 | 213=>131
 | 214=>132
 | 215=>133
 | 216=>134
 | 217=>135
 | 218=>143
 | 219=>148
 | 220=>149
 | 221=>150
 | 222=>152
 | 223=>151
 | 224=>154
 | 225=>153
 | 226=>155
 | 227=>136
 | 228=>156
 | 229=>147
 | 230=>166
 | 231=>167
 | 232=>168
 | 233=>169
 | 234=>181
 | 235=>182
 | 236=>188
 | 237=>219
 | _=>0
def zxw:Nat→Nat
 | 1=>119
 | 4=>133
 | 5=>5
 | 6=>9
 | _=>0
noncomputable def zaj (G:Nat→Option Obj):Tr:=⟨Tryz.prog,zJg,zxw,G⟩
theorem zJ3 (G:Nat→Option Obj):zam (zaj G) a156 Tryz.f3=true:=by kernel_rfl
theorem chk8 (G:Nat→Option Obj):zam (zaj G) a8 Tryz.f9=true:=by kernel_rfl
theorem chk19 (G:Nat→Option Obj):zam (zaj G) a19 Tryz.f10=true:=by kernel_rfl
theorem zJ2 (G:Nat→Option Obj):zam (zaj G) a157 Tryz.f11=true:=by kernel_rfl
theorem zJ1 (G:Nat→Option Obj):zam (zaj G) a158 Tryz.f12=true:=by kernel_rfl
theorem zJ8 (G:Nat→Option Obj):zam (zaj G) a147 Tryz.f13=true:=by kernel_rfl
theorem chk14 (G:Nat→Option Obj):zam (zaj G) a14 Tryz.f32=true:=by kernel_rfl
theorem chk38 (G:Nat→Option Obj):zam (zaj G) a38 Tryz.f33=true:=by kernel_rfl
theorem chk10 (G:Nat→Option Obj):zam (zaj G) a10 Tryz.f34=true:=by kernel_rfl
theorem chk20 (G:Nat→Option Obj):zam (zaj G) a20 Tryz.f35=true:=by kernel_rfl
theorem zJ0 (G:Nat→Option Obj):zam (zaj G) a180 Tryz.f36=true:=by kernel_rfl
theorem zJ5 (G:Nat→Option Obj):zam (zaj G) a153 Tryz.f38=true:=by kernel_rfl
theorem zJZ (G:Nat→Option Obj):zam (zaj G) a183 Tryz.f40=true:=by kernel_rfl
theorem zJ7 (G:Nat→Option Obj):zam (zaj G) a148 Tryz.f42=true:=by kernel_rfl
theorem chk95 (G:Nat→Option Obj):zam (zaj G) a95 Tryz.f44=true:=by kernel_rfl
theorem zJ9 (G:Nat→Option Obj):zam (zaj G) a143 Tryz.f49=true:=by kernel_rfl
theorem chk44 (G:Nat→Option Obj):zam (zaj G) a44 Tryz.f55=true:=by kernel_rfl
theorem chk45 (G:Nat→Option Obj):zam (zaj G) a45 Tryz.f56=true:=by kernel_rfl
theorem chk63 (G:Nat→Option Obj):zam (zaj G) a63 Tryz.f57=true:=by kernel_rfl
theorem chk34 (G:Nat→Option Obj):zam (zaj G) a34 Tryz.f59=true:=by kernel_rfl
theorem chk42 (G:Nat→Option Obj):zam (zaj G) a42 Tryz.f60=true:=by kernel_rfl
theorem chk47 (G:Nat→Option Obj):zam (zaj G) a47 Tryz.f61=true:=by kernel_rfl
theorem zJY (G:Nat→Option Obj):zam (zaj G) a193 Tryz.f66=true:=by kernel_rfl
theorem zKD (G:Nat→Option Obj):zam (zaj G) a104 Tryz.f68=true:=by kernel_rfl
theorem chk46 (G:Nat→Option Obj):zam (zaj G) a46 Tryz.f70=true:=by kernel_rfl
theorem zJ6 (G:Nat→Option Obj):zam (zaj G) a152 Tryz.f71=true:=by kernel_rfl
theorem chk69 (G:Nat→Option Obj):zam (zaj G) a69 Tryz.f76=true:=by kernel_rfl
theorem chk70 (G:Nat→Option Obj):zam (zaj G) a70 Tryz.f77=true:=by kernel_rfl
theorem chk71 (G:Nat→Option Obj):zam (zaj G) a71 Tryz.f78=true:=by kernel_rfl
theorem chk85 (G:Nat→Option Obj):zam (zaj G) a85 Tryz.f79=true:=by kernel_rfl
theorem chk86 (G:Nat→Option Obj):zam (zaj G) a86 Tryz.f81=true:=by kernel_rfl
theorem chk57 (G:Nat→Option Obj):zam (zaj G) a57 Tryz.f82=true:=by kernel_rfl
theorem chk59 (G:Nat→Option Obj):zam (zaj G) a59 Tryz.f83=true:=by kernel_rfl
theorem chk58 (G:Nat→Option Obj):zam (zaj G) a58 Tryz.f84=true:=by kernel_rfl
theorem chk65 (G:Nat→Option Obj):zam (zaj G) a65 Tryz.f85=true:=by kernel_rfl
theorem chk66 (G:Nat→Option Obj):zam (zaj G) a66 Tryz.f86=true:=by kernel_rfl
theorem chk51 (G:Nat→Option Obj):zam (zaj G) a51 Tryz.f87=true:=by kernel_rfl
theorem chk48 (G:Nat→Option Obj):zam (zaj G) a48 Tryz.f88=true:=by kernel_rfl
theorem zKl (G:Nat→Option Obj):zam (zaj G) a123 Tryz.f90=true:=by kernel_rfl
theorem chk43 (G:Nat→Option Obj):zam (zaj G) a43 Tryz.f96=true:=by kernel_rfl
theorem chk72 (G:Nat→Option Obj):zam (zaj G) a72 Tryz.f97=true:=by kernel_rfl
theorem chk73 (G:Nat→Option Obj):zam (zaj G) a73 Tryz.f98=true:=by kernel_rfl
theorem chk74 (G:Nat→Option Obj):zam (zaj G) a74 Tryz.f99=true:=by kernel_rfl
theorem chk75 (G:Nat→Option Obj):zam (zaj G) a75 Tryz.f100=true:=by kernel_rfl
theorem zJ4 (G:Nat→Option Obj):zam (zaj G) a155 Tryz.f101=true:=by kernel_rfl
theorem chk92 (G:Nat→Option Obj):zam (zaj G) a92 Tryz.f108=true:=by kernel_rfl
theorem chk93 (G:Nat→Option Obj):zam (zaj G) a93 Tryz.f109=true:=by kernel_rfl
theorem chk3 (G:Nat→Option Obj):zam (zaj G) a3 Tryz.f110=true:=by kernel_rfl
theorem chk87 (G:Nat→Option Obj):zam (zaj G) a87 Tryz.f111=true:=by kernel_rfl
theorem chk88 (G:Nat→Option Obj):zam (zaj G) a88 Tryz.f112=true:=by kernel_rfl
theorem chk89 (G:Nat→Option Obj):zam (zaj G) a89 Tryz.f113=true:=by kernel_rfl
theorem chk81 (G:Nat→Option Obj):zam (zaj G) a81 Tryz.f114=true:=by kernel_rfl
theorem chk82 (G:Nat→Option Obj):zam (zaj G) a82 Tryz.f115=true:=by kernel_rfl
theorem chk83 (G:Nat→Option Obj):zam (zaj G) a83 Tryz.f116=true:=by kernel_rfl
theorem chk91 (G:Nat→Option Obj):zam (zaj G) a91 Tryz.f117=true:=by kernel_rfl
theorem chk90 (G:Nat→Option Obj):zam (zaj G) a90 Tryz.f118=true:=by kernel_rfl
theorem chk76 (G:Nat→Option Obj):zam (zaj G) a76 Tryz.f120=true:=by kernel_rfl
theorem chk35 (G:Nat→Option Obj):zam (zaj G) a35 Tryz.f128=true:=by kernel_rfl
theorem zKF (G:Nat→Option Obj):zam (zaj G) a101 Tryz.f137=true:=by kernel_rfl
theorem zKE (G:Nat→Option Obj):zam (zaj G) a102 Tryz.f138=true:=by kernel_rfl
theorem chk98 (G:Nat→Option Obj):zam (zaj G) a98 Tryz.f139=true:=by kernel_rfl
theorem chk99 (G:Nat→Option Obj):zam (zaj G) a99 Tryz.f140=true:=by kernel_rfl
theorem zKG (G:Nat→Option Obj):zam (zaj G) a100 Tryz.f141=true:=by kernel_rfl
theorem chk37 (G:Nat→Option Obj):zam (zaj G) a37 Tryz.f145=true:=by kernel_rfl
theorem chk60 (G:Nat→Option Obj):zam (zaj G) a60 Tryz.f146=true:=by kernel_rfl
theorem zKA (G:Nat→Option Obj):zam (zaj G) a107 Tryz.f157=true:=by kernel_rfl
theorem zKz (G:Nat→Option Obj):zam (zaj G) a108 Tryz.f158=true:=by kernel_rfl
theorem zKy (G:Nat→Option Obj):zam (zaj G) a109 Tryz.f159=true:=by kernel_rfl
theorem zKx (G:Nat→Option Obj):zam (zaj G) a110 Tryz.f160=true:=by kernel_rfl
theorem zKw (G:Nat→Option Obj):zam (zaj G) a111 Tryz.f161=true:=by kernel_rfl
theorem zKC (G:Nat→Option Obj):zam (zaj G) a105 Tryz.f162=true:=by kernel_rfl
theorem zKB (G:Nat→Option Obj):zam (zaj G) a106 Tryz.f163=true:=by kernel_rfl
theorem chk61 (G:Nat→Option Obj):zam (zaj G) a61 Tryz.f164=true:=by kernel_rfl
theorem chk62 (G:Nat→Option Obj):zam (zaj G) a62 Tryz.f165=true:=by kernel_rfl
theorem zKp (G:Nat→Option Obj):zam (zaj G) a119 Tryz.f170=true:=by kernel_rfl
theorem zKo (G:Nat→Option Obj):zam (zaj G) a120 Tryz.f171=true:=by kernel_rfl
theorem zKn (G:Nat→Option Obj):zam (zaj G) a121 Tryz.f172=true:=by kernel_rfl
theorem zKm (G:Nat→Option Obj):zam (zaj G) a122 Tryz.f173=true:=by kernel_rfl
theorem zKv (G:Nat→Option Obj):zam (zaj G) a113 Tryz.f174=true:=by kernel_rfl
theorem zKu (G:Nat→Option Obj):zam (zaj G) a114 Tryz.f175=true:=by kernel_rfl
theorem zKt (G:Nat→Option Obj):zam (zaj G) a115 Tryz.f176=true:=by kernel_rfl
theorem zKr (G:Nat→Option Obj):zam (zaj G) a117 Tryz.f177=true:=by kernel_rfl
theorem zKs (G:Nat→Option Obj):zam (zaj G) a116 Tryz.f178=true:=by kernel_rfl
theorem zKq (G:Nat→Option Obj):zam (zaj G) a118 Tryz.f179=true:=by kernel_rfl
theorem chk84 (G:Nat→Option Obj):zam (zaj G) a84 Tryz.f180=true:=by kernel_rfl
theorem zKk (G:Nat→Option Obj):zam (zaj G) a124 Tryz.f183=true:=by kernel_rfl
theorem zKj (G:Nat→Option Obj):zam (zaj G) a125 Tryz.f184=true:=by kernel_rfl
theorem zKi (G:Nat→Option Obj):zam (zaj G) a126 Tryz.f185=true:=by kernel_rfl
theorem zKh (G:Nat→Option Obj):zam (zaj G) a127 Tryz.f186=true:=by kernel_rfl
theorem zKg (G:Nat→Option Obj):zam (zaj G) a128 Tryz.f187=true:=by kernel_rfl
theorem zKf (G:Nat→Option Obj):zam (zaj G) a133 Tryz.f189=true:=by kernel_rfl
theorem zKe (G:Nat→Option Obj):zam (zaj G) a134 Tryz.f190=true:=by kernel_rfl
theorem zKd (G:Nat→Option Obj):zam (zaj G) a135 Tryz.f191=true:=by kernel_rfl
theorem zKc (G:Nat→Option Obj):zam (zaj G) a136 Tryz.f192=true:=by kernel_rfl
theorem zKb (G:Nat→Option Obj):zam (zaj G) a137 Tryz.f193=true:=by kernel_rfl
theorem zKa (G:Nat→Option Obj):zam (zaj G) a138 Tryz.f194=true:=by kernel_rfl
set_option maxRecDepth 100000 in
theorem zB4 (G:Nat→Option Obj):FsOK (zaj G) fsT:=by
 intro f F h
 unfold fsT at h
 split at h
 ·cases h;exact ⟨Tryz.f3,Tryz.func3,zJ3 G,by kernel_rfl⟩
 ·cases h;exact ⟨Tryz.f9,Tryz.func9,chk8 G,by kernel_rfl⟩
 ·cases h;exact ⟨Tryz.f10,Tryz.func10,chk19 G,by kernel_rfl⟩
 ·cases h;exact ⟨Tryz.f11,Tryz.func11,zJ2 G,by kernel_rfl⟩
 ·cases h;exact ⟨Tryz.f12,Tryz.func12,zJ1 G,by kernel_rfl⟩
 ·cases h;exact ⟨Tryz.f13,Tryz.func13,zJ8 G,by kernel_rfl⟩
 ·cases h;exact ⟨Tryz.f32,Tryz.func32,chk14 G,by kernel_rfl⟩
 ·cases h;exact ⟨Tryz.f33,Tryz.func33,chk38 G,by kernel_rfl⟩
 ·cases h;exact ⟨Tryz.f34,Tryz.func34,chk10 G,by kernel_rfl⟩
 ·cases h;exact ⟨Tryz.f35,Tryz.func35,chk20 G,by kernel_rfl⟩
 ·cases h;exact ⟨Tryz.f36,Tryz.func36,zJ0 G,by kernel_rfl⟩
 ·cases h;exact ⟨Tryz.f38,Tryz.func38,zJ5 G,by kernel_rfl⟩
 ·cases h;exact ⟨Tryz.f40,Tryz.func40,zJZ G,by kernel_rfl⟩
 ·cases h;exact ⟨Tryz.f42,Tryz.func42,zJ7 G,by kernel_rfl⟩
 ·cases h;exact ⟨Tryz.f44,Tryz.func44,chk95 G,by kernel_rfl⟩
 ·cases h;exact ⟨Tryz.f49,Tryz.func49,zJ9 G,by kernel_rfl⟩
 ·cases h;exact ⟨Tryz.f55,Tryz.func55,chk44 G,by kernel_rfl⟩
 ·cases h;exact ⟨Tryz.f56,Tryz.func56,chk45 G,by kernel_rfl⟩
 ·cases h;exact ⟨Tryz.f57,Tryz.func57,chk63 G,by kernel_rfl⟩
 ·cases h;exact ⟨Tryz.f59,Tryz.func59,chk34 G,by kernel_rfl⟩
 ·cases h;exact ⟨Tryz.f60,Tryz.func60,chk42 G,by kernel_rfl⟩
 ·cases h;exact ⟨Tryz.f61,Tryz.func61,chk47 G,by kernel_rfl⟩
 ·cases h;exact ⟨Tryz.f66,Tryz.func66,zJY G,by kernel_rfl⟩
 ·cases h;exact ⟨Tryz.f68,Tryz.func68,zKD G,by kernel_rfl⟩
 ·cases h;exact ⟨Tryz.f70,Tryz.func70,chk46 G,by kernel_rfl⟩
 ·cases h;exact ⟨Tryz.f71,Tryz.func71,zJ6 G,by kernel_rfl⟩
 ·cases h;exact ⟨Tryz.f76,Tryz.func76,chk69 G,by kernel_rfl⟩
 ·cases h;exact ⟨Tryz.f77,Tryz.func77,chk70 G,by kernel_rfl⟩
 ·cases h;exact ⟨Tryz.f78,Tryz.func78,chk71 G,by kernel_rfl⟩
 ·cases h;exact ⟨Tryz.f79,Tryz.func79,chk85 G,by kernel_rfl⟩
 ·cases h;exact ⟨Tryz.f81,Tryz.func81,chk86 G,by kernel_rfl⟩
 ·cases h;exact ⟨Tryz.f82,Tryz.func82,chk57 G,by kernel_rfl⟩
 ·cases h;exact ⟨Tryz.f83,Tryz.func83,chk59 G,by kernel_rfl⟩
 ·cases h;exact ⟨Tryz.f84,Tryz.func84,chk58 G,by kernel_rfl⟩
 ·cases h;exact ⟨Tryz.f85,Tryz.func85,chk65 G,by kernel_rfl⟩
 ·cases h;exact ⟨Tryz.f86,Tryz.func86,chk66 G,by kernel_rfl⟩
 ·cases h;exact ⟨Tryz.f87,Tryz.func87,chk51 G,by kernel_rfl⟩
 ·cases h;exact ⟨Tryz.f88,Tryz.func88,chk48 G,by kernel_rfl⟩
 ·cases h;exact ⟨Tryz.f90,Tryz.func90,zKl G,by kernel_rfl⟩
 ·cases h;exact ⟨Tryz.f96,Tryz.func96,chk43 G,by kernel_rfl⟩
 ·cases h;exact ⟨Tryz.f97,Tryz.func97,chk72 G,by kernel_rfl⟩
 ·cases h;exact ⟨Tryz.f98,Tryz.func98,chk73 G,by kernel_rfl⟩
 ·cases h;exact ⟨Tryz.f99,Tryz.func99,chk74 G,by kernel_rfl⟩
 ·cases h;exact ⟨Tryz.f100,Tryz.func100,chk75 G,by kernel_rfl⟩
 ·cases h;exact ⟨Tryz.f101,Tryz.func101,zJ4 G,by kernel_rfl⟩
 ·cases h;exact ⟨Tryz.f108,Tryz.func108,chk92 G,by kernel_rfl⟩
 ·cases h;exact ⟨Tryz.f109,Tryz.func109,chk93 G,by kernel_rfl⟩
 ·cases h;exact ⟨Tryz.f110,Tryz.func110,chk3 G,by kernel_rfl⟩
 ·cases h;exact ⟨Tryz.f111,Tryz.func111,chk87 G,by kernel_rfl⟩
 ·cases h;exact ⟨Tryz.f112,Tryz.func112,chk88 G,by kernel_rfl⟩
 ·cases h;exact ⟨Tryz.f113,Tryz.func113,chk89 G,by kernel_rfl⟩
 ·cases h;exact ⟨Tryz.f114,Tryz.func114,chk81 G,by kernel_rfl⟩
 ·cases h;exact ⟨Tryz.f115,Tryz.func115,chk82 G,by kernel_rfl⟩
 ·cases h;exact ⟨Tryz.f116,Tryz.func116,chk83 G,by kernel_rfl⟩
 ·cases h;exact ⟨Tryz.f117,Tryz.func117,chk91 G,by kernel_rfl⟩
 ·cases h;exact ⟨Tryz.f118,Tryz.func118,chk90 G,by kernel_rfl⟩
 ·cases h;exact ⟨Tryz.f120,Tryz.func120,chk76 G,by kernel_rfl⟩
 ·cases h;exact ⟨Tryz.f128,Tryz.func128,chk35 G,by kernel_rfl⟩
 ·cases h;exact ⟨Tryz.f137,Tryz.func137,zKF G,by kernel_rfl⟩
 ·cases h;exact ⟨Tryz.f138,Tryz.func138,zKE G,by kernel_rfl⟩
 ·cases h;exact ⟨Tryz.f139,Tryz.func139,chk98 G,by kernel_rfl⟩
 ·cases h;exact ⟨Tryz.f140,Tryz.func140,chk99 G,by kernel_rfl⟩
 ·cases h;exact ⟨Tryz.f141,Tryz.func141,zKG G,by kernel_rfl⟩
 ·cases h;exact ⟨Tryz.f145,Tryz.func145,chk37 G,by kernel_rfl⟩
 ·cases h;exact ⟨Tryz.f146,Tryz.func146,chk60 G,by kernel_rfl⟩
 ·cases h;exact ⟨Tryz.f157,Tryz.func157,zKA G,by kernel_rfl⟩
 ·cases h;exact ⟨Tryz.f158,Tryz.func158,zKz G,by kernel_rfl⟩
 ·cases h;exact ⟨Tryz.f159,Tryz.func159,zKy G,by kernel_rfl⟩
 ·cases h;exact ⟨Tryz.f160,Tryz.func160,zKx G,by kernel_rfl⟩
 ·cases h;exact ⟨Tryz.f161,Tryz.func161,zKw G,by kernel_rfl⟩
 ·cases h;exact ⟨Tryz.f162,Tryz.func162,zKC G,by kernel_rfl⟩
 ·cases h;exact ⟨Tryz.f163,Tryz.func163,zKB G,by kernel_rfl⟩
 ·cases h;exact ⟨Tryz.f164,Tryz.func164,chk61 G,by kernel_rfl⟩
 ·cases h;exact ⟨Tryz.f165,Tryz.func165,chk62 G,by kernel_rfl⟩
 ·cases h;exact ⟨Tryz.f170,Tryz.func170,zKp G,by kernel_rfl⟩
 ·cases h;exact ⟨Tryz.f171,Tryz.func171,zKo G,by kernel_rfl⟩
 ·cases h;exact ⟨Tryz.f172,Tryz.func172,zKn G,by kernel_rfl⟩
 ·cases h;exact ⟨Tryz.f173,Tryz.func173,zKm G,by kernel_rfl⟩
 ·cases h;exact ⟨Tryz.f174,Tryz.func174,zKv G,by kernel_rfl⟩
 ·cases h;exact ⟨Tryz.f175,Tryz.func175,zKu G,by kernel_rfl⟩
 ·cases h;exact ⟨Tryz.f176,Tryz.func176,zKt G,by kernel_rfl⟩
 ·cases h;exact ⟨Tryz.f177,Tryz.func177,zKr G,by kernel_rfl⟩
 ·cases h;exact ⟨Tryz.f178,Tryz.func178,zKs G,by kernel_rfl⟩
 ·cases h;exact ⟨Tryz.f179,Tryz.func179,zKq G,by kernel_rfl⟩
 ·cases h;exact ⟨Tryz.f180,Tryz.func180,chk84 G,by kernel_rfl⟩
 ·cases h;exact ⟨Tryz.f183,Tryz.func183,zKk G,by kernel_rfl⟩
 ·cases h;exact ⟨Tryz.f184,Tryz.func184,zKj G,by kernel_rfl⟩
 ·cases h;exact ⟨Tryz.f185,Tryz.func185,zKi G,by kernel_rfl⟩
 ·cases h;exact ⟨Tryz.f186,Tryz.func186,zKh G,by kernel_rfl⟩
 ·cases h;exact ⟨Tryz.f187,Tryz.func187,zKg G,by kernel_rfl⟩
 ·cases h;exact ⟨Tryz.f189,Tryz.func189,zKf G,by kernel_rfl⟩
 ·cases h;exact ⟨Tryz.f190,Tryz.func190,zKe G,by kernel_rfl⟩
 ·cases h;exact ⟨Tryz.f191,Tryz.func191,zKd G,by kernel_rfl⟩
 ·cases h;exact ⟨Tryz.f192,Tryz.func192,zKc G,by kernel_rfl⟩
 ·cases h;exact ⟨Tryz.f193,Tryz.func193,zKb G,by kernel_rfl⟩
 ·cases h;exact ⟨Tryz.f194,Tryz.func194,zKa G,by kernel_rfl⟩
 ·cases h
end Go.Proofs.YtfcgnpphabplbaaGreatDoor
