/- The functions checked against the loaded program. -/
import Derived.Test.YtfcgnpphabplbaaGreatDoorXc
import Derived.Test.YtfcgnpphabplbaaGreatDoorYe
import Derived.Test.YtfcgnpphabplbaaGreatDoorProg
set_option linter.unusedVariables false
set_option linter.unusedSimpArgs false

set_option maxRecDepth 100000

namespace Go.Proofs.YtfcgnpphabplbaaGreatDoor
open Go.Ak

def fmTryz:Nat→Nat
 | 3=>110
 | 8=>9
 | 10=>34
 | 11=>45
 | 14=>32
 | 19=>10
 | 20=>35
 | 34=>59
 | 35=>128
 | 37=>145
 | 38=>33
 | 40=>211
 | 41=>58
 | 42=>60
 | 43=>96
 | 44=>55
 | 45=>56
 | 46=>70
 | 47=>61
 | 48=>88
 | 51=>87
 | 55=>89
 | 57=>82
 | 58=>84
 | 59=>83
 | 60=>146
 | 61=>164
 | 62=>165
 | 63=>57
 | 64=>80
 | 65=>85
 | 66=>86
 | 67=>69
 | 68=>95
 | 69=>76
 | 70=>77
 | 71=>78
 | 72=>97
 | 73=>98
 | 74=>99
 | 75=>100
 | 76=>120
 | 79=>119
 | 80=>16
 | 81=>114
 | 82=>115
 | 83=>116
 | 84=>180
 | 85=>79
 | 86=>81
 | 87=>111
 | 88=>112
 | 89=>113
 | 90=>118
 | 91=>117
 | 92=>108
 | 93=>109
 | 94=>43
 | 95=>44
 | 96=>47
 | 97=>46
 | 98=>139
 | 99=>140
 | 100=>141
 | 101=>137
 | 102=>138
 | 103=>67
 | 104=>68
 | 105=>162
 | 106=>163
 | 107=>157
 | 108=>158
 | 109=>159
 | 110=>160
 | 111=>161
 | 112=>94
 | 113=>174
 | 114=>175
 | 115=>176
 | 116=>178
 | 117=>177
 | 118=>179
 | 119=>170
 | 120=>171
 | 121=>172
 | 122=>173
 | 123=>90
 | 124=>183
 | 125=>184
 | 126=>185
 | 127=>186
 | 128=>187
 | 129=>121
 | 130=>126
 | 131=>127
 | 132=>144
 | 133=>189
 | 134=>190
 | 135=>191
 | 136=>192
 | 137=>193
 | 138=>194
 | 139=>2
 | 140=>1
 | 143=>49
 | 147=>13
 | 148=>42
 | 151=>17
 | 152=>71
 | 153=>38
 | 154=>48
 | 155=>101
 | 156=>3
 | 157=>11
 | 158=>12
 | 159=>4
 | 160=>14
 | 161=>15
 | 162=>5
 | 163=>6
 | 164=>7
 | 165=>18
 | 166=>19
 | 167=>20
 | 168=>21
 | 169=>22
 | 170=>23
 | 171=>25
 | 172=>24
 | 173=>8
 | 174=>26
 | 175=>27
 | 176=>29
 | 177=>28
 | 178=>30
 | 179=>31
 | 180=>36
 | 181=>37
 | 182=>39
 | 183=>40
 | 184=>41
 | 185=>52
 | 186=>53
 | 187=>50
 | 188=>51
 | 189=>54
 | 190=>63
 | 191=>62
 | 192=>65
 | 193=>66
 | 194=>72
 | 195=>73
 | 196=>74
 | 197=>75
 | 198=>64
 | 199=>91
 | 200=>92
 | 201=>93
 | 202=>102
 | 203=>103
 | 204=>104
 | 205=>105
 | 206=>106
 | 207=>107
 | 208=>122
 | 209=>123
 | 210=>124
 | 211=>129
 | 212=>130
 | 213=>131
 | 214=>132
 | 215=>133
 | 216=>134
 | 217=>135
 | 218=>143
 | 219=>148
 | 220=>149
 | 221=>150
 | 222=>152
 | 223=>151
 | 224=>154
 | 225=>153
 | 226=>155
 | 227=>136
 | 228=>156
 | 229=>147
 | 230=>166
 | 231=>167
 | 232=>168
 | 233=>169
 | 234=>181
 | 235=>182
 | 236=>188
 | 237=>219
 | _=>0

def tmTryz:Nat→Nat
 | 1=>119
 | 4=>133
 | 5=>5
 | 6=>9
 | _=>0

noncomputable def zaa (G:Nat→Option Obj):Tr:=⟨Tryz.prog,fmTryz,tmTryz,G⟩

/-- auklet/aukletlaw09.FieldsAll -/
theorem chk162 (G:Nat→Option Obj):zac (zaa G) a162 Tryz.f5=true:=by kernel_rfl
/-- auklet/subst.At -/
theorem chk157 (G:Nat→Option Obj):zac (zaa G) a157 Tryz.f11=true:=by kernel_rfl
/-- auklet/aukletlaw09.lives -/
theorem chk161 (G:Nat→Option Obj):zac (zaa G) a161 Tryz.f15=true:=by kernel_rfl
/-- auklet/fields.Next -/
theorem chk80 (G:Nat→Option Obj):zac (zaa G) a80 Tryz.f16=true:=by kernel_rfl
/-- auklet/fields.New -/
theorem chk165 (G:Nat→Option Obj):zac (zaa G) a165 Tryz.f18=true:=by kernel_rfl
/-- (*auklet/fields.Rec).Take -/
theorem chk167 (G:Nat→Option Obj):zac (zaa G) a167 Tryz.f20=true:=by kernel_rfl
/-- (*auklet/fields.Rec).Set -/
theorem chk168 (G:Nat→Option Obj):zac (zaa G) a168 Tryz.f21=true:=by kernel_rfl
/-- (*auklet/fields.Rec).Many -/
theorem chk169 (G:Nat→Option Obj):zac (zaa G) a169 Tryz.f22=true:=by kernel_rfl
/-- (*auklet/fields.Rec).Text -/
theorem chk172 (G:Nat→Option Obj):zac (zaa G) a172 Tryz.f24=true:=by kernel_rfl
/-- auklet/match.New -/
theorem chk10 (G:Nat→Option Obj):zac (zaa G) a10 Tryz.f34=true:=by kernel_rfl
/-- auklet/text.Words -/
theorem chk180 (G:Nat→Option Obj):zac (zaa G) a180 Tryz.f36=true:=by kernel_rfl
/-- auklet/subst.split -/
theorem chk153 (G:Nat→Option Obj):zac (zaa G) a153 Tryz.f38=true:=by kernel_rfl
/-- auklet/fields.block -/
theorem chk94 (G:Nat→Option Obj):zac (zaa G) a94 Tryz.f43=true:=by kernel_rfl
/-- strings.Cut -/
theorem chk95 (G:Nat→Option Obj):zac (zaa G) a95 Tryz.f44=true:=by kernel_rfl
/-- slices.IndexFunc[[][2]int,[2]int] -/
theorem chk97 (G:Nat→Option Obj):zac (zaa G) a97 Tryz.f46=true:=by kernel_rfl
/-- auklet/fields.Next$1 -/
theorem chk96 (G:Nat→Option Obj):zac (zaa G) a96 Tryz.f47=true:=by kernel_rfl
/-- (*auklet/fields.Rec).join -/
theorem chk188 (G:Nat→Option Obj):zac (zaa G) a188 Tryz.f51=true:=by kernel_rfl
/-- auklet/nfa.Build -/
theorem chk34 (G:Nat→Option Obj):zac (zaa G) a34 Tryz.f59=true:=by kernel_rfl
/-- auklet/ere.Least -/
theorem chk42 (G:Nat→Option Obj):zac (zaa G) a42 Tryz.f60=true:=by kernel_rfl
/-- auklet/text.Words$1 -/
theorem chk190 (G:Nat→Option Obj):zac (zaa G) a190 Tryz.f63=true:=by kernel_rfl
/-- strings.IndexByte -/
theorem chk198 (G:Nat→Option Obj):zac (zaa G) a198 Tryz.f64=true:=by kernel_rfl
/-- auklet/fields.feeds -/
theorem chk103 (G:Nat→Option Obj):zac (zaa G) a103 Tryz.f67=true:=by kernel_rfl
/-- internal/stringslite.Cut -/
theorem chk104 (G:Nat→Option Obj):zac (zaa G) a104 Tryz.f68=true:=by kernel_rfl
/-- auklet/subst.Join -/
theorem chk194 (G:Nat→Option Obj):zac (zaa G) a194 Tryz.f72=true:=by kernel_rfl
/-- (*auklet/ere.reader).pattern -/
theorem chk86 (G:Nat→Option Obj):zac (zaa G) a86 Tryz.f81=true:=by kernel_rfl
/-- auklet/nfa.states -/
theorem chk57 (G:Nat→Option Obj):zac (zaa G) a57 Tryz.f82=true:=by kernel_rfl
/-- (*auklet/nfa.Prog).build -/
theorem chk59 (G:Nat→Option Obj):zac (zaa G) a59 Tryz.f83=true:=by kernel_rfl
/-- (*auklet/nfa.Prog).add -/
theorem chk58 (G:Nat→Option Obj):zac (zaa G) a58 Tryz.f84=true:=by kernel_rfl
/-- auklet/ere.can -/
theorem chk65 (G:Nat→Option Obj):zac (zaa G) a65 Tryz.f85=true:=by kernel_rfl
/-- auklet/ere.least -/
theorem chk66 (G:Nat→Option Obj):zac (zaa G) a66 Tryz.f86=true:=by kernel_rfl
/-- internal/stringslite.IndexByte -/
theorem chk123 (G:Nat→Option Obj):zac (zaa G) a123 Tryz.f90=true:=by kernel_rfl
/-- (*auklet/match.Pattern).find -/
theorem chk43 (G:Nat→Option Obj):zac (zaa G) a43 Tryz.f96=true:=by kernel_rfl
/-- (*auklet/ere.reader).branch -/
theorem chk87 (G:Nat→Option Obj):zac (zaa G) a87 Tryz.f111=true:=by kernel_rfl
/-- (*auklet/ere.reader).goes -/
theorem chk88 (G:Nat→Option Obj):zac (zaa G) a88 Tryz.f112=true:=by kernel_rfl
/-- auklet/ere.joined -/
theorem chk89 (G:Nat→Option Obj):zac (zaa G) a89 Tryz.f113=true:=by kernel_rfl
/-- auklet/ere.Can -/
theorem chk81 (G:Nat→Option Obj):zac (zaa G) a81 Tryz.f114=true:=by kernel_rfl
/-- auklet/nfa.count -/
theorem chk82 (G:Nat→Option Obj):zac (zaa G) a82 Tryz.f115=true:=by kernel_rfl
/-- (*auklet/nfa.Prog).rep -/
theorem chk83 (G:Nat→Option Obj):zac (zaa G) a83 Tryz.f116=true:=by kernel_rfl
/-- slices.ContainsFunc[[]auklet/api.Re,auklet/api.Re] -/
theorem chk91 (G:Nat→Option Obj):zac (zaa G) a91 Tryz.f117=true:=by kernel_rfl
/-- auklet/ere.can$1 -/
theorem chk90 (G:Nat→Option Obj):zac (zaa G) a90 Tryz.f118=true:=by kernel_rfl
/-- (*auklet/nfa.Prog).Longest -/
theorem chk35 (G:Nat→Option Obj):zac (zaa G) a35 Tryz.f128=true:=by kernel_rfl
/-- (*auklet/ere.reader).peek -/
theorem chk98 (G:Nat→Option Obj):zac (zaa G) a98 Tryz.f139=true:=by kernel_rfl
/-- (*auklet/ere.reader).piece -/
theorem chk99 (G:Nat→Option Obj):zac (zaa G) a99 Tryz.f140=true:=by kernel_rfl
/-- slices.IndexFunc[[]auklet/api.Re,auklet/api.Re] -/
theorem chk100 (G:Nat→Option Obj):zac (zaa G) a100 Tryz.f141=true:=by kernel_rfl
/-- (*auklet/nfa.Prog).ends -/
theorem chk37 (G:Nat→Option Obj):zac (zaa G) a37 Tryz.f145=true:=by kernel_rfl
/-- (*auklet/nfa.Prog).Longest$1 -/
theorem chk60 (G:Nat→Option Obj):zac (zaa G) a60 Tryz.f146=true:=by kernel_rfl
/-- (*auklet/ere.reader).atom -/
theorem chk105 (G:Nat→Option Obj):zac (zaa G) a105 Tryz.f162=true:=by kernel_rfl
/-- (*auklet/ere.reader).times -/
theorem chk106 (G:Nat→Option Obj):zac (zaa G) a106 Tryz.f163=true:=by kernel_rfl
/-- (*auklet/nfa.run).enter -/
theorem chk61 (G:Nat→Option Obj):zac (zaa G) a61 Tryz.f164=true:=by kernel_rfl
/-- auklet/class.Has -/
theorem chk62 (G:Nat→Option Obj):zac (zaa G) a62 Tryz.f165=true:=by kernel_rfl
/-- (*auklet/ere.reader).fail -/
theorem chk113 (G:Nat→Option Obj):zac (zaa G) a113 Tryz.f174=true:=by kernel_rfl
/-- auklet/class.Parse -/
theorem chk114 (G:Nat→Option Obj):zac (zaa G) a114 Tryz.f175=true:=by kernel_rfl
/-- auklet/class.Not -/
theorem chk115 (G:Nat→Option Obj):zac (zaa G) a115 Tryz.f176=true:=by kernel_rfl
/-- auklet/ere.one -/
theorem chk117 (G:Nat→Option Obj):zac (zaa G) a117 Tryz.f177=true:=by kernel_rfl
/-- (*auklet/ere.reader).stroke -/
theorem chk116 (G:Nat→Option Obj):zac (zaa G) a116 Tryz.f178=true:=by kernel_rfl
/-- (*auklet/ere.reader).number -/
theorem chk118 (G:Nat→Option Obj):zac (zaa G) a118 Tryz.f179=true:=by kernel_rfl
/-- auklet/class.has -/
theorem chk84 (G:Nat→Option Obj):zac (zaa G) a84 Tryz.f180=true:=by kernel_rfl
/-- (*auklet/class.reader).comes -/
theorem chk124 (G:Nat→Option Obj):zac (zaa G) a124 Tryz.f183=true:=by kernel_rfl
/-- (*auklet/class.reader).item -/
theorem chk125 (G:Nat→Option Obj):zac (zaa G) a125 Tryz.f184=true:=by kernel_rfl
/-- auklet/class.union -/
theorem chk126 (G:Nat→Option Obj):zac (zaa G) a126 Tryz.f185=true:=by kernel_rfl
/-- auklet/class.not -/
theorem chk127 (G:Nat→Option Obj):zac (zaa G) a127 Tryz.f186=true:=by kernel_rfl
/-- auklet/class.Add -/
theorem chk128 (G:Nat→Option Obj):zac (zaa G) a128 Tryz.f187=true:=by kernel_rfl
/-- strings.HasPrefix -/
theorem chk133 (G:Nat→Option Obj):zac (zaa G) a133 Tryz.f189=true:=by kernel_rfl
/-- auklet/class.named -/
theorem chk134 (G:Nat→Option Obj):zac (zaa G) a134 Tryz.f190=true:=by kernel_rfl
/-- (*auklet/class.reader).single -/
theorem chk135 (G:Nat→Option Obj):zac (zaa G) a135 Tryz.f191=true:=by kernel_rfl
/-- auklet/class.add -/
theorem chk136 (G:Nat→Option Obj):zac (zaa G) a136 Tryz.f192=true:=by kernel_rfl
/-- internal/stringslite.HasPrefix -/
theorem chk137 (G:Nat→Option Obj):zac (zaa G) a137 Tryz.f193=true:=by kernel_rfl
/-- auklet/class.ranges -/
theorem chk138 (G:Nat→Option Obj):zac (zaa G) a138 Tryz.f194=true:=by kernel_rfl

set_option maxRecDepth 100000 in
theorem fsOKTryz (G:Nat→Option Obj):FsOK (zaa G) fsT:=by
 intro f F h
 unfold fsT at h
 split at h
 ·cases h;exact ⟨Tryz.f5,Tryz.func5,chk162 G,by kernel_rfl⟩
 ·cases h;exact ⟨Tryz.f11,Tryz.func11,chk157 G,by kernel_rfl⟩
 ·cases h;exact ⟨Tryz.f15,Tryz.func15,chk161 G,by kernel_rfl⟩
 ·cases h;exact ⟨Tryz.f16,Tryz.func16,chk80 G,by kernel_rfl⟩
 ·cases h;exact ⟨Tryz.f18,Tryz.func18,chk165 G,by kernel_rfl⟩
 ·cases h;exact ⟨Tryz.f20,Tryz.func20,chk167 G,by kernel_rfl⟩
 ·cases h;exact ⟨Tryz.f21,Tryz.func21,chk168 G,by kernel_rfl⟩
 ·cases h;exact ⟨Tryz.f22,Tryz.func22,chk169 G,by kernel_rfl⟩
 ·cases h;exact ⟨Tryz.f24,Tryz.func24,chk172 G,by kernel_rfl⟩
 ·cases h;exact ⟨Tryz.f34,Tryz.func34,chk10 G,by kernel_rfl⟩
 ·cases h;exact ⟨Tryz.f36,Tryz.func36,chk180 G,by kernel_rfl⟩
 ·cases h;exact ⟨Tryz.f38,Tryz.func38,chk153 G,by kernel_rfl⟩
 ·cases h;exact ⟨Tryz.f43,Tryz.func43,chk94 G,by kernel_rfl⟩
 ·cases h;exact ⟨Tryz.f44,Tryz.func44,chk95 G,by kernel_rfl⟩
 ·cases h;exact ⟨Tryz.f46,Tryz.func46,chk97 G,by kernel_rfl⟩
 ·cases h;exact ⟨Tryz.f47,Tryz.func47,chk96 G,by kernel_rfl⟩
 ·cases h;exact ⟨Tryz.f51,Tryz.func51,chk188 G,by kernel_rfl⟩
 ·cases h;exact ⟨Tryz.f59,Tryz.func59,chk34 G,by kernel_rfl⟩
 ·cases h;exact ⟨Tryz.f60,Tryz.func60,chk42 G,by kernel_rfl⟩
 ·cases h;exact ⟨Tryz.f63,Tryz.func63,chk190 G,by kernel_rfl⟩
 ·cases h;exact ⟨Tryz.f64,Tryz.func64,chk198 G,by kernel_rfl⟩
 ·cases h;exact ⟨Tryz.f67,Tryz.func67,chk103 G,by kernel_rfl⟩
 ·cases h;exact ⟨Tryz.f68,Tryz.func68,chk104 G,by kernel_rfl⟩
 ·cases h;exact ⟨Tryz.f72,Tryz.func72,chk194 G,by kernel_rfl⟩
 ·cases h;exact ⟨Tryz.f81,Tryz.func81,chk86 G,by kernel_rfl⟩
 ·cases h;exact ⟨Tryz.f82,Tryz.func82,chk57 G,by kernel_rfl⟩
 ·cases h;exact ⟨Tryz.f83,Tryz.func83,chk59 G,by kernel_rfl⟩
 ·cases h;exact ⟨Tryz.f84,Tryz.func84,chk58 G,by kernel_rfl⟩
 ·cases h;exact ⟨Tryz.f85,Tryz.func85,chk65 G,by kernel_rfl⟩
 ·cases h;exact ⟨Tryz.f86,Tryz.func86,chk66 G,by kernel_rfl⟩
 ·cases h;exact ⟨Tryz.f90,Tryz.func90,chk123 G,by kernel_rfl⟩
 ·cases h;exact ⟨Tryz.f96,Tryz.func96,chk43 G,by kernel_rfl⟩
 ·cases h;exact ⟨Tryz.f111,Tryz.func111,chk87 G,by kernel_rfl⟩
 ·cases h;exact ⟨Tryz.f112,Tryz.func112,chk88 G,by kernel_rfl⟩
 ·cases h;exact ⟨Tryz.f113,Tryz.func113,chk89 G,by kernel_rfl⟩
 ·cases h;exact ⟨Tryz.f114,Tryz.func114,chk81 G,by kernel_rfl⟩
 ·cases h;exact ⟨Tryz.f115,Tryz.func115,chk82 G,by kernel_rfl⟩
 ·cases h;exact ⟨Tryz.f116,Tryz.func116,chk83 G,by kernel_rfl⟩
 ·cases h;exact ⟨Tryz.f117,Tryz.func117,chk91 G,by kernel_rfl⟩
 ·cases h;exact ⟨Tryz.f118,Tryz.func118,chk90 G,by kernel_rfl⟩
 ·cases h;exact ⟨Tryz.f128,Tryz.func128,chk35 G,by kernel_rfl⟩
 ·cases h;exact ⟨Tryz.f139,Tryz.func139,chk98 G,by kernel_rfl⟩
 ·cases h;exact ⟨Tryz.f140,Tryz.func140,chk99 G,by kernel_rfl⟩
 ·cases h;exact ⟨Tryz.f141,Tryz.func141,chk100 G,by kernel_rfl⟩
 ·cases h;exact ⟨Tryz.f145,Tryz.func145,chk37 G,by kernel_rfl⟩
 ·cases h;exact ⟨Tryz.f146,Tryz.func146,chk60 G,by kernel_rfl⟩
 ·cases h;exact ⟨Tryz.f162,Tryz.func162,chk105 G,by kernel_rfl⟩
 ·cases h;exact ⟨Tryz.f163,Tryz.func163,chk106 G,by kernel_rfl⟩
 ·cases h;exact ⟨Tryz.f164,Tryz.func164,chk61 G,by kernel_rfl⟩
 ·cases h;exact ⟨Tryz.f165,Tryz.func165,chk62 G,by kernel_rfl⟩
 ·cases h;exact ⟨Tryz.f174,Tryz.func174,chk113 G,by kernel_rfl⟩
 ·cases h;exact ⟨Tryz.f175,Tryz.func175,chk114 G,by kernel_rfl⟩
 ·cases h;exact ⟨Tryz.f176,Tryz.func176,chk115 G,by kernel_rfl⟩
 ·cases h;exact ⟨Tryz.f177,Tryz.func177,chk117 G,by kernel_rfl⟩
 ·cases h;exact ⟨Tryz.f178,Tryz.func178,chk116 G,by kernel_rfl⟩
 ·cases h;exact ⟨Tryz.f179,Tryz.func179,chk118 G,by kernel_rfl⟩
 ·cases h;exact ⟨Tryz.f180,Tryz.func180,chk84 G,by kernel_rfl⟩
 ·cases h;exact ⟨Tryz.f183,Tryz.func183,chk124 G,by kernel_rfl⟩
 ·cases h;exact ⟨Tryz.f184,Tryz.func184,chk125 G,by kernel_rfl⟩
 ·cases h;exact ⟨Tryz.f185,Tryz.func185,chk126 G,by kernel_rfl⟩
 ·cases h;exact ⟨Tryz.f186,Tryz.func186,chk127 G,by kernel_rfl⟩
 ·cases h;exact ⟨Tryz.f187,Tryz.func187,chk128 G,by kernel_rfl⟩
 ·cases h;exact ⟨Tryz.f189,Tryz.func189,chk133 G,by kernel_rfl⟩
 ·cases h;exact ⟨Tryz.f190,Tryz.func190,chk134 G,by kernel_rfl⟩
 ·cases h;exact ⟨Tryz.f191,Tryz.func191,chk135 G,by kernel_rfl⟩
 ·cases h;exact ⟨Tryz.f192,Tryz.func192,chk136 G,by kernel_rfl⟩
 ·cases h;exact ⟨Tryz.f193,Tryz.func193,chk137 G,by kernel_rfl⟩
 ·cases h;exact ⟨Tryz.f194,Tryz.func194,chk138 G,by kernel_rfl⟩
 ·cases h

end Go.Proofs.YtfcgnpphabplbaaGreatDoor

