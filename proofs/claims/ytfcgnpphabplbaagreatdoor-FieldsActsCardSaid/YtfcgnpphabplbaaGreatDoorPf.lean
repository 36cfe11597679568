/- The functions checked against the loaded program. -/
import Derived.Test.YtfcgnpphabplbaaGreatDoorPc
import Derived.Test.YtfcgnpphabplbaaGreatDoorPe
import Derived.Test.YtfcgnpphabplbaaGreatDoorProg
set_option linter.unusedVariables false
set_option linter.unusedSimpArgs false
set_option maxRecDepth 100000
namespace Go.Proofs.YtfcgnpphabplbaaGreatDoor
open Go.Ak
def zoJ:Nat->Nat
 |3=>110
 |8=>9
 |10=>34
 |11=>45
 |14=>32
 |34=>59
 |35=>128
 |37=>145
 |38=>33
 |41=>58
 |42=>60
 |43=>96
 |44=>55
 |45=>56
 |46=>70
 |55=>89
 |57=>82
 |58=>84
 |59=>83
 |60=>146
 |61=>164
 |62=>165
 |63=>57
 |65=>85
 |66=>86
 |69=>76
 |70=>77
 |71=>78
 |72=>97
 |73=>98
 |74=>99
 |75=>100
 |79=>119
 |81=>114
 |82=>115
 |83=>116
 |84=>180
 |85=>79
 |86=>81
 |87=>111
 |88=>112
 |89=>113
 |90=>118
 |91=>117
 |92=>108
 |93=>109
 |95=>44
 |98=>139
 |99=>140
 |100=>141
 |101=>137
 |102=>138
 |104=>68
 |105=>162
 |106=>163
 |107=>157
 |108=>158
 |109=>159
 |110=>160
 |111=>161
 |112=>94
 |113=>174
 |114=>175
 |115=>176
 |116=>178
 |117=>177
 |118=>179
 |119=>170
 |120=>171
 |121=>172
 |122=>173
 |123=>90
 |124=>183
 |125=>184
 |126=>185
 |127=>186
 |128=>187
 |129=>121
 |133=>189
 |134=>190
 |135=>191
 |136=>192
 |137=>193
 |138=>194
 |143=>49
 |148=>42
 |152=>71
 |153=>38
 |155=>101
 |157=>11
 |158=>12
 |160=>14
 |161=>15
 |165=>18
 |166=>19
 |167=>20
 |168=>21
 |169=>22
 |170=>23
 |171=>25
 |172=>24
 |173=>8
 |174=>26
 |175=>27
 |176=>29
 |177=>28
 |178=>30
 |179=>31
 |180=>36
 |181=>37
 |182=>39
 |183=>40
 |184=>41
 |185=>52
 |186=>53
 |187=>50
 |188=>51
 |189=>54
 |190=>63
 |191=>62
 |193=>66
 |194=>72
 |195=>73
 |196=>74
 |197=>75
 |198=>64
 |202=>102
 |203=>103
 |204=>104
 |205=>105
 |206=>106
 |207=>107
 |212=>130
 |213=>131
 |214=>132
 |215=>133
 |216=>134
 |217=>135
 |227=>136
 |228=>156
 |_=>0
def VI:Nat->Nat
 |1=>119
 |4=>133
 |5=>5
 |6=>9
 |_=>0
noncomputable def cZ(G:Nat->Option Obj):Tr:=⟨Tryz.prog,zoJ,VI,G⟩
set_option maxRecDepth 100000 in
theorem zos(G:Nat->Option Obj):Vv (cZ G) ak:=by
 intro f F h;unfold ak at h;split at h
 ·cases h;exact⟨_,Tryz.func8,by kernel_rfl,by kernel_rfl⟩
 ·cases h;exact⟨_,Tryz.func9,by kernel_rfl,by kernel_rfl⟩
 ·cases h;exact⟨_,Tryz.func11,by kernel_rfl,by kernel_rfl⟩
 ·cases h;exact⟨_,Tryz.func12,by kernel_rfl,by kernel_rfl⟩
 ·cases h;exact⟨_,Tryz.func14,by kernel_rfl,by kernel_rfl⟩
 ·cases h;exact⟨_,Tryz.func15,by kernel_rfl,by kernel_rfl⟩
 ·cases h;exact⟨_,Tryz.func18,by kernel_rfl,by kernel_rfl⟩
 ·cases h;exact⟨_,Tryz.func19,by kernel_rfl,by kernel_rfl⟩
 ·cases h;exact⟨_,Tryz.func20,by kernel_rfl,by kernel_rfl⟩
 ·cases h;exact⟨_,Tryz.func21,by kernel_rfl,by kernel_rfl⟩
 ·cases h;exact⟨_,Tryz.func22,by kernel_rfl,by kernel_rfl⟩
 ·cases h;exact⟨_,Tryz.func23,by kernel_rfl,by kernel_rfl⟩
 ·cases h;exact⟨_,Tryz.func24,by kernel_rfl,by kernel_rfl⟩
 ·cases h;exact⟨_,Tryz.func25,by kernel_rfl,by kernel_rfl⟩
 ·cases h;exact⟨_,Tryz.func26,by kernel_rfl,by kernel_rfl⟩
 ·cases h;exact⟨_,Tryz.func27,by kernel_rfl,by kernel_rfl⟩
 ·cases h;exact⟨_,Tryz.func28,by kernel_rfl,by kernel_rfl⟩
 ·cases h;exact⟨_,Tryz.func29,by kernel_rfl,by kernel_rfl⟩
 ·cases h;exact⟨_,Tryz.func30,by kernel_rfl,by kernel_rfl⟩
 ·cases h;exact⟨_,Tryz.func31,by kernel_rfl,by kernel_rfl⟩
 ·cases h;exact⟨_,Tryz.func32,by kernel_rfl,by kernel_rfl⟩
 ·cases h;exact⟨_,Tryz.func33,by kernel_rfl,by kernel_rfl⟩
 ·cases h;exact⟨_,Tryz.func34,by kernel_rfl,by kernel_rfl⟩
 ·cases h;exact⟨_,Tryz.func36,by kernel_rfl,by kernel_rfl⟩
 ·cases h;exact⟨_,Tryz.func38,by kernel_rfl,by kernel_rfl⟩
 ·cases h;exact⟨_,Tryz.func40,by kernel_rfl,by kernel_rfl⟩
 ·cases h;exact⟨_,Tryz.func42,by kernel_rfl,by kernel_rfl⟩
 ·cases h;exact⟨_,Tryz.func44,by kernel_rfl,by kernel_rfl⟩
 ·cases h;exact⟨_,Tryz.func49,by kernel_rfl,by kernel_rfl⟩
 ·cases h;exact⟨_,Tryz.func51,by kernel_rfl,by kernel_rfl⟩
 ·cases h;exact⟨_,Tryz.func52,by kernel_rfl,by kernel_rfl⟩
 ·cases h;exact⟨_,Tryz.func53,by kernel_rfl,by kernel_rfl⟩
 ·cases h;exact⟨_,Tryz.func54,by kernel_rfl,by kernel_rfl⟩
 ·cases h;exact⟨_,Tryz.func55,by kernel_rfl,by kernel_rfl⟩
 ·cases h;exact⟨_,Tryz.func56,by kernel_rfl,by kernel_rfl⟩
 ·cases h;exact⟨_,Tryz.func57,by kernel_rfl,by kernel_rfl⟩
 ·cases h;exact⟨_,Tryz.func59,by kernel_rfl,by kernel_rfl⟩
 ·cases h;exact⟨_,Tryz.func60,by kernel_rfl,by kernel_rfl⟩
 ·cases h;exact⟨_,Tryz.func63,by kernel_rfl,by kernel_rfl⟩
 ·cases h;exact⟨_,Tryz.func64,by kernel_rfl,by kernel_rfl⟩
 ·cases h;exact⟨_,Tryz.func66,by kernel_rfl,by kernel_rfl⟩
 ·cases h;exact⟨_,Tryz.func68,by kernel_rfl,by kernel_rfl⟩
 ·cases h;exact⟨_,Tryz.func70,by kernel_rfl,by kernel_rfl⟩
 ·cases h;exact⟨_,Tryz.func71,by kernel_rfl,by kernel_rfl⟩
 ·cases h;exact⟨_,Tryz.func72,by kernel_rfl,by kernel_rfl⟩
 ·cases h;exact⟨_,Tryz.func73,by kernel_rfl,by kernel_rfl⟩
 ·cases h;exact⟨_,Tryz.func74,by kernel_rfl,by kernel_rfl⟩
 ·cases h;exact⟨_,Tryz.func75,by kernel_rfl,by kernel_rfl⟩
 ·cases h;exact⟨_,Tryz.func76,by kernel_rfl,by kernel_rfl⟩
 ·cases h;exact⟨_,Tryz.func77,by kernel_rfl,by kernel_rfl⟩
 ·cases h;exact⟨_,Tryz.func78,by kernel_rfl,by kernel_rfl⟩
 ·cases h;exact⟨_,Tryz.func79,by kernel_rfl,by kernel_rfl⟩
 ·cases h;exact⟨_,Tryz.func81,by kernel_rfl,by kernel_rfl⟩
 ·cases h;exact⟨_,Tryz.func82,by kernel_rfl,by kernel_rfl⟩
 ·cases h;exact⟨_,Tryz.func83,by kernel_rfl,by kernel_rfl⟩
 ·cases h;exact⟨_,Tryz.func84,by kernel_rfl,by kernel_rfl⟩
 ·cases h;exact⟨_,Tryz.func85,by kernel_rfl,by kernel_rfl⟩
 ·cases h;exact⟨_,Tryz.func86,by kernel_rfl,by kernel_rfl⟩
 ·cases h;exact⟨_,Tryz.func90,by kernel_rfl,by kernel_rfl⟩
 ·cases h;exact⟨_,Tryz.func96,by kernel_rfl,by kernel_rfl⟩
 ·cases h;exact⟨_,Tryz.func97,by kernel_rfl,by kernel_rfl⟩
 ·cases h;exact⟨_,Tryz.func98,by kernel_rfl,by kernel_rfl⟩
 ·cases h;exact⟨_,Tryz.func99,by kernel_rfl,by kernel_rfl⟩
 ·cases h;exact⟨_,Tryz.func100,by kernel_rfl,by kernel_rfl⟩
 ·cases h;exact⟨_,Tryz.func101,by kernel_rfl,by kernel_rfl⟩
 ·cases h;exact⟨_,Tryz.func103,by kernel_rfl,by kernel_rfl⟩
 ·cases h;exact⟨_,Tryz.func104,by kernel_rfl,by kernel_rfl⟩
 ·cases h;exact⟨_,Tryz.func105,by kernel_rfl,by kernel_rfl⟩
 ·cases h;exact⟨_,Tryz.func106,by kernel_rfl,by kernel_rfl⟩
 ·cases h;exact⟨_,Tryz.func107,by kernel_rfl,by kernel_rfl⟩
 ·cases h;exact⟨_,Tryz.func108,by kernel_rfl,by kernel_rfl⟩
 ·cases h;exact⟨_,Tryz.func109,by kernel_rfl,by kernel_rfl⟩
 ·cases h;exact⟨_,Tryz.func110,by kernel_rfl,by kernel_rfl⟩
 ·cases h;exact⟨_,Tryz.func111,by kernel_rfl,by kernel_rfl⟩
 ·cases h;exact⟨_,Tryz.func112,by kernel_rfl,by kernel_rfl⟩
 ·cases h;exact⟨_,Tryz.func113,by kernel_rfl,by kernel_rfl⟩
 ·cases h;exact⟨_,Tryz.func114,by kernel_rfl,by kernel_rfl⟩
 ·cases h;exact⟨_,Tryz.func115,by kernel_rfl,by kernel_rfl⟩
 ·cases h;exact⟨_,Tryz.func116,by kernel_rfl,by kernel_rfl⟩
 ·cases h;exact⟨_,Tryz.func117,by kernel_rfl,by kernel_rfl⟩
 ·cases h;exact⟨_,Tryz.func118,by kernel_rfl,by kernel_rfl⟩
 ·cases h;exact⟨_,Tryz.func128,by kernel_rfl,by kernel_rfl⟩
 ·cases h;exact⟨_,Tryz.func131,by kernel_rfl,by kernel_rfl⟩
 ·cases h;exact⟨_,Tryz.func134,by kernel_rfl,by kernel_rfl⟩
 ·cases h;exact⟨_,Tryz.func136,by kernel_rfl,by kernel_rfl⟩
 ·cases h;exact⟨_,Tryz.func137,by kernel_rfl,by kernel_rfl⟩
 ·cases h;exact⟨_,Tryz.func138,by kernel_rfl,by kernel_rfl⟩
 ·cases h;exact⟨_,Tryz.func139,by kernel_rfl,by kernel_rfl⟩
 ·cases h;exact⟨_,Tryz.func140,by kernel_rfl,by kernel_rfl⟩
 ·cases h;exact⟨_,Tryz.func141,by kernel_rfl,by kernel_rfl⟩
 ·cases h;exact⟨_,Tryz.func145,by kernel_rfl,by kernel_rfl⟩
 ·cases h;exact⟨_,Tryz.func146,by kernel_rfl,by kernel_rfl⟩
 ·cases h;exact⟨_,Tryz.func156,by kernel_rfl,by kernel_rfl⟩
 ·cases h;exact⟨_,Tryz.func157,by kernel_rfl,by kernel_rfl⟩
 ·cases h;exact⟨_,Tryz.func158,by kernel_rfl,by kernel_rfl⟩
 ·cases h;exact⟨_,Tryz.func159,by kernel_rfl,by kernel_rfl⟩
 ·cases h;exact⟨_,Tryz.func160,by kernel_rfl,by kernel_rfl⟩
 ·cases h;exact⟨_,Tryz.func161,by kernel_rfl,by kernel_rfl⟩
 ·cases h;exact⟨_,Tryz.func162,by kernel_rfl,by kernel_rfl⟩
 ·cases h;exact⟨_,Tryz.func163,by kernel_rfl,by kernel_rfl⟩
 ·cases h;exact⟨_,Tryz.func164,by kernel_rfl,by kernel_rfl⟩
 ·cases h;exact⟨_,Tryz.func165,by kernel_rfl,by kernel_rfl⟩
 ·cases h;exact⟨_,Tryz.func170,by kernel_rfl,by kernel_rfl⟩
 ·cases h;exact⟨_,Tryz.func171,by kernel_rfl,by kernel_rfl⟩
 ·cases h;exact⟨_,Tryz.func172,by kernel_rfl,by kernel_rfl⟩
 ·cases h;exact⟨_,Tryz.func173,by kernel_rfl,by kernel_rfl⟩
 ·cases h;exact⟨_,Tryz.func174,by kernel_rfl,by kernel_rfl⟩
 ·cases h;exact⟨_,Tryz.func175,by kernel_rfl,by kernel_rfl⟩
 ·cases h;exact⟨_,Tryz.func176,by kernel_rfl,by kernel_rfl⟩
 ·cases h;exact⟨_,Tryz.func177,by kernel_rfl,by kernel_rfl⟩
 ·cases h;exact⟨_,Tryz.func178,by kernel_rfl,by kernel_rfl⟩
 ·cases h;exact⟨_,Tryz.func179,by kernel_rfl,by kernel_rfl⟩
 ·cases h;exact⟨_,Tryz.func180,by kernel_rfl,by kernel_rfl⟩
 ·cases h;exact⟨_,Tryz.func183,by kernel_rfl,by kernel_rfl⟩
 ·cases h;exact⟨_,Tryz.func184,by kernel_rfl,by kernel_rfl⟩
 ·cases h;exact⟨_,Tryz.func185,by kernel_rfl,by kernel_rfl⟩
 ·cases h;exact⟨_,Tryz.func186,by kernel_rfl,by kernel_rfl⟩
 ·cases h;exact⟨_,Tryz.func187,by kernel_rfl,by kernel_rfl⟩
 ·cases h;exact⟨_,Tryz.func189,by kernel_rfl,by kernel_rfl⟩
 ·cases h;exact⟨_,Tryz.func190,by kernel_rfl,by kernel_rfl⟩
 ·cases h;exact⟨_,Tryz.func191,by kernel_rfl,by kernel_rfl⟩
 ·cases h;exact⟨_,Tryz.func192,by kernel_rfl,by kernel_rfl⟩
 ·cases h;exact⟨_,Tryz.func193,by kernel_rfl,by kernel_rfl⟩
 ·cases h;exact⟨_,Tryz.func194,by kernel_rfl,by kernel_rfl⟩
 ·cases h
end Go.Proofs.YtfcgnpphabplbaaGreatDoor
