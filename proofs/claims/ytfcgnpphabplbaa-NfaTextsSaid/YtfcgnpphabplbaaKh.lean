/- The functions checked against the loaded program. -/
import Derived.Test.YtfcgnpphabplbaaKc
import Derived.Test.YtfcgnpphabplbaaKe
import Derived.Test.YtfcgnpphabplbaaProg
set_option linter.unusedVariables false
set_option linter.unusedSimpArgs false

set_option maxRecDepth 100000

namespace Go.Proofs.Ytfcgnpphabplbaa
open Go.Ak

def fmTry : Nat → Nat
  | 1 => 3
  | 2 => 9
  | 3 => 11
  | 4 => 10
  | 5 => 13
  | 6 => 12
  | 7 => 4
  | 8 => 14
  | 9 => 15
  | 10 => 16
  | 11 => 17
  | 12 => 18
  | 13 => 5
  | 14 => 19
  | 15 => 20
  | 16 => 21
  | 17 => 6
  | 18 => 22
  | 19 => 23
  | 20 => 24
  | 21 => 7
  | 22 => 25
  | 23 => 26
  | 24 => 8
  | 25 => 27
  | 26 => 28
  | 27 => 30
  | 28 => 29
  | 29 => 31
  | 30 => 32
  | 31 => 33
  | 32 => 34
  | 33 => 35
  | 34 => 36
  | 35 => 37
  | 36 => 39
  | 37 => 38
  | 38 => 40
  | 39 => 41
  | 40 => 42
  | 41 => 43
  | 42 => 44
  | 43 => 46
  | 44 => 47
  | 45 => 48
  | 46 => 49
  | 47 => 50
  | 48 => 51
  | 49 => 52
  | 50 => 53
  | 51 => 54
  | 52 => 56
  | 53 => 55
  | 54 => 57
  | 55 => 58
  | 56 => 59
  | 57 => 60
  | 58 => 62
  | 59 => 61
  | 60 => 63
  | 61 => 64
  | 62 => 65
  | 63 => 66
  | 64 => 67
  | 65 => 69
  | 66 => 70
  | 67 => 45
  | 68 => 71
  | 69 => 72
  | 70 => 73
  | 71 => 74
  | 72 => 75
  | 73 => 76
  | 74 => 77
  | 75 => 78
  | 76 => 79
  | 77 => 81
  | 78 => 80
  | 79 => 82
  | 80 => 83
  | 81 => 84
  | 82 => 85
  | 83 => 86
  | 84 => 87
  | 85 => 88
  | 86 => 68
  | 87 => 89
  | 88 => 90
  | 89 => 91
  | 90 => 93
  | 91 => 92
  | 92 => 94
  | 93 => 95
  | 94 => 97
  | 95 => 98
  | 96 => 100
  | 97 => 99
  | 98 => 101
  | 99 => 102
  | 100 => 103
  | 101 => 104
  | 102 => 105
  | 103 => 106
  | 104 => 107
  | 105 => 108
  | 106 => 109
  | 107 => 110
  | 108 => 111
  | 109 => 112
  | 110 => 113
  | 111 => 114
  | 112 => 115
  | 113 => 116
  | 114 => 117
  | 115 => 118
  | 116 => 120
  | 117 => 119
  | 118 => 121
  | 119 => 122
  | 120 => 123
  | 121 => 124
  | 122 => 125
  | 123 => 126
  | 124 => 130
  | 125 => 131
  | 126 => 132
  | 127 => 133
  | 128 => 134
  | 129 => 135
  | 130 => 128
  | 131 => 129
  | 132 => 136
  | 133 => 137
  | 134 => 138
  | 135 => 139
  | 136 => 140
  | 137 => 141
  | 138 => 142
  | 139 => 2
  | 140 => 1
  | _ => 0

def tmTry : Nat → Nat
  | 1 => 125
  | _ => 0

noncomputable def trTry : Tr := ⟨Try.prog, fmTry, tmTry⟩

/-- auklet/aukletlaw06.NfaTexts -/
theorem chk1 : chkFunc trTry a1 Try.f3 = true := by kernel_rfl
/-- auklet/aukletlaw06.lives -/
theorem chk2 : chkFunc trTry a2 Try.f9 = true := by kernel_rfl
/-- auklet/aukletlaw06.built -/
theorem chk4 : chkFunc trTry a4 Try.f10 = true := by kernel_rfl
/-- auklet/aukletref05.Join -/
theorem chk3 : chkFunc trTry a3 Try.f11 = true := by kernel_rfl
/-- auklet/aukletref06.Same -/
theorem chk6 : chkFunc trTry a6 Try.f12 = true := by kernel_rfl
/-- (*auklet/nfa.Prog).Ends -/
theorem chk5 : chkFunc trTry a5 Try.f13 = true := by kernel_rfl
/-- auklet/nfa.Build -/
theorem chk34 : chkFunc trTry a34 Try.f36 = true := by kernel_rfl
/-- (*auklet/nfa.Prog).Longest -/
theorem chk35 : chkFunc trTry a35 Try.f37 = true := by kernel_rfl
/-- (*auklet/nfa.Prog).ends -/
theorem chk37 : chkFunc trTry a37 Try.f38 = true := by kernel_rfl
/-- (*auklet/nfa.Prog).Ends$1 -/
theorem chk36 : chkFunc trTry a36 Try.f39 = true := by kernel_rfl
/-- auklet/nfa.states -/
theorem chk57 : chkFunc trTry a57 Try.f60 = true := by kernel_rfl
/-- (*auklet/nfa.Prog).build -/
theorem chk59 : chkFunc trTry a59 Try.f61 = true := by kernel_rfl
/-- (*auklet/nfa.Prog).add -/
theorem chk58 : chkFunc trTry a58 Try.f62 = true := by kernel_rfl
/-- (*auklet/nfa.Prog).Longest$1 -/
theorem chk60 : chkFunc trTry a60 Try.f63 = true := by kernel_rfl
/-- (*auklet/nfa.run).enter -/
theorem chk61 : chkFunc trTry a61 Try.f64 = true := by kernel_rfl
/-- auklet/class.Has -/
theorem chk62 : chkFunc trTry a62 Try.f65 = true := by kernel_rfl
/-- auklet/ere.can -/
theorem chk65 : chkFunc trTry a65 Try.f69 = true := by kernel_rfl
/-- auklet/ere.Can -/
theorem chk81 : chkFunc trTry a81 Try.f84 = true := by kernel_rfl
/-- auklet/nfa.count -/
theorem chk82 : chkFunc trTry a82 Try.f85 = true := by kernel_rfl
/-- (*auklet/nfa.Prog).rep -/
theorem chk83 : chkFunc trTry a83 Try.f86 = true := by kernel_rfl
/-- auklet/class.has -/
theorem chk84 : chkFunc trTry a84 Try.f87 = true := by kernel_rfl
/-- slices.ContainsFunc[[]auklet/api.Re,auklet/api.Re] -/
theorem chk91 : chkFunc trTry a91 Try.f92 = true := by kernel_rfl
/-- auklet/ere.can$1 -/
theorem chk90 : chkFunc trTry a90 Try.f93 = true := by kernel_rfl
/-- slices.IndexFunc[[]auklet/api.Re,auklet/api.Re] -/
theorem chk100 : chkFunc trTry a100 Try.f103 = true := by kernel_rfl

theorem fsOKTry : FsOK trTry fsT := by
  intro f F h
  unfold fsT at h
  split at h
  · cases h; exact ⟨Try.f3, Try.func3, chk1, by kernel_rfl⟩
  · cases h; exact ⟨Try.f9, Try.func9, chk2, by kernel_rfl⟩
  · cases h; exact ⟨Try.f10, Try.func10, chk4, by kernel_rfl⟩
  · cases h; exact ⟨Try.f11, Try.func11, chk3, by kernel_rfl⟩
  · cases h; exact ⟨Try.f12, Try.func12, chk6, by kernel_rfl⟩
  · cases h; exact ⟨Try.f13, Try.func13, chk5, by kernel_rfl⟩
  · cases h; exact ⟨Try.f36, Try.func36, chk34, by kernel_rfl⟩
  · cases h; exact ⟨Try.f37, Try.func37, chk35, by kernel_rfl⟩
  · cases h; exact ⟨Try.f38, Try.func38, chk37, by kernel_rfl⟩
  · cases h; exact ⟨Try.f39, Try.func39, chk36, by kernel_rfl⟩
  · cases h; exact ⟨Try.f60, Try.func60, chk57, by kernel_rfl⟩
  · cases h; exact ⟨Try.f61, Try.func61, chk59, by kernel_rfl⟩
  · cases h; exact ⟨Try.f62, Try.func62, chk58, by kernel_rfl⟩
  · cases h; exact ⟨Try.f63, Try.func63, chk60, by kernel_rfl⟩
  · cases h; exact ⟨Try.f64, Try.func64, chk61, by kernel_rfl⟩
  · cases h; exact ⟨Try.f65, Try.func65, chk62, by kernel_rfl⟩
  · cases h; exact ⟨Try.f69, Try.func69, chk65, by kernel_rfl⟩
  · cases h; exact ⟨Try.f84, Try.func84, chk81, by kernel_rfl⟩
  · cases h; exact ⟨Try.f85, Try.func85, chk82, by kernel_rfl⟩
  · cases h; exact ⟨Try.f86, Try.func86, chk83, by kernel_rfl⟩
  · cases h; exact ⟨Try.f87, Try.func87, chk84, by kernel_rfl⟩
  · cases h; exact ⟨Try.f92, Try.func92, chk91, by kernel_rfl⟩
  · cases h; exact ⟨Try.f93, Try.func93, chk90, by kernel_rfl⟩
  · cases h; exact ⟨Try.f103, Try.func103, chk100, by kernel_rfl⟩
  · cases h

end Go.Proofs.Ytfcgnpphabplbaa

