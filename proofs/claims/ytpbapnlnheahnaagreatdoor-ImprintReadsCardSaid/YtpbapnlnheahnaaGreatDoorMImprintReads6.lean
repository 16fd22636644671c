/- MImprintReads6: parts of the proof of ImprintReads: Tab, Types, EqI, OpenP. No condition of their own. -/
import Derived.Test.YtpbapnlnheahnaaGreatDoorProg
import Derived.Test.YtpbapnlnheahnaaGreatDoorMImprintReadssSlice
import Derived.Stop.BytesEq
import Derived.Test.YtpbapnlnheahnaaGreatDoorMImprintReads1
set_option linter.unusedSimpArgs false
set_option linter.unusedVariables false
namespace Go.Proofs.YtpbapnlnheahnaaGreatDoor
set_option maxRecDepth 100000
abbrev i_i32:Value:= .int .i32 0
abbrev i_i64:Value:= .int .i64 0
abbrev i_u8:Value:= .int .u8 0
abbrev i_u16:Value:= .int .u16 0
abbrev i_u32:Value:= .int .u32 0
abbrev i_u64:Value:= .int .u64 0
abbrev b_:Value:= .bool false
abbrev s_:Value:= .string ByteArray.empty
abbrev p_:Value:= .pointer none
abbrev l_:Value:= .slice none 0 0
abbrev m_:Value:= .map none
abbrev f_:Value:= .nilFunc
abbrev e_:Value:= .nilIface
abbrev ag (l:List Value):Value:= .agg l.toArray
abbrev rep (n:Nat) (v:Value):Value:= .agg (List.replicate n v).toArray
def tyT:Tr TE:=(.node (.node (.node (.node (.node (.node (.node (.node (.node .leaf 1 ⟨false,1,(some f_), .other, []⟩ .leaf) 2 ⟨false,1,(some i_i64),(.int .i64), []⟩ .leaf) 3 ⟨false,1,(some i_i64),(.int .i64), []⟩ (.node (.node .leaf 4 ⟨false,1,(some b_), .bool, []⟩ .leaf) 5 ⟨false,1,(some i_u8),(.int .u8), []⟩ .leaf)) 6 ⟨false,1,(some i_u8),(.int .u8), []⟩ (.node (.node (.node .leaf 7 ⟨true,4,(some (ag [i_i64,i_i64,b_,i_u8])), .st, [(0,1),(1,1),(2,1),(3,1)]⟩ .leaf) 8 ⟨true,4,(some (ag [i_i64,i_i64,b_,i_u8])), .st, [(0,1),(1,1),(2,1),(3,1)]⟩ .leaf) 9 ⟨false,1,(some s_), .str, []⟩ (.node .leaf 10 ⟨false,1,(some s_), .str, []⟩ .leaf))) 11 ⟨false,1,(some s_), .str, []⟩ (.node (.node (.node (.node .leaf 12 ⟨false,1,(some i_u64),(.int .u64), []⟩ .leaf) 13 ⟨true,2,(some (ag [s_,i_u64])), .st, [(0,1),(1,1)]⟩ .leaf) 14 ⟨true,2,(some (ag [s_,i_u64])), .st, [(0,1),(1,1)]⟩ (.node (.node .leaf 15 ⟨false,1,(some p_),(.ptr 331), []⟩ .leaf) 16 ⟨false,1,(some p_),(.ptr 334), []⟩ .leaf)) 17 ⟨false,1,(some p_),(.ptr 342), []⟩ (.node (.node (.node .leaf 18 ⟨true,1,(some (ag [p_])), .st, [(0,1)]⟩ .leaf) 19 ⟨true,1,(some (ag [p_])), .st, [(0,1)]⟩ .leaf) 20 ⟨false,1,(some e_), .other, []⟩ (.node .leaf 21 ⟨false,1,(some i_i32),(.int .i32), []⟩ .leaf)))) 22 ⟨true,6,(some (ag (i_i64::i_i64::i_i64::i_i64::i_i64::i_i64:: []))), .st,((0,1)::(1,1)::(2,1)::(3,1)::(4,1)::(5,1):: [])⟩ (.node (.node (.node (.node (.node .leaf 23 ⟨true,6,(some (ag (i_i64::i_i64::i_i64::i_i64::i_i64::i_i64:: []))), .st,((0,1)::(1,1)::(2,1)::(3,1)::(4,1)::(5,1):: [])⟩ .leaf) 24 ⟨false,1,(some i_u32),(.int .u32), []⟩ .leaf) 25 ⟨false,1,(some i_i64),(.int .i64), []⟩ (.node (.node .leaf 26 ⟨false,1,(some l_),(.sl 51 65), []⟩ .leaf) 27 ⟨false,1,(some l_),(.sl 103 4), []⟩ .leaf)) 28 ⟨false,1,(some l_),(.sl 46 19), []⟩ (.node (.node (.node .leaf 29 ⟨false,1,(some l_),(.sl 59 38), []⟩ .leaf) 30 ⟨true,13,(some (ag (i_i64::i_i64::i_i64::i_i64::i_i64::i_i64::i_u32::i_i64::i_u32::l_::l_::l_::l_:: []))), .st,((0,6)::(6,1)::(7,1)::(8,1)::(9,1)::(10,1)::(11,1)::(12,1):: [])⟩ .leaf) 31 ⟨true,13,(some (ag (i_i64::i_i64::i_i64::i_i64::i_i64::i_i64::i_u32::i_i64::i_u32::l_::l_::l_::l_:: []))), .st,((0,6)::(6,1)::(7,1)::(8,1)::(9,1)::(10,1)::(11,1)::(12,1):: [])⟩ (.node .leaf 32 ⟨false,1,(some f_), .other, []⟩ .leaf))) 33 ⟨false,1,(some f_), .other, []⟩ (.node (.node (.node (.node .leaf 34 ⟨false,1,(some l_),(.sl 5 1), []⟩ .leaf) 36 ⟨false,1,(some f_), .other, []⟩ .leaf) 37 ⟨false,1,(some f_), .other, []⟩ (.node .leaf 39 ⟨false,1,(some f_), .other, []⟩ .leaf)) 40 ⟨false,1,(some f_), .other, []⟩ (.node (.node (.node .leaf 41 ⟨false,1,(some f_), .other, []⟩ .leaf) 42 ⟨false,1,(some f_), .other, []⟩ .leaf) 43 ⟨true,16,(some (rep 16 i_u8)),(.arr 16 5 1), []⟩ (.node .leaf 44 ⟨true,16,(some (rep 16 i_u8)),(.arr 16 5 1), []⟩ .leaf))))) 45 ⟨true,19,(some (ag (i_u32::i_u32::i_u8::i_u8::i_u8::i_u8::i_u8::i_u8::i_u8::i_u8::i_u8::i_u8::i_u8::i_u8::i_u8::i_u8::i_u8::i_u8::l_:: []))), .st, [(0,1),(1,1),(2,16),(18,1)]⟩ (.node (.node (.node (.node (.node (.node .leaf 46 ⟨true,19,(some (ag (i_u32::i_u32::i_u8::i_u8::i_u8::i_u8::i_u8::i_u8::i_u8::i_u8::i_u8::i_u8::i_u8::i_u8::i_u8::i_u8::i_u8::i_u8::l_:: []))), .st, [(0,1),(1,1),(2,16),(18,1)]⟩ .leaf) 47 ⟨true,32,(some (rep 32 i_u8)),(.arr 32 5 1), []⟩ .leaf) 48 ⟨true,32,(some (rep 32 i_u8)),(.arr 32 5 1), []⟩ (.node (.node .leaf 49 ⟨false,1,(some l_),(.sl 48 32), []⟩ .leaf) 50 ⟨true,65,(some (ag (i_u8::i_u8::i_u8::i_u8::i_u8::i_u8::i_u8::i_u8::i_u8::i_u8::i_u8::i_u8::i_u8::i_u8::i_u8::i_u8::i_u8::i_u8::i_u8::i_u8::i_u8::i_u8::i_u8::i_u8::i_u8::i_u8::i_u8::i_u8::i_u8::i_u8::i_u8::i_u8::i_u8::i_u8::i_u8::i_u8::i_u8::i_u8::i_u8::i_u8::i_u8::i_u8::i_u8::i_u8::i_u8::i_u8::i_u8::i_u8::i_u8::i_u8::i_u8::i_u8::i_u8::i_u8::i_u8::i_u8::i_u8::i_u8::i_u8::i_u8::i_u8::i_u8::i_u8::i_u8::l_:: []))), .st, [(0,32),(32,32),(64,1)]⟩ .leaf)) 51 ⟨true,65,(some (ag (i_u8::i_u8::i_u8::i_u8::i_u8::i_u8::i_u8::i_u8::i_u8::i_u8::i_u8::i_u8::i_u8::i_u8::i_u8::i_u8::i_u8::i_u8::i_u8::i_u8::i_u8::i_u8::i_u8::i_u8::i_u8::i_u8::i_u8::i_u8::i_u8::i_u8::i_u8::i_u8::i_u8::i_u8::i_u8::i_u8::i_u8::i_u8::i_u8::i_u8::i_u8::i_u8::i_u8::i_u8::i_u8::i_u8::i_u8::i_u8::i_u8::i_u8::i_u8::i_u8::i_u8::i_u8::i_u8::i_u8::i_u8::i_u8::i_u8::i_u8::i_u8::i_u8::i_u8::i_u8::l_:: []))), .st, [(0,32),(32,32),(64,1)]⟩ (.node (.node (.node .leaf 52 ⟨false,1,(some f_), .other, []⟩ .leaf) 53 ⟨true,2,(some (ag [i_u32,i_u32])), .st, [(0,1),(1,1)]⟩ .leaf) 54 ⟨true,2,(some (ag [i_u32,i_u32])), .st, [(0,1),(1,1)]⟩ (.node .leaf 55 ⟨false,1,(some l_),(.sl 88 2), []⟩ .leaf))) 56 ⟨true,1,(some (ag [l_])), .st, [(0,1)]⟩ (.node (.node (.node (.node .leaf 57 ⟨true,1,(some (ag [l_])), .st, [(0,1)]⟩ .leaf) 58 ⟨true,38,(some (ag (i_u32::i_u32::i_u8::i_u8::i_u8::i_u8::i_u8::i_u8::i_u8::i_u8::i_u8::i_u8::i_u8::i_u8::i_u8::i_u8::i_u8::i_u8::i_u8::i_u8::i_u8::i_u8::i_u8::i_u8::i_u8::i_u8::i_u8::i_u8::i_u8::i_u8::i_u8::i_u8::i_u8::i_u8::i_u32::i_u32::i_i64::l_:: []))), .st,((0,2)::(2,32)::(34,1)::(35,1)::(36,1)::(37,1):: [])⟩ .leaf) 59 ⟨true,38,(some (ag (i_u32::i_u32::i_u8::i_u8::i_u8::i_u8::i_u8::i_u8::i_u8::i_u8::i_u8::i_u8::i_u8::i_u8::i_u8::i_u8::i_u8::i_u8::i_u8::i_u8::i_u8::i_u8::i_u8::i_u8::i_u8::i_u8::i_u8::i_u8::i_u8::i_u8::i_u8::i_u8::i_u8::i_u8::i_u32::i_u32::i_i64::l_:: []))), .st,((0,2)::(2,32)::(34,1)::(35,1)::(36,1)::(37,1):: [])⟩ (.node (.node .leaf 60 ⟨false,1,(some f_), .other, []⟩ .leaf) 61 ⟨false,1,(some f_), .other, []⟩ .leaf)) 62 ⟨false,1,(some f_), .other, []⟩ (.node (.node (.node .leaf 63 ⟨false,1,(some p_),(.ptr 121), []⟩ .leaf) 64 ⟨false,1,(some f_), .other, []⟩ .leaf) 65 ⟨false,1,(some f_), .other, []⟩ (.node .leaf 66 ⟨false,1,(some f_), .other, []⟩ .leaf)))) 67 ⟨false,1,(some f_), .other, []⟩ (.node (.node (.node (.node (.node .leaf 68 ⟨false,1,(some f_), .other, []⟩ .leaf) 69 ⟨false,1,(some f_), .other, []⟩ .leaf) 70 ⟨false,1,(some f_), .other, []⟩ (.node (.node .leaf 71 ⟨true,3,(some (ag [l_,i_i64,i_i64])), .st, [(0,1),(1,1),(2,1)]⟩ .leaf) 72 ⟨true,3,(some (ag [l_,i_i64,i_i64])), .st, [(0,1),(1,1),(2,1)]⟩ .leaf)) 73 ⟨false,1,(some l_),(.sl 24 1), []⟩ (.node (.node (.node .leaf 75 ⟨false,1,(some f_), .other, []⟩ .leaf) 76 ⟨false,1,(some i_u64),(.int .u64), []⟩ .leaf) 78 ⟨false,1,(some f_), .other, []⟩ (.node .leaf 80 ⟨false,1,(some f_), .other, []⟩ .leaf))) 81 ⟨false,1,(some f_), .other, []⟩ (.node (.node (.node (.node .leaf 82 ⟨false,1,(some f_), .other, []⟩ .leaf) 83 ⟨false,1,(some f_), .other, []⟩ .leaf) 84 ⟨true,3,(some (ag [i_i64,i_u32,l_])), .st, [(0,1),(1,1),(2,1)]⟩ (.node .leaf 85 ⟨true,3,(some (ag [i_i64,i_u32,l_])), .st, [(0,1),(1,1),(2,1)]⟩ .leaf)) 86 ⟨false,1,(some f_), .other, []⟩ (.node (.node (.node .leaf 87 ⟨true,2,(some (ag [i_u32,l_])), .st, [(0,1),(1,1)]⟩ .leaf) 88 ⟨true,2,(some (ag [i_u32,l_])), .st, [(0,1),(1,1)]⟩ .leaf) 89 ⟨false,1,(some p_),(.ptr 171), []⟩ (.node .leaf 91 ⟨false,1,(some f_), .other, []⟩ .leaf)))))) 92 ⟨false,1,(some p_),(.ptr 174), []⟩ (.node (.node (.node (.node (.node (.node (.node .leaf 93 ⟨false,1,(some f_), .other, []⟩ .leaf) 94 ⟨true,6,(some (ag (i_i64::i_i64::i_i64::i_i64::i_i64::i_i64:: []))),(.arr 6 3 1), []⟩ .leaf) 95 ⟨false,1,(some f_), .other, []⟩ (.node (.node .leaf 96 ⟨false,1,(some f_), .other, []⟩ .leaf) 97 ⟨false,1,(some f_), .other, []⟩ .leaf)) 98 ⟨false,1,(some f_), .other, []⟩ (.node (.node (.node .leaf 99 ⟨false,1,(some f_), .other, []⟩ .leaf) 100 ⟨false,1,(some f_), .other, []⟩ .leaf) 101 ⟨false,1,(some f_), .other, []⟩ (.node .leaf 102 ⟨true,4,(some (ag [i_u32,i_u32,i_u32,i_u32])), .st, [(0,1),(1,1),(2,1),(3,1)]⟩ .leaf))) 103 ⟨true,4,(some (ag [i_u32,i_u32,i_u32,i_u32])), .st, [(0,1),(1,1),(2,1),(3,1)]⟩ (.node (.node (.node (.node .leaf 104 ⟨false,1,(some f_), .other, []⟩ .leaf) 105 ⟨false,1,(some f_), .other, []⟩ .leaf) 106 ⟨false,1,(some f_), .other, []⟩ (.node (.node .leaf 107 ⟨false,1,(some f_), .other, []⟩ .leaf) 108 ⟨false,1,(some f_), .other, []⟩ .leaf)) 109 ⟨false,1,(some f_), .other, []⟩ (.node (.node (.node .leaf 110 ⟨false,1,(some f_), .other, []⟩ .leaf) 111 ⟨false,1,(some f_), .other, []⟩ .leaf) 112 ⟨false,1,(some f_), .other, []⟩ (.node .leaf 113 ⟨false,1,(some f_), .other, []⟩ .leaf)))) 114 ⟨false,1,(some f_), .other, []⟩ (.node (.node (.node (.node (.node .leaf 115 ⟨false,1,(some f_), .other, []⟩ .leaf) 116 ⟨false,1,(some f_), .other, []⟩ .leaf) 117 ⟨false,1,(some f_), .other, []⟩ (.node (.node .leaf 118 ⟨false,1,(some e_), .other, []⟩ .leaf) 119 ⟨false,1,(some e_), .other, []⟩ .leaf)) 120 ⟨true,4,(some (ag [b_,l_,i_i64,e_])), .st, [(0,1),(1,1),(2,1),(3,1)]⟩ (.node (.node (.node .leaf 121 ⟨true,4,(some (ag [b_,l_,i_i64,e_])), .st, [(0,1),(1,1),(2,1),(3,1)]⟩ .leaf) 122 ⟨false,1,(some f_), .other, []⟩ .leaf) 123 ⟨false,1,(some f_), .other, []⟩ (.node .leaf 124 ⟨false,1,(some f_), .other, []⟩ .leaf))) 125 ⟨false,1,(some f_), .other, []⟩ (.node (.node (.node (.node .leaf 126 ⟨false,1,(some p_),(.ptr 23), []⟩ .leaf) 127 ⟨false,1,(some p_),(.ptr 3), []⟩ .leaf) 128 ⟨true,6,(some (ag (p_::p_::p_::p_::p_::p_:: []))),(.arr 6 127 1), []⟩ (.node .leaf 129 ⟨false,1,(some f_), .other, []⟩ .leaf)) 131 ⟨false,1,(some f_), .other, []⟩ (.node (.node (.node .leaf 132 ⟨false,1,(some f_), .other, []⟩ .leaf) 133 ⟨false,1,(some f_), .other, []⟩ .leaf) 134 ⟨false,1,(some f_), .other, []⟩ (.node .leaf 135 ⟨false,1,(some f_), .other, []⟩ .leaf))))) 136 ⟨false,1,(some f_), .other, []⟩ (.node (.node (.node (.node (.node (.node .leaf 137 ⟨false,1,(some f_), .other, []⟩ .leaf) 138 ⟨false,1,(some f_), .other, []⟩ .leaf) 139 ⟨false,1,(some f_), .other, []⟩ (.node (.node .leaf 140 ⟨false,1,(some f_), .other, []⟩ .leaf) 142 ⟨false,1,(some f_), .other, []⟩ .leaf)) 143 ⟨false,1,(some f_), .other, []⟩ (.node (.node (.node .leaf 144 ⟨false,1,(some f_), .other, []⟩ .leaf) 145 ⟨false,1,(some f_), .other, []⟩ .leaf) 146 ⟨false,1,(some f_), .other, []⟩ (.node .leaf 147 ⟨false,1,(some f_), .other, []⟩ .leaf))) 149 ⟨false,1,(some f_), .other, []⟩ (.node (.node (.node (.node .leaf 150 ⟨false,1,(some f_), .other, []⟩ .leaf) 151 ⟨false,1,(some f_), .other, []⟩ .leaf) 152 ⟨false,1,(some f_), .other, []⟩ (.node (.node .leaf 153 ⟨false,1,(some f_), .other, []⟩ .leaf) 154 ⟨false,1,(some f_), .other, []⟩ .leaf)) 155 ⟨false,1,(some f_), .other, []⟩ (.node (.node (.node .leaf 156 ⟨false,1,(some f_), .other, []⟩ .leaf) 157 ⟨false,1,(some f_), .other, []⟩ .leaf) 158 ⟨false,1,(some f_), .other, []⟩ (.node .leaf 159 ⟨false,1,(some p_),(.ptr 196), []⟩ .leaf)))) 161 ⟨false,1,(some f_), .other, []⟩ (.node (.node (.node (.node (.node .leaf 162 ⟨false,1,(some p_),(.ptr 206), []⟩ .leaf) 163 ⟨false,1,(some f_), .other, []⟩ .leaf) 164 ⟨false,1,(some p_),(.ptr 209), []⟩ (.node (.node .leaf 165 ⟨false,1,(some f_), .other, []⟩ .leaf) 166 ⟨false,1,(some p_),(.ptr 216), []⟩ .leaf)) 167 ⟨false,1,(some f_), .other, []⟩ (.node (.node (.node .leaf 168 ⟨false,1,(some p_),(.ptr 220), []⟩ .leaf) 169 ⟨false,1,(some f_), .other, []⟩ .leaf) 170 ⟨true,13,(some (ag (i_i64::i_i64::i_i64::i_i64::i_i64::i_i64::i_i64::i_u32::p_::p_::p_::p_::p_:: []))), .st,((0,6)::(6,1)::(7,1)::(8,1)::(9,1)::(10,1)::(11,1)::(12,1):: [])⟩ (.node .leaf 171 ⟨true,13,(some (ag (i_i64::i_i64::i_i64::i_i64::i_i64::i_i64::i_i64::i_u32::p_::p_::p_::p_::p_:: []))), .st,((0,6)::(6,1)::(7,1)::(8,1)::(9,1)::(10,1)::(11,1)::(12,1):: [])⟩ .leaf))) 172 ⟨false,1,(some f_), .other, []⟩ (.node (.node (.node (.node .leaf 173 ⟨true,4,(some (ag [b_,i_i64,l_,i_i64])), .st, [(0,1),(1,1),(2,1),(3,1)]⟩ .leaf) 174 ⟨true,4,(some (ag [b_,i_i64,l_,i_i64])), .st, [(0,1),(1,1),(2,1),(3,1)]⟩ .leaf) 175 ⟨true,8,(some (rep 8 i_u8)),(.arr 8 5 1), []⟩ (.node .leaf 176 ⟨false,1,(some f_), .other, []⟩ .leaf)) 177 ⟨false,1,(some f_), .other, []⟩ (.node (.node (.node .leaf 178 ⟨false,1,(some f_), .other, []⟩ .leaf) 179 ⟨false,1,(some f_), .other, []⟩ .leaf) 180 ⟨false,1,(some i_u64),(.int .u64), []⟩ (.node .leaf 181 ⟨true,4,(some (ag [i_i64,i_i64,i_i64,i_i64])),(.arr 4 25 1), []⟩ .leaf))))))) 182 ⟨false,1,(some f_), .other, []⟩ (.node (.node (.node (.node (.node (.node (.node (.node .leaf 183 ⟨false,1,(some p_),(.ptr 187), []⟩ .leaf) 184 ⟨false,1,(some f_), .other, []⟩ .leaf) 185 ⟨false,1,(some p_),(.ptr 183), []⟩ (.node (.node .leaf 186 ⟨true,2,(some (ag [i_i64,i_i64])), .st, [(0,1),(1,1)]⟩ .leaf) 187 ⟨true,2,(some (ag [i_i64,i_i64])), .st, [(0,1),(1,1)]⟩ .leaf)) 188 ⟨false,1,(some f_), .other, []⟩ (.node (.node (.node .leaf 189 ⟨false,1,(some f_), .other, []⟩ .leaf) 190 ⟨false,1,(some f_), .other, []⟩ .leaf) 191 ⟨false,1,(some f_), .other, []⟩ (.node .leaf 192 ⟨false,1,(some f_), .other, []⟩ .leaf))) 193 ⟨false,1,(some f_), .other, []⟩ (.node (.node (.node (.node .leaf 194 ⟨false,1,(some f_), .other, []⟩ .leaf) 195 ⟨true,3,(some (ag [i_i64,i_u32,l_])), .st, [(0,1),(1,1),(2,1)]⟩ .leaf) 196 ⟨true,3,(some (ag [i_i64,i_u32,l_])), .st, [(0,1),(1,1),(2,1)]⟩ (.node (.node .leaf 197 ⟨false,1,(some f_), .other, []⟩ .leaf) 198 ⟨false,1,(some f_), .other, []⟩ .leaf)) 199 ⟨false,1,(some p_),(.ptr 252), []⟩ (.node (.node (.node .leaf 200 ⟨false,1,(some f_), .other, []⟩ .leaf) 201 ⟨true,2,(some (ag [i_u32,i_i64])), .st, [(0,1),(1,1)]⟩ .leaf) 202 ⟨true,2,(some (ag [i_u32,i_i64])), .st, [(0,1),(1,1)]⟩ (.node .leaf 203 ⟨false,1,(some p_),(.ptr 255), []⟩ .leaf)))) 204 ⟨false,1,(some f_), .other, []⟩ (.node (.node (.node (.node (.node .leaf 205 ⟨true,4,(some (ag [l_,i_u32,p_,p_])), .st, [(0,1),(1,1),(2,1),(3,1)]⟩ .leaf) 206 ⟨true,4,(some (ag [l_,i_u32,p_,p_])), .st, [(0,1),(1,1),(2,1),(3,1)]⟩ .leaf) 207 ⟨false,1,(some m_),(.mp 24 103), []⟩ (.node (.node .leaf 208 ⟨true,2,(some (ag [i_i64,m_])), .st, [(0,1),(1,1)]⟩ .leaf) 209 ⟨true,2,(some (ag [i_i64,m_])), .st, [(0,1),(1,1)]⟩ .leaf)) 210 ⟨false,1,(some p_),(.ptr 258), []⟩ (.node (.node (.node .leaf 211 ⟨false,1,(some f_), .other, []⟩ .leaf) 212 ⟨false,1,(some p_),(.ptr 261), []⟩ .leaf) 213 ⟨false,1,(some f_), .other, []⟩ (.node .leaf 214 ⟨false,1,(some m_),(.mp 54 266), []⟩ .leaf))) 215 ⟨true,5,(some (ag [p_,p_,m_,i_i64,i_i64])), .st, [(0,1),(1,1),(2,1),(3,1),(4,1)]⟩ (.node (.node (.node (.node .leaf 216 ⟨true,5,(some (ag [p_,p_,m_,i_i64,i_i64])), .st, [(0,1),(1,1),(2,1),(3,1),(4,1)]⟩ .leaf) 217 ⟨false,1,(some m_),(.mp 54 268), []⟩ .leaf) 218 ⟨false,1,(some l_),(.sl 54 2), []⟩ (.node .leaf 219 ⟨true,2,(some (ag [m_,l_])), .st, [(0,1),(1,1)]⟩ .leaf)) 220 ⟨true,2,(some (ag [m_,l_])), .st, [(0,1),(1,1)]⟩ (.node (.node (.node .leaf 221 ⟨false,1,(some f_), .other, []⟩ .leaf) 222 ⟨false,1,(some f_), .other, []⟩ .leaf) 223 ⟨false,1,(some f_), .other, []⟩ (.node .leaf 224 ⟨false,1,(some f_), .other, []⟩ .leaf))))) 225 ⟨false,1,(some f_), .other, []⟩ (.node (.node (.node (.node (.node (.node .leaf 227 ⟨false,1,(some f_), .other, []⟩ .leaf) 228 ⟨false,1,(some f_), .other, []⟩ .leaf) 229 ⟨false,1,(some f_), .other, []⟩ (.node (.node .leaf 230 ⟨false,1,(some l_),(.sl 34 1), []⟩ .leaf) 231 ⟨false,1,(some m_),(.mp 48 4), []⟩ .leaf)) 232 ⟨false,1,(some e_), .other, []⟩ (.node (.node (.node .leaf 233 ⟨false,1,(some e_), .other, []⟩ .leaf) 234 ⟨false,1,(some f_), .other, []⟩ .leaf) 235 ⟨false,1,(some f_), .other, []⟩ (.node .leaf 236 ⟨false,1,(some p_), .other, []⟩ .leaf))) 237 ⟨false,1,(some i_u64),(.int .u64), []⟩ (.node (.node (.node (.node .leaf 238 ⟨true,3,(some (ag [p_,p_,i_u64])), .st, [(0,1),(1,1),(2,1)]⟩ .leaf) 239 ⟨true,3,(some (ag [p_,p_,i_u64])), .st, [(0,1),(1,1),(2,1)]⟩ .leaf) 240 ⟨false,1,(some f_), .other, []⟩ (.node (.node .leaf 241 ⟨false,1,(some f_), .other, []⟩ .leaf) 242 ⟨false,1,(some i_u8),(.int .u8), []⟩ .leaf)) 243 ⟨false,1,(some f_), .other, []⟩ (.node (.node (.node .leaf 244 ⟨false,1,(some f_), .other, []⟩ .leaf) 245 ⟨false,1,(some f_), .other, []⟩ .leaf) 247 ⟨false,1,(some f_), .other, []⟩ (.node .leaf 249 ⟨false,1,(some f_), .other, []⟩ .leaf)))) 250 ⟨false,1,(some m_),(.mp 48 262), []⟩ (.node (.node (.node (.node (.node .leaf 251 ⟨true,2,(some (ag [m_,i_i64])), .st, [(0,1),(1,1)]⟩ .leaf) 252 ⟨true,2,(some (ag [m_,i_i64])), .st, [(0,1),(1,1)]⟩ .leaf) 253 ⟨false,1,(some m_),(.mp 44 49), []⟩ (.node (.node .leaf 254 ⟨true,2,(some (ag [m_,i_i64])), .st, [(0,1),(1,1)]⟩ .leaf) 255 ⟨true,2,(some (ag [m_,i_i64])), .st, [(0,1),(1,1)]⟩ .leaf)) 256 ⟨false,1,(some m_),(.mp 44 218), []⟩ (.node (.node (.node .leaf 257 ⟨true,2,(some (ag [m_,i_i64])), .st, [(0,1),(1,1)]⟩ .leaf) 258 ⟨true,2,(some (ag [m_,i_i64])), .st, [(0,1),(1,1)]⟩ .leaf) 259 ⟨false,1,(some m_),(.mp 24 218), []⟩ (.node .leaf 260 ⟨true,2,(some (ag [m_,i_i64])), .st, [(0,1),(1,1)]⟩ .leaf))) 261 ⟨true,2,(some (ag [m_,i_i64])), .st, [(0,1),(1,1)]⟩ (.node (.node (.node (.node .leaf 262 ⟨false,1,(some l_),(.sl 202 2), []⟩ .leaf) 263 ⟨false,1,(some f_), .other, []⟩ .leaf) 264 ⟨false,1,(some f_), .other, []⟩ (.node .leaf 265 ⟨true,20,(some (ag (i_u32::i_u32::i_u8::i_u8::i_u8::i_u8::i_u8::i_u8::i_u8::i_u8::i_u8::i_u8::i_u8::i_u8::i_u8::i_u8::i_u8::i_u8::l_::i_i64:: []))), .st, [(0,19),(19,1)]⟩ .leaf)) 266 ⟨true,20,(some (ag (i_u32::i_u32::i_u8::i_u8::i_u8::i_u8::i_u8::i_u8::i_u8::i_u8::i_u8::i_u8::i_u8::i_u8::i_u8::i_u8::i_u8::i_u8::l_::i_i64:: []))), .st, [(0,19),(19,1)]⟩ (.node (.node (.node .leaf 267 ⟨false,1,(some f_), .other, []⟩ .leaf) 268 ⟨false,1,(some p_),(.ptr 272), []⟩ .leaf) 269 ⟨false,1,(some f_), .other, []⟩ (.node .leaf 270 ⟨false,1,(some f_), .other, []⟩ .leaf)))))) 271 ⟨true,39,(some (ag (i_u32::i_u32::i_u8::i_u8::i_u8::i_u8::i_u8::i_u8::i_u8::i_u8::i_u8::i_u8::i_u8::i_u8::i_u8::i_u8::i_u8::i_u8::i_u8::i_u8::i_u8::i_u8::i_u8::i_u8::i_u8::i_u8::i_u8::i_u8::i_u8::i_u8::i_u8::i_u8::i_u8::i_u8::i_u32::i_u32::i_i64::l_::l_:: []))), .st, [(0,38),(38,1)]⟩ (.node (.node (.node (.node (.node (.node (.node .leaf 272 ⟨true,39,(some (ag (i_u32::i_u32::i_u8::i_u8::i_u8::i_u8::i_u8::i_u8::i_u8::i_u8::i_u8::i_u8::i_u8::i_u8::i_u8::i_u8::i_u8::i_u8::i_u8::i_u8::i_u8::i_u8::i_u8::i_u8::i_u8::i_u8::i_u8::i_u8::i_u8::i_u8::i_u8::i_u8::i_u8::i_u8::i_u32::i_u32::i_i64::l_::l_:: []))), .st, [(0,38),(38,1)]⟩ .leaf) 273 ⟨true,1,(some (ag [p_])), .st, [(0,1)]⟩ .leaf) 274 ⟨true,1,(some (ag [p_])), .st, [(0,1)]⟩ (.node (.node .leaf 275 ⟨false,1,(some p_),(.ptr 347), []⟩ .leaf) 276 ⟨false,1,(some e_), .other, []⟩ .leaf)) 278 ⟨false,1,(some f_), .other, []⟩ (.node (.node (.node .leaf 279 ⟨false,1,(some e_), .other, []⟩ .leaf) 280 ⟨false,1,(some f_), .other, []⟩ .leaf) 281 ⟨false,1,(some e_), .other, []⟩ (.node .leaf 282 ⟨false,1,(some l_),(.sl 119 1), []⟩ .leaf))) 283 ⟨false,1,(some f_), .other, []⟩ (.node (.node (.node (.node .leaf 284 ⟨false,1,(some f_), .other, []⟩ .leaf) 285 ⟨false,1,(some f_), .other, []⟩ .leaf) 286 ⟨false,1,(some e_), .other, []⟩ (.node (.node .leaf 288 ⟨false,1,(some f_), .other, []⟩ .leaf) 289 ⟨false,1,(some f_), .other, []⟩ .leaf)) 290 ⟨false,1,(some f_), .other, []⟩ (.node (.node (.node .leaf 291 ⟨false,1,(some f_), .other, []⟩ .leaf) 292 ⟨false,1,(some f_), .other, []⟩ .leaf) 293 ⟨false,1,(some f_), .other, []⟩ (.node .leaf 294 ⟨false,1,(some f_), .other, []⟩ .leaf)))) 295 ⟨false,1,(some f_), .other, []⟩ (.node (.node (.node (.node (.node .leaf 296 ⟨false,1,(some f_), .other, []⟩ .leaf) 297 ⟨false,1,(some f_), .other, []⟩ .leaf) 298 ⟨false,1,(some f_), .other, []⟩ (.node (.node .leaf 299 ⟨false,1,(some f_), .other, []⟩ .leaf) 300 ⟨false,1,(some f_), .other, []⟩ .leaf)) 301 ⟨false,1,(some f_), .other, []⟩ (.node (.node (.node .leaf 302 ⟨false,1,(some f_), .other, []⟩ .leaf) 303 ⟨false,1,(some f_), .other, []⟩ .leaf) 304 ⟨false,1,(some f_), .other, []⟩ (.node .leaf 305 ⟨false,1,(some f_), .other, []⟩ .leaf))) 306 ⟨false,1,(some f_), .other, []⟩ (.node (.node (.node (.node .leaf 307 ⟨false,1,(some f_), .other, []⟩ .leaf) 308 ⟨false,1,(some f_), .other, []⟩ .leaf) 309 ⟨false,1,(some f_), .other, []⟩ (.node .leaf 310 ⟨false,1,(some p_),(.ptr 317), []⟩ .leaf)) 311 ⟨false,1,(some f_), .other, []⟩ (.node (.node (.node .leaf 312 ⟨false,1,(some f_), .other, []⟩ .leaf) 313 ⟨true,8,(some (rep 8 i_u32)),(.arr 8 24 1), []⟩ .leaf) 314 ⟨true,8,(some (rep 8 i_u32)),(.arr 8 24 1), []⟩ (.node .leaf 315 ⟨false,1,(some f_), .other, []⟩ .leaf))))) 316 ⟨true,10,(some (ag (i_u32::i_u32::i_u32::i_u32::i_u32::i_u32::i_u32::i_u32::l_::i_u64:: []))), .st, [(0,8),(8,1),(9,1)]⟩ (.node (.node (.node (.node (.node (.node .leaf 317 ⟨true,10,(some (ag (i_u32::i_u32::i_u32::i_u32::i_u32::i_u32::i_u32::i_u32::l_::i_u64:: []))), .st, [(0,8),(8,1),(9,1)]⟩ .leaf) 318 ⟨false,1,(some f_), .other, []⟩ .leaf) 319 ⟨false,1,(some f_), .other, []⟩ (.node (.node .leaf 320 ⟨true,64,(some (rep 64 i_u32)),(.arr 64 24 1), []⟩ .leaf) 321 ⟨false,1,(some f_), .other, []⟩ .leaf)) 322 ⟨false,1,(some f_), .other, []⟩ (.node (.node (.node .leaf 323 ⟨false,1,(some f_), .other, []⟩ .leaf) 324 ⟨false,1,(some f_), .other, []⟩ .leaf) 325 ⟨false,1,(some f_), .other, []⟩ (.node .leaf 327 ⟨false,1,(some f_), .other, []⟩ .leaf))) 328 ⟨false,1,(some f_), .other, []⟩ (.node (.node (.node (.node .leaf 329 ⟨false,1,(some f_), .other, []⟩ .leaf) 330 ⟨true,4,(some (ag [p_,p_,p_,s_])), .st, [(0,1),(1,1),(2,1),(3,1)]⟩ .leaf) 331 ⟨true,4,(some (ag [p_,p_,p_,s_])), .st, [(0,1),(1,1),(2,1),(3,1)]⟩ (.node .leaf 332 ⟨true,0,(some (ag [])),(.arr 0 16 1), []⟩ .leaf)) 333 ⟨true,0,(some (ag [])), .st, [(0,0)]⟩ (.node (.node (.node .leaf 334 ⟨true,0,(some (ag [])), .st, [(0,0)]⟩ .leaf) 335 ⟨false,1,(some f_), .other, []⟩ .leaf) 336 ⟨false,1,(some i_u8),(.int .u8), []⟩ (.node .leaf 337 ⟨false,1,(some f_), .other, []⟩ .leaf)))) 338 ⟨false,1,(some p_),(.ptr 5), []⟩ (.node (.node (.node (.node (.node .leaf 339 ⟨false,1,(some i_i32),(.int .i32), []⟩ .leaf) 340 ⟨false,1,(some i_i32),(.int .i32), []⟩ .leaf) 341 ⟨true,11,(some (ag (i_u64::i_u64::i_u32::i_u8::i_u8::i_u8::i_u8::f_::p_::i_i32::i_i32:: []))), .st,((0,1)::(1,1)::(2,1)::(3,1)::(4,1)::(5,1)::(6,1)::(7,1)::(8,1)::(9,1)::(10,1):: [])⟩ (.node (.node .leaf 342 ⟨true,11,(some (ag (i_u64::i_u64::i_u32::i_u8::i_u8::i_u8::i_u8::f_::p_::i_i32::i_i32:: []))), .st,((0,1)::(1,1)::(2,1)::(3,1)::(4,1)::(5,1)::(6,1)::(7,1)::(8,1)::(9,1)::(10,1):: [])⟩ .leaf) 343 ⟨false,1,(some f_), .other, []⟩ .leaf)) 344 ⟨false,1,(some f_), .other, []⟩ (.node (.node (.node .leaf 345 ⟨false,1,(some f_), .other, []⟩ .leaf) 346 ⟨true,2,(some (ag [s_,i_u8])), .st, [(0,1),(1,1)]⟩ .leaf) 347 ⟨true,2,(some (ag [s_,i_u8])), .st, [(0,1),(1,1)]⟩ (.node .leaf 348 ⟨false,1,(some f_), .other, []⟩ .leaf))) 349 ⟨false,1,(some p_),(.ptr 353), []⟩ (.node (.node (.node (.node .leaf 350 ⟨false,1,(some f_), .other, []⟩ .leaf) 351 ⟨false,1,(some i_u16),(.int .u16), []⟩ .leaf) 352 ⟨true,5,(some (ag [i_i32,i_u16,i_u16,i_u32,i_u32])), .st, [(0,1),(1,1),(2,1),(3,1),(4,1)]⟩ (.node .leaf 353 ⟨true,5,(some (ag [i_i32,i_u16,i_u16,i_u32,i_u32])), .st, [(0,1),(1,1),(2,1),(3,1),(4,1)]⟩ .leaf)) 354 ⟨false,1,(some l_),(.sl 357 4), []⟩ (.node (.node (.node .leaf 355 ⟨false,1,(some i_i32),(.int .i32), []⟩ .leaf) 356 ⟨true,4,(some (ag [i_i32,i_i32,i_i32,i_i32])), .st, [(0,1),(1,1),(2,1),(3,1)]⟩ .leaf) 357 ⟨true,4,(some (ag [i_i32,i_i32,i_i32,i_i32])), .st, [(0,1),(1,1),(2,1),(3,1)]⟩ (.node .leaf 358 ⟨false,1,(some p_),(.ptr 119), []⟩ .leaf))))))))
def fnT:Tr Unit:=(.node (.node (.node (.node (.node (.node (.node (.node .leaf 2 () .leaf) 3 () (.node .leaf 4 () .leaf)) 5 () (.node (.node .leaf 6 () .leaf) 7 () .leaf)) 8 () (.node (.node (.node .leaf 9 () .leaf) 10 () .leaf) 11 () (.node (.node .leaf 12 () .leaf) 13 () .leaf))) 14 () (.node (.node (.node (.node .leaf 15 () .leaf) 16 () (.node .leaf 17 () .leaf)) 18 () (.node (.node .leaf 19 () .leaf) 20 () .leaf)) 21 () (.node (.node (.node .leaf 22 () .leaf) 23 () .leaf) 24 () (.node (.node .leaf 25 () .leaf) 26 () .leaf)))) 27 () (.node (.node (.node (.node (.node .leaf 28 () .leaf) 29 () (.node .leaf 30 () .leaf)) 31 () (.node (.node .leaf 32 () .leaf) 33 () .leaf)) 34 () (.node (.node (.node .leaf 35 () .leaf) 36 () .leaf) 37 () (.node (.node .leaf 38 () .leaf) 39 () .leaf))) 40 () (.node (.node (.node (.node .leaf 41 () .leaf) 42 () .leaf) 43 () (.node (.node .leaf 44 () .leaf) 45 () .leaf)) 46 () (.node (.node (.node .leaf 47 () .leaf) 48 () .leaf) 49 () (.node (.node .leaf 50 () .leaf) 51 () .leaf))))) 52 () (.node (.node (.node (.node (.node (.node .leaf 53 () .leaf) 54 () (.node .leaf 55 () .leaf)) 56 () (.node (.node .leaf 57 () .leaf) 58 () .leaf)) 59 () (.node (.node (.node .leaf 60 () .leaf) 61 () .leaf) 62 () (.node (.node .leaf 63 () .leaf) 64 () .leaf))) 65 () (.node (.node (.node (.node .leaf 66 () .leaf) 67 () .leaf) 68 () (.node (.node .leaf 69 () .leaf) 70 () .leaf)) 71 () (.node (.node (.node .leaf 72 () .leaf) 73 () .leaf) 74 () (.node (.node .leaf 75 () .leaf) 76 () .leaf)))) 77 () (.node (.node (.node (.node (.node .leaf 78 () .leaf) 79 () (.node .leaf 80 () .leaf)) 81 () (.node (.node .leaf 82 () .leaf) 83 () .leaf)) 84 () (.node (.node (.node .leaf 85 () .leaf) 86 () .leaf) 87 () (.node (.node .leaf 88 () .leaf) 89 () .leaf))) 90 () (.node (.node (.node (.node .leaf 91 () .leaf) 92 () .leaf) 93 () (.node (.node .leaf 94 () .leaf) 95 () .leaf)) 96 () (.node (.node (.node .leaf 97 () .leaf) 98 () .leaf) 99 () (.node (.node .leaf 100 () .leaf) 101 () .leaf)))))) 102 () (.node (.node (.node (.node (.node (.node (.node .leaf 103 () .leaf) 104 () (.node .leaf 105 () .leaf)) 106 () (.node (.node .leaf 107 () .leaf) 108 () .leaf)) 109 () (.node (.node (.node .leaf 110 () .leaf) 111 () .leaf) 112 () (.node (.node .leaf 113 () .leaf) 114 () .leaf))) 115 () (.node (.node (.node (.node .leaf 116 () .leaf) 117 () (.node .leaf 118 () .leaf)) 119 () (.node (.node .leaf 120 () .leaf) 121 () .leaf)) 122 () (.node (.node (.node .leaf 123 () .leaf) 124 () .leaf) 125 () (.node (.node .leaf 126 () .leaf) 127 () .leaf)))) 128 () (.node (.node (.node (.node (.node .leaf 129 () .leaf) 130 () (.node .leaf 131 () .leaf)) 132 () (.node (.node .leaf 133 () .leaf) 134 () .leaf)) 135 () (.node (.node (.node .leaf 136 () .leaf) 137 () .leaf) 138 () (.node (.node .leaf 139 () .leaf) 140 () .leaf))) 141 () (.node (.node (.node (.node .leaf 142 () .leaf) 143 () .leaf) 144 () (.node (.node .leaf 146 () .leaf) 150 () .leaf)) 151 () (.node (.node (.node .leaf 152 () .leaf) 153 () .leaf) 154 () (.node (.node .leaf 155 () .leaf) 156 () .leaf))))) 157 () (.node (.node (.node (.node (.node (.node .leaf 158 () .leaf) 159 () (.node .leaf 160 () .leaf)) 161 () (.node (.node .leaf 162 () .leaf) 163 () .leaf)) 164 () (.node (.node (.node .leaf 165 () .leaf) 166 () .leaf) 167 () (.node (.node .leaf 170 () .leaf) 171 () .leaf))) 172 () (.node (.node (.node (.node .leaf 173 () .leaf) 174 () .leaf) 175 () (.node (.node .leaf 176 () .leaf) 177 () .leaf)) 178 () (.node (.node (.node .leaf 179 () .leaf) 180 () .leaf) 181 () (.node (.node .leaf 182 () .leaf) 183 () .leaf)))) 184 () (.node (.node (.node (.node (.node .leaf 185 () .leaf) 186 () (.node .leaf 187 () .leaf)) 188 () (.node (.node .leaf 189 () .leaf) 190 () .leaf)) 191 () (.node (.node (.node .leaf 192 () .leaf) 193 () .leaf) 194 () (.node (.node .leaf 195 () .leaf) 196 () .leaf))) 197 () (.node (.node (.node (.node .leaf 198 () .leaf) 199 () .leaf) 200 () (.node (.node .leaf 201 () .leaf) 202 () .leaf)) 203 () (.node (.node (.node .leaf 204 () .leaf) 205 () .leaf) 206 () (.node (.node .leaf 234 () .leaf) 262 () .leaf)))))))
def tab:Tb:=⟨tyT,fnT⟩
theorem tabOk:TabOk Tryz.prog tab:=⟨by kernel_rfl,by kernel_rfl⟩
open Go.RowKit
set_option maxHeartbeats 2000000
abbrev ptr (b:Nat):Value:= .pointer (some ⟨b,0,none⟩)
abbrev errno (n:Nat):Value:= .int .i64 n
abbrev i64 (n:Int):Value:= .int .i64 n
abbrev Id:=Vector UInt8 32
abbrev Hint:=Vector UInt8 16
abbrev Id.c (x:Id):List Value:=(u8 x[0]::u8 x[1]::u8 x[2]::u8 x[3]::u8 x[4]::u8 x[5]::u8 x[6]::u8 x[7]::u8 x[8]::u8 x[9]::u8 x[10]::u8 x[11]::u8 x[12]::u8 x[13]::u8 x[14]::u8 x[15]::u8 x[16]::u8 x[17]::u8 x[18]::u8 x[19]::u8 x[20]::u8 x[21]::u8 x[22]::u8 x[23]::u8 x[24]::u8 x[25]::u8 x[26]::u8 x[27]::u8 x[28]::u8 x[29]::u8 x[30]::u8 x[31]:: [])
abbrev Hint.c (x:Hint):List Value:=(u8 x[0]::u8 x[1]::u8 x[2]::u8 x[3]::u8 x[4]::u8 x[5]::u8 x[6]::u8 x[7]::u8 x[8]::u8 x[9]::u8 x[10]::u8 x[11]::u8 x[12]::u8 x[13]::u8 x[14]::u8 x[15]:: [])
abbrev Id.v (x:Id):Value:= .agg (List.toArray (u8 x[0]::u8 x[1]::u8 x[2]::u8 x[3]::u8 x[4]::u8 x[5]::u8 x[6]::u8 x[7]::u8 x[8]::u8 x[9]::u8 x[10]::u8 x[11]::u8 x[12]::u8 x[13]::u8 x[14]::u8 x[15]::u8 x[16]::u8 x[17]::u8 x[18]::u8 x[19]::u8 x[20]::u8 x[21]::u8 x[22]::u8 x[23]::u8 x[24]::u8 x[25]::u8 x[26]::u8 x[27]::u8 x[28]::u8 x[29]::u8 x[30]::u8 x[31]:: []))
abbrev Hint.v (x:Hint):Value:= .agg (List.toArray (u8 x[0]::u8 x[1]::u8 x[2]::u8 x[3]::u8 x[4]::u8 x[5]::u8 x[6]::u8 x[7]::u8 x[8]::u8 x[9]::u8 x[10]::u8 x[11]::u8 x[12]::u8 x[13]::u8 x[14]::u8 x[15]:: []))
abbrev Bytes:=Sl UInt8
structure Key where
 ses:UInt32
 seq:UInt32
 deriving DecidableEq
abbrev Key.c (k:Key):List Value:= [u32 k.ses,u32 k.seq]
abbrev Key.v (k:Key):Value:= .agg #[u32 k.ses,u32 k.seq]
structure Tier where
 fee:UInt32
 tx:Bytes
abbrev Tier.c (t:Tier):List Value:= [u32 t.fee,t.tx.v]
abbrev Tier.v (t:Tier):Value:= .agg #[u32 t.fee,t.tx.v]
abbrev Payload:=Sl Tier
abbrev Payload.pv (p:Payload):Value:= .agg #[p.v]
structure PayAt (B:Nat) (w:World) (p:Payload):Prop where
 row:SlAt B w Tier.c 2 p
 tx:∀t∈p.l,SlAt B w u8L 1 t.tx
theorem PayAt.keep {S:Nat→Prop} {B:Nat} {w w':World} {p:Payload} (h:PayAt B w p) (hc:Chg S w w') (hB:∀b,S b→B≤b):PayAt B w' p:=⟨h.row.keep hc hB,fun t ht=>(h.tx t ht).keep hc hB⟩
structure Job where
 key:Key
 breach:Id
 height:UInt32
 mined:UInt32
 live:Int
 pay:Payload
abbrev Job.c (j:Job):List Value:=(u32 j.key.ses::u32 j.key.seq::u8 j.breach[0]::u8 j.breach[1]::u8 j.breach[2]::u8 j.breach[3]::u8 j.breach[4]::u8 j.breach[5]::u8 j.breach[6]::u8 j.breach[7]::u8 j.breach[8]::u8 j.breach[9]::u8 j.breach[10]::u8 j.breach[11]::u8 j.breach[12]::u8 j.breach[13]::u8 j.breach[14]::u8 j.breach[15]::u8 j.breach[16]::u8 j.breach[17]::u8 j.breach[18]::u8 j.breach[19]::u8 j.breach[20]::u8 j.breach[21]::u8 j.breach[22]::u8 j.breach[23]::u8 j.breach[24]::u8 j.breach[25]::u8 j.breach[26]::u8 j.breach[27]::u8 j.breach[28]::u8 j.breach[29]::u8 j.breach[30]::u8 j.breach[31]::u32 j.height::u32 j.mined::i64 j.live::j.pay.v:: [])
abbrev Job.v (j:Job):Value:= .agg (List.toArray (u32 j.key.ses::u32 j.key.seq::u8 j.breach[0]::u8 j.breach[1]::u8 j.breach[2]::u8 j.breach[3]::u8 j.breach[4]::u8 j.breach[5]::u8 j.breach[6]::u8 j.breach[7]::u8 j.breach[8]::u8 j.breach[9]::u8 j.breach[10]::u8 j.breach[11]::u8 j.breach[12]::u8 j.breach[13]::u8 j.breach[14]::u8 j.breach[15]::u8 j.breach[16]::u8 j.breach[17]::u8 j.breach[18]::u8 j.breach[19]::u8 j.breach[20]::u8 j.breach[21]::u8 j.breach[22]::u8 j.breach[23]::u8 j.breach[24]::u8 j.breach[25]::u8 j.breach[26]::u8 j.breach[27]::u8 j.breach[28]::u8 j.breach[29]::u8 j.breach[30]::u8 j.breach[31]::u32 j.height::u32 j.mined::i64 j.live::j.pay.v:: []))
structure Sub where
 key:Key
 breach:Id
 height:UInt32
 tier:Int
 tx:Bytes
abbrev Sub.c (j:Sub):List Value:=(u32 j.key.ses::u32 j.key.seq::u8 j.breach[0]::u8 j.breach[1]::u8 j.breach[2]::u8 j.breach[3]::u8 j.breach[4]::u8 j.breach[5]::u8 j.breach[6]::u8 j.breach[7]::u8 j.breach[8]::u8 j.breach[9]::u8 j.breach[10]::u8 j.breach[11]::u8 j.breach[12]::u8 j.breach[13]::u8 j.breach[14]::u8 j.breach[15]::u8 j.breach[16]::u8 j.breach[17]::u8 j.breach[18]::u8 j.breach[19]::u8 j.breach[20]::u8 j.breach[21]::u8 j.breach[22]::u8 j.breach[23]::u8 j.breach[24]::u8 j.breach[25]::u8 j.breach[26]::u8 j.breach[27]::u8 j.breach[28]::u8 j.breach[29]::u8 j.breach[30]::u8 j.breach[31]::u32 j.height::i64 j.tier::j.tx.v:: [])
abbrev Sub.v (j:Sub):Value:= .agg (List.toArray (u32 j.key.ses::u32 j.key.seq::u8 j.breach[0]::u8 j.breach[1]::u8 j.breach[2]::u8 j.breach[3]::u8 j.breach[4]::u8 j.breach[5]::u8 j.breach[6]::u8 j.breach[7]::u8 j.breach[8]::u8 j.breach[9]::u8 j.breach[10]::u8 j.breach[11]::u8 j.breach[12]::u8 j.breach[13]::u8 j.breach[14]::u8 j.breach[15]::u8 j.breach[16]::u8 j.breach[17]::u8 j.breach[18]::u8 j.breach[19]::u8 j.breach[20]::u8 j.breach[21]::u8 j.breach[22]::u8 j.breach[23]::u8 j.breach[24]::u8 j.breach[25]::u8 j.breach[26]::u8 j.breach[27]::u8 j.breach[28]::u8 j.breach[29]::u8 j.breach[30]::u8 j.breach[31]::u32 j.height::i64 j.tier::j.tx.v:: []))
def Id.z:Id:= #v[0,0,0,0,0,0,0,0,0,0,0,0,0,0,0,0,0,0,0,0,0,0,0,0,0,0,0,0,0,0,0,0]
def Sub.z:Sub:=⟨⟨0,0⟩,Id.z,0,0,Sl.nil⟩
theorem el_u8:ElT Tryz.prog 34 5 1 1:=elt_of (z:= .int .u8 0) Tryz.underlying34 (by kernel_rfl) rfl (by omega)
theorem eqis_of {P:Program} {t:TypeId} {xs ys:Array Value} {fs:Array Field} {b:Bool} (ht:P.underlying t=some (.struct fs)) (hp:P.stoodInHeld t=false) (h:∀w,(Op.eqFields 9999 xs ys fs.toList).run P w= .ok b w):EqIs P t (.agg xs) (.agg ys) b:=fun w=>by
 have hfs:P.fieldsOf t=fs:=by simp [Program.fieldsOf,ht]
 have:=run_equalIn_struct (P:=P) w 9999 t xs ys (by rw [hfs];exact ht) hp
 rw [hfs,h w] at this
 exact this
theorem Id.cells (x:Id):(x.toList.map Extern.Stop.cell).toArray=x.c.toArray:=by
 have h:x.toList=(List.finRange 32).map fun i=>x[i]:=by
  apply List.ext_getElem
  ·simp
  ·intro i h1 h2;simp
 rw [h]
 rfl
theorem eq_id (x y:Id):EqIs Tryz.prog 48 x.v y.v (decide (x=y)):=fun w=>by
 have h:=run_equalIn_bytes (P:=Tryz.prog) w 9998 48 5 32 (by kernel_rfl) Tryz.underlying5 (fun w=>by rfl) x.toList y.toList (by simp) (by simp)
 rw [Id.cells,Id.cells] at h
 have e:(x.toList==y.toList)=decide (x=y):=by
  rw [Bool.eq_iff_iff]
  simp
 rw [e] at h
 exact h
theorem eqf_nil {P:Program} {w:World} {d:Nat} {xs ys:Array Value}:(Op.eqFields d xs ys []).run P w= .ok true w:=by simp [Op.eqFields]
theorem eqf_cons {P : Program} {w : World} {d : Nat} {xs ys : Array Value} {f : Field} {fs : List Field} {x y : Value} {b r : Bool} (hn : f.name ≠ "_") (hx : (part f.type xs f.offset).run P w = .ok x w) (hy : (part f.type ys f.offset).run P w = .ok y w)
  (he:(Op.equalIn d f.type x y).run P w= .ok b w) (hr:(Op.eqFields d xs ys fs).run P w= .ok r w):(Op.eqFields d xs ys (f::fs)).run P w= .ok (b && r) w:=by
 simp only [Op.eqFields,hn,ne_eq,not_false_eq_true,if_true,Sem.run_bind,hx,hy,he,Result.andThen_ok]
 cases b
 ·simp
 ·simpa using hr
theorem part_word {P:Program} {w:World} {t:TypeId} {xs:Array Value} {off n:Nat} {v:Value} (hl:layOf P t=some (false,n)) (hv:xs[off]? =some v):(part t xs off).run P w= .ok v w:=by
 have h1:=(run_isAgg (w:=w) hl).1
 simp [part,h1,hv]
theorem u32_eq (a b:UInt32):(((a.toNat:Int)==(b.toNat:Int)):Bool)=decide (a=b):=by
 rw [Bool.eq_iff_iff]
 simp [←UInt32.toNat_inj]
 omega
section
variable {H : Type}
def Rdb (enc:TypeId×Value→H) (P:Program) (w:World) (t:TypeId) (cs:List Value):Prop:=∃fuel x,DataW.trod enc P w 0 (fun _=>true) true fuel t cs=some x
variable {enc : TypeId × Value → H} {P : Program} {w : World} {t e : TypeId} {cs : List Value}
theorem rdb_of {v:Value} {d:DataW H} {ps:List MemPlace} (h:DataW.Trod enc P w 0 (fun _=>true) true t v d ps):Rdb enc P w t v.cells.toList:=h.imp fun _ h=>⟨_,h⟩
theorem rdb_int {k:IntKind} (ht:P.underlying t=some (.int k)) (h:Rdb enc P w t cs):∃n,cs= [.int k n]∧(Lit.int k n).wf=true:=by
 obtain ⟨_,_,h⟩:=h
 obtain ⟨n,h1,_,h2⟩:=DataW.trod_int ht h
 exact ⟨n,h1,h2⟩
theorem mapM_all {α β:Type} {f:α→Option β}:∀{l:List α} {r:List β},l.mapM f=some r→∀(i:Nat) x,l[i]? =some x→∃y,r[i]? =some y∧f x=some y:=fun h i x hi=>by
 have h1:=mapM_some_get h i x hi
 have hl:=mapM_some_length h
 have hlt:i < _:=(List.getElem?_eq_some_iff.1 hi).1
 have h2:=List.getElem?_eq_getElem (show i < _ by rw [hl];exact hlt)
 exact ⟨_,h2,h1.trans h2⟩
theorem cells_of {a:Addr} {n:Nat} {l:List Value} (h:w.cells? 0 a n=some l):l.length=n∧∀(j:Nat) v,l[j]? =some v→w.cell? (a.add j)=some v:=by
 unfold World.cells? at h
 rw [if_pos (Nat.zero_le _)] at h
 have hl:=mapM_some_length h
 rw [List.length_range] at hl
 refine ⟨hl,fun j v hj=>?_⟩
 have hlt:j < n:=by rw [←hl];exact (List.getElem?_eq_some_iff.1 hj).1
 obtain ⟨y,hy,h1⟩:=mapM_all h j j (by simp [hlt])
 rw [hj] at hy
 cases hy
 exact h1
theorem cell_lt {a:Addr} {v:Value} (h:w.cell? a=some v):a.block < w.heap.size∧a.spot=none:=by
 unfold World.cell? at h
 split at h
 ·rename_i c _ _ hb
  split at h
  ·cases h
  ·rename_i hs
   exact ⟨(Array.getElem?_eq_some_iff.1 hb).1,by simpa using hs⟩
 ·cases h
theorem rdb_slice {α:Type} {ec:α→List Value} {sz:Nat} {Q:α→Prop} (ht:P.underlying t=some (.slice e)) (hsz:P.cellsOf e=sz) (h0:0 < sz) (dec:∀c,c.length=sz→Rdb enc P w e c→∃x,c=ec x∧Q x) (h:Rdb enc P w t cs):
  ∃s:Sl α,cs= [s.v]∧SlAt w.heap.size w ec sz s∧∀x∈s.l,Q x:=by
 obtain ⟨_,_,h⟩:=h
 rcases DataW.trod_slice ht h with ⟨rfl,_⟩|⟨a,len,cap,elems,rest,n,_,rfl,_,_,hl,hc,hel,he,_⟩
 ·exact ⟨Sl.nil,rfl, .none_,fun x hx=>by simp [Sl.nil] at hx⟩
 rw [hsz] at he
 have each:∀i,i < len→∃x,Q x∧(ec x).length=sz∧∀(j:Nat) v,(ec x)[j]? =some v→w.cell? ((a.add (i*sz)).add j)=some v:=fun i hi=>by
  have h1:=he i hi
  have h2:=List.getElem?_eq_getElem (show i < elems.length by omega)
  rw [h2] at h1
  obtain ⟨c,hc1,hc2⟩:=Option.bind_eq_some_iff.1 h1
  obtain ⟨hcl,hcell⟩:=cells_of hc1
  obtain ⟨x,rfl,hq⟩:=dec c hcl ⟨_,_,hc2⟩
  exact ⟨x,hq,hcl,hcell⟩
 have build:∀k,k≤len→∃l:List α,l.length=k∧(∀x∈l,Q x)∧∀(i:Nat) x,l[i]? =some x→(ec x).length=sz∧∀(j:Nat) v,(ec x)[j]? =some v→w.cell? ((a.add (i*sz)).add j)=some v:=by
  intro k
  induction k with
  |zero=>exact fun _=>⟨[],rfl,by simp,by simp⟩
  |succ k ih=>
   intro hk
   obtain ⟨l,h1,h2,h3⟩:=ih (by omega)
   obtain ⟨x,hq,hxl,hx⟩:=each k (by omega)
   refine ⟨l++ [x],by simp [h1],fun y hy=>?_,fun i y hi=>?_⟩
   ·rcases List.mem_append.1 hy with hy|hy
    ·exact h2 y hy
    ·simp at hy;subst hy;exact hq
   ·by_cases hik:i < k
    ·rw [List.getElem?_append_left (by omega)] at hi
     exact h3 i y hi
    ·rw [List.getElem?_append_right (by omega)] at hi
     have:i=k:=by
      have:=(List.getElem?_eq_some_iff.1 hi).1
      simp at this
      omega
     subst this
     simp [h1] at hi
     subst hi
     exact ⟨hxl,hx⟩
 obtain ⟨l,h1,h2,h3⟩:=build len (Nat.le_refl _)
 refine ⟨⟨some a,cap,l⟩,by simp [Sl.v,h1],⟨by show l.length≤cap;omega,hc,(fun hh=>by cases hh),fun hne=>?_⟩,h2⟩
 have hne':l≠ []:=hne
 obtain ⟨x,r,rfl⟩:∃x r,l=x::r:=by
  cases l with
  |nil=>exact (hne' rfl).elim
  |cons x r=>exact ⟨x,r,rfl⟩
 obtain ⟨hxl,hx⟩:=h3 0 x rfl
 have hc0:=hx 0 (ec x)[0] (List.getElem?_eq_getElem (by omega))
 simp only [Nat.zero_mul,Addr.add,if_true] at hc0
 obtain ⟨hlt,hsp⟩:=cell_lt hc0
 obtain ⟨b,o,sp⟩:=a
 have hsp':sp=none:=hsp
 subst hsp'
 refine ⟨b,o,rfl,hlt,fun i y hi j v hj=>?_⟩
 have:=(h3 i y hi).2 j v hj
 rwa [add_plain,add_plain] at this
end
theorem rdb_bytes {H:Type} {enc:TypeId×Value→H} {w:World} {cs:List Value} (h:Rdb enc Tryz.prog w 34 cs):∃s:Bytes,cs= [s.v]∧SlAt w.heap.size w u8L 1 s:=by
 obtain ⟨s,h1,h2,_⟩:=rdb_slice (ec:=u8L) (sz:=1) (Q:=fun _=>True) Tryz.underlying34 (by kernel_rfl) (by omega) (fun c _ hc=>by
  obtain ⟨n,rfl,hw⟩:=rdb_int Tryz.underlying5 hc
  obtain ⟨k,rfl,hk⟩:=lit_u8 hw
  refine ⟨UInt8.ofNat k,?_,trivial⟩
  have:(UInt8.ofNat k).toNat=k:=by simp;omega
  rw [show u8L (UInt8.ofNat k)= [.int .u8 ((UInt8.ofNat k).toNat:Int)] from rfl,this]) h
 exact ⟨s,h1,h2⟩
theorem slice_arg {H:Type} {enc:TypeId×Value→H} {P:Program} {w:World} {r:Reach} {b0:Nat} {t e:TypeId} {v:Value} {d:DataW H} {ps:List MemPlace} (ht:P.underlying t=some (.slice e)) (hval:Value.okWide P w r b0 t v) (h:DataW.Trod enc P w 0 (fun _=>true) true t v d ps):Rdb enc P w t [v]:=by
 have h1:=rdb_of h
 obtain ⟨a,n,c,rfl⟩:=Go.WideShapes.okWide_slice ht hval
 exact h1
end Go.Proofs.YtpbapnlnheahnaaGreatDoor
