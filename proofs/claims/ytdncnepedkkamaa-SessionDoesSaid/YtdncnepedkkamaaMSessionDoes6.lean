/- MSessionDoes6: Tab, Types, EqI, OpenP. -/
import Derived.Test.YtdncnepedkkamaaProg
import Derived.Test.YtdncnepedkkamaaMSessionDoessSlice
import Derived.Stop.BytesEq
import Derived.Test.YtdncnepedkkamaaMSessionDoes1
/- Tab: a table of the program's types and functions, written by a program of ours; each row is held against the program by the kernel. No condition. -/
namespace Go.Proofs.Ytdncnepedkkamaa
set_option maxRecDepth 100000
abbrev i_i8 : Value := .int .i8 0
abbrev i_i16 : Value := .int .i16 0
abbrev i_i32 : Value := .int .i32 0
abbrev i_i64 : Value := .int .i64 0
abbrev i_u8 : Value := .int .u8 0
abbrev i_u16 : Value := .int .u16 0
abbrev i_u32 : Value := .int .u32 0
abbrev i_u64 : Value := .int .u64 0
abbrev b_ : Value := .bool false
abbrev s_ : Value := .string ByteArray.empty
abbrev p_ : Value := .pointer none
abbrev l_ : Value := .slice none 0 0
abbrev m_ : Value := .map none
abbrev f_ : Value := .nilFunc
abbrev e_ : Value := .nilIface
abbrev ag (l : List Value) : Value := .agg l.toArray
abbrev rep (n : Nat) (v : Value) : Value := .agg (List.replicate n v).toArray
def tyT : Tr TE := (.node (.node (.node (.node (.node (.node (.node (.node .leaf 1 ⟨false, 1, (some f_), .other, []⟩ .leaf) 2 ⟨false, 1, (some i_i64), (.int .i64), []⟩ .leaf) 3 ⟨false, 1, (some i_i64), (.int .i64), []⟩ (.node (.node .leaf 4 ⟨false, 1, (some b_), .bool, []⟩ .leaf) 5 ⟨false, 1, (some i_u8), (.int .u8), []⟩ .leaf)) 6 ⟨false, 1, (some i_u8), (.int .u8), []⟩ (.node (.node (.node .leaf 7 ⟨true, 4, (some (ag [i_i64, i_i64, b_, i_u8])), .st, [(0, 1), (1, 1), (2, 1), (3, 1)]⟩ .leaf) 8 ⟨true, 4, (some (ag [i_i64, i_i64, b_, i_u8])), .st, [(0, 1), (1, 1), (2, 1), (3, 1)]⟩ .leaf) 9 ⟨false, 1, (some s_), .str, []⟩ (.node (.node .leaf 10 ⟨false, 1, (some s_), .str, []⟩ .leaf) 11 ⟨false, 1, (some s_), .str, []⟩ .leaf))) 12 ⟨false, 1, (some i_u64), (.int .u64), []⟩ (.node (.node (.node (.node .leaf 13 ⟨true, 2, (some (ag [s_, i_u64])), .st, [(0, 1), (1, 1)]⟩ .leaf) 14 ⟨true, 2, (some (ag [s_, i_u64])), .st, [(0, 1), (1, 1)]⟩ .leaf) 15 ⟨false, 1, (some p_), (.ptr 188), []⟩ (.node (.node .leaf 16 ⟨false, 1, (some p_), (.ptr 191), []⟩ .leaf) 17 ⟨false, 1, (some p_), (.ptr 199), []⟩ .leaf)) 18 ⟨true, 1, (some (ag [p_])), .st, [(0, 1)]⟩ (.node (.node (.node .leaf 19 ⟨true, 1, (some (ag [p_])), .st, [(0, 1)]⟩ .leaf) 20 ⟨false, 1, (some e_), .other, []⟩ .leaf) 21 ⟨false, 1, (some i_i32), (.int .i32), []⟩ (.node (.node .leaf 22 ⟨false, 1, (some l_), (.sl 31 7), []⟩ .leaf) 23 ⟨false, 1, (some f_), .other, []⟩ .leaf)))) 24 ⟨false, 1, (some p_), (.ptr 97), []⟩ (.node (.node (.node (.node (.node .leaf 25 ⟨false, 1, (some f_), .other, []⟩ .leaf) 26 ⟨false, 1, (some l_), (.sl 29 4), []⟩ .leaf) 27 ⟨false, 1, (some i_u32), (.int .u32), []⟩ (.node (.node .leaf 28 ⟨true, 4, (some (ag [i_u32, i_u32, i_u32, i_u32])), .st, [(0, 1), (1, 1), (2, 1), (3, 1)]⟩ .leaf) 29 ⟨true, 4, (some (ag [i_u32, i_u32, i_u32, i_u32])), .st, [(0, 1), (1, 1), (2, 1), (3, 1)]⟩ .leaf)) 30 ⟨true, 7, (some (ag (i_i64 :: i_u32 :: i_u32 :: i_u32 :: i_u32 :: i_u32 :: i_u32 :: []))), .st, [(0, 1), (1, 4), (5, 1), (6, 1)]⟩ (.node (.node (.node .leaf 31 ⟨true, 7, (some (ag (i_i64 :: i_u32 :: i_u32 :: i_u32 :: i_u32 :: i_u32 :: i_u32 :: []))), .st, [(0, 1), (1, 4), (5, 1), (6, 1)]⟩ .leaf) 32 ⟨false, 1, (some i_i64), (.int .i64), []⟩ .leaf) 33 ⟨false, 1, (some f_), .other, []⟩ (.node (.node .leaf 34 ⟨false, 1, (some f_), .other, []⟩ .leaf) 35 ⟨false, 1, (some f_), .other, []⟩ .leaf))) 37 ⟨false, 1, (some f_), .other, []⟩ (.node (.node (.node (.node .leaf 38 ⟨false, 1, (some f_), .other, []⟩ .leaf) 40 ⟨false, 1, (some f_), .other, []⟩ .leaf) 41 ⟨false, 1, (some f_), .other, []⟩ (.node (.node .leaf 42 ⟨false, 1, (some f_), .other, []⟩ .leaf) 43 ⟨false, 1, (some f_), .other, []⟩ .leaf)) 44 ⟨false, 1, (some f_), .other, []⟩ (.node (.node (.node .leaf 45 ⟨false, 1, (some f_), .other, []⟩ .leaf) 46 ⟨false, 1, (some f_), .other, []⟩ .leaf) 47 ⟨false, 1, (some l_), (.sl 27 1), []⟩ (.node (.node .leaf 48 ⟨false, 1, (some f_), .other, []⟩ .leaf) 49 ⟨false, 1, (some f_), .other, []⟩ .leaf))))) 51 ⟨false, 1, (some f_), .other, []⟩ (.node (.node (.node (.node (.node (.node .leaf 52 ⟨false, 1, (some f_), .other, []⟩ .leaf) 53 ⟨false, 1, (some f_), .other, []⟩ .leaf) 54 ⟨false, 1, (some l_), (.sl 67 68), []⟩ (.node (.node .leaf 55 ⟨false, 1, (some p_), (.ptr 107), []⟩ .leaf) 56 ⟨false, 1, (some f_), .other, []⟩ .leaf)) 57 ⟨false, 1, (some f_), .other, []⟩ (.node (.node (.node .leaf 58 ⟨false, 1, (some l_), (.sl 65 65), []⟩ .leaf) 59 ⟨true, 2, (some (ag [i_u32, l_])), .st, [(0, 1), (1, 1)]⟩ .leaf) 60 ⟨true, 2, (some (ag [i_u32, l_])), .st, [(0, 1), (1, 1)]⟩ (.node (.node .leaf 61 ⟨true, 32, (some (rep 32 i_u8)), (.arr 32 5 1), []⟩ .leaf) 62 ⟨true, 32, (some (rep 32 i_u8)), (.arr 32 5 1), []⟩ .leaf))) 63 ⟨false, 1, (some l_), (.sl 62 32), []⟩ (.node (.node (.node (.node .leaf 64 ⟨true, 65, (some (ag (i_u8 :: i_u8 :: i_u8 :: i_u8 :: i_u8 :: i_u8 :: i_u8 :: i_u8 :: i_u8 :: i_u8 :: i_u8 :: i_u8 :: i_u8 :: i_u8 :: i_u8 :: i_u8 :: i_u8 :: i_u8 :: i_u8 :: i_u8 :: i_u8 :: i_u8 :: i_u8 :: i_u8 :: i_u8 :: i_u8 :: i_u8 :: i_u8 :: i_u8 :: i_u8 :: i_u8 :: i_u8 :: i_u8 :: i_u8 :: i_u8 :: i_u8 :: i_u8 :: i_u8 :: i_u8 :: i_u8 :: i_u8 :: i_u8 :: i_u8 :: i_u8 :: i_u8 :: i_u8 :: i_u8 :: i_u8 :: i_u8 :: i_u8 :: i_u8 :: i_u8 :: i_u8 :: i_u8 :: i_u8 :: i_u8 :: i_u8 :: i_u8 :: i_u8 :: i_u8 :: i_u8 :: i_u8 :: i_u8 :: i_u8 :: l_ :: []))), .st, [(0, 32), (32, 32), (64, 1)]⟩ .leaf) 65 ⟨true, 65, (some (ag (i_u8 :: i_u8 :: i_u8 :: i_u8 :: i_u8 :: i_u8 :: i_u8 :: i_u8 :: i_u8 :: i_u8 :: i_u8 :: i_u8 :: i_u8 :: i_u8 :: i_u8 :: i_u8 :: i_u8 :: i_u8 :: i_u8 :: i_u8 :: i_u8 :: i_u8 :: i_u8 :: i_u8 :: i_u8 :: i_u8 :: i_u8 :: i_u8 :: i_u8 :: i_u8 :: i_u8 :: i_u8 :: i_u8 :: i_u8 :: i_u8 :: i_u8 :: i_u8 :: i_u8 :: i_u8 :: i_u8 :: i_u8 :: i_u8 :: i_u8 :: i_u8 :: i_u8 :: i_u8 :: i_u8 :: i_u8 :: i_u8 :: i_u8 :: i_u8 :: i_u8 :: i_u8 :: i_u8 :: i_u8 :: i_u8 :: i_u8 :: i_u8 :: i_u8 :: i_u8 :: i_u8 :: i_u8 :: i_u8 :: i_u8 :: l_ :: []))), .st, [(0, 32), (32, 32), (64, 1)]⟩ .leaf) 66 ⟨true, 68, (some (ag (i_i64 :: b_ :: i_u32 :: i_u8 :: i_u8 :: i_u8 :: i_u8 :: i_u8 :: i_u8 :: i_u8 :: i_u8 :: i_u8 :: i_u8 :: i_u8 :: i_u8 :: i_u8 :: i_u8 :: i_u8 :: i_u8 :: i_u8 :: i_u8 :: i_u8 :: i_u8 :: i_u8 :: i_u8 :: i_u8 :: i_u8 :: i_u8 :: i_u8 :: i_u8 :: i_u8 :: i_u8 :: i_u8 :: i_u8 :: i_u8 :: i_u8 :: i_u8 :: i_u8 :: i_u8 :: i_u8 :: i_u8 :: i_u8 :: i_u8 :: i_u8 :: i_u8 :: i_u8 :: i_u8 :: i_u8 :: i_u8 :: i_u8 :: i_u8 :: i_u8 :: i_u8 :: i_u8 :: i_u8 :: i_u8 :: i_u8 :: i_u8 :: i_u8 :: i_u8 :: i_u8 :: i_u8 :: i_u8 :: i_u8 :: i_u8 :: i_u8 :: i_u8 :: l_ :: []))), .st, [(0, 1), (1, 1), (2, 1), (3, 65)]⟩ (.node (.node .leaf 67 ⟨true, 68, (some (ag (i_i64 :: b_ :: i_u32 :: i_u8 :: i_u8 :: i_u8 :: i_u8 :: i_u8 :: i_u8 :: i_u8 :: i_u8 :: i_u8 :: i_u8 :: i_u8 :: i_u8 :: i_u8 :: i_u8 :: i_u8 :: i_u8 :: i_u8 :: i_u8 :: i_u8 :: i_u8 :: i_u8 :: i_u8 :: i_u8 :: i_u8 :: i_u8 :: i_u8 :: i_u8 :: i_u8 :: i_u8 :: i_u8 :: i_u8 :: i_u8 :: i_u8 :: i_u8 :: i_u8 :: i_u8 :: i_u8 :: i_u8 :: i_u8 :: i_u8 :: i_u8 :: i_u8 :: i_u8 :: i_u8 :: i_u8 :: i_u8 :: i_u8 :: i_u8 :: i_u8 :: i_u8 :: i_u8 :: i_u8 :: i_u8 :: i_u8 :: i_u8 :: i_u8 :: i_u8 :: i_u8 :: i_u8 :: i_u8 :: i_u8 :: i_u8 :: i_u8 :: i_u8 :: l_ :: []))), .st, [(0, 1), (1, 1), (2, 1), (3, 65)]⟩ .leaf) 69 ⟨false, 1, (some f_), .other, []⟩ .leaf)) 70 ⟨false, 1, (some f_), .other, []⟩ (.node (.node (.node .leaf 72 ⟨false, 1, (some f_), .other, []⟩ .leaf) 73 ⟨false, 1, (some f_), .other, []⟩ .leaf) 74 ⟨false, 1, (some l_), (.sl 4 1), []⟩ (.node (.node .leaf 75 ⟨false, 1, (some p_), (.ptr 121), []⟩ .leaf) 77 ⟨false, 1, (some f_), .other, []⟩ .leaf)))) 78 ⟨false, 1, (some f_), .other, []⟩ (.node (.node (.node (.node (.node .leaf 80 ⟨false, 1, (some f_), .other, []⟩ .leaf) 81 ⟨false, 1, (some f_), .other, []⟩ .leaf) 82 ⟨false, 1, (some f_), .other, []⟩ (.node (.node .leaf 83 ⟨false, 1, (some f_), .other, []⟩ .leaf) 84 ⟨false, 1, (some f_), .other, []⟩ .leaf)) 86 ⟨false, 1, (some f_), .other, []⟩ (.node (.node (.node .leaf 88 ⟨false, 1, (some f_), .other, []⟩ .leaf) 89 ⟨false, 1, (some f_), .other, []⟩ .leaf) 90 ⟨false, 1, (some f_), .other, []⟩ (.node (.node .leaf 91 ⟨true, 16, (some (rep 16 i_u8)), (.arr 16 5 1), []⟩ .leaf) 92 ⟨true, 16, (some (rep 16 i_u8)), (.arr 16 5 1), []⟩ .leaf))) 93 ⟨false, 1, (some l_), (.sl 5 1), []⟩ (.node (.node (.node (.node .leaf 94 ⟨false, 1, (some f_), .other, []⟩ .leaf) 95 ⟨false, 1, (some m_), (.mp 27 29), []⟩ .leaf) 96 ⟨true, 2, (some (ag [i_i64, m_])), .st, [(0, 1), (1, 1)]⟩ (.node (.node .leaf 97 ⟨true, 2, (some (ag [i_i64, m_])), .st, [(0, 1), (1, 1)]⟩ .leaf) 98 ⟨false, 1, (some f_), .other, []⟩ .leaf)) 99 ⟨false, 1, (some f_), .other, []⟩ (.node (.node (.node .leaf 100 ⟨false, 1, (some p_), (.ptr 133), []⟩ .leaf) 101 ⟨false, 1, (some f_), .other, []⟩ .leaf) 102 ⟨true, 2, (some (ag [i_u32, i_i64])), .st, [(0, 1), (1, 1)]⟩ (.node .leaf 103 ⟨true, 2, (some (ag [i_u32, i_i64])), .st, [(0, 1), (1, 1)]⟩ .leaf)))))) 104 ⟨false, 1, (some p_), (.ptr 136), []⟩ (.node (.node (.node (.node (.node (.node (.node .leaf 105 ⟨false, 1, (some f_), .other, []⟩ .leaf) 106 ⟨true, 4, (some (ag [l_, i_u32, p_, p_])), .st, [(0, 1), (1, 1), (2, 1), (3, 1)]⟩ .leaf) 107 ⟨true, 4, (some (ag [l_, i_u32, p_, p_])), .st, [(0, 1), (1, 1), (2, 1), (3, 1)]⟩ (.node (.node .leaf 108 ⟨false, 1, (some i_u64), (.int .u64), []⟩ .leaf) 109 ⟨false, 1, (some f_), .other, []⟩ .leaf)) 110 ⟨false, 1, (some f_), .other, []⟩ (.node (.node (.node .leaf 111 ⟨false, 1, (some f_), .other, []⟩ .leaf) 112 ⟨false, 1, (some f_), .other, []⟩ .leaf) 113 ⟨false, 1, (some f_), .other, []⟩ (.node (.node .leaf 114 ⟨false, 1, (some f_), .other, []⟩ .leaf) 115 ⟨false, 1, (some f_), .other, []⟩ .leaf))) 116 ⟨false, 1, (some f_), .other, []⟩ (.node (.node (.node (.node .leaf 117 ⟨false, 1, (some f_), .other, []⟩ .leaf) 118 ⟨false, 1, (some f_), .other, []⟩ .leaf) 119 ⟨false, 1, (some f_), .other, []⟩ (.node (.node .leaf 120 ⟨true, 3, (some (ag [i_i64, i_u32, l_])), .st, [(0, 1), (1, 1), (2, 1)]⟩ .leaf) 121 ⟨true, 3, (some (ag [i_i64, i_u32, l_])), .st, [(0, 1), (1, 1), (2, 1)]⟩ .leaf)) 122 ⟨false, 1, (some f_), .other, []⟩ (.node (.node (.node .leaf 123 ⟨false, 1, (some m_), (.mp 62 27), []⟩ .leaf) 124 ⟨false, 1, (some f_), .other, []⟩ .leaf) 125 ⟨false, 1, (some f_), .other, []⟩ (.node (.node .leaf 126 ⟨false, 1, (some f_), .other, []⟩ .leaf) 127 ⟨false, 1, (some f_), .other, []⟩ .leaf)))) 128 ⟨false, 1, (some f_), .other, []⟩ (.node (.node (.node (.node (.node .leaf 129 ⟨false, 1, (some f_), .other, []⟩ .leaf) 130 ⟨false, 1, (some f_), .other, []⟩ .leaf) 131 ⟨false, 1, (some m_), (.mp 62 138), []⟩ (.node (.node .leaf 132 ⟨true, 2, (some (ag [m_, i_i64])), .st, [(0, 1), (1, 1)]⟩ .leaf) 133 ⟨true, 2, (some (ag [m_, i_i64])), .st, [(0, 1), (1, 1)]⟩ .leaf)) 134 ⟨false, 1, (some m_), (.mp 92 63), []⟩ (.node (.node (.node .leaf 135 ⟨true, 2, (some (ag [m_, i_i64])), .st, [(0, 1), (1, 1)]⟩ .leaf) 136 ⟨true, 2, (some (ag [m_, i_i64])), .st, [(0, 1), (1, 1)]⟩ .leaf) 137 ⟨false, 1, (some m_), (.mp 62 4), []⟩ (.node (.node .leaf 138 ⟨false, 1, (some l_), (.sl 103 2), []⟩ .leaf) 139 ⟨false, 1, (some f_), .other, []⟩ .leaf))) 140 ⟨false, 1, (some f_), .other, []⟩ (.node (.node (.node (.node .leaf 141 ⟨false, 1, (some f_), .other, []⟩ .leaf) 142 ⟨false, 1, (some f_), .other, []⟩ .leaf) 143 ⟨false, 1, (some f_), .other, []⟩ (.node (.node .leaf 144 ⟨false, 1, (some f_), .other, []⟩ .leaf) 145 ⟨false, 1, (some f_), .other, []⟩ .leaf)) 146 ⟨false, 1, (some i_u64), (.int .u64), []⟩ (.node (.node (.node .leaf 147 ⟨false, 1, (some f_), .other, []⟩ .leaf) 148 ⟨false, 1, (some f_), .other, []⟩ .leaf) 149 ⟨false, 1, (some f_), .other, []⟩ (.node .leaf 150 ⟨false, 1, (some f_), .other, []⟩ .leaf))))) 151 ⟨false, 1, (some f_), .other, []⟩ (.node (.node (.node (.node (.node (.node .leaf 152 ⟨false, 1, (some f_), .other, []⟩ .leaf) 153 ⟨false, 1, (some f_), .other, []⟩ .leaf) 154 ⟨false, 1, (some f_), .other, []⟩ (.node (.node .leaf 155 ⟨false, 1, (some f_), .other, []⟩ .leaf) 156 ⟨false, 1, (some f_), .other, []⟩ .leaf)) 157 ⟨false, 1, (some i_i64), (.int .i64), []⟩ (.node (.node (.node .leaf 159 ⟨false, 1, (some f_), .other, []⟩ .leaf) 160 ⟨false, 1, (some f_), .other, []⟩ .leaf) 161 ⟨false, 1, (some f_), .other, []⟩ (.node (.node .leaf 163 ⟨false, 1, (some f_), .other, []⟩ .leaf) 164 ⟨false, 1, (some f_), .other, []⟩ .leaf))) 165 ⟨false, 1, (some f_), .other, []⟩ (.node (.node (.node (.node .leaf 166 ⟨false, 1, (some f_), .other, []⟩ .leaf) 167 ⟨false, 1, (some f_), .other, []⟩ .leaf) 168 ⟨false, 1, (some f_), .other, []⟩ (.node (.node .leaf 169 ⟨false, 1, (some f_), .other, []⟩ .leaf) 170 ⟨false, 1, (some f_), .other, []⟩ .leaf)) 171 ⟨false, 1, (some f_), .other, []⟩ (.node (.node (.node .leaf 172 ⟨false, 1, (some f_), .other, []⟩ .leaf) 173 ⟨false, 1, (some f_), .other, []⟩ .leaf) 174 ⟨false, 1, (some i_u64), (.int .u64), []⟩ (.node (.node .leaf 175 ⟨false, 1, (some f_), .other, []⟩ .leaf) 176 ⟨false, 1, (some f_), .other, []⟩ .leaf)))) 177 ⟨false, 1, (some f_), .other, []⟩ (.node (.node (.node (.node (.node .leaf 178 ⟨false, 1, (some p_), (.ptr 3), []⟩ .leaf) 179 ⟨false, 1, (some f_), .other, []⟩ .leaf) 180 ⟨false, 1, (some f_), .other, []⟩ (.node (.node .leaf 181 ⟨false, 1, (some f_), .other, []⟩ .leaf) 182 ⟨false, 1, (some p_), (.ptr 174), []⟩ .leaf)) 184 ⟨false, 1, (some f_), .other, []⟩ (.node (.node (.node .leaf 185 ⟨false, 1, (some f_), .other, []⟩ .leaf) 186 ⟨false, 1, (some f_), .other, []⟩ .leaf) 187 ⟨true, 4, (some (ag [p_, p_, p_, s_])), .st, [(0, 1), (1, 1), (2, 1), (3, 1)]⟩ (.node (.node .leaf 188 ⟨true, 4, (some (ag [p_, p_, p_, s_])), .st, [(0, 1), (1, 1), (2, 1), (3, 1)]⟩ .leaf) 189 ⟨true, 0, (some (ag [])), (.arr 0 16 1), []⟩ .leaf))) 190 ⟨true, 0, (some (ag [])), .st, [(0, 0)]⟩ (.node (.node (.node (.node .leaf 191 ⟨true, 0, (some (ag [])), .st, [(0, 0)]⟩ .leaf) 192 ⟨false, 1, (some i_u8), (.int .u8), []⟩ .leaf) 193 ⟨false, 1, (some i_u8), (.int .u8), []⟩ (.node (.node .leaf 194 ⟨false, 1, (some f_), .other, []⟩ .leaf) 195 ⟨false, 1, (some p_), (.ptr 5), []⟩ .leaf)) 196 ⟨false, 1, (some i_i32), (.int .i32), []⟩ (.node (.node (.node .leaf 197 ⟨false, 1, (some i_i32), (.int .i32), []⟩ .leaf) 198 ⟨true, 11, (some (ag (i_u64 :: i_u64 :: i_u32 :: i_u8 :: i_u8 :: i_u8 :: i_u8 :: f_ :: p_ :: i_i32 :: i_i32 :: []))), .st, ((0, 1) :: (1, 1) :: (2, 1) :: (3, 1) :: (4, 1) :: (5, 1) :: (6, 1) :: (7, 1) :: (8, 1) :: (9, 1) :: (10, 1) :: [])⟩ .leaf) 199 ⟨true, 11, (some (ag (i_u64 :: i_u64 :: i_u32 :: i_u8 :: i_u8 :: i_u8 :: i_u8 :: f_ :: p_ :: i_i32 :: i_i32 :: []))), .st, ((0, 1) :: (1, 1) :: (2, 1) :: (3, 1) :: (4, 1) :: (5, 1) :: (6, 1) :: (7, 1) :: (8, 1) :: (9, 1) :: (10, 1) :: [])⟩ (.node .leaf 200 ⟨false, 1, (some p_), .other, []⟩ .leaf)))))))
def fnT : Tr Unit := (.node (.node (.node (.node (.node (.node (.node (.node .leaf 2 () .leaf) 3 () .leaf) 4 () (.node .leaf 5 () .leaf)) 6 () (.node (.node .leaf 7 () .leaf) 8 () (.node .leaf 9 () .leaf))) 10 () (.node (.node (.node (.node .leaf 11 () .leaf) 12 () .leaf) 13 () (.node .leaf 14 () .leaf)) 15 () (.node (.node .leaf 16 () .leaf) 17 () (.node .leaf 18 () .leaf)))) 19 () (.node (.node (.node (.node (.node .leaf 20 () .leaf) 21 () .leaf) 22 () (.node .leaf 23 () .leaf)) 24 () (.node (.node .leaf 25 () .leaf) 26 () (.node .leaf 27 () .leaf))) 28 () (.node (.node (.node .leaf 29 () .leaf) 30 () (.node .leaf 31 () .leaf)) 32 () (.node (.node .leaf 33 () .leaf) 34 () (.node .leaf 35 () .leaf))))) 36 () (.node (.node (.node (.node (.node (.node .leaf 37 () .leaf) 38 () .leaf) 39 () (.node .leaf 40 () .leaf)) 41 () (.node (.node .leaf 42 () .leaf) 43 () (.node .leaf 44 () .leaf))) 45 () (.node (.node (.node .leaf 46 () .leaf) 47 () (.node .leaf 48 () .leaf)) 49 () (.node (.node .leaf 50 () .leaf) 51 () (.node .leaf 52 () .leaf)))) 53 () (.node (.node (.node (.node (.node .leaf 54 () .leaf) 55 () .leaf) 56 () (.node .leaf 57 () .leaf)) 58 () (.node (.node .leaf 59 () .leaf) 60 () (.node .leaf 61 () .leaf))) 62 () (.node (.node (.node .leaf 63 () .leaf) 64 () (.node .leaf 65 () .leaf)) 66 () (.node (.node .leaf 67 () .leaf) 68 () (.node .leaf 69 () .leaf)))))) 70 () (.node (.node (.node (.node (.node (.node (.node .leaf 71 () .leaf) 72 () .leaf) 73 () (.node .leaf 74 () .leaf)) 75 () (.node (.node .leaf 76 () .leaf) 77 () (.node .leaf 78 () .leaf))) 79 () (.node (.node (.node (.node .leaf 80 () .leaf) 81 () .leaf) 82 () (.node .leaf 83 () .leaf)) 84 () (.node (.node .leaf 85 () .leaf) 86 () (.node .leaf 87 () .leaf)))) 88 () (.node (.node (.node (.node (.node .leaf 89 () .leaf) 90 () .leaf) 91 () (.node .leaf 92 () .leaf)) 93 () (.node (.node .leaf 94 () .leaf) 95 () (.node .leaf 96 () .leaf))) 97 () (.node (.node (.node .leaf 98 () .leaf) 99 () (.node .leaf 100 () .leaf)) 101 () (.node (.node .leaf 102 () .leaf) 103 () (.node .leaf 104 () .leaf))))) 105 () (.node (.node (.node (.node (.node (.node .leaf 106 () .leaf) 107 () .leaf) 108 () (.node .leaf 109 () .leaf)) 110 () (.node (.node .leaf 111 () .leaf) 112 () (.node .leaf 113 () .leaf))) 114 () (.node (.node (.node .leaf 115 () .leaf) 116 () (.node .leaf 117 () .leaf)) 118 () (.node (.node .leaf 119 () .leaf) 120 () (.node .leaf 121 () .leaf)))) 122 () (.node (.node (.node (.node (.node .leaf 123 () .leaf) 124 () .leaf) 125 () (.node .leaf 126 () .leaf)) 127 () (.node (.node .leaf 128 () .leaf) 129 () (.node .leaf 130 () .leaf))) 131 () (.node (.node (.node .leaf 132 () .leaf) 133 () (.node .leaf 134 () .leaf)) 135 () (.node (.node .leaf 136 () .leaf) 137 () (.node .leaf 138 () .leaf)))))))
def tab : Tb := ⟨tyT, fnT⟩
theorem tabOk : TabOk Try.prog tab := ⟨by kernel_rfl, by kernel_rfl⟩
end Go.Proofs.Ytdncnepedkkamaa
/- Types: the program's plain types as values. No condition. -/
namespace Go.Proofs.Ytdncnepedkkamaa
set_option linter.unusedSimpArgs false
set_option linter.unusedVariables false
open Go.RowKit
set_option maxRecDepth 100000
set_option maxHeartbeats 2000000
abbrev ptr (b : Nat) : Value := .pointer (some ⟨b, 0, none⟩)
abbrev errno (n : Nat) : Value := .int .i64 n
abbrev i64 (n : Int) : Value := .int .i64 n
abbrev Id := Vector UInt8 32
abbrev Hint := Vector UInt8 16
abbrev Id.c (x : Id) : List Value := (u8 x[0] :: u8 x[1] :: u8 x[2] :: u8 x[3] :: u8 x[4] :: u8 x[5] :: u8 x[6] :: u8 x[7] :: u8 x[8] :: u8 x[9] :: u8 x[10] :: u8 x[11] :: u8 x[12] :: u8 x[13] :: u8 x[14] :: u8 x[15] :: u8 x[16] :: u8 x[17] :: u8 x[18] :: u8 x[19] :: u8 x[20] :: u8 x[21] :: u8 x[22] :: u8 x[23] :: u8 x[24] :: u8 x[25] :: u8 x[26] :: u8 x[27] :: u8 x[28] :: u8 x[29] :: u8 x[30] :: u8 x[31] :: [])
abbrev Hint.c (x : Hint) : List Value := (u8 x[0] :: u8 x[1] :: u8 x[2] :: u8 x[3] :: u8 x[4] :: u8 x[5] :: u8 x[6] :: u8 x[7] :: u8 x[8] :: u8 x[9] :: u8 x[10] :: u8 x[11] :: u8 x[12] :: u8 x[13] :: u8 x[14] :: u8 x[15] :: [])
abbrev Id.v (x : Id) : Value := .agg (List.toArray (u8 x[0] :: u8 x[1] :: u8 x[2] :: u8 x[3] :: u8 x[4] :: u8 x[5] :: u8 x[6] :: u8 x[7] :: u8 x[8] :: u8 x[9] :: u8 x[10] :: u8 x[11] :: u8 x[12] :: u8 x[13] :: u8 x[14] :: u8 x[15] :: u8 x[16] :: u8 x[17] :: u8 x[18] :: u8 x[19] :: u8 x[20] :: u8 x[21] :: u8 x[22] :: u8 x[23] :: u8 x[24] :: u8 x[25] :: u8 x[26] :: u8 x[27] :: u8 x[28] :: u8 x[29] :: u8 x[30] :: u8 x[31] :: []))
abbrev Hint.v (x : Hint) : Value := .agg (List.toArray (u8 x[0] :: u8 x[1] :: u8 x[2] :: u8 x[3] :: u8 x[4] :: u8 x[5] :: u8 x[6] :: u8 x[7] :: u8 x[8] :: u8 x[9] :: u8 x[10] :: u8 x[11] :: u8 x[12] :: u8 x[13] :: u8 x[14] :: u8 x[15] :: []))
abbrev Bytes := Sl UInt8
structure Key where
  ses : UInt32
  seq : UInt32
  deriving DecidableEq
abbrev Key.c (k : Key) : List Value := [u32 k.ses, u32 k.seq]
abbrev Key.v (k : Key) : Value := .agg #[u32 k.ses, u32 k.seq]
structure Tier where
  fee : UInt32
  tx : Bytes
abbrev Tier.c (t : Tier) : List Value := [u32 t.fee, t.tx.v]
abbrev Tier.v (t : Tier) : Value := .agg #[u32 t.fee, t.tx.v]
abbrev Payload := Sl Tier
abbrev Payload.pv (p : Payload) : Value := .agg #[p.v]
/-- a payload's memory -/
structure PayAt (B : Nat) (w : World) (p : Payload) : Prop where
  row : SlAt B w Tier.c 2 p
  tx : ∀ t ∈ p.l, SlAt B w u8L 1 t.tx
theorem PayAt.keep {S : Nat → Prop} {B : Nat} {w w' : World} {p : Payload} (h : PayAt B w p) (hc : Chg S w w') (hB : ∀ b, S b → B ≤ b) : PayAt B w' p := ⟨h.row.keep hc hB, fun t ht => (h.tx t ht).keep hc hB⟩
structure Job where
  key : Key
  breach : Id
  height : UInt32
  mined : UInt32
  live : Int
  pay : Payload
abbrev Job.c (j : Job) : List Value := (u32 j.key.ses :: u32 j.key.seq :: u8 j.breach[0] :: u8 j.breach[1] :: u8 j.breach[2] :: u8 j.breach[3] :: u8 j.breach[4] :: u8 j.breach[5] :: u8 j.breach[6] :: u8 j.breach[7] :: u8 j.breach[8] :: u8 j.breach[9] :: u8 j.breach[10] :: u8 j.breach[11] :: u8 j.breach[12] :: u8 j.breach[13] :: u8 j.breach[14] :: u8 j.breach[15] :: u8 j.breach[16] :: u8 j.breach[17] :: u8 j.breach[18] :: u8 j.breach[19] :: u8 j.breach[20] :: u8 j.breach[21] :: u8 j.breach[22] :: u8 j.breach[23] :: u8 j.breach[24] :: u8 j.breach[25] :: u8 j.breach[26] :: u8 j.breach[27] :: u8 j.breach[28] :: u8 j.breach[29] :: u8 j.breach[30] :: u8 j.breach[31] :: u32 j.height :: u32 j.mined :: i64 j.live :: j.pay.v :: [])
abbrev Job.v (j : Job) : Value := .agg (List.toArray (u32 j.key.ses :: u32 j.key.seq :: u8 j.breach[0] :: u8 j.breach[1] :: u8 j.breach[2] :: u8 j.breach[3] :: u8 j.breach[4] :: u8 j.breach[5] :: u8 j.breach[6] :: u8 j.breach[7] :: u8 j.breach[8] :: u8 j.breach[9] :: u8 j.breach[10] :: u8 j.breach[11] :: u8 j.breach[12] :: u8 j.breach[13] :: u8 j.breach[14] :: u8 j.breach[15] :: u8 j.breach[16] :: u8 j.breach[17] :: u8 j.breach[18] :: u8 j.breach[19] :: u8 j.breach[20] :: u8 j.breach[21] :: u8 j.breach[22] :: u8 j.breach[23] :: u8 j.breach[24] :: u8 j.breach[25] :: u8 j.breach[26] :: u8 j.breach[27] :: u8 j.breach[28] :: u8 j.breach[29] :: u8 j.breach[30] :: u8 j.breach[31] :: u32 j.height :: u32 j.mined :: i64 j.live :: j.pay.v :: []))
structure Sub where
  key : Key
  breach : Id
  height : UInt32
  tier : Int
  tx : Bytes
abbrev Sub.c (j : Sub) : List Value := (u32 j.key.ses :: u32 j.key.seq :: u8 j.breach[0] :: u8 j.breach[1] :: u8 j.breach[2] :: u8 j.breach[3] :: u8 j.breach[4] :: u8 j.breach[5] :: u8 j.breach[6] :: u8 j.breach[7] :: u8 j.breach[8] :: u8 j.breach[9] :: u8 j.breach[10] :: u8 j.breach[11] :: u8 j.breach[12] :: u8 j.breach[13] :: u8 j.breach[14] :: u8 j.breach[15] :: u8 j.breach[16] :: u8 j.breach[17] :: u8 j.breach[18] :: u8 j.breach[19] :: u8 j.breach[20] :: u8 j.breach[21] :: u8 j.breach[22] :: u8 j.breach[23] :: u8 j.breach[24] :: u8 j.breach[25] :: u8 j.breach[26] :: u8 j.breach[27] :: u8 j.breach[28] :: u8 j.breach[29] :: u8 j.breach[30] :: u8 j.breach[31] :: u32 j.height :: i64 j.tier :: j.tx.v :: [])
abbrev Sub.v (j : Sub) : Value := .agg (List.toArray (u32 j.key.ses :: u32 j.key.seq :: u8 j.breach[0] :: u8 j.breach[1] :: u8 j.breach[2] :: u8 j.breach[3] :: u8 j.breach[4] :: u8 j.breach[5] :: u8 j.breach[6] :: u8 j.breach[7] :: u8 j.breach[8] :: u8 j.breach[9] :: u8 j.breach[10] :: u8 j.breach[11] :: u8 j.breach[12] :: u8 j.breach[13] :: u8 j.breach[14] :: u8 j.breach[15] :: u8 j.breach[16] :: u8 j.breach[17] :: u8 j.breach[18] :: u8 j.breach[19] :: u8 j.breach[20] :: u8 j.breach[21] :: u8 j.breach[22] :: u8 j.breach[23] :: u8 j.breach[24] :: u8 j.breach[25] :: u8 j.breach[26] :: u8 j.breach[27] :: u8 j.breach[28] :: u8 j.breach[29] :: u8 j.breach[30] :: u8 j.breach[31] :: u32 j.height :: i64 j.tier :: j.tx.v :: []))
def Id.z : Id := #v[0, 0, 0, 0, 0, 0, 0, 0, 0, 0, 0, 0, 0, 0, 0, 0, 0, 0, 0, 0, 0, 0, 0, 0, 0, 0, 0, 0, 0, 0, 0, 0]
def Sub.z : Sub := ⟨⟨0, 0⟩, Id.z, 0, 0, Sl.nil⟩
theorem el_u8 : ElT Try.prog 93 5 1 1 := elt_of (z := .int .u8 0) Try.underlying93 (by kernel_rfl) rfl (by omega)
end Go.Proofs.Ytdncnepedkkamaa
/- EqI: equality of ids; tools. No condition. -/
namespace Go.Proofs.Ytdncnepedkkamaa
set_option linter.unusedSimpArgs false
set_option linter.unusedVariables false
open Go.RowKit
set_option maxRecDepth 100000
set_option maxHeartbeats 2000000
theorem eqis_of {P : Program} {t : TypeId} {xs ys : Array Value} {fs : Array Field} {b : Bool} (ht : P.underlying t = some (.struct fs)) (hp : P.stoodInHeld t = false) (h : ∀ w, (Op.eqFields 9999 xs ys fs.toList).run P w = .ok b w) : EqIs P t (.agg xs) (.agg ys) b := fun w => by
  have hfs : P.fieldsOf t = fs := by simp [Program.fieldsOf, ht]
  have := run_equalIn_struct (P := P) w 9999 t xs ys (by rw [hfs]; exact ht) hp
  rw [hfs, h w] at this
  exact this
theorem Id.cells (x : Id) : (x.toList.map Extern.Stop.cell).toArray = x.c.toArray := by
  have h : x.toList = (List.finRange 32).map fun i => x[i] := by
    apply List.ext_getElem
    · simp
    · intro i h1 h2; simp
  rw [h]
  rfl
theorem eq_id (x y : Id) : EqIs Try.prog 62 x.v y.v (decide (x = y)) := fun w => by
  have h := run_equalIn_bytes (P := Try.prog) w 9998 62 5 32 (by kernel_rfl) Try.underlying5 (fun w => by rfl) x.toList y.toList (by simp) (by simp)
  rw [Id.cells, Id.cells] at h
  have e : (x.toList == y.toList) = decide (x = y) := by
    rw [Bool.eq_iff_iff]
    simp
  rw [e] at h
  exact h
theorem eqf_nil {P : Program} {w : World} {d : Nat} {xs ys : Array Value} : (Op.eqFields d xs ys []).run P w = .ok true w := by simp [Op.eqFields]
theorem eqf_cons {P : Program} {w : World} {d : Nat} {xs ys : Array Value} {f : Field} {fs : List Field} {x y : Value} {b r : Bool} (hn : f.name ≠ "_") (hx : (part f.type xs f.offset).run P w = .ok x w) (hy : (part f.type ys f.offset).run P w = .ok y w)
    (he : (Op.equalIn d f.type x y).run P w = .ok b w) (hr : (Op.eqFields d xs ys fs).run P w = .ok r w) : (Op.eqFields d xs ys (f :: fs)).run P w = .ok (b && r) w := by
  simp only [Op.eqFields, hn, ne_eq, not_false_eq_true, if_true, Sem.run_bind, hx, hy, he, Result.andThen_ok]
  cases b
  · simp
  · simpa using hr
theorem part_word {P : Program} {w : World} {t : TypeId} {xs : Array Value} {off n : Nat} {v : Value} (hl : layOf P t = some (false, n)) (hv : xs[off]? = some v) : (part t xs off).run P w = .ok v w := by
  have h1 := (run_isAgg (w := w) hl).1
  simp [part, h1, hv]
theorem part_agg {P : Program} {w : World} {t : TypeId} {xs : Array Value} {off n : Nat} {ys : Array Value} (hl : layOf P t = some (true, n)) (hv : xs.extract off (off + n) = ys) : (part t xs off).run P w = .ok (.agg ys) w := by
  obtain ⟨h1, h2⟩ := run_isAgg (w := w) hl
  simp [part, h1, h2, hv]
theorem u32_eq (a b : UInt32) : (((a.toNat : Int) == (b.toNat : Int)) : Bool) = decide (a = b) := by
  rw [Bool.eq_iff_iff]
  simp [← UInt32.toNat_inj]
  omega
end Go.Proofs.Ytdncnepedkkamaa
/- OpenP (a twin of Open, for programs without keys and jobs): arguments of the plain types, opened: what they are, and where their memory lies. No condition. -/
namespace Go.Proofs.Ytdncnepedkkamaa
set_option linter.unusedSimpArgs false
set_option linter.unusedVariables false
open Go.RowKit
set_option maxRecDepth 100000
set_option maxHeartbeats 2000000
section
variable {H : Type}
/-- cells that can be read as a type -/
def Rdb (enc : TypeId × Value → H) (P : Program) (w : World) (t : TypeId) (cs : List Value) : Prop := ∃ fuel x, DataW.trod enc P w 0 (fun _ => true) true fuel t cs = some x
variable {enc : TypeId × Value → H} {P : Program} {w : World} {t e : TypeId} {cs : List Value}
theorem rdb_of {v : Value} {d : DataW H} {ps : List MemPlace} (h : DataW.Trod enc P w 0 (fun _ => true) true t v d ps) : Rdb enc P w t v.cells.toList := h.imp fun _ h => ⟨_, h⟩
theorem rdb_int {k : IntKind} (ht : P.underlying t = some (.int k)) (h : Rdb enc P w t cs) : ∃ n, cs = [.int k n] ∧ (Lit.int k n).wf = true := by
  obtain ⟨_, _, h⟩ := h
  obtain ⟨n, h1, _, h2⟩ := DataW.trod_int ht h
  exact ⟨n, h1, h2⟩
theorem rdb_bool (ht : P.underlying t = some .bool) (h : Rdb enc P w t cs) : ∃ b, cs = [.bool b] := by
  obtain ⟨_, _, h⟩ := h
  obtain ⟨n, h1, _⟩ := DataW.trod_bool ht h
  exact ⟨n, h1⟩
theorem rdb_struct {fs : Array Field} (ht : P.underlying t = some (.struct fs)) (h : Rdb enc P w t cs) : cs.length = P.cellsOf t ∧ ∀ (i : Nat) f, fs[i]? = some f → Rdb enc P w f.type ((cs.drop f.offset).take (P.cellsOf f.type)) := by
  obtain ⟨_, _, h⟩ := h
  obtain ⟨xs, n, _, _, hl, hx, hf⟩ := DataW.trod_struct ht h
  refine ⟨hl, fun i f hi => ?_⟩
  have hlt : i < xs.length := by rw [hx]; exact (Array.getElem?_eq_some_iff.1 hi).1
  exact ⟨n, xs[i], by rw [hf i f hi, List.getElem?_eq_getElem hlt]⟩
theorem rdb_array {n : Nat} (ht : P.underlying t = some (.array n e)) (h : Rdb enc P w t cs) : cs.length = P.cellsOf t ∧ ∀ (i : Nat), i < n → Rdb enc P w e ((cs.drop (i * P.cellsOf e)).take (P.cellsOf e)) := by
  obtain ⟨_, _, h⟩ := h
  obtain ⟨xs, m, _, _, hl, hx, hf⟩ := DataW.trod_array ht h
  refine ⟨hl, fun i hi => ?_⟩
  have hlt : i < xs.length := by rw [hx]; exact hi
  exact ⟨m, xs[i], by rw [hf i hi, List.getElem?_eq_getElem hlt]⟩
theorem mapM_all {α β : Type} {f : α → Option β} : ∀ {l : List α} {r : List β}, l.mapM f = some r → ∀ (i : Nat) x, l[i]? = some x → ∃ y, r[i]? = some y ∧ f x = some y := fun h i x hi => by
  have h1 := mapM_some_get h i x hi
  have hl := mapM_some_length h
  have hlt : i < _ := (List.getElem?_eq_some_iff.1 hi).1
  have h2 := List.getElem?_eq_getElem (show i < _ by rw [hl]; exact hlt)
  exact ⟨_, h2, h1.trans h2⟩
theorem cells_of {a : Addr} {n : Nat} {l : List Value} (h : w.cells? 0 a n = some l) : l.length = n ∧ ∀ (j : Nat) v, l[j]? = some v → w.cell? (a.add j) = some v := by
  unfold World.cells? at h
  rw [if_pos (Nat.zero_le _)] at h
  have hl := mapM_some_length h
  rw [List.length_range] at hl
  refine ⟨hl, fun j v hj => ?_⟩
  have hlt : j < n := by rw [← hl]; exact (List.getElem?_eq_some_iff.1 hj).1
  obtain ⟨y, hy, h1⟩ := mapM_all h j j (by simp [hlt])
  rw [hj] at hy
  cases hy
  exact h1
theorem cell_lt {a : Addr} {v : Value} (h : w.cell? a = some v) : a.block < w.heap.size ∧ a.spot = none := by
  unfold World.cell? at h
  split at h
  · rename_i c _ _ hb
    split at h
    · cases h
    · rename_i hs
      exact ⟨(Array.getElem?_eq_some_iff.1 hb).1, by simpa using hs⟩
  · cases h
/-- a slice: its elements opened one for one -/
theorem rdb_slice {α : Type} {ec : α → List Value} {sz : Nat} {Q : α → Prop} (ht : P.underlying t = some (.slice e)) (hsz : P.cellsOf e = sz) (h0 : 0 < sz) (dec : ∀ c, c.length = sz → Rdb enc P w e c → ∃ x, c = ec x ∧ Q x) (h : Rdb enc P w t cs) :
    ∃ s : Sl α, cs = [s.v] ∧ SlAt w.heap.size w ec sz s ∧ ∀ x ∈ s.l, Q x := by
  obtain ⟨_, _, h⟩ := h
  rcases DataW.trod_slice ht h with ⟨rfl, _⟩ | ⟨a, len, cap, elems, rest, n, _, rfl, _, _, hl, hc, hel, he, _⟩
  · exact ⟨Sl.nil, rfl, .none_, fun x hx => by simp [Sl.nil] at hx⟩
  rw [hsz] at he
  have each : ∀ i, i < len → ∃ x, Q x ∧ (ec x).length = sz ∧ ∀ (j : Nat) v, (ec x)[j]? = some v → w.cell? ((a.add (i * sz)).add j) = some v := fun i hi => by
    have h1 := he i hi
    have h2 := List.getElem?_eq_getElem (show i < elems.length by omega)
    rw [h2] at h1
    obtain ⟨c, hc1, hc2⟩ := Option.bind_eq_some_iff.1 h1
    obtain ⟨hcl, hcell⟩ := cells_of hc1
    obtain ⟨x, rfl, hq⟩ := dec c hcl ⟨_, _, hc2⟩
    exact ⟨x, hq, hcl, hcell⟩
  have build : ∀ k, k ≤ len → ∃ l : List α, l.length = k ∧ (∀ x ∈ l, Q x) ∧ ∀ (i : Nat) x, l[i]? = some x → (ec x).length = sz ∧ ∀ (j : Nat) v, (ec x)[j]? = some v → w.cell? ((a.add (i * sz)).add j) = some v := by
    intro k
    induction k with
    | zero => exact fun _ => ⟨[], rfl, by simp, by simp⟩
    | succ k ih =>
      intro hk
      obtain ⟨l, h1, h2, h3⟩ := ih (by omega)
      obtain ⟨x, hq, hxl, hx⟩ := each k (by omega)
      refine ⟨l ++ [x], by simp [h1], fun y hy => ?_, fun i y hi => ?_⟩
      · rcases List.mem_append.1 hy with hy | hy
        · exact h2 y hy
        · simp at hy; subst hy; exact hq
      · by_cases hik : i < k
        · rw [List.getElem?_append_left (by omega)] at hi
          exact h3 i y hi
        · rw [List.getElem?_append_right (by omega)] at hi
          have : i = k := by
            have := (List.getElem?_eq_some_iff.1 hi).1
            simp at this
            omega
          subst this
          simp [h1] at hi
          subst hi
          exact ⟨hxl, hx⟩
  obtain ⟨l, h1, h2, h3⟩ := build len (Nat.le_refl _)
  refine ⟨⟨some a, cap, l⟩, by simp [Sl.v, h1], ⟨by show l.length ≤ cap; omega, hc, (fun hh => by cases hh), fun hne => ?_⟩, h2⟩
  have hne' : l ≠ [] := hne
  obtain ⟨x, r, rfl⟩ : ∃ x r, l = x :: r := by
    cases l with
    | nil => exact (hne' rfl).elim
    | cons x r => exact ⟨x, r, rfl⟩
  obtain ⟨hxl, hx⟩ := h3 0 x rfl
  have hc0 := hx 0 (ec x)[0] (List.getElem?_eq_getElem (by omega))
  simp only [Nat.zero_mul, Addr.add, if_true] at hc0
  obtain ⟨hlt, hsp⟩ := cell_lt hc0
  obtain ⟨b, o, sp⟩ := a
  have hsp' : sp = none := hsp
  subst hsp'
  refine ⟨b, o, rfl, hlt, fun i y hi j v hj => ?_⟩
  have := (h3 i y hi).2 j v hj
  rwa [add_plain, add_plain] at this
theorem drop_split (l : List Value) (o n : Nat) : l.drop o = (l.drop o).take n ++ l.drop (o + n) := by
  rw [← List.drop_drop, List.take_append_drop]
end
theorem rdb_u8s {H : Type} {enc : TypeId × Value → H} {w : World} {t : TypeId} {n : Nat} {cs : List Value} (ht : Try.prog.underlying t = some (.array n 5)) (hn : Try.prog.cellsOf t = n) (h : Rdb enc Try.prog w t cs) : ∃ l : List UInt8, l.length = n ∧ cs = l.map u8 := by
  obtain ⟨hl, he⟩ := rdb_array ht h
  rw [hn] at hl
  have hc : Try.prog.cellsOf 5 = 1 := by kernel_rfl
  rw [hc] at he
  have each : ∀ i, i < n → ∃ x : UInt8, cs[i]? = some (u8 x) := fun i hi => by
    obtain ⟨m, h1, hw⟩ := rdb_int Try.underlying5 (he i hi)
    obtain ⟨k, rfl, hk⟩ := lit_u8 hw
    refine ⟨UInt8.ofNat k, ?_⟩
    have h2 : ((cs.drop (i * 1)).take 1)[0]? = some (.int .u8 (k : Int)) := by rw [h1]; rfl
    rw [List.getElem?_take_of_lt (by omega), List.getElem?_drop] at h2
    simp only [Nat.mul_one, Nat.add_zero] at h2
    rw [h2]
    have : (UInt8.ofNat k).toNat = k := by simp; omega
    rw [show u8 (UInt8.ofNat k) = .int .u8 ((UInt8.ofNat k).toNat : Int) from rfl, this]
  refine ⟨(List.range n).map fun i => match cs[i]? with | some (Value.int _ m) => UInt8.ofNat m.toNat | _ => 0, by simp, ?_⟩
  apply List.ext_getElem?
  intro i
  by_cases hi : i < n
  · obtain ⟨x, hx⟩ := each i hi
    have : UInt8.ofNat (x.toNat : Int).toNat = x := by simp
    simp [hx, hi]
  · rw [List.getElem?_eq_none (by omega), List.getElem?_eq_none (by simp; omega)]
theorem rdb_id {H : Type} {enc : TypeId × Value → H} {w : World} {cs : List Value} (h : Rdb enc Try.prog w 62 cs) : ∃ x : Id, cs = x.c := by
  obtain ⟨l, hl, rfl⟩ := rdb_u8s (n := 32) (by kernel_rfl) (by kernel_rfl) h
  refine ⟨⟨l.toArray, by simp [hl]⟩, ?_⟩
  have := congrArg Array.toList (Id.cells ⟨l.toArray, by simp [hl]⟩)
  rw [List.toList_toArray, List.toList_toArray] at this
  exact this
theorem rdb_u32 {H : Type} {enc : TypeId × Value → H} {w : World} {cs : List Value} (h : Rdb enc Try.prog w 27 cs) : ∃ x : UInt32, cs = [u32 x] := by
  obtain ⟨n, rfl, hw⟩ := rdb_int Try.underlying27 h
  obtain ⟨x, rfl⟩ := lit_u32 hw
  exact ⟨x, rfl⟩
theorem rdb_i64 {H : Type} {enc : TypeId × Value → H} {w : World} {cs : List Value} (h : Rdb enc Try.prog w 3 cs) : ∃ x : Int, cs = [i64 x] ∧ -9223372036854775808 ≤ x ∧ x ≤ 9223372036854775807 := by
  obtain ⟨n, rfl, hw⟩ := rdb_int Try.underlying3 h
  exact ⟨n, rfl, lit_i64 hw⟩
theorem rdb_bytes {H : Type} {enc : TypeId × Value → H} {w : World} {cs : List Value} (h : Rdb enc Try.prog w 93 cs) : ∃ s : Bytes, cs = [s.v] ∧ SlAt w.heap.size w u8L 1 s := by
  obtain ⟨s, h1, h2, _⟩ := rdb_slice (ec := u8L) (sz := 1) (Q := fun _ => True) Try.underlying93 (by kernel_rfl) (by omega) (fun c _ hc => by
    obtain ⟨n, rfl, hw⟩ := rdb_int Try.underlying5 hc
    obtain ⟨k, rfl, hk⟩ := lit_u8 hw
    refine ⟨UInt8.ofNat k, ?_, trivial⟩
    have : (UInt8.ofNat k).toNat = k := by simp; omega
    rw [show u8L (UInt8.ofNat k) = [.int .u8 ((UInt8.ofNat k).toNat : Int)] from rfl, this]) h
  exact ⟨s, h1, h2⟩
theorem agg_arg {H : Type} {enc : TypeId × Value → H} {P : Program} {w : World} {r : Reach} {b0 : Nat} {t : TypeId} {v : Value} {d : DataW H} {ps : List MemPlace} (hs : (match P.underlying t with | some (.struct _) | some (.array _ _) => true | _ => false) = true) (hval : Value.okWide P w r b0 t v) (h : DataW.Trod enc P w 0 (fun _ => true) true t v d ps) :
    ∃ cs : List Value, v = .agg cs.toArray ∧ Rdb enc P w t cs := by
  have h1 := rdb_of h
  unfold Value.okWide at hval
  split at hval
  · obtain ⟨cs, rfl, _⟩ := hval
    exact ⟨cs.toList, rfl, h1⟩
  · obtain ⟨cs, rfl, _⟩ := hval
    exact ⟨cs.toList, rfl, h1⟩
  · rename_i h2 h3
    split at hs
    · rename_i fs hu; exact (h2 fs hu).elim
    · rename_i n e hu; exact (h3 n e hu).elim
    · cases hs
theorem slice_arg {H : Type} {enc : TypeId × Value → H} {P : Program} {w : World} {r : Reach} {b0 : Nat} {t e : TypeId} {v : Value} {d : DataW H} {ps : List MemPlace} (ht : P.underlying t = some (.slice e)) (hval : Value.okWide P w r b0 t v) (h : DataW.Trod enc P w 0 (fun _ => true) true t v d ps) : Rdb enc P w t [v] := by
  have h1 := rdb_of h
  obtain ⟨a, n, c, rfl⟩ := Go.WideShapes.okWide_slice ht hval
  exact h1
end Go.Proofs.Ytdncnepedkkamaa
