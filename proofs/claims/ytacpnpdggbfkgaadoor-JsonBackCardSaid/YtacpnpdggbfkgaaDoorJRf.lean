/- Functions run by the abstract machine on values that are not all known. Conditions: stated in each theorem. -/
import Derived.Test.YtacpnpdggbfkgaaDoorJRe
import Derived.Test.YtacpnpdggbfkgaaDoorProg
import Derived.Test.YtacpnpdggbfkgaaDoorSh
import Derived.Test.YtacpnpdggbfkgaaDoorTen
import Derived.KernelRfl
set_option linter.unusedVariables false
set_option linter.unusedSimpArgs false
set_option linter.unusedVariables false
set_option maxRecDepth 100000
namespace Go.Bvm.JN
open Go.Proofs
noncomputable section
def G:Nat→Bool:=pinG pinL
def LF (f:Nat):List Nat:=bif Nat.beq f 4 then [2,1,4,3,5,12,11,10] else bif Nat.beq f 8 then [2,4,1,3] else bif Nat.beq f 9 then [4] else bif Nat.beq f 10 then [2,3,4,0,5] else bif Nat.beq f 11 then [2,3,4,0,5] else bif Nat.beq f 12 then [2] else bif Nat.beq f 13 then [4,5,0,1] else bif Nat.beq f 15 then [0] else bif Nat.beq f 16 then [2,4,1,3,5,8,9] else bif Nat.beq f 17 then [2,3,0] else bif Nat.beq f 18 then [2,4,0,3] else bif Nat.beq f 20 then [2] else bif Nat.beq f 21 then [2,4,0,3] else bif Nat.beq f 22 then [2,0,3] else bif Nat.beq f 23 then [2,0] else bif Nat.beq f 24 then [] else bif Nat.beq f 25 then [0] else bif Nat.beq f 26 then [4,0,7,1,5,6,9,10] else bif Nat.beq f 27 then [] else bif Nat.beq f 28 then [4] else bif Nat.beq f 30 then [2,4,0,3] else bif Nat.beq f 31 then [2,0,18,17,16,3,4,6] else bif Nat.beq f 32 then [2] else bif Nat.beq f 33 then [2,4,0,3] else bif Nat.beq f 34 then [2,0] else bif Nat.beq f 35 then [4,0,5] else bif Nat.beq f 36 then [0] else bif Nat.beq f 37 then [2,0,4,3] else bif Nat.beq f 38 then [2] else bif Nat.beq f 39 then [2,0,4,3] else bif Nat.beq f 40 then [4] else bif Nat.beq f 41 then [7,6,0,1] else bif Nat.beq f 42 then [4] else bif Nat.beq f 43 then [2] else bif Nat.beq f 44 then [6,1,0,2] else bif Nat.beq f 45 then [2,0,3,4,5] else bif Nat.beq f 46 then [] else bif Nat.beq f 47 then [0,6,7,2,9,1] else bif Nat.beq f 48 then [2,3,4,0,6,5] else bif Nat.beq f 49 then [4,5,0,1] else bif Nat.beq f 50 then [4,5,0,1] else bif Nat.beq f 51 then [2] else bif Nat.beq f 52 then [2,1,3] else bif Nat.beq f 54 then [37,6,0,7,50,49,48,8,1,9] else bif Nat.beq f 55 then [2] else bif Nat.beq f 56 then [0] else bif Nat.beq f 57 then [2,0] else bif Nat.beq f 58 then [2,3,0] else bif Nat.beq f 59 then [2,3,4,6,0,5,7] else bif Nat.beq f 60 then [2,3,4,0,5,6] else bif Nat.beq f 61 then [4] else bif Nat.beq f 62 then [0,1] else bif Nat.beq f 63 then [4,5,0,1] else bif Nat.beq f 64 then [2,4,0,3] else bif Nat.beq f 65 then [2,4,0,3] else bif Nat.beq f 66 then [4] else bif Nat.beq f 67 then [2] else bif Nat.beq f 68 then [4] else bif Nat.beq f 69 then [2] else bif Nat.beq f 70 then [4] else bif Nat.beq f 71 then [2,7,6,5,0] else bif Nat.beq f 73 then [4,5] else bif Nat.beq f 75 then [9,8,1,0,4] else bif Nat.beq f 76 then [4] else bif Nat.beq f 77 then [4,0,1,5,6] else bif Nat.beq f 78 then [4] else bif Nat.beq f 80 then [2] else bif Nat.beq f 81 then [4] else bif Nat.beq f 82 then [4,8,7,1,0] else bif Nat.beq f 83 then [4] else bif Nat.beq f 85 then [] else bif Nat.beq f 87 then [4] else bif Nat.beq f 88 then [4] else bif Nat.beq f 89 then [4,8,7,1,0] else bif Nat.beq f 92 then [6,10,11,1,2] else []
def O8 (i:Nat):Option (Nat×List Od):=bif Nat.beq i 1 then some (0,[od 0 0,⟨1,0,1,[],true⟩,od 3 0,od 2 3,⟨4,0,8,[1],false⟩,od 5 31,od 6 63]) else none
def O10 (i:Nat):Option (Nat×List Od):=bif Nat.beq i 9 then some (0,[od 0 0,od 1 1,od 2 3,od 3 7,od 4 0,od 5 16,od 6 48,od 7 112,od 8 0,od 9 271,od 10 1023]) else none
def O11 (i:Nat):Option (Nat×List Od):=bif Nat.beq i 10 then some (0,[od 0 0,od 1 1,od 2 3,od 3 7,od 4 0,od 5 16,od 6 48,od 7 112,od 8 0,od 9 271,od 10 1023]) else none
def O13 (i:Nat):Option (Nat×List Od):=bif Nat.beq i 6 then some (0,[od 0 0,od 1 0,od 2 3,od 3 7,od 4 0,od 5 0,od 6 48,od 7 112,od 8 255,od 9 511]) else none
def O20 (i:Nat):Option (Nat×List Od):=bif Nat.beq i 1 then some (0,[od 0 0,od 1 1,od 4 0,⟨5,0,16,[],true⟩,⟨2,0,3,[5],false⟩,od 3 7,od 6 55,od 7 127,od 8 255]) else none
def O21 (i:Nat):Option (Nat×List Od):=bif Nat.beq i 5 then some (0,[od 1 0,od 2 0,od 3 6,od 4 14,⟨5,0,30,[],true⟩,od 8 0,od 9 0,od 10 768,od 11 1792,⟨12,0,3840,[],true⟩,od 16 0,od 17 0,od 18 196608,od 19 458752,od 20 983040,od 0 0,od 6 62,od 7 127,od 13 7936,od 14 16128,od 15 32767,⟨21,0,2031616,[5,12],false⟩,od 22 4128768,od 23 8388607,od 24 16777215]) else none
def O25 (i:Nat):Option (Nat×List Od):=bif Nat.beq i 0 then some (0,[od 0 0,od 1 1,od 2 3,od 3 7,od 4 0,od 5 16,od 6 48,od 7 112,od 8 240,od 9 511,od 10 1023,od 11 2047,od 12 4095,od 13 8191,od 14 16383,od 15 2047,od 16 34815,od 17 100351,od 18 231423,od 19 524287,od 20 1048575,od 21 2097151,od 22 4194303,od 23 8388607,od 24 16777215,od 25 33554431,od 26 4194303,od 27 71303167,od 28 205520895,od 29 473956351,od 30 1073741823,od 31 2147483647,od 32 4294967295,od 33 8589934591,od 34 17179869183,od 35 34359738367,od 36 68719476735,od 37 137438953471,od 38 17179869183,od 39 292057776127,od 40 841813590015,od 41 1941325217791,od 42 4398046511103,od 43 8796093022207,od 44 17592186044415,od 45 35184372088831,od 46 70368744177663,od 47 140737488355327,od 48 281474976710655,od 49 562949953421311,od 50 70368744177663,od 51 1196268651020287,od 52 3448068464705535,od 53 7951668092076031,od 54 18014398509481983,od 55 36028797018963967,od 56 72057594037927935,od 57 144115188075855871]) else none
def O26 (i:Nat):Option (Nat×List Od):=bif Nat.beq i 7 then some (0,[od 0 0,od 1 1,od 2 3,od 3 7,od 4 15,od 5 31,od 6 63,od 7 7,od 8 135,od 9 391,od 10 903,od 11 1927,od 12 4095,od 13 8191]) else bif Nat.beq i 14 then some (0,[od 0 0,od 1 1,od 2 3,od 3 7,od 4 0,od 5 16,od 6 48,od 7 112,od 8 240,od 9 511,od 10 1023,od 11 2047,od 12 4095,od 13 8191,od 14 16383,od 15 2047,od 16 34815,od 17 100351,od 18 231423,od 19 524287,od 20 1048575,od 21 2097151,od 22 4194303,od 23 8388607,od 24 16777215,od 25 33554431,od 26 4194303,od 27 134217727,od 28 268435455,od 29 536870911,od 30 1073741823,od 31 2147483647,od 32 4294967295,od 33 8589934591,od 34 1073741823,od 35 18253611007,od 36 52613349375,od 37 121332826111,od 38 274877906943,od 39 549755813887,od 40 1099511627775,od 41 2199023255551,od 42 4398046511103,od 43 8796093022207,od 44 17592186044415,od 45 2199023255551,od 46 37383395344383,od 47 107752139522047,od 48 248489627877375,od 49 562949953421311,od 50 1125899906842623,od 51 2251799813685247,od 52 4503599627370495,od 53 9007199254740991]) else bif Nat.beq i 16 then some (0,[od 0 0,od 1 1,od 2 3,od 3 7,od 5 0,od 6 32,od 7 96,od 8 224,od 4 0,od 9 511,od 10 1023,od 11 2047,od 12 4095,od 13 4095,od 14 8191,od 15 32767]) else none
def O34 (i:Nat):Option (Nat×List Od):=bif Nat.beq i 1 then some (0,[od 0 0,od 1 1,od 2 3,od 3 7,od 4 15,od 5 31,od 6 63,od 7 127,od 8 255,od 9 511,od 10 63,od 11 1087,od 12 3135,od 13 7231,od 14 15423,od 15 32767,od 16 65535]) else bif Nat.beq i 3 then some (0,[od 0 0,od 1 1,od 2 3,od 3 7,od 4 0,od 5 16,od 6 48,od 7 112,od 8 255,od 9 511]) else none
def O37 (i:Nat):Option (Nat×List Od):=bif Nat.beq i 1 then some (0,[od 0 0,od 1 1,od 2 3,od 3 7,od 4 0,od 5 16,od 6 48,od 7 112,od 8 255,od 9 511,od 10 1023,od 11 2047,od 12 2047,od 13 2047,od 14 4095,od 15 24575,od 16 65535]) else none
def O39 (i:Nat):Option (Nat×List Od):=bif Nat.beq i 1 then some (0,[od 0 0,od 1 1,od 2 3,od 3 7,od 4 0,od 5 16,od 6 48,od 7 112,od 8 255,od 9 511,od 10 1023,od 11 2047,od 12 2047,od 13 2047,od 14 4095,od 15 24575,od 16 65535]) else none
def O42 (i:Nat):Option (Nat×List Od):=bif Nat.beq i 1 then some (1,[od 1 0,od 2 2,od 3 6,od 4 14,od 5 0,od 0 0,od 6 32,od 7 126,od 8 255,od 9 511,od 10 1023]) else none
def O43 (i:Nat):Option (Nat×List Od):=bif Nat.beq i 1 then some (0,[od 0 0,od 1 1,od 2 3,od 3 7,od 4 0,od 5 16,od 6 48,od 7 112,od 8 240,od 9 511]) else bif Nat.beq i 2 then some (0,[od 0 0,od 1 1,od 2 3,od 3 7,od 4 0,od 5 16,od 6 48,od 7 112,od 8 255,od 9 511]) else none
def O45 (i:Nat):Option (Nat×List Od):=bif Nat.beq i 5 then some (0,[od 0 0,od 1 1,od 2 3,od 3 7,od 4 0,od 5 16,od 6 48,od 7 112,od 8 240,od 9 511]) else bif Nat.beq i 7 then some (0,[od 0 0,od 1 1,od 2 3,od 3 7,od 4 0,od 5 16,od 6 48,od 7 112,od 8 255,od 9 511]) else bif Nat.beq i 12 then some (0,[od 0 0,od 1 1,od 2 3,od 3 7,od 4 0,od 5 16,od 6 48,od 7 112,od 8 240,od 9 511,od 10 1023,od 11 2047,od 12 4095,od 13 8191,od 14 16383,od 15 2047,od 16 34815,od 17 100351,od 18 231423,od 19 524287,od 20 1048575,od 21 2097151,od 22 4194303,od 23 8388607,od 24 16777215,od 25 33554431,od 26 4194303,od 27 71303167,od 28 205520895,od 29 473956351,od 30 1073741823,od 31 2147483647,od 32 4294967295,od 33 8589934591]) else bif Nat.beq i 14 then some (0,[od 0 0,od 1 1,od 2 3,od 3 7,od 4 0,od 5 16,od 6 48,od 7 112,od 8 255,od 9 511]) else none
def O46 (i:Nat):Option (Nat×List Od):=bif Nat.beq i 2 then some (1,[od 1 0,od 2 2,od 3 6,od 4 14,od 5 0,od 0 0,od 6 32,od 7 126,od 8 255,od 9 511,od 10 1023]) else none
def O47 (i:Nat):Option (Nat×List Od):=bif Nat.beq i 16 then some (1,[od 0 0,⟨1,0,1,[],true⟩,od 2 0,od 3 0,od 4 8,⟨5,0,28,[1],false⟩,od 6 60,od 7 127,od 8 255,od 9 511]) else none
def O49 (i:Nat):Option (Nat×List Od):=bif Nat.beq i 6 then some (0,[od 0 0,od 1 0,od 2 3,od 3 7,od 4 0,od 5 0,od 6 48,od 7 112,od 8 255]) else none
def O50 (i:Nat):Option (Nat×List Od):=bif Nat.beq i 6 then some (0,[od 0 0,od 1 0,od 2 3,od 3 7,od 4 0,od 5 0,od 6 48,od 7 112,od 8 255]) else none
def O55 (i:Nat):Option (Nat×List Od):=bif Nat.beq i 1 then some (0,[od 0 0,od 1 1,od 2 3,od 3 7,od 5 0,od 6 32,od 7 96,od 8 224,od 4 15,od 9 480,od 10 1023,od 11 2047]) else none
def O62 (i:Nat):Option (Nat×List Od):=bif Nat.beq i 1 then some (0,[od 0 0,od 1 1,od 2 3,od 3 7,od 4 0,od 5 16,od 6 48,od 7 112,od 8 240,od 9 511,od 10 1023,od 11 2047,od 12 4095,od 13 8191,od 14 16383,od 15 2047,od 16 34815,od 17 100351,od 18 231423,od 19 524287,od 20 2047,od 21 2097151,od 22 4194303]) else none
def OF (f:Nat):Nat→Option (Nat×List Od):=bif Nat.beq f 8 then O8 else bif Nat.beq f 10 then O10 else bif Nat.beq f 11 then O11 else bif Nat.beq f 13 then O13 else bif Nat.beq f 20 then O20 else bif Nat.beq f 21 then O21 else bif Nat.beq f 25 then O25 else bif Nat.beq f 26 then O26 else bif Nat.beq f 34 then O34 else bif Nat.beq f 37 then O37 else bif Nat.beq f 39 then O39 else bif Nat.beq f 42 then O42 else bif Nat.beq f 43 then O43 else bif Nat.beq f 45 then O45 else bif Nat.beq f 46 then O46 else bif Nat.beq f 47 then O47 else bif Nat.beq f 49 then O49 else bif Nat.beq f 50 then O50 else bif Nat.beq f 55 then O55 else bif Nat.beq f 62 then O62 else fun _=>none
end
theorem mixed:Tryd.prog.follows .mixedOrders=true:=by kernel_rfl
theorem e_l1_JsonBack {G:Nat→Bool}:FnEq Tryd.prog G LF OF 4 T_l1_JsonBack:=fun cf lf=>by kernel_rfl
theorem c_l1_JsonBack:chkF Tryd.prog LF OF 4=true:=by kernel_rfl
theorem e_l1_Heavy {G:Nat→Bool}:FnEq Tryd.prog G LF OF 8 T_l1_Heavy:=fun cf lf=>by kernel_rfl
theorem c_l1_Heavy:chkF Tryd.prog LF OF 8=true:=by kernel_rfl
theorem e_l0_Within {G:Nat→Bool}:FnEq Tryd.prog G LF OF 9 T_l0_Within:=fun cf lf=>by kernel_rfl
theorem c_l0_Within:chkF Tryd.prog LF OF 9=true:=by kernel_rfl
theorem e_j_Read {G:Nat→Bool}:FnEq Tryd.prog G LF OF 10 T_j_Read:=fun cf lf=>by kernel_rfl
theorem c_j_Read:chkF Tryd.prog LF OF 10=true:=by kernel_rfl
theorem e_r_Read {G:Nat→Bool}:FnEq Tryd.prog G LF OF 11 T_r_Read:=fun cf lf=>by kernel_rfl
theorem c_r_Read:chkF Tryd.prog LF OF 11=true:=by kernel_rfl
theorem e_l1_num {G:Nat→Bool}:FnEq Tryd.prog G LF OF 12 T_l1_num:=fun cf lf=>by kernel_rfl
theorem c_l1_num:chkF Tryd.prog LF OF 12=true:=by kernel_rfl
theorem e_z_EqJsons {G:Nat→Bool}:FnEq Tryd.prog G LF OF 13 T_z_EqJsons:=fun cf lf=>by kernel_rfl
theorem c_z_EqJsons:chkF Tryd.prog LF OF 13=true:=by kernel_rfl
theorem e_l1_wakes {G:Nat→Bool}:FnEq Tryd.prog G LF OF 15 T_l1_wakes:=fun cf lf=>by kernel_rfl
theorem c_l1_wakes:chkF Tryd.prog LF OF 15=true:=by kernel_rfl
theorem e_l1_values {G:Nat→Bool}:FnEq Tryd.prog G LF OF 16 T_l1_values:=fun cf lf=>by kernel_rfl
theorem c_l1_values:chkF Tryd.prog LF OF 16=true:=by kernel_rfl
theorem e_j_Write {G:Nat→Bool}:FnEq Tryd.prog G LF OF 17 T_j_Write:=fun cf lf=>by kernel_rfl
theorem c_j_Write:chkF Tryd.prog LF OF 17=true:=by kernel_rfl
theorem e_l1_slashes {G:Nat→Bool}:FnEq Tryd.prog G LF OF 18 T_l1_slashes:=fun cf lf=>by kernel_rfl
theorem c_l1_slashes:chkF Tryd.prog LF OF 18=true:=by kernel_rfl
theorem e_l1_cellsOf {G:Nat→Bool}:FnEq Tryd.prog G LF OF 20 T_l1_cellsOf:=fun cf lf=>by kernel_rfl
theorem c_l1_cellsOf:chkF Tryd.prog LF OF 20=true:=by kernel_rfl
theorem e_l0_JsonsWeight {G:Nat→Bool}:FnEq Tryd.prog G LF OF 21 T_l0_JsonsWeight:=fun cf lf=>by kernel_rfl
theorem c_l0_JsonsWeight:chkF Tryd.prog LF OF 21=true:=by kernel_rfl
theorem e_j_parser_value {G:Nat→Bool}:FnEq Tryd.prog G LF OF 22 T_j_parser_value:=fun cf lf=>by kernel_rfl
theorem c_j_parser_value:chkF Tryd.prog LF OF 22=true:=by kernel_rfl
theorem e_j_parser_blanks {G:Nat→Bool}:FnEq Tryd.prog G LF OF 23 T_j_parser_blanks:=fun cf lf=>by kernel_rfl
theorem c_j_parser_blanks:chkF Tryd.prog LF OF 23=true:=by kernel_rfl
theorem e_j_parser_bad {G:Nat→Bool}:FnEq Tryd.prog G LF OF 24 T_j_parser_bad:=fun cf lf=>by kernel_rfl
theorem c_j_parser_bad:chkF Tryd.prog LF OF 24=true:=by kernel_rfl
theorem e_r_reader_blanks {G:Nat→Bool}:FnEq Tryd.prog G LF OF 25 T_r_reader_blanks:=fun cf lf=>by kernel_rfl
theorem c_r_reader_blanks:chkF Tryd.prog LF OF 25=true:=by kernel_rfl
theorem e_r_reader_value {G:Nat→Bool}:FnEq Tryd.prog G LF OF 26 T_r_reader_value:=fun cf lf=>by kernel_rfl
theorem c_r_reader_value:chkF Tryd.prog LF OF 26=true:=by kernel_rfl
theorem e_r_reader_fails {G:Nat→Bool}:FnEq Tryd.prog G LF OF 27 T_r_reader_fails:=fun cf lf=>by kernel_rfl
theorem c_r_reader_fails:chkF Tryd.prog LF OF 27=true:=by kernel_rfl
theorem e_z_EqJson {G:Nat→Bool}:FnEq Tryd.prog G LF OF 28 T_z_EqJson:=fun cf lf=>by kernel_rfl
theorem c_z_EqJson:chkF Tryd.prog LF OF 28=true:=by kernel_rfl
theorem e_z_CopyJsons {G:Nat→Bool}:FnEq Tryd.prog G LF OF 30 T_z_CopyJsons:=fun cf lf=>by kernel_rfl
theorem c_z_CopyJsons:chkF Tryd.prog LF OF 30=true:=by kernel_rfl
theorem e_j_May {G:Nat→Bool}:FnEq Tryd.prog G LF OF 31 T_j_May:=fun cf lf=>by kernel_rfl
theorem c_j_May:chkF Tryd.prog LF OF 31=true:=by kernel_rfl
theorem e_j_Text {G:Nat→Bool}:FnEq Tryd.prog G LF OF 32 T_j_Text:=fun cf lf=>by kernel_rfl
theorem c_j_Text:chkF Tryd.prog LF OF 32=true:=by kernel_rfl
theorem e_l0_Texts {G:Nat→Bool}:FnEq Tryd.prog G LF OF 33 T_l0_Texts:=fun cf lf=>by kernel_rfl
theorem c_l0_Texts:chkF Tryd.prog LF OF 33=true:=by kernel_rfl
theorem e_j_parser_see {G:Nat→Bool}:FnEq Tryd.prog G LF OF 34 T_j_parser_see:=fun cf lf=>by kernel_rfl
theorem c_j_parser_see:chkF Tryd.prog LF OF 34=true:=by kernel_rfl
theorem e_j_parser_nested {G:Nat→Bool}:FnEq Tryd.prog G LF OF 35 T_j_parser_nested:=fun cf lf=>by kernel_rfl
theorem c_j_parser_nested:chkF Tryd.prog LF OF 35=true:=by kernel_rfl
theorem e_j_parser_begin {G:Nat→Bool}:FnEq Tryd.prog G LF OF 36 T_j_parser_begin:=fun cf lf=>by kernel_rfl
theorem c_j_parser_begin:chkF Tryd.prog LF OF 36=true:=by kernel_rfl
theorem e_j_parser_text {G:Nat→Bool}:FnEq Tryd.prog G LF OF 37 T_j_parser_text:=fun cf lf=>by kernel_rfl
theorem c_j_parser_text:chkF Tryd.prog LF OF 37=true:=by kernel_rfl
theorem e_j_digit {G:Nat→Bool}:FnEq Tryd.prog G LF OF 38 T_j_digit:=fun cf lf=>by kernel_rfl
theorem c_j_digit:chkF Tryd.prog LF OF 38=true:=by kernel_rfl
theorem e_j_parser_number {G:Nat→Bool}:FnEq Tryd.prog G LF OF 39 T_j_parser_number:=fun cf lf=>by kernel_rfl
theorem c_j_parser_number:chkF Tryd.prog LF OF 39=true:=by kernel_rfl
theorem e_st_IndexByte {G:Nat→Bool}:FnEq Tryd.prog G LF OF 40 T_st_IndexByte:=fun cf lf=>by kernel_rfl
theorem c_st_IndexByte:chkF Tryd.prog LF OF 40=true:=by kernel_rfl
theorem e_j_parser_literal {G:Nat→Bool}:FnEq Tryd.prog G LF OF 41 T_j_parser_literal:=fun cf lf=>by kernel_rfl
theorem c_j_parser_literal:chkF Tryd.prog LF OF 41=true:=by kernel_rfl
theorem e_j_parser_add {G:Nat→Bool}:FnEq Tryd.prog G LF OF 42 T_j_parser_add:=fun cf lf=>by kernel_rfl
theorem c_j_parser_add:chkF Tryd.prog LF OF 42=true:=by kernel_rfl
theorem e_r_reader_see {G:Nat→Bool}:FnEq Tryd.prog G LF OF 43 T_r_reader_see:=fun cf lf=>by kernel_rfl
theorem c_r_reader_see:chkF Tryd.prog LF OF 43=true:=by kernel_rfl
theorem e_r_reader_word {G:Nat→Bool}:FnEq Tryd.prog G LF OF 44 T_r_reader_word:=fun cf lf=>by kernel_rfl
theorem c_r_reader_word:chkF Tryd.prog LF OF 44=true:=by kernel_rfl
theorem e_r_reader_text {G:Nat→Bool}:FnEq Tryd.prog G LF OF 45 T_r_reader_text:=fun cf lf=>by kernel_rfl
theorem c_r_reader_text:chkF Tryd.prog LF OF 45=true:=by kernel_rfl
theorem e_r_reader_add {G:Nat→Bool}:FnEq Tryd.prog G LF OF 46 T_r_reader_add:=fun cf lf=>by kernel_rfl
theorem c_r_reader_add:chkF Tryd.prog LF OF 46=true:=by kernel_rfl
theorem e_r_reader_many {G:Nat→Bool}:FnEq Tryd.prog G LF OF 47 T_r_reader_many:=fun cf lf=>by kernel_rfl
theorem c_r_reader_many:chkF Tryd.prog LF OF 47=true:=by kernel_rfl
theorem e_r_Int {G:Nat→Bool}:FnEq Tryd.prog G LF OF 48 T_r_Int:=fun cf lf=>by kernel_rfl
theorem c_r_Int:chkF Tryd.prog LF OF 48=true:=by kernel_rfl
theorem e_z_EqStrings {G:Nat→Bool}:FnEq Tryd.prog G LF OF 49 T_z_EqStrings:=fun cf lf=>by kernel_rfl
theorem c_z_EqStrings:chkF Tryd.prog LF OF 49=true:=by kernel_rfl
theorem e_z_EqNumbers {G:Nat→Bool}:FnEq Tryd.prog G LF OF 50 T_z_EqNumbers:=fun cf lf=>by kernel_rfl
theorem c_z_EqNumbers:chkF Tryd.prog LF OF 50=true:=by kernel_rfl
theorem e_z_CopyJson {G:Nat→Bool}:FnEq Tryd.prog G LF OF 51 T_z_CopyJson:=fun cf lf=>by kernel_rfl
theorem c_z_CopyJson:chkF Tryd.prog LF OF 51=true:=by kernel_rfl
theorem e_j_node {G:Nat→Bool}:FnEq Tryd.prog G LF OF 52 T_j_node:=fun cf lf=>by kernel_rfl
theorem c_j_node:chkF Tryd.prog LF OF 52=true:=by kernel_rfl
theorem e_j_spell {G:Nat→Bool}:FnEq Tryd.prog G LF OF 54 T_j_spell:=fun cf lf=>by kernel_rfl
theorem c_j_spell:chkF Tryd.prog LF OF 54=true:=by kernel_rfl
theorem e_st_Builder_String {G:Nat→Bool}:FnEq Tryd.prog G LF OF 55 T_st_Builder_String:=fun cf lf=>by kernel_rfl
theorem c_st_Builder_String:chkF Tryd.prog LF OF 55=true:=by kernel_rfl
theorem e_j_parser_take {G:Nat→Bool}:FnEq Tryd.prog G LF OF 56 T_j_parser_take:=fun cf lf=>by kernel_rfl
theorem c_j_parser_take:chkF Tryd.prog LF OF 56=true:=by kernel_rfl
theorem e_j_parser_list {G:Nat→Bool}:FnEq Tryd.prog G LF OF 57 T_j_parser_list:=fun cf lf=>by kernel_rfl
theorem c_j_parser_list:chkF Tryd.prog LF OF 57=true:=by kernel_rfl
theorem e_j_parser_pairs {G:Nat→Bool}:FnEq Tryd.prog G LF OF 58 T_j_parser_pairs:=fun cf lf=>by kernel_rfl
theorem c_j_parser_pairs:chkF Tryd.prog LF OF 58=true:=by kernel_rfl
theorem e_j_String {G:Nat→Bool}:FnEq Tryd.prog G LF OF 59 T_j_String:=fun cf lf=>by kernel_rfl
theorem c_j_String:chkF Tryd.prog LF OF 59=true:=by kernel_rfl
theorem e_j_Number {G:Nat→Bool}:FnEq Tryd.prog G LF OF 60 T_j_Number:=fun cf lf=>by kernel_rfl
theorem c_j_Number:chkF Tryd.prog LF OF 60=true:=by kernel_rfl
theorem e_sl_IndexByte {G:Nat→Bool}:FnEq Tryd.prog G LF OF 61 T_sl_IndexByte:=fun cf lf=>by kernel_rfl
theorem c_sl_IndexByte:chkF Tryd.prog LF OF 61=true:=by kernel_rfl
theorem e_r_reader_takes {G:Nat→Bool}:FnEq Tryd.prog G LF OF 62 T_r_reader_takes:=fun cf lf=>by kernel_rfl
theorem c_r_reader_takes:chkF Tryd.prog LF OF 62=true:=by kernel_rfl
theorem e_z_Has {G:Nat→Bool}:FnEq Tryd.prog G LF OF 63 T_z_Has:=fun cf lf=>by kernel_rfl
theorem c_z_Has:chkF Tryd.prog LF OF 63=true:=by kernel_rfl
theorem e_z_CopyStrings {G:Nat→Bool}:FnEq Tryd.prog G LF OF 64 T_z_CopyStrings:=fun cf lf=>by kernel_rfl
theorem c_z_CopyStrings:chkF Tryd.prog LF OF 64=true:=by kernel_rfl
theorem e_z_CopyNumbers {G:Nat→Bool}:FnEq Tryd.prog G LF OF 65 T_z_CopyNumbers:=fun cf lf=>by kernel_rfl
theorem c_z_CopyNumbers:chkF Tryd.prog LF OF 65=true:=by kernel_rfl
theorem e_j_same {G:Nat→Bool}:FnEq Tryd.prog G LF OF 66 T_j_same:=fun cf lf=>by kernel_rfl
theorem c_j_same:chkF Tryd.prog LF OF 66=true:=by kernel_rfl
theorem e_j_IsNum {G:Nat→Bool}:FnEq Tryd.prog G LF OF 67 T_j_IsNum:=fun cf lf=>by kernel_rfl
theorem c_j_IsNum:chkF Tryd.prog LF OF 67=true:=by kernel_rfl
theorem e_j_Plain {G:Nat→Bool}:FnEq Tryd.prog G LF OF 68 T_j_Plain:=fun cf lf=>by kernel_rfl
theorem c_j_Plain:chkF Tryd.prog LF OF 68=true:=by kernel_rfl
theorem e_j_node_1 {G:Nat→Bool}:FnEq Tryd.prog G LF OF 69 T_j_node_1:=fun cf lf=>by kernel_rfl
theorem c_j_node_1:chkF Tryd.prog LF OF 69=true:=by kernel_rfl
theorem e_sli_ContainsFunc___string_string {G:Nat→Bool}:FnEq Tryd.prog G LF OF 70 T_sli_ContainsFunc___string_string:=fun cf lf=>by kernel_rfl
theorem c_sli_ContainsFunc___string_string:chkF Tryd.prog LF OF 70=true:=by kernel_rfl
theorem e_j_twice {G:Nat→Bool}:FnEq Tryd.prog G LF OF 71 T_j_twice:=fun cf lf=>by kernel_rfl
theorem c_j_twice:chkF Tryd.prog LF OF 71=true:=by kernel_rfl
theorem e_st_Builder_WriteString {G:Nat→Bool}:FnEq Tryd.prog G LF OF 73 T_st_Builder_WriteString:=fun cf lf=>by kernel_rfl
theorem c_st_Builder_WriteString:chkF Tryd.prog LF OF 73=true:=by kernel_rfl
theorem e_j_quoted {G:Nat→Bool}:FnEq Tryd.prog G LF OF 75 T_j_quoted:=fun cf lf=>by kernel_rfl
theorem c_j_quoted:chkF Tryd.prog LF OF 75=true:=by kernel_rfl
theorem e_st_Builder_WriteByte {G:Nat→Bool}:FnEq Tryd.prog G LF OF 76 T_st_Builder_WriteByte:=fun cf lf=>by kernel_rfl
theorem c_st_Builder_WriteByte:chkF Tryd.prog LF OF 76=true:=by kernel_rfl
theorem e_j_parser_name {G:Nat→Bool}:FnEq Tryd.prog G LF OF 77 T_j_parser_name:=fun cf lf=>by kernel_rfl
theorem c_j_parser_name:chkF Tryd.prog LF OF 77=true:=by kernel_rfl
theorem e_st_HasPrefix {G:Nat→Bool}:FnEq Tryd.prog G LF OF 78 T_st_HasPrefix:=fun cf lf=>by kernel_rfl
theorem c_st_HasPrefix:chkF Tryd.prog LF OF 78=true:=by kernel_rfl
theorem e_j_Plain_1 {G:Nat→Bool}:FnEq Tryd.prog G LF OF 80 T_j_Plain_1:=fun cf lf=>by kernel_rfl
theorem c_j_Plain_1:chkF Tryd.prog LF OF 80=true:=by kernel_rfl
theorem e_st_ContainsFunc {G:Nat→Bool}:FnEq Tryd.prog G LF OF 81 T_st_ContainsFunc:=fun cf lf=>by kernel_rfl
theorem c_st_ContainsFunc:chkF Tryd.prog LF OF 81=true:=by kernel_rfl
theorem e_sli_IndexFunc___string_string {G:Nat→Bool}:FnEq Tryd.prog G LF OF 82 T_sli_IndexFunc___string_string:=fun cf lf=>by kernel_rfl
theorem c_sli_IndexFunc___string_string:chkF Tryd.prog LF OF 82=true:=by kernel_rfl
theorem e_sli_Contains___string_string {G:Nat→Bool}:FnEq Tryd.prog G LF OF 83 T_sli_Contains___string_string:=fun cf lf=>by kernel_rfl
theorem c_sli_Contains___string_string:chkF Tryd.prog LF OF 83=true:=by kernel_rfl
theorem e_st_Builder_copyCheck {G:Nat→Bool}:FnEq Tryd.prog G LF OF 85 T_st_Builder_copyCheck:=fun cf lf=>by kernel_rfl
theorem c_st_Builder_copyCheck:chkF Tryd.prog LF OF 85=true:=by kernel_rfl
theorem e_sl_HasPrefix {G:Nat→Bool}:FnEq Tryd.prog G LF OF 87 T_sl_HasPrefix:=fun cf lf=>by kernel_rfl
theorem c_sl_HasPrefix:chkF Tryd.prog LF OF 87=true:=by kernel_rfl
theorem e_st_IndexFunc {G:Nat→Bool}:FnEq Tryd.prog G LF OF 88 T_st_IndexFunc:=fun cf lf=>by kernel_rfl
theorem c_st_IndexFunc:chkF Tryd.prog LF OF 88=true:=by kernel_rfl
theorem e_sli_Index___string_string {G:Nat→Bool}:FnEq Tryd.prog G LF OF 89 T_sli_Index___string_string:=fun cf lf=>by kernel_rfl
theorem c_sli_Index___string_string:chkF Tryd.prog LF OF 89=true:=by kernel_rfl
theorem e_st_indexFunc {G:Nat→Bool}:FnEq Tryd.prog G LF OF 92 T_st_indexFunc:=fun cf lf=>by kernel_rfl
theorem c_st_indexFunc:chkF Tryd.prog LF OF 92=true:=by kernel_rfl
theorem hGt:G Pg=true:=by decide
theorem hGw:pinG pinL Pg=true:=by decide
theorem tblW_ok:TblOk Tryd.prog (pinG pinL) tblW:=(.node 59 (.node 77 (.node 83 (.node 88 (.node 90 (.node 92 (.leaf (EntOk.fn mixed e_st_indexFunc c_st_indexFunc big)) (.leaf (EntOk.same Tryd.func90 (by kernel_rfl) (by kernel_rfl) (by kernel_rfl) (by kernel_rfl)))) (.node 89 (.leaf (EntOk.fn mixed e_sli_Index___string_string c_sli_Index___string_string big)) (.leaf (EntOk.fn mixed e_st_IndexFunc c_st_IndexFunc big)))) (.node 85 (.node 87 (.leaf (EntOk.fn mixed e_sl_HasPrefix c_sl_HasPrefix big)) (.leaf (EntOk.fn mixed e_st_Builder_copyCheck c_st_Builder_copyCheck big))) (.leaf (EntOk.fn mixed e_sli_Contains___string_string c_sli_Contains___string_string big)))) (.node 80 (.node 81 (.node 82 (.leaf (EntOk.fn mixed e_sli_IndexFunc___string_string c_sli_IndexFunc___string_string big)) (.leaf (EntOk.fn mixed e_st_ContainsFunc c_st_ContainsFunc big))) (.leaf (EntOk.fn mixed e_j_Plain_1 c_j_Plain_1 big))) (.node 78 (.node 79 (.leaf (EntOk.idx Tryd.func79 (by kernel_rfl) (by kernel_rfl) (by kernel_rfl) (by kernel_rfl))) (.leaf (EntOk.fn mixed e_st_HasPrefix c_st_HasPrefix big))) (.leaf (EntOk.fn mixed e_j_parser_name c_j_parser_name big))))) (.node 69 (.node 73 (.node 75 (.node 76 (.leaf (EntOk.fn mixed e_st_Builder_WriteByte c_st_Builder_WriteByte big)) (.leaf (EntOk.fn mixed e_j_quoted c_j_quoted big))) (.node 74 (.leaf (Go.Proofs.YtacpnpdggbfkgaaDoor.ten_ent hGw)) (.leaf (EntOk.fn mixed e_st_Builder_WriteString c_st_Builder_WriteString big)))) (.node 70 (.node 71 (.leaf (EntOk.fn mixed e_j_twice c_j_twice big)) (.leaf (EntOk.fn mixed e_sli_ContainsFunc___string_string c_sli_ContainsFunc___string_string big))) (.leaf (EntOk.fn mixed e_j_node_1 c_j_node_1 big)))) (.node 66 (.node 67 (.node 68 (.leaf (EntOk.fn mixed e_j_Plain c_j_Plain big)) (.leaf (EntOk.fn mixed e_j_IsNum c_j_IsNum big))) (.leaf (EntOk.fn mixed e_j_same c_j_same big))) (.node 60 (.node 61 (.leaf (EntOk.fn mixed e_sl_IndexByte c_sl_IndexByte big)) (.leaf (EntOk.fn mixed e_j_Number c_j_Number big))) (.leaf (EntOk.fn mixed e_j_String c_j_String big)))))) (.node 37 (.node 52 (.node 55 (.node 57 (.node 58 (.leaf (EntOk.fn mixed e_j_parser_pairs c_j_parser_pairs big)) (.leaf (EntOk.fn mixed e_j_parser_list c_j_parser_list big))) (.node 56 (.leaf (EntOk.fn mixed e_j_parser_take c_j_parser_take big)) (.leaf (EntOk.fn mixed e_st_Builder_String c_st_Builder_String big)))) (.node 53 (.node 54 (.leaf (EntOk.fn mixed e_j_spell c_j_spell big)) (.leaf Go.Proofs.YtacpnpdggbfkgaaDoor.sh_ent)) (.leaf (EntOk.fn mixed e_j_node c_j_node big)))) (.node 40 (.node 41 (.node 42 (.leaf (EntOk.fn mixed e_j_parser_add c_j_parser_add big)) (.leaf (EntOk.fn mixed e_j_parser_literal c_j_parser_literal big))) (.leaf (EntOk.fn mixed e_st_IndexByte c_st_IndexByte big))) (.node 38 (.node 39 (.leaf (EntOk.fn mixed e_j_parser_number c_j_parser_number big)) (.leaf (EntOk.fn mixed e_j_digit c_j_digit big))) (.leaf (EntOk.fn mixed e_j_parser_text c_j_parser_text big))))) (.node 24 (.node 34 (.node 35 (.node 36 (.leaf (EntOk.fn mixed e_j_parser_begin c_j_parser_begin big)) (.leaf (EntOk.fn mixed e_j_parser_nested c_j_parser_nested big))) (.leaf (EntOk.fn mixed e_j_parser_see c_j_parser_see big))) (.node 31 (.node 32 (.leaf (EntOk.fn mixed e_j_Text c_j_Text big)) (.leaf (EntOk.fn mixed e_j_May c_j_May big))) (.leaf (EntOk.fn mixed e_j_parser_bad c_j_parser_bad big)))) (.node 17 (.node 22 (.node 23 (.leaf (EntOk.fn mixed e_j_parser_blanks c_j_parser_blanks big)) (.leaf (EntOk.fn mixed e_j_parser_value c_j_parser_value big))) (.leaf (EntOk.fn mixed e_j_Write c_j_Write big))) (.node 12 (.node 15 (.leaf (EntOk.fn mixed e_l1_wakes c_l1_wakes big)) (.leaf (EntOk.fn mixed e_l1_num c_l1_num big))) (.leaf (EntOk.fn mixed e_j_Read c_j_Read big)))))))
theorem nn_le:pinL.all (fun x=>Nat.ble (Nat.succ x.1) 4)=true:=by decide
theorem nn_sz:pinL.all (fun x=>match Tryd.prog.globals[x.1]? with | some q=>Nat.ble (sizeT Tryd.prog q.type) 64 | none=>false)=true:=by kernel_rfl
theorem pins_at {w:World} (h:Lib.TabIs Tryd.prog w "internal/strconv.uint64pow10" .u64 Lib.pow10Tab):PinsAt pinL w:=by
 intro x hx
 have hx:x∈[(1,0,0,0)]:=hx
 simp only [List.mem_cons,List.not_mem_nil,or_false] at hx
 obtain rfl:=hx
 exact pin_of_tab h Go.Proofs.YtacpnpdggbfkgaaDoor.ten_named
theorem wk_C:WkC Tryd.prog 15:=wk_call mixed (by decide) nn_le nn_sz tblW_ok e_l1_wakes c_l1_wakes 80 whole_run fun w h=>pins_at h
theorem wk_ent:EntOk Tryd.prog G 15 (fun _=>extWk Pg):=.wk (gl:=⟨"internal/strconv.uint64pow10",137,none⟩) (by kernel_rfl) Go.Proofs.YtacpnpdggbfkgaaDoor.ten_named hGt (by decide) (enters_call Tryd.func15 (by kernel_rfl) (by kernel_rfl)) wk_C
theorem tbl_ok:TblOk Tryd.prog G tbl:=(.node 49 (.node 69 (.node 80 (.node 87 (.node 89 (.node 90 (.node 92 (.leaf (EntOk.fn mixed e_st_indexFunc c_st_indexFunc big)) (.leaf (EntOk.same Tryd.func90 (by kernel_rfl) (by kernel_rfl) (by kernel_rfl) (by kernel_rfl)))) (.leaf (EntOk.fn mixed e_sli_Index___string_string c_sli_Index___string_string big))) (.node 88 (.leaf (EntOk.fn mixed e_st_IndexFunc c_st_IndexFunc big)) (.leaf (EntOk.fn mixed e_sl_HasPrefix c_sl_HasPrefix big)))) (.node 82 (.node 83 (.node 85 (.leaf (EntOk.fn mixed e_st_Builder_copyCheck c_st_Builder_copyCheck big)) (.leaf (EntOk.fn mixed e_sli_Contains___string_string c_sli_Contains___string_string big))) (.leaf (EntOk.fn mixed e_sli_IndexFunc___string_string c_sli_IndexFunc___string_string big))) (.node 81 (.leaf (EntOk.fn mixed e_st_ContainsFunc c_st_ContainsFunc big)) (.leaf (EntOk.fn mixed e_j_Plain_1 c_j_Plain_1 big))))) (.node 75 (.node 77 (.node 78 (.node 79 (.leaf (EntOk.idx Tryd.func79 (by kernel_rfl) (by kernel_rfl) (by kernel_rfl) (by kernel_rfl))) (.leaf (EntOk.fn mixed e_st_HasPrefix c_st_HasPrefix big))) (.leaf (EntOk.fn mixed e_j_parser_name c_j_parser_name big))) (.node 76 (.leaf (EntOk.fn mixed e_st_Builder_WriteByte c_st_Builder_WriteByte big)) (.leaf (EntOk.fn mixed e_j_quoted c_j_quoted big)))) (.node 71 (.node 73 (.node 74 (.leaf (Go.Proofs.YtacpnpdggbfkgaaDoor.ten_ent hGt)) (.leaf (EntOk.fn mixed e_st_Builder_WriteString c_st_Builder_WriteString big))) (.leaf (EntOk.fn mixed e_j_twice c_j_twice big))) (.node 70 (.leaf (EntOk.fn mixed e_sli_ContainsFunc___string_string c_sli_ContainsFunc___string_string big)) (.leaf (EntOk.fn mixed e_j_node_1 c_j_node_1 big)))))) (.node 59 (.node 64 (.node 66 (.node 67 (.node 68 (.leaf (EntOk.fn mixed e_j_Plain c_j_Plain big)) (.leaf (EntOk.fn mixed e_j_IsNum c_j_IsNum big))) (.leaf (EntOk.fn mixed e_j_same c_j_same big))) (.node 65 (.leaf (EntOk.fn mixed e_z_CopyNumbers c_z_CopyNumbers big)) (.leaf (EntOk.fn mixed e_z_CopyStrings c_z_CopyStrings big)))) (.node 61 (.node 62 (.node 63 (.leaf (EntOk.fn mixed e_z_Has c_z_Has big)) (.leaf (EntOk.fn mixed e_r_reader_takes c_r_reader_takes big))) (.leaf (EntOk.fn mixed e_sl_IndexByte c_sl_IndexByte big))) (.node 60 (.leaf (EntOk.fn mixed e_j_Number c_j_Number big)) (.leaf (EntOk.fn mixed e_j_String c_j_String big))))) (.node 54 (.node 56 (.node 57 (.node 58 (.leaf (EntOk.fn mixed e_j_parser_pairs c_j_parser_pairs big)) (.leaf (EntOk.fn mixed e_j_parser_list c_j_parser_list big))) (.leaf (EntOk.fn mixed e_j_parser_take c_j_parser_take big))) (.node 55 (.leaf (EntOk.fn mixed e_st_Builder_String c_st_Builder_String big)) (.leaf (EntOk.fn mixed e_j_spell c_j_spell big)))) (.node 51 (.node 52 (.node 53 (.leaf Go.Proofs.YtacpnpdggbfkgaaDoor.sh_ent) (.leaf (EntOk.fn mixed e_j_node c_j_node big))) (.leaf (EntOk.fn mixed e_z_CopyJson c_z_CopyJson big))) (.node 50 (.leaf (EntOk.fn mixed e_z_EqNumbers c_z_EqNumbers big)) (.leaf (EntOk.fn mixed e_z_EqStrings c_z_EqStrings big))))))) (.node 28 (.node 39 (.node 44 (.node 46 (.node 47 (.node 48 (.leaf (EntOk.fn mixed e_r_Int c_r_Int big)) (.leaf (EntOk.fn mixed e_r_reader_many c_r_reader_many big))) (.leaf (EntOk.fn mixed e_r_reader_add c_r_reader_add big))) (.node 45 (.leaf (EntOk.fn mixed e_r_reader_text c_r_reader_text big)) (.leaf (EntOk.fn mixed e_r_reader_word c_r_reader_word big)))) (.node 41 (.node 42 (.node 43 (.leaf (EntOk.fn mixed e_r_reader_see c_r_reader_see big)) (.leaf (EntOk.fn mixed e_j_parser_add c_j_parser_add big))) (.leaf (EntOk.fn mixed e_j_parser_literal c_j_parser_literal big))) (.node 40 (.leaf (EntOk.fn mixed e_st_IndexByte c_st_IndexByte big)) (.leaf (EntOk.fn mixed e_j_parser_number c_j_parser_number big))))) (.node 34 (.node 36 (.node 37 (.node 38 (.leaf (EntOk.fn mixed e_j_digit c_j_digit big)) (.leaf (EntOk.fn mixed e_j_parser_text c_j_parser_text big))) (.leaf (EntOk.fn mixed e_j_parser_begin c_j_parser_begin big))) (.node 35 (.leaf (EntOk.fn mixed e_j_parser_nested c_j_parser_nested big)) (.leaf (EntOk.fn mixed e_j_parser_see c_j_parser_see big)))) (.node 31 (.node 32 (.node 33 (.leaf (EntOk.fn mixed e_l0_Texts c_l0_Texts big)) (.leaf (EntOk.fn mixed e_j_Text c_j_Text big))) (.leaf (EntOk.fn mixed e_j_May c_j_May big))) (.node 30 (.leaf (EntOk.fn mixed e_z_CopyJsons c_z_CopyJsons big)) (.leaf (EntOk.fn mixed e_z_EqJson c_z_EqJson big)))))) (.node 17 (.node 23 (.node 25 (.node 26 (.node 27 (.leaf (EntOk.fn mixed e_r_reader_fails c_r_reader_fails big)) (.leaf (EntOk.fn mixed e_r_reader_value c_r_reader_value big))) (.leaf (EntOk.fn mixed e_r_reader_blanks c_r_reader_blanks big))) (.node 24 (.leaf (EntOk.fn mixed e_j_parser_bad c_j_parser_bad big)) (.leaf (EntOk.fn mixed e_j_parser_blanks c_j_parser_blanks big)))) (.node 20 (.node 21 (.node 22 (.leaf (EntOk.fn mixed e_j_parser_value c_j_parser_value big)) (.leaf (EntOk.fn mixed e_l0_JsonsWeight c_l0_JsonsWeight big))) (.leaf (EntOk.fn mixed e_l1_cellsOf c_l1_cellsOf big))) (.node 18 (.leaf (EntOk.fn mixed e_l1_slashes c_l1_slashes big)) (.leaf (EntOk.fn mixed e_j_Write c_j_Write big))))) (.node 11 (.node 13 (.node 15 (.node 16 (.leaf (EntOk.fn mixed e_l1_values c_l1_values big)) (.leaf wk_ent)) (.leaf (EntOk.fn mixed e_z_EqJsons c_z_EqJsons big))) (.node 12 (.leaf (EntOk.fn mixed e_l1_num c_l1_num big)) (.leaf (EntOk.fn mixed e_r_Read c_r_Read big)))) (.node 9 (.node 10 (.leaf (EntOk.fn mixed e_j_Read c_j_Read big)) (.leaf (EntOk.fn mixed e_l0_Within c_l0_Within big))) (.node 8 (.leaf (EntOk.fn mixed e_l1_Heavy c_l1_Heavy big)) (.leaf (EntOk.fn mixed e_l1_JsonBack c_l1_JsonBack big))))))))
end Go.Bvm.JN
