/- BogFacts. -/
import Derived.Test.YtjcecljhjailiaaGreatDoorBogG06
import Derived.Test.YtjcecljhjailiaaGreatDoorProg
set_option linter.all false
namespace Go.Ab.Tryz
open Go Go.Ab Go.Proofs
theorem Aw:Ec Tryz.prog 3=some 1:=by kernel_rfl
theorem ZY:FL Tryz.prog 3=some 8:=by kernel_rfl
theorem Bw:FB Tryz.prog 3=some false:=by kernel_rfl
theorem Te:Hz Tryz.prog 3=some IntKind.i64:=by kernel_rfl
theorem Nu:Co Tryz.prog 3=some [SV.dv (DV.int IntKind.i64 0)]:=by kernel_rfl
theorem Ga:Ec Tryz.prog 4=some 1:=by kernel_rfl
theorem by4:FL Tryz.prog 4=some 1:=by kernel_rfl
theorem YO:FB Tryz.prog 4=some false:=by kernel_rfl
theorem ze4:Co Tryz.prog 4=some [SV.dv (DV.bool false)]:=by kernel_rfl
theorem ib4:Kk Tryz.prog 4=true:=by kernel_rfl
theorem kd5:Hz Tryz.prog 5=some IntKind.u8:=by kernel_rfl
theorem Dh:Ec Tryz.prog 9=some 1:=by kernel_rfl
theorem uI:FL Tryz.prog 9=some 16:=by kernel_rfl
theorem MK:FB Tryz.prog 9=some false:=by kernel_rfl
theorem YQ:Co Tryz.prog 9=some [SV.dv (DV.str { data:={ toList:=[] } })]:=by kernel_rfl
theorem K4:F5 Tryz.prog 9=true:=by kernel_rfl
theorem DJ:Ec Tryz.prog 22=some 1:=by kernel_rfl
theorem DW:FB Tryz.prog 22=some false:=by kernel_rfl
theorem CJ:Cr Tryz.prog 22=some 25:=by kernel_rfl
theorem KO:D5 Tryz.prog 22=true:=by kernel_rfl
theorem Dw:Ec Tryz.prog 24=some 1:=by kernel_rfl
theorem EC:FB Tryz.prog 24=some true:=by kernel_rfl
theorem zJ:Ey Tryz.prog 24=some [(0,1)]:=by kernel_rfl
theorem Ch:Bp Tryz.prog 24 0=some 0:=by kernel_rfl
theorem nP:Co Tryz.prog 24=some [SV.Bh]:=by kernel_rfl
theorem Av:Ec Tryz.prog 25=some 1:=by kernel_rfl
theorem xS:FL Tryz.prog 25=some 24:=by kernel_rfl
theorem Bz:FB Tryz.prog 25=some false:=by kernel_rfl
theorem BG:Cr Tryz.prog 25=some 3:=by kernel_rfl
theorem UM:Co Tryz.prog 25=some [SV.Bh]:=by kernel_rfl
theorem Cj:D5 Tryz.prog 25=true:=by kernel_rfl
theorem Dp:Ec Tryz.prog 27=some 2:=by kernel_rfl
theorem Dt:FB Tryz.prog 27=some true:=by kernel_rfl
theorem zI:Ey Tryz.prog 27=some [(0,1),(1,1)]:=by kernel_rfl
theorem EA:Bp Tryz.prog 27 0=some 0:=by kernel_rfl
theorem FK:Bp Tryz.prog 27 1=some 1:=by kernel_rfl
theorem yT:Co Tryz.prog 27=some [SV.Bh,SV.Bh]:=by kernel_rfl
theorem Jy:Ec Tryz.prog 29=some 4:=by kernel_rfl
theorem LA:FB Tryz.prog 29=some true:=by kernel_rfl
theorem pl29:Ey Tryz.prog 29=some [(0,1),(1,2),(3,1)]:=by kernel_rfl
theorem F8:Bp Tryz.prog 29 0=some 0:=by kernel_rfl
theorem F7:Bp Tryz.prog 29 1=some 1:=by kernel_rfl
theorem Gc:Bp Tryz.prog 29 2=some 3:=by kernel_rfl
theorem uO:Co Tryz.prog 29=some [SV.Bh,SV.Bh,SV.Bh,SV.dv (DV.int IntKind.i64 0)]:=by kernel_rfl
theorem P9:Ec Tryz.prog 30=some 1:=by kernel_rfl
theorem PS:FB Tryz.prog 30=some false:=by kernel_rfl
theorem CS:Cr Tryz.prog 30=some 9:=by kernel_rfl
theorem Ce:D5 Tryz.prog 30=true:=by kernel_rfl
theorem Ll:Hz Tryz.prog 61=some IntKind.u64:=by kernel_rfl
theorem Jw:Ec Tryz.prog 65=some 3:=by kernel_rfl
theorem Np:FB Tryz.prog 65=some true:=by kernel_rfl
theorem oF:Ey Tryz.prog 65=some [(0,1),(1,1),(2,1)]:=by kernel_rfl
theorem Fh:Bp Tryz.prog 65 0=some 0:=by kernel_rfl
theorem DF:Bp Tryz.prog 65 1=some 1:=by kernel_rfl
theorem VE:Bp Tryz.prog 65 2=some 2:=by kernel_rfl
theorem Vn:Co Tryz.prog 65=some [SV.dv (DV.int IntKind.i64 0),SV.dv (DV.int IntKind.i64 0),SV.dv (DV.int IntKind.i64 0)]:=by kernel_rfl
theorem pl67:Ey Tryz.prog 67=some [(0,1),(1,2),(3,3),(6,1),(7,1),(8,1),(9,1),(10,1),(11,1),(12,1),(13,1),(14,1),(15,1)]:=by kernel_rfl
theorem wU:Bp Tryz.prog 67 3=some 6:=by kernel_rfl
theorem wT:Bp Tryz.prog 67 4=some 7:=by kernel_rfl
theorem wS:Bp Tryz.prog 67 5=some 8:=by kernel_rfl
theorem wR:Bp Tryz.prog 67 6=some 9:=by kernel_rfl
theorem wQ:Bp Tryz.prog 67 7=some 10:=by kernel_rfl
theorem wP:Bp Tryz.prog 67 8=some 11:=by kernel_rfl
theorem wO:Bp Tryz.prog 67 9=some 12:=by kernel_rfl
theorem qR:Bp Tryz.prog 67 10=some 13:=by kernel_rfl
theorem qQ:Bp Tryz.prog 67 11=some 14:=by kernel_rfl
theorem qP:Bp Tryz.prog 67 12=some 15:=by kernel_rfl
theorem ze67:Co Tryz.prog 67=some [SV.Bh,SV.Bh,SV.Bh,SV.dv (DV.int IntKind.i64 0),SV.dv (DV.int IntKind.i64 0),SV.dv (DV.int IntKind.i64 0),SV.dv (DV.int IntKind.i64 0),SV.dv (DV.int IntKind.i64 0),SV.dv (DV.int IntKind.i64 0),SV.dv (DV.int IntKind.i64 0),SV.dv (DV.int IntKind.i64 0),SV.dv (DV.int IntKind.i64 0),SV.Bh,SV.Bh,SV.dv (DV.bool false),SV.Bh]:=by kernel_rfl
theorem iM:Ec Tryz.prog 81=some 6:=by kernel_rfl
theorem mY:FB Tryz.prog 81=some true:=by kernel_rfl
theorem M8:Bp Tryz.prog 81 0=some 0:=by kernel_rfl
theorem M7:Bp Tryz.prog 81 1=some 1:=by kernel_rfl
theorem M6:Bp Tryz.prog 81 2=some 3:=by kernel_rfl
theorem ZK:Bp Tryz.prog 81 3=some 4:=by kernel_rfl
theorem ZJ:Bp Tryz.prog 81 4=some 5:=by kernel_rfl
theorem L8:Ec Tryz.prog 98=some 9:=by kernel_rfl
theorem Ve:FB Tryz.prog 98=some true:=by kernel_rfl
theorem zH:Ey Tryz.prog 98=some [(0,1),(1,1),(2,1),(3,1),(4,1),(5,1),(6,1),(7,1),(8,1)]:=by kernel_rfl
theorem VD:Bp Tryz.prog 98 0=some 0:=by kernel_rfl
theorem Eb:Bp Tryz.prog 98 1=some 1:=by kernel_rfl
theorem FJ:Bp Tryz.prog 98 2=some 2:=by kernel_rfl
theorem J4:Bp Tryz.prog 98 3=some 3:=by kernel_rfl
theorem Jj:Bp Tryz.prog 98 4=some 4:=by kernel_rfl
theorem KR:Bp Tryz.prog 98 5=some 5:=by kernel_rfl
theorem OU:Bp Tryz.prog 98 6=some 6:=by kernel_rfl
theorem RI:Bp Tryz.prog 98 7=some 7:=by kernel_rfl
theorem KQ:Bp Tryz.prog 98 8=some 8:=by kernel_rfl
theorem Vm:Co Tryz.prog 98=some [SV.dv (DV.int IntKind.i64 0),SV.Bh,SV.Bh,SV.dv (DV.int IntKind.i64 0),SV.dv (DV.int IntKind.i64 0),SV.dv (DV.int IntKind.i64 0),SV.dv (DV.int IntKind.i64 0),SV.dv (DV.bool false),SV.Bh]:=by kernel_rfl
theorem zK:Ey Tryz.prog 100=some [(0,2),(2,1),(3,2),(5,3),(8,9)]:=by kernel_rfl
theorem Pn:Bp Tryz.prog 100 0=some 0:=by kernel_rfl
theorem NT:Bp Tryz.prog 100 1=some 2:=by kernel_rfl
theorem Pm:Bp Tryz.prog 100 2=some 3:=by kernel_rfl
theorem Jl:Bp Tryz.prog 100 3=some 5:=by kernel_rfl
theorem GD:Bp Tryz.prog 100 4=some 8:=by kernel_rfl
theorem yV:Co Tryz.prog 100=some [SV.dv (DV.int IntKind.i32 0),SV.dv (DV.int IntKind.u32 0),SV.Bh,SV.Bh,SV.Bh,SV.dv (DV.int IntKind.i64 0),SV.dv (DV.int IntKind.i64 0),SV.dv (DV.int IntKind.i64 0),SV.dv (DV.int IntKind.i64 0),SV.Bh,SV.Bh,SV.dv (DV.int IntKind.i64 0),SV.dv (DV.int IntKind.i64 0),SV.dv (DV.int IntKind.i64 0),SV.dv (DV.int IntKind.i64 0),SV.dv (DV.bool false),SV.Bh]:=by kernel_rfl
theorem Ib:Ey Tryz.prog 133=some [(0,1)]:=by kernel_rfl
theorem IW:Co Tryz.prog 133=some [SV.dv (DV.int IntKind.i64 0)]:=by kernel_rfl
theorem Sr:Ec Tryz.prog 136=some 1:=by kernel_rfl
theorem UH:FB Tryz.prog 136=some false:=by kernel_rfl
theorem Ed:Ec Tryz.prog 138=some 2:=by kernel_rfl
theorem KX:FB Tryz.prog 138=some true:=by kernel_rfl
theorem Oj:Ey Tryz.prog 138=some [(0,1),(1,1)]:=by kernel_rfl
theorem NS:Bp Tryz.prog 138 0=some 0:=by kernel_rfl
theorem Jk:Bp Tryz.prog 138 1=some 1:=by kernel_rfl
theorem IV:Co Tryz.prog 138=some [SV.dv (DV.int IntKind.i64 0),SV.Bh]:=by kernel_rfl
theorem Eh:Cr Tryz.prog 160=some 4:=by kernel_rfl
theorem zW:D5 Tryz.prog 160=true:=by kernel_rfl
theorem yg:Ec Tryz.prog 190=some 2:=by kernel_rfl
theorem qV:Bp Tryz.prog 190 0=some 0:=by kernel_rfl
theorem qU:Bp Tryz.prog 190 1=some 1:=by kernel_rfl
theorem yU:Co Tryz.prog 190=some [SV.dv (DV.int IntKind.i64 0),SV.dv (DV.int IntKind.i64 0)]:=by kernel_rfl
theorem tK:Hz Tryz.prog 232=some IntKind.u64:=by kernel_rfl
theorem mixed:Tryz.prog.follows .mixedOrders=true:=by kernel_rfl
end Go.Ab.Tryz
