/- BogFacts. -/
import Derived.Test.YtjcecljhjailiaaGreatDoorBogG06
import Derived.Test.YtjcecljhjailiaaGreatDoorProg
set_option linter.all false
namespace Go.Ab.Tryz
open Go Go.Ab Go.Proofs
theorem Ak:FC Tryz.prog 3=some 1:=by kernel_rfl
theorem U7:Fx Tryz.prog 3=some 8:=by kernel_rfl
theorem Br:Fy Tryz.prog 3=some false:=by kernel_rfl
theorem gG:J8 Tryz.prog 3=some IntKind.i64:=by kernel_rfl
theorem Jq:D6 Tryz.prog 3=some [SV.dv (DV.int IntKind.i64 0)]:=by kernel_rfl
theorem H8:FC Tryz.prog 4=some 1:=by kernel_rfl
theorem by4:Fx Tryz.prog 4=some 1:=by kernel_rfl
theorem YG:Fy Tryz.prog 4=some false:=by kernel_rfl
theorem ze4:D6 Tryz.prog 4=some [SV.dv (DV.bool false)]:=by kernel_rfl
theorem ib4:MQ Tryz.prog 4=true:=by kernel_rfl
theorem kd5:J8 Tryz.prog 5=some IntKind.u8:=by kernel_rfl
theorem DZ:FC Tryz.prog 9=some 1:=by kernel_rfl
theorem WQ:Fx Tryz.prog 9=some 16:=by kernel_rfl
theorem Mk:Fy Tryz.prog 9=some false:=by kernel_rfl
theorem KL:D6 Tryz.prog 9=some [SV.dv (DV.str { data:={ toList:=[] } })]:=by kernel_rfl
theorem IC:Fw Tryz.prog 9=true:=by kernel_rfl
theorem DF:FC Tryz.prog 22=some 1:=by kernel_rfl
theorem Da:Fy Tryz.prog 22=some false:=by kernel_rfl
theorem CO:D8 Tryz.prog 22=some 25:=by kernel_rfl
theorem Ka:DL Tryz.prog 22=true:=by kernel_rfl
theorem D9:FC Tryz.prog 24=some 1:=by kernel_rfl
theorem DW:Fy Tryz.prog 24=some true:=by kernel_rfl
theorem A26:FM Tryz.prog 24=some [(0,1)]:=by kernel_rfl
theorem Cb:CJ Tryz.prog 24 0=some 0:=by kernel_rfl
theorem rD:D6 Tryz.prog 24=some [SV.Bw]:=by kernel_rfl
theorem Av:FC Tryz.prog 25=some 1:=by kernel_rfl
theorem A0I:Fx Tryz.prog 25=some 24:=by kernel_rfl
theorem Bl:Fy Tryz.prog 25=some false:=by kernel_rfl
theorem Ap:D8 Tryz.prog 25=some 3:=by kernel_rfl
theorem Ry:D6 Tryz.prog 25=some [SV.Bw]:=by kernel_rfl
theorem CZ:DL Tryz.prog 25=true:=by kernel_rfl
theorem Cq:FC Tryz.prog 27=some 2:=by kernel_rfl
theorem Cr:Fy Tryz.prog 27=some true:=by kernel_rfl
theorem A25:FM Tryz.prog 27=some [(0,1),(1,1)]:=by kernel_rfl
theorem EK:CJ Tryz.prog 27 0=some 0:=by kernel_rfl
theorem F6:CJ Tryz.prog 27 1=some 1:=by kernel_rfl
theorem A1I:D6 Tryz.prog 27=some [SV.Bw,SV.Bw]:=by kernel_rfl
theorem EN:FC Tryz.prog 29=some 4:=by kernel_rfl
theorem Eh:Fy Tryz.prog 29=some true:=by kernel_rfl
theorem pl29:FM Tryz.prog 29=some [(0,1),(1,2),(3,1)]:=by kernel_rfl
theorem E5:CJ Tryz.prog 29 0=some 0:=by kernel_rfl
theorem EJ:CJ Tryz.prog 29 1=some 1:=by kernel_rfl
theorem FK:CJ Tryz.prog 29 2=some 3:=by kernel_rfl
theorem xP:D6 Tryz.prog 29=some [SV.Bw,SV.Bw,SV.Bw,SV.dv (DV.int IntKind.i64 0)]:=by kernel_rfl
theorem Fv:FC Tryz.prog 30=some 1:=by kernel_rfl
theorem Hl:Fy Tryz.prog 30=some false:=by kernel_rfl
theorem CF:D8 Tryz.prog 30=some 9:=by kernel_rfl
theorem Dg:DL Tryz.prog 30=true:=by kernel_rfl
theorem rV:FC Tryz.prog 39=some 1:=by kernel_rfl
theorem by39:Fx Tryz.prog 39=some 8:=by kernel_rfl
theorem ag39:Fy Tryz.prog 39=some false:=by kernel_rfl
theorem A1H:D6 Tryz.prog 39=some [SV.dv (DV.int IntKind.i64 0)]:=by kernel_rfl
theorem vC:D8 Tryz.prog 48=some 39:=by kernel_rfl
theorem bU:DL Tryz.prog 48=true:=by kernel_rfl
theorem XG:J8 Tryz.prog 61=some IntKind.u64:=by kernel_rfl
theorem H7:FC Tryz.prog 65=some 3:=by kernel_rfl
theorem JI:Fy Tryz.prog 65=some true:=by kernel_rfl
theorem sS:FM Tryz.prog 65=some [(0,1),(1,1),(2,1)]:=by kernel_rfl
theorem GK:CJ Tryz.prog 65 0=some 0:=by kernel_rfl
theorem DR:CJ Tryz.prog 65 1=some 1:=by kernel_rfl
theorem Tf:CJ Tryz.prog 65 2=some 2:=by kernel_rfl
theorem YI:D6 Tryz.prog 65=some [SV.dv (DV.int IntKind.i64 0),SV.dv (DV.int IntKind.i64 0),SV.dv (DV.int IntKind.i64 0)]:=by kernel_rfl
theorem pl67:FM Tryz.prog 67=some [(0,1),(1,2),(3,3),(6,1),(7,1),(8,1),(9,1),(10,1),(11,1),(12,1),(13,1),(14,1),(15,1)]:=by kernel_rfl
theorem dA:CJ Tryz.prog 67 0=some 0:=by kernel_rfl
theorem ou:CJ Tryz.prog 67 1=some 1:=by kernel_rfl
theorem Te:CJ Tryz.prog 67 2=some 3:=by kernel_rfl
theorem d9:CJ Tryz.prog 67 3=some 6:=by kernel_rfl
theorem Lv:CJ Tryz.prog 67 4=some 7:=by kernel_rfl
theorem Nf:CJ Tryz.prog 67 5=some 8:=by kernel_rfl
theorem Td:CJ Tryz.prog 67 6=some 9:=by kernel_rfl
theorem cu:CJ Tryz.prog 67 7=some 10:=by kernel_rfl
theorem Tc:CJ Tryz.prog 67 8=some 11:=by kernel_rfl
theorem Kj:CJ Tryz.prog 67 9=some 12:=by kernel_rfl
theorem Hr:CJ Tryz.prog 67 10=some 13:=by kernel_rfl
theorem Om:CJ Tryz.prog 67 11=some 14:=by kernel_rfl
theorem Cw:CJ Tryz.prog 67 12=some 15:=by kernel_rfl
theorem ze67:D6 Tryz.prog 67=some [SV.Bw,SV.Bw,SV.Bw,SV.dv (DV.int IntKind.i64 0),SV.dv (DV.int IntKind.i64 0),SV.dv (DV.int IntKind.i64 0),SV.dv (DV.int IntKind.i64 0),SV.dv (DV.int IntKind.i64 0),SV.dv (DV.int IntKind.i64 0),SV.dv (DV.int IntKind.i64 0),SV.dv (DV.int IntKind.i64 0),SV.dv (DV.int IntKind.i64 0),SV.Bw,SV.Bw,SV.dv (DV.bool false),SV.Bw]:=by kernel_rfl
theorem O5:FC Tryz.prog 98=some 9:=by kernel_rfl
theorem aB:Fy Tryz.prog 98=some true:=by kernel_rfl
theorem pl98:FM Tryz.prog 98=some [(0,1),(1,1),(2,1),(3,1),(4,1),(5,1),(6,1),(7,1),(8,1)]:=by kernel_rfl
theorem Xc:CJ Tryz.prog 98 0=some 0:=by kernel_rfl
theorem FJ:CJ Tryz.prog 98 1=some 1:=by kernel_rfl
theorem GJ:CJ Tryz.prog 98 2=some 2:=by kernel_rfl
theorem Jo:CJ Tryz.prog 98 3=some 3:=by kernel_rfl
theorem Ki:CJ Tryz.prog 98 4=some 4:=by kernel_rfl
theorem Lu:CJ Tryz.prog 98 5=some 5:=by kernel_rfl
theorem QG:CJ Tryz.prog 98 6=some 6:=by kernel_rfl
theorem Ta:CJ Tryz.prog 98 7=some 7:=by kernel_rfl
theorem Ls:CJ Tryz.prog 98 8=some 8:=by kernel_rfl
theorem iQ:D6 Tryz.prog 98=some [SV.dv (DV.int IntKind.i64 0),SV.Bw,SV.Bw,SV.dv (DV.int IntKind.i64 0),SV.dv (DV.int IntKind.i64 0),SV.dv (DV.int IntKind.i64 0),SV.dv (DV.int IntKind.i64 0),SV.dv (DV.bool false),SV.Bw]:=by kernel_rfl
theorem A27:FM Tryz.prog 100=some [(0,2),(2,1),(3,2),(5,3),(8,9)]:=by kernel_rfl
theorem Rk:CJ Tryz.prog 100 0=some 0:=by kernel_rfl
theorem Oq:CJ Tryz.prog 100 1=some 2:=by kernel_rfl
theorem Rj:CJ Tryz.prog 100 2=some 3:=by kernel_rfl
theorem Kl:CJ Tryz.prog 100 3=some 5:=by kernel_rfl
theorem Ht:CJ Tryz.prog 100 4=some 8:=by kernel_rfl
theorem A1K:D6 Tryz.prog 100=some [SV.dv (DV.int IntKind.i32 0),SV.dv (DV.int IntKind.u32 0),SV.Bw,SV.Bw,SV.Bw,SV.dv (DV.int IntKind.i64 0),SV.dv (DV.int IntKind.i64 0),SV.dv (DV.int IntKind.i64 0),SV.dv (DV.int IntKind.i64 0),SV.Bw,SV.Bw,SV.dv (DV.int IntKind.i64 0),SV.dv (DV.int IntKind.i64 0),SV.dv (DV.int IntKind.i64 0),SV.dv (DV.int IntKind.i64 0),SV.dv (DV.bool false),SV.Bw]:=by kernel_rfl
theorem FU:FC Tryz.prog 110=some 2:=by kernel_rfl
theorem WZ:Fy Tryz.prog 110=some true:=by kernel_rfl
theorem Ym:FM Tryz.prog 110=some [(0,1),(1,1)]:=by kernel_rfl
theorem Ib:CJ Tryz.prog 110 0=some 0:=by kernel_rfl
theorem G7:CJ Tryz.prog 110 1=some 1:=by kernel_rfl
theorem Gz:D6 Tryz.prog 110=some [SV.dv (DV.str { data:={ toList:=[] } }),SV.Bw]:=by kernel_rfl
theorem JU:FM Tryz.prog 133=some [(0,1)]:=by kernel_rfl
theorem JL:D6 Tryz.prog 133=some [SV.dv (DV.int IntKind.i64 0)]:=by kernel_rfl
theorem Vb:FC Tryz.prog 136=some 1:=by kernel_rfl
theorem WY:Fy Tryz.prog 136=some false:=by kernel_rfl
theorem FL:FC Tryz.prog 138=some 2:=by kernel_rfl
theorem MC:Fy Tryz.prog 138=some true:=by kernel_rfl
theorem Qi:FM Tryz.prog 138=some [(0,1),(1,1)]:=by kernel_rfl
theorem Oo:CJ Tryz.prog 138 0=some 0:=by kernel_rfl
theorem Kk:CJ Tryz.prog 138 1=some 1:=by kernel_rfl
theorem JK:D6 Tryz.prog 138=some [SV.dv (DV.int IntKind.i64 0),SV.Bw]:=by kernel_rfl
theorem FP:D8 Tryz.prog 160=some 4:=by kernel_rfl
theorem A2J:DL Tryz.prog 160=true:=by kernel_rfl
theorem A1Q:FC Tryz.prog 190=some 2:=by kernel_rfl
theorem uX:CJ Tryz.prog 190 0=some 0:=by kernel_rfl
theorem uW:CJ Tryz.prog 190 1=some 1:=by kernel_rfl
theorem A1J:D6 Tryz.prog 190=some [SV.dv (DV.int IntKind.i64 0),SV.dv (DV.int IntKind.i64 0)]:=by kernel_rfl
theorem wX:J8 Tryz.prog 232=some IntKind.u64:=by kernel_rfl
theorem mixed:Tryz.prog.follows .mixedOrders=true:=by kernel_rfl
end Go.Ab.Tryz
