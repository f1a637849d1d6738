import Derived.Test.YtgdmlkgjpcnelaaGreatDoorV17
import Derived.Test.YtgdmlkgjpcnelaaGreatDoorProg
namespace Go.Proofs.YtgdmlkgjpcnelaaGreatDoor
open Go Go.Proofs Go.Vc
set_option maxRecDepth 100000
set_option linter.unusedVariables false
noncomputable def ty1:TI:={agg:=false,size:=1,e:=13,z:=[.c .nilf]}
noncomputable def ty2:TI:={agg:=false,size:=1,e:=1,z:=[.c (.int .i64 0)]}
noncomputable def ty3:TI:={agg:=false,size:=1,e:=1,z:=[.c (.int .i64 0)]}
noncomputable def ty4:TI:={agg:=false,size:=1,e:=15,z:=[.c (.bool false)]}
noncomputable def ty5:TI:={agg:=false,size:=1,e:=3,z:=[.c (.int .u8 0)]}
noncomputable def ty6:TI:={agg:=false,size:=1,e:=3,z:=[.c (.int .u8 0)]}
noncomputable def ty7:TI:={agg:=true,size:=4,fs:=[(0,1),(1,1),(2,1),(3,1)],fa:=[false,false,false,false],z:=[.c (.int .i64 0),.c (.int .i64 0),.c (.bool false),.c (.int .u8 0)]}
noncomputable def ty8:TI:={agg:=true,size:=4,fs:=[(0,1),(1,1),(2,1),(3,1)],fa:=[false,false,false,false],z:=[.c (.int .i64 0),.c (.int .i64 0),.c (.bool false),.c (.int .u8 0)]}
noncomputable def ty9:TI:={agg:=false,size:=1,e:=9,z:=[.c (.str [])]}
noncomputable def ty10:TI:={agg:=false,size:=1,e:=9,z:=[.c (.str [])]}
noncomputable def ty11:TI:={agg:=false,size:=1,e:=9,z:=[.c (.str [])]}
noncomputable def ty12:TI:={agg:=false,size:=1,e:=2,z:=[.c (.int .u64 0)]}
noncomputable def ty13:TI:={agg:=true,size:=2,fs:=[(0,1),(1,1)],fa:=[false,false],z:=[.c (.str []),.c (.int .u64 0)]}
noncomputable def ty14:TI:={agg:=true,size:=2,fs:=[(0,1),(1,1)],fa:=[false,false],z:=[.c (.str []),.c (.int .u64 0)]}
noncomputable def ty15:TI:={agg:=false,size:=1,e:=10,z:=[.c .nilp]}
noncomputable def ty16:TI:={agg:=false,size:=1,e:=10,z:=[.c .nilp]}
noncomputable def ty17:TI:={agg:=false,size:=1,e:=10,z:=[.c .nilp]}
noncomputable def ty18:TI:={agg:=true,size:=1,fs:=[(0,1)],fa:=[false],z:=[.c .nilp]}
noncomputable def ty19:TI:={agg:=true,size:=1,fs:=[(0,1)],fa:=[false],z:=[.c .nilp]}
noncomputable def ty20:TI:={agg:=false,size:=1,z:=[.c .nili]}
noncomputable def ty21:TI:={agg:=false,size:=1,z:=[.c (.int .i32 0)]}
noncomputable def ty22:TI:={agg:=false,size:=1,esz:=1,el:=2,ez:=[.c (.int .i64 0)],e:=11,z:=[.c .nils]}
noncomputable def ty23:TI:={agg:=false,size:=1,esz:=1,el:=49,ez:=[.c .nils],e:=11,z:=[.c .nils]}
noncomputable def ty24:TI:={agg:=true,size:=5,fs:=[(0,1),(1,1),(2,1),(3,1),(4,1)],fa:=[false,false,false,false,false],z:=[.c (.int .i64 0),.c (.int .i64 0),.c (.int .i64 0),.c .nils,.c .nils]}
noncomputable def ty25:TI:={agg:=true,size:=5,fs:=[(0,1),(1,1),(2,1),(3,1),(4,1)],fa:=[false,false,false,false,false],z:=[.c (.int .i64 0),.c (.int .i64 0),.c (.int .i64 0),.c .nils,.c .nils]}
noncomputable def ty26:TI:={agg:=false,size:=1,esz:=1,el:=3,ez:=[.c (.int .i64 0)],e:=11,z:=[.c .nils]}
noncomputable def ty27:TI:={agg:=false,size:=1,e:=13,z:=[.c .nilf]}
noncomputable def ty28:TI:={agg:=false,size:=1,e:=13,z:=[.c .nilf]}
noncomputable def ty29:TI:={agg:=false,size:=1,esz:=7,el:=65,ez:=[.c (.int .u8 0),.c (.int .i64 0),.c (.int .i64 0),.c (.int .i64 0),.c (.int .i64 0),.c (.int .i64 0),.c (.int .u8 0)],e:=11,z:=[.c .nils]}
noncomputable def ty30:TI:={agg:=true,size:=4,fs:=[(0,1),(1,1),(2,1),(3,1)],fa:=[false,false,false,false],z:=[.c (.int .i64 0),.c (.int .i64 0),.c (.int .i64 0),.c .nils]}
noncomputable def ty31:TI:={agg:=true,size:=4,fs:=[(0,1),(1,1),(2,1),(3,1)],fa:=[false,false,false,false],z:=[.c (.int .i64 0),.c (.int .i64 0),.c (.int .i64 0),.c .nils]}
noncomputable def ty32:TI:={agg:=false,size:=1,esz:=4,el:=56,ez:=[.c .nils,.c .nils,.c (.int .i64 0),.c (.bool false)],e:=11,z:=[.c .nils]}
noncomputable def ty33:TI:={agg:=true,size:=7,fs:=[(0,4),(4,1),(5,1),(6,1)],fa:=[true,false,false,false],z:=[.c (.int .i64 0),.c (.int .i64 0),.c (.int .i64 0),.c .nils,.c .nils,.c .nils,.c (.int .i64 0)]}
noncomputable def ty34:TI:={agg:=true,size:=7,fs:=[(0,4),(4,1),(5,1),(6,1)],fa:=[true,false,false,false],z:=[.c (.int .i64 0),.c (.int .i64 0),.c (.int .i64 0),.c .nils,.c .nils,.c .nils,.c (.int .i64 0)]}
noncomputable def ty35:TI:={agg:=false,size:=1,e:=1,z:=[.c (.int .i64 0)]}
noncomputable def ty37:TI:={agg:=false,size:=1,e:=13,z:=[.c .nilf]}
noncomputable def ty38:TI:={agg:=false,size:=1,e:=13,z:=[.c .nilf]}
noncomputable def ty39:TI:={agg:=false,size:=1,esz:=9,el:=48,ez:=[.c (.int .i64 0),.c (.int .i64 0),.c (.int .i64 0),.c (.int .i64 0),.c (.int .i64 0),.c (.int .i64 0),.c (.bool false),.c .nils,.c .nils],e:=11,z:=[.c .nils]}
noncomputable def ty41:TI:={agg:=false,size:=1,e:=13,z:=[.c .nilf]}
noncomputable def ty42:TI:={agg:=false,size:=1,e:=13,z:=[.c .nilf]}
noncomputable def ty43:TI:={agg:=false,size:=1,e:=13,z:=[.c .nilf]}
noncomputable def ty44:TI:={agg:=false,size:=1,esz:=1,el:=22,ez:=[.c .nils],e:=11,z:=[.c .nils]}
noncomputable def ty45:TI:={agg:=false,size:=1,esz:=1,el:=4,ez:=[.c (.bool false)],e:=11,z:=[.c .nils]}
noncomputable def ty46:TI:={agg:=false,size:=1,esz:=2,el:=102,ez:=[.c (.int .i64 0),.c (.int .i64 0)],e:=11,z:=[.c .nils]}
noncomputable def ty47:TI:={agg:=true,size:=9,fs:=[(0,1),(1,1),(2,1),(3,1),(4,1),(5,1),(6,1),(7,1),(8,1)],fa:=[false,false,false,false,false,false,false,false,false],z:=[.c (.int .i64 0),.c (.int .i64 0),.c (.int .i64 0),.c (.int .i64 0),.c (.int .i64 0),.c (.int .i64 0),.c (.bool false),.c .nils,.c .nils]}
noncomputable def ty48:TI:={agg:=true,size:=9,fs:=[(0,1),(1,1),(2,1),(3,1),(4,1),(5,1),(6,1),(7,1),(8,1)],fa:=[false,false,false,false,false,false,false,false,false],z:=[.c (.int .i64 0),.c (.int .i64 0),.c (.int .i64 0),.c (.int .i64 0),.c (.int .i64 0),.c (.int .i64 0),.c (.bool false),.c .nils,.c .nils]}
noncomputable def ty49:TI:={agg:=false,size:=1,esz:=1,el:=54,ez:=[.c .nils],e:=11,z:=[.c .nils]}
noncomputable def ty50:TI:={agg:=true,size:=6,fs:=[(0,1),(1,1),(2,1),(3,1),(4,1),(5,1)],fa:=[false,false,false,false,false,false],z:=[.c (.int .i64 0),.c (.bool false),.c .nils,.c .nils,.c .nils,.c (.int .i64 0)]}
noncomputable def ty51:TI:={agg:=true,size:=6,fs:=[(0,1),(1,1),(2,1),(3,1),(4,1),(5,1)],fa:=[false,false,false,false,false,false],z:=[.c (.int .i64 0),.c (.bool false),.c .nils,.c .nils,.c .nils,.c (.int .i64 0)]}
noncomputable def ty53:TI:={agg:=false,size:=1,e:=13,z:=[.c .nilf]}
noncomputable def ty54:TI:={agg:=false,size:=1,esz:=10,el:=76,ez:=[.c (.int .u8 0),.c (.int .i64 0),.c (.int .u8 0),.c (.int .i64 0),.c .nils,.c (.int .u8 0),.c (.int .i64 0),.c .nils,.c .nils,.c .nils],e:=11,z:=[.c .nils]}
noncomputable def ty55:TI:={agg:=true,size:=4,fs:=[(0,1),(1,1),(2,1),(3,1)],fa:=[false,false,false,false],z:=[.c .nils,.c .nils,.c (.int .i64 0),.c (.bool false)]}
noncomputable def ty56:TI:={agg:=true,size:=4,fs:=[(0,1),(1,1),(2,1),(3,1)],fa:=[false,false,false,false],z:=[.c .nils,.c .nils,.c (.int .i64 0),.c (.bool false)]}
noncomputable def ty57:TI:={agg:=false,size:=1,e:=13,z:=[.c .nilf]}
noncomputable def ty58:TI:={agg:=false,size:=1,e:=13,z:=[.c .nilf]}
noncomputable def ty60:TI:={agg:=false,size:=1,e:=13,z:=[.c .nilf]}
noncomputable def ty62:TI:={agg:=false,size:=1,e:=13,z:=[.c .nilf]}
noncomputable def ty63:TI:={agg:=false,size:=1,e:=13,z:=[.c .nilf]}
noncomputable def ty64:TI:={agg:=true,size:=7,fs:=[(0,1),(1,1),(2,1),(3,1),(4,1),(5,1),(6,1)],fa:=[false,false,false,false,false,false,false],ik:=[.u8,.i64,.i64,.i64,.i64,.i64,.u8],z:=[.c (.int .u8 0),.c (.int .i64 0),.c (.int .i64 0),.c (.int .i64 0),.c (.int .i64 0),.c (.int .i64 0),.c (.int .u8 0)]}
noncomputable def ty65:TI:={agg:=true,size:=7,fs:=[(0,1),(1,1),(2,1),(3,1),(4,1),(5,1),(6,1)],fa:=[false,false,false,false,false,false,false],ik:=[.u8,.i64,.i64,.i64,.i64,.i64,.u8],z:=[.c (.int .u8 0),.c (.int .i64 0),.c (.int .i64 0),.c (.int .i64 0),.c (.int .i64 0),.c (.int .i64 0),.c (.int .u8 0)]}
noncomputable def ty67:TI:={agg:=false,size:=1,e:=13,z:=[.c .nilf]}
noncomputable def ty68:TI:={agg:=false,size:=1,e:=13,z:=[.c .nilf]}
noncomputable def ty69:TI:={agg:=false,size:=1,e:=13,z:=[.c .nilf]}
noncomputable def ty71:TI:={agg:=false,size:=1,e:=13,z:=[.c .nilf]}
noncomputable def ty72:TI:={agg:=false,size:=1,esz:=3,el:=74,ez:=[.c (.int .u8 0),.c (.int .i64 0),.c .nils],e:=11,z:=[.c .nils]}
noncomputable def ty73:TI:={agg:=true,size:=3,fs:=[(0,1),(1,1),(2,1)],fa:=[false,false,false],z:=[.c (.int .u8 0),.c (.int .i64 0),.c .nils]}
noncomputable def ty74:TI:={agg:=true,size:=3,fs:=[(0,1),(1,1),(2,1)],fa:=[false,false,false],z:=[.c (.int .u8 0),.c (.int .i64 0),.c .nils]}
noncomputable def ty75:TI:={agg:=true,size:=10,fs:=[(0,1),(1,1),(2,3),(5,3),(8,1),(9,1)],fa:=[false,false,true,true,false,false],z:=[.c (.int .u8 0),.c (.int .i64 0),.c (.int .u8 0),.c (.int .i64 0),.c .nils,.c (.int .u8 0),.c (.int .i64 0),.c .nils,.c .nils,.c .nils]}
noncomputable def ty76:TI:={agg:=true,size:=10,fs:=[(0,1),(1,1),(2,3),(5,3),(8,1),(9,1)],fa:=[false,false,true,true,false,false],z:=[.c (.int .u8 0),.c (.int .i64 0),.c (.int .u8 0),.c (.int .i64 0),.c .nils,.c (.int .u8 0),.c (.int .i64 0),.c .nils,.c .nils,.c .nils]}
noncomputable def ty77:TI:={agg:=true,size:=6,fs:=[(0,5),(5,1)],fa:=[true,false],z:=[.c (.int .i64 0),.c (.int .i64 0),.c (.int .i64 0),.c .nils,.c .nils,.c .nils]}
noncomputable def ty78:TI:={agg:=true,size:=6,fs:=[(0,5),(5,1)],fa:=[true,false],z:=[.c (.int .i64 0),.c (.int .i64 0),.c (.int .i64 0),.c .nils,.c .nils,.c .nils]}
noncomputable def ty79:TI:={agg:=true,size:=9,fs:=[(0,1),(1,1),(2,1),(3,1),(4,1),(5,1),(6,1),(7,1),(8,1)],fa:=[false,false,false,false,false,false,false,false,false],z:=[.c (.str []),.c (.int .i64 0),.c .nils,.c .nils,.c (.bool false),.c .nils,.c (.bool false),.c (.bool false),.c .nils]}
noncomputable def ty80:TI:={agg:=true,size:=9,fs:=[(0,1),(1,1),(2,1),(3,1),(4,1),(5,1),(6,1),(7,1),(8,1)],fa:=[false,false,false,false,false,false,false,false,false],z:=[.c (.str []),.c (.int .i64 0),.c .nils,.c .nils,.c (.bool false),.c .nils,.c (.bool false),.c (.bool false),.c .nils]}
noncomputable def ty82:TI:={agg:=false,size:=1,e:=13,z:=[.c .nilf]}
noncomputable def ty83:TI:={agg:=false,size:=1,e:=10,z:=[.c .nilp]}
noncomputable def ty85:TI:={agg:=false,size:=1,e:=13,z:=[.c .nilf]}
noncomputable def ty87:TI:={agg:=false,size:=1,e:=13,z:=[.c .nilf]}
noncomputable def ty88:TI:={agg:=false,size:=1,e:=13,z:=[.c .nilf]}
noncomputable def ty89:TI:={agg:=false,size:=1,e:=13,z:=[.c .nilf]}
noncomputable def ty90:TI:={agg:=false,size:=1,e:=10,z:=[.c .nilp]}
noncomputable def ty91:TI:={agg:=true,size:=5,fs:=[(0,1),(1,4)],fa:=[false,true],z:=[.c .nilp,.c (.int .i64 0),.c (.int .i64 0),.c (.int .i64 0),.c .nils]}
noncomputable def ty92:TI:={agg:=true,size:=5,fs:=[(0,1),(1,4)],fa:=[false,true],z:=[.c .nilp,.c (.int .i64 0),.c (.int .i64 0),.c (.int .i64 0),.c .nils]}
noncomputable def ty93:TI:={agg:=false,size:=1,e:=13,z:=[.c .nilf]}
noncomputable def ty94:TI:={agg:=false,size:=1,e:=13,z:=[.c .nilf]}
noncomputable def ty95:TI:={agg:=false,size:=1,e:=13,z:=[.c .nilf]}
noncomputable def ty96:TI:={agg:=false,size:=1,e:=13,z:=[.c .nilf]}
noncomputable def ty97:TI:={agg:=false,size:=1,e:=13,z:=[.c .nilf]}
noncomputable def ty98:TI:={agg:=false,size:=1,e:=13,z:=[.c .nilf]}
noncomputable def ty99:TI:={agg:=false,size:=1,e:=13,z:=[.c .nilf]}
noncomputable def ty100:TI:={agg:=false,size:=1,e:=10,z:=[.c .nilp]}
noncomputable def ty101:TI:={agg:=true,size:=2,fs:=[(0,1),(1,1)],fa:=[false,false],ik:=[.i64,.i64],z:=[.c (.int .i64 0),.c (.int .i64 0)]}
noncomputable def ty102:TI:={agg:=true,size:=2,fs:=[(0,1),(1,1)],fa:=[false,false],ik:=[.i64,.i64],z:=[.c (.int .i64 0),.c (.int .i64 0)]}
noncomputable def ty103:TI:={agg:=false,size:=1,esz:=1,el:=26,ez:=[.c .nils],e:=11,z:=[.c .nils]}
noncomputable def ty104:TI:={agg:=false,size:=1,e:=13,z:=[.c .nilf]}
noncomputable def ty105:TI:={agg:=false,size:=1,e:=13,z:=[.c .nilf]}
noncomputable def ty106:TI:={agg:=false,size:=1,e:=13,z:=[.c .nilf]}
noncomputable def ty107:TI:={agg:=false,size:=1,e:=13,z:=[.c .nilf]}
noncomputable def ty108:TI:={agg:=false,size:=1,e:=13,z:=[.c .nilf]}
noncomputable def ty109:TI:={agg:=false,size:=1,e:=13,z:=[.c .nilf]}
noncomputable def ty110:TI:={agg:=false,size:=1,e:=13,z:=[.c .nilf]}
noncomputable def ty111:TI:={agg:=false,size:=1,e:=13,z:=[.c .nilf]}
noncomputable def ty112:TI:={agg:=false,size:=1,e:=13,z:=[.c .nilf]}
noncomputable def ty113:TI:={agg:=false,size:=1,e:=13,z:=[.c .nilf]}
noncomputable def ty114:TI:={agg:=false,size:=1,e:=13,z:=[.c .nilf]}
noncomputable def ty115:TI:={agg:=false,size:=1,e:=13,z:=[.c .nilf]}
noncomputable def ty116:TI:={agg:=false,size:=1,e:=13,z:=[.c .nilf]}
noncomputable def ty117:TI:={agg:=false,size:=1,e:=10,z:=[.c .nilp]}
noncomputable def ty119:TI:={agg:=false,size:=1,e:=13,z:=[.c .nilf]}
noncomputable def ty120:TI:={agg:=false,size:=1,e:=10,z:=[.c .nilp]}
noncomputable def ty121:TI:={agg:=false,size:=1,esz:=1,el:=2,ez:=[.c (.int .i64 0)],e:=11,z:=[.c .nils]}
noncomputable def ty122:TI:={agg:=true,size:=8,fs:=[(0,1),(1,1),(2,6)],fa:=[false,false,true],z:=[.c .nils,.c .nilp,.c (.int .i64 0),.c (.bool false),.c .nils,.c .nils,.c .nils,.c (.int .i64 0)]}
noncomputable def ty123:TI:={agg:=true,size:=8,fs:=[(0,1),(1,1),(2,6)],fa:=[false,false,true],z:=[.c .nils,.c .nilp,.c (.int .i64 0),.c (.bool false),.c .nils,.c .nils,.c .nils,.c (.int .i64 0)]}
noncomputable def ty124:TI:={agg:=true,size:=3,fs:=[(0,1),(1,1),(2,1)],fa:=[false,false,false],ik:=[.u8,.i64,.i64],z:=[.c (.int .u8 0),.c (.int .i64 0),.c (.int .i64 0)]}
noncomputable def ty125:TI:={agg:=true,size:=3,fs:=[(0,1),(1,1),(2,1)],fa:=[false,false,false],ik:=[.u8,.i64,.i64],z:=[.c (.int .u8 0),.c (.int .i64 0),.c (.int .i64 0)]}
noncomputable def ty126:TI:={agg:=false,size:=1,e:=13,z:=[.c .nilf]}
noncomputable def ty127:TI:={agg:=false,size:=1,e:=13,z:=[.c .nilf]}
noncomputable def ty128:TI:={agg:=false,size:=1,e:=13,z:=[.c .nilf]}
noncomputable def ty129:TI:={agg:=false,size:=1,e:=13,z:=[.c .nilf]}
noncomputable def ty130:TI:={agg:=false,size:=1,e:=13,z:=[.c .nilf]}
noncomputable def ty131:TI:={agg:=false,size:=1,e:=10,z:=[.c .nilp]}
noncomputable def ty133:TI:={agg:=false,size:=1,e:=13,z:=[.c .nilf]}
noncomputable def ty134:TI:={agg:=false,size:=1,e:=13,z:=[.c .nilf]}
noncomputable def ty135:TI:={agg:=false,size:=1,e:=10,z:=[.c .nilp]}
noncomputable def ty137:TI:={agg:=false,size:=1,e:=13,z:=[.c .nilf]}
noncomputable def ty138:TI:={agg:=false,size:=1,e:=13,z:=[.c .nilf]}
noncomputable def ty139:TI:={agg:=false,size:=1,e:=2,z:=[.c (.int .u64 0)]}
noncomputable def ty140:TI:={agg:=false,size:=1,e:=10,z:=[.c .nilp]}
noncomputable def ty142:TI:={agg:=false,size:=1,e:=13,z:=[.c .nilf]}
noncomputable def ty143:TI:={agg:=false,size:=1,e:=13,z:=[.c .nilf]}
noncomputable def ty144:TI:={agg:=false,size:=1,e:=13,z:=[.c .nilf]}
noncomputable def ty145:TI:={agg:=false,size:=1,e:=13,z:=[.c .nilf]}
noncomputable def ty146:TI:={agg:=false,size:=1,e:=13,z:=[.c .nilf]}
noncomputable def ty147:TI:={agg:=false,size:=1,e:=13,z:=[.c .nilf]}
noncomputable def ty149:TI:={agg:=false,size:=1,e:=13,z:=[.c .nilf]}
noncomputable def ty150:TI:={agg:=false,size:=1,e:=10,z:=[.c .nilp]}
noncomputable def ty152:TI:={agg:=false,size:=1,e:=13,z:=[.c .nilf]}
noncomputable def ty154:TI:={agg:=false,size:=1,e:=13,z:=[.c .nilf]}
noncomputable def ty155:TI:={agg:=false,size:=1,e:=13,z:=[.c .nilf]}
noncomputable def ty156:TI:={agg:=false,size:=1,e:=13,z:=[.c .nilf]}
noncomputable def ty157:TI:={agg:=false,size:=1,e:=13,z:=[.c .nilf]}
noncomputable def ty158:TI:={agg:=false,size:=1,e:=13,z:=[.c .nilf]}
noncomputable def ty159:TI:={agg:=false,size:=1,e:=13,z:=[.c .nilf]}
noncomputable def ty160:TI:={agg:=false,size:=1,e:=13,z:=[.c .nilf]}
noncomputable def ty161:TI:={agg:=false,size:=1,e:=13,z:=[.c .nilf]}
noncomputable def ty162:TI:={agg:=false,size:=1,e:=13,z:=[.c .nilf]}
noncomputable def ty163:TI:={agg:=false,size:=1,e:=10,z:=[.c .nilp]}
noncomputable def ty164:TI:={agg:=true,size:=20,fs:=[(0,6),(6,4),(10,1),(11,9)],fa:=[true,true,false,true],z:=[.c (.int .i64 0),.c (.int .i64 0),.c (.int .i64 0),.c .nils,.c .nils,.c .nils,.c (.int .i64 0),.c (.int .i64 0),.c (.int .i64 0),.c .nils,.c .nils,.c (.str []),.c (.int .i64 0),.c .nils,.c .nils,.c (.bool false),.c .nils,.c (.bool false),.c (.bool false),.c .nils]}
noncomputable def ty165:TI:={agg:=true,size:=20,fs:=[(0,6),(6,4),(10,1),(11,9)],fa:=[true,true,false,true],z:=[.c (.int .i64 0),.c (.int .i64 0),.c (.int .i64 0),.c .nils,.c .nils,.c .nils,.c (.int .i64 0),.c (.int .i64 0),.c (.int .i64 0),.c .nils,.c .nils,.c (.str []),.c (.int .i64 0),.c .nils,.c .nils,.c (.bool false),.c .nils,.c (.bool false),.c (.bool false),.c .nils]}
noncomputable def ty166:TI:={agg:=true,size:=5,n:=5,esz:=1,z:=[.a 5 (fun _=>.nilf)]}
noncomputable def ty168:TI:={agg:=false,size:=1,e:=13,z:=[.c .nilf]}
noncomputable def ty170:TI:={agg:=false,size:=1,e:=13,z:=[.c .nilf]}
noncomputable def ty171:TI:={agg:=false,size:=1,e:=13,z:=[.c .nilf]}
noncomputable def ty172:TI:={agg:=false,size:=1,e:=10,z:=[.c .nilp]}
noncomputable def ty173:TI:={agg:=false,size:=1,esz:=1,el:=176,ez:=[.c .nilp],e:=11,z:=[.c .nils]}
noncomputable def ty174:TI:={agg:=true,size:=3,fs:=[(0,1),(1,1),(2,1)],fa:=[false,false,false],z:=[.c .nilp,.c .nils,.c (.int .i64 0)]}
noncomputable def ty175:TI:={agg:=true,size:=3,fs:=[(0,1),(1,1),(2,1)],fa:=[false,false,false],z:=[.c .nilp,.c .nils,.c (.int .i64 0)]}
noncomputable def ty176:TI:={agg:=false,size:=1,e:=10,z:=[.c .nilp]}
noncomputable def ty177:TI:={agg:=false,size:=1,e:=13,z:=[.c .nilf]}
noncomputable def ty178:TI:={agg:=false,size:=1,e:=13,z:=[.c .nilf]}
noncomputable def ty180:TI:={agg:=false,size:=1,e:=13,z:=[.c .nilf]}
noncomputable def ty181:TI:={agg:=false,size:=1,e:=13,z:=[.c .nilf]}
noncomputable def ty182:TI:={agg:=false,size:=1,e:=13,z:=[.c .nilf]}
noncomputable def ty183:TI:={agg:=false,size:=1,e:=13,z:=[.c .nilf]}
noncomputable def ty184:TI:={agg:=false,size:=1,e:=13,z:=[.c .nilf]}
noncomputable def ty185:TI:={agg:=false,size:=1,e:=13,z:=[.c .nilf]}
noncomputable def ty186:TI:={agg:=false,size:=1,e:=12,z:=[.c .nilm]}
noncomputable def ty187:TI:={agg:=false,size:=1,e:=13,z:=[.c .nilf]}
noncomputable def ty188:TI:={agg:=false,size:=1,e:=13,z:=[.c .nilf]}
noncomputable def ty189:TI:={agg:=false,size:=1,e:=13,z:=[.c .nilf]}
noncomputable def ty190:TI:={agg:=false,size:=1,e:=13,z:=[.c .nilf]}
noncomputable def ty191:TI:={agg:=false,size:=1,e:=13,z:=[.c .nilf]}
noncomputable def ty192:TI:={agg:=false,size:=1,esz:=1,el:=28,ez:=[.c .nilf],e:=11,z:=[.c .nils]}
noncomputable def ty193:TI:={agg:=false,size:=1,e:=13,z:=[.c .nilf]}
noncomputable def ty194:TI:={agg:=false,size:=1,e:=13,z:=[.c .nilf]}
noncomputable def ty195:TI:={agg:=false,size:=1,e:=13,z:=[.c .nilf]}
noncomputable def ty196:TI:={agg:=false,size:=1,e:=12,z:=[.c .nilm]}
noncomputable def ty197:TI:={agg:=true,size:=0}
noncomputable def ty199:TI:={agg:=false,size:=1,e:=13,z:=[.c .nilf]}
noncomputable def ty200:TI:={agg:=false,size:=1,e:=10,z:=[.c .nilp]}
noncomputable def ty201:TI:={agg:=false,size:=1,e:=13,z:=[.c .nilf]}
noncomputable def ty202:TI:={agg:=true,size:=8,n:=8,esz:=1,z:=[.a 8 (fun _=>.int .i64 0)]}
noncomputable def ty203:TI:={agg:=false,size:=1,esz:=13,el:=209,ez:=[.c .nils,.c (.int .i64 0),.c (.int .i64 0),.c (.bool false),.a 8 (fun _=>.int .i64 0),.c .nils],e:=11,z:=[.c .nils]}
noncomputable def ty204:TI:={agg:=true,size:=13,fs:=[(0,1),(1,1),(2,8),(10,1),(11,1),(12,1)],fa:=[false,false,true,false,false,false],z:=[.c (.int .i64 0),.c .nils,.a 8 (fun _=>.int .i64 0),.c .nilp,.c .nils,.c (.int .i64 0)]}
noncomputable def ty205:TI:={agg:=true,size:=13,fs:=[(0,1),(1,1),(2,8),(10,1),(11,1),(12,1)],fa:=[false,false,true,false,false,false],z:=[.c (.int .i64 0),.c .nils,.a 8 (fun _=>.int .i64 0),.c .nilp,.c .nils,.c (.int .i64 0)]}
noncomputable def ty206:TI:={agg:=false,size:=1,e:=13,z:=[.c .nilf]}
noncomputable def ty207:TI:={agg:=false,size:=1,e:=13,z:=[.c .nilf]}
noncomputable def ty208:TI:={agg:=true,size:=13,fs:=[(0,1),(1,1),(2,1),(3,1),(4,8),(12,1)],fa:=[false,false,false,false,true,false],z:=[.c .nils,.c (.int .i64 0),.c (.int .i64 0),.c (.bool false),.a 8 (fun _=>.int .i64 0),.c .nils]}
noncomputable def ty209:TI:={agg:=true,size:=13,fs:=[(0,1),(1,1),(2,1),(3,1),(4,8),(12,1)],fa:=[false,false,false,false,true,false],z:=[.c .nils,.c (.int .i64 0),.c (.int .i64 0),.c (.bool false),.a 8 (fun _=>.int .i64 0),.c .nils]}
noncomputable def ty211:TI:={agg:=false,size:=1,e:=13,z:=[.c .nilf]}
noncomputable def ty212:TI:={agg:=false,size:=1,e:=13,z:=[.c .nilf]}
noncomputable def ty213:TI:={agg:=false,size:=1,e:=13,z:=[.c .nilf]}
noncomputable def ty215:TI:={agg:=false,size:=1,e:=13,z:=[.c .nilf]}
noncomputable def ty216:TI:={agg:=false,size:=1,e:=13,z:=[.c .nilf]}
noncomputable def ty217:TI:={agg:=false,size:=1,e:=13,z:=[.c .nilf]}
noncomputable def ty218:TI:={agg:=true,size:=8,n:=8,esz:=1,z:=[.a 8 (fun _=>.nilf)]}
noncomputable def ty219:TI:={agg:=false,size:=1,e:=13,z:=[.c .nilf]}
noncomputable def ty220:TI:={agg:=false,size:=1,e:=13,z:=[.c .nilf]}
noncomputable def ty221:TI:={agg:=false,size:=1,esz:=13,el:=234,ez:=[.c (.int .i64 0),.c (.int .i64 0),.c (.int .i64 0),.c (.int .i64 0),.c (.int .i64 0),.c (.int .i64 0),.c (.int .u32 0),.c (.int .u32 0),.c (.int .u32 0),.c (.int .u32 0),.c (.int .i64 0),.c (.int .i64 0),.c (.bool false)],e:=11,z:=[.c .nils]}
noncomputable def ty222:TI:={agg:=false,size:=1,esz:=2,el:=225,ez:=[.c (.int .i64 0),.c (.int .i64 0)],e:=11,z:=[.c .nils]}
noncomputable def ty223:TI:={agg:=false,size:=1,e:=13,z:=[.c .nilf]}
noncomputable def ty224:TI:={agg:=true,size:=2,fs:=[(0,1),(1,1)],fa:=[false,false],ik:=[.i64,.i64],z:=[.c (.int .i64 0),.c (.int .i64 0)]}
noncomputable def ty225:TI:={agg:=true,size:=2,fs:=[(0,1),(1,1)],fa:=[false,false],ik:=[.i64,.i64],z:=[.c (.int .i64 0),.c (.int .i64 0)]}
noncomputable def ty226:TI:={agg:=true,size:=5,fs:=[(0,1),(1,1),(2,1),(3,1),(4,1)],fa:=[false,false,false,false,false],z:=[.c (.int .i64 0),.c (.int .i64 0),.c (.int .i64 0),.c .nils,.c .nils]}
noncomputable def ty227:TI:={agg:=true,size:=5,fs:=[(0,1),(1,1),(2,1),(3,1),(4,1)],fa:=[false,false,false,false,false],z:=[.c (.int .i64 0),.c (.int .i64 0),.c (.int .i64 0),.c .nils,.c .nils]}
noncomputable def ty228:TI:={agg:=false,size:=1,e:=13,z:=[.c .nilf]}
noncomputable def ty229:TI:={agg:=false,size:=1,e:=13,z:=[.c .nilf]}
noncomputable def ty230:TI:={agg:=true,size:=14,n:=14,esz:=1,z:=[.a 14 (fun _=>.nilf)]}
noncomputable def ty231:TI:={agg:=false,size:=1,e:=10,z:=[.c .nilp]}
noncomputable def ty232:TI:={agg:=false,size:=1,e:=4,z:=[.c (.int .u32 0)]}
noncomputable def ty233:TI:={agg:=true,size:=13,fs:=[(0,1),(1,1),(2,1),(3,1),(4,1),(5,1),(6,1),(7,1),(8,1),(9,1),(10,1),(11,1),(12,1)],fa:=[false,false,false,false,false,false,false,false,false,false,false,false,false],z:=[.c (.int .i64 0),.c (.int .i64 0),.c (.int .i64 0),.c (.int .i64 0),.c (.int .i64 0),.c (.int .i64 0),.c (.int .u32 0),.c (.int .u32 0),.c (.int .u32 0),.c (.int .u32 0),.c (.int .i64 0),.c (.int .i64 0),.c (.bool false)]}
noncomputable def ty234:TI:={agg:=true,size:=13,fs:=[(0,1),(1,1),(2,1),(3,1),(4,1),(5,1),(6,1),(7,1),(8,1),(9,1),(10,1),(11,1),(12,1)],fa:=[false,false,false,false,false,false,false,false,false,false,false,false,false],z:=[.c (.int .i64 0),.c (.int .i64 0),.c (.int .i64 0),.c (.int .i64 0),.c (.int .i64 0),.c (.int .i64 0),.c (.int .u32 0),.c (.int .u32 0),.c (.int .u32 0),.c (.int .u32 0),.c (.int .i64 0),.c (.int .i64 0),.c (.bool false)]}
noncomputable def ty235:TI:={agg:=false,size:=1,esz:=1,el:=5,ez:=[.c (.int .u8 0)],e:=11,z:=[.c .nils]}
noncomputable def ty236:TI:={agg:=true,size:=2,fs:=[(0,1),(1,1)],fa:=[false,false],z:=[.c (.int .i64 0),.c .nils]}
noncomputable def ty237:TI:={agg:=true,size:=2,fs:=[(0,1),(1,1)],fa:=[false,false],z:=[.c (.int .i64 0),.c .nils]}
noncomputable def ty238:TI:={agg:=false,size:=1,e:=13,z:=[.c .nilf]}
noncomputable def ty239:TI:={agg:=false,size:=1,e:=13,z:=[.c .nilf]}
noncomputable def ty240:TI:={agg:=true,size:=6,n:=6,esz:=1,z:=[.a 6 (fun _=>.int .i64 0)]}
noncomputable def ty241:TI:={agg:=true,size:=32,n:=32,esz:=1,z:=[.a 32 (fun _=>.int .i64 0)]}
noncomputable def ty242:TI:={agg:=true,size:=49,fs:=[(0,1),(1,1),(2,1),(3,1),(4,1),(5,6),(11,6),(17,32)],fa:=[false,false,false,false,false,true,true,true],z:=[.c (.int .i64 0),.c (.int .i64 0),.c (.int .i64 0),.c (.int .i64 0),.c (.int .i64 0),.a 6 (fun _=>.int .i64 0),.a 6 (fun _=>.int .i64 0),.a 32 (fun _=>.int .i64 0)]}
noncomputable def ty243:TI:={agg:=true,size:=49,fs:=[(0,1),(1,1),(2,1),(3,1),(4,1),(5,6),(11,6),(17,32)],fa:=[false,false,false,false,false,true,true,true],z:=[.c (.int .i64 0),.c (.int .i64 0),.c (.int .i64 0),.c (.int .i64 0),.c (.int .i64 0),.a 6 (fun _=>.int .i64 0),.a 6 (fun _=>.int .i64 0),.a 32 (fun _=>.int .i64 0)]}
noncomputable def ty244:TI:={agg:=false,size:=1,e:=13,z:=[.c .nilf]}
noncomputable def ty245:TI:={agg:=false,size:=1,e:=10,z:=[.c .nilp]}
noncomputable def ty246:TI:={agg:=false,size:=1,e:=13,z:=[.c .nilf]}
noncomputable def ty247:TI:={agg:=true,size:=11,fs:=[(0,1),(1,7),(8,1),(9,1),(10,1)],fa:=[false,true,false,false,false],z:=[.c .nilp,.c (.int .u8 0),.c (.int .i64 0),.c (.int .i64 0),.c (.int .i64 0),.c (.int .i64 0),.c (.int .i64 0),.c (.int .u8 0),.c .nilf,.c .nilf,.c .nilf]}
noncomputable def ty248:TI:={agg:=true,size:=11,fs:=[(0,1),(1,7),(8,1),(9,1),(10,1)],fa:=[false,true,false,false,false],z:=[.c .nilp,.c (.int .u8 0),.c (.int .i64 0),.c (.int .i64 0),.c (.int .i64 0),.c (.int .i64 0),.c (.int .i64 0),.c (.int .u8 0),.c .nilf,.c .nilf,.c .nilf]}
noncomputable def ty249:TI:={agg:=false,size:=1,e:=13,z:=[.c .nilf]}
noncomputable def ty250:TI:={agg:=false,size:=1,e:=13,z:=[.c .nilf]}
noncomputable def ty251:TI:={agg:=false,size:=1,e:=13,z:=[.c .nilf]}
noncomputable def ty252:TI:={agg:=false,size:=1,e:=13,z:=[.c .nilf]}
noncomputable def ty253:TI:={agg:=false,size:=1,e:=13,z:=[.c .nilf]}
noncomputable def ty254:TI:={agg:=false,size:=1,esz:=1,el:=9,ez:=[.c (.str [])],e:=11,z:=[.c .nils]}
noncomputable def ty255:TI:={agg:=false,size:=1,e:=10,z:=[.c .nilp]}
noncomputable def ty256:TI:={agg:=true,size:=7,fs:=[(0,7)],fa:=[true],z:=[.c (.int .u8 0),.c (.int .i64 0),.c (.int .i64 0),.c (.int .i64 0),.c (.int .i64 0),.c (.int .i64 0),.c (.int .u8 0)]}
noncomputable def ty257:TI:={agg:=true,size:=7,fs:=[(0,7)],fa:=[true],z:=[.c (.int .u8 0),.c (.int .i64 0),.c (.int .i64 0),.c (.int .i64 0),.c (.int .i64 0),.c (.int .i64 0),.c (.int .u8 0)]}
noncomputable def ty258:TI:={agg:=false,size:=1,esz:=1,el:=262,ez:=[.c .nilf],e:=11,z:=[.c .nils]}
noncomputable def ty259:TI:={agg:=true,size:=2,fs:=[(0,1),(1,1)],fa:=[false,false],z:=[.c (.str []),.c .nils]}
noncomputable def ty260:TI:={agg:=true,size:=28,n:=14,esz:=2,z:=[.c (.str []),.c .nils,.c (.str []),.c .nils,.c (.str []),.c .nils,.c (.str []),.c .nils,.c (.str []),.c .nils,.c (.str []),.c .nils,.c (.str []),.c .nils,.c (.str []),.c .nils,.c (.str []),.c .nils,.c (.str []),.c .nils,.c (.str []),.c .nils,.c (.str []),.c .nils,.c (.str []),.c .nils,.c (.str []),.c .nils]}
noncomputable def ty261:TI:={agg:=false,size:=1,e:=13,z:=[.c .nilf]}
noncomputable def ty262:TI:={agg:=false,size:=1,e:=13,z:=[.c .nilf]}
noncomputable def ty264:TI:={agg:=false,size:=1,e:=13,z:=[.c .nilf]}
noncomputable def ty265:TI:={agg:=false,size:=1,e:=13,z:=[.c .nilf]}
noncomputable def ty266:TI:={agg:=true,size:=3,fs:=[(0,1),(1,1),(2,1)],fa:=[false,false,false],z:=[.c (.str []),.c (.int .i64 0),.c (.int .i64 0)]}
noncomputable def ty267:TI:={agg:=true,size:=3,fs:=[(0,1),(1,1),(2,1)],fa:=[false,false,false],z:=[.c (.str []),.c (.int .i64 0),.c (.int .i64 0)]}
noncomputable def ty268:TI:={agg:=false,size:=1,e:=13,z:=[.c .nilf]}
noncomputable def ty270:TI:={agg:=false,size:=1,e:=13,z:=[.c .nilf]}
noncomputable def ty271:TI:={agg:=false,size:=1,e:=13,z:=[.c .nilf]}
noncomputable def ty272:TI:={agg:=false,size:=1,e:=13,z:=[.c .nilf]}
noncomputable def ty273:TI:={agg:=true,size:=17,fs:=[(0,1),(1,1),(2,7),(9,7),(16,1)],fa:=[false,false,true,true,false],z:=[.c (.bool false),.c (.int .i64 0),.c (.int .u8 0),.c (.int .i64 0),.c (.int .i64 0),.c (.int .i64 0),.c (.int .i64 0),.c (.int .i64 0),.c (.int .u8 0),.c (.int .u8 0),.c (.int .i64 0),.c (.int .i64 0),.c (.int .i64 0),.c (.int .i64 0),.c (.int .i64 0),.c (.int .u8 0),.c (.bool false)]}
noncomputable def ty274:TI:={agg:=true,size:=17,fs:=[(0,1),(1,1),(2,7),(9,7),(16,1)],fa:=[false,false,true,true,false],z:=[.c (.bool false),.c (.int .i64 0),.c (.int .u8 0),.c (.int .i64 0),.c (.int .i64 0),.c (.int .i64 0),.c (.int .i64 0),.c (.int .i64 0),.c (.int .u8 0),.c (.int .u8 0),.c (.int .i64 0),.c (.int .i64 0),.c (.int .i64 0),.c (.int .i64 0),.c (.int .i64 0),.c (.int .u8 0),.c (.bool false)]}
noncomputable def ty276:TI:={agg:=false,size:=1,e:=13,z:=[.c .nilf]}
noncomputable def ty278:TI:={agg:=false,size:=1,e:=13,z:=[.c .nilf]}
noncomputable def ty279:TI:={agg:=false,size:=1,e:=13,z:=[.c .nilf]}
noncomputable def ty280:TI:={agg:=false,size:=1,esz:=3,el:=284,ez:=[.c (.int .i64 0),.c (.int .i64 0),.c (.bool false)],e:=11,z:=[.c .nils]}
noncomputable def ty282:TI:={agg:=false,size:=1,e:=13,z:=[.c .nilf]}
noncomputable def ty283:TI:={agg:=true,size:=3,fs:=[(0,1),(1,1),(2,1)],fa:=[false,false,false],z:=[.c (.int .i64 0),.c (.int .i64 0),.c (.bool false)]}
noncomputable def ty284:TI:={agg:=true,size:=3,fs:=[(0,1),(1,1),(2,1)],fa:=[false,false,false],z:=[.c (.int .i64 0),.c (.int .i64 0),.c (.bool false)]}
noncomputable def ty286:TI:={agg:=false,size:=1,e:=13,z:=[.c .nilf]}
noncomputable def ty288:TI:={agg:=false,size:=1,e:=13,z:=[.c .nilf]}
noncomputable def ty290:TI:={agg:=false,size:=1,e:=13,z:=[.c .nilf]}
noncomputable def ty291:TI:={agg:=false,size:=1,e:=10,z:=[.c .nilp]}
noncomputable def ty292:TI:={agg:=false,size:=1,z:=[.c .nili]}
noncomputable def ty293:TI:={agg:=false,size:=1,z:=[.c .nili]}
noncomputable def ty294:TI:={agg:=true,size:=11,fs:=[(0,1),(1,1),(2,1),(3,1),(4,1),(5,1),(6,1),(7,4)],fa:=[false,false,false,false,false,false,false,true],z:=[.c (.int .i64 0),.c (.int .i64 0),.c (.int .i64 0),.c (.int .i64 0),.c .nils,.c .nilp,.c .nili,.c .nils,.c .nils,.c (.int .i64 0),.c (.bool false)]}
noncomputable def ty295:TI:={agg:=true,size:=11,fs:=[(0,1),(1,1),(2,1),(3,1),(4,1),(5,1),(6,1),(7,4)],fa:=[false,false,false,false,false,false,false,true],z:=[.c (.int .i64 0),.c (.int .i64 0),.c (.int .i64 0),.c (.int .i64 0),.c .nils,.c .nilp,.c .nili,.c .nils,.c .nils,.c (.int .i64 0),.c (.bool false)]}
noncomputable def ty296:TI:={agg:=false,size:=1,e:=13,z:=[.c .nilf]}
noncomputable def ty297:TI:={agg:=false,size:=1,esz:=2,el:=382,ez:=[.c (.int .i64 0),.c (.int .i64 0)],e:=11,z:=[.c .nils]}
noncomputable def ty298:TI:={agg:=true,size:=3,fs:=[(0,1),(1,1),(2,1)],fa:=[false,false,false],z:=[.c .nils,.c (.int .i64 0),.c (.int .i64 0)]}
noncomputable def ty299:TI:={agg:=true,size:=3,fs:=[(0,1),(1,1),(2,1)],fa:=[false,false,false],z:=[.c .nils,.c (.int .i64 0),.c (.int .i64 0)]}
noncomputable def ty300:TI:={agg:=true,size:=4,fs:=[(0,3),(3,1)],fa:=[true,false],z:=[.c .nils,.c (.int .i64 0),.c (.int .i64 0),.c .nils]}
noncomputable def ty301:TI:={agg:=true,size:=4,fs:=[(0,3),(3,1)],fa:=[true,false],z:=[.c .nils,.c (.int .i64 0),.c (.int .i64 0),.c .nils]}
noncomputable def ty302:TI:={agg:=false,size:=1,e:=10,z:=[.c .nilp]}
noncomputable def ty304:TI:={agg:=false,size:=1,e:=13,z:=[.c .nilf]}
noncomputable def ty305:TI:={agg:=false,size:=1,e:=13,z:=[.c .nilf]}
noncomputable def ty306:TI:={agg:=true,size:=6,fs:=[(0,1),(1,1),(2,1),(3,1),(4,1),(5,1)],fa:=[false,false,false,false,false,false],z:=[.c (.bool false),.c (.bool false),.c (.bool false),.c (.bool false),.c (.bool false),.c (.bool false)]}
noncomputable def ty307:TI:={agg:=true,size:=6,fs:=[(0,1),(1,1),(2,1),(3,1),(4,1),(5,1)],fa:=[false,false,false,false,false,false],z:=[.c (.bool false),.c (.bool false),.c (.bool false),.c (.bool false),.c (.bool false),.c (.bool false)]}
noncomputable def ty308:TI:={agg:=false,size:=1,e:=13,z:=[.c .nilf]}
noncomputable def ty309:TI:={agg:=false,size:=1,e:=13,z:=[.c .nilf]}
noncomputable def ty310:TI:={agg:=false,size:=1,e:=13,z:=[.c .nilf]}
noncomputable def ty311:TI:={agg:=false,size:=1,e:=13,z:=[.c .nilf]}
noncomputable def ty312:TI:={agg:=false,size:=1,e:=13,z:=[.c .nilf]}
noncomputable def ty313:TI:={agg:=false,size:=1,e:=13,z:=[.c .nilf]}
noncomputable def ty314:TI:={agg:=false,size:=1,e:=13,z:=[.c .nilf]}
noncomputable def ty315:TI:={agg:=false,size:=1,e:=13,z:=[.c .nilf]}
noncomputable def ty316:TI:={agg:=false,size:=1,e:=13,z:=[.c .nilf]}
noncomputable def ty317:TI:={agg:=false,size:=1,e:=2,z:=[.c (.int .u64 0)]}
noncomputable def ty318:TI:={agg:=false,size:=1,e:=13,z:=[.c .nilf]}
noncomputable def ty319:TI:={agg:=false,size:=1,e:=13,z:=[.c .nilf]}
noncomputable def ty320:TI:={agg:=false,size:=1,e:=12,z:=[.c .nilm]}
noncomputable def ty321:TI:={agg:=false,size:=1,e:=12,z:=[.c .nilm]}
noncomputable def ty322:TI:={agg:=false,size:=1,esz:=1,el:=321,ez:=[.c .nilm],e:=11,z:=[.c .nils]}
noncomputable def ty323:TI:={agg:=true,size:=1,fs:=[(0,1)],fa:=[false],z:=[.c .nils]}
noncomputable def ty324:TI:={agg:=true,size:=1,fs:=[(0,1)],fa:=[false],z:=[.c .nils]}
noncomputable def ty325:TI:={agg:=false,size:=1,e:=13,z:=[.c .nilf]}
noncomputable def ty327:TI:={agg:=false,size:=1,e:=13,z:=[.c .nilf]}
noncomputable def ty328:TI:={agg:=false,size:=1,e:=13,z:=[.c .nilf]}
noncomputable def ty329:TI:={agg:=false,size:=1,e:=13,z:=[.c .nilf]}
noncomputable def ty330:TI:={agg:=false,size:=1,e:=13,z:=[.c .nilf]}
noncomputable def ty331:TI:={agg:=false,size:=1,e:=13,z:=[.c .nilf]}
noncomputable def ty332:TI:={agg:=false,size:=1,e:=13,z:=[.c .nilf]}
noncomputable def ty333:TI:={agg:=false,size:=1,e:=13,z:=[.c .nilf]}
noncomputable def ty334:TI:={agg:=false,size:=1,e:=13,z:=[.c .nilf]}
noncomputable def ty335:TI:={agg:=false,size:=1,e:=13,z:=[.c .nilf]}
noncomputable def ty336:TI:={agg:=false,size:=1,e:=13,z:=[.c .nilf]}
noncomputable def ty337:TI:={agg:=false,size:=1,e:=10,z:=[.c .nilp]}
noncomputable def ty338:TI:={agg:=false,size:=1,e:=13,z:=[.c .nilf]}
noncomputable def ty339:TI:={agg:=false,size:=1,e:=13,z:=[.c .nilf]}
noncomputable def ty340:TI:={agg:=false,size:=1,e:=13,z:=[.c .nilf]}
noncomputable def ty342:TI:={agg:=false,size:=1,e:=13,z:=[.c .nilf]}
noncomputable def ty343:TI:={agg:=false,size:=1,e:=13,z:=[.c .nilf]}
noncomputable def ty344:TI:={agg:=false,size:=1,e:=13,z:=[.c .nilf]}
noncomputable def ty345:TI:={agg:=false,size:=1,e:=13,z:=[.c .nilf]}
noncomputable def ty346:TI:={agg:=false,size:=1,e:=13,z:=[.c .nilf]}
noncomputable def ty347:TI:={agg:=false,size:=1,e:=13,z:=[.c .nilf]}
noncomputable def ty348:TI:={agg:=true,size:=10,n:=10,esz:=1,z:=[.a 10 (fun _=>.int .u8 0)]}
noncomputable def ty349:TI:={agg:=false,size:=1,e:=13,z:=[.c .nilf]}
noncomputable def ty350:TI:={agg:=true,size:=14,n:=14,esz:=1,z:=[.a 14 (fun _=>.nilf)]}
noncomputable def ty351:TI:={agg:=false,size:=1,e:=10,z:=[.c .nilp]}
noncomputable def ty352:TI:={agg:=true,size:=2,fs:=[(0,1),(1,1)],fa:=[false,false],z:=[.c .nilp,.c .nils]}
noncomputable def ty353:TI:={agg:=true,size:=2,fs:=[(0,1),(1,1)],fa:=[false,false],z:=[.c .nilp,.c .nils]}
noncomputable def ty354:TI:={agg:=false,size:=1,z:=[.c .nili]}
noncomputable def ty355:TI:={agg:=false,size:=1,z:=[.c .nili]}
noncomputable def ty357:TI:={agg:=false,size:=1,e:=13,z:=[.c .nilf]}
noncomputable def ty358:TI:={agg:=false,size:=1,e:=13,z:=[.c .nilf]}
noncomputable def ty360:TI:={agg:=false,size:=1,e:=10,z:=[.c .nilp]}
noncomputable def ty362:TI:={agg:=false,size:=1,e:=13,z:=[.c .nilf]}
noncomputable def ty363:TI:={agg:=false,size:=1,e:=13,z:=[.c .nilf]}
noncomputable def ty364:TI:={agg:=false,size:=1,e:=13,z:=[.c .nilf]}
noncomputable def ty365:TI:={agg:=false,size:=1,e:=13,z:=[.c .nilf]}
noncomputable def ty367:TI:={agg:=false,size:=1,e:=13,z:=[.c .nilf]}
noncomputable def ty369:TI:={agg:=false,size:=1,e:=13,z:=[.c .nilf]}
noncomputable def ty370:TI:={agg:=false,size:=1,e:=13,z:=[.c .nilf]}
noncomputable def ty371:TI:={agg:=false,size:=1,e:=13,z:=[.c .nilf]}
noncomputable def ty372:TI:={agg:=false,size:=1,e:=13,z:=[.c .nilf]}
noncomputable def ty373:TI:={agg:=false,size:=1,e:=10,z:=[.c .nilp]}
noncomputable def ty374:TI:={agg:=true,size:=9,fs:=[(0,5),(5,1),(6,1),(7,1),(8,1)],fa:=[true,false,false,false,false],z:=[.c (.int .i64 0),.c (.int .i64 0),.c (.int .i64 0),.c .nils,.c .nils,.c .nils,.c .nils,.c .nils,.c .nils]}
noncomputable def ty375:TI:={agg:=true,size:=9,fs:=[(0,5),(5,1),(6,1),(7,1),(8,1)],fa:=[true,false,false,false,false],z:=[.c (.int .i64 0),.c (.int .i64 0),.c (.int .i64 0),.c .nils,.c .nils,.c .nils,.c .nils,.c .nils,.c .nils]}
noncomputable def ty376:TI:={agg:=true,size:=2,n:=2,esz:=1,z:=[.a 2 (fun _=>.nilf)]}
noncomputable def ty378:TI:={agg:=false,size:=1,e:=13,z:=[.c .nilf]}
noncomputable def ty379:TI:={agg:=false,size:=1,e:=13,z:=[.c .nilf]}
noncomputable def ty380:TI:={agg:=false,size:=1,e:=13,z:=[.c .nilf]}
noncomputable def ty381:TI:={agg:=true,size:=2,fs:=[(0,1),(1,1)],fa:=[false,false],ik:=[.i64,.i64],z:=[.c (.int .i64 0),.c (.int .i64 0)]}
noncomputable def ty382:TI:={agg:=true,size:=2,fs:=[(0,1),(1,1)],fa:=[false,false],ik:=[.i64,.i64],z:=[.c (.int .i64 0),.c (.int .i64 0)]}
noncomputable def ty383:TI:={agg:=false,size:=1,e:=13,z:=[.c .nilf]}
noncomputable def ty384:TI:={agg:=false,size:=1,e:=13,z:=[.c .nilf]}
noncomputable def ty385:TI:={agg:=false,size:=1,e:=13,z:=[.c .nilf]}
noncomputable def ty386:TI:={agg:=false,size:=1,e:=10,z:=[.c .nilp]}
noncomputable def ty387:TI:={agg:=true,size:=9,fs:=[(0,1),(1,1),(2,1),(3,1),(4,1),(5,1),(6,1),(7,1),(8,1)],fa:=[false,false,false,false,false,false,false,false,false],z:=[.c (.int .i64 0),.c (.int .u8 0),.c .nilp,.c .nils,.c .nils,.c (.int .i64 0),.c (.int .i64 0),.c (.bool false),.c (.bool false)]}
noncomputable def ty388:TI:={agg:=true,size:=9,fs:=[(0,1),(1,1),(2,1),(3,1),(4,1),(5,1),(6,1),(7,1),(8,1)],fa:=[false,false,false,false,false,false,false,false,false],z:=[.c (.int .i64 0),.c (.int .u8 0),.c .nilp,.c .nils,.c .nils,.c (.int .i64 0),.c (.int .i64 0),.c (.bool false),.c (.bool false)]}
noncomputable def ty389:TI:={agg:=false,size:=1,e:=13,z:=[.c .nilf]}
noncomputable def ty390:TI:={agg:=true,size:=54,n:=9,esz:=6,z:=[.c (.bool false),.c (.bool false),.c (.bool false),.c (.bool false),.c (.bool false),.c (.bool false),.c (.bool false),.c (.bool false),.c (.bool false),.c (.bool false),.c (.bool false),.c (.bool false),.c (.bool false),.c (.bool false),.c (.bool false),.c (.bool false),.c (.bool false),.c (.bool false),.c (.bool false),.c (.bool false),.c (.bool false),.c (.bool false),.c (.bool false),.c (.bool false),.c (.bool false),.c (.bool false),.c (.bool false),.c (.bool false),.c (.bool false),.c (.bool false),.c (.bool false),.c (.bool false),.c (.bool false),.c (.bool false),.c (.bool false),.c (.bool false),.c (.bool false),.c (.bool false),.c (.bool false),.c (.bool false),.c (.bool false),.c (.bool false),.c (.bool false),.c (.bool false),.c (.bool false),.c (.bool false),.c (.bool false),.c (.bool false),.c (.bool false),.c (.bool false),.c (.bool false),.c (.bool false),.c (.bool false),.c (.bool false)]}
noncomputable def ty391:TI:={agg:=false,size:=1,e:=13,z:=[.c .nilf]}
noncomputable def ty392:TI:={agg:=false,size:=1,e:=1,z:=[.c (.int .i64 0)]}
noncomputable def ty394:TI:={agg:=false,size:=1,e:=13,z:=[.c .nilf]}
noncomputable def ty395:TI:={agg:=false,size:=1,e:=13,z:=[.c .nilf]}
noncomputable def ty396:TI:={agg:=false,size:=1,e:=13,z:=[.c .nilf]}
noncomputable def ty397:TI:={agg:=false,size:=1,e:=13,z:=[.c .nilf]}
noncomputable def ty398:TI:={agg:=false,size:=1,e:=13,z:=[.c .nilf]}
noncomputable def ty399:TI:={agg:=false,size:=1,e:=13,z:=[.c .nilf]}
noncomputable def ty400:TI:={agg:=false,size:=1,e:=13,z:=[.c .nilf]}
noncomputable def ty401:TI:={agg:=false,size:=1,e:=13,z:=[.c .nilf]}
noncomputable def ty403:TI:={agg:=false,size:=1,e:=13,z:=[.c .nilf]}
noncomputable def ty404:TI:={agg:=false,size:=1,e:=13,z:=[.c .nilf]}
noncomputable def ty406:TI:={agg:=false,size:=1,e:=13,z:=[.c .nilf]}
noncomputable def ty408:TI:={agg:=false,size:=1,e:=13,z:=[.c .nilf]}
noncomputable def ty409:TI:={agg:=false,size:=1,e:=10,z:=[.c .nilp]}
noncomputable def ty410:TI:={agg:=false,size:=1,e:=13,z:=[.c .nilf]}
noncomputable def ty411:TI:={agg:=true,size:=15,fs:=[(0,1),(1,4),(5,1),(6,1),(7,7),(14,1)],fa:=[false,true,false,false,true,false],z:=[.c .nilp,.c (.int .i64 0),.c (.int .i64 0),.c (.int .i64 0),.c .nils,.c (.int .i64 0),.c (.bool false),.c (.int .u8 0),.c (.int .i64 0),.c (.int .i64 0),.c (.int .i64 0),.c (.int .i64 0),.c (.int .i64 0),.c (.int .u8 0),.c (.bool false)]}
noncomputable def ty412:TI:={agg:=true,size:=15,fs:=[(0,1),(1,4),(5,1),(6,1),(7,7),(14,1)],fa:=[false,true,false,false,true,false],z:=[.c .nilp,.c (.int .i64 0),.c (.int .i64 0),.c (.int .i64 0),.c .nils,.c (.int .i64 0),.c (.bool false),.c (.int .u8 0),.c (.int .i64 0),.c (.int .i64 0),.c (.int .i64 0),.c (.int .i64 0),.c (.int .i64 0),.c (.int .u8 0),.c (.bool false)]}
noncomputable def ty413:TI:={agg:=false,size:=1,e:=13,z:=[.c .nilf]}
noncomputable def ty415:TI:={agg:=false,size:=1,e:=13,z:=[.c .nilf]}
noncomputable def ty416:TI:={agg:=false,size:=1,e:=13,z:=[.c .nilf]}
noncomputable def ty417:TI:={agg:=false,size:=1,e:=13,z:=[.c .nilf]}
noncomputable def ty418:TI:={agg:=false,size:=1,e:=13,z:=[.c .nilf]}
noncomputable def ty419:TI:={agg:=false,size:=1,esz:=2,el:=424,ez:=[.c (.int .i64 0),.c (.int .i64 0)],e:=11,z:=[.c .nils]}
noncomputable def ty420:TI:={agg:=false,size:=1,e:=13,z:=[.c .nilf]}
noncomputable def ty422:TI:={agg:=false,size:=1,e:=13,z:=[.c .nilf]}
noncomputable def ty423:TI:={agg:=true,size:=2,fs:=[(0,1),(1,1)],fa:=[false,false],ik:=[.i64,.i64],z:=[.c (.int .i64 0),.c (.int .i64 0)]}
noncomputable def ty424:TI:={agg:=true,size:=2,fs:=[(0,1),(1,1)],fa:=[false,false],ik:=[.i64,.i64],z:=[.c (.int .i64 0),.c (.int .i64 0)]}
noncomputable def ty425:TI:={agg:=true,size:=3,n:=3,esz:=1,z:=[.a 3 (fun _=>.int .i64 0)]}
noncomputable def ty426:TI:={agg:=false,size:=1,e:=13,z:=[.c .nilf]}
noncomputable def ty427:TI:={agg:=false,size:=1,e:=13,z:=[.c .nilf]}
noncomputable def ty428:TI:={agg:=false,size:=1,e:=12,z:=[.c .nilm]}
noncomputable def ty429:TI:={agg:=false,size:=1,e:=13,z:=[.c .nilf]}
noncomputable def ty430:TI:={agg:=false,size:=1,e:=13,z:=[.c .nilf]}
noncomputable def ty432:TI:={agg:=false,size:=1,e:=13,z:=[.c .nilf]}
noncomputable def ty433:TI:={agg:=false,size:=1,e:=10,z:=[.c .nilp]}
noncomputable def ty435:TI:={agg:=true,size:=8,fs:=[(0,1),(1,1),(2,1),(3,1),(4,1),(5,1),(6,1),(7,1)],fa:=[false,false,false,false,false,false,false,false],z:=[.c (.int .i64 0),.c (.int .i64 0),.c (.int .i64 0),.c (.int .i64 0),.c (.int .u8 0),.c .nilp,.c .nilp,.c (.int .i64 0)]}
noncomputable def ty436:TI:={agg:=true,size:=8,fs:=[(0,1),(1,1),(2,1),(3,1),(4,1),(5,1),(6,1),(7,1)],fa:=[false,false,false,false,false,false,false,false],z:=[.c (.int .i64 0),.c (.int .i64 0),.c (.int .i64 0),.c (.int .i64 0),.c (.int .u8 0),.c .nilp,.c .nilp,.c (.int .i64 0)]}
noncomputable def ty437:TI:={agg:=false,size:=1,e:=13,z:=[.c .nilf]}
noncomputable def ty438:TI:={agg:=false,size:=1,e:=13,z:=[.c .nilf]}
noncomputable def ty439:TI:={agg:=true,size:=5,n:=5,esz:=1,z:=[.a 5 (fun _=>.nilf)]}
noncomputable def ty440:TI:={agg:=false,size:=1,e:=13,z:=[.c .nilf]}
noncomputable def ty441:TI:={agg:=false,size:=1,e:=13,z:=[.c .nilf]}
noncomputable def ty442:TI:={agg:=false,size:=1,e:=13,z:=[.c .nilf]}
noncomputable def ty443:TI:={agg:=false,size:=1,e:=13,z:=[.c .nilf]}
noncomputable def ty444:TI:={agg:=false,size:=1,e:=2,z:=[.c (.int .u64 0)]}
noncomputable def ty445:TI:={agg:=false,size:=1,e:=13,z:=[.c .nilf]}
noncomputable def ty446:TI:={agg:=false,size:=1,e:=13,z:=[.c .nilf]}
noncomputable def ty447:TI:={agg:=false,size:=1,e:=13,z:=[.c .nilf]}
noncomputable def ty448:TI:={agg:=false,size:=1,e:=10,z:=[.c .nilp]}
noncomputable def ty449:TI:={agg:=false,size:=1,e:=13,z:=[.c .nilf]}
noncomputable def ty450:TI:={agg:=false,size:=1,e:=13,z:=[.c .nilf]}
noncomputable def ty451:TI:={agg:=true,size:=2,n:=2,esz:=1,z:=[.a 2 (fun _=>.int .i64 0)]}
noncomputable def ty452:TI:={agg:=false,size:=1,e:=13,z:=[.c .nilf]}
noncomputable def ty453:TI:={agg:=true,size:=9,n:=9,esz:=1,z:=[.a 9 (fun _=>.nilf)]}
noncomputable def ty454:TI:={agg:=false,size:=1,e:=13,z:=[.c .nilf]}
noncomputable def ty455:TI:={agg:=false,size:=1,e:=13,z:=[.c .nilf]}
noncomputable def ty456:TI:={agg:=false,size:=1,e:=13,z:=[.c .nilf]}
noncomputable def ty457:TI:={agg:=false,size:=1,e:=13,z:=[.c .nilf]}
noncomputable def ty458:TI:={agg:=false,size:=1,e:=13,z:=[.c .nilf]}
noncomputable def ty459:TI:={agg:=true,size:=32,n:=32,esz:=1,z:=[.a 32 (fun _=>.int .u8 0)]}
noncomputable def ty461:TI:={agg:=false,size:=1,e:=13,z:=[.c .nilf]}
noncomputable def ty462:TI:={agg:=false,size:=1,e:=13,z:=[.c .nilf]}
noncomputable def ty463:TI:={agg:=false,size:=1,e:=13,z:=[.c .nilf]}
noncomputable def ty464:TI:={agg:=false,size:=1,e:=13,z:=[.c .nilf]}
noncomputable def ty465:TI:={agg:=false,size:=1,e:=13,z:=[.c .nilf]}
noncomputable def ty466:TI:={agg:=false,size:=1,e:=13,z:=[.c .nilf]}
noncomputable def ty467:TI:={agg:=false,size:=1,e:=13,z:=[.c .nilf]}
noncomputable def ty469:TI:={agg:=false,size:=1,e:=13,z:=[.c .nilf]}
noncomputable def ty470:TI:={agg:=true,size:=3,fs:=[(0,1),(1,1),(2,1)],fa:=[false,false,false],z:=[.c (.int .i64 0),.c (.int .u8 0),.c .nilp]}
noncomputable def ty471:TI:={agg:=true,size:=3,fs:=[(0,1),(1,1),(2,1)],fa:=[false,false,false],z:=[.c (.int .i64 0),.c (.int .u8 0),.c .nilp]}
noncomputable def ty472:TI:={agg:=false,size:=1,e:=13,z:=[.c .nilf]}
noncomputable def ty473:TI:={agg:=false,size:=1,e:=13,z:=[.c .nilf]}
noncomputable def ty474:TI:={agg:=false,size:=1,e:=13,z:=[.c .nilf]}
noncomputable def ty475:TI:={agg:=false,size:=1,e:=13,z:=[.c .nilf]}
noncomputable def ty476:TI:={agg:=false,size:=1,e:=13,z:=[.c .nilf]}
noncomputable def ty477:TI:={agg:=false,size:=1,e:=13,z:=[.c .nilf]}
noncomputable def ty478:TI:={agg:=false,size:=1,e:=13,z:=[.c .nilf]}
noncomputable def ty479:TI:={agg:=false,size:=1,e:=13,z:=[.c .nilf]}
noncomputable def ty481:TI:={agg:=false,size:=1,e:=13,z:=[.c .nilf]}
noncomputable def ty482:TI:={agg:=false,size:=1,e:=13,z:=[.c .nilf]}
noncomputable def ty484:TI:={agg:=false,size:=1,e:=13,z:=[.c .nilf]}
noncomputable def ty485:TI:={agg:=false,size:=1,e:=13,z:=[.c .nilf]}
noncomputable def ty486:TI:={agg:=false,size:=1,e:=10,z:=[.c .nilp]}
noncomputable def ty487:TI:={agg:=false,size:=1,e:=13,z:=[.c .nilf]}
noncomputable def ty488:TI:={agg:=false,size:=1,e:=13,z:=[.c .nilf]}
noncomputable def ty489:TI:={agg:=false,size:=1,e:=13,z:=[.c .nilf]}
noncomputable def ty490:TI:={agg:=false,size:=1,e:=13,z:=[.c .nilf]}
noncomputable def ty491:TI:={agg:=false,size:=1,e:=13,z:=[.c .nilf]}
noncomputable def ty492:TI:={agg:=true,size:=32,n:=32,esz:=1,z:=[.a 32 (fun _=>.bool false)]}
noncomputable def ty493:TI:={agg:=true,size:=34,fs:=[(0,1),(1,1),(2,32)],fa:=[false,false,true],z:=[.c (.int .i64 0),.c (.int .i64 0),.a 32 (fun _=>.bool false)]}
noncomputable def ty494:TI:={agg:=true,size:=34,fs:=[(0,1),(1,1),(2,32)],fa:=[false,false,true],z:=[.c (.int .i64 0),.c (.int .i64 0),.a 32 (fun _=>.bool false)]}
noncomputable def ty495:TI:={agg:=false,size:=1,e:=13,z:=[.c .nilf]}
noncomputable def ty496:TI:={agg:=false,size:=1,e:=13,z:=[.c .nilf]}
noncomputable def ty497:TI:={agg:=false,size:=1,e:=13,z:=[.c .nilf]}
noncomputable def ty498:TI:={agg:=true,size:=5,n:=5,esz:=1,z:=[.a 5 (fun _=>.int .u8 0)]}
noncomputable def ty499:TI:={agg:=false,size:=1,e:=10,z:=[.c .nilp]}
noncomputable def ty500:TI:={agg:=false,size:=1,e:=13,z:=[.c .nilf]}
noncomputable def ty501:TI:={agg:=false,size:=1,e:=13,z:=[.c .nilf]}
noncomputable def ty502:TI:={agg:=false,size:=1,e:=13,z:=[.c .nilf]}
noncomputable def ty503:TI:={agg:=false,size:=1,e:=13,z:=[.c .nilf]}
noncomputable def ty504:TI:={agg:=false,size:=1,e:=13,z:=[.c .nilf]}
noncomputable def ty505:TI:={agg:=false,size:=1,e:=13,z:=[.c .nilf]}
noncomputable def ty506:TI:={agg:=false,size:=1,e:=13,z:=[.c .nilf]}
noncomputable def ty507:TI:={agg:=false,size:=1,e:=10,z:=[.c .nilp]}
noncomputable def ty508:TI:={agg:=false,size:=1,e:=13,z:=[.c .nilf]}
noncomputable def ty509:TI:={agg:=false,size:=1,e:=13,z:=[.c .nilf]}
noncomputable def ty510:TI:={agg:=true,size:=4,fs:=[(0,1),(1,1),(2,1),(3,1)],fa:=[false,false,false,false],z:=[.c .nilp,.c .nilp,.c .nilp,.c (.str [])]}
noncomputable def ty511:TI:={agg:=true,size:=4,fs:=[(0,1),(1,1),(2,1),(3,1)],fa:=[false,false,false,false],z:=[.c .nilp,.c .nilp,.c .nilp,.c (.str [])]}
noncomputable def ty512:TI:={agg:=true,size:=0}
noncomputable def ty513:TI:={agg:=true,size:=0,fs:=[(0,0)],fa:=[true]}
noncomputable def ty514:TI:={agg:=true,size:=0,fs:=[(0,0)],fa:=[true]}
noncomputable def ty515:TI:={agg:=false,size:=1,e:=3,z:=[.c (.int .u8 0)]}
noncomputable def ty516:TI:={agg:=false,size:=1,e:=3,z:=[.c (.int .u8 0)]}
noncomputable def ty517:TI:={agg:=false,size:=1,e:=13,z:=[.c .nilf]}
noncomputable def ty518:TI:={agg:=false,size:=1,z:=[.c (.int .i32 0)]}
noncomputable def ty519:TI:={agg:=false,size:=1,z:=[.c (.int .i32 0)]}
noncomputable def ty520:TI:={agg:=true,size:=11,fs:=[(0,1),(1,1),(2,1),(3,1),(4,1),(5,1),(6,1),(7,1),(8,1),(9,1),(10,1)],fa:=[false,false,false,false,false,false,false,false,false,false,false],z:=[.c (.int .u64 0),.c (.int .u64 0),.c (.int .u32 0),.c (.int .u8 0),.c (.int .u8 0),.c (.int .u8 0),.c (.int .u8 0),.c .nilf,.c .nilp,.c (.int .i32 0),.c (.int .i32 0)]}
noncomputable def ty521:TI:={agg:=true,size:=11,fs:=[(0,1),(1,1),(2,1),(3,1),(4,1),(5,1),(6,1),(7,1),(8,1),(9,1),(10,1)],fa:=[false,false,false,false,false,false,false,false,false,false,false],z:=[.c (.int .u64 0),.c (.int .u64 0),.c (.int .u32 0),.c (.int .u8 0),.c (.int .u8 0),.c (.int .u8 0),.c (.int .u8 0),.c .nilf,.c .nilp,.c (.int .i32 0),.c (.int .i32 0)]}
noncomputable def ty522:TI:={agg:=false,size:=1,e:=13,z:=[.c .nilf]}
noncomputable def ty523:TI:={agg:=false,size:=1,e:=13,z:=[.c .nilf]}
noncomputable def ty524:TI:={agg:=false,size:=1,e:=13,z:=[.c .nilf]}
noncomputable def ty525:TI:={agg:=false,size:=1,e:=13,z:=[.c .nilf]}
noncomputable def ty526:TI:={agg:=true,size:=8,n:=8,esz:=1,z:=[.a 8 (fun _=>.nilf)]}
noncomputable def ty527:TI:={agg:=false,size:=1,e:=13,z:=[.c .nilf]}
noncomputable def ty528:TI:={agg:=false,size:=1,e:=13,z:=[.c .nilf]}
noncomputable def ty529:TI:={agg:=false,size:=1,e:=13,z:=[.c .nilf]}
noncomputable def ty530:TI:={agg:=false,size:=1,e:=13,z:=[.c .nilf]}
noncomputable def ty532:TI:={agg:=false,size:=1,e:=13,z:=[.c .nilf]}
noncomputable def ty533:TI:={agg:=true,size:=3,n:=3,esz:=1,z:=[.a 3 (fun _=>.int .u8 0)]}
noncomputable def ty534:TI:={agg:=false,size:=1,e:=13,z:=[.c .nilf]}
noncomputable def tyTree:Tr:=.node (.node (.node (.node (.node (.node (.node (.node (.node (.nil) 1 ty1 (.nil)) 2 ty2 (.node (.nil) 3 ty3 (.nil))) 4 ty4 (.node (.node (.nil) 5 ty5 (.nil)) 6 ty6 (.node (.nil) 7 ty7 (.nil)))) 8 ty8 (.node (.node (.node (.nil) 9 ty9 (.nil)) 10 ty10 (.node (.nil) 11 ty11 (.nil))) 12 ty12 (.node (.node (.nil) 13 ty13 (.nil)) 14 ty14 (.node (.nil) 15 ty15 (.nil))))) 16 ty16 (.node (.node (.node (.node (.nil) 17 ty17 (.nil)) 18 ty18 (.node (.nil) 19 ty19 (.nil))) 20 ty20 (.node (.node (.nil) 21 ty21 (.nil)) 22 ty22 (.node (.nil) 23 ty23 (.nil)))) 24 ty24 (.node (.node (.node (.nil) 25 ty25 (.nil)) 26 ty26 (.node (.nil) 27 ty27 (.nil))) 28 ty28 (.node (.node (.nil) 29 ty29 (.nil)) 30 ty30 (.nil))))) 31 ty31 (.node (.node (.node (.node (.node (.nil) 32 ty32 (.nil)) 33 ty33 (.node (.nil) 34 ty34 (.nil))) 35 ty35 (.node (.node (.nil) 37 ty37 (.nil)) 38 ty38 (.node (.nil) 39 ty39 (.nil)))) 41 ty41 (.node (.node (.node (.nil) 42 ty42 (.nil)) 43 ty43 (.node (.nil) 44 ty44 (.nil))) 45 ty45 (.node (.node (.nil) 46 ty46 (.nil)) 47 ty47 (.nil)))) 48 ty48 (.node (.node (.node (.node (.nil) 49 ty49 (.nil)) 50 ty50 (.node (.nil) 51 ty51 (.nil))) 53 ty53 (.node (.node (.nil) 54 ty54 (.nil)) 55 ty55 (.node (.nil) 56 ty56 (.nil)))) 57 ty57 (.node (.node (.node (.nil) 58 ty58 (.nil)) 60 ty60 (.node (.nil) 62 ty62 (.nil))) 63 ty63 (.node (.node (.nil) 64 ty64 (.nil)) 65 ty65 (.nil)))))) 67 ty67 (.node (.node (.node (.node (.node (.node (.nil) 68 ty68 (.nil)) 69 ty69 (.node (.nil) 71 ty71 (.nil))) 72 ty72 (.node (.node (.nil) 73 ty73 (.nil)) 74 ty74 (.node (.nil) 75 ty75 (.nil)))) 76 ty76 (.node (.node (.node (.nil) 77 ty77 (.nil)) 78 ty78 (.node (.nil) 79 ty79 (.nil))) 80 ty80 (.node (.node (.nil) 82 ty82 (.nil)) 83 ty83 (.nil)))) 85 ty85 (.node (.node (.node (.node (.nil) 87 ty87 (.nil)) 88 ty88 (.node (.nil) 89 ty89 (.nil))) 90 ty90 (.node (.node (.nil) 91 ty91 (.nil)) 92 ty92 (.node (.nil) 93 ty93 (.nil)))) 94 ty94 (.node (.node (.node (.nil) 95 ty95 (.nil)) 96 ty96 (.node (.nil) 97 ty97 (.nil))) 98 ty98 (.node (.node (.nil) 99 ty99 (.nil)) 100 ty100 (.nil))))) 101 ty101 (.node (.node (.node (.node (.node (.nil) 102 ty102 (.nil)) 103 ty103 (.node (.nil) 104 ty104 (.nil))) 105 ty105 (.node (.node (.nil) 106 ty106 (.nil)) 107 ty107 (.node (.nil) 108 ty108 (.nil)))) 109 ty109 (.node (.node (.node (.nil) 110 ty110 (.nil)) 111 ty111 (.node (.nil) 112 ty112 (.nil))) 113 ty113 (.node (.node (.nil) 114 ty114 (.nil)) 115 ty115 (.nil)))) 116 ty116 (.node (.node (.node (.node (.nil) 117 ty117 (.nil)) 119 ty119 (.node (.nil) 120 ty120 (.nil))) 121 ty121 (.node (.node (.nil) 122 ty122 (.nil)) 123 ty123 (.node (.nil) 124 ty124 (.nil)))) 125 ty125 (.node (.node (.node (.nil) 126 ty126 (.nil)) 127 ty127 (.node (.nil) 128 ty128 (.nil))) 129 ty129 (.node (.node (.nil) 130 ty130 (.nil)) 131 ty131 (.nil))))))) 133 ty133 (.node (.node (.node (.node (.node (.node (.node (.nil) 134 ty134 (.nil)) 135 ty135 (.node (.nil) 137 ty137 (.nil))) 138 ty138 (.node (.node (.nil) 139 ty139 (.nil)) 140 ty140 (.node (.nil) 142 ty142 (.nil)))) 143 ty143 (.node (.node (.node (.nil) 144 ty144 (.nil)) 145 ty145 (.node (.nil) 146 ty146 (.nil))) 147 ty147 (.node (.node (.nil) 149 ty149 (.nil)) 150 ty150 (.nil)))) 152 ty152 (.node (.node (.node (.node (.nil) 154 ty154 (.nil)) 155 ty155 (.node (.nil) 156 ty156 (.nil))) 157 ty157 (.node (.node (.nil) 158 ty158 (.nil)) 159 ty159 (.node (.nil) 160 ty160 (.nil)))) 161 ty161 (.node (.node (.node (.nil) 162 ty162 (.nil)) 163 ty163 (.node (.nil) 164 ty164 (.nil))) 165 ty165 (.node (.node (.nil) 166 ty166 (.nil)) 168 ty168 (.nil))))) 170 ty170 (.node (.node (.node (.node (.node (.nil) 171 ty171 (.nil)) 172 ty172 (.node (.nil) 173 ty173 (.nil))) 174 ty174 (.node (.node (.nil) 175 ty175 (.nil)) 176 ty176 (.node (.nil) 177 ty177 (.nil)))) 178 ty178 (.node (.node (.node (.nil) 180 ty180 (.nil)) 181 ty181 (.node (.nil) 182 ty182 (.nil))) 183 ty183 (.node (.node (.nil) 184 ty184 (.nil)) 185 ty185 (.nil)))) 186 ty186 (.node (.node (.node (.node (.nil) 187 ty187 (.nil)) 188 ty188 (.node (.nil) 189 ty189 (.nil))) 190 ty190 (.node (.node (.nil) 191 ty191 (.nil)) 192 ty192 (.node (.nil) 193 ty193 (.nil)))) 194 ty194 (.node (.node (.node (.nil) 195 ty195 (.nil)) 196 ty196 (.node (.nil) 197 ty197 (.nil))) 199 ty199 (.node (.node (.nil) 200 ty200 (.nil)) 201 ty201 (.nil)))))) 202 ty202 (.node (.node (.node (.node (.node (.node (.nil) 203 ty203 (.nil)) 204 ty204 (.node (.nil) 205 ty205 (.nil))) 206 ty206 (.node (.node (.nil) 207 ty207 (.nil)) 208 ty208 (.node (.nil) 209 ty209 (.nil)))) 211 ty211 (.node (.node (.node (.nil) 212 ty212 (.nil)) 213 ty213 (.node (.nil) 215 ty215 (.nil))) 216 ty216 (.node (.node (.nil) 217 ty217 (.nil)) 218 ty218 (.nil)))) 219 ty219 (.node (.node (.node (.node (.nil) 220 ty220 (.nil)) 221 ty221 (.node (.nil) 222 ty222 (.nil))) 223 ty223 (.node (.node (.nil) 224 ty224 (.nil)) 225 ty225 (.node (.nil) 226 ty226 (.nil)))) 227 ty227 (.node (.node (.node (.nil) 228 ty228 (.nil)) 229 ty229 (.node (.nil) 230 ty230 (.nil))) 231 ty231 (.node (.node (.nil) 232 ty232 (.nil)) 233 ty233 (.nil))))) 234 ty234 (.node (.node (.node (.node (.node (.nil) 235 ty235 (.nil)) 236 ty236 (.node (.nil) 237 ty237 (.nil))) 238 ty238 (.node (.node (.nil) 239 ty239 (.nil)) 240 ty240 (.node (.nil) 241 ty241 (.nil)))) 242 ty242 (.node (.node (.node (.nil) 243 ty243 (.nil)) 244 ty244 (.node (.nil) 245 ty245 (.nil))) 246 ty246 (.node (.node (.nil) 247 ty247 (.nil)) 248 ty248 (.nil)))) 249 ty249 (.node (.node (.node (.node (.nil) 250 ty250 (.nil)) 251 ty251 (.node (.nil) 252 ty252 (.nil))) 253 ty253 (.node (.node (.nil) 254 ty254 (.nil)) 255 ty255 (.node (.nil) 256 ty256 (.nil)))) 257 ty257 (.node (.node (.node (.nil) 258 ty258 (.nil)) 259 ty259 (.node (.nil) 260 ty260 (.nil))) 261 ty261 (.node (.node (.nil) 262 ty262 (.nil)) 264 ty264 (.nil)))))))) 265 ty265 (.node (.node (.node (.node (.node (.node (.node (.node (.nil) 266 ty266 (.nil)) 267 ty267 (.node (.nil) 268 ty268 (.nil))) 270 ty270 (.node (.node (.nil) 271 ty271 (.nil)) 272 ty272 (.node (.nil) 273 ty273 (.nil)))) 274 ty274 (.node (.node (.node (.nil) 276 ty276 (.nil)) 278 ty278 (.node (.nil) 279 ty279 (.nil))) 280 ty280 (.node (.node (.nil) 282 ty282 (.nil)) 283 ty283 (.node (.nil) 284 ty284 (.nil))))) 286 ty286 (.node (.node (.node (.node (.nil) 288 ty288 (.nil)) 290 ty290 (.node (.nil) 291 ty291 (.nil))) 292 ty292 (.node (.node (.nil) 293 ty293 (.nil)) 294 ty294 (.node (.nil) 295 ty295 (.nil)))) 296 ty296 (.node (.node (.node (.nil) 297 ty297 (.nil)) 298 ty298 (.node (.nil) 299 ty299 (.nil))) 300 ty300 (.node (.node (.nil) 301 ty301 (.nil)) 302 ty302 (.nil))))) 304 ty304 (.node (.node (.node (.node (.node (.nil) 305 ty305 (.nil)) 306 ty306 (.node (.nil) 307 ty307 (.nil))) 308 ty308 (.node (.node (.nil) 309 ty309 (.nil)) 310 ty310 (.node (.nil) 311 ty311 (.nil)))) 312 ty312 (.node (.node (.node (.nil) 313 ty313 (.nil)) 314 ty314 (.node (.nil) 315 ty315 (.nil))) 316 ty316 (.node (.node (.nil) 317 ty317 (.nil)) 318 ty318 (.nil)))) 319 ty319 (.node (.node (.node (.node (.nil) 320 ty320 (.nil)) 321 ty321 (.node (.nil) 322 ty322 (.nil))) 323 ty323 (.node (.node (.nil) 324 ty324 (.nil)) 325 ty325 (.node (.nil) 327 ty327 (.nil)))) 328 ty328 (.node (.node (.node (.nil) 329 ty329 (.nil)) 330 ty330 (.node (.nil) 331 ty331 (.nil))) 332 ty332 (.node (.node (.nil) 333 ty333 (.nil)) 334 ty334 (.nil)))))) 335 ty335 (.node (.node (.node (.node (.node (.node (.nil) 336 ty336 (.nil)) 337 ty337 (.node (.nil) 338 ty338 (.nil))) 339 ty339 (.node (.node (.nil) 340 ty340 (.nil)) 342 ty342 (.node (.nil) 343 ty343 (.nil)))) 344 ty344 (.node (.node (.node (.nil) 345 ty345 (.nil)) 346 ty346 (.node (.nil) 347 ty347 (.nil))) 348 ty348 (.node (.node (.nil) 349 ty349 (.nil)) 350 ty350 (.nil)))) 351 ty351 (.node (.node (.node (.node (.nil) 352 ty352 (.nil)) 353 ty353 (.node (.nil) 354 ty354 (.nil))) 355 ty355 (.node (.node (.nil) 357 ty357 (.nil)) 358 ty358 (.node (.nil) 360 ty360 (.nil)))) 362 ty362 (.node (.node (.node (.nil) 363 ty363 (.nil)) 364 ty364 (.node (.nil) 365 ty365 (.nil))) 367 ty367 (.node (.node (.nil) 369 ty369 (.nil)) 370 ty370 (.nil))))) 371 ty371 (.node (.node (.node (.node (.node (.nil) 372 ty372 (.nil)) 373 ty373 (.node (.nil) 374 ty374 (.nil))) 375 ty375 (.node (.node (.nil) 376 ty376 (.nil)) 378 ty378 (.node (.nil) 379 ty379 (.nil)))) 380 ty380 (.node (.node (.node (.nil) 381 ty381 (.nil)) 382 ty382 (.node (.nil) 383 ty383 (.nil))) 384 ty384 (.node (.node (.nil) 385 ty385 (.nil)) 386 ty386 (.nil)))) 387 ty387 (.node (.node (.node (.node (.nil) 388 ty388 (.nil)) 389 ty389 (.node (.nil) 390 ty390 (.nil))) 391 ty391 (.node (.node (.nil) 392 ty392 (.nil)) 394 ty394 (.node (.nil) 395 ty395 (.nil)))) 396 ty396 (.node (.node (.node (.nil) 397 ty397 (.nil)) 398 ty398 (.node (.nil) 399 ty399 (.nil))) 400 ty400 (.node (.node (.nil) 401 ty401 (.nil)) 403 ty403 (.nil))))))) 404 ty404 (.node (.node (.node (.node (.node (.node (.node (.nil) 406 ty406 (.nil)) 408 ty408 (.node (.nil) 409 ty409 (.nil))) 410 ty410 (.node (.node (.nil) 411 ty411 (.nil)) 412 ty412 (.node (.nil) 413 ty413 (.nil)))) 415 ty415 (.node (.node (.node (.nil) 416 ty416 (.nil)) 417 ty417 (.node (.nil) 418 ty418 (.nil))) 419 ty419 (.node (.node (.nil) 420 ty420 (.nil)) 422 ty422 (.nil)))) 423 ty423 (.node (.node (.node (.node (.nil) 424 ty424 (.nil)) 425 ty425 (.node (.nil) 426 ty426 (.nil))) 427 ty427 (.node (.node (.nil) 428 ty428 (.nil)) 429 ty429 (.node (.nil) 430 ty430 (.nil)))) 432 ty432 (.node (.node (.node (.nil) 433 ty433 (.nil)) 435 ty435 (.node (.nil) 436 ty436 (.nil))) 437 ty437 (.node (.node (.nil) 438 ty438 (.nil)) 439 ty439 (.nil))))) 440 ty440 (.node (.node (.node (.node (.node (.nil) 441 ty441 (.nil)) 442 ty442 (.node (.nil) 443 ty443 (.nil))) 444 ty444 (.node (.node (.nil) 445 ty445 (.nil)) 446 ty446 (.node (.nil) 447 ty447 (.nil)))) 448 ty448 (.node (.node (.node (.nil) 449 ty449 (.nil)) 450 ty450 (.node (.nil) 451 ty451 (.nil))) 452 ty452 (.node (.node (.nil) 453 ty453 (.nil)) 454 ty454 (.nil)))) 455 ty455 (.node (.node (.node (.node (.nil) 456 ty456 (.nil)) 457 ty457 (.node (.nil) 458 ty458 (.nil))) 459 ty459 (.node (.node (.nil) 461 ty461 (.nil)) 462 ty462 (.node (.nil) 463 ty463 (.nil)))) 464 ty464 (.node (.node (.node (.nil) 465 ty465 (.nil)) 466 ty466 (.node (.nil) 467 ty467 (.nil))) 469 ty469 (.node (.node (.nil) 470 ty470 (.nil)) 471 ty471 (.nil)))))) 472 ty472 (.node (.node (.node (.node (.node (.node (.nil) 473 ty473 (.nil)) 474 ty474 (.node (.nil) 475 ty475 (.nil))) 476 ty476 (.node (.node (.nil) 477 ty477 (.nil)) 478 ty478 (.node (.nil) 479 ty479 (.nil)))) 481 ty481 (.node (.node (.node (.nil) 482 ty482 (.nil)) 484 ty484 (.node (.nil) 485 ty485 (.nil))) 486 ty486 (.node (.node (.nil) 487 ty487 (.nil)) 488 ty488 (.nil)))) 489 ty489 (.node (.node (.node (.node (.nil) 490 ty490 (.nil)) 491 ty491 (.node (.nil) 492 ty492 (.nil))) 493 ty493 (.node (.node (.nil) 494 ty494 (.nil)) 495 ty495 (.node (.nil) 496 ty496 (.nil)))) 497 ty497 (.node (.node (.node (.nil) 498 ty498 (.nil)) 499 ty499 (.node (.nil) 500 ty500 (.nil))) 501 ty501 (.node (.node (.nil) 502 ty502 (.nil)) 503 ty503 (.nil))))) 504 ty504 (.node (.node (.node (.node (.node (.nil) 505 ty505 (.nil)) 506 ty506 (.node (.nil) 507 ty507 (.nil))) 508 ty508 (.node (.node (.nil) 509 ty509 (.nil)) 510 ty510 (.node (.nil) 511 ty511 (.nil)))) 512 ty512 (.node (.node (.node (.nil) 513 ty513 (.nil)) 514 ty514 (.node (.nil) 515 ty515 (.nil))) 516 ty516 (.node (.node (.nil) 517 ty517 (.nil)) 518 ty518 (.nil)))) 519 ty519 (.node (.node (.node (.node (.nil) 520 ty520 (.nil)) 521 ty521 (.node (.nil) 522 ty522 (.nil))) 523 ty523 (.node (.node (.nil) 524 ty524 (.nil)) 525 ty525 (.node (.nil) 526 ty526 (.nil)))) 527 ty527 (.node (.node (.node (.nil) 528 ty528 (.nil)) 529 ty529 (.node (.nil) 530 ty530 (.nil))) 532 ty532 (.node (.node (.nil) 533 ty533 (.nil)) 534 ty534 (.nil))))))))
noncomputable def cx:Cx:={P:=Tryz.prog,tr:=tyTree,ng:=3}
noncomputable def cxw:Cx:={P:=Tryz.prog,tr:=tyTree,ng:=3,wrap:=true}
theorem tyTree_ok:tyTree.all (chkT Tryz.prog)=true:=by kernel_rfl
theorem progOkV:Go.Ev.ProgOk Tryz.prog:=by
 have hall:(Tryz.prog.funcs.toList.all fun fn=>!(fn.name == "runtime.NumGoroutine"))=true:=by kernel_rfl
 refine⟨fun f fn h=>?_,by kernel_rfl⟩
 have:=List.all_eq_true.1 hall fn (List.mem_of_getElem? h)
 simpa using this
theorem cx_ok:CxOk cx:=⟨progOkV,Nat.le_of_ble_eq_true (by kernel_rfl),fun t ti h=>chkT_ok (Tr.all_get tyTree_ok h)⟩
theorem cxw_ok:CxOk cxw:=⟨progOkV,Nat.le_of_ble_eq_true (by kernel_rfl),fun t ti h=>chkT_ok (Tr.all_get tyTree_ok h)⟩
structure Zh(Q:Prop):Prop where
 a:Q
theorem Zr0{P Q:Prop}(h:Q)(k:Zh Q->P:=by intro zz;(repeat ((show Sd _ _;refine Sd.mk (by omega) ?_)));exact zz.a):P:=k ⟨h⟩
theorem Zr1{P Q:Prop}(h:Q)(k:Zh Q->P:=by intro zz;(repeat ((show Br _ _ _;refine Br.t rfl ?_)));exact zz.a):P:=k ⟨h⟩
theorem Zr2{P Q:Prop}(h:Q)(k:Zh Q->P:=by intro zz;(repeat ((show Br _ _ _;refine Br.f rfl ?_)));exact zz.a):P:=k ⟨h⟩
theorem Zr3{P Q:Prop}(h:Q)(k:Zh Q->P:=by intro zz;(repeat (first|(show Br _ _ _;first|refine Br.t rfl ?_|refine Br.f rfl ?_|refine Br.t (Nat.beq_refl _) ?_)|(show Sd _ _;refine Sd.mk (by first|omega|assumption|exact⟨of_decide_eq_true rfl,of_decide_eq_true rfl⟩|exact of_decide_eq_true rfl|exact⟨rfl,trivial⟩|exact⟨⟨by omega,rfl⟩,trivial⟩|exact⟨rfl,rfl,trivial⟩|exact⟨⟨by omega,rfl⟩,⟨by omega,rfl⟩,trivial⟩) ?_)));exact zz.a):P:=k ⟨h⟩
theorem Zr4{P Q:Prop}(h:Q)(k:Zh Q->P:=by intro zz;(repeat (first|(show Br _ _ _;first|refine Br.t rfl ?_|refine Br.f rfl ?_|refine Br.t (Nat.beq_refl _) ?_)|(show SeqG _ _ _ _ _ _ _ _;refine SeqG.split cx_ok (by kernel_rfl) ?_)));exact zz.a):P:=k ⟨h⟩
theorem Zr5{P Q:Prop}(h:Q)(k:Zh Q->P:=by intro zz;(repeat ((show Sd _ _;refine Sd.mk (by first|omega|exact⟨of_decide_eq_true rfl,of_decide_eq_true rfl⟩) ?_)));exact zz.a):P:=k ⟨h⟩
theorem Zr6{P Q:Prop}(h:Q)(k:Zh Q->P:=by intro zz;(repeat ((show Br _ _ _;first|refine Br.t rfl ?_|refine Br.f rfl ?_)));exact zz.a):P:=k ⟨h⟩
theorem Zr7{P Q:Prop}(h:Q)(k:Zh Q->P:=by intro zz;(repeat ((show SeqG _ _ _ _ _ _ _ _;refine SeqG.split cx_ok (by kernel_rfl) ?_)));exact zz.a):P:=k ⟨h⟩
theorem Zr8{P Q:Prop}(h:Q)(k:Zh Q->P:=by intro zz;(repeat ((show Sd _ _;refine Sd.mk (by first|omega|exact⟨of_decide_eq_true rfl,of_decide_eq_true rfl⟩|exact of_decide_eq_true rfl) ?_)));exact zz.a):P:=k ⟨h⟩
theorem Zr9{P Q:Prop}(h:Q)(k:Zh Q->P:=by intro zz;(repeat (first|(show Sd _ _;refine Sd.mk (by first|omega|assumption|exact⟨of_decide_eq_true rfl,of_decide_eq_true rfl⟩|exact of_decide_eq_true rfl|exact⟨rfl,trivial⟩|exact⟨⟨by omega,rfl⟩,trivial⟩|exact⟨rfl,rfl,trivial⟩|exact⟨⟨by omega,rfl⟩,⟨by omega,rfl⟩,trivial⟩) ?_)|(show SeqG _ _ _ _ _ _ _ _;refine SeqG.split cx_ok (by kernel_rfl) ?_)));exact zz.a):P:=k ⟨h⟩
theorem Zr10{P Q:Prop}(h:Q)(k:Zh Q->P:=by intro zz;(repeat ((show Sd _ _;refine Sd.mk (by first|omega|assumption) ?_)));exact zz.a):P:=k ⟨h⟩
theorem Zr11{P Q:Prop}(h:Q)(k:Zh Q->P:=by intro zz;(repeat (first|(show Br _ _ _;first|refine Br.t rfl ?_|refine Br.f rfl ?_|refine Br.t (Nat.beq_refl _) ?_)|(show Sd _ _;refine Sd.mk (by first|omega|assumption|exact⟨of_decide_eq_true rfl,of_decide_eq_true rfl⟩|exact of_decide_eq_true rfl|exact⟨rfl,trivial⟩|exact⟨⟨by omega,rfl⟩,trivial⟩|exact⟨rfl,rfl,trivial⟩|exact⟨⟨by omega,rfl⟩,⟨by omega,rfl⟩,trivial⟩) ?_)|(show SeqG _ _ _ _ _ _ _ _;refine SeqG.split cx_ok (by kernel_rfl) ?_)));exact zz.a):P:=k ⟨h⟩
theorem Zr12{P Q:Prop}(h:Q)(k:Zh Q->P:=by intro zz;(repeat ((show Sd _ _;refine Sd.mk (by first|omega|exact⟨rfl,trivial⟩) ?_)));exact zz.a):P:=k ⟨h⟩
theorem Zr13{P Q:Prop}(h:Q)(k:Zh Q->P:=by intro zz;(repeat ((show Br _ _ _;first|refine Br.t rfl ?_|refine Br.t (decide_eq_true (by omega)) ?_)));exact zz.a):P:=k ⟨h⟩
theorem Zr14{P Q:Prop}(h:Q)(k:Zh Q->P:=by intro zz;(repeat (first|(show Br _ _ _;first|refine Br.t rfl ?_|refine Br.f rfl ?_|refine Br.t (Nat.beq_refl _) ?_|refine Br.f (decide_eq_false (by omega)) ?_|refine Br.t (decide_eq_true (by omega)) ?_)|(show Sd _ _;refine Sd.mk (by first|omega|assumption|exact⟨of_decide_eq_true rfl,of_decide_eq_true rfl⟩|exact of_decide_eq_true rfl|exact⟨rfl,trivial⟩|exact⟨⟨by omega,rfl⟩,trivial⟩|exact⟨rfl,rfl,trivial⟩|exact⟨⟨by omega,rfl⟩,⟨by omega,rfl⟩,trivial⟩) ?_)));exact zz.a):P:=k ⟨h⟩
theorem Zr15{P Q:Prop}(h:Q)(k:Zh Q->P:=by intro zz;(repeat ((show Br _ _ _;first|refine Br.f rfl ?_|refine Br.f (decide_eq_false (by omega)) ?_)));exact zz.a):P:=k ⟨h⟩
theorem Zr16{P Q:Prop}(h:Q)(k:Zh Q->P:=by intro zz;(repeat ((show Br _ _ _;refine Br.f (decide_eq_false (by omega)) ?_)));exact zz.a):P:=k ⟨h⟩
theorem Zr17{P Q:Prop}(h:Q)(k:Zh Q->P:=by intro zz;(repeat ((show Sd _ _;refine Sd.mk (by first|omega|assumption|exact⟨rfl,trivial⟩) ?_)));exact zz.a):P:=k ⟨h⟩
theorem Zr18{P Q:Prop}(h:Q)(k:Zh Q->P:=by intro zz;(repeat ((show Sd _ _;refine Sd.mk (by first|omega|assumption|exact⟨of_decide_eq_true rfl,of_decide_eq_true rfl⟩|exact of_decide_eq_true rfl|exact⟨rfl,trivial⟩|exact⟨⟨by omega,rfl⟩,trivial⟩|exact⟨rfl,rfl,trivial⟩|exact⟨⟨by omega,rfl⟩,⟨by omega,rfl⟩,trivial⟩) ?_)));exact zz.a):P:=k ⟨h⟩
theorem Zx0{P:Prop}(k:P:=by exact fitB rfl trivial):P:=k
theorem Zx1{P:Prop}(k:P:=by exact fitB rfl ⟨.r rfl,.p,.p,trivial⟩):P:=k
theorem Zx2{P:Prop}(k:P:=by exact⟨trivial,trivial,trivial,trivial,trivial⟩):P:=k
theorem Zx3{P:Prop}(k:P:=by exact⟨trivial,trivial,trivial,trivial,.r rfl,trivial⟩):P:=k
theorem Zx4{P:Prop}(k:P:=by exact trivial):P:=k
theorem Zx5{P:Prop}(k:P:=by exact⟨.r rfl,trivial⟩):P:=k
theorem Zx6{P:Prop}(k:P:=by exact⟨trivial,trivial,trivial,trivial,.r rfl,.r rfl,.r rfl,trivial⟩):P:=k
theorem Zx7{P:Prop}(k:P:=by exact⟨trivial,trivial,trivial,trivial,.r rfl,.r rfl,trivial⟩):P:=k
theorem Zx8{P:Prop}(k:P:=by exact⟨trivial,trivial,trivial,trivial,.r rfl,.r rfl,.r rfl,.r rfl,.r rfl,trivial⟩):P:=k
theorem Zx9{P:Prop}(k:P:=by exact⟨.r rfl,.r rfl,.r rfl,trivial⟩):P:=k
theorem Zx10{P:Prop}(k:P:=by exact⟨.r rfl,.r rfl,trivial⟩):P:=k
theorem Zx11{P:Prop}(k:P:=by exact keptB rfl ⟨.r rfl,.p,.p,trivial⟩):P:=k
theorem Zx12{P:Prop}(k:P:=by exact keptB rfl trivial):P:=k
theorem Zx13{P:Prop}(k:P:=by exact keptB rfl ⟨.r rfl,.q,.q,trivial⟩):P:=k
theorem Zx14{P:Prop}(k:P:=by exact fitB rfl ⟨.r rfl,trivial⟩):P:=k
theorem Zx15{P:Prop}(k:P:=by exact⟨.r rfl,.r rfl,.r rfl,.r rfl,.r rfl,trivial⟩):P:=k
theorem Zx16{P:Prop}(k:P:=by exact fitT rfl trivial):P:=k
theorem Zx17{P:Prop}(k:P:=by exact⟨trivial,trivial,trivial,trivial,.r rfl,.p,trivial⟩):P:=k
theorem Zx18{P:Prop}(k:P:=by exact fitB rfl ⟨.p,trivial⟩):P:=k
theorem Zx19{P:Prop}(k:P:=by exact keptT rfl trivial):P:=k
theorem Zx20{P:Prop}(k:P:=by exact⟨.r rfl,.r rfl,.q,trivial⟩):P:=k
theorem Zx21{P:Prop}(k:P:=by exact fitB rfl ⟨.r rfl,LiesAt.gp (fun i' j hi hj=>by have hj':j=0\/j=1\/j=2\/j=3\/j=4\/j=5\/j=6\/j=7\/j=8\/j=9\/j=10\/j=11\/j=12:=(by omega);by_cases h:i'=i;(case pos=>(subst h;rcases hj' with rfl|rfl|rfl|rfl|rfl|rfl|rfl|rfl|rfl|rfl|rfl|rfl|rfl<;>(simp[pushU,SV.cells,ovG,abT,if_pos p9,thG,thC,updT]<;>rfl)));(case neg=>simp[pushU,SV.cells,ovG,beq_ne h,abT,thG,updT,h])),.p,trivial⟩):P:=k
theorem Zx22{P:Prop}(k:P:=by exact fitB rfl ⟨.r rfl,LiesAt.gp (fun i' j hi hj=>by have hj':j=0\/j=1\/j=2\/j=3\/j=4\/j=5\/j=6\/j=7\/j=8\/j=9\/j=10\/j=11\/j=12:=(by omega);by_cases h:i'=i;(case pos=>(subst h;rcases hj' with rfl|rfl|rfl|rfl|rfl|rfl|rfl|rfl|rfl|rfl|rfl|rfl|rfl<;>(simp[pushU,SV.cells,ovG,abT,if_neg p9,thG,thC,updT]<;>rfl)));(case neg=>simp[pushU,SV.cells,ovG,beq_ne h,abT,thG,updT,h])),.p,trivial⟩):P:=k
theorem Zx23{P:Prop}(k:P:=by exact fitB rfl ⟨.r rfl,.r rfl,trivial⟩):P:=k
theorem Zx24{P:Prop}(k:P:=by exact keptB rfl ⟨.r rfl,trivial⟩):P:=k
theorem Zx25{P:Prop}(k:P:=by exact fitT rfl ⟨.p,trivial⟩):P:=k
theorem Zx26{P:Prop}(k:P:=by exact keptT rfl ⟨.p,trivial⟩):P:=k
theorem Zx27{P:Prop}(k:P:=by exact⟨.r rfl,.r rfl,.r rfl,trivial,trivial,trivial,trivial,trivial,trivial,.r rfl,.r rfl,.r rfl,.r rfl,.r rfl,.r rfl,.r rfl,.r rfl,.r rfl,.r rfl,.r rfl,trivial⟩):P:=k
theorem Zx28{P:Prop}(k:P:=by exact⟨.r rfl,.r rfl,.r rfl,.r rfl,.r rfl,.r rfl,.r rfl,.r rfl,.r rfl,.r rfl,.r rfl,.r rfl,.r rfl,.r rfl,trivial⟩):P:=k
theorem Zx29{P:Prop}(k:P:=by exact fitTT rfl ⟨trivial,trivial,trivial,trivial,trivial,.p,trivial⟩):P:=k
theorem Zx30{P:Prop}(k:P:=by exact fitB rfl ⟨.r rfl,.r rfl,.r rfl,.r rfl,.r rfl,.r rfl,.r rfl,.r rfl,trivial⟩):P:=k
theorem Zx31{P:Prop}(k:P:=by exact⟨.r rfl,.q,trivial⟩):P:=k
theorem Zx32{P:Prop}(k:P:=by exact⟨trivial,trivial,trivial,trivial,.p,trivial⟩):P:=k
theorem Zx33{P:Prop}(k:P:=by exact⟨trivial,trivial,trivial,trivial,.p,.p,trivial⟩):P:=k
theorem Zx34{P:Prop}(k:P:=by exact fitTT rfl ⟨trivial,trivial,trivial,trivial,trivial,trivial⟩):P:=k
theorem Zx35{P:Prop}(k:P:=by exact keptB rfl ⟨.r rfl,.r rfl,trivial⟩):P:=k
theorem Zx36{P:Prop}(k:P:=by exact keptB rfl ⟨.p,trivial⟩):P:=k
theorem Zx38{P:Prop}(k:P:=by exact keptT rfl ⟨.q,trivial⟩):P:=k
theorem Zx39{P:Prop}(k:P:=by exact⟨.r rfl,.r rfl,.r rfl,.r rfl,trivial⟩):P:=k
theorem Zx40{P:Prop}(k:P:=by exact fitB rfl ⟨.r rfl,.r rfl,.r rfl,.r rfl,.r rfl,.r rfl,.r rfl,.r rfl,.p,trivial⟩):P:=k
theorem Zx41{P:Prop}(k:P:=by exact fitB rfl ⟨.r rfl,LiesAt.gp (fun i' j hi hj=>by have hj':j=0\/j=1\/j=2\/j=3\/j=4\/j=5\/j=6\/j=7\/j=8\/j=9\/j=10\/j=11\/j=12:=(by omega);by_cases h:i'=i;(case pos=>(subst h;rcases hj' with rfl|rfl|rfl|rfl|rfl|rfl|rfl|rfl|rfl|rfl|rfl|rfl|rfl<;>(simp[pushU,SV.cells,ovG,freeS,thG,thC,updT]<;>rfl)));(case neg=>simp[pushU,SV.cells,ovG,beq_ne h,freeS,thG,updT,h])),LiesAt.gp (fun i' j hi hj=>by have hj':j=0\/j=1:=(by omega);by_cases h:i'=e.at_.toNat;(case pos=>(subst h;rcases hj' with rfl|rfl<;>(simp[pushU,SV.cells,ovG,freeS,stG,updS]<;>rfl)));(case neg=>(rcases hj' with rfl|rfl<;>(simp[pushU,SV.cells,ovG,beq_ne h,freeS,stG,updS,h]<;>rfl)))),trivial⟩):P:=k
theorem Zx42{P:Prop}(k:P:=by exact⟨trivial,trivial,trivial,trivial,.r rfl,trivial,.p,trivial⟩):P:=k
theorem Zx43{P:Prop}(k:P:=by exact fitB rfl ⟨.s ⟨rfl,rfl,rfl,rfl,rfl,rfl,(fun i hi=>rfl),rfl,(fun i hi=>rfl),rfl,(fun i hi=>updI_c _ _ _ i),trivial⟩,trivial⟩):P:=k
abbrev Zl0:List (Nat × Nat):=[(0,0),(1,0),(2,0),(3,0),(4,0),(5,0),(6,0),(7,0),(8,0),(9,0),(10,0),(11,0),(12,0),(13,0),(14,0),(15,0)]
abbrev Zl1:List (Nat × Nat):=[(0,0),(1,0),(2,0),(3,0),(4,0),(5,0),(6,0),(7,0),(8,0),(9,0),(10,0),(11,0),(12,0),(13,0),(14,0),(15,0),(16,0),(17,0),(18,0),(19,0),(20,0),(21,0),(22,0),(23,0),(24,0),(25,0),(26,0),(27,0),(28,0),(29,0),(30,0),(31,0),(32,0),(33,0),(34,0),(35,0),(36,0),(37,0),(38,0),(39,0),(40,0),(41,0),(42,0),(43,0),(44,0),(45,0)]
abbrev Zl2:List (Nat × Nat):=[(0,0),(2,0),(3,0),(4,0),(5,0),(6,0),(7,0),(8,0),(9,0),(10,0),(11,0),(12,0),(14,0),(15,0),(16,0),(17,0),(18,0),(19,0),(20,0),(22,0),(23,0),(24,0),(25,0),(26,0),(27,0),(28,0),(30,0),(31,0),(32,0),(33,0),(34,0),(35,0),(36,0),(38,0),(39,0),(40,0),(41,0),(1,1),(13,1),(21,1),(29,1),(37,1),(42,0),(43,0),(44,0),(45,0)]
abbrev Zl3:List (Nat × Nat):=[(0,0),(1,0),(2,0),(3,0),(4,0),(5,0),(6,0),(7,0),(8,0),(9,0),(10,0),(11,0),(12,0),(13,0),(14,0)]
abbrev Zl4:List (Nat × Nat):=[(0,0),(1,0),(2,0),(3,0),(4,0),(5,0),(6,0),(7,0),(8,0),(9,0),(10,0),(11,0),(12,0),(13,0),(14,0),(15,0),(16,0),(17,0),(18,0),(19,0),(20,0),(21,0),(22,0),(23,0),(24,0),(25,0),(26,0),(27,0),(29,0),(30,0),(28,1),(31,0),(32,0),(33,0)]
abbrev Zl5:List (Nat × Nat):=[(0,0),(1,0),(2,0),(3,0),(4,0),(5,0),(6,0),(7,0),(8,0),(9,0),(10,0),(11,0)]
abbrev Zl6:List (Nat × Nat):=[(0,0),(5,0),(6,0),(7,0),(1,1),(2,1),(3,1),(4,1),(8,0),(9,0),(10,0)]
abbrev Zl7:List (Nat × Nat):=[(0,0),(1,0),(2,0),(3,0),(4,0),(5,0),(6,0),(7,0),(8,0),(9,0),(10,0)]
abbrev Zl8:List (Nat × Nat):=[(0,0),(1,0),(2,0),(3,0),(4,0),(5,0),(6,0),(7,0),(8,0),(9,0),(10,0),(11,0),(12,0),(13,0),(14,0),(15,0),(16,0),(17,0)]
abbrev Zl9:List (Nat × Nat):=[(0,0),(1,0),(2,0),(3,0),(4,0),(5,0),(6,0),(7,0),(8,0),(9,0),(10,0),(11,0),(12,0),(13,0)]
abbrev Zl10:List (Nat × Nat):=[(0,0),(1,0),(2,0),(3,0),(4,0),(5,0),(6,0)]
abbrev Zl11:List (Nat × Nat):=[(0,0),(1,0),(2,0),(3,0),(4,0),(5,0),(6,0),(7,0),(8,0),(9,0)]
abbrev Zl12:List (Nat × Nat):=[(0,0),(1,0),(2,0),(3,0),(4,0),(5,0),(6,0),(7,0),(8,0),(9,0),(10,0),(11,0),(12,0),(13,0),(14,0),(15,0),(16,0),(17,0),(18,0),(19,0),(20,0),(21,0),(22,0),(23,0),(24,0),(25,0),(26,0)]
abbrev Zl13:List (Nat × Nat):=[(0,0),(1,0),(2,0),(3,0),(4,0),(5,0),(6,0),(7,0),(8,0)]
abbrev Zl14:List (Nat × Nat):=[(0,0),(1,0),(2,0),(3,0),(4,0),(5,0),(6,0),(7,0),(8,0),(9,0),(10,0),(11,0),(12,0)]
abbrev Zl15:List (Nat × Nat):=[(0,0),(1,0),(2,0),(3,0),(4,0),(5,0),(6,0),(7,0)]
abbrev Zl16:List (Nat × Nat):=[(0,0),(4,0),(5,0),(6,0),(1,1),(2,1),(3,1),(7,0),(8,0),(9,0)]
abbrev Zl17:List (Nat × Nat):=[(1,0),(2,0),(3,0),(4,0),(5,0),(6,0),(7,0),(8,0),(9,0),(10,0),(11,0),(12,0),(0,1),(13,0),(14,0),(15,0),(16,0)]
abbrev Zl18:List (Nat × Nat):=[(1,0),(2,0),(3,0),(4,0),(5,0),(6,0),(7,0),(8,0),(9,0),(10,0),(0,1),(11,0),(12,0),(13,0),(14,0)]
abbrev Zl19:List (Nat × Nat):=[(8,0),(9,0),(10,0),(11,0),(12,0),(13,0),(14,0),(15,0),(16,0),(17,0),(18,0),(19,0),(20,0),(21,0),(22,0),(23,0),(24,0),(25,0),(26,0),(27,0),(28,0),(29,0),(30,0),(31,0),(32,0),(33,0),(0,1),(1,1),(2,1),(3,1),(4,1),(5,1),(6,1),(7,1),(34,0),(35,0),(36,0),(37,0),(38,0)]
abbrev Zl20:List (Nat × Nat):=[(2,0),(3,0),(4,0),(5,0),(6,0),(7,0),(8,0),(9,0),(10,0),(11,0),(12,0),(13,0),(14,0),(0,1),(1,1),(15,0),(16,0),(17,0),(18,0),(19,0)]
abbrev Zl21:List (Nat × Nat):=[(1,0),(2,0),(3,0),(4,0),(5,0),(6,0),(7,0),(8,0),(9,0),(10,0),(11,0),(12,0),(0,1),(13,0),(14,0),(15,0),(16,0),(17,0),(18,0)]
abbrev Zl22:List (Nat × Nat):=[(0,0),(4,0),(5,0),(8,0),(9,0),(10,0),(1,1),(2,1),(3,1),(6,1),(7,1),(11,1),(12,1),(13,0),(14,0)]
abbrev c4(l:List Nat):List Nat:=0::1::2::3::l
abbrev c15(l:List Nat):List Nat:=0::1::2::3::4::5::6::7::8::9::10::11::12::13::14::l
abbrev n4(l:List (Option Ob)):List (Option Ob):=none::none::none::none::l
abbrev n15(l:List (Option Ob)):List (Option Ob):=none::none::none::none::none::none::none::none::none::none::none::none::none::none::none::l
theorem Zv{n0:Nat}{v:SV}{H:Hv}{K:SV->Hv->Prop}(ts:List Nat){v':SV}{Hl:Hv}(hK:K v' Hl)(hf:Fits (ren ts) H Hl 0)(hv:v'.mp (ren ts)=v:=by rfl)(hn:nodupN ts=true:=by rfl)(hlt:allLt ts (len H)=true:=by rfl)(hlen:Nat.ble (len ts) (len Hl)=true:=by rfl)(hl:Nat.ble (len Hl) 60000=true:=by rfl)(hid:headId n0 0 ts=true:=by rfl):Lv n0 v H K:=⟨ts,v',Hl,hK,hv,hf,hn,hlt,hlen,hl,hid⟩
theorem Zw{F:Fx}{fr:Fv}{ds:List Nat}{H:Hv}{K:Kc}{id:Nat}{ops:Array Oper}(items:List (Nat × Nat))(h:vDraw cx ops.toList (fun fr H=>K .normal fr ds H) items [H] fr H)(hr:regOk cx.P ops items=true:=by kernel_rfl)(hc:Ev.codeOk F.n (.region id ops true)=true:=by kernel_rfl)(hn:Nat.ble F.n 256=true:=by rfl):DrawG cx F id ops fr ds H K:=.by cx_ok items hr hc hn h
theorem Ze{f:FuncId}{fn:Func}{c:Code}{args:List SV}{H:Hv}{K:SV->Hv->Prop}(hf':cx.P.funcs[f]?=some fn)(hc:fn.body=some c)(h:∀g w,vCode cx ⟨fn.ntmps,none,fun _=>[],g,H,w⟩ c (argsV 0 args) [] H (retK cx (len H) fn.results.toList K))(hco:Ev.codeOk fn.ntmps c=true:=by kernel_rfl)(hle:Nat.ble (len args) fn.ntmps=true:=by rfl)(hl:Nat.ble (len H) 60000=true:=by rfl):CallG cx.P f args H K:=.enter cx_ok _ hf' hc hco hle hl h
end Go.Proofs.YtgdmlkgjpcnelaaGreatDoor
