/-
  Texts of the executors: CxTab, CxEnv, CxFn, CxWorks, HxTab, HxC, HxLib, V7, HxJoin.
-/
import Derived.Test.YtmnaiddobipclaaSenseAlone6
import Derived.Test.YtmnaiddobipclaaProg
import Derived.ChangeKeysEq
import Derived.KernelRfl
set_option linter.all false
namespace CX
open Go Go.Proofs
noncomputable def ty1:Ty:=⟨false,1,8,[.nilf],(.n .e (some (.nilf)) .e),.other,false⟩
noncomputable def ty2:Ty:=⟨false,1,8,[.int .i64 0],(.n .e (some (.int .i64 0)) .e),.int .i64,false⟩
noncomputable def ty3:Ty:=⟨false,1,8,[.int .i64 0],(.n .e (some (.int .i64 0)) .e),.int .i64,false⟩
noncomputable def ty4:Ty:=⟨false,1,1,[.bool false],(.n .e (some (.bool false)) .e),.bool,false⟩
noncomputable def ty5:Ty:=⟨false,1,1,[.int .u8 0],(.n .e (some (.int .u8 0)) .e),.int .u8,false⟩
noncomputable def ty6:Ty:=⟨false,1,1,[.int .u8 0],(.n .e (some (.int .u8 0)) .e),.int .u8,false⟩
noncomputable def ty7:Ty:=⟨true,4,24,[.int .i64 0,.int .i64 0,.bool false,.int .u8 0],(.n (.n (.n .e (some (.int .u8 0)) .e) (some (.int .i64 0)) .e) (some (.int .i64 0)) (.n .e (some (.bool false)) .e)),.struct [(0,2),(1,3),(2,4),(3,6)],true⟩
noncomputable def ty8:Ty:=⟨true,4,24,[.int .i64 0,.int .i64 0,.bool false,.int .u8 0],(.n (.n (.n .e (some (.int .u8 0)) .e) (some (.int .i64 0)) .e) (some (.int .i64 0)) (.n .e (some (.bool false)) .e)),.struct [(0,2),(1,3),(2,4),(3,6)],true⟩
noncomputable def ty9:Ty:=⟨false,1,16,[.str []],(.n .e (some (.str [])) .e),.str,false⟩
noncomputable def ty10:Ty:=⟨false,1,16,[.str []],(.n .e (some (.str [])) .e),.str,false⟩
noncomputable def ty11:Ty:=⟨false,1,16,[.str []],(.n .e (some (.str [])) .e),.str,false⟩
noncomputable def ty12:Ty:=⟨false,1,8,[.int .u64 0],(.n .e (some (.int .u64 0)) .e),.int .u64,false⟩
noncomputable def ty13:Ty:=⟨true,2,24,[.str [],.int .u64 0],(.n (.n .e (some (.int .u64 0)) .e) (some (.str [])) .e),.struct [(0,9),(1,12)],false⟩
noncomputable def ty14:Ty:=⟨true,2,24,[.str [],.int .u64 0],(.n (.n .e (some (.int .u64 0)) .e) (some (.str [])) .e),.struct [(0,9),(1,12)],false⟩
noncomputable def ty15:Ty:=⟨false,1,8,[.nilp],(.n .e (some (.nilp)) .e),.ptr 171,false⟩
noncomputable def ty16:Ty:=⟨false,1,8,[.nilp],(.n .e (some (.nilp)) .e),.ptr 174,false⟩
noncomputable def ty17:Ty:=⟨false,1,8,[.nilp],(.n .e (some (.nilp)) .e),.ptr 182,false⟩
noncomputable def ty18:Ty:=⟨true,1,8,[.nilp],(.n .e (some (.nilp)) .e),.struct [(0,17)],false⟩
noncomputable def ty19:Ty:=⟨true,1,8,[.nilp],(.n .e (some (.nilp)) .e),.struct [(0,17)],false⟩
noncomputable def ty20:Ty:=⟨false,1,16,[.nili],(.n .e (some (.nili)) .e),.iface,false⟩
noncomputable def ty21:Ty:=⟨false,1,4,[.int .i32 0],(.n .e (some (.int .i32 0)) .e),.int .i32,false⟩
noncomputable def ty22:Ty:=⟨true,3,24,[.int .i64 0,.int .i64 0,.int .i64 0],(.n (.n .e (some (.int .i64 0)) .e) (some (.int .i64 0)) (.n .e (some (.int .i64 0)) .e)),.struct [(0,3),(1,3),(2,3)],true⟩
noncomputable def ty23:Ty:=⟨true,3,24,[.int .i64 0,.int .i64 0,.int .i64 0],(.n (.n .e (some (.int .i64 0)) .e) (some (.int .i64 0)) (.n .e (some (.int .i64 0)) .e)),.struct [(0,3),(1,3),(2,3)],true⟩
noncomputable def ty24:Ty:=⟨false,1,24,[.nils],(.n .e (some (.nils)) .e),.slice 25,false⟩
noncomputable def ty25:Ty:=⟨false,1,24,[.nils],(.n .e (some (.nils)) .e),.slice 3,false⟩
noncomputable def ty26:Ty:=⟨false,1,24,[.nils],(.n .e (some (.nils)) .e),.slice 65,false⟩
noncomputable def ty27:Ty:=⟨false,1,8,[.nilf],(.n .e (some (.nilf)) .e),.other,false⟩
noncomputable def ty28:Ty:=⟨false,1,8,[.int .i64 0],(.n .e (some (.int .i64 0)) .e),.int .i64,false⟩
noncomputable def ty30:Ty:=⟨false,1,8,[.nilf],(.n .e (some (.nilf)) .e),.other,false⟩
noncomputable def ty31:Ty:=⟨true,3,24,[.int .i64 0,.int .i64 0,.int .i64 0],(.n (.n .e (some (.int .i64 0)) .e) (some (.int .i64 0)) (.n .e (some (.int .i64 0)) .e)),.struct [(0,3),(1,3),(2,3)],true⟩
noncomputable def ty32:Ty:=⟨false,1,8,[.nilf],(.n .e (some (.nilf)) .e),.other,false⟩
noncomputable def ty33:Ty:=⟨false,1,8,[.nilf],(.n .e (some (.nilf)) .e),.other,false⟩
noncomputable def ty34:Ty:=⟨false,1,8,[.nilf],(.n .e (some (.nilf)) .e),.other,false⟩
noncomputable def ty36:Ty:=⟨false,1,8,[.nilf],(.n .e (some (.nilf)) .e),.other,false⟩
noncomputable def ty37:Ty:=⟨false,1,8,[.nilf],(.n .e (some (.nilf)) .e),.other,false⟩
noncomputable def ty38:Ty:=⟨false,1,8,[.nilf],(.n .e (some (.nilf)) .e),.other,false⟩
noncomputable def ty39:Ty:=⟨false,1,8,[.nilf],(.n .e (some (.nilf)) .e),.other,false⟩
noncomputable def ty40:Ty:=⟨false,1,8,[.nilf],(.n .e (some (.nilf)) .e),.other,false⟩
noncomputable def ty41:Ty:=⟨false,1,8,[.nilf],(.n .e (some (.nilf)) .e),.other,false⟩
noncomputable def ty42:Ty:=⟨true,2,16,[.int .i64 0,.int .i64 0],(.n (.n .e (some (.int .i64 0)) .e) (some (.int .i64 0)) .e),.struct [(0,3),(1,3)],true⟩
noncomputable def ty43:Ty:=⟨true,2,16,[.int .i64 0,.int .i64 0],(.n (.n .e (some (.int .i64 0)) .e) (some (.int .i64 0)) .e),.struct [(0,3),(1,3)],true⟩
noncomputable def ty44:Ty:=⟨true,2,16,[.int .i64 0,.int .i64 0],(.n (.n .e (some (.int .i64 0)) .e) (some (.int .i64 0)) .e),.struct [(0,3),(1,3)],true⟩
noncomputable def ty45:Ty:=⟨true,2,16,[.int .i64 0,.int .i64 0],(.n (.n .e (some (.int .i64 0)) .e) (some (.int .i64 0)) .e),.struct [(0,3),(1,3)],true⟩
noncomputable def ty46:Ty:=⟨false,1,8,[.nilf],(.n .e (some (.nilf)) .e),.other,false⟩
noncomputable def ty47:Ty:=⟨true,2,16,[.int .i64 0,.int .i64 0],(.n (.n .e (some (.int .i64 0)) .e) (some (.int .i64 0)) .e),.struct [(0,3),(1,3)],true⟩
noncomputable def ty48:Ty:=⟨false,1,8,[.nilf],(.n .e (some (.nilf)) .e),.other,false⟩
noncomputable def ty49:Ty:=⟨false,1,8,[.nilf],(.n .e (some (.nilf)) .e),.other,false⟩
noncomputable def ty50:Ty:=⟨true,2,16,[.int .i64 0,.int .i64 0],(.n (.n .e (some (.int .i64 0)) .e) (some (.int .i64 0)) .e),.struct [(0,3),(1,3)],true⟩
noncomputable def ty51:Ty:=⟨false,1,8,[.nilf],(.n .e (some (.nilf)) .e),.other,false⟩
noncomputable def ty52:Ty:=⟨false,1,8,[.nilf],(.n .e (some (.nilf)) .e),.other,false⟩
noncomputable def ty53:Ty:=⟨false,1,24,[.nils],(.n .e (some (.nils)) .e),.slice 5,false⟩
noncomputable def ty55:Ty:=⟨false,1,8,[.nilf],(.n .e (some (.nilf)) .e),.other,false⟩
noncomputable def ty56:Ty:=⟨false,1,8,[.nilf],(.n .e (some (.nilf)) .e),.other,false⟩
noncomputable def ty57:Ty:=⟨false,1,8,[.nilf],(.n .e (some (.nilf)) .e),.other,false⟩
noncomputable def ty58:Ty:=⟨false,1,8,[.nilf],(.n .e (some (.nilf)) .e),.other,false⟩
noncomputable def ty59:Ty:=⟨false,1,8,[.nilf],(.n .e (some (.nilf)) .e),.other,false⟩
noncomputable def ty60:Ty:=⟨false,1,8,[.nilf],(.n .e (some (.nilf)) .e),.other,false⟩
noncomputable def ty61:Ty:=⟨false,1,8,[.nilf],(.n .e (some (.nilf)) .e),.other,false⟩
noncomputable def ty62:Ty:=⟨false,1,8,[.nilf],(.n .e (some (.nilf)) .e),.other,false⟩
noncomputable def ty63:Ty:=⟨false,1,8,[.nilm],(.n .e (some (.nilm)) .e),.map 65 4,false⟩
noncomputable def ty64:Ty:=⟨true,2,16,[.int .i64 0,.int .i64 0],(.n (.n .e (some (.int .i64 0)) .e) (some (.int .i64 0)) .e),.struct [(0,3),(1,3)],true⟩
noncomputable def ty65:Ty:=⟨true,2,16,[.int .i64 0,.int .i64 0],(.n (.n .e (some (.int .i64 0)) .e) (some (.int .i64 0)) .e),.struct [(0,3),(1,3)],true⟩
noncomputable def ty66:Ty:=⟨false,1,8,[.nilf],(.n .e (some (.nilf)) .e),.other,false⟩
noncomputable def ty67:Ty:=⟨false,1,2,[.int .u16 0],(.n .e (some (.int .u16 0)) .e),.int .u16,false⟩
noncomputable def ty68:Ty:=⟨false,1,24,[.nils],(.n .e (some (.nils)) .e),.slice 69,false⟩
noncomputable def ty69:Ty:=⟨false,1,2,[.int .i16 0],(.n .e (some (.int .i16 0)) .e),.int .i16,false⟩
noncomputable def ty70:Ty:=⟨false,1,8,[.nilf],(.n .e (some (.nilf)) .e),.other,false⟩
noncomputable def ty71:Ty:=⟨false,1,8,[.nilf],(.n .e (some (.nilf)) .e),.other,false⟩
noncomputable def ty72:Ty:=⟨false,1,24,[.nils],(.n .e (some (.nils)) .e),.slice 137,false⟩
noncomputable def ty73:Ty:=⟨false,1,4,[.int .u32 0],(.n .e (some (.int .u32 0)) .e),.int .u32,false⟩
noncomputable def ty74:Ty:=⟨false,1,8,[.nilf],(.n .e (some (.nilf)) .e),.other,false⟩
noncomputable def ty75:Ty:=⟨false,1,8,[.nilf],(.n .e (some (.nilf)) .e),.other,false⟩
noncomputable def ty76:Ty:=⟨false,1,8,[.nilf],(.n .e (some (.nilf)) .e),.other,false⟩
noncomputable def ty77:Ty:=⟨false,1,8,[.nilp],(.n .e (some (.nilp)) .e),.ptr 85,false⟩
noncomputable def ty78:Ty:=⟨false,1,8,[.nilf],(.n .e (some (.nilf)) .e),.other,false⟩
noncomputable def ty79:Ty:=⟨false,1,8,[.nilf],(.n .e (some (.nilf)) .e),.other,false⟩
noncomputable def ty80:Ty:=⟨false,1,8,[.nilf],(.n .e (some (.nilf)) .e),.other,false⟩
noncomputable def ty81:Ty:=⟨false,1,8,[.nilf],(.n .e (some (.nilf)) .e),.other,false⟩
noncomputable def ty82:Ty:=⟨false,1,8,[.nilf],(.n .e (some (.nilf)) .e),.other,false⟩
noncomputable def ty83:Ty:=⟨false,1,8,[.nilf],(.n .e (some (.nilf)) .e),.other,false⟩
noncomputable def ty84:Ty:=⟨true,2,32,[.bool false,.nils],(.n (.n .e (some (.nils)) .e) (some (.bool false)) .e),.struct [(0,4),(1,26)],false⟩
noncomputable def ty85:Ty:=⟨true,2,32,[.bool false,.nils],(.n (.n .e (some (.nils)) .e) (some (.bool false)) .e),.struct [(0,4),(1,26)],false⟩
noncomputable def ty86:Ty:=⟨false,1,24,[.nils],(.n .e (some (.nils)) .e),.slice 77,false⟩
noncomputable def ty87:Ty:=⟨false,1,8,[.nilf],(.n .e (some (.nilf)) .e),.other,false⟩
noncomputable def ty88:Ty:=⟨false,1,8,[.nilf],(.n .e (some (.nilf)) .e),.other,false⟩
noncomputable def ty89:Ty:=⟨false,1,8,[.nilf],(.n .e (some (.nilf)) .e),.other,false⟩
noncomputable def ty90:Ty:=⟨false,1,8,[.nilf],(.n .e (some (.nilf)) .e),.other,false⟩
noncomputable def ty91:Ty:=⟨false,1,8,[.nilf],(.n .e (some (.nilf)) .e),.other,false⟩
noncomputable def ty92:Ty:=⟨false,1,8,[.nilf],(.n .e (some (.nilf)) .e),.other,false⟩
noncomputable def ty93:Ty:=⟨false,1,8,[.nilf],(.n .e (some (.nilf)) .e),.other,false⟩
noncomputable def ty94:Ty:=⟨false,1,8,[.nilf],(.n .e (some (.nilf)) .e),.other,false⟩
noncomputable def ty95:Ty:=⟨false,1,8,[.nilf],(.n .e (some (.nilf)) .e),.other,false⟩
noncomputable def ty96:Ty:=⟨false,1,8,[.nilf],(.n .e (some (.nilf)) .e),.other,false⟩
noncomputable def ty97:Ty:=⟨false,1,8,[.nilf],(.n .e (some (.nilf)) .e),.other,false⟩
noncomputable def ty98:Ty:=⟨false,1,8,[.nilm],(.n .e (some (.nilm)) .e),.map 3 3,false⟩
noncomputable def ty99:Ty:=⟨false,1,8,[.nilf],(.n .e (some (.nilf)) .e),.other,false⟩
noncomputable def ty100:Ty:=⟨false,1,8,[.nilf],(.n .e (some (.nilf)) .e),.other,false⟩
noncomputable def ty101:Ty:=⟨false,1,8,[.nilf],(.n .e (some (.nilf)) .e),.other,false⟩
noncomputable def ty103:Ty:=⟨false,1,8,[.nilf],(.n .e (some (.nilf)) .e),.other,false⟩
noncomputable def ty104:Ty:=⟨false,1,8,[.nilf],(.n .e (some (.nilf)) .e),.other,false⟩
noncomputable def ty105:Ty:=⟨false,1,8,[.nilf],(.n .e (some (.nilf)) .e),.other,false⟩
noncomputable def ty106:Ty:=⟨false,1,8,[.nilf],(.n .e (some (.nilf)) .e),.other,false⟩
noncomputable def ty107:Ty:=⟨false,1,8,[.int .u64 0],(.n .e (some (.int .u64 0)) .e),.int .u64,false⟩
noncomputable def ty108:Ty:=⟨false,1,8,[.nilf],(.n .e (some (.nilf)) .e),.other,false⟩
noncomputable def ty109:Ty:=⟨false,1,8,[.nilf],(.n .e (some (.nilf)) .e),.other,false⟩
noncomputable def ty110:Ty:=⟨true,2,16,[.int .i64 0,.int .i64 0],(.n (.n .e (some (.int .i64 0)) .e) (some (.int .i64 0)) .e),.struct [(0,3),(1,3)],true⟩
noncomputable def ty111:Ty:=⟨true,2,16,[.int .i64 0,.int .i64 0],(.n (.n .e (some (.int .i64 0)) .e) (some (.int .i64 0)) .e),.struct [(0,3),(1,3)],true⟩
noncomputable def ty112:Ty:=⟨false,1,8,[.nilf],(.n .e (some (.nilf)) .e),.other,false⟩
noncomputable def ty113:Ty:=⟨false,1,8,[.nilf],(.n .e (some (.nilf)) .e),.other,false⟩
noncomputable def ty115:Ty:=⟨false,1,8,[.nilf],(.n .e (some (.nilf)) .e),.other,false⟩
noncomputable def ty116:Ty:=⟨true,2,2,[.int .u8 0,.int .u8 0],(.n (.n .e (some (.int .u8 0)) .e) (some (.int .u8 0)) .e),.arr 2 5,true⟩
noncomputable def ty117:Ty:=⟨false,1,8,[.nilf],(.n .e (some (.nilf)) .e),.other,false⟩
noncomputable def ty118:Ty:=⟨false,1,8,[.nilf],(.n .e (some (.nilf)) .e),.other,false⟩
noncomputable def ty119:Ty:=⟨false,1,8,[.nilf],(.n .e (some (.nilf)) .e),.other,false⟩
noncomputable def ty120:Ty:=⟨true,2,16,[.int .i64 0,.int .i64 0],(.n (.n .e (some (.int .i64 0)) .e) (some (.int .i64 0)) .e),.struct [(0,3),(1,3)],true⟩
noncomputable def ty121:Ty:=⟨true,2,16,[.int .i64 0,.int .i64 0],(.n (.n .e (some (.int .i64 0)) .e) (some (.int .i64 0)) .e),.struct [(0,3),(1,3)],true⟩
noncomputable def ty122:Ty:=⟨false,1,8,[.nilf],(.n .e (some (.nilf)) .e),.other,false⟩
noncomputable def ty123:Ty:=⟨false,1,8,[.nilf],(.n .e (some (.nilf)) .e),.other,false⟩
noncomputable def ty124:Ty:=⟨false,1,8,[.nilf],(.n .e (some (.nilf)) .e),.other,false⟩
noncomputable def ty125:Ty:=⟨false,1,8,[.nilf],(.n .e (some (.nilf)) .e),.other,false⟩
noncomputable def ty126:Ty:=⟨false,1,8,[.nilp],(.n .e (some (.nilp)) .e),.ptr 128,false⟩
noncomputable def ty127:Ty:=⟨true,3,40,[.nils,.int .i64 0,.bool false],(.n (.n .e (some (.int .i64 0)) .e) (some (.nils)) (.n .e (some (.bool false)) .e)),.struct [(0,53),(1,3),(2,4)],false⟩
noncomputable def ty128:Ty:=⟨true,3,40,[.nils,.int .i64 0,.bool false],(.n (.n .e (some (.int .i64 0)) .e) (some (.nils)) (.n .e (some (.bool false)) .e)),.struct [(0,53),(1,3),(2,4)],false⟩
noncomputable def ty129:Ty:=⟨false,1,8,[.nilf],(.n .e (some (.nilf)) .e),.other,false⟩
noncomputable def ty130:Ty:=⟨false,1,24,[.nils],(.n .e (some (.nils)) .e),.slice 26,false⟩
noncomputable def ty131:Ty:=⟨false,1,8,[.nilf],(.n .e (some (.nilf)) .e),.other,false⟩
noncomputable def ty132:Ty:=⟨false,1,8,[.nilf],(.n .e (some (.nilf)) .e),.other,false⟩
noncomputable def ty133:Ty:=⟨false,1,8,[.nilf],(.n .e (some (.nilf)) .e),.other,false⟩
noncomputable def ty134:Ty:=⟨false,1,8,[.nilf],(.n .e (some (.nilf)) .e),.other,false⟩
noncomputable def ty135:Ty:=⟨false,1,8,[.nilf],(.n .e (some (.nilf)) .e),.other,false⟩
noncomputable def ty136:Ty:=⟨false,1,8,[.nilf],(.n .e (some (.nilf)) .e),.other,false⟩
noncomputable def ty137:Ty:=⟨true,2,8,[.int .u32 0,.int .u32 0],(.n (.n .e (some (.int .u32 0)) .e) (some (.int .u32 0)) .e),.arr 2 73,true⟩
noncomputable def ty138:Ty:=⟨false,1,8,[.nilf],(.n .e (some (.nilf)) .e),.other,false⟩
noncomputable def ty139:Ty:=⟨false,1,8,[.nilf],(.n .e (some (.nilf)) .e),.other,false⟩
noncomputable def ty140:Ty:=⟨false,1,8,[.nilf],(.n .e (some (.nilf)) .e),.other,false⟩
noncomputable def ty141:Ty:=⟨false,1,8,[.nilf],(.n .e (some (.nilf)) .e),.other,false⟩
noncomputable def ty142:Ty:=⟨false,1,8,[.nilp],(.n .e (some (.nilp)) .e),.ptr 53,false⟩
noncomputable def ty143:Ty:=⟨false,1,8,[.nilf],(.n .e (some (.nilf)) .e),.other,false⟩
noncomputable def ty144:Ty:=⟨false,1,8,[.nilf],(.n .e (some (.nilf)) .e),.other,false⟩
noncomputable def ty145:Ty:=⟨false,1,8,[.nilp],(.n .e (some (.nilp)) .e),.ptr 121,false⟩
noncomputable def ty146:Ty:=⟨false,1,8,[.nilf],(.n .e (some (.nilf)) .e),.other,false⟩
noncomputable def ty147:Ty:=⟨false,1,8,[.nilf],(.n .e (some (.nilf)) .e),.other,false⟩
noncomputable def ty148:Ty:=⟨false,1,8,[.nilf],(.n .e (some (.nilf)) .e),.other,false⟩
noncomputable def ty149:Ty:=⟨false,1,8,[.nilf],(.n .e (some (.nilf)) .e),.other,false⟩
noncomputable def ty150:Ty:=⟨false,1,8,[.nilf],(.n .e (some (.nilf)) .e),.other,false⟩
noncomputable def ty151:Ty:=⟨false,1,8,[.nilf],(.n .e (some (.nilf)) .e),.other,false⟩
noncomputable def ty152:Ty:=⟨false,1,8,[.int .i64 0],(.n .e (some (.int .i64 0)) .e),.int .i64,false⟩
noncomputable def ty154:Ty:=⟨false,1,8,[.nilf],(.n .e (some (.nilf)) .e),.other,false⟩
noncomputable def ty155:Ty:=⟨false,1,8,[.nilf],(.n .e (some (.nilf)) .e),.other,false⟩
noncomputable def ty156:Ty:=⟨false,1,8,[.nilf],(.n .e (some (.nilf)) .e),.other,false⟩
noncomputable def ty157:Ty:=⟨false,1,8,[.nilf],(.n .e (some (.nilf)) .e),.other,false⟩
noncomputable def ty158:Ty:=⟨false,1,8,[.nilf],(.n .e (some (.nilf)) .e),.other,false⟩
noncomputable def ty159:Ty:=⟨false,1,8,[.nilf],(.n .e (some (.nilf)) .e),.other,false⟩
noncomputable def ty160:Ty:=⟨false,1,8,[.int .u64 0],(.n .e (some (.int .u64 0)) .e),.int .u64,false⟩
noncomputable def ty161:Ty:=⟨false,1,8,[.int .u64 0],(.n .e (some (.int .u64 0)) .e),.int .u64,false⟩
noncomputable def ty162:Ty:=⟨false,1,8,[.nilf],(.n .e (some (.nilf)) .e),.other,false⟩
noncomputable def ty163:Ty:=⟨false,1,8,[.nilf],(.n .e (some (.nilf)) .e),.other,false⟩
noncomputable def ty164:Ty:=⟨false,1,8,[.nilf],(.n .e (some (.nilf)) .e),.other,false⟩
noncomputable def ty165:Ty:=⟨false,1,8,[.nilp],(.n .e (some (.nilp)) .e),.ptr 3,false⟩
noncomputable def ty166:Ty:=⟨false,1,8,[.nilf],(.n .e (some (.nilf)) .e),.other,false⟩
noncomputable def ty167:Ty:=⟨false,1,8,[.nilp],(.n .e (some (.nilp)) .e),.ptr 161,false⟩
noncomputable def ty168:Ty:=⟨false,1,8,[.nilf],(.n .e (some (.nilf)) .e),.other,false⟩
noncomputable def ty169:Ty:=⟨false,1,8,[.nilf],(.n .e (some (.nilf)) .e),.other,false⟩
noncomputable def ty170:Ty:=⟨true,4,40,[.nilp,.nilp,.nilp,.str []],(.n (.n (.n .e (some (.str [])) .e) (some (.nilp)) .e) (some (.nilp)) (.n .e (some (.nilp)) .e)),.struct [(0,17),(1,17),(2,17),(3,9)],false⟩
noncomputable def ty171:Ty:=⟨true,4,40,[.nilp,.nilp,.nilp,.str []],(.n (.n (.n .e (some (.str [])) .e) (some (.nilp)) .e) (some (.nilp)) (.n .e (some (.nilp)) .e)),.struct [(0,17),(1,17),(2,17),(3,9)],false⟩
noncomputable def ty172:Ty:=⟨true,0,0,[],.e,.arr 0 16,false⟩
noncomputable def ty173:Ty:=⟨true,0,0,[],.e,.struct [(0,172)],false⟩
noncomputable def ty174:Ty:=⟨true,0,0,[],.e,.struct [(0,172)],false⟩
noncomputable def ty175:Ty:=⟨false,1,1,[.int .u8 0],(.n .e (some (.int .u8 0)) .e),.int .u8,false⟩
noncomputable def ty176:Ty:=⟨false,1,1,[.int .u8 0],(.n .e (some (.int .u8 0)) .e),.int .u8,false⟩
noncomputable def ty177:Ty:=⟨false,1,8,[.nilf],(.n .e (some (.nilf)) .e),.other,false⟩
noncomputable def ty178:Ty:=⟨false,1,8,[.nilp],(.n .e (some (.nilp)) .e),.ptr 5,false⟩
noncomputable def ty179:Ty:=⟨false,1,4,[.int .i32 0],(.n .e (some (.int .i32 0)) .e),.int .i32,false⟩
noncomputable def ty180:Ty:=⟨false,1,4,[.int .i32 0],(.n .e (some (.int .i32 0)) .e),.int .i32,false⟩
noncomputable def ty181:Ty:=⟨true,11,48,[.int .u64 0,.int .u64 0,.int .u32 0,.int .u8 0,.int .u8 0,.int .u8 0,.int .u8 0,.nilf,.nilp,.int .i32 0,.int .i32 0],(.n (.n (.n (.n .e (some (.nilf)) .e) (some (.int .u8 0)) .e) (some (.int .u64 0)) (.n (.n .e (some (.int .i32 0)) .e) (some (.int .u8 0)) .e)) (some (.int .u64 0)) (.n (.n (.n .e (some (.nilp)) .e) (some (.int .u8 0)) .e) (some (.int .u32 0)) (.n (.n .e (some (.int .i32 0)) .e) (some (.int .u8 0)) .e))),.struct [(0,12),(1,12),(2,73),(3,175),(4,5),(5,5),(6,176),(7,177),(8,178),(9,179),(10,180)],false⟩
noncomputable def ty182:Ty:=⟨true,11,48,[.int .u64 0,.int .u64 0,.int .u32 0,.int .u8 0,.int .u8 0,.int .u8 0,.int .u8 0,.nilf,.nilp,.int .i32 0,.int .i32 0],(.n (.n (.n (.n .e (some (.nilf)) .e) (some (.int .u8 0)) .e) (some (.int .u64 0)) (.n (.n .e (some (.int .i32 0)) .e) (some (.int .u8 0)) .e)) (some (.int .u64 0)) (.n (.n (.n .e (some (.nilp)) .e) (some (.int .u8 0)) .e) (some (.int .u32 0)) (.n (.n .e (some (.int .i32 0)) .e) (some (.int .u8 0)) .e))),.struct [(0,12),(1,12),(2,73),(3,175),(4,5),(5,5),(6,176),(7,177),(8,178),(9,179),(10,180)],false⟩
noncomputable def ty183:Ty:=⟨false,1,8,[.nilp],(.n .e (some (.nilp)) .e),.other,false⟩
noncomputable def tyT:T Ty:=(.n (.n (.n (.n (.n (.n (.n (.n .e (some ty127) .e) (some ty63) .e) (some ty31) (.n (.n .e (some ty159) .e) (some ty95) .e)) (some ty15) (.n (.n (.n .e (some ty143) .e) (some ty79) .e) (some ty47) (.n (.n .e (some ty175) .e) (some ty111) .e))) (some ty7) (.n (.n (.n (.n .e (some ty135) .e) (some ty71) .e) (some ty39) (.n (.n .e (some ty167) .e) (some ty103) .e)) (some ty23) (.n (.n (.n .e (some ty151) .e) (some ty87) .e) (some ty55) (.n (.n .e (some ty183) .e) (some ty119) .e)))) (some ty3) (.n (.n (.n (.n (.n .e (some ty131) .e) (some ty67) .e) none (.n (.n .e (some ty163) .e) (some ty99) .e)) (some ty19) (.n (.n (.n .e (some ty147) .e) (some ty83) .e) (some ty51) (.n (.n .e (some ty179) .e) (some ty115) .e))) (some ty11) (.n (.n (.n (.n .e (some ty139) .e) (some ty75) .e) (some ty43) (.n (.n .e (some ty171) .e) (some ty107) .e)) (some ty27) (.n (.n (.n .e (some ty155) .e) (some ty91) .e) (some ty59) (.n .e (some ty123) .e))))) (some ty1) (.n (.n (.n (.n (.n (.n .e (some ty129) .e) (some ty65) .e) (some ty33) (.n (.n .e (some ty161) .e) (some ty97) .e)) (some ty17) (.n (.n (.n .e (some ty145) .e) (some ty81) .e) (some ty49) (.n (.n .e (some ty177) .e) (some ty113) .e))) (some ty9) (.n (.n (.n (.n .e (some ty137) .e) (some ty73) .e) (some ty41) (.n (.n .e (some ty169) .e) (some ty105) .e)) (some ty25) (.n (.n .e (some ty89) .e) (some ty57) (.n .e (some ty121) .e)))) (some ty5) (.n (.n (.n (.n (.n .e (some ty133) .e) (some ty69) .e) (some ty37) (.n (.n .e (some ty165) .e) (some ty101) .e)) (some ty21) (.n (.n (.n .e (some ty149) .e) (some ty85) .e) (some ty53) (.n (.n .e (some ty181) .e) (some ty117) .e))) (some ty13) (.n (.n (.n (.n .e (some ty141) .e) (some ty77) .e) (some ty45) (.n (.n .e (some ty173) .e) (some ty109) .e)) none (.n (.n (.n .e (some ty157) .e) (some ty93) .e) (some ty61) (.n .e (some ty125) .e)))))) none (.n (.n (.n (.n (.n (.n (.n .e (some ty128) .e) (some ty64) .e) (some ty32) (.n (.n .e (some ty160) .e) (some ty96) .e)) (some ty16) (.n (.n (.n .e (some ty144) .e) (some ty80) .e) (some ty48) (.n (.n .e (some ty176) .e) (some ty112) .e))) (some ty8) (.n (.n (.n (.n .e (some ty136) .e) (some ty72) .e) (some ty40) (.n (.n .e (some ty168) .e) (some ty104) .e)) (some ty24) (.n (.n (.n .e (some ty152) .e) (some ty88) .e) (some ty56) (.n .e (some ty120) .e)))) (some ty4) (.n (.n (.n (.n (.n .e (some ty132) .e) (some ty68) .e) (some ty36) (.n (.n .e (some ty164) .e) (some ty100) .e)) (some ty20) (.n (.n (.n .e (some ty148) .e) (some ty84) .e) (some ty52) (.n (.n .e (some ty180) .e) (some ty116) .e))) (some ty12) (.n (.n (.n (.n .e (some ty140) .e) (some ty76) .e) (some ty44) (.n (.n .e (some ty172) .e) (some ty108) .e)) (some ty28) (.n (.n (.n .e (some ty156) .e) (some ty92) .e) (some ty60) (.n .e (some ty124) .e))))) (some ty2) (.n (.n (.n (.n (.n (.n .e (some ty130) .e) (some ty66) .e) (some ty34) (.n (.n .e (some ty162) .e) (some ty98) .e)) (some ty18) (.n (.n (.n .e (some ty146) .e) (some ty82) .e) (some ty50) (.n (.n .e (some ty178) .e) none .e))) (some ty10) (.n (.n (.n (.n .e (some ty138) .e) (some ty74) .e) (some ty42) (.n (.n .e (some ty170) .e) (some ty106) .e)) (some ty26) (.n (.n (.n .e (some ty154) .e) (some ty90) .e) (some ty58) (.n .e (some ty122) .e)))) (some ty6) (.n (.n (.n (.n (.n .e (some ty134) .e) (some ty70) .e) (some ty38) (.n (.n .e (some ty166) .e) none .e)) (some ty22) (.n (.n (.n .e (some ty150) .e) (some ty86) .e) none (.n (.n .e (some ty182) .e) (some ty118) .e))) (some ty14) (.n (.n (.n (.n .e (some ty142) .e) (some ty78) .e) (some ty46) (.n (.n .e (some ty174) .e) (some ty110) .e)) (some ty30) (.n (.n (.n .e (some ty158) .e) (some ty94) .e) (some ty62) (.n .e (some ty126) .e)))))))
noncomputable def fnT:T Func:=(.n (.n (.n (.n (.n (.n (.n .e (some Try.f63) .e) (some Try.f31) (.n .e (some Try.f95) .e)) (some Try.f15) (.n (.n .e (some Try.f79) .e) (some Try.f47) (.n .e (some Try.f111) .e))) (some Try.f7) (.n (.n (.n .e (some Try.f71) .e) (some Try.f39) (.n .e (some Try.f103) .e)) (some Try.f23) (.n (.n .e (some Try.f87) .e) (some Try.f55) .e))) (some Try.f3) (.n (.n (.n (.n .e (some Try.f67) .e) (some Try.f35) (.n .e (some Try.f99) .e)) (some Try.f19) (.n (.n .e (some Try.f83) .e) (some Try.f51) (.n .e (some Try.f115) .e))) (some Try.f11) (.n (.n (.n .e (some Try.f75) .e) (some Try.f43) (.n .e (some Try.f107) .e)) (some Try.f27) (.n (.n .e (some Try.f91) .e) (some Try.f59) .e)))) none (.n (.n (.n (.n (.n .e (some Try.f65) .e) (some Try.f33) (.n .e (some Try.f97) .e)) (some Try.f17) (.n (.n .e (some Try.f81) .e) (some Try.f49) (.n .e (some Try.f113) .e))) (some Try.f9) (.n (.n (.n .e (some Try.f73) .e) (some Try.f41) (.n .e (some Try.f105) .e)) (some Try.f25) (.n (.n .e (some Try.f89) .e) (some Try.f57) .e))) (some Try.f5) (.n (.n (.n (.n .e (some Try.f69) .e) (some Try.f37) (.n .e (some Try.f101) .e)) (some Try.f21) (.n (.n .e (some Try.f85) .e) (some Try.f53) (.n .e (some Try.f117) .e))) (some Try.f13) (.n (.n (.n .e (some Try.f77) .e) (some Try.f45) (.n .e (some Try.f109) .e)) (some Try.f29) (.n (.n .e (some Try.f93) .e) (some Try.f61) .e))))) none (.n (.n (.n (.n (.n (.n .e (some Try.f64) .e) (some Try.f32) (.n .e (some Try.f96) .e)) (some Try.f16) (.n (.n .e (some Try.f80) .e) (some Try.f48) (.n .e (some Try.f112) .e))) (some Try.f8) (.n (.n (.n .e (some Try.f72) .e) (some Try.f40) (.n .e (some Try.f104) .e)) (some Try.f24) (.n (.n .e (some Try.f88) .e) (some Try.f56) .e))) (some Try.f4) (.n (.n (.n (.n .e (some Try.f68) .e) (some Try.f36) (.n .e (some Try.f100) .e)) (some Try.f20) (.n (.n .e (some Try.f84) .e) (some Try.f52) (.n .e (some Try.f116) .e))) (some Try.f12) (.n (.n (.n .e (some Try.f76) .e) (some Try.f44) (.n .e (some Try.f108) .e)) (some Try.f28) (.n (.n .e (some Try.f92) .e) (some Try.f60) .e)))) (some Try.f2) (.n (.n (.n (.n (.n .e (some Try.f66) .e) (some Try.f34) (.n .e (some Try.f98) .e)) (some Try.f18) (.n (.n .e (some Try.f82) .e) (some Try.f50) (.n .e (some Try.f114) .e))) (some Try.f10) (.n (.n (.n .e (some Try.f74) .e) (some Try.f42) (.n .e (some Try.f106) .e)) (some Try.f26) (.n (.n .e (some Try.f90) .e) (some Try.f58) .e))) (some Try.f6) (.n (.n (.n (.n .e (some Try.f70) .e) (some Try.f38) (.n .e (some Try.f102) .e)) (some Try.f22) (.n (.n .e (some Try.f86) .e) (some Try.f54) (.n .e (some Try.f118) .e))) (some Try.f14) (.n (.n (.n .e (some Try.f78) .e) (some Try.f46) (.n .e (some Try.f110) .e)) (some Try.f30) (.n (.n .e (some Try.f94) .e) (some Try.f62) .e))))))
noncomputable def env:Env:=⟨fun t=>match Nat.blt t 184 with |true=>tyT.get t |false=>none,fun f=>fnT.get f,fun _=>none,fun _=>none⟩
end CX

namespace CX
open Go
noncomputable section
def zOk:V→Value→Bool
 |.int k n,.int k' n'=>kindEq k k' && ieq n n'
 |.bool false,.bool false=>true
 |.str [],.string s=>Nat.beq s.size 0
 |.nils,.slice none 0 0=>true
 |.nilp,.pointer none=>true
 |.nilf,.nilFunc=>true
 |.nili,.nilIface=>true
 |.nilm,.map none=>true
 |_,_=>false
def zOks:List V→List Value→Bool
 |[],[]=>true
 |k :: ks,v :: vs=>zOk k v && zOks ks vs
 |_,_=>false
def sameZ:V→V→Bool
 |.int k n,.int k' n'=>kindEq k k' && ieq n n'
 |.bool false,.bool false=>true
 |.str [],.str []=>true
 |.nils,.nils=>true
 |.nilp,.nilp=>true
 |.nilf,.nilf=>true
 |.nili,.nili=>true
 |.nilm,.nilm=>true
 |_,_=>false
def ztOk (t:T V):Nat→List V→Bool
 |_,[]=>true
 |i,v :: l=>(match t.get i with |some u=>sameZ u v |none=>false) && ztOk t (Nat.succ i) l
def fsEq:List Field→List (Nat×Nat)→Bool
 |[],[]=>true
 |f :: r,(o,t) :: s=>Nat.beq f.offset o && Nat.beq f.type t && fsEq r s
 |_,_=>false
def kdChk (P:Program) (kd:TK) (d:TypeDesc):Bool:=
 match kd with
 |.other=>match d with
  |.interface _=>false
  |_=>true
 |.int k=>match d with
  |.int k'=>kindEq k k'
  |_=>false
 |.bool=>match d with
  |.bool=>true
  |_=>false
 |.str=>match d with
  |.string=>true
  |_=>false
 |.struct fs=>match d with
  |.struct fields=>fsEq fields.toList fs && fields.toList.all fun f=>(P.info? f.type).isSome
  |_=>false
 |.arr n e=>match d with
  |.array n' e'=>Nat.beq n n' && Nat.beq e e'
  |_=>false
 |.slice e=>match d with
  |.slice e'=>Nat.beq e e'
  |_=>false
 |.map k e=>match d with
  |.map k' e'=>Nat.beq k k' && Nat.beq e e'
  |_=>false
 |.ptr e=>match d with
  |.pointer e'=>Nat.beq e e'
  |_=>false
 |.iface=>true
def sKind (P:Program) (z:V) (t:Nat):Bool:=
 match z with
 |.int _ _=>match P.underlying t with
  |some (.int _)=>true
  |_=>false
 |.bool _=>match P.underlying t with
  |some .bool=>true
  |_=>false
 |.str _=>match P.underlying t with
  |some .string=>true
  |_=>false
 |_=>false
def chkF (P:Program):List Field→List V→Nat→Bool
 |[],[],_=>true
 |f :: fs,z :: zs,i=>(f.name != "_") && Nat.beq f.offset i && sKind P z f.type && chkF P fs zs (Nat.succ i)
 |_,_,_=>false
def chkF1 (P:Program):List Field→List V→Nat→Bool
 |[],zs,_=>zs.isEmpty
 |f :: fs,zs,i=>match zs with
  |[]=>false
  |z :: zs'=>match (f.name != "_") && Nat.beq f.offset i with
   |false=>false
   |true=>match sKind P z f.type with
    |true=>chkF1 P fs zs' (Nat.succ i)
    |false=>match P.underlying f.type,P.info? f.type with
     |some (.struct fields'),some inf=>!P.stoodInHeld f.type && Nat.ble inf.size (len (z :: zs')) && chkF P fields'.toList ((z :: zs').take inf.size) 0 && chkF1 P fs ((z :: zs').drop inf.size) (Nat.add i inf.size)
     |_,_=>false
def eqChk (P:Program) (t:Nat) (ty:Ty) (d:TypeDesc):Bool:=
 match ty.eqp with
 |false=>true
 |true=>!P.eqGuardType P.depth t && (match d with
  |.struct fields=>!P.stoodInHeld t && chkF1 P fields.toList ty.zero 0
  |.array n e=>(P.info? e).isSome && Nat.beq (P.cellsOf e) 1 && Nat.beq (len ty.zero) n && ty.zero.all fun z=>sKind P z e
  |_=>false)
def tyChk (P:Program) (t:Nat) (ty:Ty):Bool:=
 match P.info? t,P.underlying t with
 |some i,some d=>
  Nat.beq i.size ty.size && Nat.beq i.bytes ty.bytes &&
   (match i.zero with
    |some z=>zOks ty.zero z.cells.toList && (match z with |.agg _=>ty.agg |_=>!ty.agg)
    |none=>false) &&
   Nat.beq (len ty.zero) ty.size && ztOk ty.zt 0 ty.zero && (isAggD d == ty.agg) && kdChk P ty.kd d && eqChk P t ty d
 |_,_=>false
end
theorem zOk_ok {v:V} {u:Value} (h:zOk v u=true):one1 v=true∧∀ρ n,Rv ρ n v u:=by
 unfold zOk at h
 split at h
 ·simp only [Bool.and_eq_true] at h
  have h1:=kindEq_ok h.1
  have h2:=h.2
  rw [ieq_eq,beq_iff_eq] at h2
  subst h1 h2
  exact ⟨rfl,fun ρ n=>by simp [Rv]⟩
 ·exact ⟨rfl,fun ρ n=>by simp [Rv]⟩
 ·rename_i s
  have:s.size=0:=by simpa using h
  have hs:s=ByteArray.empty:=ByteArray.ext (Array.eq_empty_of_size_eq_zero this)
  exact ⟨rfl,fun ρ n=>by simp only [Rv];exact ⟨by simp,by rw [hs];rfl⟩⟩
 all_goals first |(cases h;done) |exact ⟨rfl,fun ρ n=>by simp [Rv]⟩
theorem zOks_ok:∀(l:List V) (us:List Value),zOks l us=true→(∀v∈l,one1 v=true)∧∀ρ n,RvL ρ n l us
 |[],[],_=>⟨by simp,fun _ _=>by simp [RvL]⟩
 |v :: l,u :: us,h=>by
  simp only [zOks,Bool.and_eq_true] at h
  obtain ⟨h1,h2⟩:=zOk_ok h.1
  obtain ⟨h3,h4⟩:=zOks_ok l us h.2
  refine ⟨fun x hx=>?_,fun ρ n=>by simp only [RvL];exact ⟨h2 ρ n,h4 ρ n⟩⟩
  rcases List.mem_cons.1 hx with rfl |hx
  ·exact h1
  ·exact h3 x hx
 |[],_ :: _,h=>by simp [zOks] at h
 |_ :: _,[],h=>by simp [zOks] at h
theorem sameZ_ok {a b:V} (h:sameZ a b=true):a=b:=by
 unfold sameZ at h
 split at h
 ·simp only [Bool.and_eq_true] at h
  have h1:=kindEq_ok h.1
  have h2:=h.2
  rw [ieq_eq,beq_iff_eq] at h2
  subst h1 h2;rfl
 all_goals first |rfl |cases h
theorem ztOk_ok {t:T V}:∀(l:List V) (i:Nat),ztOk t i l=true→∀j,j < l.length→t.get (i+j)=l[j]?
 |[],_,_,j,hj=>by simp at hj
 |v :: l,i,h,j,hj=>by
  simp only [ztOk,Bool.and_eq_true] at h
  cases j with
  |zero=>
   have h1:=h.1
   split at h1
   ·rename_i u hu
    rw [Nat.add_zero,hu,sameZ_ok h1];rfl
   ·cases h1
  |succ j=>
   have:=ztOk_ok l (Nat.succ i) h.2 j (by simpa using hj)
   rw [show i+(j+1)=Nat.succ i+j by omega,this];rfl
theorem fsEq_ok:∀(l:List Field) (fs:List (Nat×Nat)),fsEq l fs=true→l.map (fun f=>(f.offset,f.type))=fs
 |[],[],_=>rfl
 |f :: r,(o,t) :: s,h=>by
  simp only [fsEq,Bool.and_eq_true,Nat.beq_eq] at h
  rw [List.map_cons,fsEq_ok r s h.2,h.1.1,h.1.2]
 |[],_ :: _,h=>by simp [fsEq] at h
 |_ :: _,[],h=>by simp [fsEq] at h
theorem kdChk_ok {P:Program} {kd:TK} {d:TypeDesc} (h:kdChk P kd d=true):KdOk P kd d:=by
 cases kd with
 |other=>
  intro ms e
  subst e
  simp [kdChk] at h
 |int k=>
  simp only [kdChk] at h
  split at h
  ·rw [kindEq_ok h];rfl
  ·cases h
 |bool=>simp only [kdChk] at h;split at h;rfl;cases h
 |str=>simp only [kdChk] at h;split at h;rfl;cases h
 |struct fs=>
  simp only [kdChk] at h
  split at h
  ·rename_i fields
   simp only [Bool.and_eq_true] at h
   refine ⟨fields,rfl,fsEq_ok _ _ h.1,fun f hf=>?_⟩
   have:=List.all_eq_true.1 h.2 f (by simpa using hf)
   exact Option.isSome_iff_exists.1 this
  ·cases h
 |arr n e=>
  simp only [kdChk] at h
  split at h
  ·simp only [Bool.and_eq_true,Nat.beq_eq] at h
   simp only [KdOk,h.1,h.2]
  ·cases h
 |slice e=>
  simp only [kdChk] at h
  split at h
  ·simp only [Nat.beq_eq] at h
   simp only [KdOk,h]
  ·cases h
 |map k e=>
  simp only [kdChk] at h
  split at h
  ·simp only [Bool.and_eq_true,Nat.beq_eq] at h
   simp only [KdOk,h.1,h.2]
  ·cases h
 |ptr e=>
  simp only [kdChk] at h
  split at h
  ·simp only [Nat.beq_eq] at h
   simp only [KdOk,h]
  ·cases h
 |iface=>trivial
section
variable {P:Program} {ρ:Nm} {n:Nat}
theorem cell_eq {D:Nat} {z a b:V} {x y:Value} {t:Nat} {r:Bool} {w:World} (hz:sKind P z t=true) (ha:Rv ρ n a x) (hb:Rv ρ n b y)
  (h:eqK z a b=some r):(Op.equalIn (D+1) t x y).run P w=.ok r w∧∀cs:Array Value,∀off,cs[off]?=some x→(Go.part t cs off).run P w=.ok x w:=by
 have pt:∀d,P.underlying t=some d→isAggD d=false→∀cs:Array Value,∀off,cs[off]?=some x→(Go.part t cs off).run P w=.ok x w:=by
  intro d hd hag cs off hc
  simp only [Go.part,Sem.run_bind,run_isAgg' hd,Result.andThen_ok]
  cases d<;>simp_all [isAggD]
 cases z with
 |int k0 n0=>
  simp only [eqK] at h
  obtain ⟨k',hu⟩:∃k',P.underlying t=some (.int k'):=by
   simp only [sKind] at hz
   split at hz
   ·exact ⟨_,by assumption⟩
   ·cases hz
  cases a with
  |int k1 a1=>
   simp only [Rv] at ha
   subst ha
   cases b with
   |int k2 b1=>
    simp only [Rv] at hb
    subst hb
    simp only [eq1] at h
    split at h
    ·rename_i hk
     have:=kindEq_ok hk
     subst this
     simp only [Option.some.injEq] at h
     subst h
     exact ⟨by rw [run_equalIn_int w D t k1 k' _ _ hu,ieq_eq],pt _ hu rfl⟩
    ·cases h
   |_=>simp [eq1] at h
  |_=>simp at h
 |bool b0=>
  simp only [eqK] at h
  have hu:P.underlying t=some .bool:=by
   simp only [sKind] at hz
   split at hz
   ·assumption
   ·cases hz
  cases a with
  |bool a1=>
   simp only [Rv] at ha
   subst ha
   cases b with
   |bool b1=>
    simp only [Rv] at hb
    subst hb
    refine ⟨?_,pt _ hu rfl⟩
    rw [run_equalIn_bool' w D t _ _ hu]
    cases a1<;>cases b1<;>simp_all [eq1]
   |_=>simp [eq1] at h
  |_=>simp at h
 |str s0=>
  simp only [eqK] at h
  have hu:P.underlying t=some .string:=by
   simp only [sKind] at hz
   split at hz
   ·assumption
   ·cases hz
  cases a with
  |str a1=>
   simp only [Rv] at ha
   obtain ⟨ha1,rfl⟩:=ha
   cases b with
   |str b1=>
    simp only [Rv] at hb
    obtain ⟨hb1,rfl⟩:=hb
    simp only [eq1,Option.some.injEq] at h
    subst h
    refine ⟨?_,pt _ hu rfl⟩
    rw [run_equalIn_string w D t _ _ hu,beq_bytes ha1 hb1]
   |_=>simp [eq1] at h
  |_=>simp at h
 |_=>simp [eqK] at h
theorem sKind_und {z:V} {t:Nat} (hz:sKind P z t=true):∃d,P.underlying t=some d∧isAggD d=false:=by
 cases z<;>simp only [sKind] at hz<;>first |(cases hz;done) |(split at hz<;>first |(cases hz;done) |exact ⟨_,by assumption,rfl⟩)
theorem lists_get {xs:Array Value} {i:Nat} {u:Value} {us:List Value} (h:xs.toList.drop i=u :: us):xs[i]?=some u∧xs.toList.drop (i+1)=us:=by
 have h1:(xs.toList.drop i)[0]?=some u:=by rw [h];rfl
 rw [List.getElem?_drop] at h1
 refine ⟨by simpa using h1,?_⟩
 rw [show i+1=i+1 from rfl,←List.drop_drop,h];rfl
theorem eqFields_ok {D:Nat} {w:World} {xs ys:Array Value}:∀(fs:List Field) (zs:List V) (i:Nat) (a b:List V) {r:Bool},chkF P fs zs i=true→RvL ρ n a (xs.toList.drop i)→RvL ρ n b (ys.toList.drop i)→eqZ zs a b=some r→
  (Op.eqFields (D+1) xs ys fs).run P w=.ok r w
 |[],[],i,[],[],r,_,_,_,h=>by
  simp only [eqZ,Option.some.injEq] at h
  subst h
  simp [Op.eqFields]
 |f :: fs,z :: zs,i,a :: as0,b :: bs,r,hc,ha,hb,h=>by
  simp only [chkF,Bool.and_eq_true,Nat.beq_eq,bne_iff_ne] at hc
  obtain ⟨⟨⟨h1,h2⟩,h3⟩,h4⟩:=hc
  cases hx:xs.toList.drop i with
  |nil=>rw [hx] at ha;simp [RvL] at ha
  |cons x xr=>
   cases hy:ys.toList.drop i with
   |nil=>rw [hy] at hb;simp [RvL] at hb
   |cons y yr=>
    rw [hx] at ha
    rw [hy] at hb
    simp only [RvL] at ha hb
    obtain ⟨gx,ex⟩:=lists_get hx
    obtain ⟨gy,ey⟩:=lists_get hy
    simp only [eqZ] at h
    have step:∀c,eqK z a b=some c→(Op.eqFields (D+1) xs ys (f :: fs)).run P w=if c then (Op.eqFields (D+1) xs ys fs).run P w else .ok false w:=by
     intro c hcc
     obtain ⟨k1,k2⟩:=cell_eq (w:=w) h3 ha.1 hb.1 hcc
     have k3:(Go.part f.type ys f.offset).run P w=.ok y w:=by
      obtain ⟨d,hd,hag⟩:=sKind_und h3
      simp only [Go.part,Sem.run_bind,run_isAgg' hd,Result.andThen_ok,h2,gy]
      cases d<;>simp_all [isAggD]
     rw [h2] at k3
     simp only [Op.eqFields,if_pos h1,Sem.run_bind]
     rw [h2,k2 xs i gx,Result.andThen_ok,k3,Result.andThen_ok,k1,Result.andThen_ok]
     cases c<;>simp
    split at h
    ·rename_i hcc
     rw [step true hcc,if_pos rfl]
     exact eqFields_ok fs zs (Nat.succ i) as0 bs h4 (by rw [Nat.succ_eq_add_one,ex];exact ha.2) (by rw [Nat.succ_eq_add_one,ey];exact hb.2) h
    ·rename_i hcc
     simp only [Option.some.injEq] at h
     subst h
     rw [step false hcc];rfl
    ·cases h
 |[],[],_,_ :: _,_,_,_,_,_,h=>by simp [eqZ] at h
 |[],[],_,[],_ :: _,_,_,_,_,h=>by simp [eqZ] at h
 |[],_ :: _,_,_,_,_,h,_,_,_=>by simp [chkF] at h
 |_ :: _,[],_,_,_,_,h,_,_,_=>by simp [chkF] at h
 |_ :: _,_ :: _,_,[],_,_,_,_,_,h=>by simp [eqZ] at h
 |_ :: _,_ :: _,_,_ :: _,[],_,_,_,_,h=>by simp [eqZ] at h
theorem eqZ_split:∀(s:Nat) (zs a b:List V) {r:Bool},s≤zs.length→eqZ zs a b=some r→
  ∃c,eqZ (zs.take s) (a.take s) (b.take s)=some c∧(c=false→r=false)∧(c=true→eqZ (zs.drop s) (a.drop s) (b.drop s)=some r)
 |0,zs,a,b,r,_,h=>⟨true,by simp [eqZ],fun e=>(by cases e),fun _=>by simpa using h⟩
 |s+1,z :: zs,a :: as0,b :: bs,r,hs,h=>by
  simp only [eqZ] at h
  split at h
  ·rename_i hc
   obtain ⟨c,h1,h2,h3⟩:=eqZ_split s zs as0 bs (by simpa using hs) h
   exact ⟨c,by simp only [List.take_succ_cons,eqZ,hc];exact h1,h2,h3⟩
  ·rename_i hc
   simp only [Option.some.injEq] at h
   subst h
   exact ⟨false,by simp only [List.take_succ_cons,eqZ,hc],fun _=>rfl,fun e=>by cases e⟩
  ·cases h
 |s+1,[],_,_,_,hs,_=>by simp at hs
 |s+1,_ :: _,[],_,_,_,h=>by simp [eqZ] at h
 |s+1,_ :: _,_ :: _,[],_,_,h=>by simp [eqZ] at h
theorem eqFields1_ok {D:Nat} {w:World} {xs ys:Array Value}:∀(fs:List Field) (zs:List V) (i:Nat) (a b:List V) {r:Bool},chkF1 P fs zs i=true→RvL ρ n a (xs.toList.drop i)→RvL ρ n b (ys.toList.drop i)→eqZ zs a b=some r→
  (Op.eqFields (D+2) xs ys fs).run P w=.ok r w
 |[],zs,i,a,b,r,hc,_,_,h=>by
  cases zs with
  |nil=>
   cases a<;>cases b<;>simp only [eqZ,Option.some.injEq] at h<;>first |(cases h;done) |skip
   subst h
   simp [Op.eqFields]
  |cons _ _=>simp [chkF1] at hc
 |f :: fs,[],i,a,b,r,hc,_,_,h=>by simp [chkF1] at hc
 |f :: fs,z :: zs,i,a,b,r,hc,ha,hb,h=>by
  cases h12:((f.name != "_") && Nat.beq f.offset i) with
  |false=>simp only [chkF1,h12] at hc;cases hc
  |true=>
   simp only [chkF1,h12] at hc
   simp only [Bool.and_eq_true,Nat.beq_eq,bne_iff_ne] at h12
   obtain ⟨h1,h2⟩:=h12
   split at hc
   ·rename_i h3
    cases a with
    |nil=>simp [eqZ] at h
    |cons a as0=>
    cases b with
    |nil=>simp [eqZ] at h
    |cons b bs=>
    cases hx:xs.toList.drop i with
    |nil=>rw [hx] at ha;simp [RvL] at ha
    |cons x xr=>
     cases hy:ys.toList.drop i with
     |nil=>rw [hy] at hb;simp [RvL] at hb
     |cons y yr=>
      rw [hx] at ha
      rw [hy] at hb
      simp only [RvL] at ha hb
      obtain ⟨gx,ex⟩:=lists_get hx
      obtain ⟨gy,ey⟩:=lists_get hy
      simp only [eqZ] at h
      have step:∀c,eqK z a b=some c→(Op.eqFields (D+2) xs ys (f :: fs)).run P w=if c then (Op.eqFields (D+2) xs ys fs).run P w else .ok false w:=by
       intro c hcc
       obtain ⟨k1,k2⟩:=cell_eq (D:=D+1) (w:=w) h3 ha.1 hb.1 hcc
       have k3:(Go.part f.type ys f.offset).run P w=.ok y w:=by
        obtain ⟨d,hd,hag⟩:=sKind_und h3
        simp only [Go.part,Sem.run_bind,run_isAgg' hd,Result.andThen_ok,h2,gy]
        cases d<;>simp_all [isAggD]
       rw [h2] at k3
       simp only [Op.eqFields,if_pos h1,Sem.run_bind]
       rw [h2,k2 xs i gx,Result.andThen_ok,k3,Result.andThen_ok,k1,Result.andThen_ok]
       cases c<;>simp
      split at h
      ·rename_i hcc
       rw [step true hcc,if_pos rfl]
       exact eqFields1_ok fs zs (Nat.succ i) as0 bs hc (by rw [Nat.succ_eq_add_one,ex];exact ha.2) (by rw [Nat.succ_eq_add_one,ey];exact hb.2) h
      ·rename_i hcc
       simp only [Option.some.injEq] at h
       subst h
       rw [step false hcc];rfl
      ·cases h
   ·split at hc
    ·rename_i fields' inf hu hinf
     simp only [Bool.and_eq_true,Bool.not_eq_true'] at hc
     obtain ⟨⟨⟨c1,c2⟩,c3⟩,c4⟩:=hc
     have c2:inf.size≤(z :: zs).length:=by rw [len_eq] at c2;simpa using c2
     obtain ⟨c,e1,e2,e3⟩:=eqZ_split inf.size (z :: zs) a b c2 h
     have hp:∀us:Array Value,(Go.part f.type us i).run P w=.ok (.agg (us.extract i (i+inf.size))) w:=fun us=>by
      simp only [Go.part,Sem.run_bind,run_isAgg' hu,Result.andThen_ok]
      simp [isAggD,run_sizeOf' hinf]
     have hto:∀us:Array Value,(us.extract i (i+inf.size)).toList.drop 0=(us.toList.drop i).take inf.size:=fun us=>by
      simp [Array.toList_extract,List.extract_eq_take_drop]
     have hfo:P.fieldsOf f.type=fields':=by simp [Program.fieldsOf,hu]
     have hrun:(Op.equalIn (D+1+1) f.type (.agg (xs.extract i (i+inf.size))) (.agg (ys.extract i (i+inf.size)))).run P w=.ok c w:=by
      rw [run_equalIn_struct w (D+1) f.type _ _ (by rw [hfo];exact hu) c1,hfo]
      exact eqFields_ok fields'.toList _ 0 _ _ c3 (by rw [hto];exact RvL.take inf.size ha) (by rw [hto];exact RvL.take inf.size hb) e1
     have step:(Op.eqFields (D+2) xs ys (f :: fs)).run P w=if c then (Op.eqFields (D+2) xs ys fs).run P w else .ok false w:=by
      simp only [Op.eqFields,if_pos h1,Sem.run_bind]
      rw [h2,hp xs,Result.andThen_ok,hp ys,Result.andThen_ok,hrun,Result.andThen_ok]
      cases c<;>simp
     rw [step]
     cases c with
     |true=>
      rw [if_pos rfl]
      refine eqFields1_ok fs _ (Nat.add i inf.size) (a.drop inf.size) (b.drop inf.size) c4 ?_ ?_ (e3 rfl)
      ·have:=RvL.drop inf.size ha
       rw [List.drop_drop] at this
       exact this
      ·have:=RvL.drop inf.size hb
       rw [List.drop_drop] at this
       exact this
     |false=>rw [e2 rfl];rfl
    ·cases hc
theorem eqItems_ok {D:Nat} {w:World} {xs ys:Array Value} {e:Nat}:∀(m i:Nat) (zs:List V) (a b:List V) {r:Bool},zs.length=m→(∀z∈zs,sKind P z e=true)→RvL ρ n a (xs.toList.drop i)→RvL ρ n b (ys.toList.drop i)→eqZ zs a b=some r→
  (Op.eqItems (D+1) e 1 xs ys (List.range' i m)).run P w=.ok r w
 |0,i,[],[],[],r,_,_,_,_,h=>by
  simp only [eqZ,Option.some.injEq] at h
  subst h
  simp [Op.eqItems]
 |m+1,i,z :: zs,a :: as0,b :: bs,r,hm,hc,ha,hb,h=>by
  have h3:=hc z (by simp)
  cases hx:xs.toList.drop i with
  |nil=>rw [hx] at ha;simp [RvL] at ha
  |cons x xr=>
   cases hy:ys.toList.drop i with
   |nil=>rw [hy] at hb;simp [RvL] at hb
   |cons y yr=>
    rw [hx] at ha
    rw [hy] at hb
    simp only [RvL] at ha hb
    obtain ⟨gx,ex⟩:=lists_get hx
    obtain ⟨gy,ey⟩:=lists_get hy
    simp only [eqZ] at h
    have step:∀c,eqK z a b=some c→(Op.eqItems (D+1) e 1 xs ys (List.range' i (m+1))).run P w=if c then (Op.eqItems (D+1) e 1 xs ys (List.range' (i+1) m)).run P w else .ok false w:=by
     intro c hcc
     obtain ⟨k1,k2⟩:=cell_eq (w:=w) h3 ha.1 hb.1 hcc
     have k3:(Go.part e ys i).run P w=.ok y w:=by
      obtain ⟨d,hd,hag⟩:=sKind_und h3
      simp only [Go.part,Sem.run_bind,run_isAgg' hd,Result.andThen_ok,gy]
      cases d<;>simp_all [isAggD]
     simp only [List.range'_succ,Op.eqItems,Nat.mul_one,Sem.run_bind]
     rw [k2 xs i gx,Result.andThen_ok,k3,Result.andThen_ok,k1,Result.andThen_ok]
     cases c<;>simp
    split at h
    ·rename_i hcc
     rw [step true hcc,if_pos rfl]
     exact eqItems_ok m (i+1) zs as0 bs (by simpa using hm) (fun z hz=>hc z (by simp [hz])) (by rw [ex];exact ha.2) (by rw [ey];exact hb.2) h
    ·rename_i hcc
     simp only [Option.some.injEq] at h
     subst h
     rw [step false hcc];rfl
    ·cases h
 |0,_,_ :: _,_,_,_,hm,_,_,_,_=>by simp at hm
 |_+1,_,[],_,_,_,hm,_,_,_,_=>by simp at hm
 |0,_,[],_ :: _,_,_,_,_,_,_,h=>by simp [eqZ] at h
 |0,_,[],[],_ :: _,_,_,_,_,_,h=>by simp [eqZ] at h
 |_+1,_,_ :: _,[],_,_,_,_,_,_,h=>by simp [eqZ] at h
 |_+1,_,_ :: _,_ :: _,[],_,_,_,_,_,h=>by simp [eqZ] at h
end
theorem tyChk_ok {P:Program} {t:Nat} {ty:Ty} (h:tyChk P t ty=true):TyOk P t ty:=by
 unfold tyChk at h
 split at h
 ·rename_i i d hi hd
  simp only [Bool.and_eq_true,Nat.beq_eq] at h
  obtain ⟨⟨⟨⟨⟨⟨⟨h1,h2⟩,h3⟩,h4⟩,h5⟩,h6⟩,h7⟩,h8⟩:=h
  rw [len_eq] at h4
  split at h3
  ·rename_i z hz
   simp only [Bool.and_eq_true] at h3
   obtain ⟨hz1,hz2⟩:=zOks_ok _ _ h3.1
   have h3b:=h3.2
   replace h6:isAggD d=ty.agg:=eq_of_beq h6
   refine ⟨⟨i,z,hi,h1,h2,hz,hz2,fun ha=>?_,fun ha=>?_⟩,h4,hz1,fun j hj=>?_,⟨d,hd,h6,kdChk_ok h7⟩,fun he=>?_⟩
   ·split at h3b
    ·rfl
    ·rw [ha] at h3b;cases h3b
   ·split at h3b
    ·rw [ha] at h3b;cases h3b
    ·rename_i hne
     cases z<;>first |rfl |exact (hne _ rfl).elim
   ·have:=ztOk_ok _ 0 h5 j (by omega)
    simpa using this
   ·unfold eqChk at h8
    rw [he] at h8
    simp only [Bool.and_eq_true,Bool.not_eq_true'] at h8
    obtain ⟨g1,g2⟩:=h8
    refine ⟨g1,fun ρ n a b xs ys r w ha hb hr=>?_⟩
    split at g2
    ·rename_i fields
     simp only [Bool.and_eq_true,Bool.not_eq_true'] at g2
     have hfo:P.fieldsOf t=fields:=by simp [Program.fieldsOf,hd]
     rw [run_equalIn_struct w 9999 t _ _ (by rw [hfo];exact hd) g2.1,hfo]
     exact eqFields1_ok (D:=9997) fields.toList ty.zero 0 a b g2.2 (by simpa using ha) (by simpa using hb) hr
    ·rename_i m e
     simp only [Bool.and_eq_true,Nat.beq_eq] at g2
     obtain ⟨⟨⟨q1,q2⟩,q3⟩,q4⟩:=g2
     obtain ⟨ie,hie⟩:=Option.isSome_iff_exists.1 q1
     rw [run_equalIn_array w 9999 _ _ hd hie,q2,List.range_eq_range']
     rw [len_eq] at q3
     exact eqItems_ok (D:=9998) m 0 ty.zero a b q3 (fun z hz=>List.all_eq_true.1 q4 z hz) (by simpa using ha) (by simpa using hb) hr
    ·cases g2
  ·cases h3
 ·cases h
def T.All {α:Type} (p:Nat→α→Prop):T α→(Nat→Nat)→Prop
 |.e,_=>True
 |.n l v r,φ=>T.All p l (fun i=>φ (2 * i+1))∧(match v with |some x=>p (φ 0) x |none=>True)∧T.All p r (fun i=>φ (2 * i+2))
theorem T.All.get {α:Type} {p:Nat→α→Prop}:∀(t:T α) (φ:Nat→Nat),T.All p t φ→∀i x,t.get i=some x→p (φ i) x
 |.e,_,_,i,x,h=>by simp [T.get] at h
 |.n l v r,φ,ha,0,x,h=>by
  have h1:=ha.2.1
  have h2:v=some x:=h
  rw [h2] at h1
  exact h1
 |.n l v r,φ,ha,j+1,x,h=>by
  have hj:(T.n l v r).get (j+1)=if j % 2=0 then l.get (j / 2) else r.get (j / 2):=T.get_succ l v r j
  rw [hj] at h
  split at h
  ·have:=T.All.get l _ ha.1 (j / 2) x h
   rw [show 2 * (j / 2)+1=j+1 by omega] at this
   exact this
  ·have:=T.All.get r _ ha.2.2 (j / 2) x h
   rw [show 2 * (j / 2)+2=j+1 by omega] at this
   exact this
def T.allB {α:Type} (p:α→Bool):T α→Bool
 |.e=>true
 |.n l v r=>T.allB p l && (match v with |some x=>p x |none=>true) && T.allB p r
theorem T.allB_ok {α:Type} {p:α→Bool}:∀(t:T α) (φ:Nat→Nat),T.allB p t=true→T.All (fun _ x=>p x=true) t φ
 |.e,_,_=>trivial
 |.n l v r,φ,h=>by
  simp only [T.allB,Bool.and_eq_true] at h
  refine ⟨T.allB_ok l _ h.1.1,?_,T.allB_ok r _ h.2⟩
  cases v with
  |none=>trivial
  |some x=>exact h.1.2
noncomputable def tabChk (P:Program) (T:Nat→Option Ty):Nat→Bool
 |0=>true
 |n+1=>(match T n with
  |some ty=>tyChk P n ty
  |none=>true) && tabChk P T n
theorem tabChk_ok {P:Program} {T:Nat→Option Ty}:∀n,tabChk P T n=true→∀t ty,t < n→T t=some ty→TyOk P t ty
 |0,_,t,_,h,_=>by omega
 |n+1,hc,t,ty,ht,h=>by
  simp only [tabChk,Bool.and_eq_true] at hc
  by_cases e:t=n
  ·subst e
   rw [h] at hc
   exact tyChk_ok hc.1
  ·exact tabChk_ok n hc.2 t ty (by omega) h
end CX

namespace CX
open Go Go.Proofs
theorem fnT_ok:T.All (fun f fn=>Try.prog.funcs[f]?=some fn) fnT id:=(And.intro (And.intro (And.intro (And.intro (And.intro (And.intro (And.intro trivial (And.intro Try.func63 trivial)) (And.intro Try.func31 (And.intro trivial (And.intro Try.func95 trivial)))) (And.intro Try.func15 (And.intro (And.intro trivial (And.intro Try.func79 trivial)) (And.intro Try.func47 (And.intro trivial (And.intro Try.func111 trivial)))))) (And.intro Try.func7 (And.intro (And.intro (And.intro trivial (And.intro Try.func71 trivial)) (And.intro Try.func39 (And.intro trivial (And.intro Try.func103 trivial)))) (And.intro Try.func23 (And.intro (And.intro trivial (And.intro Try.func87 trivial)) (And.intro Try.func55 trivial)))))) (And.intro Try.func3 (And.intro (And.intro (And.intro (And.intro trivial (And.intro Try.func67 trivial)) (And.intro Try.func35 (And.intro trivial (And.intro Try.func99 trivial)))) (And.intro Try.func19 (And.intro (And.intro trivial (And.intro Try.func83 trivial)) (And.intro Try.func51 (And.intro trivial (And.intro Try.func115 trivial)))))) (And.intro Try.func11 (And.intro (And.intro (And.intro trivial (And.intro Try.func75 trivial)) (And.intro Try.func43 (And.intro trivial (And.intro Try.func107 trivial)))) (And.intro Try.func27 (And.intro (And.intro trivial (And.intro Try.func91 trivial)) (And.intro Try.func59 trivial)))))))) (And.intro trivial (And.intro (And.intro (And.intro (And.intro (And.intro trivial (And.intro Try.func65 trivial)) (And.intro Try.func33 (And.intro trivial (And.intro Try.func97 trivial)))) (And.intro Try.func17 (And.intro (And.intro trivial (And.intro Try.func81 trivial)) (And.intro Try.func49 (And.intro trivial (And.intro Try.func113 trivial)))))) (And.intro Try.func9 (And.intro (And.intro (And.intro trivial (And.intro Try.func73 trivial)) (And.intro Try.func41 (And.intro trivial (And.intro Try.func105 trivial)))) (And.intro Try.func25 (And.intro (And.intro trivial (And.intro Try.func89 trivial)) (And.intro Try.func57 trivial)))))) (And.intro Try.func5 (And.intro (And.intro (And.intro (And.intro trivial (And.intro Try.func69 trivial)) (And.intro Try.func37 (And.intro trivial (And.intro Try.func101 trivial)))) (And.intro Try.func21 (And.intro (And.intro trivial (And.intro Try.func85 trivial)) (And.intro Try.func53 (And.intro trivial (And.intro Try.func117 trivial)))))) (And.intro Try.func13 (And.intro (And.intro (And.intro trivial (And.intro Try.func77 trivial)) (And.intro Try.func45 (And.intro trivial (And.intro Try.func109 trivial)))) (And.intro Try.func29 (And.intro (And.intro trivial (And.intro Try.func93 trivial)) (And.intro Try.func61 trivial)))))))))) (And.intro trivial (And.intro (And.intro (And.intro (And.intro (And.intro (And.intro trivial (And.intro Try.func64 trivial)) (And.intro Try.func32 (And.intro trivial (And.intro Try.func96 trivial)))) (And.intro Try.func16 (And.intro (And.intro trivial (And.intro Try.func80 trivial)) (And.intro Try.func48 (And.intro trivial (And.intro Try.func112 trivial)))))) (And.intro Try.func8 (And.intro (And.intro (And.intro trivial (And.intro Try.func72 trivial)) (And.intro Try.func40 (And.intro trivial (And.intro Try.func104 trivial)))) (And.intro Try.func24 (And.intro (And.intro trivial (And.intro Try.func88 trivial)) (And.intro Try.func56 trivial)))))) (And.intro Try.func4 (And.intro (And.intro (And.intro (And.intro trivial (And.intro Try.func68 trivial)) (And.intro Try.func36 (And.intro trivial (And.intro Try.func100 trivial)))) (And.intro Try.func20 (And.intro (And.intro trivial (And.intro Try.func84 trivial)) (And.intro Try.func52 (And.intro trivial (And.intro Try.func116 trivial)))))) (And.intro Try.func12 (And.intro (And.intro (And.intro trivial (And.intro Try.func76 trivial)) (And.intro Try.func44 (And.intro trivial (And.intro Try.func108 trivial)))) (And.intro Try.func28 (And.intro (And.intro trivial (And.intro Try.func92 trivial)) (And.intro Try.func60 trivial)))))))) (And.intro Try.func2 (And.intro (And.intro (And.intro (And.intro (And.intro trivial (And.intro Try.func66 trivial)) (And.intro Try.func34 (And.intro trivial (And.intro Try.func98 trivial)))) (And.intro Try.func18 (And.intro (And.intro trivial (And.intro Try.func82 trivial)) (And.intro Try.func50 (And.intro trivial (And.intro Try.func114 trivial)))))) (And.intro Try.func10 (And.intro (And.intro (And.intro trivial (And.intro Try.func74 trivial)) (And.intro Try.func42 (And.intro trivial (And.intro Try.func106 trivial)))) (And.intro Try.func26 (And.intro (And.intro trivial (And.intro Try.func90 trivial)) (And.intro Try.func58 trivial)))))) (And.intro Try.func6 (And.intro (And.intro (And.intro (And.intro trivial (And.intro Try.func70 trivial)) (And.intro Try.func38 (And.intro trivial (And.intro Try.func102 trivial)))) (And.intro Try.func22 (And.intro (And.intro trivial (And.intro Try.func86 trivial)) (And.intro Try.func54 (And.intro trivial (And.intro Try.func118 trivial)))))) (And.intro Try.func14 (And.intro (And.intro (And.intro trivial (And.intro Try.func78 trivial)) (And.intro Try.func46 (And.intro trivial (And.intro Try.func110 trivial)))) (And.intro Try.func30 (And.intro (And.intro trivial (And.intro Try.func94 trivial)) (And.intro Try.func62 trivial))))))))))))
end CX

namespace CX
open Go Go.Proofs
theorem names_ok:T.allB (fun fn:Func=>fn.name != "runtime.NumGoroutine") fnT=true:=by kernel_rfl
theorem types_ok:tabChk Try.prog env.T 184=true:=by kernel_rfl
theorem env_ok:EnvOk env Try.prog:=by
 refine ⟨fun t ty h=>?_,fun f fn h=>?_,by kernel_rfl,fun _ _ h=>(by cases h),fun _ _ _ _ _ _ _ h=>(by cases h),fun _ h=>by cases h⟩
 ·refine tabChk_ok 184 types_ok t ty ?_ h
  simp only [env] at h
  split at h
  ·rename_i hb;simpa [Nat.blt_eq] using hb
  ·cases h
 ·refine ⟨T.All.get fnT id fnT_ok f fn h,?_⟩
  have:=T.All.get fnT id (T.allB_ok fnT id names_ok) f fn h
  simpa using this
theorem works_run:callF env (cx env 1000) 0 .e 0 13 [] (fun v _ _=>retV v .e 0)=some (.normal,⟨0,0,.n .e (some (.bool true)) .e,.e,0,[]⟩):=by kernel_rfl
theorem works_ok (w:World):Calls Try.prog 13 #[] w fun e w'=>e=.returned (.bool true)∧Kept w w':=by
 refine (cx_call env_ok (fun _=>rfl) (xs:=[]) (by simp [RvL]) works_run w).mono fun e w' he=>?_
 obtain ⟨u,ρ,n,rfl,h,rest⟩:=he
 simp only [Rv] at h
 subst h
 exact ⟨rfl,rest⟩
end CX

namespace HX
open Go Go.Proofs
noncomputable def tyB:BT CX.Ty:=(.n (.n (.n (.n (.n (.n (.n (.n .e 1 CX.ty1 .e) 2 CX.ty2 .e) 3 CX.ty3 (.n (.n .e 4 CX.ty4 .e) 5 CX.ty5 .e)) 6 CX.ty6 (.n (.n (.n .e 7 CX.ty7 .e) 8 CX.ty8 .e) 9 CX.ty9 (.n (.n .e 10 CX.ty10 .e) 11 CX.ty11 .e))) 12 CX.ty12 (.n (.n (.n (.n .e 13 CX.ty13 .e) 14 CX.ty14 .e) 15 CX.ty15 (.n (.n .e 16 CX.ty16 .e) 17 CX.ty17 .e)) 18 CX.ty18 (.n (.n (.n .e 19 CX.ty19 .e) 20 CX.ty20 .e) 21 CX.ty21 (.n .e 22 CX.ty22 .e)))) 23 CX.ty23 (.n (.n (.n (.n (.n .e 24 CX.ty24 .e) 25 CX.ty25 .e) 26 CX.ty26 (.n (.n .e 27 CX.ty27 .e) 28 CX.ty28 .e)) 30 CX.ty30 (.n (.n (.n .e 31 CX.ty31 .e) 32 CX.ty32 .e) 33 CX.ty33 (.n .e 34 CX.ty34 .e))) 36 CX.ty36 (.n (.n (.n (.n .e 37 CX.ty37 .e) 38 CX.ty38 .e) 39 CX.ty39 (.n (.n .e 40 CX.ty40 .e) 41 CX.ty41 .e)) 42 CX.ty42 (.n (.n (.n .e 43 CX.ty43 .e) 44 CX.ty44 .e) 45 CX.ty45 (.n .e 46 CX.ty46 .e))))) 47 CX.ty47 (.n (.n (.n (.n (.n (.n .e 48 CX.ty48 .e) 49 CX.ty49 .e) 50 CX.ty50 (.n (.n .e 51 CX.ty51 .e) 52 CX.ty52 .e)) 53 CX.ty53 (.n (.n (.n .e 55 CX.ty55 .e) 56 CX.ty56 .e) 57 CX.ty57 (.n .e 58 CX.ty58 .e))) 59 CX.ty59 (.n (.n (.n (.n .e 60 CX.ty60 .e) 61 CX.ty61 .e) 62 CX.ty62 (.n (.n .e 63 CX.ty63 .e) 64 CX.ty64 .e)) 65 CX.ty65 (.n (.n (.n .e 66 CX.ty66 .e) 67 CX.ty67 .e) 68 CX.ty68 (.n .e 69 CX.ty69 .e)))) 70 CX.ty70 (.n (.n (.n (.n (.n .e 71 CX.ty71 .e) 72 CX.ty72 .e) 73 CX.ty73 (.n (.n .e 74 CX.ty74 .e) 75 CX.ty75 .e)) 76 CX.ty76 (.n (.n (.n .e 77 CX.ty77 .e) 78 CX.ty78 .e) 79 CX.ty79 (.n .e 80 CX.ty80 .e))) 81 CX.ty81 (.n (.n (.n (.n .e 82 CX.ty82 .e) 83 CX.ty83 .e) 84 CX.ty84 (.n (.n .e 85 CX.ty85 .e) 86 CX.ty86 .e)) 87 CX.ty87 (.n (.n (.n .e 88 CX.ty88 .e) 89 CX.ty89 .e) 90 CX.ty90 (.n .e 91 CX.ty91 .e)))))) 92 CX.ty92 (.n (.n (.n (.n (.n (.n (.n .e 93 CX.ty93 .e) 94 CX.ty94 .e) 95 CX.ty95 (.n (.n .e 96 CX.ty96 .e) 97 CX.ty97 .e)) 98 CX.ty98 (.n (.n (.n .e 99 CX.ty99 .e) 100 CX.ty100 .e) 101 CX.ty101 (.n (.n .e 103 CX.ty103 .e) 104 CX.ty104 .e))) 105 CX.ty105 (.n (.n (.n (.n .e 106 CX.ty106 .e) 107 CX.ty107 .e) 108 CX.ty108 (.n (.n .e 109 CX.ty109 .e) 110 CX.ty110 .e)) 111 CX.ty111 (.n (.n (.n .e 112 CX.ty112 .e) 113 CX.ty113 .e) 115 CX.ty115 (.n .e 116 CX.ty116 .e)))) 117 CX.ty117 (.n (.n (.n (.n (.n .e 118 CX.ty118 .e) 119 CX.ty119 .e) 120 CX.ty120 (.n (.n .e 121 CX.ty121 .e) 122 CX.ty122 .e)) 123 CX.ty123 (.n (.n (.n .e 124 CX.ty124 .e) 125 CX.ty125 .e) 126 CX.ty126 (.n .e 127 CX.ty127 .e))) 128 CX.ty128 (.n (.n (.n (.n .e 129 CX.ty129 .e) 130 CX.ty130 .e) 131 CX.ty131 (.n (.n .e 132 CX.ty132 .e) 133 CX.ty133 .e)) 134 CX.ty134 (.n (.n (.n .e 135 CX.ty135 .e) 136 CX.ty136 .e) 137 CX.ty137 (.n .e 138 CX.ty138 .e))))) 139 CX.ty139 (.n (.n (.n (.n (.n (.n .e 140 CX.ty140 .e) 141 CX.ty141 .e) 142 CX.ty142 (.n (.n .e 143 CX.ty143 .e) 144 CX.ty144 .e)) 145 CX.ty145 (.n (.n (.n .e 146 CX.ty146 .e) 147 CX.ty147 .e) 148 CX.ty148 (.n .e 149 CX.ty149 .e))) 150 CX.ty150 (.n (.n (.n (.n .e 151 CX.ty151 .e) 152 CX.ty152 .e) 154 CX.ty154 (.n (.n .e 155 CX.ty155 .e) 156 CX.ty156 .e)) 157 CX.ty157 (.n (.n (.n .e 158 CX.ty158 .e) 159 CX.ty159 .e) 160 CX.ty160 (.n .e 161 CX.ty161 .e)))) 162 CX.ty162 (.n (.n (.n (.n (.n .e 163 CX.ty163 .e) 164 CX.ty164 .e) 165 CX.ty165 (.n (.n .e 166 CX.ty166 .e) 167 CX.ty167 .e)) 168 CX.ty168 (.n (.n (.n .e 169 CX.ty169 .e) 170 CX.ty170 .e) 171 CX.ty171 (.n .e 172 CX.ty172 .e))) 173 CX.ty173 (.n (.n (.n (.n .e 174 CX.ty174 .e) 175 CX.ty175 .e) 176 CX.ty176 (.n (.n .e 177 CX.ty177 .e) 178 CX.ty178 .e)) 179 CX.ty179 (.n (.n (.n .e 180 CX.ty180 .e) 181 CX.ty181 .e) 182 CX.ty182 (.n .e 183 CX.ty183 .e)))))))
def ksB:BT (List Kd):=(.n (.n (.n (.n (.n (.n .e 2 [.int .i64] .e) 3 [.int .i64] (.n .e 4 [.bool] .e)) 5 [.int .u8] (.n (.n .e 6 [.int .u8] .e) 7 [.int .i64,.int .i64,.bool,.int .u8] .e)) 8 [.int .i64,.int .i64,.bool,.int .u8] (.n (.n (.n .e 9 [.str] .e) 10 [.str] (.n .e 11 [.str] .e)) 12 [.int .u64] (.n (.n .e 13 [.str,.int .u64] .e) 14 [.str,.int .u64] .e))) 21 [.int .i32] (.n (.n (.n (.n .e 22 [.int .i64,.int .i64,.int .i64] .e) 23 [.int .i64,.int .i64,.int .i64] (.n .e 24 [.sl [.sl [.int .i64]]] .e)) 25 [.sl [.int .i64]] (.n (.n .e 26 [.sl [.int .i64,.int .i64]] .e) 28 [.int .i64] .e)) 31 [.int .i64,.int .i64,.int .i64] (.n (.n (.n .e 42 [.int .i64,.int .i64] .e) 43 [.int .i64,.int .i64] (.n .e 44 [.int .i64,.int .i64] .e)) 45 [.int .i64,.int .i64] (.n (.n .e 47 [.int .i64,.int .i64] .e) 50 [.int .i64,.int .i64] .e)))) 53 [.sl [.int .u8]] (.n (.n (.n (.n (.n .e 64 [.int .i64,.int .i64] .e) 65 [.int .i64,.int .i64] (.n .e 67 [.int .u16] .e)) 68 [.sl [.int .i16]] (.n (.n .e 69 [.int .i16] .e) 72 [.sl [.int .u32,.int .u32]] .e)) 73 [.int .u32] (.n (.n (.n .e 84 [.bool,.sl [.int .i64,.int .i64]] .e) 85 [.bool,.sl [.int .i64,.int .i64]] (.n .e 107 [.int .u64] .e)) 110 [.int .i64,.int .i64] (.n (.n .e 111 [.int .i64,.int .i64] .e) 116 [.int .u8,.int .u8] .e))) 120 [.int .i64,.int .i64] (.n (.n (.n (.n .e 121 [.int .i64,.int .i64] .e) 127 [.sl [.int .u8],.int .i64,.bool] (.n .e 128 [.sl [.int .u8],.int .i64,.bool] .e)) 130 [.sl [.sl [.int .i64,.int .i64]]] (.n (.n .e 137 [.int .u32,.int .u32] .e) 152 [.int .i64] .e)) 160 [.int .u64] (.n (.n (.n .e 161 [.int .u64] .e) 175 [.int .u8] .e) 176 [.int .u8] (.n (.n .e 179 [.int .i32] .e) 180 [.int .i32] .e)))))
end HX

namespace HX
open Go Go.Proofs CX
noncomputable def tyF (t:Nat):Option CX.Ty:=tyB.get t
def ksF (t:Nat):Option (List Kd):=ksB.get t
noncomputable def fnF (f:Nat):Option Func:=CX.env.fn f
def extF (f:Nat):Option CX.Ext:=match beqN f 13 with
 |true=>some (.bool true)
 |false=>none
noncomputable def cxE (ro:Addr→Option V):CX.Env:=⟨tyF,fnF,extF,ro⟩
structure Ctr where
 f:Nat
 sg:Sig
 pre:List (List D)→Prop
 res:List (List D)→Nat→Nat→D
def inlL (l:List (Nat×Func)) (f:Nat):Option Func:=look l f
def sigL (l:List (Nat×Sig)) (f:Nat):Option Sig:=look l f
def sigs (l:List Ctr):List (Nat×Sig):=l.map fun c=>(c.f,c.sg)
def ctrOf:List Ctr→Nat→Option Ctr
 |[],_=>none
 |c :: r,f=>if c.f=f then some c else ctrOf r f
def preOf (l:List Ctr) (f:Nat) (ds:List (List D)):Prop:=match ctrOf l f with
 |some c=>c.pre ds
 |none=>False
def resOf (l:List Ctr) (f:Nat) (ds:List (List D)):Nat→Nat→D:=match ctrOf l f with
 |some c=>c.res ds
 |none=>fun _ _=>.nil
end HX

namespace HX
open Go Go.Proofs CX
inductive Inls (E:CX.Env):List (Nat×Func)→Prop
 |nil:Inls E []
 |cons {f:Nat} {fn:Func} {l:List (Nat×Func)} (h:E.fn f=some fn) (h':E.ext f=none) (r:Inls E l):Inls E ((f,fn) :: l)
theorem Inls.ok {E:CX.Env}:∀{l:List (Nat×Func)},Inls E l→∀f fn,inlL l f=some fn→E.fn f=some fn∧E.ext f=none
 |[],_,f,fn,h=>by simp [inlL,look] at h
 |(g,gn) :: l,.cons h1 h2 r,f,fn,h=>by
  unfold inlL at h
  rw [look_cons] at h
  split at h
  ·rename_i e
   simp only [Option.some.injEq] at h
   subst e h
   exact ⟨h1,h2⟩
  ·exact r.ok f fn h
def mxI (x y:Int):Int:=if x < y then y else x
def mnI (x y:Int):Int:=if y < x then y else x
theorem mxI_eq (x y:Int):mxI x y=max x y:=by unfold mxI;split<;>omega
theorem mnI_eq (x y:Int):mnI x y=min x y:=by unfold mnI;split<;>omega
theorem dt {p:Prop} [d:Decidable p] (h:decide p=true):p:=of_decide_eq_true h
theorem df {p:Prop} [d:Decidable p] (h:decide p=false):¬p:=of_decide_eq_false h
theorem nt {b:Bool} (h:(!b)=true):b=false:=by simpa using h
theorem nf {b:Bool} (h:(!b)=false):b=true:=by simpa using h
end HX

namespace HX
open Go Go.Proofs CX
abbrev vZ7 (x:Int):=-9223372036854775808≤x∧x≤9223372036854775807
abbrev v7a (fn:Nat→List (List D)→Nat→Nat→D) (a0:Int) (a1:Int) (a2:Rows):=(D.rows (fn 36 [[D.i (1+(Int.tmod a0 5)),D.i (1+(Int.tmod a1 5)),D.i 1],[D.l a2],[D.i 20]] 0 0))
abbrev v7b (fn:Nat→List (List D)→Nat→Nat→D) (a0:Int) (a1:Int) (a2:Rows) (d1:Int) (e1:Int):=((Int.tmod (Int.tdiv (D.int (gt (v7a fn a0 a1 a2) d1.toNat 1)) 2) (1+(Int.tmod a0 5))) - (Int.tmod (Int.tdiv (D.int (gt (v7a fn a0 a1 a2) e1.toNat 1)) 2) (1+(Int.tmod a0 5))))
abbrev v7c (fn:Nat→List (List D)→Nat→Nat→D) (a0:Int) (a1:Int) (a2:Rows) (d1:Int) (e1:Int):=((Int.tdiv (Int.tdiv (D.int (gt (v7a fn a0 a1 a2) d1.toNat 1)) 2) (1+(Int.tmod a0 5))) - (Int.tdiv (Int.tdiv (D.int (gt (v7a fn a0 a1 a2) e1.toNat 1)) 2) (1+(Int.tmod a0 5))))
abbrev v7d (fn:Nat→List (List D)→Nat→Nat→D) (a0:Int) (a1:Int) (a2:Rows) (a3:Int):=(D.rows (fn 21 [[D.i (1+(Int.tmod a0 5)),D.i (1+(Int.tmod a1 5)),D.i 1],[D.l (v7a fn a0 a1 a2)],[D.i (Int.tmod a3 8)]] 0 0))
abbrev v7e (fn:Nat→List (List D)→Nat→Nat→D) (a0:Int) (a1:Int) (j0:Rows) (a3:Int):=(D.rows (fn 21 [[D.i (1+(Int.tmod a0 5)),D.i (1+(Int.tmod a1 5)),D.i 1],[D.l j0],[D.i (Int.tmod a3 8)]] 0 0))
abbrev v7f (fn:Nat→List (List D)→Nat→Nat→D) (a0:Int) (a1:Int) (a2:Rows):=((((v7a fn a0 a1 a2)).length:Int))
abbrev v7g (fn:Nat→List (List D)→Nat→Nat→D) (a0:Int) (a1:Int) (a2:Rows) (d1:Int) (e1:Int):=(¬(Int.tdiv (D.int (gt (v7a fn a0 a1 a2) d1.toNat 1)) 2)=(Int.tdiv (D.int (gt (v7a fn a0 a1 a2) e1.toNat 1)) 2))
noncomputable abbrev v7h (a4:Int) (j1:Int):=(Ar.std.bit BinOp.and IntKind.i64 (Ar.std.shr IntKind.i64 a4 (Int.tmod j1 8)) 1)
structure V7r3 (fn:Nat→List (List D)→Nat→Nat→D) (a0:Int) (a1:Int) (a2:Rows) (a3:Int) (d1:Int) (e0:Bool) (e1:Int) (I3:Bool→Prop):Prop where
 n40:(e0=true)→I3 true
 g41:(e0=false)→(v7g fn a0 a1 a2 d1 e1)→vZ7 (((v7b fn a0 a1 a2 d1 e1) * (v7b fn a0 a1 a2 d1 e1)))
 g42:(e0=false)→(v7g fn a0 a1 a2 d1 e1)→(((v7b fn a0 a1 a2 d1 e1) * (v7b fn a0 a1 a2 d1 e1))≤1)→vZ7 (((v7c fn a0 a1 a2 d1 e1) * (v7c fn a0 a1 a2 d1 e1)))
 g43:(e0=false)→(v7g fn a0 a1 a2 d1 e1)→(((v7b fn a0 a1 a2 d1 e1) * (v7b fn a0 a1 a2 d1 e1))≤1)→(((v7c fn a0 a1 a2 d1 e1) * (v7c fn a0 a1 a2 d1 e1))≤1)→((D.int (gt (v7a fn a0 a1 a2) e1.toNat 0))≤(D.int (gt (v7a fn a0 a1 a2) d1.toNat 0)))→vZ7 (((D.int (gt (v7a fn a0 a1 a2) d1.toNat 0)) - (Int.tmod a3 8)))
 n44:(e0=false)→(v7g fn a0 a1 a2 d1 e1)→(((v7b fn a0 a1 a2 d1 e1) * (v7b fn a0 a1 a2 d1 e1))≤1)→(((v7c fn a0 a1 a2 d1 e1) * (v7c fn a0 a1 a2 d1 e1))≤1)→((D.int (gt (v7a fn a0 a1 a2) e1.toNat 0))≤(D.int (gt (v7a fn a0 a1 a2) d1.toNat 0)))→I3 (decide (((D.int (gt (v7a fn a0 a1 a2) d1.toNat 0)) - (Int.tmod a3 8))≤(D.int (gt (v7a fn a0 a1 a2) e1.toNat 0))))
 n45:(e0=false)→(v7g fn a0 a1 a2 d1 e1)→(((v7b fn a0 a1 a2 d1 e1) * (v7b fn a0 a1 a2 d1 e1))≤1)→(((v7c fn a0 a1 a2 d1 e1) * (v7c fn a0 a1 a2 d1 e1))≤1)→(¬(D.int (gt (v7a fn a0 a1 a2) e1.toNat 0))≤(D.int (gt (v7a fn a0 a1 a2) d1.toNat 0)))→I3 false
 n46:(e0=false)→(v7g fn a0 a1 a2 d1 e1)→(((v7b fn a0 a1 a2 d1 e1) * (v7b fn a0 a1 a2 d1 e1))≤1)→(¬((v7c fn a0 a1 a2 d1 e1) * (v7c fn a0 a1 a2 d1 e1))≤1)→I3 false
 n47:(e0=false)→(v7g fn a0 a1 a2 d1 e1)→(¬((v7b fn a0 a1 a2 d1 e1) * (v7b fn a0 a1 a2 d1 e1))≤1)→I3 false
 n48:(e0=false)→((Int.tdiv (D.int (gt (v7a fn a0 a1 a2) d1.toNat 1)) 2)=(Int.tdiv (D.int (gt (v7a fn a0 a1 a2) e1.toNat 1)) 2))→I3 false
structure V7c3 (e0:Bool) (e1:Int) (f0:Bool) (I2:Bool→Int→Prop) (m2:Bool→Int→Nat):Prop where
 g49:vZ7 ((e1+1))
 n50:I2 f0 (e1+1)∧m2 f0 (e1+1) < m2 e0 e1
abbrev V7j3 (fn:Nat→List (List D)→Nat→Nat→D) (a0:Int) (a1:Int) (a2:Rows) (a3:Int) (d1:Int) (e0:Bool) (e1:Int) (I2:Bool→Int→Prop) (m2:Bool→Int→Nat):Prop:=∃(I3:Bool→Prop),V7r3 fn a0 a1 a2 a3 d1 e0 e1 I3∧∀f0,I3 f0→V7c3 e0 e1 f0 I2 m2
structure V7c2 (fn:Nat→List (List D)→Nat→Nat→D) (a0:Int) (a1:Int) (a2:Rows) (a3:Int) (R:Nat→Nat→D) (b1:Rows) (d0:Bool) (d1:Int) (e0:Bool) (e1:Int) (I1:Bool→Int→Prop) (m1:Bool→Int→Nat) (I2:Bool→Int→Prop) (m2:Bool→Int→Nat):Prop where
 g24:(e1 < (v7f fn a0 a1 a2))→0≤e1
 g25:(e1 < (v7f fn a0 a1 a2))→e1 < (v7f fn a0 a1 a2)
 g26:(e1 < (v7f fn a0 a1 a2))→(((Int.toNat e1:Nat):Int)) < (v7f fn a0 a1 a2)
 g27:(e1 < (v7f fn a0 a1 a2))→(2:Int)≠0
 g28:(e1 < (v7f fn a0 a1 a2))→vZ7 ((Int.tdiv (D.int (gt (v7a fn a0 a1 a2) d1.toNat 1)) 2))
 g30:(e1 < (v7f fn a0 a1 a2))→vZ7 ((Int.tdiv (D.int (gt (v7a fn a0 a1 a2) e1.toNat 1)) 2))
 g31:(e1 < (v7f fn a0 a1 a2))→(1+(Int.tmod a0 5))≠0
 g33:(e1 < (v7f fn a0 a1 a2))→vZ7 ((v7b fn a0 a1 a2 d1 e1))
 g35:(e1 < (v7f fn a0 a1 a2))→vZ7 ((Int.tdiv (Int.tdiv (D.int (gt (v7a fn a0 a1 a2) d1.toNat 1)) 2) (1+(Int.tmod a0 5))))
 g37:(e1 < (v7f fn a0 a1 a2))→vZ7 ((Int.tdiv (Int.tdiv (D.int (gt (v7a fn a0 a1 a2) e1.toNat 1)) 2) (1+(Int.tmod a0 5))))
 g38:(e1 < (v7f fn a0 a1 a2))→vZ7 ((v7c fn a0 a1 a2 d1 e1))
 g51:(¬e1 < (v7f fn a0 a1 a2))→(((D.boo (mgetR b1 [D.i (D.int (gt (v7a fn a0 a1 a2) d1.toNat 0)),D.i (D.int (gt (v7a fn a0 a1 a2) d1.toNat 1))] 0 (D.b false))) == e0)=false)→R 0 0=D.b false
 g52:(¬e1 < (v7f fn a0 a1 a2))→(((D.boo (mgetR b1 [D.i (D.int (gt (v7a fn a0 a1 a2) d1.toNat 0)),D.i (D.int (gt (v7a fn a0 a1 a2) d1.toNat 1))] 0 (D.b false))) == e0)=true)→vZ7 ((d1+1))
 n53:(¬e1 < (v7f fn a0 a1 a2))→(((D.boo (mgetR b1 [D.i (D.int (gt (v7a fn a0 a1 a2) d1.toNat 0)),D.i (D.int (gt (v7a fn a0 a1 a2) d1.toNat 1))] 0 (D.b false))) == e0)=true)→I1 d0 (d1+1)∧m1 d0 (d1+1) < m1 d0 d1
 l3:(e1 < (v7f fn a0 a1 a2))→V7j3 fn a0 a1 a2 a3 d1 e0 e1 I2 m2
abbrev V7l2 (fn:Nat→List (List D)→Nat→Nat→D) (a0:Int) (a1:Int) (a2:Rows) (a3:Int) (R:Nat→Nat→D) (b1:Rows) (d0:Bool) (d1:Int) (I1:Bool→Int→Prop) (m1:Bool→Int→Nat):Prop:=∃(I2:Bool→Int→Prop) (m2:Bool→Int→Nat),I2 false 0∧∀e0 e1,I2 e0 e1→V7c2 fn a0 a1 a2 a3 R b1 d0 d1 e0 e1 I1 m1 I2 m2
structure V7c5 (pre:Nat→List (List D)→Prop) (fn:Nat→List (List D)→Nat→Nat→D) (a0:Int) (a1:Int) (a3:Int) (R:Nat→Nat→D) (b1:Rows) (j0:Rows) (k0:Bool) (k1:Int) (I5:Bool→Int→Prop) (m5:Bool→Int→Nat):Prop where
 g70:(k1 < ((((v7e fn a0 a1 j0 a3)).length:Int)))→0≤k1
 g71:(k1 < ((((v7e fn a0 a1 j0 a3)).length:Int)))→k1 < ((((v7e fn a0 a1 j0 a3)).length:Int))
 g72:(k1 < ((((v7e fn a0 a1 j0 a3)).length:Int)))→(((Int.toNat k1:Nat):Int)) < ((((v7e fn a0 a1 j0 a3)).length:Int))
 g73:(k1 < ((((v7e fn a0 a1 j0 a3)).length:Int)))→(D.boo (mgetR b1 [D.i (D.int (gt (v7e fn a0 a1 j0 a3) k1.toNat 0)),D.i (D.int (gt (v7e fn a0 a1 j0 a3) k1.toNat 1))] 0 (D.b false))=false)→R 0 0=D.b false
 g74:(k1 < ((((v7e fn a0 a1 j0 a3)).length:Int)))→(D.boo (mgetR b1 [D.i (D.int (gt (v7e fn a0 a1 j0 a3) k1.toNat 0)),D.i (D.int (gt (v7e fn a0 a1 j0 a3) k1.toNat 1))] 0 (D.b false))=true)→vZ7 ((k1+1))
 n75:(k1 < ((((v7e fn a0 a1 j0 a3)).length:Int)))→(D.boo (mgetR b1 [D.i (D.int (gt (v7e fn a0 a1 j0 a3) k1.toNat 0)),D.i (D.int (gt (v7e fn a0 a1 j0 a3) k1.toNat 1))] 0 (D.b false))=true)→I5 k0 (k1+1)∧m5 k0 (k1+1) < m5 k0 k1
 g76:(¬k1 < ((((v7e fn a0 a1 j0 a3)).length:Int)))→pre 13 []
 g77:(¬k1 < ((((v7e fn a0 a1 j0 a3)).length:Int)))→R 0 0=D.b (D.boo (fn 13 [] 0 0))
abbrev V7l5 (pre:Nat→List (List D)→Prop) (fn:Nat→List (List D)→Nat→Nat→D) (a0:Int) (a1:Int) (a3:Int) (R:Nat→Nat→D) (b1:Rows) (d0:Bool) (j0:Rows):Prop:=∃(I5:Bool→Int→Prop) (m5:Bool→Int→Nat),I5 d0 0∧∀k0 k1,I5 k0 k1→V7c5 pre fn a0 a1 a3 R b1 j0 k0 k1 I5 m5
structure V7c4 (pre:Nat→List (List D)→Prop) (fn:Nat→List (List D)→Nat→Nat→D) (a0:Int) (a1:Int) (a2:Rows) (a3:Int) (a4:Int) (R:Nat→Nat→D) (b1:Rows) (d0:Bool) (j0:Rows) (j1:Int) (I4:Rows→Int→Prop) (m4:Rows→Int→Nat):Prop where
 g55:(j1 < (v7f fn a0 a1 a2))→0≤j1
 g56:(j1 < (v7f fn a0 a1 a2))→j1 < (v7f fn a0 a1 a2)
 g57:(j1 < (v7f fn a0 a1 a2))→(((Int.toNat j1:Nat):Int)) < (v7f fn a0 a1 a2)
 g58:(j1 < (v7f fn a0 a1 a2))→vZ7 (a4)
 g59:(j1 < (v7f fn a0 a1 a2))→(8:Int)≠0
 g60:(j1 < (v7f fn a0 a1 a2))→0≤(Int.tmod j1 8)
 g61:(j1 < (v7f fn a0 a1 a2))→((v7h a4 j1)=1)→(j0.length+(List.length ([[D.i (D.int (gt (v7a fn a0 a1 a2) j1.toNat 0)),D.i (D.int (gt (v7a fn a0 a1 a2) j1.toNat 1))]]:Rows))) * 16≤4294967296∧(j0.length+(List.length ([[D.i (D.int (gt (v7a fn a0 a1 a2) j1.toNat 0)),D.i (D.int (gt (v7a fn a0 a1 a2) j1.toNat 1))]]:Rows)))≤4294967296
 g62:(j1 < (v7f fn a0 a1 a2))→((v7h a4 j1)=1)→vZ7 ((j1+1))
 n63:(j1 < (v7f fn a0 a1 a2))→((v7h a4 j1)=1)→I4 (j0++[[D.i (D.int (gt (v7a fn a0 a1 a2) j1.toNat 0)),D.i (D.int (gt (v7a fn a0 a1 a2) j1.toNat 1))]]) (j1+1)∧m4 (j0++[[D.i (D.int (gt (v7a fn a0 a1 a2) j1.toNat 0)),D.i (D.int (gt (v7a fn a0 a1 a2) j1.toNat 1))]]) (j1+1) < m4 j0 j1
 g64:(j1 < (v7f fn a0 a1 a2))→(¬(v7h a4 j1)=1)→vZ7 ((j1+1))
 n65:(j1 < (v7f fn a0 a1 a2))→(¬(v7h a4 j1)=1)→I4 j0 (j1+1)∧m4 j0 (j1+1) < m4 j0 j1
 g66:(¬j1 < (v7f fn a0 a1 a2))→pre 21 [[D.i (1+(Int.tmod a0 5)),D.i (1+(Int.tmod a1 5)),D.i 1],[D.l j0],[D.i (Int.tmod a3 8)]]
 g67:(¬j1 < (v7f fn a0 a1 a2))→(¬(D.int (fn 21 [[D.i (1+(Int.tmod a0 5)),D.i (1+(Int.tmod a1 5)),D.i 1],[D.l j0],[D.i (Int.tmod a3 8)]] 1 0))=0)→R 0 0=D.b false
 g68:(¬j1 < (v7f fn a0 a1 a2))→((D.int (fn 21 [[D.i (1+(Int.tmod a0 5)),D.i (1+(Int.tmod a1 5)),D.i 1],[D.l j0],[D.i (Int.tmod a3 8)]] 1 0))=0)→(¬(b1.length:Int)=((((v7d fn a0 a1 a2 a3)).length:Int)))→R 0 0=D.b false
 l5:(¬j1 < (v7f fn a0 a1 a2))→((D.int (fn 21 [[D.i (1+(Int.tmod a0 5)),D.i (1+(Int.tmod a1 5)),D.i 1],[D.l j0],[D.i (Int.tmod a3 8)]] 1 0))=0)→((b1.length:Int)=((((v7d fn a0 a1 a2 a3)).length:Int)))→V7l5 pre fn a0 a1 a3 R b1 d0 j0
abbrev V7l4 (pre:Nat→List (List D)→Prop) (fn:Nat→List (List D)→Nat→Nat→D) (a0:Int) (a1:Int) (a2:Rows) (a3:Int) (a4:Int) (R:Nat→Nat→D) (b1:Rows) (d0:Bool):Prop:=∃(I4:Rows→Int→Prop) (m4:Rows→Int→Nat),I4 [] 0∧∀j0 j1,I4 j0 j1→V7c4 pre fn a0 a1 a2 a3 a4 R b1 d0 j0 j1 I4 m4
structure V7c1 (pre:Nat→List (List D)→Prop) (fn:Nat→List (List D)→Nat→Nat→D) (a0:Int) (a1:Int) (a2:Rows) (a3:Int) (a4:Int) (R:Nat→Nat→D) (b1:Rows) (d0:Bool) (d1:Int) (I1:Bool→Int→Prop) (m1:Bool→Int→Nat):Prop where
 g20:(d1 < (v7f fn a0 a1 a2))→0≤d1
 g21:(d1 < (v7f fn a0 a1 a2))→d1 < (v7f fn a0 a1 a2)
 g22:(d1 < (v7f fn a0 a1 a2))→(((Int.toNat d1:Nat):Int)) < (v7f fn a0 a1 a2)
 l2:(d1 < (v7f fn a0 a1 a2))→V7l2 fn a0 a1 a2 a3 R b1 d0 d1 I1 m1
 l4:(¬d1 < (v7f fn a0 a1 a2))→V7l4 pre fn a0 a1 a2 a3 a4 R b1 d0
abbrev V7l1 (pre:Nat→List (List D)→Prop) (fn:Nat→List (List D)→Nat→Nat→D) (a0:Int) (a1:Int) (a2:Rows) (a3:Int) (a4:Int) (R:Nat→Nat→D) (b1:Rows):Prop:=∃(I1:Bool→Int→Prop) (m1:Bool→Int→Nat),I1 false 0∧∀d0 d1,I1 d0 d1→V7c1 pre fn a0 a1 a2 a3 a4 R b1 d0 d1 I1 m1
structure V7c0 (pre:Nat→List (List D)→Prop) (fn:Nat→List (List D)→Nat→Nat→D) (a0:Int) (a1:Int) (a2:Rows) (a3:Int) (a4:Int) (R:Nat→Nat→D) (b0:Int) (b1:Rows) (I0:Int→Rows→Prop) (m0:Int→Rows→Nat):Prop where
 g14:(b0 < ((((v7d fn a0 a1 a2 a3)).length:Int)))→0≤b0
 g15:(b0 < ((((v7d fn a0 a1 a2 a3)).length:Int)))→b0 < ((((v7d fn a0 a1 a2 a3)).length:Int))
 g16:(b0 < ((((v7d fn a0 a1 a2 a3)).length:Int)))→(((Int.toNat b0:Nat):Int)) < ((((v7d fn a0 a1 a2 a3)).length:Int))
 g17:(b0 < ((((v7d fn a0 a1 a2 a3)).length:Int)))→vZ7 ((b0+1))
 n18:(b0 < ((((v7d fn a0 a1 a2 a3)).length:Int)))→I0 (b0+1) (msetR [D.i (D.int (gt (v7d fn a0 a1 a2 a3) b0.toNat 0)),D.i (D.int (gt (v7d fn a0 a1 a2 a3) b0.toNat 1))] [D.b true] b1)∧m0 (b0+1) (msetR [D.i (D.int (gt (v7d fn a0 a1 a2 a3) b0.toNat 0)),D.i (D.int (gt (v7d fn a0 a1 a2 a3) b0.toNat 1))] [D.b true] b1) < m0 b0 b1
 l1:(¬b0 < ((((v7d fn a0 a1 a2 a3)).length:Int)))→V7l1 pre fn a0 a1 a2 a3 a4 R b1
abbrev V7l0 (pre:Nat→List (List D)→Prop) (fn:Nat→List (List D)→Nat→Nat→D) (a0:Int) (a1:Int) (a2:Rows) (a3:Int) (a4:Int) (R:Nat→Nat→D):Prop:=∃(I0:Int→Rows→Prop) (m0:Int→Rows→Nat),I0 0 []∧∀b0 b1,I0 b0 b1→V7c0 pre fn a0 a1 a2 a3 a4 R b0 b1 I0 m0
structure V7 (pre:Nat→List (List D)→Prop) (fn:Nat→List (List D)→Nat→Nat→D) (a0:Int) (a1:Int) (a2:Rows) (a3:Int) (a4:Int) (R:Nat→Nat→D):Prop where
 g0:(40 < (a2.length:Int))→pre 13 []
 g1:(40 < (a2.length:Int))→R 0 0=D.b (D.boo (fn 13 [] 0 0))
 g2:(¬40 < (a2.length:Int))→vZ7 (a0)
 g3:(¬40 < (a2.length:Int))→(5:Int)≠0
 g4:(¬40 < (a2.length:Int))→vZ7 ((1+(Int.tmod a0 5)))
 g5:(¬40 < (a2.length:Int))→vZ7 (a1)
 g7:(¬40 < (a2.length:Int))→vZ7 ((1+(Int.tmod a1 5)))
 g8:(¬40 < (a2.length:Int))→vZ7 (a3)
 g9:(¬40 < (a2.length:Int))→(8:Int)≠0
 g10:(¬40 < (a2.length:Int))→pre 36 [[D.i (1+(Int.tmod a0 5)),D.i (1+(Int.tmod a1 5)),D.i 1],[D.l a2],[D.i 20]]
 g11:(¬40 < (a2.length:Int))→pre 21 [[D.i (1+(Int.tmod a0 5)),D.i (1+(Int.tmod a1 5)),D.i 1],[D.l (v7a fn a0 a1 a2)],[D.i (Int.tmod a3 8)]]
 g12:(¬40 < (a2.length:Int))→(¬(D.int (fn 21 [[D.i (1+(Int.tmod a0 5)),D.i (1+(Int.tmod a1 5)),D.i 1],[D.l (v7a fn a0 a1 a2)],[D.i (Int.tmod a3 8)]] 1 0))=0)→R 0 0=D.b false
 l0:(¬40 < (a2.length:Int))→((D.int (fn 21 [[D.i (1+(Int.tmod a0 5)),D.i (1+(Int.tmod a1 5)),D.i 1],[D.l (v7a fn a0 a1 a2)],[D.i (Int.tmod a3 8)]] 1 0))=0)→V7l0 pre fn a0 a1 a2 a3 a4 R
end HX

namespace HX
open Go CX
def headId:Code→Nat
 |.region id _ _=>id
 |.seq a _=>headId a
 |.block _ b=>headId b
 |_=>0
def memB:List Nat→Nat→Bool
 |[],_=>false
 |a :: r,x=>match beqN a x with
  |true=>true
  |false=>memB r x
def vcJ (E:Env) (rd:Option Nat) (lo:Nat) (ci:CI) (js:List Nat):Code→(Ex→St→Prop)→St→Prop
 |.seq a b,Q,σ=>vcJ E rd lo ci js a (thenQ (fun σ'=>vcJ E rd lo ci js b Q σ') Q) σ
 |.block id b,Q,σ=>vcJ E rd lo ci js b (inBlockQ id Q) σ
 |.cond c a b,Q,σ=>match memB js (headId a) with
  |true=>Leaf E.E rd lo (.cond c a b) Q σ
  |false=>match evR σ.regs c with
   |.bool true=>vcJ E rd lo ci js a Q σ
   |.bool false=>vcJ E rd lo ci js b Q σ
   |.sym p=>Br p (fun _=>vcJ E rd lo ci js a Q (knowO σ c true)) (fun _=>vcJ E rd lo ci js b Q (knowO σ c false))
   |_=>StuckC (.cond c .skip .skip) σ
 |.region id ops draw,Q,σ=>match memB js id with
  |true=>Leaf E.E rd lo (.region id ops draw) Q σ
  |false=>vc E rd lo ci (.region id ops draw) Q σ
 |c,Q,σ=>vc E rd lo ci c Q σ
section
variable {E:Env} (hE:EnvOk E)
include hE
theorem vcJ_ok {ci:CI} (hci:CIOk E.E ci) (js:List Nat) {rd:Option Nat} {lo:Nat}:∀(c:Code) (Q:Ex→St→Prop) (σ:St),vcJ E rd lo ci js c Q σ→SWP E.E rd lo c Q σ
 |.seq a b,Q,σ,h=>fun C S hS hlo hrd=>by
  obtain ⟨e,S1,C1,σ1,k1,k2,k3,k4⟩:=vcJ_ok hci js a _ σ h C S hS hlo hrd
  cases e with
  |normal=>
   obtain ⟨e,S2,C2,σ2,l1,l2,l3,l4⟩:=vcJ_ok hci js b Q σ1 k4 C1 S1 k2 k3.m.le hrd
   refine ⟨e,S2,C2,σ2,(k1.and l1).succ fun n hn=>?_,l2,k3.trans l3,l4⟩
   show cxBody E.E (cx E.E n) (rd.map C.ids) (.seq a b) S=_
   have hn2:=hn.2
   rw [rd_ag hE hrd k3.m.ag] at hn2
   simp only [cxBody,hn.1,hn2]
  |ret=>
   refine ⟨.ret,S1,C1,σ1,k1.succ fun n hn=>?_,k2,k3,k4⟩
   show cxBody E.E (cx E.E n) (rd.map C.ids) (.seq a b) S=_
   simp only [cxBody,hn]
  |exit i=>
   refine ⟨.exit i,S1,C1,σ1,k1.succ fun n hn=>?_,k2,k3,k4⟩
   show cxBody E.E (cx E.E n) (rd.map C.ids) (.seq a b) S=_
   simp only [cxBody,hn]
 |.block id b,Q,σ,h=>fun C S hS hlo hrd=>by
  obtain ⟨e,S1,C1,σ1,k1,k2,k3,k4⟩:=vcJ_ok hci js b _ σ h C S hS hlo hrd
  cases e with
  |normal=>
   refine ⟨.normal,S1,C1,σ1,k1.succ fun n hn=>?_,k2,k3,k4⟩
   show cxBody E.E (cx E.E n) (rd.map C.ids) (.block id b) S=_
   simp only [cxBody,hn]
  |ret=>
   refine ⟨.ret,S1,C1,σ1,k1.succ fun n hn=>?_,k2,k3,k4⟩
   show cxBody E.E (cx E.E n) (rd.map C.ids) (.block id b) S=_
   simp only [cxBody,hn]
  |exit i=>
   simp only [inBlockQ] at k4
   split at k4
   ·rename_i hb
    simp only [beqN_iff] at hb
    refine ⟨.normal,S1,C1,σ1,k1.succ fun n hn=>?_,k2,k3,k4⟩
    show cxBody E.E (cx E.E n) (rd.map C.ids) (.block id b) S=_
    simp only [cxBody,hn,hb,Nat.beq_refl]
   ·rename_i hb
    simp only [beqN_not] at hb
    refine ⟨.exit i,S1,C1,σ1,k1.succ fun n hn=>?_,k2,k3,k4⟩
    show cxBody E.E (cx E.E n) (rd.map C.ids) (.block id b) S=_
    have hne:Nat.beq i id=false:=by
     cases he:Nat.beq i id with
     |true=>exact absurd (Nat.eq_of_beq_eq_true he) hb
     |false=>rfl
    simp only [cxBody,hn,hne]
 |.cond c a b,Q,σ,h=>fun C S hS hlo hrd=>by
  simp only [vcJ] at h
  split at h
  ·exact h.out C S hS hlo hrd
  have hx:=evR_ok hS.regs
  have go:∀(bb:Bool) (σ:St),Sim C σ S→lo≤σ.next→CX.evR S.regs c=some (.bool bb)→(match bb with |true=>vcJ E rd lo ci js a Q σ |false=>vcJ E rd lo ci js b Q σ)→∃e S' C' σ',Evt (fun n=>cx E.E n (rd.map C.ids) (.cond c a b) S=some (e,S'))∧Sim C' σ' S'∧Ext lo C σ S C' σ' S'∧Q e σ':=by
   intro bb σ hS hlo hb h
   cases bb with
   |true=>
    obtain ⟨e,S1,C1,σ1,k1,k2,k3,k4⟩:=vcJ_ok hci js a Q σ h C S hS hlo hrd
    refine ⟨e,S1,C1,σ1,k1.succ fun n hn=>?_,k2,k3,k4⟩
    show cxBody E.E (cx E.E n) (rd.map C.ids) (.cond c a b) S=_
    simp only [cxBody,hb,hn]
   |false=>
    obtain ⟨e,S1,C1,σ1,k1,k2,k3,k4⟩:=vcJ_ok hci js b Q σ h C S hS hlo hrd
    refine ⟨e,S1,C1,σ1,k1.succ fun n hn=>?_,k2,k3,k4⟩
    show cxBody E.E (cx E.E n) (rd.map C.ids) (.cond c a b) S=_
    simp only [cxBody,hb,hn]
  have kn:∀bb,CX.evR S.regs c=some (.bool bb)→Sim C (knowO σ c bb) S∧lo≤(knowO σ c bb).next∧Ext lo C σ S C (knowO σ c bb) S:=by
   intro bb hb
   unfold knowO
   split
   ·exact ⟨⟨hS.nt,know_ok hS.regs hb,hS.m,hS.df,hS.dflt⟩,hlo,(MExt.refl _ _ _ _ _).less hlo,rfl,fun _ h=>.inl h⟩
   ·exact ⟨hS,hlo,Ext.refl _ _ _ hlo⟩
  split at h
  ·rename_i he
   obtain ⟨v,v1,v2⟩:=hx.get he (by intro e;cases e)
   simp only [RvS] at v2
   subst v2
   exact go true σ hS hlo v1 h
  ·rename_i he
   obtain ⟨v,v1,v2⟩:=hx.get he (by intro e;cases e)
   simp only [RvS] at v2
   subst v2
   exact go false σ hS hlo v1 h
  ·rename_i p he
   obtain ⟨v,v1,v2⟩:=hx.get he (by intro e;cases e)
   simp only [RvS] at v2
   subst v2
   cases hp:p with
   |true=>rw [hp] at v1;exact let ⟨e,S',C',σ',k1,k2,k3,k4⟩:=go true (knowO σ c true) (kn true v1).1 (kn true v1).2.1 v1 (h.t hp);⟨e,S',C',σ',k1,k2,(kn true v1).2.2.trans k3,k4⟩
   |false=>rw [hp] at v1;exact let ⟨e,S',C',σ',k1,k2,k3,k4⟩:=go false (knowO σ c false) (kn false v1).1 (kn false v1).2.1 v1 (h.e hp);⟨e,S',C',σ',k1,k2,(kn false v1).2.2.trans k3,k4⟩
  ·exact h.out.elim
 |.region id ops draw,Q,σ,h=>by
  simp only [vcJ] at h
  split at h
  ·exact h.out
  ·exact vc_ok hE hci _ Q σ h
 |.skip,Q,σ,h=>vc_ok hE hci _ Q σ h
 |.label _,Q,σ,h=>vc_ok hE hci _ Q σ h
 |.ret,Q,σ,h=>vc_ok hE hci _ Q σ h
 |.exit _,Q,σ,h=>vc_ok hE hci _ Q σ h
 |.loop _,Q,σ,h=>vc_ok hE hci _ Q σ h
 |.rangeFunc ..,Q,σ,h=>vc_ok hE hci _ Q σ h
 |.scope ..,Q,σ,h=>vc_ok hE hci _ Q σ h
 |.goto ..,Q,σ,h=>vc_ok hE hci _ Q σ h
 |.refuse ..,Q,σ,h=>vc_ok hE hci _ Q σ h
end
def killL (kl:List Nat):List (Nat×SV)→List (Nat×SV)
 |[]=>[]
 |(t,v) :: r=>match memB kl t with
  |true=>killL kl r
  |false=>(t,v) :: killL kl r
def killR (kl:List Nat) (σ:St):St:=⟨σ.nt,killL kl σ.regs,σ.objs,σ.next,σ.df⟩
theorem joinB {E:Env} (hE:EnvOk E) {inl:Nat→Option Func} (hinl:∀f fn,inl f=some fn→E.E.fn f=some fn∧E.E.ext f=none) {rd:Option Nat} {lo:Nat} (n:Nat) (kl fz drop:List Nat) (names:List (Nat×List Nat)) {c:Code} {Q:Ex→St→Prop} {σ:St} {X:Type} (vals:X→List D) (J:X→Prop)
  (run:∀K:St→Prop,(∀x σ',J x→subP lo (frzT fz σ') (updT E lo c (killR kl (frzT fz σ)) drop names (vals x))→K σ')→vc E rd lo (ciN E inl n) c (thenQ K Q) σ)
  (cont:∀x,J x→Q .normal (updT E lo c (killR kl (frzT fz σ)) drop names (vals x))):Leaf E.E rd lo c Q σ:=by
 refine ⟨fun C S hS hlo hrd=>?_⟩
 obtain ⟨e,S1,C1,σ1,k1,k2,k3,k4⟩:=vc_ok hE (ciN_ok hE hinl n) c _ σ (run (fun σ'=>∃x,J x∧Sub lo σ' (updT E lo c (killR kl (frzT fz σ)) drop names (vals x))) fun x σ' h1 h2=>⟨x,h1,(subP_ok h2).frz fz⟩) C S hS hlo hrd
 cases e with
 |normal=>
  obtain ⟨x,hx,hs⟩:=k4
  obtain ⟨C2,s1,s2⟩:=hs _ C1 S1 k2 k3.m.le
  exact ⟨.normal,S1,C2,_,k1,s1,k3.trans s2,cont x hx⟩
 |ret=>exact ⟨_,S1,C1,σ1,k1,k2,k3,k4⟩
 |exit i=>exact ⟨_,S1,C1,σ1,k1,k2,k3,k4⟩
def addR (nr:List (Nat×SV)) (σ:St):St:=⟨σ.nt,nr++σ.regs,σ.objs,σ.next,σ.df⟩
theorem joinR {E:Env} (hE:EnvOk E) {inl:Nat→Option Func} (hinl:∀f fn,inl f=some fn→E.E.fn f=some fn∧E.E.ext f=none) {rd:Option Nat} {lo:Nat} (n:Nat) (kl fz drop:List Nat) (nr:List (Nat×SV)) (names:List (Nat×List Nat)) {c:Code} {Q:Ex→St→Prop} {σ:St} {X:Type} (vals:X→List D) (J:X→Prop)
  (run:∀K:St→Prop,(∀x σ',J x→subP lo (frzT fz σ') (updT E lo c (addR nr (killR kl (frzT fz σ))) drop names (vals x))→K σ')→vc E rd lo (ciN E inl n) c (thenQ K Q) σ)
  (cont:∀x,J x→Q .normal (updT E lo c (addR nr (killR kl (frzT fz σ))) drop names (vals x))):Leaf E.E rd lo c Q σ:=by
 refine ⟨fun C S hS hlo hrd=>?_⟩
 obtain ⟨e,S1,C1,σ1,k1,k2,k3,k4⟩:=vc_ok hE (ciN_ok hE hinl n) c _ σ (run (fun σ'=>∃x,J x∧Sub lo σ' (updT E lo c (addR nr (killR kl (frzT fz σ))) drop names (vals x))) fun x σ' h1 h2=>⟨x,h1,(subP_ok h2).frz fz⟩) C S hS hlo hrd
 cases e with
 |normal=>
  obtain ⟨x,hx,hs⟩:=k4
  obtain ⟨C2,s1,s2⟩:=hs _ C1 S1 k2 k3.m.le
  exact ⟨.normal,S1,C2,_,k1,s1,k3.trans s2,cont x hx⟩
 |ret=>exact ⟨_,S1,C1,σ1,k1,k2,k3,k4⟩
 |exit i=>exact ⟨_,S1,C1,σ1,k1,k2,k3,k4⟩
theorem loopBJ {E:Env} (hE:EnvOk E) (js:List Nat) {inl:Nat→Option Func} (hinl:∀f fn,inl f=some fn→E.E.fn f=some fn∧E.E.ext f=none) {rd:Option Nat} {lo:Nat} (n:Nat) (fz drop:List Nat) (names:List (Nat×List Nat)) {c:Code} {Q:Ex→St→Prop} {σ:St} {X:Type} (vals:X→List D) (Inv:X→Prop) (μ:X→Nat) (x0:X) (h0:Inv x0)
  (hs:subP lo (frzT fz σ) (updT E lo c (frzT fz σ) drop names (vals x0)))
  (round:∀x,Inv x→∀K:St→Prop,(∀x' σ',Inv x'→μ x' < μ x→subP lo (frzT fz σ') (updT E lo c (frzT fz σ) drop names (vals x'))→K σ')→vcJ E rd lo (ciN E inl n) js c (endQ K Q) (updT E lo c (frzT fz σ) drop names (vals x))) :
  Leaf E.E rd lo (.loop c) Q σ:=by
 refine ⟨loop_ok (fun x=>updT E lo c (frzT fz σ) drop names (vals x)) Inv μ x0 h0 ((subP_ok hs).frz fz) (fun _=>updT_lo) fun x hx=>?_⟩
 have e:loopQ lo (fun x=>updT E lo c (frzT fz σ) drop names (vals x)) Inv μ Q x=endQ (fun σ'=>∃x',Inv x'∧μ x' < μ x∧Sub lo σ' (updT E lo c (frzT fz σ) drop names (vals x'))) Q:=by
  funext e σ'
  cases e<;>rfl
 rw [e]
 exact vcJ_ok hE (ciN_ok hE hinl n) js c _ _ (round x hx _ fun x' σ' h1 h2 h3=>⟨x',h1,h2,(subP_ok h3).frz fz⟩)
def fnVCJ (js:List Nat) (b0 n0:Nat) (E:Env) (inl:Nat→Option Func) (n:Nat) (fn:Func) (sg:Sig) (r:Nat→Nat→D) (ds:List (List D)):Prop:=
 match fn.body with
 |some c=>match argsSV b0 sg.params ds with
  |some vs=>match bleN vs.length fn.ntmps with
   |true=>vcJ E none 0 (ciN E inl n) js c (retX E fn sg r) ⟨fn.ntmps,enterS 0 vs,[],n0,[]⟩
   |false=>False
  |none=>False
 |none=>False
theorem of_vcGJ {E:Env} (hE:EnvOk E) (js:List Nat) {inl:Nat→Option Func} (hinl:∀f fn,inl f=some fn→E.E.fn f=some fn∧E.E.ext f=none) (n:Nat) {f:Nat} {fn:Func} {sg:Sig} {pre:List (List D)→Prop} {res:List (List D)→Nat→Nat→D} (hf:E.E.fn f=some fn∧E.E.ext f=none)
  (b0 n0:Nat) (hb0:b0≤n0) (h:allA sg.params fun ds=>pre ds→fnVCJ js b0 n0 E inl n fn sg (res ds) ds) {ds:List (List D)} (hpre:pre ds) {g:Nat→Option O} {bar nx:Nat} {hp:T O} {args:List V} (C:Cx E.E.ro) (hCg:C.g=g) (hM:MSim C [] n0 bar hp.get nx)
  (hargs:ArgsFz E.E.ro C.g (C.bd b0) sg.params ds args) :
  ∃(vs:List V) (h':T O) (nx':Nat) (g':Nat→Option O),Evt (fun n=>∀k,callF E.E (cx E.E n) bar hp nx f args k=k (CX.one vs) h' nx')∧nx≤nx'∧(∀id,id < nx→h'.get id=hp.get id)∧(∀id o,g id=some o→g' id=some o)∧
   (∀id o,g' id=some o→(id < nx'∧h'.get id=some o)∧(g id=some o∨nx≤id))∧ResFz E.E.ro g' nx' (res ds) sg.results 0 vs:=by
 subst hCg
 have hvc:=allA_ok h hargs hpre
 unfold fnVCJ at hvc
 split at hvc
 ·rename_i c hc
  split at hvc
  ·rename_i vs hvs
   split at hvc
   ·rename_i hle
    simp only [bleN_iff] at hle
    have hrel:RvSL C n0 vs args:=argsSV_ok hb0 hvs hargs
    obtain ⟨t',t1,t2⟩:=enter_ok (C:=C) (n:=n0) _ _ 0 .e [] hrel (fun t s h=>by simp [look] at h) (fun j s h=>by simp [look] at h)
    obtain ⟨e,S',C',σ',k1,k2,k3,k4⟩:=vcJ_ok hE (ciN_ok hE hinl n) js (rd:=none) (lo:=0) c _ _ hvc C ⟨fn.ntmps,bar,t',hp,nx,[]⟩ ⟨rfl,fun j s hl=>.inr (t2 j s hl),hM,.nil,fun d hd=>by cases hd⟩ (Nat.zero_le _) (fun l hl=>by cases hl)
    have none0:∀id,¬OwnId C [] id:=fun id h=>by obtain ⟨_,_,hl,_⟩:=h;simp [look] at hl
    have fin:retRP E fn sg (res ds) σ'→(e=.normal∨e=.ret)→∃(vs:List V) (h':T O) (nx':Nat) (g':Nat→Option O),Evt (fun n=>∀k,callF E.E (cx E.E n) bar hp nx f args k=k (CX.one vs) h' nx')∧nx≤nx'∧(∀id,id < nx→h'.get id=hp.get id)∧(∀id o,C.g id=some o→g' id=some o)∧
      (∀id o,g' id=some o→(id < nx'∧h'.get id=some o)∧(C.g id=some o∨nx≤id))∧ResFz E.E.ro g' nx' (res ds) sg.results 0 vs:=by
     intro hr he
     unfold retRP at hr
     split at hr
     ·rename_i objs ho
      split at hr
      ·rename_i rs hrs
       unfold retD at hr
       split at hr
       ·rename_i ds' hds
        obtain ⟨h',t1',t2',t3'⟩:=take_ok S'.df σ'.df σ'.objs objs S'.h ho k2.m k2.df k2.dflt
        obtain ⟨x,x1,x2⟩:=resAll_ok (σ:=σ'.mem objs σ'.next) hE t2' k2.regs fn.results.toList hrs
        obtain ⟨C2,m2,e2⟩:=t2'.frzL rs
        have hA:=argsD_ok (σ:=σ'.mem (frzL objs rs) σ'.next) m2 (fun _ _ h=>h) (fun e=>by cases e) hds (RvSL.ag e2.ag (Nat.le_refl _) _ _ x1)
        have hext:MExt C [] 0 hp.get nx C2 (frzL objs rs) σ'.next h'.get S'.nx:=yext (k3.m.took t3' (fun i hi=>(k3.df i hi).resolve_left (by intro h;cases h))) (MExt.refl _ _ _ _ _) ((MExt.refl _ _ _ _ _).less (Nat.zero_le _)) e2
        have hbar':S'.bar=bar:=k3.bar
        refine ⟨x,h',S'.nx,C2.g,k1.mono fun n hn k=>?_,hext.nxle,fun id hid=>hext.keep id hid (none0 id),fun id o hgo=>hext.ag.g id o hgo,fun id o hgo=>⟨m2.fz id o hgo,?_⟩,eqRes_ok (allP_ok _ hr) hA⟩
        ·have hlen:Nat.ble (CX.len args) fn.ntmps=true:=bleT (by rw [len_eq,hrel.length];exact hle)
         have hn':cx E.E n none c ⟨fn.ntmps,bar,t',hp,nx,[]⟩=some (e,S'):=hn
         have hrun:outV (takeDf bar S'.df S'.h fun h=>resultsX E.E S'.regs h fn.results.toList fun l=>retV (CX.one l) h S'.nx) k=k (CX.one x) h' S'.nx:=by
          rw [←hbar',t1',x2];rfl
         simp only [callF,hf.1,hf.2,hc,hlen,t1,hn']
         rcases he with rfl |rfl<;>exact hrun
        ·rcases hext.g id o hgo with h |h |h
         ·exact .inl h
         ·exact absurd h (none0 id)
         ·exact .inr h
       ·exact hr.out.elim
      ·exact hr.out.elim
     ·exact hr.out.elim
    cases e with
    |normal=>exact fin k4 (.inl rfl)
    |ret=>exact fin k4 (.inr rfl)
    |exit i=>exact (StuckR.out k4).elim
   ·exact hvc.elim
  ·exact hvc.elim
 ·exact hvc.elim
theorem PureC.of_vcJ {E:Env} (hE:EnvOk E) (js:List Nat) {inl:Nat→Option Func} (hinl:∀f fn,inl f=some fn→E.E.fn f=some fn∧E.E.ext f=none) (n:Nat) {f:Nat} {fn:Func} {sg:Sig} {pre:List (List D)→Prop} {res:List (List D)→Nat→Nat→D} (hf:E.E.fn f=some fn∧E.E.ext f=none)
  (h:allA sg.params fun ds=>pre ds→fnVCJ js 1 1 E inl n fn sg (res ds) ds):PureC E.E f sg pre res:=by
 intro ds hpre g bar nx hp args hg hbar hargs
 refine of_vcGJ hE js hinl n hf 1 1 (Nat.le_refl _) h hpre (bar:=bar) ⟨fun _=>0,fun _=>.nils,g,fun b=>if b=0 then 0 else nx⟩ rfl ?_ hargs
 exact ⟨fun _ _ h=>by simp [look] at h,fun _ _ h=>by simp [look] at h,fun _ _ h=>by simp [look] at h,fun _ _ _ _ h=>by simp [look] at h,hg,fun b _=>by show (if b=0 then 0 else nx)≤nx;split<;>omega,rfl,hbar,rfl⟩
theorem PureC0.of_vcJ {E:Env} (hE:EnvOk E) (js:List Nat) {inl:Nat→Option Func} (hinl:∀f fn,inl f=some fn→E.E.fn f=some fn∧E.E.ext f=none) (n:Nat) {f:Nat} {fn:Func} {sg:Sig} {pre:List (List D)→Prop} {res:List (List D)→Nat→Nat→D} (hf:E.E.fn f=some fn∧E.E.ext f=none)
  (h:allA sg.params fun ds=>pre ds→fnVCJ js 0 0 E inl n fn sg (res ds) ds):PureC0 E.E f sg pre res:=by
 intro ds hpre args hargs
 obtain ⟨vs,h',nx',g',c1,_,_,_,_,c6⟩:=of_vcGJ hE js hinl n hf 0 0 (Nat.le_refl _) h hpre (bar:=0) (hp:=.e) (nx:=0) ⟨fun _=>0,fun _=>.nils,fun _=>none,fun _=>0⟩ rfl
  ⟨fun _ _ h=>by simp [look] at h,fun _ _ h=>by simp [look] at h,fun _ _ h=>by simp [look] at h,fun _ _ _ _ h=>by simp [look] at h,fun _ _ h=>(by cases h),fun _ _=>Nat.le_refl _,rfl,Nat.le_refl _,rfl⟩ hargs
 exact ⟨vs,h',nx',g',c1,c6⟩
end HX
