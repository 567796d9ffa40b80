import Derived.Test.YtifkepnfaggkiaaGreatDoorEngUse
import Derived.Test.YtifkepnfaggkiaaGreatDoorProg
namespace Go.Proofs.YtifkepnfaggkiaaGreatDoor
open Go.RowKit
set_option maxRecDepth 100000
def TY:TT:=fun t=>match t with
 | 2=>some ⟨.int .i64,1,[.at (.int .i64 0)]⟩
 | 3=>some ⟨.int .i64,1,[.at (.int .i64 0)]⟩
 | 4=>some ⟨.bool,1,[.at (.bool false)]⟩
 | 5=>some ⟨.int .u8,1,[.at (.int .u8 0)]⟩
 | 8=>some ⟨.struct [(0,1,false),(1,1,false),(2,1,false),(3,1,false)],4,[.at (.int .i64 0),.at (.int .i64 0),.at (.bool false),.at (.int .u8 0)]⟩
 | 9=>some ⟨.string,1,[.at (.string .empty)]⟩
 | 10=>some ⟨.string,1,[.at (.string .empty)]⟩
 | 11=>some ⟨.string,1,[.at (.string .empty)]⟩
 | 14=>some ⟨.struct [(0,1,false),(1,1,false)],2,[.at (.string .empty),.at (.int .u64 0)]⟩
 | 19=>some ⟨.struct [(0,1,false)],1,[.at (.pointer none)]⟩
 | 22=>some ⟨.slice 5 1 1,1,[.nil 5 1]⟩
 | 24=>some ⟨.slice 181 2 32,1,[.nil 181 2]⟩
 | 25=>some ⟨.slice 96 3 40,1,[.nil 96 3]⟩
 | 27=>some ⟨.struct [(0,1,false),(1,1,false),(2,1,false),(3,1,false)],4,[.nil 181 2,.at (.int .i64 0),.at (.int .i64 0),.nil 96 3]⟩
 | 28=>some ⟨.slice 9 1 16,1,[.nil 9 1]⟩
 | 30=>some ⟨.struct [(0,1,false)],1,[.nil 9 1]⟩
 | 36=>some ⟨.struct [(0,1,true),(1,1,false),(2,1,true),(3,1,false),(4,1,false)],5,[.nil 9 1,.nil 5 1,.nil 9 1,.at (.int .i64 0),.at (.int .i64 0)]⟩
 | 53=>some ⟨.slice 3 1 8,1,[.nil 3 1]⟩
 | 58=>some ⟨.slice 136 2 16,1,[.nil 136 2]⟩
 | 60=>some ⟨.struct [(0,1,false),(1,1,false)],2,[.at (.int .i64 0),.nil 136 2]⟩
 | 61=>some ⟨.slice 87 3 72,1,[.nil 87 3]⟩
 | 63=>some ⟨.struct [(0,2,true),(2,1,false)],3,[.at (.int .i64 0),.nil 136 2,.nil 87 3]⟩
 | 78=>some ⟨.slice 139 2 32,1,[.nil 139 2]⟩
 | 80=>some ⟨.struct [(0,1,false)],1,[.nil 139 2]⟩
 | 85=>some ⟨.slice 152 3 56,1,[.nil 152 3]⟩
 | 87=>some ⟨.struct [(0,1,true),(1,1,true),(2,1,false)],3,[.nil 9 1,.nil 139 2,.nil 152 3]⟩
 | 96=>some ⟨.struct [(0,1,false),(1,1,true),(2,1,false)],3,[.at (.int .i64 0),.nil 9 1,.at (.int .i64 0)]⟩
 | 111=>some ⟨.slice 178 2 32,1,[.nil 178 2]⟩
 | 136=>some ⟨.struct [(0,1,false),(1,1,false)],2,[.at (.int .i64 0),.at (.int .i64 0)]⟩
 | 139=>some ⟨.struct [(0,1,true),(1,1,false)],2,[.nil 9 1,.at (.int .i64 0)]⟩
 | 146=>some ⟨.slice 201 4 64,1,[.nil 201 4]⟩
 | 152=>some ⟨.struct [(0,1,true),(1,1,false),(2,1,false)],3,[.nil 9 1,.at (.int .i64 0),.nil 5 1]⟩
 | 157=>some ⟨.struct [(0,1,false),(1,1,false),(2,1,false)],3,[.nil 5 1,.at (.int .i64 0),.at (.int .i64 0)]⟩
 | 178=>some ⟨.struct [(0,1,true),(1,1,false)],2,[.nil 9 1,.at (.int .i64 0)]⟩
 | 181=>some ⟨.struct [(0,1,true),(1,1,false)],2,[.nil 9 1,.at (.int .i64 0)]⟩
 | 199=>some ⟨.slice 30 1 24,1,[.nil 30 1]⟩
 | 201=>some ⟨.struct [(0,1,false),(1,1,false),(2,1,false),(3,1,false)],4,[.at (.int .i64 0),.at (.int .i64 0),.nil 3 1,.nil 30 1]⟩
 | 217=>some ⟨.int .u64,1,[.at (.int .u64 0)]⟩
 | 243=>some ⟨.slice 53 1 24,1,[.nil 53 1]⟩
 | 258=>some ⟨.int .u64,1,[.at (.int .u64 0)]⟩
 | 263=>some ⟨.int .u32,1,[.at (.int .u32 0)]⟩
 | 285=>some ⟨.int .u8,1,[.at (.int .u8 0)]⟩
 | _=>none
theorem zx1 (t:Nat) (ti:TI) (h:TY t=some ti):ttOf Tryz.prog t=some ti:=by
 unfold TY at h
 split at h
 all_goals first|(injection h with h;subst h;kernel_rfl)|cases h
end Go.Proofs.YtifkepnfaggkiaaGreatDoor
