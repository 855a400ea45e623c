/- Types and facts. -/
import Derived.Test.YteklgnhfgdhdiaaGreatY1
import Derived.Test.YteklgnhfgdhdiaaGreatRows
namespace Go.Proofs.YteklgnhfgdhdiaaGreat
open Go Go.Z Go.Proofs Go.MuLone Go.ChangeShapes Go.WideShapes Go.ChangeAt Go.RowKit
set_option linter.unusedVariables false
set_option linter.unusedSimpArgs false
structure S_Block where
  Id:Int
  Leaf:Int
  Value:Int
def z_Block:S_Block:=⟨0,0,0⟩

def L_Block:Lay S_Block:=Lay.flat 3 (fun x=>[.int .i64 x.Id,.int .i64 x.Leaf,.int .i64 x.Value]) (fun _=>rfl) (fun x u hu=>by
  simp only [List.mem_cons,List.not_mem_nil,or_false] at hu
  rcases hu with rfl | rfl | rfl <;> rfl)

structure S_Oram where
  Pos:List Int
  Stash:List S_Block
  Buckets:List (List S_Block)
def z_Oram:S_Oram:=⟨[],[],[]⟩

def L_impl_Oram:Lay S_Oram:=Lay.map (Lay.pair (Lay.sl (Lay.int .i64) 3) (Lay.pair (Lay.sl L_Block 100) (Lay.sl (Lay.sl L_Block 100) 42))) (fun x=>(x.Pos,(x.Stash,x.Buckets)))

structure S_Enc where
  Keys:List Int
  Oram:S_Oram
def z_Enc:S_Enc:=⟨[],z_Oram⟩

def L_impl_Enc:Lay S_Enc:=Lay.map (Lay.pair (Lay.sl (Lay.int .i64) 3) L_impl_Oram) (fun x=>(x.Keys,x.Oram))

structure S_Result where
  Code:Int
  Values:List Int
def z_Result:S_Result:=⟨0,[]⟩

def L_impl_Result:Lay S_Result:=Lay.map (Lay.pair (Lay.int .i64) (Lay.sl (Lay.int .i64) 3)) (fun x=>(x.Code,x.Values))

structure S_Hash where
  H0:Int
  H1:Int
  H2:Int
  H3:Int
  H4:Int
  H5:Int
  H6:Int
  H7:Int
  Buf:ByteArray
  N:Int
def z_Hash:S_Hash:=⟨0,0,0,0,0,0,0,0,ByteArray.empty,0⟩

def L_Hash:Lay S_Hash:=Lay.flat 10 (fun x=>[.int .i64 x.H0,.int .i64 x.H1,.int .i64 x.H2,.int .i64 x.H3,.int .i64 x.H4,.int .i64 x.H5,.int .i64 x.H6,.int .i64 x.H7,.string x.Buf,.int .i64 x.N]) (fun _=>rfl) (fun x u hu=>by
  simp only [List.mem_cons,List.not_mem_nil,or_false] at hu
  rcases hu with rfl | rfl | rfl | rfl | rfl | rfl | rfl | rfl | rfl | rfl <;> rfl)

structure S_Io where
  At:Int
  Data:ByteArray
def z_Io:S_Io:=⟨0,ByteArray.empty⟩

def L_Io:Lay S_Io:=Lay.flat 2 (fun x=>[.int .i64 x.At,.string x.Data]) (fun _=>rfl) (fun x u hu=>by
  simp only [List.mem_cons,List.not_mem_nil,or_false] at hu
  rcases hu with rfl | rfl <;> rfl)

structure S_Device where
  Sure:List ByteArray
  Unsure:List S_Io
def z_Device:S_Device:=⟨[],[]⟩

def L_impl_Device:Lay S_Device:=Lay.map (Lay.pair (Lay.sl Lay.str 9) (Lay.sl L_Io 84)) (fun x=>(x.Sure,x.Unsure))

structure S_Register where
  Epoch:Int
  Side:Int
  Count:Int
  Boot:Int
  Base:ByteArray
  Tip:ByteArray
  Root:ByteArray
def z_Register:S_Register:=⟨0,0,0,0,ByteArray.empty,ByteArray.empty,ByteArray.empty⟩

def L_Register:Lay S_Register:=Lay.flat 7 (fun x=>[.int .i64 x.Epoch,.int .i64 x.Side,.int .i64 x.Count,.int .i64 x.Boot,.string x.Base,.string x.Tip,.string x.Root]) (fun _=>rfl) (fun x u hu=>by
  simp only [List.mem_cons,List.not_mem_nil,or_false] at hu
  rcases hu with rfl | rfl | rfl | rfl | rfl | rfl | rfl <;> rfl)

structure S_Store where
  Key:ByteArray
  Reg:S_Register
  Device:S_Device
  Up:Bool
  Dead:Bool
def z_Store:S_Store:=⟨ByteArray.empty,z_Register,z_Device,false,false⟩

def L_impl_Store:Lay S_Store:=Lay.map (Lay.pair Lay.str (Lay.pair L_Register (Lay.pair L_impl_Device (Lay.pair Lay.bool Lay.bool)))) (fun x=>(x.Key,(x.Reg,(x.Device,(x.Up,x.Dead)))))
theorem ag3:aggB Tryz.prog 3=some false:=by kernel_rfl
theorem ag4:aggB Tryz.prog 4=some false:=by kernel_rfl
theorem ag5:aggB Tryz.prog 5=some false:=by kernel_rfl
theorem ag9:aggB Tryz.prog 9=some false:=by kernel_rfl
theorem ag22:aggB Tryz.prog 22=some false:=by kernel_rfl
theorem ag24:aggB Tryz.prog 24=some true:=by kernel_rfl
theorem ag25:aggB Tryz.prog 25=some false:=by kernel_rfl
theorem ag26:aggB Tryz.prog 26=some false:=by kernel_rfl
theorem ag28:aggB Tryz.prog 28=some true:=by kernel_rfl
theorem ag30:aggB Tryz.prog 30=some true:=by kernel_rfl
theorem ag42:aggB Tryz.prog 42=some false:=by kernel_rfl
theorem ag43:aggB Tryz.prog 43=some false:=by kernel_rfl
theorem ag45:aggB Tryz.prog 45=some true:=by kernel_rfl
theorem ag47:aggB Tryz.prog 47=some true:=by kernel_rfl
theorem ag64:aggB Tryz.prog 64=some false:=by kernel_rfl
theorem ag77:aggB Tryz.prog 77=some true:=by kernel_rfl
theorem ag79:aggB Tryz.prog 79=some true:=by kernel_rfl
theorem ag84:aggB Tryz.prog 84=some true:=by kernel_rfl
theorem ag91:aggB Tryz.prog 91=some true:=by kernel_rfl
theorem ag100:aggB Tryz.prog 100=some true:=by kernel_rfl
theorem ag106:aggB Tryz.prog 106=some false:=by kernel_rfl
theorem ag110:aggB Tryz.prog 110=some false:=by kernel_rfl
theorem ag111:aggB Tryz.prog 111=some true:=by kernel_rfl
theorem ag117:aggB Tryz.prog 117=some true:=by kernel_rfl
theorem ag131:aggB Tryz.prog 131=some true:=by kernel_rfl
theorem ag144:aggB Tryz.prog 144=some false:=by kernel_rfl
theorem ag146:aggB Tryz.prog 146=some true:=by kernel_rfl
theorem ag154:aggB Tryz.prog 154=some true:=by kernel_rfl
theorem ag156:aggB Tryz.prog 156=some true:=by kernel_rfl
theorem ag162:aggB Tryz.prog 162=some true:=by kernel_rfl
theorem ag165:aggB Tryz.prog 165=some true:=by kernel_rfl
theorem bd24_21 (x0:ByteArray) (x1:ByteArray) (x2:ByteArray):Tryz.prog.built 24 [(4,.string x0),(5,.string x1),(6,.string x2)]=some #[.int .i64 0,.int .i64 0,.int .i64 0,.int .i64 0,.string x0,.string x1,.string x2]:=by kernel_rfl
theorem bd28_18 (A0:Option Addr) (n0 c0:Nat) (A1:Option Addr) (n1 c1:Nat):Tryz.prog.built 28 [(0,.slice A0 n0 c0),(1,.slice A1 n1 c1)]=some #[.slice A0 n0 c0,.slice A1 n1 c1]:=by kernel_rfl
theorem bd28_24 (A0:Option Addr) (n0 c0:Nat):Tryz.prog.built 28 [(0,.slice A0 n0 c0)]=some #[.slice A0 n0 c0,.slice none 0 0]:=by kernel_rfl
theorem bd30_22 (x0:ByteArray) (x2:Int) (x3:Int) (x4:Int) (x5:Int) (x6:ByteArray) (x7:ByteArray) (x8:ByteArray) (A10:Option Addr) (n10 c10:Nat) (A11:Option Addr) (n11 c11:Nat) (x12:Bool):Tryz.prog.built 30 [(0,.string x0),(1,.agg #[.int .i64 x2,.int .i64 x3,.int .i64 x4,.int .i64 x5,.string x6,.string x7,.string x8]),(2,.agg #[.slice A10 n10 c10,.slice A11 n11 c11]),(3,.bool x12)]=some #[.string x0,.int .i64 x2,.int .i64 x3,.int .i64 x4,.int .i64 x5,.string x6,.string x7,.string x8,.slice A10 n10 c10,.slice A11 n11 c11,.bool x12,.bool false]:=by kernel_rfl
theorem bd30_23  : Tryz.prog.built 30 []=some #[.string ⟨#[]⟩,.int .i64 0,.int .i64 0,.int .i64 0,.int .i64 0,.string ⟨#[]⟩,.string ⟨#[]⟩,.string ⟨#[]⟩,.slice none 0 0,.slice none 0 0,.bool false,.bool false]:=by kernel_rfl
theorem bd30_31 (x0:ByteArray) (A2:Option Addr) (n2 c2:Nat) (A3:Option Addr) (n3 c3:Nat) (x4:Bool):Tryz.prog.built 30 [(0,.string x0),(2,.agg #[.slice A2 n2 c2,.slice A3 n3 c3]),(3,.bool x4)]=some #[.string x0,.int .i64 0,.int .i64 0,.int .i64 0,.int .i64 0,.string ⟨#[]⟩,.string ⟨#[]⟩,.string ⟨#[]⟩,.slice A2 n2 c2,.slice A3 n3 c3,.bool x4,.bool false]:=by kernel_rfl
theorem bd45_0 (A0:Option Addr) (n0 c0:Nat) (A1:Option Addr) (n1 c1:Nat) (A2:Option Addr) (n2 c2:Nat):Tryz.prog.built 45 [(0,.slice A0 n0 c0),(1,.slice A1 n1 c1),(2,.slice A2 n2 c2)]=some #[.slice A0 n0 c0,.slice A1 n1 c1,.slice A2 n2 c2]:=by kernel_rfl
theorem bd45_1  : Tryz.prog.built 45 []=some #[.slice none 0 0,.slice none 0 0,.slice none 0 0]:=by kernel_rfl
theorem bd47_2  : Tryz.prog.built 47 []=some #[.slice none 0 0,.slice none 0 0,.slice none 0 0,.slice none 0 0]:=by kernel_rfl
theorem bd47_3 (A0:Option Addr) (n0 c0:Nat) (A2:Option Addr) (n2 c2:Nat) (A3:Option Addr) (n3 c3:Nat) (A4:Option Addr) (n4 c4:Nat):Tryz.prog.built 47 [(0,.slice A0 n0 c0),(1,.agg #[.slice A2 n2 c2,.slice A3 n3 c3,.slice A4 n4 c4])]=some #[.slice A0 n0 c0,.slice A2 n2 c2,.slice A3 n3 c3,.slice A4 n4 c4]:=by kernel_rfl
theorem bd77_15 (x0:Int) (x1:Int) (x2:Int) (x3:Int) (x4:Int) (x5:Int) (x6:Int) (x7:Int):Tryz.prog.built 77 [(0,.int .i64 x0),(1,.int .i64 x1),(2,.int .i64 x2),(3,.int .i64 x3),(4,.int .i64 x4),(5,.int .i64 x5),(6,.int .i64 x6),(7,.int .i64 x7)]=some #[.int .i64 x0,.int .i64 x1,.int .i64 x2,.int .i64 x3,.int .i64 x4,.int .i64 x5,.int .i64 x6,.int .i64 x7]:=by kernel_rfl
theorem bd79_16 (x1:Int) (x2:Int) (x3:Int) (x4:Int) (x5:Int) (x6:Int) (x7:Int) (x8:Int):Tryz.prog.built 79 [(0,.agg #[.int .i64 x1,.int .i64 x2,.int .i64 x3,.int .i64 x4,.int .i64 x5,.int .i64 x6,.int .i64 x7,.int .i64 x8])]=some #[.int .i64 x1,.int .i64 x2,.int .i64 x3,.int .i64 x4,.int .i64 x5,.int .i64 x6,.int .i64 x7,.int .i64 x8,.string ⟨#[]⟩,.int .i64 0]:=by kernel_rfl
theorem bd84_19 (x0:Int) (x1:ByteArray):Tryz.prog.built 84 [(0,.int .i64 x0),(1,.string x1)]=some #[.int .i64 x0,.string x1]:=by kernel_rfl
theorem bd111_28 (x0:Int) (x1:Int) (x2:Int) (x3:Int) (x4:Int) (x5:Int) (x6:Int) (x7:Int) (x8:Int) (x9:Int) (x10:Int) (x11:Int) (x12:Int) (x13:Int) (x14:Int) (x15:Int) (x16:Int) (x17:Int) (x18:Int) (x19:Int) (x20:Int) (x21:Int) (x22:Int) (x23:Int) (x24:Int) (x25:Int) (x26:Int) (x27:Int) (x28:Int) (x29:Int) (x30:Int) (x31:Int) (x32:Int) (x33:Int) (x34:Int) (x35:Int) (x36:Int) (x37:Int) (x38:Int) (x39:Int) (x40:Int) (x41:Int) (x42:Int) (x43:Int) (x44:Int) (x45:Int) (x46:Int) (x47:Int) (x48:Int) (x49:Int) (x50:Int) (x51:Int) (x52:Int) (x53:Int) (x54:Int) (x55:Int) (x56:Int) (x57:Int) (x58:Int) (x59:Int) (x60:Int) (x61:Int) (x62:Int) (x63:Int):Tryz.prog.built 111 [(0,.int .u32 x0),(1,.int .u32 x1),(2,.int .u32 x2),(3,.int .u32 x3),(4,.int .u32 x4),(5,.int .u32 x5),(6,.int .u32 x6),(7,.int .u32 x7),(8,.int .u32 x8),(9,.int .u32 x9),(10,.int .u32 x10),(11,.int .u32 x11),(12,.int .u32 x12),(13,.int .u32 x13),(14,.int .u32 x14),(15,.int .u32 x15),(16,.int .u32 x16),(17,.int .u32 x17),(18,.int .u32 x18),(19,.int .u32 x19),(20,.int .u32 x20),(21,.int .u32 x21),(22,.int .u32 x22),(23,.int .u32 x23),(24,.int .u32 x24),(25,.int .u32 x25),(26,.int .u32 x26),(27,.int .u32 x27),(28,.int .u32 x28),(29,.int .u32 x29),(30,.int .u32 x30),(31,.int .u32 x31),(32,.int .u32 x32),(33,.int .u32 x33),(34,.int .u32 x34),(35,.int .u32 x35),(36,.int .u32 x36),(37,.int .u32 x37),(38,.int .u32 x38),(39,.int .u32 x39),(40,.int .u32 x40),(41,.int .u32 x41),(42,.int .u32 x42),(43,.int .u32 x43),(44,.int .u32 x44),(45,.int .u32 x45),(46,.int .u32 x46),(47,.int .u32 x47),(48,.int .u32 x48),(49,.int .u32 x49),(50,.int .u32 x50),(51,.int .u32 x51),(52,.int .u32 x52),(53,.int .u32 x53),(54,.int .u32 x54),(55,.int .u32 x55),(56,.int .u32 x56),(57,.int .u32 x57),(58,.int .u32 x58),(59,.int .u32 x59),(60,.int .u32 x60),(61,.int .u32 x61),(62,.int .u32 x62),(63,.int .u32 x63)]=some #[.int .u32 x0,.int .u32 x1,.int .u32 x2,.int .u32 x3,.int .u32 x4,.int .u32 x5,.int .u32 x6,.int .u32 x7,.int .u32 x8,.int .u32 x9,.int .u32 x10,.int .u32 x11,.int .u32 x12,.int .u32 x13,.int .u32 x14,.int .u32 x15,.int .u32 x16,.int .u32 x17,.int .u32 x18,.int .u32 x19,.int .u32 x20,.int .u32 x21,.int .u32 x22,.int .u32 x23,.int .u32 x24,.int .u32 x25,.int .u32 x26,.int .u32 x27,.int .u32 x28,.int .u32 x29,.int .u32 x30,.int .u32 x31,.int .u32 x32,.int .u32 x33,.int .u32 x34,.int .u32 x35,.int .u32 x36,.int .u32 x37,.int .u32 x38,.int .u32 x39,.int .u32 x40,.int .u32 x41,.int .u32 x42,.int .u32 x43,.int .u32 x44,.int .u32 x45,.int .u32 x46,.int .u32 x47,.int .u32 x48,.int .u32 x49,.int .u32 x50,.int .u32 x51,.int .u32 x52,.int .u32 x53,.int .u32 x54,.int .u32 x55,.int .u32 x56,.int .u32 x57,.int .u32 x58,.int .u32 x59,.int .u32 x60,.int .u32 x61,.int .u32 x62,.int .u32 x63]:=by kernel_rfl
theorem bd117_13 (x0:Int) (x1:Int) (x2:Int) (x3:Int) (x4:Int) (x5:Int) (x6:Int) (x7:Int) (x8:Int) (x9:Int) (x10:Int) (x11:Int) (x12:Int) (x13:Int) (x14:Int) (x15:Int) (x16:Int) (x17:Int) (x18:Int) (x19:Int) (x20:Int) (x21:Int) (x22:Int) (x23:Int) (x24:Int) (x25:Int) (x26:Int) (x27:Int) (x28:Int) (x29:Int) (x30:Int) (x31:Int) (x32:Int) (x33:Int) (x34:Int) (x35:Int) (x36:Int) (x37:Int) (x38:Int) (x39:Int) (x40:Int) (x41:Int) (x42:Int) (x43:Int) (x44:Int) (x45:Int) (x46:Int) (x47:Int) (x48:Int) (x49:Int) (x50:Int) (x51:Int) (x52:Int) (x53:Int) (x54:Int) (x55:Int) (x56:Int) (x57:Int) (x58:Int) (x59:Int) (x60:Int) (x61:Int) (x62:Int) (x63:Int):Tryz.prog.built 117 [(0,.int .i64 x0),(1,.int .i64 x1),(2,.int .i64 x2),(3,.int .i64 x3),(4,.int .i64 x4),(5,.int .i64 x5),(6,.int .i64 x6),(7,.int .i64 x7),(8,.int .i64 x8),(9,.int .i64 x9),(10,.int .i64 x10),(11,.int .i64 x11),(12,.int .i64 x12),(13,.int .i64 x13),(14,.int .i64 x14),(15,.int .i64 x15),(16,.int .i64 x16),(17,.int .i64 x17),(18,.int .i64 x18),(19,.int .i64 x19),(20,.int .i64 x20),(21,.int .i64 x21),(22,.int .i64 x22),(23,.int .i64 x23),(24,.int .i64 x24),(25,.int .i64 x25),(26,.int .i64 x26),(27,.int .i64 x27),(28,.int .i64 x28),(29,.int .i64 x29),(30,.int .i64 x30),(31,.int .i64 x31),(32,.int .i64 x32),(33,.int .i64 x33),(34,.int .i64 x34),(35,.int .i64 x35),(36,.int .i64 x36),(37,.int .i64 x37),(38,.int .i64 x38),(39,.int .i64 x39),(40,.int .i64 x40),(41,.int .i64 x41),(42,.int .i64 x42),(43,.int .i64 x43),(44,.int .i64 x44),(45,.int .i64 x45),(46,.int .i64 x46),(47,.int .i64 x47),(48,.int .i64 x48),(49,.int .i64 x49),(50,.int .i64 x50),(51,.int .i64 x51),(52,.int .i64 x52),(53,.int .i64 x53),(54,.int .i64 x54),(55,.int .i64 x55),(56,.int .i64 x56),(57,.int .i64 x57),(58,.int .i64 x58),(59,.int .i64 x59),(60,.int .i64 x60),(61,.int .i64 x61),(62,.int .i64 x62),(63,.int .i64 x63)]=some #[.int .i64 x0,.int .i64 x1,.int .i64 x2,.int .i64 x3,.int .i64 x4,.int .i64 x5,.int .i64 x6,.int .i64 x7,.int .i64 x8,.int .i64 x9,.int .i64 x10,.int .i64 x11,.int .i64 x12,.int .i64 x13,.int .i64 x14,.int .i64 x15,.int .i64 x16,.int .i64 x17,.int .i64 x18,.int .i64 x19,.int .i64 x20,.int .i64 x21,.int .i64 x22,.int .i64 x23,.int .i64 x24,.int .i64 x25,.int .i64 x26,.int .i64 x27,.int .i64 x28,.int .i64 x29,.int .i64 x30,.int .i64 x31,.int .i64 x32,.int .i64 x33,.int .i64 x34,.int .i64 x35,.int .i64 x36,.int .i64 x37,.int .i64 x38,.int .i64 x39,.int .i64 x40,.int .i64 x41,.int .i64 x42,.int .i64 x43,.int .i64 x44,.int .i64 x45,.int .i64 x46,.int .i64 x47,.int .i64 x48,.int .i64 x49,.int .i64 x50,.int .i64 x51,.int .i64 x52,.int .i64 x53,.int .i64 x54,.int .i64 x55,.int .i64 x56,.int .i64 x57,.int .i64 x58,.int .i64 x59,.int .i64 x60,.int .i64 x61,.int .i64 x62,.int .i64 x63]:=by kernel_rfl
theorem bd117_14  : Tryz.prog.built 117 []=some #[.int .i64 0,.int .i64 0,.int .i64 0,.int .i64 0,.int .i64 0,.int .i64 0,.int .i64 0,.int .i64 0,.int .i64 0,.int .i64 0,.int .i64 0,.int .i64 0,.int .i64 0,.int .i64 0,.int .i64 0,.int .i64 0,.int .i64 0,.int .i64 0,.int .i64 0,.int .i64 0,.int .i64 0,.int .i64 0,.int .i64 0,.int .i64 0,.int .i64 0,.int .i64 0,.int .i64 0,.int .i64 0,.int .i64 0,.int .i64 0,.int .i64 0,.int .i64 0,.int .i64 0,.int .i64 0,.int .i64 0,.int .i64 0,.int .i64 0,.int .i64 0,.int .i64 0,.int .i64 0,.int .i64 0,.int .i64 0,.int .i64 0,.int .i64 0,.int .i64 0,.int .i64 0,.int .i64 0,.int .i64 0,.int .i64 0,.int .i64 0,.int .i64 0,.int .i64 0,.int .i64 0,.int .i64 0,.int .i64 0,.int .i64 0,.int .i64 0,.int .i64 0,.int .i64 0,.int .i64 0,.int .i64 0,.int .i64 0,.int .i64 0,.int .i64 0]:=by kernel_rfl
theorem bd131_29 (x0:Int) (x1:Int) (x2:Int) (x3:Int) (x4:Int) (x5:Int) (x6:Int) (x7:Int):Tryz.prog.built 131 [(0,.int .u32 x0),(1,.int .u32 x1),(2,.int .u32 x2),(3,.int .u32 x3),(4,.int .u32 x4),(5,.int .u32 x5),(6,.int .u32 x6),(7,.int .u32 x7)]=some #[.int .u32 x0,.int .u32 x1,.int .u32 x2,.int .u32 x3,.int .u32 x4,.int .u32 x5,.int .u32 x6,.int .u32 x7]:=by kernel_rfl
theorem bd146_27 (x0:Int) (x1:Int) (x2:Int) (x3:Int) (x4:Int):Tryz.prog.built 146 [(0,.int .u64 x0),(1,.int .u64 x1),(2,.int .u64 x2),(3,.int .u64 x3),(4,.int .u64 x4)]=some #[.int .u64 x0,.int .u64 x1,.int .u64 x2,.int .u64 x3,.int .u64 x4]:=by kernel_rfl
theorem bd154_7  : Tryz.prog.built 154 []=some #[.int .i64 0,.int .i64 0,.int .i64 0,.int .i64 0,.int .i64 0,.int .i64 0,.int .i64 0,.int .i64 0,.int .i64 0,.int .i64 0,.int .i64 0,.int .i64 0,.int .i64 0,.int .i64 0,.int .i64 0,.int .i64 0]:=by kernel_rfl
theorem bd156_8  : Tryz.prog.built 156 []=some #[.int .i64 0,.int .i64 0,.int .i64 0,.int .i64 0,.int .i64 0]:=by kernel_rfl
theorem bd162_25 (x0:Int) (x1:Int):Tryz.prog.built 162 [(0,.int .i64 x0),(1,.int .i64 x1)]=some #[.int .i64 x0,.int .i64 x1]:=by kernel_rfl
theorem bd163_26 (x1:Int) (x2:Int) (x4:Int) (x5:Int):Tryz.prog.built 163 [(0,.agg #[.int .i64 x1,.int .i64 x2]),(1,.agg #[.int .i64 x4,.int .i64 x5])]=some #[.int .i64 x1,.int .i64 x2,.int .i64 x4,.int .i64 x5]:=by kernel_rfl
theorem bd165_6 (x0:Int) (x1:Int) (x2:Int) (x3:Int):Tryz.prog.built 165 [(0,.int .i64 x0),(1,.int .i64 x1),(2,.int .i64 x2),(3,.int .i64 x3)]=some #[.int .i64 x0,.int .i64 x1,.int .i64 x2,.int .i64 x3]:=by kernel_rfl
theorem bs3_9 (x0:Int):sliceB Tryz.prog 3 1 [(0,.int .i64 x0)]=some #[.int .i64 x0]:=by kernel_rfl
theorem bs3_10 (x0:Int) (x1:Int) (x2:Int):sliceB Tryz.prog 3 3 [(0,.int .i64 x0),(1,.int .i64 x1),(2,.int .i64 x2)]=some #[.int .i64 x0,.int .i64 x1,.int .i64 x2]:=by kernel_rfl
theorem bs3_11 (x0:Int) (x1:Int):sliceB Tryz.prog 3 2 [(0,.int .i64 x0),(1,.int .i64 x1)]=some #[.int .i64 x0,.int .i64 x1]:=by kernel_rfl
theorem bs5_4 (x0:Int):sliceB Tryz.prog 5 1 [(0,.int .u8 x0)]=some #[.int .u8 x0]:=by kernel_rfl
theorem bs5_5 (x0:Int) (x1:Int) (x2:Int) (x3:Int):sliceB Tryz.prog 5 4 [(0,.int .u8 x0),(1,.int .u8 x1),(2,.int .u8 x2),(3,.int .u8 x3)]=some #[.int .u8 x0,.int .u8 x1,.int .u8 x2,.int .u8 x3]:=by kernel_rfl
theorem bs5_17 (x0:Int) (x1:Int):sliceB Tryz.prog 5 2 [(0,.int .u8 x0),(1,.int .u8 x1)]=some #[.int .u8 x0,.int .u8 x1]:=by kernel_rfl
theorem bs9_12 (x0:ByteArray):sliceB Tryz.prog 9 1 [(0,.string x0)]=some #[.string x0]:=by kernel_rfl
theorem bs25_30 (A0:Option Addr) (n0 c0:Nat):sliceB Tryz.prog 25 1 [(0,.slice A0 n0 c0)]=some #[.slice A0 n0 c0]:=by kernel_rfl
theorem bs84_20 (x1:Int) (x2:ByteArray):sliceB Tryz.prog 84 1 [(0,.agg #[.int .i64 x1,.string x2])]=some #[.int .i64 x1,.string x2]:=by kernel_rfl
theorem en4:Enters Tryz.prog 4:=run_callFunc_enter Tryz.func4 (by kernel_rfl) rfl
theorem en5:Enters Tryz.prog 5:=run_callFunc_enter Tryz.func5 (by kernel_rfl) rfl
theorem en6:Enters Tryz.prog 6:=run_callFunc_enter Tryz.func6 (by kernel_rfl) rfl
theorem en7:Enters Tryz.prog 7:=run_callFunc_enter Tryz.func7 (by kernel_rfl) rfl
theorem en8:Enters Tryz.prog 8:=run_callFunc_enter Tryz.func8 (by kernel_rfl) rfl
theorem en9:Enters Tryz.prog 9:=run_callFunc_enter Tryz.func9 (by kernel_rfl) rfl
theorem en10:Enters Tryz.prog 10:=run_callFunc_enter Tryz.func10 (by kernel_rfl) rfl
theorem en11:Enters Tryz.prog 11:=run_callFunc_enter Tryz.func11 (by kernel_rfl) rfl
theorem en12:Enters Tryz.prog 12:=run_callFunc_enter Tryz.func12 (by kernel_rfl) rfl
theorem en13:Enters Tryz.prog 13:=run_callFunc_enter Tryz.func13 (by kernel_rfl) rfl
theorem en14:Enters Tryz.prog 14:=run_callFunc_enter Tryz.func14 (by kernel_rfl) rfl
theorem en15:Enters Tryz.prog 15:=run_callFunc_enter Tryz.func15 (by kernel_rfl) rfl
theorem en16:Enters Tryz.prog 16:=run_callFunc_enter Tryz.func16 (by kernel_rfl) rfl
theorem en17:Enters Tryz.prog 17:=run_callFunc_enter Tryz.func17 (by kernel_rfl) rfl
theorem en18:Enters Tryz.prog 18:=run_callFunc_enter Tryz.func18 (by kernel_rfl) rfl
theorem en19:Enters Tryz.prog 19:=run_callFunc_enter Tryz.func19 (by kernel_rfl) rfl
theorem en20:Enters Tryz.prog 20:=run_callFunc_enter Tryz.func20 (by kernel_rfl) rfl
theorem en21:Enters Tryz.prog 21:=run_callFunc_enter Tryz.func21 (by kernel_rfl) rfl
theorem en22:Enters Tryz.prog 22:=run_callFunc_enter Tryz.func22 (by kernel_rfl) rfl
theorem en23:Enters Tryz.prog 23:=run_callFunc_enter Tryz.func23 (by kernel_rfl) rfl
theorem en24:Enters Tryz.prog 24:=run_callFunc_enter Tryz.func24 (by kernel_rfl) rfl
theorem en25:Enters Tryz.prog 25:=run_callFunc_enter Tryz.func25 (by kernel_rfl) rfl
theorem en26:Enters Tryz.prog 26:=run_callFunc_enter Tryz.func26 (by kernel_rfl) rfl
theorem en27:Enters Tryz.prog 27:=run_callFunc_enter Tryz.func27 (by kernel_rfl) rfl
theorem en28:Enters Tryz.prog 28:=run_callFunc_enter Tryz.func28 (by kernel_rfl) rfl
theorem en29:Enters Tryz.prog 29:=run_callFunc_enter Tryz.func29 (by kernel_rfl) rfl
theorem en30:Enters Tryz.prog 30:=run_callFunc_enter Tryz.func30 (by kernel_rfl) rfl
theorem en31:Enters Tryz.prog 31:=run_callFunc_enter Tryz.func31 (by kernel_rfl) rfl
theorem en32:Enters Tryz.prog 32:=run_callFunc_enter Tryz.func32 (by kernel_rfl) rfl
theorem en33:Enters Tryz.prog 33:=run_callFunc_enter Tryz.func33 (by kernel_rfl) rfl
theorem en34:Enters Tryz.prog 34:=run_callFunc_enter Tryz.func34 (by kernel_rfl) rfl
theorem en35:Enters Tryz.prog 35:=run_callFunc_enter Tryz.func35 (by kernel_rfl) rfl
theorem en36:Enters Tryz.prog 36:=run_callFunc_enter Tryz.func36 (by kernel_rfl) rfl
theorem en37:Enters Tryz.prog 37:=run_callFunc_enter Tryz.func37 (by kernel_rfl) rfl
theorem en38:Enters Tryz.prog 38:=run_callFunc_enter Tryz.func38 (by kernel_rfl) rfl
theorem en39:Enters Tryz.prog 39:=run_callFunc_enter Tryz.func39 (by kernel_rfl) rfl
theorem en40:Enters Tryz.prog 40:=run_callFunc_enter Tryz.func40 (by kernel_rfl) rfl
theorem en41:Enters Tryz.prog 41:=run_callFunc_enter Tryz.func41 (by kernel_rfl) rfl
theorem en42:Enters Tryz.prog 42:=run_callFunc_enter Tryz.func42 (by kernel_rfl) rfl
theorem en43:Enters Tryz.prog 43:=run_callFunc_enter Tryz.func43 (by kernel_rfl) rfl
theorem en44:Enters Tryz.prog 44:=run_callFunc_enter Tryz.func44 (by kernel_rfl) rfl
theorem en45:Enters Tryz.prog 45:=run_callFunc_enter Tryz.func45 (by kernel_rfl) rfl
theorem en46:Enters Tryz.prog 46:=run_callFunc_enter Tryz.func46 (by kernel_rfl) rfl
theorem en47:Enters Tryz.prog 47:=run_callFunc_enter Tryz.func47 (by kernel_rfl) rfl
theorem en48:Enters Tryz.prog 48:=run_callFunc_enter Tryz.func48 (by kernel_rfl) rfl
theorem en49:Enters Tryz.prog 49:=run_callFunc_enter Tryz.func49 (by kernel_rfl) rfl
theorem en50:Enters Tryz.prog 50:=run_callFunc_enter Tryz.func50 (by kernel_rfl) rfl
theorem en51:Enters Tryz.prog 51:=run_callFunc_enter Tryz.func51 (by kernel_rfl) rfl
theorem en52:Enters Tryz.prog 52:=run_callFunc_enter Tryz.func52 (by kernel_rfl) rfl
theorem en53:Enters Tryz.prog 53:=run_callFunc_enter Tryz.func53 (by kernel_rfl) rfl
theorem en54:Enters Tryz.prog 54:=run_callFunc_enter Tryz.func54 (by kernel_rfl) rfl
theorem en55:Enters Tryz.prog 55:=run_callFunc_enter Tryz.func55 (by kernel_rfl) rfl
theorem en56:Enters Tryz.prog 56:=run_callFunc_enter Tryz.func56 (by kernel_rfl) rfl
theorem en57:Enters Tryz.prog 57:=run_callFunc_enter Tryz.func57 (by kernel_rfl) rfl
theorem en58:Enters Tryz.prog 58:=run_callFunc_enter Tryz.func58 (by kernel_rfl) rfl
theorem en59:Enters Tryz.prog 59:=run_callFunc_enter Tryz.func59 (by kernel_rfl) rfl
theorem en60:Enters Tryz.prog 60:=run_callFunc_enter Tryz.func60 (by kernel_rfl) rfl
theorem en61:Enters Tryz.prog 61:=run_callFunc_enter Tryz.func61 (by kernel_rfl) rfl
theorem en62:Enters Tryz.prog 62:=run_callFunc_enter Tryz.func62 (by kernel_rfl) rfl
theorem en63:Enters Tryz.prog 63:=run_callFunc_enter Tryz.func63 (by kernel_rfl) rfl
theorem en64:Enters Tryz.prog 64:=run_callFunc_enter Tryz.func64 (by kernel_rfl) rfl
theorem en65:Enters Tryz.prog 65:=run_callFunc_enter Tryz.func65 (by kernel_rfl) rfl
theorem en66:Enters Tryz.prog 66:=run_callFunc_enter Tryz.func66 (by kernel_rfl) rfl
theorem en67:Enters Tryz.prog 67:=run_callFunc_enter Tryz.func67 (by kernel_rfl) rfl
theorem en68:Enters Tryz.prog 68:=run_callFunc_enter Tryz.func68 (by kernel_rfl) rfl
theorem en69:Enters Tryz.prog 69:=run_callFunc_enter Tryz.func69 (by kernel_rfl) rfl
theorem en70:Enters Tryz.prog 70:=run_callFunc_enter Tryz.func70 (by kernel_rfl) rfl
theorem en71:Enters Tryz.prog 71:=run_callFunc_enter Tryz.func71 (by kernel_rfl) rfl
theorem en72:Enters Tryz.prog 72:=run_callFunc_enter Tryz.func72 (by kernel_rfl) rfl
theorem en73:Enters Tryz.prog 73:=run_callFunc_enter Tryz.func73 (by kernel_rfl) rfl
theorem en74:Enters Tryz.prog 74:=run_callFunc_enter Tryz.func74 (by kernel_rfl) rfl
theorem en75:Enters Tryz.prog 75:=run_callFunc_enter Tryz.func75 (by kernel_rfl) rfl
theorem en76:Enters Tryz.prog 76:=run_callFunc_enter Tryz.func76 (by kernel_rfl) rfl
theorem en77:Enters Tryz.prog 77:=run_callFunc_enter Tryz.func77 (by kernel_rfl) rfl
theorem en78:Enters Tryz.prog 78:=run_callFunc_enter Tryz.func78 (by kernel_rfl) rfl
theorem en79:Enters Tryz.prog 79:=run_callFunc_enter Tryz.func79 (by kernel_rfl) rfl
theorem en80:Enters Tryz.prog 80:=run_callFunc_enter Tryz.func80 (by kernel_rfl) rfl
theorem en81:Enters Tryz.prog 81:=run_callFunc_enter Tryz.func81 (by kernel_rfl) rfl
theorem en82:Enters Tryz.prog 82:=run_callFunc_enter Tryz.func82 (by kernel_rfl) rfl
theorem en83:Enters Tryz.prog 83:=run_callFunc_enter Tryz.func83 (by kernel_rfl) rfl
theorem en84:Enters Tryz.prog 84:=run_callFunc_enter Tryz.func84 (by kernel_rfl) rfl
theorem en85:Enters Tryz.prog 85:=run_callFunc_enter Tryz.func85 (by kernel_rfl) rfl
theorem en86:Enters Tryz.prog 86:=run_callFunc_enter Tryz.func86 (by kernel_rfl) rfl
theorem en87:Enters Tryz.prog 87:=run_callFunc_enter Tryz.func87 (by kernel_rfl) rfl
theorem en88:Enters Tryz.prog 88:=run_callFunc_enter Tryz.func88 (by kernel_rfl) rfl
theorem en89:Enters Tryz.prog 89:=run_callFunc_enter Tryz.func89 (by kernel_rfl) rfl
theorem en90:Enters Tryz.prog 90:=run_callFunc_enter Tryz.func90 (by kernel_rfl) rfl
theorem en91:Enters Tryz.prog 91:=run_callFunc_enter Tryz.func91 (by kernel_rfl) rfl
theorem en92:Enters Tryz.prog 92:=run_callFunc_enter Tryz.func92 (by kernel_rfl) rfl
theorem en93:Enters Tryz.prog 93:=run_callFunc_enter Tryz.func93 (by kernel_rfl) rfl
theorem en94:Enters Tryz.prog 94:=run_callFunc_enter Tryz.func94 (by kernel_rfl) rfl
theorem en95:Enters Tryz.prog 95:=run_callFunc_enter Tryz.func95 (by kernel_rfl) rfl
theorem en96:Enters Tryz.prog 96:=run_callFunc_enter Tryz.func96 (by kernel_rfl) rfl
theorem en97:Enters Tryz.prog 97:=run_callFunc_enter Tryz.func97 (by kernel_rfl) rfl
theorem en98:Enters Tryz.prog 98:=run_callFunc_enter Tryz.func98 (by kernel_rfl) rfl
theorem en99:Enters Tryz.prog 99:=run_callFunc_enter Tryz.func99 (by kernel_rfl) rfl
theorem en100:Enters Tryz.prog 100:=run_callFunc_enter Tryz.func100 (by kernel_rfl) rfl
theorem en101:Enters Tryz.prog 101:=run_callFunc_enter Tryz.func101 (by kernel_rfl) rfl
theorem en102:Enters Tryz.prog 102:=run_callFunc_enter Tryz.func102 (by kernel_rfl) rfl
theorem en103:Enters Tryz.prog 103:=run_callFunc_enter Tryz.func103 (by kernel_rfl) rfl
theorem en104:Enters Tryz.prog 104:=run_callFunc_enter Tryz.func104 (by kernel_rfl) rfl
theorem en105:Enters Tryz.prog 105:=run_callFunc_enter Tryz.func105 (by kernel_rfl) rfl
theorem en110:Enters Tryz.prog 110:=run_callFunc_enter Tryz.func110 (by kernel_rfl) rfl
theorem en111:Enters Tryz.prog 111:=run_callFunc_enter Tryz.func111 (by kernel_rfl) rfl
theorem en112:Enters Tryz.prog 112:=run_callFunc_enter Tryz.func112 (by kernel_rfl) rfl
theorem en113:Enters Tryz.prog 113:=run_callFunc_enter Tryz.func113 (by kernel_rfl) rfl
theorem en114:Enters Tryz.prog 114:=run_callFunc_enter Tryz.func114 (by kernel_rfl) rfl
theorem en116:Enters Tryz.prog 116:=run_callFunc_enter Tryz.func116 (by kernel_rfl) rfl
theorem en117:Enters Tryz.prog 117:=run_callFunc_enter Tryz.func117 (by kernel_rfl) rfl
theorem en118:Enters Tryz.prog 118:=run_callFunc_enter Tryz.func118 (by kernel_rfl) rfl
theorem en119:Enters Tryz.prog 119:=run_callFunc_enter Tryz.func119 (by kernel_rfl) rfl
theorem en120:Enters Tryz.prog 120:=run_callFunc_enter Tryz.func120 (by kernel_rfl) rfl
theorem en121:Enters Tryz.prog 121:=run_callFunc_enter Tryz.func121 (by kernel_rfl) rfl
theorem en122:Enters Tryz.prog 122:=run_callFunc_enter Tryz.func122 (by kernel_rfl) rfl
theorem en123:Enters Tryz.prog 123:=run_callFunc_enter Tryz.func123 (by kernel_rfl) rfl
theorem en124:Enters Tryz.prog 124:=run_callFunc_enter Tryz.func124 (by kernel_rfl) rfl
theorem en129:Enters Tryz.prog 129:=run_callFunc_enter Tryz.func129 (by kernel_rfl) rfl
theorem en130:Enters Tryz.prog 130:=run_callFunc_enter Tryz.func130 (by kernel_rfl) rfl
theorem en131:Enters Tryz.prog 131:=run_callFunc_enter Tryz.func131 (by kernel_rfl) rfl
theorem en132:Enters Tryz.prog 132:=run_callFunc_enter Tryz.func132 (by kernel_rfl) rfl
theorem en133:Enters Tryz.prog 133:=run_callFunc_enter Tryz.func133 (by kernel_rfl) rfl
theorem en134:Enters Tryz.prog 134:=run_callFunc_enter Tryz.func134 (by kernel_rfl) rfl
theorem en135:Enters Tryz.prog 135:=run_callFunc_enter Tryz.func135 (by kernel_rfl) rfl
theorem en137:Enters Tryz.prog 137:=run_callFunc_enter Tryz.func137 (by kernel_rfl) rfl
theorem en139:Enters Tryz.prog 139:=run_callFunc_enter Tryz.func139 (by kernel_rfl) rfl
theorem en140:Enters Tryz.prog 140:=run_callFunc_enter Tryz.func140 (by kernel_rfl) rfl
theorem fd24_0:fldB Tryz.prog 24 0=some 0:=by kernel_rfl
theorem fd24_1:fldB Tryz.prog 24 1=some 1:=by kernel_rfl
theorem fd24_2:fldB Tryz.prog 24 2=some 2:=by kernel_rfl
theorem fd24_3:fldB Tryz.prog 24 3=some 3:=by kernel_rfl
theorem fd24_4:fldB Tryz.prog 24 4=some 4:=by kernel_rfl
theorem fd24_5:fldB Tryz.prog 24 5=some 5:=by kernel_rfl
theorem fd24_6:fldB Tryz.prog 24 6=some 6:=by kernel_rfl
theorem fd28_0:fldB Tryz.prog 28 0=some 0:=by kernel_rfl
theorem fd28_1:fldB Tryz.prog 28 1=some 1:=by kernel_rfl
theorem fd30_0:fldB Tryz.prog 30 0=some 0:=by kernel_rfl
theorem fd30_1:fldB Tryz.prog 30 1=some 1:=by kernel_rfl
theorem fd30_2:fldB Tryz.prog 30 2=some 8:=by kernel_rfl
theorem fd30_3:fldB Tryz.prog 30 3=some 10:=by kernel_rfl
theorem fd30_4:fldB Tryz.prog 30 4=some 11:=by kernel_rfl
theorem fd45_0:fldB Tryz.prog 45 0=some 0:=by kernel_rfl
theorem fd45_1:fldB Tryz.prog 45 1=some 1:=by kernel_rfl
theorem fd45_2:fldB Tryz.prog 45 2=some 2:=by kernel_rfl
theorem fd47_0:fldB Tryz.prog 47 0=some 0:=by kernel_rfl
theorem fd47_1:fldB Tryz.prog 47 1=some 1:=by kernel_rfl
theorem fd79_0:fldB Tryz.prog 79 0=some 0:=by kernel_rfl
theorem fd79_1:fldB Tryz.prog 79 1=some 8:=by kernel_rfl
theorem fd79_2:fldB Tryz.prog 79 2=some 9:=by kernel_rfl
theorem fd84_0:fldB Tryz.prog 84 0=some 0:=by kernel_rfl
theorem fd84_1:fldB Tryz.prog 84 1=some 1:=by kernel_rfl
theorem fd91_0:fldB Tryz.prog 91 0=some 0:=by kernel_rfl
theorem fd91_1:fldB Tryz.prog 91 1=some 1:=by kernel_rfl
theorem fd100_0:fldB Tryz.prog 100 0=some 0:=by kernel_rfl
theorem fd100_1:fldB Tryz.prog 100 1=some 1:=by kernel_rfl
theorem fd100_2:fldB Tryz.prog 100 2=some 2:=by kernel_rfl
theorem fdt79_0:fdtB Tryz.prog 79 0=some (0,77):=by kernel_rfl
theorem lz3:((Lay.int .i64)).own 0 [.int .i64 0] []:=⟨rfl,rfl⟩
theorem lz5:((Lay.int .u8)).own 0 [.int .u8 0] []:=⟨rfl,rfl⟩
theorem lz9:(Lay.str).own ByteArray.empty [.string ⟨#[]⟩] []:=⟨rfl,rfl⟩
theorem lz42:((Lay.sl L_Block 100)).own [] [.slice none 0 0] []:=⟨_,rfl,.inl ⟨rfl,rfl,rfl⟩⟩
theorem mk3:mkB Tryz.prog 3=some (.int .i64 0,1):=by kernel_rfl
theorem mk5:mkB Tryz.prog 5=some (.int .u8 0,1):=by kernel_rfl
theorem mk9:mkB Tryz.prog 9=some (.string ⟨#[]⟩,1):=by kernel_rfl
theorem mk25:mkB Tryz.prog 25=some (.slice none 0 0,1):=by kernel_rfl
theorem mk42:mkB Tryz.prog 42=some (.slice none 0 0,1):=by kernel_rfl
theorem mk84:mkB Tryz.prog 84=some (.agg #[.int .i64 0,.string ⟨#[]⟩],2):=by kernel_rfl
theorem mo:Tryz.prog.follows .mixedOrders=true:=by kernel_rfl
theorem sz3:szB Tryz.prog 3=some 1:=by kernel_rfl
theorem sz5:szB Tryz.prog 5=some 1:=by kernel_rfl
theorem sz9:szB Tryz.prog 9=some 1:=by kernel_rfl
theorem sz24:szB Tryz.prog 24=some 7:=by kernel_rfl
theorem sz25:szB Tryz.prog 25=some 1:=by kernel_rfl
theorem sz26:szB Tryz.prog 26=some 1:=by kernel_rfl
theorem sz28:szB Tryz.prog 28=some 2:=by kernel_rfl
theorem sz30:szB Tryz.prog 30=some 12:=by kernel_rfl
theorem sz42:szB Tryz.prog 42=some 1:=by kernel_rfl
theorem sz45:szB Tryz.prog 45=some 3:=by kernel_rfl
theorem sz47:szB Tryz.prog 47=some 4:=by kernel_rfl
theorem sz77:szB Tryz.prog 77=some 8:=by kernel_rfl
theorem sz79:szB Tryz.prog 79=some 10:=by kernel_rfl
theorem sz84:szB Tryz.prog 84=some 2:=by kernel_rfl
theorem sz91:szB Tryz.prog 91=some 2:=by kernel_rfl
theorem sz100:szB Tryz.prog 100=some 3:=by kernel_rfl
theorem sz110:szB Tryz.prog 110=some 1:=by kernel_rfl
theorem sz111:szB Tryz.prog 111=some 64:=by kernel_rfl
theorem sz117:szB Tryz.prog 117=some 64:=by kernel_rfl
theorem sz131:szB Tryz.prog 131=some 8:=by kernel_rfl
theorem sz144:szB Tryz.prog 144=some 1:=by kernel_rfl
theorem sz146:szB Tryz.prog 146=some 5:=by kernel_rfl
theorem sz154:szB Tryz.prog 154=some 16:=by kernel_rfl
theorem sz156:szB Tryz.prog 156=some 5:=by kernel_rfl
theorem sz162:szB Tryz.prog 162=some 2:=by kernel_rfl
theorem sz165:szB Tryz.prog 165=some 4:=by kernel_rfl
theorem un3:Tryz.prog.underlying 3=some (.int .i64):=by kernel_rfl
theorem un4:Tryz.prog.underlying 4=some (.bool):=by kernel_rfl
theorem un5:Tryz.prog.underlying 5=some (.int .u8):=by kernel_rfl
theorem un9:Tryz.prog.underlying 9=some (.string):=by kernel_rfl
theorem un22:Tryz.prog.underlying 22=some (.slice 3):=by kernel_rfl
theorem un25:Tryz.prog.underlying 25=some (.slice 9):=by kernel_rfl
theorem un26:Tryz.prog.underlying 26=some (.slice 84):=by kernel_rfl
theorem un42:Tryz.prog.underlying 42=some (.slice 100):=by kernel_rfl
theorem un43:Tryz.prog.underlying 43=some (.slice 42):=by kernel_rfl
theorem un59:Tryz.prog.underlying 59=some (.slice 91):=by kernel_rfl
theorem un70:Tryz.prog.underlying 70=some (.slice 25):=by kernel_rfl
theorem un77:Tryz.prog.underlying 77=some (.array 8 3):=by kernel_rfl
theorem un101:Tryz.prog.underlying 101=some (.slice 5):=by kernel_rfl
theorem un110:Tryz.prog.underlying 110=some (.int .u32):=by kernel_rfl
theorem un111:Tryz.prog.underlying 111=some (.array 64 110):=by kernel_rfl
theorem un116:Tryz.prog.underlying 116=some (.int .u64):=by kernel_rfl
theorem un117:Tryz.prog.underlying 117=some (.array 64 3):=by kernel_rfl
theorem un131:Tryz.prog.underlying 131=some (.array 8 110):=by kernel_rfl
theorem un139:Tryz.prog.underlying 139=some (.array 16 110):=by kernel_rfl
theorem un144:Tryz.prog.underlying 144=some (.int .u64):=by kernel_rfl
theorem un146:Tryz.prog.underlying 146=some (.array 5 144):=by kernel_rfl
theorem un154:Tryz.prog.underlying 154=some (.array 16 3):=by kernel_rfl
theorem un156:Tryz.prog.underlying 156=some (.array 5 3):=by kernel_rfl
theorem un162:Tryz.prog.underlying 162=some (.array 2 3):=by kernel_rfl
theorem un163:Tryz.prog.underlying 163=some (.array 2 162):=by kernel_rfl
theorem un165:Tryz.prog.underlying 165=some (.array 4 3):=by kernel_rfl
theorem ze28:zeroB Tryz.prog 28=some (.agg #[.slice none 0 0,.slice none 0 0]):=by kernel_rfl
theorem ze30:zeroB Tryz.prog 30=some (.agg #[.string ⟨#[]⟩,.int .i64 0,.int .i64 0,.int .i64 0,.int .i64 0,.string ⟨#[]⟩,.string ⟨#[]⟩,.string ⟨#[]⟩,.slice none 0 0,.slice none 0 0,.bool false,.bool false]):=by kernel_rfl
theorem ze45:zeroB Tryz.prog 45=some (.agg #[.slice none 0 0,.slice none 0 0,.slice none 0 0]):=by kernel_rfl
theorem ze47:zeroB Tryz.prog 47=some (.agg #[.slice none 0 0,.slice none 0 0,.slice none 0 0,.slice none 0 0]):=by kernel_rfl
theorem ze77:zeroB Tryz.prog 77=some (.agg #[.int .i64 0,.int .i64 0,.int .i64 0,.int .i64 0,.int .i64 0,.int .i64 0,.int .i64 0,.int .i64 0]):=by kernel_rfl
theorem ze79:zeroB Tryz.prog 79=some (.agg #[.int .i64 0,.int .i64 0,.int .i64 0,.int .i64 0,.int .i64 0,.int .i64 0,.int .i64 0,.int .i64 0,.string ⟨#[]⟩,.int .i64 0]):=by kernel_rfl
theorem ze91:zeroB Tryz.prog 91=some (.agg #[.int .i64 0,.slice none 0 0]):=by kernel_rfl
theorem ze100:zeroB Tryz.prog 100=some (.agg #[.int .i64 0,.int .i64 0,.int .i64 0]):=by kernel_rfl
theorem ze111:zeroB Tryz.prog 111=some (.agg #[.int .u32 0,.int .u32 0,.int .u32 0,.int .u32 0,.int .u32 0,.int .u32 0,.int .u32 0,.int .u32 0,.int .u32 0,.int .u32 0,.int .u32 0,.int .u32 0,.int .u32 0,.int .u32 0,.int .u32 0,.int .u32 0,.int .u32 0,.int .u32 0,.int .u32 0,.int .u32 0,.int .u32 0,.int .u32 0,.int .u32 0,.int .u32 0,.int .u32 0,.int .u32 0,.int .u32 0,.int .u32 0,.int .u32 0,.int .u32 0,.int .u32 0,.int .u32 0,.int .u32 0,.int .u32 0,.int .u32 0,.int .u32 0,.int .u32 0,.int .u32 0,.int .u32 0,.int .u32 0,.int .u32 0,.int .u32 0,.int .u32 0,.int .u32 0,.int .u32 0,.int .u32 0,.int .u32 0,.int .u32 0,.int .u32 0,.int .u32 0,.int .u32 0,.int .u32 0,.int .u32 0,.int .u32 0,.int .u32 0,.int .u32 0,.int .u32 0,.int .u32 0,.int .u32 0,.int .u32 0,.int .u32 0,.int .u32 0,.int .u32 0,.int .u32 0]):=by kernel_rfl
theorem ze117:zeroB Tryz.prog 117=some (.agg #[.int .i64 0,.int .i64 0,.int .i64 0,.int .i64 0,.int .i64 0,.int .i64 0,.int .i64 0,.int .i64 0,.int .i64 0,.int .i64 0,.int .i64 0,.int .i64 0,.int .i64 0,.int .i64 0,.int .i64 0,.int .i64 0,.int .i64 0,.int .i64 0,.int .i64 0,.int .i64 0,.int .i64 0,.int .i64 0,.int .i64 0,.int .i64 0,.int .i64 0,.int .i64 0,.int .i64 0,.int .i64 0,.int .i64 0,.int .i64 0,.int .i64 0,.int .i64 0,.int .i64 0,.int .i64 0,.int .i64 0,.int .i64 0,.int .i64 0,.int .i64 0,.int .i64 0,.int .i64 0,.int .i64 0,.int .i64 0,.int .i64 0,.int .i64 0,.int .i64 0,.int .i64 0,.int .i64 0,.int .i64 0,.int .i64 0,.int .i64 0,.int .i64 0,.int .i64 0,.int .i64 0,.int .i64 0,.int .i64 0,.int .i64 0,.int .i64 0,.int .i64 0,.int .i64 0,.int .i64 0,.int .i64 0,.int .i64 0,.int .i64 0,.int .i64 0]):=by kernel_rfl
theorem ze131:zeroB Tryz.prog 131=some (.agg #[.int .u32 0,.int .u32 0,.int .u32 0,.int .u32 0,.int .u32 0,.int .u32 0,.int .u32 0,.int .u32 0]):=by kernel_rfl
theorem ze139:zeroB Tryz.prog 139=some (.agg #[.int .u32 0,.int .u32 0,.int .u32 0,.int .u32 0,.int .u32 0,.int .u32 0,.int .u32 0,.int .u32 0,.int .u32 0,.int .u32 0,.int .u32 0,.int .u32 0,.int .u32 0,.int .u32 0,.int .u32 0,.int .u32 0]):=by kernel_rfl
theorem ze146:zeroB Tryz.prog 146=some (.agg #[.int .u64 0,.int .u64 0,.int .u64 0,.int .u64 0,.int .u64 0]):=by kernel_rfl
theorem ze154:zeroB Tryz.prog 154=some (.agg #[.int .i64 0,.int .i64 0,.int .i64 0,.int .i64 0,.int .i64 0,.int .i64 0,.int .i64 0,.int .i64 0,.int .i64 0,.int .i64 0,.int .i64 0,.int .i64 0,.int .i64 0,.int .i64 0,.int .i64 0,.int .i64 0]):=by kernel_rfl
theorem ze156:zeroB Tryz.prog 156=some (.agg #[.int .i64 0,.int .i64 0,.int .i64 0,.int .i64 0,.int .i64 0]):=by kernel_rfl
theorem ze162:zeroB Tryz.prog 162=some (.agg #[.int .i64 0,.int .i64 0]):=by kernel_rfl
theorem ze165:zeroB Tryz.prog 165=some (.agg #[.int .i64 0,.int .i64 0,.int .i64 0,.int .i64 0]):=by kernel_rfl
end Go.Proofs.YteklgnhfgdhdiaaGreat
