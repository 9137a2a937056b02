/- Rows of cells by records. -/
import Derived.Test.YtpdjhlcbcomdkaaGreatDoorF06
set_option linter.unusedVariables false
namespace Go
inductive Qr
 | Ji (a1:Go.Proofs.Rm.Op) (a2:Option Addr) (a3 a4:Nat) (a5:Option Addr) (a6 a7:Nat)
 | Jj (a1:Go.Proofs.By.R6) (a2:Option Addr) (a3:Nat) (a4:Option Addr) (a5:Nat) (a6:Option Addr) (a7:Nat)
 | Jk (a1:Go.Proofs.By.AJ)
 | Jl (a1:Int) (a2:Go.Proofs.By.J2) (a3:Option Addr) (a4:Nat) (a5:Option Addr) (a6:Nat) (a7:Option Addr) (a8:Nat) (a9:Go.Proofs.By.AJ) (Vn:Option Addr) (Vo a12:Nat)
 | Jm (a1:Go.Proofs.By.J2) (a2:Option Addr) (a3:Nat) (a4:Option Addr) (a5:Nat) (a6:Option Addr) (a7:Nat)
 | Jn (a1:Go.Proofs.By.J2) (a2:Option Addr) (a3:Nat) (a4:Option Addr) (a5:Nat) (a6:Option Addr) (a7:Nat) (a8:Go.Proofs.By.AJ)
 | Jo (a1:Go.Proofs.By.Gg)
 | Jp (a1 a2 a3 a4:Int) (a5:Go.Proofs.By.J2) (a6:Option Addr) (a7:Nat) (a8:Option Addr) (a9:Nat) (Vn:Option Addr) (Vo:Nat) (a12:Go.Proofs.By.AJ) (Ub:Option Addr) (Uc TC:Nat) (SA:Option Addr) (a17 NF:Nat) (NG:Int)
instance {a1 a2 a3 a4 a5 a6 a7}:CoeDep Qr (.Ji a1 a2 a3 a4 a5 a6 a7) (Array Value):=⟨#[.int .i64 a1.kind,.int .i64 a1.peer,.int .i64 a1.source,.int .i64 a1.Zu,.string (Go.Proofs.Mem.str a1.name),.slice a2 a3 a4,.slice a5 a6 a7]⟩
instance {a1 a2 a3 a4 a5 a6 a7}:CoeDep Qr (.Ji a1 a2 a3 a4 a5 a6 a7) (List Value):=⟨[.int .i64 a1.kind,.int .i64 a1.peer,.int .i64 a1.source,.int .i64 a1.Zu,.string (Go.Proofs.Mem.str a1.name),.slice a2 a3 a4,.slice a5 a6 a7]⟩
instance {a1 a2 a3 a4 a5 a6 a7}:CoeDep Qr (.Jj a1 a2 a3 a4 a5 a6 a7) (Array Value):=⟨#[.int .i64 a1.kind,.int .u32 a1.X5,.int .u64 a1.JA,.int .u32 a1.time,.int .u32 a1.Xv,.int .u32 a1.octets,.slice a2 a1.blocks.length a3,.slice a4 a1.gone.length a5,.int .u32 a1.Ye,.slice a6 a1.XV.length a7]⟩
instance {a1 a2 a3 a4 a5 a6 a7}:CoeDep Qr (.Jj a1 a2 a3 a4 a5 a6 a7) (List Value):=⟨[.int .i64 a1.kind,.int .u32 a1.X5,.int .u64 a1.JA,.int .u32 a1.time,.int .u32 a1.Xv,.int .u32 a1.octets,.slice a2 a1.blocks.length a3,.slice a4 a1.gone.length a5,.int .u32 a1.Ye,.slice a6 a1.XV.length a7]⟩
instance {a1}:CoeDep Qr (.Jk a1) (Array Value):=⟨#[.int .i64 a1.Zu,.bool a1.key,.bool a1.start,.int .u16 a1.frame]⟩
instance {a1}:CoeDep Qr (.Jk a1) (List Value):=⟨[.int .i64 a1.Zu,.bool a1.key,.bool a1.start,.int .u16 a1.frame]⟩
instance {a1 a2 a3 a4 a5 a6 a7 a8 a9 Vn Vo a12}:CoeDep Qr (.Jl a1 a2 a3 a4 a5 a6 a7 a8 a9 Vn Vo a12) (Array Value):=⟨#[.int .i64 a1,.bool a2.UH,.int .i64 a2.type,.int .u16 a2.seq,.int .u32 a2.time,.int .u32 a2.X5,.slice a3 a2.Sa.length a4,.bool a2.UG,.int .u16 a2.VM,.slice a5 a2.ext.length a6,.slice a7 a2.Zp.length a8,.int .i64 a2.pad,.int .i64 a9.Zu,.bool a9.key,.bool a9.start,.int .u16 a9.frame,.slice Vn Vo a12]⟩
instance {a1 a2 a3 a4 a5 a6 a7 a8 a9 Vn Vo a12}:CoeDep Qr (.Jl a1 a2 a3 a4 a5 a6 a7 a8 a9 Vn Vo a12) (List Value):=⟨[.int .i64 a1,.bool a2.UH,.int .i64 a2.type,.int .u16 a2.seq,.int .u32 a2.time,.int .u32 a2.X5,.slice a3 a2.Sa.length a4,.bool a2.UG,.int .u16 a2.VM,.slice a5 a2.ext.length a6,.slice a7 a2.Zp.length a8,.int .i64 a2.pad,.int .i64 a9.Zu,.bool a9.key,.bool a9.start,.int .u16 a9.frame,.slice Vn Vo a12]⟩
instance {a1 a2 a3 a4 a5 a6 a7}:CoeDep Qr (.Jm a1 a2 a3 a4 a5 a6 a7) (Array Value):=⟨#[.bool a1.UH,.int .i64 a1.type,.int .u16 a1.seq,.int .u32 a1.time,.int .u32 a1.X5,.slice a2 a1.Sa.length a3,.bool a1.UG,.int .u16 a1.VM,.slice a4 a1.ext.length a5,.slice a6 a1.Zp.length a7,.int .i64 a1.pad]⟩
instance {a1 a2 a3 a4 a5 a6 a7}:CoeDep Qr (.Jm a1 a2 a3 a4 a5 a6 a7) (List Value):=⟨[.bool a1.UH,.int .i64 a1.type,.int .u16 a1.seq,.int .u32 a1.time,.int .u32 a1.X5,.slice a2 a1.Sa.length a3,.bool a1.UG,.int .u16 a1.VM,.slice a4 a1.ext.length a5,.slice a6 a1.Zp.length a7,.int .i64 a1.pad]⟩
instance {a1 a2 a3 a4 a5 a6 a7 a8}:CoeDep Qr (.Jn a1 a2 a3 a4 a5 a6 a7 a8) (Array Value):=⟨#[.bool a1.UH,.int .i64 a1.type,.int .u16 a1.seq,.int .u32 a1.time,.int .u32 a1.X5,.slice a2 a1.Sa.length a3,.bool a1.UG,.int .u16 a1.VM,.slice a4 a1.ext.length a5,.slice a6 a1.Zp.length a7,.int .i64 a1.pad,.int .i64 a8.Zu,.bool a8.key,.bool a8.start,.int .u16 a8.frame]⟩
instance {a1 a2 a3 a4 a5 a6 a7 a8}:CoeDep Qr (.Jn a1 a2 a3 a4 a5 a6 a7 a8) (List Value):=⟨[.bool a1.UH,.int .i64 a1.type,.int .u16 a1.seq,.int .u32 a1.time,.int .u32 a1.X5,.slice a2 a1.Sa.length a3,.bool a1.UG,.int .u16 a1.VM,.slice a4 a1.ext.length a5,.slice a6 a1.Zp.length a7,.int .i64 a1.pad,.int .i64 a8.Zu,.bool a8.key,.bool a8.start,.int .u16 a8.frame]⟩
instance {a1}:CoeDep Qr (.Jo a1) (Array Value):=⟨#[.int .i64 a1.kind,.int .i64 a1.source,.int .i64 a1.SQ,.int .i64 a1.err]⟩
instance {a1}:CoeDep Qr (.Jo a1) (List Value):=⟨[.int .i64 a1.kind,.int .i64 a1.source,.int .i64 a1.SQ,.int .i64 a1.err]⟩
instance {a1 a2 a3 a4 a5 a6 a7 a8 a9 Vn Vo a12 Ub Uc TC SA a17 NF NG}:CoeDep Qr (.Jp a1 a2 a3 a4 a5 a6 a7 a8 a9 Vn Vo a12 Ub Uc TC SA a17 NF NG) (Array Value):=⟨#[.int .i64 a1,.int .i64 a2,.int .i64 a3,.int .i64 a4,.bool a5.UH,.int .i64 a5.type,.int .u16 a5.seq,.int .u32 a5.time,.int .u32 a5.X5,.slice a6 a5.Sa.length a7,.bool a5.UG,.int .u16 a5.VM,.slice a8 a5.ext.length a9,.slice Vn a5.Zp.length Vo,.int .i64 a5.pad,.int .i64 a12.Zu,.bool a12.key,.bool a12.start,.int .u16 a12.frame,.slice Ub Uc TC,.slice SA a17 NF,.int .i64 NG]⟩
instance {a1 a2 a3 a4 a5 a6 a7 a8 a9 Vn Vo a12 Ub Uc TC SA a17 NF NG}:CoeDep Qr (.Jp a1 a2 a3 a4 a5 a6 a7 a8 a9 Vn Vo a12 Ub Uc TC SA a17 NF NG) (List Value):=⟨[.int .i64 a1,.int .i64 a2,.int .i64 a3,.int .i64 a4,.bool a5.UH,.int .i64 a5.type,.int .u16 a5.seq,.int .u32 a5.time,.int .u32 a5.X5,.slice a6 a5.Sa.length a7,.bool a5.UG,.int .u16 a5.VM,.slice a8 a5.ext.length a9,.slice Vn a5.Zp.length Vo,.int .i64 a5.pad,.int .i64 a12.Zu,.bool a12.key,.bool a12.start,.int .u16 a12.frame,.slice Ub Uc TC,.slice SA a17 NF,.int .i64 NG]⟩
end Go
