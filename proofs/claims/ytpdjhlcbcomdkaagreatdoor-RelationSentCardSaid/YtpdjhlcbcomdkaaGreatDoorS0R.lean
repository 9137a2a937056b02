import Derived.Test.YtpdjhlcbcomdkaaGreatDoorS02
set_option linter.all false
set_option autoImplicit true
namespace Go
inductive Qr
 | Jr (a:Go.Proofs.By.Op) (b:Option Addr) (c d:Nat) (e:Option Addr) (f g:Nat)
 | Js (a:Go.Proofs.By.JR) (b:Option Addr) (c:Nat) (d:Option Addr) (e:Nat) (f:Option Addr) (g:Nat) (h:Go.Proofs.By.Eu)
 | Jt (a:Go.Proofs.By.Rc) (b:Option Addr) (c:Nat) (d:Option Addr) (e:Nat) (f:Option Addr) (g:Nat)
 | Ju (a:Go.Proofs.By.Eu)
 | Jv (a:Go.Proofs.By.Et)
 | Jw (a:Bool) (b c d e:Int) (f:Option Addr) (g h:Nat) (i:Bool) (j:Int) (k:Option Addr) (l m:Nat) (n:Option Addr) (o p:Nat) (q:Int) (r:Go.Proofs.By.Eu)
 | Jx (a:Int) (b:Go.Proofs.By.JR) (c:Option Addr) (d:Nat) (e:Option Addr) (f:Nat) (g:Option Addr) (h:Nat) (i:Go.Proofs.By.Eu) (j:Option Addr) (k l:Nat)
 | Jy (a:Go.Proofs.By.JR) (b:Option Addr) (c:Nat) (d:Option Addr) (e:Nat) (f:Option Addr) (g:Nat)
 | Jz (a:Go.Proofs.By.Yz)
 | J0 (a:Go.Proofs.By.Et) (b:Go.Proofs.By.JR) (c:Option Addr) (d:Nat) (e:Option Addr) (f:Nat) (g:Option Addr) (h:Nat) (i:Go.Proofs.By.Eu) (j:Option Addr) (k l:Nat) (m:Option Addr) (n o:Nat) (p:Int)
 | J1 (a b c d:Int) (e:Go.Proofs.By.JR) (f:Option Addr) (g:Nat) (h:Option Addr) (i:Nat) (j:Option Addr) (k:Nat) (l:Go.Proofs.By.Eu) (m:Option Addr) (n o:Nat) (p:Option Addr) (q r:Nat) (s:Int)
instance:CoeDep Qr (.Jr a b c d e f g) (Array Value):=⟨#[.int .i64 a.kind,.int .i64 a.peer,.int .i64 a.source,.int .i64 a.ZC,.string (Go.Proofs.By.str a.name),.slice b c d,.slice e f g]⟩
instance:CoeDep Qr (.Jr a b c d e f g) (List Value):=⟨[.int .i64 a.kind,.int .i64 a.peer,.int .i64 a.source,.int .i64 a.ZC,.string (Go.Proofs.By.str a.name),.slice b c d,.slice e f g]⟩
instance:CoeDep Qr (.Js a b c d e f g h) (Array Value):=⟨#[.bool a.Xq,.int .i64 a.type,.int .u16 a.seq,.int .u32 a.time,.int .u32 a.Yi,.slice b a.Vs.length c,.bool a.Xo,.int .u16 a.XZ,.slice d a.ext.length e,.slice f a.Zz.length g,.int .i64 a.pad,.int .i64 h.ZC,.bool h.key,.bool h.start,.int .u16 h.frame]⟩
instance:CoeDep Qr (.Js a b c d e f g h) (List Value):=⟨[.bool a.Xq,.int .i64 a.type,.int .u16 a.seq,.int .u32 a.time,.int .u32 a.Yi,.slice b a.Vs.length c,.bool a.Xo,.int .u16 a.XZ,.slice d a.ext.length e,.slice f a.Zz.length g,.int .i64 a.pad,.int .i64 h.ZC,.bool h.key,.bool h.start,.int .u16 h.frame]⟩
instance:CoeDep Qr (.Jt a b c d e f g) (Array Value):=⟨#[.int .i64 a.kind,.int .u32 a.Yi,.int .u64 a.Ez,.int .u32 a.time,.int .u32 a.Wm,.int .u32 a.octets,.slice b a.blocks.length c,.slice d a.gone.length e,.int .u32 a.XS,.slice f a.Xm.length g]⟩
instance:CoeDep Qr (.Jt a b c d e f g) (List Value):=⟨[.int .i64 a.kind,.int .u32 a.Yi,.int .u64 a.Ez,.int .u32 a.time,.int .u32 a.Wm,.int .u32 a.octets,.slice b a.blocks.length c,.slice d a.gone.length e,.int .u32 a.XS,.slice f a.Xm.length g]⟩
instance:CoeDep Qr (.Ju a) (Array Value):=⟨#[.int .i64 a.ZC,.bool a.key,.bool a.start,.int .u16 a.frame]⟩
instance:CoeDep Qr (.Ju a) (List Value):=⟨[.int .i64 a.ZC,.bool a.key,.bool a.start,.int .u16 a.frame]⟩
instance:CoeDep Qr (.Jv a) (Array Value):=⟨#[.int .i64 a.kind,.int .i64 a.source,.int .i64 a.Nt,.int .i64 a.err]⟩
instance:CoeDep Qr (.Jv a) (List Value):=⟨[.int .i64 a.kind,.int .i64 a.source,.int .i64 a.Nt,.int .i64 a.err]⟩
instance:CoeDep Qr (.Jw a b c d e f g h i j k l m n o p q r) (Array Value):=⟨#[.bool a,.int .i64 b,.int .u16 c,.int .u32 d,.int .u32 e,.slice f g h,.bool i,.int .u16 j,.slice k l m,.slice n o p,.int .i64 q,.int .i64 r.ZC,.bool r.key,.bool r.start,.int .u16 r.frame]⟩
instance:CoeDep Qr (.Jw a b c d e f g h i j k l m n o p q r) (List Value):=⟨[.bool a,.int .i64 b,.int .u16 c,.int .u32 d,.int .u32 e,.slice f g h,.bool i,.int .u16 j,.slice k l m,.slice n o p,.int .i64 q,.int .i64 r.ZC,.bool r.key,.bool r.start,.int .u16 r.frame]⟩
instance:CoeDep Qr (.Jx a b c d e f g h i j k l) (Array Value):=⟨#[.int .i64 a,.bool b.Xq,.int .i64 b.type,.int .u16 b.seq,.int .u32 b.time,.int .u32 b.Yi,.slice c b.Vs.length d,.bool b.Xo,.int .u16 b.XZ,.slice e b.ext.length f,.slice g b.Zz.length h,.int .i64 b.pad,.int .i64 i.ZC,.bool i.key,.bool i.start,.int .u16 i.frame,.slice j k l]⟩
instance:CoeDep Qr (.Jx a b c d e f g h i j k l) (List Value):=⟨[.int .i64 a,.bool b.Xq,.int .i64 b.type,.int .u16 b.seq,.int .u32 b.time,.int .u32 b.Yi,.slice c b.Vs.length d,.bool b.Xo,.int .u16 b.XZ,.slice e b.ext.length f,.slice g b.Zz.length h,.int .i64 b.pad,.int .i64 i.ZC,.bool i.key,.bool i.start,.int .u16 i.frame,.slice j k l]⟩
instance:CoeDep Qr (.Jy a b c d e f g) (Array Value):=⟨#[.bool a.Xq,.int .i64 a.type,.int .u16 a.seq,.int .u32 a.time,.int .u32 a.Yi,.slice b a.Vs.length c,.bool a.Xo,.int .u16 a.XZ,.slice d a.ext.length e,.slice f a.Zz.length g,.int .i64 a.pad]⟩
instance:CoeDep Qr (.Jy a b c d e f g) (List Value):=⟨[.bool a.Xq,.int .i64 a.type,.int .u16 a.seq,.int .u32 a.time,.int .u32 a.Yi,.slice b a.Vs.length c,.bool a.Xo,.int .u16 a.XZ,.slice d a.ext.length e,.slice f a.Zz.length g,.int .i64 a.pad]⟩
instance:CoeDep Qr (.Jz a) (Array Value):=⟨#[.int .i64 a.kind,.int .i64 a.peer,.int .i64 a.source,.int .i64 a.ZC,.int .u32 a.Yi]⟩
instance:CoeDep Qr (.Jz a) (List Value):=⟨[.int .i64 a.kind,.int .i64 a.peer,.int .i64 a.source,.int .i64 a.ZC,.int .u32 a.Yi]⟩
instance:CoeDep Qr (.J0 a b c d e f g h i j k l m n o p) (Array Value):=⟨#[.int .i64 a.kind,.int .i64 a.source,.int .i64 a.Nt,.int .i64 a.err,.bool b.Xq,.int .i64 b.type,.int .u16 b.seq,.int .u32 b.time,.int .u32 b.Yi,.slice c b.Vs.length d,.bool b.Xo,.int .u16 b.XZ,.slice e b.ext.length f,.slice g b.Zz.length h,.int .i64 b.pad,.int .i64 i.ZC,.bool i.key,.bool i.start,.int .u16 i.frame,.slice j k l,.slice m n o,.int .i64 p]⟩
instance:CoeDep Qr (.J0 a b c d e f g h i j k l m n o p) (List Value):=⟨[.int .i64 a.kind,.int .i64 a.source,.int .i64 a.Nt,.int .i64 a.err,.bool b.Xq,.int .i64 b.type,.int .u16 b.seq,.int .u32 b.time,.int .u32 b.Yi,.slice c b.Vs.length d,.bool b.Xo,.int .u16 b.XZ,.slice e b.ext.length f,.slice g b.Zz.length h,.int .i64 b.pad,.int .i64 i.ZC,.bool i.key,.bool i.start,.int .u16 i.frame,.slice j k l,.slice m n o,.int .i64 p]⟩
instance:CoeDep Qr (.J1 a b c d e f g h i j k l m n o p q r s) (Array Value):=⟨#[.int .i64 a,.int .i64 b,.int .i64 c,.int .i64 d,.bool e.Xq,.int .i64 e.type,.int .u16 e.seq,.int .u32 e.time,.int .u32 e.Yi,.slice f e.Vs.length g,.bool e.Xo,.int .u16 e.XZ,.slice h e.ext.length i,.slice j e.Zz.length k,.int .i64 e.pad,.int .i64 l.ZC,.bool l.key,.bool l.start,.int .u16 l.frame,.slice m n o,.slice p q r,.int .i64 s]⟩
instance:CoeDep Qr (.J1 a b c d e f g h i j k l m n o p q r s) (List Value):=⟨[.int .i64 a,.int .i64 b,.int .i64 c,.int .i64 d,.bool e.Xq,.int .i64 e.type,.int .u16 e.seq,.int .u32 e.time,.int .u32 e.Yi,.slice f e.Vs.length g,.bool e.Xo,.int .u16 e.XZ,.slice h e.ext.length i,.slice j e.Zz.length k,.int .i64 e.pad,.int .i64 l.ZC,.bool l.key,.bool l.start,.int .u16 l.frame,.slice m n o,.slice p q r,.int .i64 s]⟩
end Go
