/- Part of a proof. -/
import Derived.Test.YtpdjhlcbcomdkaaGreatDoorR31
set_option linter.unusedVariables false
set_option linter.unusedSimpArgs false
set_option maxRecDepth 100000
set_option maxHeartbeats 16000000
open Go Go.Q Go.Qr
namespace Go.Proofs.By
open Go.RowKit Go.Proofs.Heap
theorem Ho {n:Nat} (h:n<256):((UInt8.ofNat n).toNat:Int)=(n:Int):=by rw [UInt8.toNat_ofNat'];omega
theorem vr (n:Nat) (w:World) (hn:n<65536):Calls Tryz.prog 147 #[.int .i64 2,.int .u64 (n:Int)] w fun e w'=>(∃ v,e = .returned v∧Row w' 5 v 2 (RD [UInt8.ofNat (n / 256),UInt8.ofNat (n % 256)]))∧Below w w w':=by
  have gS:∀ w:World,(Instr.makeSlice 30 (.int .i64 2) (.int .i64 2)).run Tryz.prog w = .ok (.slice (some ⟨w,0,none⟩) 2 2) (w.alloc (.cells (Qv 0 0) 5)):=fun w=>by kernel_rfl
  have zZ:max (2:Int) 0=2:=by decide
  have hR:Hid (∀ w':World,w'.heap[w.heap.size]?=some (.cells (Qv ((n / 256:Nat):Int) ((n % 256:Nat):Int)) 5 (0,0))→Row w' 5 (.slice (some ⟨w,0,none⟩) 2 2) 2 (RD [UInt8.ofNat (n / 256),UInt8.ofNat (n % 256)])):=fun w' h=>by
    refine Row.Z6 (base:=0) (size:=1) ⟨rfl,Wh ⟨w,2,_,rfl,Tk _,h,by decide,by decide,rfl,?_⟩⟩;simp only [RD,List.map_cons,List.map_nil,Ho (show n / 256<256 by omega),Ho (show n % 256<256 by omega)];rfl
  have a1:IntKind.u8.wrap ((n:Int) % 256)=(n:Int) % 256:=by rw [IntKind.wrap_u8];omega
  have a2:IntKind.u8.wrap ((n:Int) / 256 % 256)=(n:Int) / 256 % 256:=by rw [IntKind.wrap_u8];omega
  have hz:=Z8 w (.cells (Qv 0 0) 5);have Vk:Hid (Below w w (w.alloc (.cells (Qv 0 0) 5))):=Z' w _;go_enter Tryz.func147,Tryz.ntmps147;go_wp2_with fail
  go_loopw [1,6] (fun s1 s6 w'=>Below w w w'∧((s6 = .int .i64 1∧s1 = .int .u64 (n:Int)∧w'.heap[w.heap.size]?=some (.cells (Qv 0 0) 5 (0,0)))∨(s6 = .int .i64 0∧s1 = .int .u64 ((n:Int) / 256)∧w'.heap[w.heap.size]?=some (.cells (Qv 0 ((n:Int) % 256)) 5 (0,0)))∨(s6 = .int .i64 (-1)∧s1 = .int .u64 ((n:Int) / 256 / 256)∧w'.heap[w.heap.size]?=some (.cells (Qv ((n:Int) / 256 % 256) ((n:Int) % 256)) 5 (0,0))))) (fun _ s6 _=>(intOf s6+1).toNat)
  case atStart=>exact ⟨Vk.o,Ws ⟨rfl,rfl,hz⟩⟩
  case round=>
    obtain ⟨VX,h⟩:=hrel;have Sy:=Zh VX;clear VX;rcases h with ⟨rfl,rfl,hb⟩|⟨rfl,rfl,hb⟩|⟨rfl,rfl,hb⟩
    · have k1:=cell_of hb 1;have f1:=ZO hb 1;simp only [SE,SD,R8] at k1;have Y7:=VH hb 1 (.int .u8 ((n:Int) % 256));go_wp2;go_roundw
      case rel=>exact ⟨((Fr.Z7 PN Sy.o).setCell (p:=⟨w,1,none⟩) (Ws (Zw _)) _).below,Wh (Ws ⟨rfl,rfl,Y7⟩)⟩
      case measure=>simp [intOf]
    · have k1:=cell_of hb 0;have f1:=ZO hb 0;simp only [SE,SD,R8] at k1;have Y7:=VH hb 0 (.int .u8 ((n:Int) / 256 % 256));go_wp2;go_roundw
      case rel=>exact ⟨((Fr.Z7 PN Sy.o).setCell (p:=⟨w,0,none⟩) (Ws (Zw _)) _).below,Wh (Wh ⟨rfl,rfl,Y7⟩)⟩
      case measure=>simp [intOf]
    · have e1:((n / 256:Nat):Int)=(n:Int) / 256 % 256:=by omega
      have e2:((n % 256:Nat):Int)=(n:Int) % 256:=by omega
      have HRR:=Zh (hR.o wr (by rw [e1,e2];exact hb));clear hR;go_wp2;go_ret;exact ⟨⟨_,rfl,HRR.o⟩,Sy.o⟩
theorem IV (ly fr:Int) (ke st:Bool) (w:World) (h0:0≤ly):Calls Tryz.prog 146 #[.agg (Qd ly ke st fr)] w fun e w'=>e = .returned (.bool (decide (ly≤2)))∧Below w w w':=by
  have d0:decide (0≤ly)=true:=Wi h0;go_enter Tryz.func146,Tryz.ntmps146;go_wp2;go_ret;exact ⟨rfl,Z' w _⟩
def RF (ly:Nat) (ke st:Bool):Nat:=ly+(if ke then 128 else 0)+(if st then 64 else 0)
theorem td (w:World) (e:TypeId) (size n m base:Nat) (xs:List Value) (hl:xs.length=n*size) (hn:n≤maxLen) (hm:m=w.heap.size) (hB:base≤m):(w.alloc (.cells xs.toArray e)).ownsRow base e size (.slice (some ⟨m,0,none⟩) n n) n xs:=by
  exact Yt25
theorem zh (ly fr:Nat) (ke st:Bool) (w:World) (hl:ly≤2) (hf:fr<65536):Calls Tryz.prog 119 #[.agg (Qd (ly:Int) ke st (fr:Int))] w fun e w'=>(∃ v,e = .returned v∧Row w' 5 v 4 (RD [UInt8.ofNat (RF ly ke st),90,UInt8.ofNat (fr / 256),UInt8.ofNat (fr % 256)]))∧Below w w w':=by
  have CM:=Zh (fun w'=>IV (ly:Int) (fr:Int) ke st w' Zo);have CB:=Zh (fun w'=>vr fr w' hf);have dl:decide ((ly:Int)≤2)=true:=Wi Zo;have a9:IntKind.u64.wrap (fr:Int)=(fr:Int):=by rw [IntKind.wrap_u64];omega
  have Vk:Hid (Below w w (w.alloc (.cells (Qd (ly:Int) ke st (fr:Int)) 81))):=Z' w _;have hz:=Z8 w (.cells (Qd (ly:Int) ke st (fr:Int)) 81);obtain ⟨x,hx⟩:∃ x:Int,x=((RF ly ke st:Nat):Int):=⟨_,rfl⟩
  have HY:Hid (RD [UInt8.ofNat (RF ly ke st),90,UInt8.ofNat (fr / 256),UInt8.ofNat (fr % 256)]=[.int .u8 x,.int .u8 90]++RD [UInt8.ofNat (fr / 256),UInt8.ofNat (fr % 256)]):=by
    show _=_;have cD:RF ly ke st<256:=by unfold RF;split <;> split <;> omega
    simp only [RD,List.map_cons,List.map_nil,Ho cD,hx];rfl
  rw [HY.o];clear HY;cases ke <;> cases st
  case' false.false=>
    have a0:IntKind.u8.wrap (ly:Int)=x:=by rw [IntKind.wrap_u8,hx];simp [RF];omega
  case' false.true=>
    have a0:IntKind.u8.wrap (ly:Int)=(ly:Int):=by rw [IntKind.wrap_u8];omega
    have a1:IntKind.u8.wrap ((ly:Int)+64)=x:=by rw [IntKind.wrap_u8,hx];simp [RF];omega
  case' true.false=>
    have a0:IntKind.u8.wrap (ly:Int)=(ly:Int):=by rw [IntKind.wrap_u8];omega
    have a1:IntKind.u8.wrap ((ly:Int)+128)=x:=by rw [IntKind.wrap_u8,hx];simp [RF];omega
  case' true.true=>
    have a0:IntKind.u8.wrap (ly:Int)=(ly:Int):=by rw [IntKind.wrap_u8];omega
    have a1:IntKind.u8.wrap ((ly:Int)+128)=(ly:Int)+128:=by rw [IntKind.wrap_u8];omega
    have a2:IntKind.u8.wrap ((ly:Int)+128+64)=x:=by rw [IntKind.wrap_u8,hx];simp [RF];omega
  all_goals
    clear hx hl;go_enter Tryz.func119,Tryz.ntmps119;go_upto_region 3 with (go_at_call 146;refine (CM.o _).mono ?_;rintro e w2 ⟨rfl,Y7⟩;have X8:=Zh (Vk.o.trans (Y7.mono Vk.o.size));have Sh:=(Y7.block _ (ZW hz)).trans hz;clear Y7)
    have q0:w2.cell? ⟨w,0,none⟩=some (.int .i64 (ly:Int)):=Zc Sh 0 rfl;have q1:=cell_of Sh 1;have q2:=cell_of Sh 2;have q3:w2.cell? ⟨w,3,none⟩=some (.int .u16 (fr:Int)):=Zc Sh 3 rfl;simp only [SE,SD,R8] at q1 q2;have q4:=((Z' w2 (.cells (Qv x 90) 5)).cell (p:=⟨w,3,none⟩) (ZW Sh)).trans q3;have Mq:Hid ((w2.alloc (.cells (Qv x 90) 5)).ownsRow w 5 1 (.slice (some ⟨w2,0,none⟩) 2 2) 2 (Qv x 90)):=td w2 5 1 2 w2.heap.size w.heap.size (Qv x 90) rfl Zd rfl X8.o.size;have Wc:Hid (Below w w (w2.alloc (.cells (Qv x 90) 5))):=ZF X8.o (Zw _) _
    have HN9:Hid (∀ u∈RD [UInt8.ofNat (fr / 256),UInt8.ofNat (fr % 256)],u.oneCell'=true):=fun u hu=>by
      simp only [RD,List.map_cons,List.map_nil,KN,List.mem_nil_iff,or_false] at hu;rcases hu with rfl|rfl <;> rfl
    clear hz Sh;go_wp2_with (first|(go_at_call 147;refine (CB.o _).mono ?_;rintro e w4 ⟨⟨v4,rfl,hr⟩,Oj⟩;have HR4:=Zh hr;have Ux:=Zh (Wc.o.trans (Oj.mono Wc.o.size));have HOW4:=Zh (Yw Mq.o Oj);clear hr Oj)|(at_builtin;refine YV rfl (.tmp 19) (.tmp 23) 30 rfl w.heap.size VF (.slice (some ⟨w2,0,none⟩) 2 2) 2 (Qv x 90) rfl HOW4.o v4 2 (RD [UInt8.ofNat (fr / 256),UInt8.ofNat (fr % 256)]) rfl HR4.o rfl HN9.o Zd Zd Ux.o.size (fun v5 w5 fk iD=>?_)))
    go_ret;exact ⟨⟨_,rfl,Row.Z6 fk.o⟩,((Fr.Z7 PN Ux.o).grown iD.o Ux.o.size (Rm.YL HOW4.o)).below⟩
theorem BH (ly fr:Int) (ke st:Bool) (w:World) (h2:2<ly):Calls Tryz.prog 119 #[.agg (Qd ly ke st fr)] w fun e w'=>e = .returned (.slice none 0 0)∧Below w w w':=by
  have CM:=Zh (fun w'=>IV ly fr ke st w' Zo);have Vk:Hid (Below w w (w.alloc (.cells (Qd ly ke st fr) 81))):=Z' w _;have dl:decide (ly≤2)=false:=WI Zo;go_enter Tryz.func119,Tryz.ntmps119;go_wp2_with (go_at_call 146;refine (CM.o _).mono ?_;rintro e w2 ⟨rfl,Y7⟩;have X8:=Zh (Vk.o.trans (Y7.mono Vk.o.size));clear Y7)
  go_ret;exact ⟨rfl,X8.o⟩
open Go.Proofs Go.Proofs.Mem
theorem UJ {P:Program} {fn:Func} {p u:Tmp} {ty:TypeId} (h:fn.results=#[.cell p ty,.tmp u]) (tmps:Array Value) (w:World) (g:Nat) (t:TypeId) (cs:Array Value) (fr:Nat × Nat) (d:TypeDesc)
  (hp:tmps.getD p undef = .pointer (some ⟨g,0,none⟩)) (hg:w.heap[g]?=some (.cells cs t fr))
  (hu:P.underlying ty=some d) (hd:(match d with | .struct _ | .array _ _=>true|_=>false)=true) (hi:(P.info? ty).map (·.size)=some cs.size) :
  (results fn tmps).run P w = .ok (.tuple #[.agg cs,tmps.getD u undef]) w:=by
 exact Yt6
theorem nI {x:Nat} (h:x<256):(RF (x % 4) (decide (128≤x)) (decide (x / 64 % 2=1))=x)↔x / 4 % 16=0:=by
 unfold RF;by_cases h1:128≤x <;> by_cases h2:x / 64 % 2=1 <;> simp [h1,h2] <;> omega
theorem tQ {b:List UInt8} (h:4≤b.length):b.take 4=[UInt8.ofNat (at8 b 0),UInt8.ofNat (at8 b 1),UInt8.ofNat (at8 b 2),UInt8.ofNat (at8 b 3)]:=by
 match b,h with
 | x0 :: x1 :: x2 :: x3 :: t,_=>simp [at8]
theorem nP {b:List UInt8} (h:4≤b.length):get b 2 2=at8 b 2*256+at8 b 3:=by
 match b,h with
 | x0 :: x1 :: x2 :: x3 :: t,_=>
  have hw:within (x0 :: x1 :: x2 :: x3 :: t).length 2 2=true:=within_iff.2 ⟨by decide,by decide,by decide,by simp;omega⟩;unfold get;rw [ZR hw];simp [be,at8]
theorem Gd {w:World} {v:Value} {l:List UInt8} (h:X6 w v l) (hl:0<l.length):(convert 30 9 v).run Tryz.prog w = .ok (.string (str l)) w:=by
 obtain ⟨g,off,cap,e,_,_,hc⟩:=BQ h hl;subst e
 exact run_convert_bytes_back w _ _ 5 ⟨g,off,none⟩ cap l Tryz.underlying30 Tryz.underlying5 Tryz.underlying9 (fun j hj=>by
  have e:(⟨g,off,none⟩:Addr).add j=⟨g,off+j,none⟩:=by unfold Addr.add;split <;> simp_all
  rw [e];exact hc j hj)
theorem Dd (v:Value) (b:List UInt8) (w:World) (hv:X6 w v b) :
  Calls Tryz.prog 95 #[v] w fun e w'=>e = .returned (.tuple (Qo (Qd (Yy b).1.ZH (Yy b).1.key (Yy b).1.start (Yy b).1.frame) (Yy b).2))∧Below w w w':=by
 have HV:Hid (∀ w',Below w w w'→X6 w' v b):=fun w' h=>hv.below h
 have HE:Hid (Yy b=if b.length<4 then (Tu,2) else if at8 b 0 / 4 % 16≠0∨at8 b 0 % 4=3∨at8 b 1≠90 then (Tu,1) else (⟨(at8 b 0 % 4:Nat),decide (128≤at8 b 0),decide (at8 b 0 / 64 % 2=1),get b 2 2⟩,0)):=rfl
 obtain ⟨a,c,rfl,R4,wq⟩:∃ a c,v = .slice a b.length c∧b.length≤c∧c≤maxLen:=by
  obtain ⟨a,c,h1,h2,h3,_⟩:=id hv;exact ⟨a,c,h1,h2,h3⟩
 clear hv;have Uk:=Z' w (.cells (Qd 0 false false 0) 81);have hz:=Z8 w (.cells (Qd 0 false false 0) 81);generalize hX:Yy b=X at *
 by_cases h1:b.length<4
 ·obtain rfl:X=(Tu,2):=by rw [HE.o,ZR h1]
  clear HE HV hX;have l1:decide ((b.length:Int)<4)=true:=Wi Zo;go_enter Tryz.func95,Tryz.ntmps95;go_wp2;exact VD (v:= .tuple (Qo (Qd 0 false false 0) 2)) (by simp [results,Tryz.results95,go_sem]) rfl ⟨rfl,Uk⟩
 obtain ⟨g,off,cap,e1,_,_,hc⟩:=RR (HV.o w (YJ _ _)) Zo;cases e1;have HC:=Zh hc;have r0:=Xl b 0;have r1:=Xl b 1;have r2:=Xl b 2;have r3:=Xl b 3;have l1:decide ((b.length:Int)<4)=false:=WI Zo;have i0:(0:Int)<(b.length:Int):=by omega
 have i2:(2:Int)<(b.length:Int):=by omega
 have i3:(3:Int)<(b.length:Int):=by omega
 have om:get b 2 2=at8 b 2*256+at8 b 3:=nP Zo;obtain ⟨vs,Uw,-,GF⟩:=Sp (P:=Tryz.prog) VF (some ⟨g,off,none⟩) b.length c 4 Zo;have hs4:∀ w,(Instr.slice 30 (.slice (some ⟨g,off,none⟩) b.length c) none (some (.int .i64 4)) none).run Tryz.prog w = .ok (.slice vs 4 c) w:=Uw;have Oj:b.take 4=[UInt8.ofNat (at8 b 0),UInt8.ofNat (at8 b 1),UInt8.ofNat (at8 b 2),UInt8.ofNat (at8 b 3)]:=tQ Zo
 have Ux:Hid (∀ w',Below w w w'→X6 w' (.slice vs 4 c) (b.take 4)):=fun w' h=>by
  have h2:=GF w' (RD b) Zo (by rw [Xh,Nat.mul_one]) (HV.o w' h);rw [Nat.mul_one,OX] at h2;have h3:(b.take 4).length=4:=by rw [S4];omega
  show XR w' _ _ _;rw [h3];exact h2
 rw [Oj] at Ux;have c0:=hc 0 Zo;have c2:=hc 2 Zo;have c3:=hc 3 Zo;rw [Nat.add_zero] at c0;rw [Z4 h1,om] at HE;clear om Uw GF hc HC hX HV Oj;generalize at8 b 0=x0 at *
 generalize at8 b 1=x1 at *
 generalize at8 b 2=x2 at *
 generalize at8 b 3=x3 at *
 have q0:IntKind.u16.wrap ((x2:Int)*256)=(x2:Int)*256:=by rw [IntKind.wrap_u16];omega
 have q2:IntKind.u16.wrap (x2:Int)=(x2:Int):=by rw [IntKind.wrap_u16];omega
 have q3:IntKind.u16.wrap (x3:Int)=(x3:Int):=by rw [IntKind.wrap_u16];omega
 obtain ⟨fr,Wu⟩:∃ f:Nat,f=x2*256+x3:=⟨_,rfl⟩;obtain ⟨ly,lD⟩:∃ l:Nat,l=x0 % 4:=⟨_,rfl⟩;obtain ⟨ke,R5⟩:∃ k:Bool,k=decide (128≤x0):=⟨_,rfl⟩;obtain ⟨st,yE⟩:∃ k:Bool,k=decide (x0 / 64 % 2=1):=⟨_,rfl⟩;have p1:(x0:Int).tmod 4=(ly:Int):=by rw [Int.tmod_eq_emod_of_nonneg Zo];omega
 have p1b:IntKind.i64.wrap (ly:Int)=(ly:Int):=Tm _ Zo;have p2:decide ((128:Int)≤(x0:Int))=ke:=by rw [R5,Bool.eq_iff_iff,Pz,Pz];omega
 have p2b:decide (128≤x0)=ke:=R5.symm;obtain ⟨y,hy⟩:∃ y:Nat,y=x0 / 64:=⟨_,rfl⟩;have p3:IntKind.u8.wrap ((x0:Int) / 64)=(y:Int):=by rw [IntKind.wrap_u8];omega
 have p4:((y:Int).tmod 2 == 1)=st:=by rw [yE,Bool.eq_iff_iff,beq_iff_eq,Pz,Int.tmod_eq_emod_of_nonneg Zo];omega
 have p6:IntKind.u16.wrap (fr:Int)=(fr:Int):=by rw [IntKind.wrap_u16];omega
 have p5:(x2:Int)*256+(x3:Int)=(fr:Int):=by omega
 rw [←Wu] at HE;rw [←lD,←R5,←yE] at HE;have HL:Hid (fr=x2*256+x3∧ly=x0 % 4∧ke=decide (128≤x0)∧st=decide (x0 / 64 % 2=1)):=⟨Wu,lD,R5,yE⟩;have hly4:ly<4:=by omega
 have hfr6:fr<65536:=by omega
 clear Wu lD R5 yE hy;have Zz:Hid (∀ w',Below w w w'→w'.cell? ⟨g,off,none⟩=some (.int .u8 (x0:Int))∧w'.cell? ⟨g,off+2,none⟩=some (.int .u8 (x2:Int))∧w'.cell? ⟨g,off+3,none⟩=some (.int .u8 (x3:Int))):=fun w' h=>⟨Yp c0 h,Yp c2 h,Yp c3 h⟩
 have n0:0<b.length:=by omega
 have n1:¬b.length=0:=by omega
 have n2:2<b.length:=by omega
 have n3:3<b.length:=by omega
 have n4:4≤b.length:=by omega
 clear h1;generalize b.length=N at *
 have Dz:=Zh Uk;have HZ1:=Zh hz;clear c0 c2 c3 Uk hz;go_enter Tryz.func95,Tryz.ntmps95;go_upto_region 3 with fail
 generalize w.alloc (.cells (Qd 0 false false 0) 81)=w1 at *
 have mJ:Hid (∀ w',Below w1 w1 w'→w'.cell? ⟨g,off,none⟩=some (.int .u8 (x0:Int))∧w'.cell? ⟨g,off+2,none⟩=some (.int .u8 (x2:Int))∧w'.cell? ⟨g,off+3,none⟩=some (.int .u8 (x3:Int))):=fun w' h=>Zz.o _ (Dz.o.trans (h.mono Dz.o.size))
 refine SX ?_;refine Z_.Zy (d:=27) (S:=(fun w'=>w'.cell? ⟨g,off,none⟩=some (.int .u8 (x0:Int))∧w'.cell? ⟨g,off+2,none⟩=some (.int .u8 (x2:Int))∧w'.cell? ⟨g,off+3,none⟩=some (.int .u8 (x3:Int)))) Zk ?_ (fun Ye=>?_)
 ·(try dsimp only)
  exact mJ.o _ (YJ _ _).drew
 refine YP 0 (h:=YP 1 (h:=YP 5 (h:=YP 6 (h:=YP 9 (h:=YP 10 (h:=YP 15 (h:=YP 16 (h:=YP 20 (h:=YP 21 (h:=YK 2 (h:=YP 3 (h:=YP 4 (h:=YK 7 (h:=YP 8 (h:=YK 11 (h:=YP 12 (h:=YP 13 (h:=YP 14 (h:=YK 17 (h:=YP 18 (h:=YP 19 (h:=YK 22 (h:=YP 23 (h:=YP 24 (h:=YP 25 (h:=?_))))))))))))))))))))))))));refine YR 26 (h:=fun K hK=>?_);go_simp;refine Z_.Zb hK _ _ ?_ (fun XU=>?_)
 ·(try dsimp only)
  exact mJ.o _ (by first|exact (YJ _ _).drew|exact ZF (YJ _ _).drew (Zw _) _)
 clear hK K;try simp only [Z_.pt]
 refine YR 27 (h:=fun K hK=>?_);go_simp;refine Z_.Yk hK _ _ Zk ?_;clear hK K;try simp only [Z_.pt]
 refine Z_.YC Zk ?_ _;refine RA ?_;have HK:Hid ((((w1.alloc (.cells (Qd (ly:Int) ke st (fr:Int)) 81)).drew)).heap[w1.heap.size]?=some (.cells (Qd (ly:Int) ke st (fr:Int)) 81 (0,0))):=Z8 w1 _;have im:Hid (Below w1 w1 (((w1.alloc (.cells (Qd (ly:Int) ke st (fr:Int)) 81)).drew))):=(Z' w1 _).drew;have lh:=Zh ((im.o.block _ (ZW HZ1.o)).trans HZ1.o);have Wc:Hid (Below w w (((w1.alloc (.cells (Qd (ly:Int) ke st (fr:Int)) 81)).drew))):=(Dz.o.trans ((Z' w1 _).mono Dz.o.size)).drew;clear Zz mJ Ye q0 q2 q3 i0 i2 i3 n0 n1 n2 n3 p1 p1b p2 p2b p3 p4 p5 p6 l1;go_upto_region 4 with fail
 generalize ((w1.alloc (.cells (Qd (ly:Int) ke st (fr:Int)) 81)).drew)=w3 at *
 generalize w1.heap.size=K at *
 have Rz:Hid (∀ w',Below w3 w3 w'→w'.rangeAt K 0 (Qd (ly:Int) ke st (fr:Int))∧Below w3 w3 w'):=fun w' hb=>⟨fun m v hm=>by rw [QD,cell_of ((hb.block _ (ZW HK.o)).trans HK.o) m];simpa using hm,hb⟩
 have HCV:Hid (∀ wS,Below w3 w3 wS→(convert 30 9 (.slice vs 4 c)).run Tryz.prog wS = .ok (.string (str [UInt8.ofNat x0,UInt8.ofNat x1,UInt8.ofNat x2,UInt8.ofNat x3])) wS):=fun wS h=>Gd (Ux.o wS (Wc.o.trans (h.mono Wc.o.size))) (Nat.succ_pos _)
 have UD:Hid (∀ w' d,Below w3 w3 w'→w'.heap[w.heap.size]?=some (.cells (Qd 0 false false 0) 81 (0,0))∧Below w w (w'.setRow w.heap.size d)):=fun w' d h=>⟨(h.block _ (ZW lh.o)).trans lh.o,Z3 (Wc.o.trans (h.mono Wc.o.size)) (Zw _) _⟩
 have HAB:Hid ((¬ly=3)→([UInt8.ofNat (RF ly ke st),90,UInt8.ofNat (fr / 256),UInt8.ofNat (fr % 256)]=[UInt8.ofNat x0,UInt8.ofNat x1,UInt8.ofNat x2,UInt8.ofNat x3]↔x0 / 4 % 16=0∧x1=90)):=fun h3=>by
  obtain ⟨e1,e2,e3,e4⟩:=HL.o;have hd:=nI r0;rw [←e2,←e3,←e4] at hd;have qI:RF ly ke st<256:=by unfold RF;split <;> split <;> omega
  have i1:∀ a b:Nat,a<256→b<256→(UInt8.ofNat a=UInt8.ofNat b↔a=b):=fun a b ha hb=>⟨fun h=>by have h:=congrArg UInt8.toNat h;rw [UInt8.toNat_ofNat',UInt8.toNat_ofNat'] at h;omega,fun h=>by rw [h]⟩
  have f1:fr / 256=x2:=by omega
  have f2:fr % 256=x3:=by omega
  rw [f1,f2];simp only [List.cons.injEq,and_true];rw [i1 _ _ qI r0,hd,show (90:UInt8)=UInt8.ofNat 90 from rfl,i1 _ _ Zd r1];exact ⟨fun h=>⟨h.1,h.2.symm⟩,fun h=>⟨h.1,h.2.symm⟩⟩
 have hse:(str [UInt8.ofNat x0,UInt8.ofNat x1,UInt8.ofNat x2,UInt8.ofNat x3]).toList.isEmpty=false:=by rw [Rm.Ik];rfl
 generalize [UInt8.ofNat x0,UInt8.ofNat x1,UInt8.ofNat x2,UInt8.ofNat x3]=lb at *
 clear Ux;by_cases h3:ly=3
 ·have HX:Hid (X=(Tu,1)):=by show _=_;rw [HE.o,ZR (Wh (Ws h3))]
  have CP:=Zh (BH (ly:Int) (fr:Int) ke st w3.drew Zo);clear h3 HAB HE HL;have cv0:∀ w:World,(convert 30 9 (.slice none 0 0)).run Tryz.prog w = .ok (.string ⟨#[]⟩) w:=fun w=>by kernel_rfl
  refine SX ?_;refine wp_region_held_drew (S:=(fun w'=>w'.rangeAt K 0 (Qd (ly:Int) ke st (fr:Int))∧Below w3 w3 w')) Zk ?_ (fun Ye=>?_)
  ·exact Rz.o _ (YJ _ _).drew
  refine YA 3 (h:=YA 4 (h:=?_));refine YA 0 (hy:=by intro wS Uq;refine (XH 81 (.tmp 4) ?_ K 0 ?_ (Qd (ly:Int) ke st (fr:Int)) _ Uq.1 Tryz.underlying81 rfl Zk).trans ?_;all_goals rfl) (h:=?_);refine YA 5 (hy:=by intro wS Uq;have FM:=HCV.o wS Uq.2;(try dsimp only at Uq);(try simp only [Z_.pt]);go_simp;try with_reducible rfl) (h:=?_);refine R7 1 (h:=fun K hK=>?_);go_simp;refine CP.o.mono ?_;rintro e wA ⟨rfl,gA⟩;have Bp:=Zh ((YJ w3.heap.size w3).drew.trans gA);clear gA;exact Yt4
 have NS:=HAB.o h3;have hL4:[UInt8.ofNat (RF ly ke st),90,UInt8.ofNat (fr / 256),UInt8.ofNat (fr % 256)].length=4:=rfl;have CP:=Zh (zh ly fr ke st w3.drew Zo hfr6);generalize [UInt8.ofNat (RF ly ke st),90,UInt8.ofNat (fr / 256),UInt8.ofNat (fr % 256)]=la at *
 clear hse HAB HL;by_cases hq:x0 / 4 % 16≠0∨x1≠90
 ·have HX:Hid (X=(Tu,1)):=by show _=_;rw [HE.o,ZR Zo]
  have WK:¬la=lb:=by rw [NS];omega
  have nq:((str la).toList == (str lb).toList)=false:=by rw [WR,ByteArray.toList_eq,ByteArray.toList_eq];exact WK
  clear h3 HE NS hq WK;refine SX ?_;refine wp_region_held_drew (S:=(fun w'=>w'.rangeAt K 0 (Qd (ly:Int) ke st (fr:Int))∧Below w3 w3 w')) Zk ?_ (fun Ye=>?_)
  ·exact Rz.o _ (YJ _ _).drew
  refine YA 3 (h:=YA 4 (h:=?_));refine YA 0 (hy:=by intro wS Uq;refine (XH 81 (.tmp 4) ?_ K 0 ?_ (Qd (ly:Int) ke st (fr:Int)) _ Uq.1 Tryz.underlying81 rfl Zk).trans ?_;all_goals rfl) (h:=?_);refine YA 5 (hy:=by intro wS Uq;have FM:=HCV.o wS Uq.2;(try dsimp only at Uq);(try simp only [Z_.pt]);go_simp;try with_reducible rfl) (h:=?_);refine R7 1 (h:=fun K hK=>?_);go_simp;refine CP.o.mono ?_;rintro e wA ⟨⟨pv,rfl,sG⟩,gA⟩;have Bp:=Zh ((YJ w3.heap.size w3).drew.trans gA);have cv2:=Gd (w:=wA) (v:=pv) (l:=la) (by show XR _ _ _ _;rw [hL4];exact sG.r) (by rw [hL4];decide);clear gA sG;exact Yt4
 ·have HX:Hid (X=(⟨(ly:Nat),ke,st,(fr:Nat)⟩,0)):=by show _=_;rw [HE.o,Z4 Zo]
  have hab2:la=lb:=NS.2 Zo;subst hab2;clear h3 HE NS hq;refine SX ?_;refine wp_region_held_drew (S:=(fun w'=>w'.rangeAt K 0 (Qd (ly:Int) ke st (fr:Int))∧Below w3 w3 w')) Zk ?_ (fun Ye=>?_)
  ·exact Rz.o _ (YJ _ _).drew
  refine YA 3 (h:=YA 4 (h:=?_));refine YA 0 (hy:=by intro wS Uq;refine (XH 81 (.tmp 4) ?_ K 0 ?_ (Qd (ly:Int) ke st (fr:Int)) _ Uq.1 Tryz.underlying81 rfl Zk).trans ?_;all_goals rfl) (h:=?_);refine YA 5 (hy:=by intro wS Uq;have FM:=HCV.o wS Uq.2;(try dsimp only at Uq);(try simp only [Z_.pt]);go_simp;try with_reducible rfl) (h:=?_);refine R7 1 (h:=fun K hK=>?_);go_simp;refine CP.o.mono ?_;rintro e wA ⟨⟨pv,rfl,sG⟩,gA⟩;have Bp:=Zh ((YJ w3.heap.size w3).drew.trans gA);have cv2:=Gd (w:=wA) (v:=pv) (l:=la) (by show XR _ _ _ _;rw [hL4];exact sG.r) (by rw [hL4];decide);clear gA sG;go_wp2_with fail
  refine hK.out _ _ ?_ (fun XU=>?_)
  ·exact Rz.o _ Bp.o
  clear hK K;try simp only [Z_.pt]
  refine R7 2 (h:=fun K hK=>?_);go_simp;refine hK.out _ _ ?_ (fun VG=>?_)
  ·exact Rz.o _ Bp.o
  clear hK K;try simp only [Z_.pt]
  refine YA 6 (h:=?_);refine YHE (h:=?_);refine RA ?_;obtain ⟨TZ,qH⟩:=UD.o wA (Qd (ly:Int) ke st (fr:Int)) Bp.o;have UF:=(Bp.o.block _ (ZW HK.o)).trans HK.o;go_wp2_with (first|(with_reducible refine Zj 81 (.tmp 4) rfl ?_;refine Zl UF Tryz.underlying81 ?_)|(with_reducible refine ZU 81 (.tmp 2) (.tmp 43) rfl ?_;refine Zs TZ ?_))
  refine VD (v:= .tuple (Qo (Qd (ly:Int) ke st (fr:Int)) 0)) ?_ rfl ?_
  ·exact UJ (p:=2) (u:=3) Zr _ _ w.heap.size 81 (Qd (ly:Int) ke st (fr:Int)) (0,0) _ Zr (setRow_heap _ _ _ _ _ _ TZ) Tryz.underlying81 rfl Zk
  rw [HX.o];exact ⟨rfl,qH⟩
end Go.Proofs.By
namespace Go.Proofs.By
open Go.RowKit Go.Proofs.Heap Go.Proofs
def T6 (c:List UInt8) (n:Nat):List Int:=(List.range n).map fun (i:Nat)=>((get c ((4*i:Nat):Int) 4:Nat):Int)
def Te (c:List UInt8) (n:Nat):List (Int × Int):=(List.range n).map fun (i:Nat)=>(((get c ((8+4*i:Nat):Int) 2:Nat):Int),((get c (((8+4*i:Nat):Int)+2) 2:Nat):Int))
def cx (c:List UInt8) (p:Int):qQ:=⟨get c p 4,get c (p+4) 1,get c (p+5) 3,get c (p+8) 4,get c (p+12) 4,get c (p+16) 4,get c (p+20) 4⟩
def Vd (c:List UInt8) (P n:Nat):List qQ:=(List.range n).map fun (i:Nat)=>cx c ((P+24*i:Nat):Int)
def Xq (k n:Nat) (c:List UInt8):Ro:=
 if k=203 then ⟨203,0,0,0,0,0,[],T6 c n,0,[]⟩
 else if k=205 then ⟨205,get c 0 4,0,0,0,0,[],[],get c 4 4,Te c n⟩
 else if k=206 then ⟨206,get c 0 4,0,0,0,0,[],[],get c 4 4,[]⟩
 else if k=200 then ⟨200,get c 0 4,get c 4 8,get c 12 4,get c 16 4,get c 20 4,Vd c 24 n,[],0,[]⟩
 else ⟨201,get c 0 4,0,0,0,0,Vd c 4 n,[],0,[]⟩
structure GI (w w':World) (cs:List Value):Prop where
 Zg:Below w w w'
 z:w'.heap[w.heap.size]?=some (.cells YZ 173 (0,0))
 Y8:w'.heap[w.heap.size+1]?=some (.cells cs.toArray 173 (0,0))
section
variable {w w1 w2:World} {cs:List Value}
theorem GI.below (h:GI w w1 cs) (hb:Below w1 w1 w2):GI w w2 cs:=⟨h.Zg.trans (hb.mono h.Zg.size),(hb.block _ (ZW h.z)).trans h.z,(hb.block _ (ZW h.Y8)).trans h.Y8⟩
theorem GI.set (h:GI w w1 cs) (j:Nat) (u:Value):GI w (w1.setCell ⟨w.heap.size+1,j,none⟩ u) (cs.set j u):=by
 have h2:=VH h.Y8 j u;rw [List.setIfInBounds_toArray] at h2;exact ⟨((Fr.Z7 PN h.Zg).setCell (p:=⟨w.heap.size+1,j,none⟩) (Ws (Ix _)) _).below,(MH w1 ⟨w.heap.size+1,j,none⟩ u w.heap.size (by show w.heap.size≠w.heap.size+1;omega)).trans h.z,h2⟩
theorem GI.grown (h:GI w w1 cs) {e:TypeId} {size:Nat} {v:Value} {n:Nat} {xs:List Value} (ho:w1.ownsRow w e size v n xs) (he:173≠e) (hg:w1.grownBy w2 v.ownBlock):GI w w2 cs:=
 ⟨((Fr.Z7 PN h.Zg).grown hg h.Zg.size (Rm.YL ho)).below,(hg.block _ (ZW h.z) (fun x=>Za ho he _ _ _ x.symm h.z)).trans h.z,(hg.block _ (ZW h.Y8) (fun x=>Za ho he _ _ _ x.symm h.Y8)).trans h.Y8⟩
theorem GI.start (w:World) (k:Nat):GI w (((w.alloc (.cells YZ 173)).alloc (.cells YZ 173)).setRow (w.heap.size+1) (Qe (k:Int) 0 0 0 0 0 none 0 0 none 0 0 0 none 0 0)) (Qe (k:Int) 0 0 0 0 0 none 0 0 none 0 0 0 none 0 0):=by
 have e1:(w.alloc (.cells YZ 173)).heap.size=w.heap.size+1:=by show (w.heap.push _).size=_;rw [OI]
 have hz:((w.alloc (.cells YZ 173)).alloc (.cells YZ 173)).heap[w.heap.size+1]?=some (.cells YZ 173 (0,0)):=by
  have h:=Z8 (w.alloc (.cells YZ 173)) (.cells YZ 173);rw [e1] at h;exact h
 refine ⟨Z3 (ZF (Z' w _) (Zw _) _) (Ix _) _,?_,setRow_heap _ _ _ _ _ _ hz⟩;rw [setRow_other _ _ _ _ Zo,(Z' (w.alloc (.cells YZ 173)) _).block _ (by rw [e1];omega)];exact Z8 w _
end
theorem Ym {P:Program} {ops:Array Oper} {o:Oper} {a:Act} {w:World} {K:Act→World→Prop} {Q:Exit→Act→World→Prop} {E':Prop} (Mb:o.guard=none) {t e:TypeId} {bytes:Nat} (E:Elem P t e 1 bytes) (x:Operand) (ho:o.op = .buildSlice t 1 #[(0,x)])
  (v:Value) (hx:a.eval x=v) (hv:v.cells=#[v])
  (h:K (a.put o.dst (.slice (some ⟨w,0,none⟩) 1 1)) (w.alloc (.cells #[v] e))):if Region.wanted o (yielded ops a.tmps)=true then Oper.wp P o a w K Q else E':=by
 exact Yx59
theorem MX (b:List UInt8) (p:Int):get b p 2<65536:=by
 unfold get;split
 ·exact cj mS
 ·decide
theorem uy (b:List UInt8) (p:Int):get b p 1<256:=by
 unfold get;split
 ·have:=DT ((b.drop p.toNat).take (1:Int).toNat);have h2:((b.drop p.toNat).take (1:Int).toNat).length≤1:=by rw [S4];omega
  exact OS this (PO (Nat.pow_le_pow_right Zd h2) Zd)
 ·decide
theorem uz (b:List UInt8) (p:Int):get b p 3<16777216:=by
 unfold get;split
 ·exact ck mS
 ·decide
theorem Kk {w:World} {B:Nat} {e:TypeId} {size:Nat} {v:Value} {n:Nat} {xs:List Value} (h:w.ownsRow B e size v n xs) {g:Nat} {c:Array Value} {f:Nat × Nat} (hg:w.heap[g]?=some (.cells c 173 f)) (he:173≠e) (o:Nat) (u:Value):(w.setCell ⟨g,o,none⟩ u).ownsRow B e size v n xs:=
 XQ h fun j hj=>by
  by_cases hjg:j=g
  ·subst hjg;exact absurd hg (Za h he _ _ _ hj)
  ·exact MH w ⟨g,o,none⟩ _ j hjg
theorem tJ (v:Value) (n:Nat) (c:List UInt8) (w:World) (hv:X6 w v c) (hn:n≤1000) (h0:n=0) :
  Calls Tryz.prog 117 (Q8 206 (n:Int) v) w fun e w'=>(∃ a,e = .returned a∧S8 w' a (Xq 206 n c))∧Below w w w':=by
 have CR:=Zh (fun (p q:Int) (w':World) (h:Below w w w')=>Rj v c p q w' (hv.below h));obtain ⟨ss,Mz⟩:∃ x:Nat,x=get c 0 4:=⟨_,rfl⟩;have lM:=Zh (fun (w':World) (h:Below w w w')=>CR.o 0 4 w' h);rw [←Mz] at lM;have bss:IntKind.u32.wrap (ss:Int)=(ss:Int):=by have:=WW c 0;rw [NI];omega
 obtain ⟨md,dn⟩:∃ x:Nat,x=get c 4 4:=⟨_,rfl⟩;have Cmd:=Zh (fun (w':World) (h:Below w w w')=>CR.o 4 4 w' h);rw [←dn] at Cmd;have bmd:IntKind.u32.wrap (md:Int)=(md:Int):=by have:=WW c 4;rw [NI];omega
 have HX:Hid (Xq 206 n c=⟨206,(ss:Int),0,0,0,0,[],[],(md:Int),[]⟩):=by
  show _=_;unfold Xq;rw [Mz,dn];simp
 generalize Xq 206 n c=X at *
 clear Mz dn;have H1:Hid (GI w (((w.alloc (.cells YZ 173)).alloc (.cells YZ 173)).setRow (w.heap.size+1) bU) Yz6):=GI.start w 206
 have hz:((w.alloc (.cells YZ 173)).alloc (.cells YZ 173)).heap[w.heap.size+1]?=some (.cells YZ 173 (0,0)):=by
  exact rO
 clear hv;go_enter Tryz.func117,Tryz.ntmps117;go_upto_region 2 with (with_reducible refine ZU 173 (.tmp 7) (.tmp 11) rfl ?_;refine ZV rfl 173 (.tmp 7) (.tmp 11) rfl rfl (w.heap.size+1) bU rfl rfl 173 YZ hz ZB ZB ZB ?_)
 clear hz;generalize ((w.alloc (.cells YZ 173)).alloc (.cells YZ 173)).setRow (w.heap.size+1) bU=w1 at *
 have z1:=cell_of H1.o.Y8 1;simp only [SE,SD,R8] at z1;have f1:=ZO H1.o.Y8 1;go_upto_region 5 with (go_at_call 118;refine (lM.o _ H1.o.Zg).mono ?_;rintro e w' ⟨rfl,rfl⟩)
 have H2:Hid (GI w (w1.setCell ⟨w.heap.size+1,1,none⟩ (.int .u32 (ss:Int))) (Qe 206 (ss:Int) 0 0 0 0 none 0 0 none 0 0 0 none 0 0)):=H1.o.set 1 (.int .u32 (ss:Int));clear z1 f1;generalize w1.setCell ⟨w.heap.size+1,1,none⟩ (.int .u32 (ss:Int))=w2 at *
 have z2:=cell_of H2.o.Y8 8;simp only [SE,SD,R8] at z2;have f2:=ZO H2.o.Y8 8;go_upto_region 14 with (go_at_call 118;refine (Cmd.o _ H2.o.Zg).mono ?_;rintro e w' ⟨rfl,rfl⟩)
 have H3:Hid (GI w (w2.setCell ⟨w.heap.size+1,8,none⟩ (.int .u32 (md:Int))) (Qe 206 (ss:Int) 0 0 0 0 none 0 0 none 0 0 (md:Int) none 0 0)):=H2.o.set 8 (.int .u32 (md:Int));clear z2 f2;generalize w2.setCell ⟨w.heap.size+1,8,none⟩ (.int .u32 (md:Int))=w3 at *
 subst h0;go_wp2_with fail
 go_loopw [9] (fun s9 w'=>s9 = .int .i64 0∧w'=w3) (fun _ _=>0)
 case atStart=>exact ⟨rfl,rfl⟩
 case round=>
  obtain ⟨rfl,rfl⟩:=hrel;have TZ:=H3.o.z;have UF:=H3.o.Y8;go_wp2_with (first|(with_reducible refine Zj 173 (.tmp 7) rfl ?_;refine Zf rfl 173 (.tmp 7) rfl (w.heap.size+1) rfl 173 (Qe 206 (ss:Int) 0 0 0 0 none 0 0 none 0 0 (md:Int) none 0 0) (0,0) _ UF Tryz.underlying173 rfl ZB ?_)|(with_reducible refine ZU 173 (.tmp 6) (.tmp 125) rfl ?_;refine ZV rfl 173 (.tmp 6) (.tmp 125) rfl rfl w.heap.size (Qe 206 (ss:Int) 0 0 0 0 none 0 0 none 0 0 (md:Int) none 0 0) rfl rfl 173 YZ TZ ZB ZB ZB ?_))
  refine VD (v:= .agg (Qe 206 (ss:Int) 0 0 0 0 none 0 0 none 0 0 (md:Int) none 0 0)) ?_ rfl ?_
  ·exact results_cell_row Zr _ _ w.heap.size 173 (Qe 206 (ss:Int) 0 0 0 0 none 0 0 none 0 0 (md:Int) none 0 0) (0,0) _ Zr (setRow_heap _ _ _ _ _ _ TZ) Tryz.underlying173 rfl ZB
  refine ⟨⟨_,rfl,?_⟩,Z3 H3.o.Zg (Zw _) _⟩;rw [HX.o];have hr:Uf wr ⟨⟨206,(ss:Int),0,0,0,0,[],[],(md:Int),[]⟩,.slice none 0 0,.slice none 0 0,.slice none 0 0⟩:=⟨Row.nil _ _,Row.nil _ _,Row.nil _ _⟩;have M0:=Uf.setRow hr TZ (Qe 206 (ss:Int) 0 0 0 0 none 0 0 none 0 0 (md:Int) none 0 0);exact ⟨_,_,_,rfl,M0.b,M0.g,M0.p⟩
end Go.Proofs.By
