/- Part of a proof. -/
import Derived.Test.YtpdjhlcbcomdkaaGreatDoorW27
set_option linter.unusedVariables false
set_option linter.unusedSimpArgs false
set_option maxRecDepth 100000
set_option maxHeartbeats 16000000
open Go Go.Q Go.Qr
namespace Go.Proofs.By
open Go.RowKit Go.Proofs.Heap Go.Proofs
open Go.Proofs.Rm (below_drewN)
structure VB (w:World) (V k:Nat) (ov av mv lv:Value) (L:List VG) (x:Zq) (wv cv qv:Value):Prop where
 book:w.heap[k]?=some (.cells #[ov,av,mv,lv] 116 (0,0))
 ops:Xe w ov L
 XE:Row w 35 av L.length ((XA L L.length).flatMap WE)
 Lz:∃ M:List TW,Row w 97 mv M.length (M.flatMap Xr)∧(∀ y∈M,Vt w y.p y.cv y.ev y.pv)∧M.map (fun y=>(y.p,y.d))=OS L L.length
 view:w.heap[V]?=some (.cells (Q5 (some ⟨k,0,none⟩) x.peer x.source x.Kf x.fin wv cv qv) 164 (0,0))
structure fX (w:World) (wv cv qv:Value) (j:Nat) (s:VS):Prop where
 want:∃ g o n c,wv = .slice (some ⟨g,o,none⟩) n c∧j<n∧w.cell? ⟨g,o+j,none⟩=some (.int .i64 s.want)
 cur:∃ g o n c,cv = .slice (some ⟨g,o,none⟩) n c∧j<n∧w.cell? ⟨g,o+j,none⟩=some (.int .i64 s.cur)
 quiet:∃ g o n c,qv = .slice (some ⟨g,o,none⟩) n c∧j<n∧w.cell? ⟨g,o+j,none⟩=some (.bool s.quiet)
def WG (l:List Int):List Value:=l.map fun z=> .int .i64 z
def U_ (l:List Bool):List Value:=l.map fun z=> .bool z
structure Og (w:World) (wv cv qv:Value) (SS:List VS):Prop where
 want:Row w 3 wv SS.length (WG (SS.map VS.want))
 cur:Row w 3 cv SS.length (WG (SS.map VS.cur))
 quiet:Row w 4 qv SS.length (U_ (SS.map VS.quiet))
theorem Hp {w:World} {e:TypeId} {v:Value} {n:Nat} {xs:List Value} (h:Row w e v n xs) {j:Nat} {u:Value} (hu:xs[j]?=some u) (hj:j<n):∃ g o n' c,v = .slice (some ⟨g,o,none⟩) n' c∧j<n'∧w.cell? ⟨g,o+j,none⟩=some u:=by
 have hl:j<xs.length:=(List.getElem?_eq_some_iff.1 hu).1
 obtain ⟨g,off,cap,h1,h2,h3,h4,h5⟩:=Row.open h Zo
 exact ⟨g,off,n,cap,h1,hj,(h5 j hl).trans hu⟩
theorem Og.at {w:World} {wv cv qv:Value} {SS:List VS} (h:Og w wv cv qv SS) {j:Nat} {s:VS} (hs:SS[j]?=some s):fX w wv cv qv j s:=by
 have hl:j<SS.length:=(List.getElem?_eq_some_iff.1 hs).1
 exact ⟨Hp h.want (by simp [WG,hs]) hl,Hp h.cur (by simp [WG,hs]) hl,Hp h.quiet (by simp [U_,hs]) hl⟩
section
variable {w w':World} {V k:Nat} {ov av mv lv:Value} {L:List VG} {x:Zq} {wv cv qv:Value}
theorem VB.below (h:VB w V k ov av mv lv L x wv cv qv) (hb:Below w w w'):VB w' V k ov av mv lv L x wv cv qv:=by
 obtain ⟨M,m1,m0,m2⟩:=h.Lz
 exact ⟨(hb.block _ (ZV h.book)).trans h.book,h.ops.below hb,Row.below h.XE hb,⟨M,Row.below m1 hb,fun y hy=>(m0 y hy).below hb,m2⟩,(hb.block _ (ZV h.view)).trans h.view⟩
theorem Og.below {SS:List VS} (h:Og w wv cv qv SS) (hb:Below w w w'):Og w' wv cv qv SS:=⟨Row.below h.want hb,Row.below h.cur hb,Row.below h.quiet hb⟩
theorem Yi {g o:Nat} {u:Value} (h:w.cell? ⟨g,o,none⟩=some u) (hb:Below w w w'):w'.cell? ⟨g,o,none⟩=some u:=by
 have hg:g<w.heap.size:=by
  rcases Nat.lt_or_ge g w.heap.size with h1|h1
  ·exact h1
  ·simp only [World.cell?,Fm h1] at h;cases h
 exact (hb.cell (p:=⟨g,o,none⟩) hg).trans h
theorem fX.below {j:Nat} {s:VS} (h:fX w wv cv qv j s) (hb:Below w w w'):fX w' wv cv qv j s:=by
 obtain ⟨⟨g1,o1,n1,c1,a1,b1,d1⟩,⟨g2,o2,n2,c2,a2,b2,d2⟩,⟨g3,o3,n3,c3,a3,b3,d3⟩⟩:=h
 exact ⟨⟨g1,o1,n1,c1,a1,b1,Yi d1 hb⟩,⟨g2,o2,n2,c2,a2,b2,Yi d2 hb⟩,⟨g3,o3,n3,c3,a3,b3,Yi d3 hb⟩⟩
theorem qo (h:Xe w ov L) {j:Nat} (hj:j<L.length):∃ g o c nm a1 n1 c1 a2 n2 c2,ov = .slice (some ⟨g,o,none⟩) L.length c ∧
  w.rangeAt g (o+j*7) (Qa (opAt L j).kind (opAt L j).peer (opAt L j).source (opAt L j).ZF nm a1 n1 c1 a2 n2 c2):=by
 obtain ⟨va,vc,rfl,-,-⟩:=h.form
 obtain ⟨g,o,cap,e1,-,-,-,Vc⟩:=Rm.DA (fun y:VG=>Rm.Xm y.x) 7 (fun _=>rfl) Zo h.row Zo
 cases e1
 have hy:L[j]?=some L[j]:=U7 hj
 have Vc:=Vc j _ hy
 have e2:opAt L j=L[j].x.o:=by unfold opAt;rw [hy]
 rw [e2]
 exact ⟨g,o,_,_,_,_,_,_,_,_,rfl,fun m v hm=>(Vc m nI).trans hm⟩
theorem uL {n:Nat} (h:Row w 35 av n ((XA L n).flatMap WE)) {j:Nat} (hj:j<n):∃ g o c,av = .slice (some ⟨g,o,none⟩) n c ∧
  w.rangeAt g (o+j*4) (Qe (ZX L j).XE.kind (ZX L j).XE.source (ZX L j).XE.Oj (ZX L j).XE.err):=by
 obtain ⟨a,c,rfl⟩:=Row.form h
 obtain ⟨g,o,e,h2⟩:=Tp WE 4 (fun _=>rfl) h (by rw [Xa];omega)
 cases e
 have hx:(XA L n)[j]?=some (ZX L j).XE:=by unfold XA;rw [List.getElem?_map,List.getElem?_range hj];rfl
 exact ⟨g,o,c,rfl,fun m v hm=>(h2 j _ hx m nI).trans hm⟩
theorem Ks (h:VB w V k ov av mv lv L x wv cv qv) {j:Nat} (hj:j<L.length):∃ g o c a1 n1 c1 a2 n2 c2 a3 n3 c3,mv = .slice (some ⟨g,o,none⟩) L.length c ∧
  w.rangeAt g (o+j*15) (VN (ZX L j).XT (ZX L j).Wo (.slice a1 n1 c1) (.slice a2 n2 c2) (.slice a3 n3 c3)):=by
 obtain ⟨M,m1,m0,m2⟩:=h.Lz
 have hl:M.length=L.length:=by have h1:=congrArg List.length m2;rwa [Tx,Hb] at h1
 rw [hl] at m1
 obtain ⟨a,c,rfl⟩:=Row.form m1
 obtain ⟨g,o,e,h2⟩:=Tp Xr 15 (fun _=>rfl) m1 Zo
 cases e
 have hj':j<M.length:=by omega
 have hx:M[j]?=some M[j]:=U7 hj'
 have he:(M[j].p,M[j].d)=((ZX L j).XT,(ZX L j).Wo):=by
  have h3:=congrArg (fun l=>l[j]?) m2
  try dsimp only at h3
  rw [List.getElem?_map,hx] at h3
  unfold OS at h3
  rw [List.getElem?_map,List.getElem?_range hj] at h3
  exact Option.some.inj h3
 injection he with e1 e2
 have Vc:=h2 j _ hx
 have hp:=m0 M[j] (Ot hj')
 generalize M[j]=y at *
 obtain ⟨p,d,dx,ev',pv'⟩:=y
 obtain ⟨⟨a1,c1,q1⟩,⟨a2,c2,q2⟩,⟨a3,c3,q3⟩⟩:=hp.form
 dsimp only at q1 q2 q3 e1 e2
 subst q1;subst q2;subst q3;subst e1;subst e2
 exact ⟨g,o,c,a1,_,c1,a2,_,c2,a3,_,c3,rfl,fun m v hm=>(Vc m (by have h:=(List.getElem?_eq_some_iff.1 hm).1;simpa [VN] using h)).trans hm⟩
end
theorem tX {w:World} {g o:Nat} {xs ys:List Value} (h:w.rangeAt g o xs) (i:Nat) (hy:∀ m v,ys[m]?=some v→xs[i+m]?=some v):w.rangeAt g (o+i) ys:=fun m v hm=>by rw [Nat.add_assoc];exact h (i+m) v (hy m v hm)
theorem O8 (V:Nat) (p s b f:Int) (wv cv qv bv:Value) (w:World) (h:w.heap[V]?=some (.cells #[bv,.int .i64 p,.int .i64 s,.int .i64 b,.int .i64 f,wv,cv,qv] 164 (0,0))) (at':Int) :
  Calls Tryz.prog 115 (Qj (some ⟨V,0,none⟩) at') w fun e w'=>e = .returned (.bool (OP ⟨p,s,b,f⟩ at'))∧w=w':=by
 have c3:w.cell? ⟨V,3,none⟩=some (.int .i64 b):=Zc h 3 rfl
 have c4:w.cell? ⟨V,4,none⟩=some (.int .i64 f):=Zc h 4 rfl
 have HX:Hid (OP ⟨p,s,b,f⟩ at'=(decide (b<at') && decide (at'<f))):=rfl
 generalize OP ⟨p,s,b,f⟩ at'=X at *
 clear h
 by_cases h1:b<at'
 ·have d1:decide (b<at')=true:=We h1
  go_enter Tryz.func115,Tryz.ntmps115
  go_wp2_with fail
  go_ret
  exact ⟨by rw [HX.o,d1];rfl,rfl⟩
 ·have d1:decide (b<at')=false:=WB h1
  go_enter Tryz.func115,Tryz.ntmps115
  go_wp2_with fail
  go_ret
  exact ⟨by rw [HX.o,d1];rfl,rfl⟩
open Go.Proofs.Mem
theorem UR {P:Program} {fn:Func} {p u:Tmp} {ty:TypeId} (h:fn.results=#[.cell p ty,.tmp u]) (tmps:Array Value) (w:World) (g:Nat) (t:TypeId) (cs:Array Value) (fr:Nat × Nat) (d:TypeDesc)
  (hp:tmps.getD p undef = .pointer (some ⟨g,0,none⟩)) (hg:w.heap[g]?=some (.cells cs t fr))
  (hu:P.underlying ty=some d) (hd:(match d with | .struct _ | .array _ _=>true|_=>false)=true) (hi:(P.info? ty).map (·.size)=some cs.size) :
  (results fn tmps).run P w = .ok (.tuple #[.agg cs,tmps.getD u undef]) w:=by
 exact Yt6
theorem oC {x:Nat} (h:x<256):(RY (x % 4) (decide (128≤x)) (decide (x / 64 % 2=1))=x)↔x / 4 % 16=0:=by
 unfold RY
 by_cases h1:128≤x <;> by_cases h2:x / 64 % 2=1 <;> simp [h1,h2] <;> omega
theorem um {b:List UInt8} (h:4≤b.length):b.take 4=[UInt8.ofNat (at8 b 0),UInt8.ofNat (at8 b 1),UInt8.ofNat (at8 b 2),UInt8.ofNat (at8 b 3)]:=by
 match b,h with
 | x0 :: x1 :: x2 :: x3 :: t,_=>simp [at8]
theorem oK {b:List UInt8} (h:4≤b.length):get b 2 2=at8 b 2*256+at8 b 3:=by
 match b,h with
 | x0 :: x1 :: x2 :: x3 :: t,_=>
  have hw:within (x0 :: x1 :: x2 :: x3 :: t).length 2 2=true:=within_iff.2 ⟨by decide,by decide,by decide,by simp;omega⟩
  unfold get
  rw [ZQ hw]
  simp [be,at8]
theorem Gw {w:World} {v:Value} {l:List UInt8} (h:X9 w v l) (hl:0<l.length):(convert 30 9 v).run Tryz.prog w = .ok (.string (str l)) w:=by
 obtain ⟨g,off,cap,e,_,_,hc⟩:=Cg h hl
 subst e
 exact run_convert_bytes_back w _ _ 5 ⟨g,off,none⟩ cap l Tryz.underlying30 Tryz.underlying5 Tryz.underlying9 (fun j hj=>by
  have e:(⟨g,off,none⟩:Addr).add j=⟨g,off+j,none⟩:=by unfold Addr.add;split <;> simp_all
  rw [e];exact hc j hj)
theorem Dt (v:Value) (b:List UInt8) (w:World) (hv:X9 w v b) :
  Calls Tryz.prog 95 #[v] w fun e w'=>e = .returned (.tuple (Qo (Qc (YB b).1.ZF (YB b).1.key (YB b).1.start (YB b).1.frame) (YB b).2))∧Below w w w':=by
 have HV:Hid (∀ w',Below w w w'→X9 w' v b):=fun w' h=>hv.below h
 have HE:Hid (YB b=if b.length<4 then (TG,2) else if at8 b 0 / 4 % 16≠0∨at8 b 0 % 4=3∨at8 b 1≠90 then (TG,1) else (⟨(at8 b 0 % 4:Nat),decide (128≤at8 b 0),decide (at8 b 0 / 64 % 2=1),get b 2 2⟩,0)):=rfl
 obtain ⟨a,c,rfl,Sg,wR⟩:∃ a c,v = .slice a b.length c∧b.length≤c∧c≤maxLen:=by
  obtain ⟨a,c,h1,h2,h3,_⟩:=id hv
  exact ⟨a,c,h1,h2,h3⟩
 clear hv
 have UF:=Z' w (.cells (Qc 0 false false 0) 81)
 have hz:=Z7 w (.cells (Qc 0 false false 0) 81)
 generalize hX:YB b=X at *
 by_cases h1:b.length<4
 ·obtain rfl:X=(TG,2):=by rw [HE.o,ZQ h1]
  clear HE HV hX
  have l1:decide ((b.length:Int)<4)=true:=We Zo
  go_enter Tryz.func95,Tryz.ntmps95
  go_wp2
  exact VJ (v:= .tuple (Qo (Qc 0 false false 0) 2)) (by simp [results,Tryz.results95,go_sem]) rfl ⟨rfl,UF⟩
 obtain ⟨g,off,cap,e1,_,_,hc⟩:=R7 (HV.o w (YH _ _)) Zo
 cases e1
 have HC:=Zh hc
 have r0:=Xo b 0
 have r1:=Xo b 1
 have r2:=Xo b 2
 have r3:=Xo b 3
 have l1:decide ((b.length:Int)<4)=false:=WB Zo
 have i0:(0:Int)<(b.length:Int):=by omega
 have i2:(2:Int)<(b.length:Int):=by omega
 have i3:(3:Int)<(b.length:Int):=by omega
 have o8:get b 2 2=at8 b 2*256+at8 b 3:=oK Zo
 obtain ⟨vs,Uz,-,GX⟩:=Sy (P:=Tryz.prog) VL (some ⟨g,off,none⟩) b.length c 4 Zo
 have hs4:∀ w,(Instr.slice 30 (.slice (some ⟨g,off,none⟩) b.length c) none (some (.int .i64 4)) none).run Tryz.prog w = .ok (.slice vs 4 c) w:=Uz
 have OE:b.take 4=[UInt8.ofNat (at8 b 0),UInt8.ofNat (at8 b 1),UInt8.ofNat (at8 b 2),UInt8.ofNat (at8 b 3)]:=um Zo
 have Uc:Hid (∀ w',Below w w w'→X9 w' (.slice vs 4 c) (b.take 4)):=fun w' h=>by
  have h2:=GX w' (RX b) Zo (by rw [Xl,Nat.mul_one]) (HV.o w' h)
  rw [Nat.mul_one,Pe] at h2
  have h3:(b.take 4).length=4:=by rw [Tg];omega
  show XU w' _ _ _
  rw [h3];exact h2
 rw [OE] at Uc
 have c0:=hc 0 Zo
 have c2:=hc 2 Zo
 have c3:=hc 3 Zo
 rw [gX] at c0
 rw [Z4 h1,o8] at HE
 clear o8 Uz GX hc HC hX HV OE
 generalize at8 b 0=x0 at *
 generalize at8 b 1=x1 at *
 generalize at8 b 2=x2 at *
 generalize at8 b 3=x3 at *
 have q0:IntKind.u16.wrap ((x2:Int)*256)=(x2:Int)*256:=by rw [IntKind.wrap_u16];omega
 have q2:IntKind.u16.wrap (x2:Int)=(x2:Int):=by rw [IntKind.wrap_u16];omega
 have q3:IntKind.u16.wrap (x3:Int)=(x3:Int):=by rw [IntKind.wrap_u16];omega
 obtain ⟨fr,Wx⟩:∃ f:Nat,f=x2*256+x3:=⟨_,rfl⟩
 obtain ⟨ly,ml⟩:∃ l:Nat,l=x0 % 4:=⟨_,rfl⟩
 obtain ⟨ke,Sh⟩:∃ k:Bool,k=decide (128≤x0):=⟨_,rfl⟩
 obtain ⟨st,yZ⟩:∃ k:Bool,k=decide (x0 / 64 % 2=1):=⟨_,rfl⟩
 have p1:(x0:Int).tmod 4=(ly:Int):=by rw [Int.tmod_eq_emod_of_nonneg Zo];omega
 have p1b:IntKind.i64.wrap (ly:Int)=(ly:Int):=Ty _ Zo
 have p2:decide ((128:Int)≤(x0:Int))=ke:=by rw [Sh,Bool.eq_iff_iff,Oh,Oh];omega
 have p2b:decide (128≤x0)=ke:=Sh.symm
 obtain ⟨y,hy⟩:∃ y:Nat,y=x0 / 64:=⟨_,rfl⟩
 have p3:IntKind.u8.wrap ((x0:Int) / 64)=(y:Int):=by rw [IntKind.wrap_u8];omega
 have p4:((y:Int).tmod 2 == 1)=st:=by rw [yZ,Bool.eq_iff_iff,beq_iff_eq,Oh,Int.tmod_eq_emod_of_nonneg Zo];omega
 have p6:IntKind.u16.wrap (fr:Int)=(fr:Int):=by rw [IntKind.wrap_u16];omega
 have p5:(x2:Int)*256+(x3:Int)=(fr:Int):=by omega
 rw [←Wx] at HE
 rw [←ml,←Sh,←yZ] at HE
 have HL:Hid (fr=x2*256+x3∧ly=x0 % 4∧ke=decide (128≤x0)∧st=decide (x0 / 64 % 2=1)):=⟨Wx,ml,Sh,yZ⟩
 have hly4:ly<4:=by omega
 have hfr6:fr<65536:=by omega
 clear Wx ml Sh yZ hy
 have Zz:Hid (∀ w',Below w w w'→w'.cell? ⟨g,off,none⟩=some (.int .u8 (x0:Int))∧w'.cell? ⟨g,off+2,none⟩=some (.int .u8 (x2:Int))∧w'.cell? ⟨g,off+3,none⟩=some (.int .u8 (x3:Int))):=fun w' h=>⟨Yi c0 h,Yi c2 h,Yi c3 h⟩
 have n0:0<b.length:=by omega
 have n1:¬b.length=0:=by omega
 have n2:2<b.length:=by omega
 have n3:3<b.length:=by omega
 have n4:4≤b.length:=by omega
 clear h1
 generalize b.length=N at *
 have DU:=Zh UF
 have HZ1:=Zh hz
 clear c0 c2 c3 UF hz
 go_enter Tryz.func95,Tryz.ntmps95
 go_upto_region 3 with fail
 generalize w.alloc (.cells (Qc 0 false false 0) 81)=w1 at *
 have nA:Hid (∀ w',Below w1 w1 w'→w'.cell? ⟨g,off,none⟩=some (.int .u8 (x0:Int))∧w'.cell? ⟨g,off+2,none⟩=some (.int .u8 (x2:Int))∧w'.cell? ⟨g,off+3,none⟩=some (.int .u8 (x3:Int))):=fun w' h=>Zz.o _ (DU.o.trans (h.mono DU.o.size))
 refine Sd ?_
 refine Z_.Zu (d:=27) (S:=(fun w'=>w'.cell? ⟨g,off,none⟩=some (.int .u8 (x0:Int))∧w'.cell? ⟨g,off+2,none⟩=some (.int .u8 (x2:Int))∧w'.cell? ⟨g,off+3,none⟩=some (.int .u8 (x3:Int)))) Zk ?_ (fun X_=>?_)
 ·(try dsimp only)
  exact nA.o _ (YH _ _).drew
 refine YP 0 (h:=YP 1 (h:=YP 5 (h:=YP 6 (h:=YP 9 (h:=YP 10 (h:=YP 15 (h:=YP 16 (h:=YP 20 (h:=YP 21 (h:=YK 2 (h:=YP 3 (h:=YP 4 (h:=YK 7 (h:=YP 8 (h:=YK 11 (h:=YP 12 (h:=YP 13 (h:=YP 14 (h:=YK 17 (h:=YP 18 (h:=YP 19 (h:=YK 22 (h:=YP 23 (h:=YP 24 (h:=YP 25 (h:=?_))))))))))))))))))))))))))
 refine YR 26 (h:=fun K hK=>?_)
 go_simp
 refine Z_.Y_ hK _ _ ?_ (fun XC=>?_)
 ·(try dsimp only)
  exact nA.o _ (by first|exact (YH _ _).drew|exact ZC (YH _ _).drew (Zw _) _)
 clear hK K
 try simp only [Z_.pt]
 refine YR 27 (h:=fun K hK=>?_)
 go_simp
 refine Z_.Ye hK _ _ Zk ?_
 clear hK K
 try simp only [Z_.pt]
 refine Z_.Yr Zk ?_ _
 refine QY ?_
 have HK:Hid ((((w1.alloc (.cells (Qc (ly:Int) ke st (fr:Int)) 81)).drew)).heap[w1.heap.size]?=some (.cells (Qc (ly:Int) ke st (fr:Int)) 81 (0,0))):=Z7 w1 _
 have HB13:Hid (Below w1 w1 (((w1.alloc (.cells (Qc (ly:Int) ke st (fr:Int)) 81)).drew))):=(Z' w1 _).drew
 have mb:=Zh ((HB13.o.block _ (ZV HZ1.o)).trans HZ1.o)
 have VT:Hid (Below w w (((w1.alloc (.cells (Qc (ly:Int) ke st (fr:Int)) 81)).drew))):=(DU.o.trans ((Z' w1 _).mono DU.o.size)).drew
 clear Zz nA X_ q0 q2 q3 i0 i2 i3 n0 n1 n2 n3 p1 p1b p2 p2b p3 p4 p5 p6 l1
 go_upto_region 4 with fail
 generalize ((w1.alloc (.cells (Qc (ly:Int) ke st (fr:Int)) 81)).drew)=w3 at *
 generalize w1.heap.size=K at *
 have RV:Hid (∀ w',Below w3 w3 w'→w'.rangeAt K 0 (Qc (ly:Int) ke st (fr:Int))∧Below w3 w3 w'):=fun w' hb=>⟨fun m v hm=>by rw [QP,cell_of ((hb.block _ (ZV HK.o)).trans HK.o) m];simpa using hm,hb⟩
 have HCV:Hid (∀ wS,Below w3 w3 wS→(convert 30 9 (.slice vs 4 c)).run Tryz.prog wS = .ok (.string (str [UInt8.ofNat x0,UInt8.ofNat x1,UInt8.ofNat x2,UInt8.ofNat x3])) wS):=fun wS h=>Gw (Uc.o wS (VT.o.trans (h.mono VT.o.size))) (Nat.succ_pos _)
 have UL:Hid (∀ w' d,Below w3 w3 w'→w'.heap[w.heap.size]?=some (.cells (Qc 0 false false 0) 81 (0,0))∧Below w w (w'.setRow w.heap.size d)):=fun w' d h=>⟨(h.block _ (ZV mb.o)).trans mb.o,Z3 (VT.o.trans (h.mono VT.o.size)) (Zw _) _⟩
 have HAB:Hid ((¬ly=3)→([UInt8.ofNat (RY ly ke st),90,UInt8.ofNat (fr / 256),UInt8.ofNat (fr % 256)]=[UInt8.ofNat x0,UInt8.ofNat x1,UInt8.ofNat x2,UInt8.ofNat x3]↔x0 / 4 % 16=0∧x1=90)):=fun h3=>by
  obtain ⟨e1,e2,e3,e4⟩:=HL.o
  have hd:=oC r0
  rw [←e2,←e3,←e4] at hd
  have rz:RY ly ke st<256:=by unfold RY;split <;> split <;> omega
  have i1:∀ a b:Nat,a<256→b<256→(UInt8.ofNat a=UInt8.ofNat b↔a=b):=fun a b ha hb=>⟨fun h=>by have h:=congrArg UInt8.toNat h;rw [UInt8.toNat_ofNat',UInt8.toNat_ofNat'] at h;omega,fun h=>by rw [h]⟩
  have f1:fr / 256=x2:=by omega
  have f2:fr % 256=x3:=by omega
  rw [f1,f2]
  simp only [List.cons.injEq,and_true]
  rw [i1 _ _ rz r0,hd,show (90:UInt8)=UInt8.ofNat 90 from rfl,i1 _ _ Zd r1]
  exact ⟨fun h=>⟨h.1,h.2.symm⟩,fun h=>⟨h.1,h.2.symm⟩⟩
 have hse:(str [UInt8.ofNat x0,UInt8.ofNat x1,UInt8.ofNat x2,UInt8.ofNat x3]).toList.isEmpty=false:=by rw [Rm.IC];rfl
 generalize [UInt8.ofNat x0,UInt8.ofNat x1,UInt8.ofNat x2,UInt8.ofNat x3]=lb at *
 clear Uc
 by_cases h3:ly=3
 ·have HX:Hid (X=(TG,1)):=by show _=_;rw [HE.o,ZQ (Wi (Ww h3))]
  have CP:=Zh (B6 (ly:Int) (fr:Int) ke st w3.drew Zo)
  clear h3 HAB HE HL
  have cv0:∀ w:World,(convert 30 9 (.slice none 0 0)).run Tryz.prog w = .ok (.string ⟨#[]⟩) w:=fun w=>by kernel_rfl
  refine Sd ?_
  refine wp_region_held_drew (S:=(fun w'=>w'.rangeAt K 0 (Qc (ly:Int) ke st (fr:Int))∧Below w3 w3 w')) Zk ?_ (fun X_=>?_)
  ·exact RV.o _ (YH _ _).drew
  refine YA 3 (h:=YA 4 (h:=?_))
  refine YA 0 (hy:=by intro wS TE;refine (Xw 81 (.tmp 4) ?_ K 0 ?_ (Qc (ly:Int) ke st (fr:Int)) _ TE.1 Tryz.underlying81 rfl Zk).trans ?_;all_goals rfl) (h:=?_)
  refine YA 5 (hy:=by intro wS TE;have F6:=HCV.o wS TE.2;(try dsimp only at TE);(try simp only [Z_.pt]);go_simp;try with_reducible rfl) (h:=?_)
  refine Si 1 (h:=fun K hK=>?_)
  go_simp
  refine CP.o.mono ?_
  rintro e wA ⟨rfl,ik⟩
  have BK:=Zh ((YH w3.heap.size w3).drew.trans ik)
  clear ik
  go_wp2_with fail
  refine hK.out _ _ ?_ (fun XC=>?_)
  ·exact RV.o _ BK.o
  clear hK K
  try simp only [Z_.pt]
  refine Si 2 (h:=fun K hK=>?_)
  go_simp
  refine hK.out _ _ ?_ (fun VE=>?_)
  ·exact RV.o _ BK.o
  clear hK K
  try simp only [Z_.pt]
  refine YA 6 (h:=?_)
  refine YHE (h:=?_)
  refine QY ?_
  obtain ⟨Ub,kN⟩:=UL.o wA (Qc 0 false false 0) BK.o
  go_wp2_with ((with_reducible refine ZU 81 (.tmp 2) (.tmp 42) rfl ?_);refine Zs Ub ?_)
  refine VJ (v:= .tuple (Qo (Qc 0 false false 0) 1)) ?_ rfl ?_
  ·exact UR (p:=2) (u:=3) Zr _ _ w.heap.size 81 (Qc 0 false false 0) (0,0) _ Zr (setRow_heap _ _ _ _ _ _ Ub) Tryz.underlying81 rfl Zk
  rw [HX.o]
  exact ⟨rfl,kN⟩
 have N8:=HAB.o h3
 have hL4:[UInt8.ofNat (RY ly ke st),90,UInt8.ofNat (fr / 256),UInt8.ofNat (fr % 256)].length=4:=rfl
 have CP:=Zh (zH ly fr ke st w3.drew Zo hfr6)
 generalize [UInt8.ofNat (RY ly ke st),90,UInt8.ofNat (fr / 256),UInt8.ofNat (fr % 256)]=la at *
 clear hse HAB HL
 by_cases hq:x0 / 4 % 16≠0∨x1≠90
 ·have HX:Hid (X=(TG,1)):=by show _=_;rw [HE.o,ZQ Zo]
  have WM:¬la=lb:=by rw [N8];omega
  have nq:((str la).toList == (str lb).toList)=false:=by rw [WQ,ByteArray.toList_eq,ByteArray.toList_eq];exact WM
  clear h3 HE N8 hq WM
  refine Sd ?_
  refine wp_region_held_drew (S:=(fun w'=>w'.rangeAt K 0 (Qc (ly:Int) ke st (fr:Int))∧Below w3 w3 w')) Zk ?_ (fun X_=>?_)
  ·exact RV.o _ (YH _ _).drew
  refine YA 3 (h:=YA 4 (h:=?_))
  refine YA 0 (hy:=by intro wS TE;refine (Xw 81 (.tmp 4) ?_ K 0 ?_ (Qc (ly:Int) ke st (fr:Int)) _ TE.1 Tryz.underlying81 rfl Zk).trans ?_;all_goals rfl) (h:=?_)
  refine YA 5 (hy:=by intro wS TE;have F6:=HCV.o wS TE.2;(try dsimp only at TE);(try simp only [Z_.pt]);go_simp;try with_reducible rfl) (h:=?_)
  refine Si 1 (h:=fun K hK=>?_)
  go_simp
  refine CP.o.mono ?_
  rintro e wA ⟨⟨pv,rfl,tA⟩,ik⟩
  have BK:=Zh ((YH w3.heap.size w3).drew.trans ik)
  have cv2:=Gw (w:=wA) (v:=pv) (l:=la) (by show XU _ _ _ _;rw [hL4];exact tA.r) (by rw [hL4];decide)
  clear ik tA
  go_wp2_with fail
  refine hK.out _ _ ?_ (fun XC=>?_)
  ·exact RV.o _ BK.o
  clear hK K
  try simp only [Z_.pt]
  refine Si 2 (h:=fun K hK=>?_)
  go_simp
  refine hK.out _ _ ?_ (fun VE=>?_)
  ·exact RV.o _ BK.o
  clear hK K
  try simp only [Z_.pt]
  refine YA 6 (h:=?_)
  refine YHE (h:=?_)
  refine QY ?_
  obtain ⟨Ub,kN⟩:=UL.o wA (Qc 0 false false 0) BK.o
  go_wp2_with ((with_reducible refine ZU 81 (.tmp 2) (.tmp 42) rfl ?_);refine Zs Ub ?_)
  refine VJ (v:= .tuple (Qo (Qc 0 false false 0) 1)) ?_ rfl ?_
  ·exact UR (p:=2) (u:=3) Zr _ _ w.heap.size 81 (Qc 0 false false 0) (0,0) _ Zr (setRow_heap _ _ _ _ _ _ Ub) Tryz.underlying81 rfl Zk
  rw [HX.o]
  exact ⟨rfl,kN⟩
 ·have HX:Hid (X=(⟨(ly:Nat),ke,st,(fr:Nat)⟩,0)):=by show _=_;rw [HE.o,Z4 Zo]
  have hab2:la=lb:=N8.2 Zo
  subst hab2
  clear h3 HE N8 hq
  refine Sd ?_
  refine wp_region_held_drew (S:=(fun w'=>w'.rangeAt K 0 (Qc (ly:Int) ke st (fr:Int))∧Below w3 w3 w')) Zk ?_ (fun X_=>?_)
  ·exact RV.o _ (YH _ _).drew
  refine YA 3 (h:=YA 4 (h:=?_))
  refine YA 0 (hy:=by intro wS TE;refine (Xw 81 (.tmp 4) ?_ K 0 ?_ (Qc (ly:Int) ke st (fr:Int)) _ TE.1 Tryz.underlying81 rfl Zk).trans ?_;all_goals rfl) (h:=?_)
  refine YA 5 (hy:=by intro wS TE;have F6:=HCV.o wS TE.2;(try dsimp only at TE);(try simp only [Z_.pt]);go_simp;try with_reducible rfl) (h:=?_)
  refine Si 1 (h:=fun K hK=>?_)
  go_simp
  refine CP.o.mono ?_
  rintro e wA ⟨⟨pv,rfl,tA⟩,ik⟩
  have BK:=Zh ((YH w3.heap.size w3).drew.trans ik)
  have cv2:=Gw (w:=wA) (v:=pv) (l:=la) (by show XU _ _ _ _;rw [hL4];exact tA.r) (by rw [hL4];decide)
  clear ik tA
  go_wp2_with fail
  refine hK.out _ _ ?_ (fun XC=>?_)
  ·exact RV.o _ BK.o
  clear hK K
  try simp only [Z_.pt]
  refine Si 2 (h:=fun K hK=>?_)
  go_simp
  refine hK.out _ _ ?_ (fun VE=>?_)
  ·exact RV.o _ BK.o
  clear hK K
  try simp only [Z_.pt]
  refine YA 6 (h:=?_)
  refine YHE (h:=?_)
  refine QY ?_
  obtain ⟨Ub,kN⟩:=UL.o wA (Qc (ly:Int) ke st (fr:Int)) BK.o
  have UN:=(BK.o.block _ (ZV HK.o)).trans HK.o
  go_wp2_with (first|((with_reducible refine Y8 81 (.tmp 4) rfl ?_);refine Zl UN Tryz.underlying81 ?_)|((with_reducible refine ZU 81 (.tmp 2) (.tmp 43) rfl ?_);refine Zs Ub ?_))
  refine VJ (v:= .tuple (Qo (Qc (ly:Int) ke st (fr:Int)) 0)) ?_ rfl ?_
  ·exact UR (p:=2) (u:=3) Zr _ _ w.heap.size 81 (Qc (ly:Int) ke st (fr:Int)) (0,0) _ Zr (setRow_heap _ _ _ _ _ _ Ub) Tryz.underlying81 rfl Zk
  rw [HX.o]
  exact ⟨rfl,kN⟩
end Go.Proofs.By
namespace Go.Proofs.By
open Go.RowKit Go.Proofs.Heap Go.Proofs
def Uf (c:List UInt8) (n:Nat):List Int:=(List.range n).map fun (i:Nat)=>((get c ((4*i:Nat):Int) 4:Nat):Int)
def Tn (c:List UInt8) (n:Nat):List (Int × Int):=(List.range n).map fun (i:Nat)=>(((get c ((8+4*i:Nat):Int) 2:Nat):Int),((get c (((8+4*i:Nat):Int)+2) 2:Nat):Int))
def dt (c:List UInt8) (p:Int):rG:=⟨get c p 4,get c (p+4) 1,get c (p+5) 3,get c (p+8) 4,get c (p+12) 4,get c (p+16) 4,get c (p+20) 4⟩
def Vl (c:List UInt8) (P n:Nat):List rG:=(List.range n).map fun (i:Nat)=>dt c ((P+24*i:Nat):Int)
def Xu (k n:Nat) (c:List UInt8):RF:=
 if k=203 then ⟨203,0,0,0,0,0,[],Uf c n,0,[]⟩
 else if k=205 then ⟨205,get c 0 4,0,0,0,0,[],[],get c 4 4,Tn c n⟩
 else if k=206 then ⟨206,get c 0 4,0,0,0,0,[],[],get c 4 4,[]⟩
 else if k=200 then ⟨200,get c 0 4,get c 4 8,get c 12 4,get c 16 4,get c 20 4,Vl c 24 n,[],0,[]⟩
 else ⟨201,get c 0 4,0,0,0,0,Vl c 4 n,[],0,[]⟩
structure GI (w w':World) (cs:List Value):Prop where
 Zj:Below w w w'
 z:w'.heap[w.heap.size]?=some (.cells YY 173 (0,0))
 Za:w'.heap[w.heap.size+1]?=some (.cells cs.toArray 173 (0,0))
section
variable {w w1 w2:World} {cs:List Value}
theorem GI.below (h:GI w w1 cs) (hb:Below w1 w1 w2):GI w w2 cs:=⟨h.Zj.trans (hb.mono h.Zj.size),(hb.block _ (ZV h.z)).trans h.z,(hb.block _ (ZV h.Za)).trans h.Za⟩
theorem GI.set (h:GI w w1 cs) (j:Nat) (u:Value):GI w (w1.setCell ⟨w.heap.size+1,j,none⟩ u) (cs.set j u):=by
 have h2:=VM h.Za j u
 rw [List.setIfInBounds_toArray] at h2
 exact ⟨((Fr.Z8 P_ h.Zj).setCell (p:=⟨w.heap.size+1,j,none⟩) (Ww (IP _)) _).below,(MW w1 ⟨w.heap.size+1,j,none⟩ u w.heap.size (by show w.heap.size≠w.heap.size+1;omega)).trans h.z,h2⟩
theorem GI.grown (h:GI w w1 cs) {e:TypeId} {size:Nat} {v:Value} {n:Nat} {xs:List Value} (ho:w1.ownsRow w e size v n xs) (he:173≠e) (hg:w1.grownBy w2 v.ownBlock):GI w w2 cs:=
 ⟨((Fr.Z8 P_ h.Zj).grown hg h.Zj.size (Rm.YL ho)).below,(hg.block _ (ZV h.z) (fun x=>Zf ho he _ _ _ x.symm h.z)).trans h.z,(hg.block _ (ZV h.Za) (fun x=>Zf ho he _ _ _ x.symm h.Za)).trans h.Za⟩
theorem GI.start (w:World) (k:Nat):GI w (((w.alloc (.cells YY 173)).alloc (.cells YY 173)).setRow (w.heap.size+1) (Qd (k:Int) 0 0 0 0 0 none 0 0 none 0 0 0 none 0 0)) (Qd (k:Int) 0 0 0 0 0 none 0 0 none 0 0 0 none 0 0):=by
 have e1:(w.alloc (.cells YY 173)).heap.size=w.heap.size+1:=by show (w.heap.push _).size=_;rw [O6]
 have hz:((w.alloc (.cells YY 173)).alloc (.cells YY 173)).heap[w.heap.size+1]?=some (.cells YY 173 (0,0)):=by
  have h:=Z7 (w.alloc (.cells YY 173)) (.cells YY 173)
  rw [e1] at h
  exact h
 refine ⟨Z3 (ZC (Z' w _) (Zw _) _) (IP _) _,?_,setRow_heap _ _ _ _ _ _ hz⟩
 rw [setRow_other _ _ _ _ Zo,(Z' (w.alloc (.cells YY 173)) _).block _ (by rw [e1];omega)]
 exact Z7 w _
end
theorem Yo {P:Program} {ops:Array Oper} {o:Oper} {a:Act} {w:World} {K:Act→World→Prop} {Q:Exit→Act→World→Prop} {E':Prop} (Mq:o.guard=none) {t e:TypeId} {bytes:Nat} (E:Elem P t e 1 bytes) (x:Operand) (ho:o.op = .buildSlice t 1 #[(0,x)])
  (v:Value) (hx:a.eval x=v) (hv:v.cells=#[v])
  (h:K (a.put o.dst (.slice (some ⟨w,0,none⟩) 1 1)) (w.alloc (.cells #[v] e))):if Region.wanted o (yielded ops a.tmps)=true then Oper.wp P o a w K Q else E':=by
 exact Yx59
theorem Nb (b:List UInt8) (p:Int):get b p 2<65536:=by
 unfold get
 split
 ·exact cZ nL
 ·decide
theorem uQ (b:List UInt8) (p:Int):get b p 1<256:=by
 unfold get
 split
 ·have:=D7 ((b.drop p.toNat).take (1:Int).toNat)
  have h2:((b.drop p.toNat).take (1:Int).toNat).length≤1:=by rw [Tg];omega
  exact Pb this (PW (Nat.pow_le_pow_right Zd h2) Zd)
 ·decide
theorem uR (b:List UInt8) (p:Int):get b p 3<16777216:=by
 unfold get
 split
 ·exact dg nL
 ·decide
theorem Kv {w:World} {B:Nat} {e:TypeId} {size:Nat} {v:Value} {n:Nat} {xs:List Value} (h:w.ownsRow B e size v n xs) {g:Nat} {c:Array Value} {f:Nat × Nat} (hg:w.heap[g]?=some (.cells c 173 f)) (he:173≠e) (o:Nat) (u:Value):(w.setCell ⟨g,o,none⟩ u).ownsRow B e size v n xs:=
 XS h fun j hj=>by
  by_cases hjg:j=g
  ·subst hjg;exact absurd hg (Zf h he _ _ _ hj)
  ·exact MW w ⟨g,o,none⟩ _ j hjg
theorem ue (v:Value) (n:Nat) (c:List UInt8) (w:World) (hv:X9 w v c) (hn:n≤1000) (h0:n=0) :
  Calls Tryz.prog 117 (Q7 206 (n:Int) v) w fun e w'=>(∃ a,e = .returned a∧Td w' a (Xu 206 n c))∧Below w w w':=by
 have CR:=Zh (fun (p q:Int) (w':World) (h:Below w w w')=>Rz v c p q w' (hv.below h))
 obtain ⟨ss,Kn⟩:∃ x:Nat,x=get c 0 4:=⟨_,rfl⟩
 have mE:=Zh (fun (w':World) (h:Below w w w')=>CR.o 0 4 w' h)
 rw [←Kn] at mE
 have bss:IntKind.u32.wrap (ss:Int)=(ss:Int):=by have:=WX c 0;rw [NW];omega
 obtain ⟨md,ej⟩:∃ x:Nat,x=get c 4 4:=⟨_,rfl⟩
 have Cmd:=Zh (fun (w':World) (h:Below w w w')=>CR.o 4 4 w' h)
 rw [←ej] at Cmd
 have bmd:IntKind.u32.wrap (md:Int)=(md:Int):=by have:=WX c 4;rw [NW];omega
 have HX:Hid (Xu 206 n c=⟨206,(ss:Int),0,0,0,0,[],[],(md:Int),[]⟩):=by
  show _=_
  unfold Xu
  rw [Kn,ej]
  simp
 generalize Xu 206 n c=X at *
 clear Kn ej
 have H1:Hid (GI w (((w.alloc (.cells YY 173)).alloc (.cells YY 173)).setRow (w.heap.size+1) cP) Yz6):=GI.start w 206
 have hz:((w.alloc (.cells YY 173)).alloc (.cells YY 173)).heap[w.heap.size+1]?=some (.cells YY 173 (0,0)):=by
  exact sk
 clear hv
 go_enter Tryz.func117,Tryz.ntmps117
 go_upto_region 2 with (with_reducible refine ZU 173 (.tmp 7) (.tmp 11) rfl ?_;refine ZW rfl 173 (.tmp 7) (.tmp 11) rfl rfl (w.heap.size+1) cP rfl rfl 173 YY hz ZB ZB ZB ?_)
 clear hz
 generalize ((w.alloc (.cells YY 173)).alloc (.cells YY 173)).setRow (w.heap.size+1) cP=w1 at *
 have z1:=cell_of H1.o.Za 1
 simp only [SK,S6,SJ] at z1
 have f1:=ZO H1.o.Za 1
 go_upto_region 5 with (go_at_call 118;refine (mE.o _ H1.o.Zj).mono ?_;rintro e w' ⟨rfl,rfl⟩)
 have H2:Hid (GI w (w1.setCell ⟨w.heap.size+1,1,none⟩ (.int .u32 (ss:Int))) (Qd 206 (ss:Int) 0 0 0 0 none 0 0 none 0 0 0 none 0 0)):=H1.o.set 1 (.int .u32 (ss:Int))
 clear z1 f1
 generalize w1.setCell ⟨w.heap.size+1,1,none⟩ (.int .u32 (ss:Int))=w2 at *
 have z2:=cell_of H2.o.Za 8
 simp only [SK,S6,SJ] at z2
 have f2:=ZO H2.o.Za 8
 go_upto_region 14 with (go_at_call 118;refine (Cmd.o _ H2.o.Zj).mono ?_;rintro e w' ⟨rfl,rfl⟩)
 have H3:Hid (GI w (w2.setCell ⟨w.heap.size+1,8,none⟩ (.int .u32 (md:Int))) (Qd 206 (ss:Int) 0 0 0 0 none 0 0 none 0 0 (md:Int) none 0 0)):=H2.o.set 8 (.int .u32 (md:Int))
 clear z2 f2
 generalize w2.setCell ⟨w.heap.size+1,8,none⟩ (.int .u32 (md:Int))=w3 at *
 subst h0
 go_wp2_with fail
 go_loopw [9] (fun s9 w'=>s9 = .int .i64 0∧w'=w3) (fun _ _=>0)
 case atStart=>exact ⟨rfl,rfl⟩
 case round=>
  obtain ⟨rfl,rfl⟩:=hrel
  have Ub:=H3.o.z
  have UN:=H3.o.Za
  go_wp2_with (first|(with_reducible refine Y8 173 (.tmp 7) rfl ?_;refine Y9 rfl 173 (.tmp 7) rfl (w.heap.size+1) rfl 173 (Qd 206 (ss:Int) 0 0 0 0 none 0 0 none 0 0 (md:Int) none 0 0) (0,0) _ UN Tryz.underlying173 rfl ZB ?_)|(with_reducible refine ZU 173 (.tmp 6) (.tmp 125) rfl ?_;refine ZW rfl 173 (.tmp 6) (.tmp 125) rfl rfl w.heap.size (Qd 206 (ss:Int) 0 0 0 0 none 0 0 none 0 0 (md:Int) none 0 0) rfl rfl 173 YY Ub ZB ZB ZB ?_))
  refine VJ (v:= .agg (Qd 206 (ss:Int) 0 0 0 0 none 0 0 none 0 0 (md:Int) none 0 0)) ?_ rfl ?_
  ·exact results_cell_row Zr _ _ w.heap.size 173 (Qd 206 (ss:Int) 0 0 0 0 none 0 0 none 0 0 (md:Int) none 0 0) (0,0) _ Zr (setRow_heap _ _ _ _ _ _ Ub) Tryz.underlying173 rfl ZB
  refine ⟨⟨_,rfl,?_⟩,Z3 H3.o.Zj (Zw _) _⟩
  rw [HX.o]
  have hr:Uo wr ⟨⟨206,(ss:Int),0,0,0,0,[],[],(md:Int),[]⟩,.slice none 0 0,.slice none 0 0,.slice none 0 0⟩:=⟨Row.nil _ _,Row.nil _ _,Row.nil _ _⟩
  have Nf:=Uo.setRow hr Ub (Qd 206 (ss:Int) 0 0 0 0 none 0 0 none 0 0 (md:Int) none 0 0)
  exact ⟨_,_,_,rfl,Nf.b,Nf.g,Nf.p⟩
end Go.Proofs.By
