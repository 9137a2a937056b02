/- Part of a proof. -/
import Derived.Test.YtpdjhlcbcomdkaaGreatDoorF29
set_option linter.unusedVariables false
set_option linter.unusedSimpArgs false
set_option maxRecDepth 100000
set_option maxHeartbeats 16000000
open Go Go.Q Go.Qr
namespace Go.Proofs.By
open Go.RowKit Go.Proofs.Heap Go.Proofs
theorem Oo {P:Program} {fn:Func} {p q u:Tmp} {ty tz:TypeId} (h:fn.results=#[.cell p ty,.cell q tz,.tmp u]) (tmps:Array Value) (w:World) (g k:Nat) (t s:TypeId) (cs ds:Array Value) (fr fs:Nat × Nat) (d e:TypeDesc)
  (hp:tmps.getD p undef = .pointer (some ⟨g,0,none⟩)) (hq:tmps.getD q undef = .pointer (some ⟨k,0,none⟩)) (hg:w.heap[g]?=some (.cells cs t fr)) (hk:w.heap[k]?=some (.cells ds s fs))
  (hu:P.underlying ty=some d) (hv:P.underlying tz=some e) (hd:(match d with | .struct _ | .array _ _=>true|_=>false)=true) (he:(match e with | .struct _ | .array _ _=>true|_=>false)=true) (hi:(P.info? ty).map (·.size)=some cs.size) (hj:(P.info? tz).map (·.size)=some ds.size) :
  (results fn tmps).run P w = .ok (.tuple #[.agg cs,.agg ds,tmps.getD u undef]) w:=by
 have Bw:tmps[p]?.getD undef = .pointer (some ⟨g,0,none⟩):=by simpa using hp
 have oL:tmps[q]?.getD undef = .pointer (some ⟨k,0,none⟩):=by simpa using hq
 simp [results,h,Bw,oL,asAddr,run_loadVar_row w g t ty cs fr d hg hu hd hi,run_loadVar_row w k s tz ds fs e hk hv he hj]
theorem Vp {P:Program} {w:World} {op:Oper} {a:Act} (ty:TypeId) (x:Operand) (ho:op.op = .load ty x) (g:Nat) (hx:a.eval x = .pointer (some ⟨g,0,none⟩)) (t:TypeId) (cs:Array Value) (fr:Nat × Nat) (d:TypeDesc) (hg:w.heap[g]?=some (.cells cs t fr))
  (hu:P.underlying ty=some d) (hd:(match d with | .struct _ | .array _ _=>true|_=>false)=true) (hi:(P.info? ty).map (·.size)=some cs.size):(execOp a.eval op).run P w = .ok (.value (.agg cs)) w:=by
 unfold execOp
 simp only [ho,hx,Instr.loadAt,Instr.sureAddr,Sem.run_bind,Sem.run_pure,Result.andThen_ok,run_loadVar_row w g t ty cs fr d hg hu hd hi]
theorem Vk.setRow {w:World} {p:J2} {cv ev pv:Value} (h:Vk w p cv ev pv) {g:Nat} {c:Array Value} {t:TypeId} {f:Nat × Nat} (hg:w.heap[g]?=some (.cells c t f)) (h1:66≠t) (h2:5≠t) (cs:Array Value):Vk (w.setRow g cs) p cv ev pv:=
 ⟨Row.setRow h.c hg h1 _,Row.setRow h.e hg h2 _,Row.setRow h.p hg h2 _⟩
def Um (b:List UInt8):(J2 × AJ) × Int:=if (YY b).2≠0 then ((Xp,Ue),(YY b).2) else if (YN (YY b).1.Zp).2≠0 then ((Xp,Ue),(YN (YY b).1.Zp).2) else (((YY b).1,(YN (YY b).1.Zp).1),0)
theorem zC (v:Value) (b:List UInt8) (w:World) (hv:Yn w v b) :
  Calls Tryz.prog 71 #[v] w fun e w'=>(∃ a,e = .returned (.tuple #[a,rA (Um b).1.2,.int .i64 (Um b).2])∧OW w' a (Um b).1.1)∧Below w w w':=by
 have HC:=Zh (fun (w':World) (h:Below w w w')=>wj v b w' (hv.below h))
 have HX:Hid (Um b=if (YY b).2≠0 then ((Xp,Ue),(YY b).2) else if (YN (YY b).1.Zp).2≠0 then ((Xp,Ue),(YN (YY b).1.Zp).2) else (((YY b).1,(YN (YY b).1.Zp).1),0)):=rfl
 obtain ⟨va,c,rfl,-⟩:=id hv
 clear hv
 have OH:Hid (Below w w ((w.alloc (.cells (Qb false 0 0 0 0 none 0 0 false 0 none 0 0 none 0 0 0) 79)).alloc (.cells (Qd 0 false false 0) 81))):=ZA (Z' w _) (ZB _) _
 have e1:(w.alloc (.cells (Qb false 0 0 0 0 none 0 0 false 0 none 0 0 none 0 0 0) 79)).heap.size=w.heap.size+1:=by show (w.heap.push _).size=_;rw [Rg]
 have e2:((w.alloc (.cells (Qb false 0 0 0 0 none 0 0 false 0 none 0 0 none 0 0 0) 79)).alloc (.cells (Qd 0 false false 0) 81)).heap.size=w.heap.size+2:=by show ((w.alloc (.cells (Qb false 0 0 0 0 none 0 0 false 0 none 0 0 none 0 0 0) 79)).heap.push _).size=_;rw [Rg,e1]
 have z1:((w.alloc (.cells (Qb false 0 0 0 0 none 0 0 false 0 none 0 0 none 0 0 0) 79)).alloc (.cells (Qd 0 false false 0) 81)).heap[w.heap.size+1]?=some (.cells (Qd 0 false false 0) 81 (0,0)):=by
  have h:=Z5 (w.alloc (.cells (Qb false 0 0 0 0 none 0 0 false 0 none 0 0 none 0 0 0) 79)) (.cells (Qd 0 false false 0) 81)
  rw [e1] at h
  exact h
 have z0:((w.alloc (.cells (Qb false 0 0 0 0 none 0 0 false 0 none 0 0 none 0 0 0) 79)).alloc (.cells (Qd 0 false false 0) 81)).heap[w.heap.size]?=some (.cells (Qb false 0 0 0 0 none 0 0 false 0 none 0 0 none 0 0 0) 79 (0,0)):=by
  rw [(Z' (w.alloc (.cells (Qb false 0 0 0 0 none 0 0 false 0 none 0 0 none 0 0 0) 79)) _).block _ (by rw [e1];omega)]
  exact Z5 w _
 have HZ:Hid (((w.alloc (.cells (Qb false 0 0 0 0 none 0 0 false 0 none 0 0 none 0 0 0) 79)).alloc (.cells (Qd 0 false false 0) 81)).heap[w.heap.size+1]?=some (.cells (Qd 0 false false 0) 81 (0,0))∧((w.alloc (.cells (Qb false 0 0 0 0 none 0 0 false 0 none 0 0 none 0 0 0) 79)).alloc (.cells (Qd 0 false false 0) 81)).heap[w.heap.size]?=some (.cells (Qb false 0 0 0 0 none 0 0 false 0 none 0 0 none 0 0 0) 79 (0,0))∧((w.alloc (.cells (Qb false 0 0 0 0 none 0 0 false 0 none 0 0 none 0 0 0) 79)).alloc (.cells (Qd 0 false false 0) 81)).heap.size=w.heap.size+2):=⟨z1,z0,e2⟩
 clear z0 z1 e1 e2
 generalize Um b=X at *
 generalize YY b=Y at *
 obtain ⟨P,er⟩:=Y
 dsimp only at HC HX
 go_enter Tryz.func71,Tryz.ntmps71
 go_upto_region 2 with (go_at_call 94;refine (HC.o _ OH.o).mono ?_;rintro e w2 ⟨⟨a0,f0,t0,rfl,⟨cv,ev,pv,lL,q1,q2,q3⟩⟩,Y0⟩;obtain ⟨ca,cc,Di,-⟩:=id q1;obtain ⟨ea,ec,Ed,-⟩:=id q2;obtain ⟨pa,pc,NR,-⟩:=id q3;subst Di;subst Ed;subst NR;dsimp only [IB] at lL;subst lL;have HR:Hid (Vk w2 P (.slice ca P.Sa.length cc) (.slice ea P.ext.length ec) (.slice pa P.Zp.length pc)):=⟨q1,q2,q3⟩;have XA:=Zh Y0;clear q1 q2 q3 Y0)
 clear HC
 have JH:Hid (Below w w w2):=OH.o.trans (XA.o.mono OH.o.size)
 have y_:w.heap.size+2≤w2.heap.size:=by have:=XA.o.size;rw [HZ.o.2.2] at this;exact this
 have HY:Hid (∀ w',Below w2 w2 w'→w'.heap[w.heap.size+1]?=some (.cells (Qd 0 false false 0) 81 (0,0))∧w'.heap[w.heap.size]?=some (.cells (Qb false 0 0 0 0 none 0 0 false 0 none 0 0 none 0 0 0) 79 (0,0))):=fun w' h=>by
  have k:=HZ.o.2.2
  exact ⟨(h.block _ Zo).trans ((XA.o.block _ Zo).trans HZ.o.1),(h.block _ Zo).trans ((XA.o.block _ Zo).trans HZ.o.2.1)⟩
 have JG:Hid (Below w w (w2.alloc (.cells (Jm P ca cc ea ec pa pc) 79))):=ZA JH.o (ZB _) _
 by_cases SE:er=0
 rotate_left
 ·have bl:(er != 0)=true:=by rw [TF];exact SE
  rw [ZX SE] at HX
  obtain ⟨y1,y0⟩:=HY.o _ (Z' w2 (.cells (Jm P ca cc ea ec pa pc) 79))
  clear HZ
  go_wp2_with (first|(with_reducible refine ZY 79 (.tmp 2) (.tmp 19) rfl ?_;refine Zs y0 ?_)|(with_reducible refine ZY 81 (.tmp 3) (.tmp 20) rfl ?_;refine Zs ((setRow_other _ _ _ _ Zo).trans y1) ?_))
  refine VR (v:= .tuple (Jh (Qb false 0 0 0 0 none 0 0 false 0 none 0 0 none 0 0 0) (Qd 0 false false 0) er)) ?_ rfl ?_
  ·exact Yt9
  exact ⟨⟨_,by rw [HX.o];rfl,by rw [HX.o];exact IC _⟩,Z0 (Z0 JG.o (ZB _) _) (JK _) _⟩
 subst SE
 have HD:Hid (∀ w1,Below w2 w2 w1→Calls Tryz.prog 95 #[.slice pa P.Zp.length pc] w1 fun e w'=>e = .returned (.tuple (Qn (Qd (YN P.Zp).1.Zu (YN P.Zp).1.key (YN P.Zp).1.start (YN P.Zp).1.frame) (YN P.Zp).2))∧Below w1 w1 w'):=fun w1 h=>Er _ P.Zp w1 (HR.o.p.below h).r
 rw [Z6 Zi] at HX
 generalize YN P.Zp=D at *
 obtain ⟨d,de⟩:=D
 dsimp only at HD HX
 have Nk:w2.heap.size<(w2.alloc (.cells (Jm P ca cc ea ec pa pc) 79)).heap.size:=by show _<(w2.heap.push _).size;rw [Rg];exact Nat.lt_succ_self _
 have Z7:=Z5 w2 (.cells (Jm P ca cc ea ec pa pc) 79)
 go_upto_region 5 with (go_at_call 95;refine (HD.o _ (Z' _ _)).mono ?_;rintro e w3 ⟨rfl,Ut⟩;have T_:=Zh Ut;have yp:=(Ut.block _ Nk).trans Z7;have AA:w2.heap.size<w3.heap.size:=Px Nk Ut.size;clear Ut)
 have mE:Hid (Below w2 w2 w3):=(Z' w2 _).trans (T_.o.mono (lu Nk))
 have ET:Hid (Below w w (w3.alloc (.cells (Jk d) 81))):=ZA (JH.o.trans (mE.o.mono JH.o.size)) (ZB _) _
 have Nz:=Zh ((HR.o.below mE.o).below (Z' w3 (.cells (Jk d) 81)))
 have y5:=((Z' w3 (.cells (Jk d) 81)).block _ AA).trans yp
 obtain ⟨y1,y0⟩:=HY.o _ (mE.o.trans ((Z' w3 (.cells (Jk d) 81)).mono mE.o.size))
 clear Z7 T_ HD yp
 by_cases lQ:de=0
 rotate_left
 ·have bl:(de != 0)=true:=by rw [TF];exact lQ
  rw [ZX lQ] at HX
  go_wp2_with (first|(with_reducible refine ZY 79 (.tmp 2) (.tmp 30) rfl ?_;refine Zs y0 ?_)|(with_reducible refine ZY 81 (.tmp 3) (.tmp 31) rfl ?_;refine Zs ((setRow_other _ _ _ _ Zo).trans y1) ?_))
  refine VR (v:= .tuple (Jh (Qb false 0 0 0 0 none 0 0 false 0 none 0 0 none 0 0 0) (Qd 0 false false 0) de)) ?_ rfl ?_
  ·exact Yt9
  exact ⟨⟨_,by rw [HX.o];rfl,by rw [HX.o];exact IC _⟩,Z0 (Z0 ET.o (ZB _) _) (JK _) _⟩
 subst lQ
 rw [Z6 Zi] at HX
 have y6:=Z5 w3 (.cells (Jk d) 81)
 have ek:=Zh ((YG (w3.alloc (.cells (Jk d) 81)).heap.size (w3.alloc (.cells (Jk d) 81))).drew)
 have HBV9:=Zh (ET.o.trans (ek.o.mono ET.o.size))
 have HRV9:=Zh (Nz.o.below ek.o)
 go_wp2_with fail
 replace y0:=(ek.o.block _ (ZQ y0)).trans y0
 replace y1:=(ek.o.block _ (ZQ y1)).trans y1
 replace y5:=(ek.o.block _ (ZQ y5)).trans y5
 replace y6:=(ek.o.block _ (ZQ y6)).trans y6
 refine QN ?_
 refine Z3.Yq (d:=3) (S:=(fun w'=>w'.heap[w2.heap.size]?=some (.cells (Jm P ca cc ea ec pa pc) 79 (0,0))∧w'.heap[w3.heap.size]?=some (.cells (Jk d) 81 (0,0)))) Zk ?_ (fun Yb=>?_)
 ·exact ⟨y5,y6⟩
 refine YK 0 (hy:=by intro wS QW;refine Vp 79 (.tmp 5) ?_ w2.heap.size ?_ 79 (Jm P ca cc ea ec pa pc) (0,0) _ QW.1 Tryz.underlying79 rfl Zk;all_goals rfl) (h:=?_)
 refine YK 1 (hy:=by intro wS QW;refine Vp 81 (.tmp 9) ?_ w3.heap.size ?_ 81 (Jk d) (0,0) _ QW.2 Tryz.underlying81 rfl Zk;all_goals rfl) (h:=?_)
 refine YR 2 (h:=fun K hK=>?_)
 rw [ZX Zr]
 refine wp_store_row 79 (.tmp 2) (.tmp 33) rfl w.heap.size (Jm P ca cc ea ec pa pc) rfl rfl 79 _ y0 Zk Zk Zk ?_
 refine Z3.Xl hK _ _ ?_ (fun XX=>?_)
 ·exact ⟨(setRow_other _ _ _ _ Zo).trans y5,(setRow_other _ _ _ _ Zo).trans y6⟩
 clear hK K
 try simp only [Z3.pt]
 refine YR 3 (h:=fun K hK=>?_)
 rw [ZX Zr]
 refine wp_store_row 81 (.tmp 3) (.tmp 34) rfl (w.heap.size+1) (Jk d) rfl rfl 81 _ ((setRow_other _ _ _ _ Zo).trans y1) Zk Zk Zk ?_
 refine Z3.WO hK _ _ Zk ?_
 clear hK K
 try simp only [Z3.pt]
 refine YP 4 (h:=?_)
 refine Z3.Xz Zk ?_ _
 refine Py ?_
 go_wp2_with fail
 refine VR (v:= .tuple (Jh (Jm P ca cc ea ec pa pc) (Jk d) 0)) ?_ rfl ?_
 ·exact Oo (p:=2) (q:=3) (u:=4) Zr _ _ w.heap.size (w.heap.size+1) 79 81 (Jm P ca cc ea ec pa pc) (Jk d) (0,0) (0,0) _ _ Zr Zr ((setRow_other _ _ _ _ Zo).trans (setRow_heap _ _ _ _ _ _ y0)) (setRow_heap _ _ _ _ _ _ ((setRow_other _ _ _ _ Zo).trans y1)) Tryz.underlying79 Tryz.underlying81 rfl rfl Zk Zk
 have HRZ:=Vk.setRow (Vk.setRow HRV9.o y0 Zd Zd (Jm P ca cc ea ec pa pc)) ((setRow_other _ _ _ _ Zo).trans y1) Zd Zd (Jk d)
 exact ⟨⟨_,by rw [HX.o];rfl,by rw [HX.o];exact ⟨_,_,_,rfl,HRZ.c,HRZ.e,HRZ.p⟩⟩,Z0 (Z0 HBV9.o (ZB _) _) (JK _) _⟩
theorem wC (v:Value) (n:Nat) (c:List UInt8) (w:World) (hv:Yn w v c) (hn:n≤1000) :
  Calls Tryz.prog 117 (Q6 203 (n:Int) v) w fun e w'=>(∃ a,e = .returned a∧TN w' a (XP 203 n c))∧Below w w w':=by
 have CR:=Zh (fun (p q:Int) (w':World) (h:Below w w w')=>RX v c p q w' (hv.below h))
 have HX:Hid (XP 203 n c=⟨203,0,0,0,0,0,[],UF c n,0,[]⟩):=by
  show _=_
  unfold XP
  simp
 generalize XP 203 n c=X at *
 have H1:Hid (GI w (((w.alloc (.cells Y9 173)).alloc (.cells Y9 173)).setRow (w.heap.size+1) ik) Yz7):=GI.start w 203
 have hz:((w.alloc (.cells Y9 173)).alloc (.cells Y9 173)).heap[w.heap.size+1]?=some (.cells Y9 173 (0,0)):=by
  exact uS
 clear hv
 go_enter Tryz.func117,Tryz.ntmps117
 go_upto_region 2 with (with_reducible refine ZY 173 (.tmp 7) (.tmp 11) rfl ?_;refine ZW rfl 173 (.tmp 7) (.tmp 11) rfl rfl (w.heap.size+1) ik rfl rfl 173 Y9 hz Zg Zg Zg ?_)
 clear hz
 generalize ((w.alloc (.cells Y9 173)).alloc (.cells Y9 173)).setRow (w.heap.size+1) ik=w1 at *
 go_wp2_with fail
 go_loopw [8,9] (fun s8 s9 w'=>∃ (i pos:Nat) (a:Option Addr) (q:Nat),i≤n∧pos=0+4*i∧s9 = .int .i64 (i:Int)∧s8 = .int .i64 (pos:Int)∧GI w w' (Qc 203 0 0 0 0 0 none 0 0 a i q 0 none 0 0)∧w'.ownsRow w 66 1 (.slice a i q) i (Zb (UF c i))) (fun _ s9 _=>n-(intOf s9).toNat)
 case atStart=>exact ⟨0,0,none,0,Zo,Zo,rfl,rfl,H1.o,Us _ _ _ _⟩
 case round=>
  obtain ⟨i,pos,a,q,hi,Rk,rfl,rfl,Fp,YO⟩:=hrel
  have HG:=Zh Fp
  have HO:=Zh YO
  clear Fp YO H1
  by_cases Ie:i<n
  ·obtain ⟨x0,Ro⟩:∃ x:Nat,x=get c (pos:Int) 4:=⟨_,rfl⟩
   have Lj:Hid (UF c (i+1)=UF c i++[(x0:Int)]):=by
    show _=_
    rw [Ro,Rk]
    unfold UF
    rw [Aq,ND]
    simp
   have C0:=Zh (fun (w':World) (h:Below w w w')=>CR.o (pos:Int) 4 w' h)
   rw [←Ro] at C0
   have Ri:IntKind.u32.wrap (x0:Int)=(x0:Int):=by have:=Xu c (pos:Int);rw [NC];omega
   have mh:IntKind.i64.wrap ((pos:Int)+4)=(pos:Int)+4:=Ua _ Zo
   have Fx:pos≤100000:=by omega
   have OI:=Zh Rk
   clear Rk Ro
   go_upto_region 22 with fail
   have HG:=Zh (HG.o.below (YG _ _).drew)
   have HO:=Zh (X9 HO.o (YG _ _).drew)
   have k0:(wr.drew).cell? ⟨w.heap.size+1,7,none⟩=some (.slice a i q):=Zc HG.o.Y8 7 rfl
   refine QN ?_
   refine Z3.Yq (d:=9) (S:=(fun w'=>w'.cell? ⟨w.heap.size+1,7,none⟩=some (.slice a i q))) Zg ?_ (fun _=>?_)
   ·(try dsimp only)
    exact k0
   refine YP 0 (h:=YP 2 (h:=YP 3 (h:=YK 1 (h:=?_))))
   refine YR 4 (h:=fun K hK=>?_)
   go_simp
   refine (C0.o _ HG.o.YI).mono ?_
   rintro e w' ⟨rfl,rfl⟩
   go_wp2_with fail
   refine Z3.Xl hK _ _ ?_ (fun _=>?_)
   ·(try dsimp only)
    first|exact k2|exact k1|exact k0
   clear hK K
   try simp only [Z3.pt]
   refine YP 5 (h:=?_)
   refine YR 6 (h:=fun K hK=>?_)
   refine Mm Zr V4 (.tmp 100) Zr (.int .u32 (x0:Int)) Zr rfl ?_
   have HG:=Zh (HG.o.below (Z' wr.drew (.cells #[.int .u32 (x0:Int)] 66)))
   have HO:=Zh (X9 HO.o (Z' wr.drew (.cells #[.int .u32 (x0:Int)] 66)))
   have k1:=cell_of HG.o.Y8 7
   simp only [R9,R8,RT] at k1
   refine Z3.Xl hK _ _ ?_ (fun _=>?_)
   ·(try dsimp only)
    first|exact k2|exact k1|exact k0
   clear hK K
   try simp only [Z3.pt]
   refine YR 7 (h:=fun K hK=>?_)
   refine Zw Zr (.tmp 96) (.tmp 101) 29 Zr w.heap.size V4 (.slice a i q) i (Zb (UF c i)) Zr HO.o _ 1 (Zb [(x0:Int)]) Zr (UJ wr.drew 66 1 (Zb [(x0:Int)]) Zd) rfl (K_ _) Zo Zo ?_ ?_
   ·exact HG.o.YI.size
   intro v' w6 EX yr
   obtain ⟨na,nq,Ig,-⟩:=Row.ZV EX.o
   subst Ig
   have HG:=Zh (HG.o.grown HO.o Zd yr.o)
   have HO:Hid (w6.ownsRow w 66 1 (.slice na (i+1) nq) (i+1) (Zb (UF c i++[(x0:Int)]))):=(by have h:=EX.o;rw [show Zb (UF c i)++Zb [(x0:Int)]=Zb (UF c i++[(x0:Int)]) from (ND ..).symm] at h;exact h)
   have k2:=cell_of HG.o.Y8 7
   simp only [R9,R8,RT] at k2
   have f2:=ZI HG.o.Y8 7
   refine Z3.Xl hK _ _ ?_ (fun _=>?_)
   ·(try dsimp only)
    first|exact k2|exact k1|exact k0
   clear hK K
   try simp only [Z3.pt]
   refine YP 8 (h:=?_)
   refine YR 9 (h:=fun K hK=>?_)
   go_simp
   refine Z3.WO hK _ _ Zg ?_
   clear hK K
   try simp only [Z3.pt]
   refine Z3.Xz Zg ?_ _
   refine Py ?_
   go_wp2_with fail
   go_roundw
   case rel=>
    refine ⟨i+1,pos+4,na,nq,Zo,by have:=OI.o;omega,Zn,Zn,?_,?_⟩
    ·exact HG.o.set 7 (.slice na (i+1) nq)
    ·rw [Lj.o];exact KZ HO.o HG.o.Y8 Zd _ _
   case measure=>simp [intOf];omega
  ·have yU:i=n:=by omega
   subst yU
   have Tf:=Zh (Row.ZV HO.o)
   have UD:=HG.o.z
   have VD:=HG.o.Y8
   go_wp2_with (first|(with_reducible refine Yp 173 (.tmp 7) rfl ?_;refine Yd rfl 173 (.tmp 7) rfl (w.heap.size+1) rfl 173 (Qc 203 0 0 0 0 0 none 0 0 a i q 0 none 0 0) (0,0) _ VD Tryz.underlying173 rfl Zg ?_)|(with_reducible refine ZY 173 (.tmp 6) (.tmp 125) rfl ?_;refine ZW rfl 173 (.tmp 6) (.tmp 125) rfl rfl w.heap.size (Qc 203 0 0 0 0 0 none 0 0 a i q 0 none 0 0) rfl rfl 173 Y9 UD Zg Zg Zg ?_))
   refine VR (v:= .agg (Qc 203 0 0 0 0 0 none 0 0 a i q 0 none 0 0)) ?_ rfl ?_
   ·exact results_cell_row Zr _ _ w.heap.size 173 (Qc 203 0 0 0 0 0 none 0 0 a i q 0 none 0 0) (0,0) _ Zr (setRow_heap _ _ _ _ _ _ UD) Tryz.underlying173 rfl Zg
   refine ⟨⟨_,rfl,?_⟩,Z0 HG.o.YI (ZB _) _⟩
   rw [HX.o]
   have hr:UY wr ⟨⟨203,0,0,0,0,0,[],UF c i,0,[]⟩,.slice none 0 0,.slice a i q,.slice none 0 0⟩:=⟨Row.nil _ _,by show Row wr _ _ (UF c i).length _;rw [show (UF c i).length=i by unfold UF;rw [UM,List.length_range]];exact Tf.o,Row.nil _ _⟩
   have Lf:=UY.setRow hr UD (Qc 203 0 0 0 0 0 none 0 0 a i q 0 none 0 0)
   exact ⟨_,_,_,rfl,Lf.b,Lf.g,Lf.p⟩
end Go.Proofs.By
namespace Go.Proofs.By
open Go.RowKit Go.Proofs.Heap Go.Proofs
theorem Cc (v:Value) (n:Nat) (c:List UInt8) (w:World) (hv:Yn w v c) (hn:n≤1000) :
  Calls Tryz.prog 117 (Q6 205 (n:Int) v) w fun e w'=>(∃ a,e = .returned a∧TN w' a (XP 205 n c))∧Below w w w':=by
 have CR:=Zh (fun (p q:Int) (w':World) (h:Below w w w')=>RX v c p q w' (hv.below h))
 obtain ⟨ss,Nu⟩:∃ x:Nat,x=get c 0 4:=⟨_,rfl⟩
 have pU:=Zh (fun (w':World) (h:Below w w w')=>CR.o 0 4 w' h)
 rw [←Nu] at pU
 have bss:IntKind.u32.wrap (ss:Int)=(ss:Int):=by have:=Xu c 0;rw [NC];omega
 obtain ⟨md,jr⟩:∃ x:Nat,x=get c 4 4:=⟨_,rfl⟩
 have Cmd:=Zh (fun (w':World) (h:Below w w w')=>CR.o 4 4 w' h)
 rw [←jr] at Cmd
 have bmd:IntKind.u32.wrap (md:Int)=(md:Int):=by have:=Xu c 4;rw [NC];omega
 have HX:Hid (XP 205 n c=⟨205,(ss:Int),0,0,0,0,[],[],(md:Int),T4 c n⟩):=by
  show _=_
  unfold XP
  rw [Nu,jr]
  simp
 generalize XP 205 n c=X at *
 clear Nu jr
 have H1:Hid (GI w (((w.alloc (.cells Y9 173)).alloc (.cells Y9 173)).setRow (w.heap.size+1) im) Yz8):=GI.start w 205
 have hz:((w.alloc (.cells Y9 173)).alloc (.cells Y9 173)).heap[w.heap.size+1]?=some (.cells Y9 173 (0,0)):=by
  exact uS
 clear hv
 go_enter Tryz.func117,Tryz.ntmps117
 go_upto_region 2 with (with_reducible refine ZY 173 (.tmp 7) (.tmp 11) rfl ?_;refine ZW rfl 173 (.tmp 7) (.tmp 11) rfl rfl (w.heap.size+1) im rfl rfl 173 Y9 hz Zg Zg Zg ?_)
 clear hz
 generalize ((w.alloc (.cells Y9 173)).alloc (.cells Y9 173)).setRow (w.heap.size+1) im=w1 at *
 have z1:=cell_of H1.o.Y8 1
 simp only [R9,R8,RT] at z1
 have f1:=ZI H1.o.Y8 1
 go_upto_region 5 with (go_at_call 118;refine (pU.o _ H1.o.YI).mono ?_;rintro e w' ⟨rfl,rfl⟩)
 have H2:Hid (GI w (w1.setCell ⟨w.heap.size+1,1,none⟩ (.int .u32 (ss:Int))) (Qc 205 (ss:Int) 0 0 0 0 none 0 0 none 0 0 0 none 0 0)):=H1.o.set 1 (.int .u32 (ss:Int))
 clear z1 f1
 generalize w1.setCell ⟨w.heap.size+1,1,none⟩ (.int .u32 (ss:Int))=w2 at *
 have z2:=cell_of H2.o.Y8 8
 simp only [R9,R8,RT] at z2
 have f2:=ZI H2.o.Y8 8
 go_upto_region 14 with (go_at_call 118;refine (Cmd.o _ H2.o.YI).mono ?_;rintro e w' ⟨rfl,rfl⟩)
 have H3:Hid (GI w (w2.setCell ⟨w.heap.size+1,8,none⟩ (.int .u32 (md:Int))) (Qc 205 (ss:Int) 0 0 0 0 none 0 0 none 0 0 (md:Int) none 0 0)):=H2.o.set 8 (.int .u32 (md:Int))
 clear z2 f2
 generalize w2.setCell ⟨w.heap.size+1,8,none⟩ (.int .u32 (md:Int))=w3 at *
 go_wp2_with fail
 go_loopw [8,9] (fun s8 s9 w'=>∃ (i pos:Nat) (a:Option Addr) (q:Nat),i≤n∧pos=8+4*i∧s9 = .int .i64 (i:Int)∧s8 = .int .i64 (pos:Int)∧GI w w' (Qc 205 (ss:Int) 0 0 0 0 none 0 0 none 0 0 (md:Int) a i q)∧w'.ownsRow w 226 2 (.slice a i q) i ((T4 c i).flatMap WQ)) (fun _ s9 _=>n-(intOf s9).toNat)
 case atStart=>exact ⟨0,8,none,0,Zo,Zo,rfl,rfl,H3.o,Us _ _ _ _⟩
 case round=>
  obtain ⟨i,pos,a,q,hi,Rk,rfl,rfl,Fp,YO⟩:=hrel
  have HG:=Zh Fp
  have HO:=Zh YO
  clear Fp YO H3
  by_cases Ie:i<n
  ·obtain ⟨x0,Ro⟩:∃ x:Nat,x=get c (pos:Int) 2:=⟨_,rfl⟩
   obtain ⟨x1,Tm⟩:∃ x:Nat,x=get c ((pos:Int)+2) 2:=⟨_,rfl⟩
   have Lj:Hid (T4 c (i+1)=T4 c i++[((x0:Int),(x1:Int))]):=by
    show _=_
    rw [Ro,Tm,Rk]
    unfold T4
    rw [Aq,ND]
    rfl
   have C0:=Zh (fun (w':World) (h:Below w w w')=>CR.o (pos:Int) 2 w' h)
   rw [←Ro] at C0
   have Ri:IntKind.u16.wrap (x0:Int)=(x0:Int):=by have:=NL c (pos:Int);rw [IntKind.wrap_u16];omega
   have C1:=Zh (fun (w':World) (h:Below w w w')=>CR.o ((pos:Int)+2) 2 w' h)
   rw [←Tm] at C1
   have Zj:IntKind.u16.wrap (x1:Int)=(x1:Int):=by have:=NL c ((pos:Int)+2);rw [IntKind.wrap_u16];omega
   have Fw:IntKind.i64.wrap ((pos:Int)+2)=(pos:Int)+2:=Ua _ Zo
   have mh:IntKind.i64.wrap ((pos:Int)+4)=(pos:Int)+4:=Ua _ Zo
   have Fx:pos≤100000:=by omega
   have OI:=Zh Rk
   clear Rk Ro Tm
   go_upto_region 25 with fail
   have HG:=Zh (HG.o.below (YG _ _).drew)
   have HO:=Zh (X9 HO.o (YG _ _).drew)
   have k0:(wr.drew).cell? ⟨w.heap.size+1,9,none⟩=some (.slice a i q):=Zc HG.o.Y8 9 rfl
   refine QN ?_
   refine Z3.Yq (d:=15) (S:=(fun w'=>w'.cell? ⟨w.heap.size+1,9,none⟩=some (.slice a i q))) Zg ?_ (fun _=>?_)
   ·(try dsimp only)
    exact k0
   refine YP 0 (h:=YP 2 (h:=YP 3 (h:=YP 6 (h:=YP 7 (h:=YP 8 (h:=YK 1 (h:=?_)))))))
   refine YR 4 (h:=fun K hK=>?_)
   go_simp
   refine (C0.o _ HG.o.YI).mono ?_
   rintro e w' ⟨rfl,rfl⟩
   go_wp2_with fail
   refine Z3.Xl hK _ _ ?_ (fun _=>?_)
   ·(try dsimp only)
    first|exact k2|exact k1|exact k0
   clear hK K
   try simp only [Z3.pt]
   refine YP 5 (h:=?_)
   refine YR 9 (h:=fun K hK=>?_)
   go_simp
   refine (C1.o _ HG.o.YI).mono ?_
   rintro e w' ⟨rfl,rfl⟩
   go_wp2_with fail
   refine Z3.Xl hK _ _ ?_ (fun _=>?_)
   ·(try dsimp only)
    first|exact k2|exact k1|exact k0
   clear hK K
   try simp only [Z3.pt]
   refine YP 10 (h:=YP 11 (h:=?_))
   refine YR 12 (h:=fun K hK=>?_)
   refine Va Zr LA (.tmp 119) Zr (Q0 (x0:Int) (x1:Int)) Zr Zr Zd ?_
   have HG:=Zh (HG.o.below (Z' wr.drew (.cells (Q0 (x0:Int) (x1:Int)) 226)))
   have HO:=Zh (X9 HO.o (Z' wr.drew (.cells (Q0 (x0:Int) (x1:Int)) 226)))
   have k1:=cell_of HG.o.Y8 9
   simp only [R9,R8,RT] at k1
   refine Z3.Xl hK _ _ ?_ (fun _=>?_)
   ·(try dsimp only)
    first|exact k2|exact k1|exact k0
   clear hK K
   try simp only [Z3.pt]
   refine YR 13 (h:=fun K hK=>?_)
   refine Zw Zr (.tmp 109) (.tmp 120) 171 Zr w.heap.size LA (.slice a i q) i ((T4 c i).flatMap WQ) Zr HO.o _ 1 ([((x0:Int),(x1:Int))].flatMap WQ) Zr (UJ wr.drew 226 1 ([((x0:Int),(x1:Int))].flatMap WQ) Zd) rfl (TV fun x _=>BZ x) Zo Zo ?_ ?_
   ·exact HG.o.YI.size
   intro v' w6 EX yr
   obtain ⟨na,nq,Ig,-⟩:=Row.ZV EX.o
   subst Ig
   have HG:=Zh (HG.o.grown HO.o Zd yr.o)
   have HO:Hid (w6.ownsRow w 226 2 (.slice na (i+1) nq) (i+1) ((T4 c i++[((x0:Int),(x1:Int))]).flatMap WQ)):=(by have h:=EX.o;rw [←QL] at h;exact h)
   have k2:=cell_of HG.o.Y8 9
   simp only [R9,R8,RT] at k2
   have f2:=ZI HG.o.Y8 9
   refine Z3.Xl hK _ _ ?_ (fun _=>?_)
   ·(try dsimp only)
    first|exact k2|exact k1|exact k0
   clear hK K
   try simp only [Z3.pt]
   refine YP 14 (h:=?_)
   refine YR 15 (h:=fun K hK=>?_)
   go_simp
   refine Z3.WO hK _ _ Zg ?_
   clear hK K
   try simp only [Z3.pt]
   refine Z3.Xz Zg ?_ _
   refine Py ?_
   go_wp2_with fail
   go_roundw
   case rel=>
    refine ⟨i+1,pos+4,na,nq,Zo,by have:=OI.o;omega,Zn,Zn,?_,?_⟩
    ·exact HG.o.set 9 (.slice na (i+1) nq)
    ·rw [Lj.o];exact KZ HO.o HG.o.Y8 Zd _ _
   case measure=>simp [intOf];omega
  ·have yU:i=n:=by omega
   subst yU
   have Tf:=Zh (Row.ZV HO.o)
   have UD:=HG.o.z
   have VD:=HG.o.Y8
   go_wp2_with (first|(with_reducible refine Yp 173 (.tmp 7) rfl ?_;refine Yd rfl 173 (.tmp 7) rfl (w.heap.size+1) rfl 173 (Qc 205 (ss:Int) 0 0 0 0 none 0 0 none 0 0 (md:Int) a i q) (0,0) _ VD Tryz.underlying173 rfl Zg ?_)|(with_reducible refine ZY 173 (.tmp 6) (.tmp 125) rfl ?_;refine ZW rfl 173 (.tmp 6) (.tmp 125) rfl rfl w.heap.size (Qc 205 (ss:Int) 0 0 0 0 none 0 0 none 0 0 (md:Int) a i q) rfl rfl 173 Y9 UD Zg Zg Zg ?_))
   refine VR (v:= .agg (Qc 205 (ss:Int) 0 0 0 0 none 0 0 none 0 0 (md:Int) a i q)) ?_ rfl ?_
   ·exact results_cell_row Zr _ _ w.heap.size 173 (Qc 205 (ss:Int) 0 0 0 0 none 0 0 none 0 0 (md:Int) a i q) (0,0) _ Zr (setRow_heap _ _ _ _ _ _ UD) Tryz.underlying173 rfl Zg
   refine ⟨⟨_,rfl,?_⟩,Z0 HG.o.YI (ZB _) _⟩
   rw [HX.o]
   have hr:UY wr ⟨⟨205,(ss:Int),0,0,0,0,[],[],(md:Int),T4 c i⟩,.slice none 0 0,.slice none 0 0,.slice a i q⟩:=⟨Row.nil _ _,Row.nil _ _,by show Row wr _ _ (T4 c i).length _;rw [show (T4 c i).length=i by unfold T4;rw [UM,List.length_range]];exact Tf.o⟩
   have Lf:=UY.setRow hr UD (Qc 205 (ss:Int) 0 0 0 0 none 0 0 none 0 0 (md:Int) a i q)
   exact ⟨_,_,_,rfl,Lf.b,Lf.g,Lf.p⟩
theorem zK (v:Value) (n:Nat) (c:List UInt8) (w:World) (hv:Yn w v c) (hn:n≤1000) :
  Calls Tryz.prog 117 (Q6 201 (n:Int) v) w fun e w'=>(∃ a,e = .returned a∧TN w' a (XP 201 n c))∧Below w w w':=by
 have CR:=Zh (fun (p q:Int) (w':World) (h:Below w w w')=>RX v c p q w' (hv.below h))
 obtain ⟨ss,Nu⟩:∃ x:Nat,x=get c 0 4:=⟨_,rfl⟩
 have pU:=Zh (fun (w':World) (h:Below w w w')=>CR.o 0 4 w' h)
 rw [←Nu] at pU
 have bss:IntKind.u32.wrap (ss:Int)=(ss:Int):=by have:=Xu c 0;rw [NC];omega
 have HX:Hid (XP 201 n c=⟨201,(ss:Int),0,0,0,0,VP c 4 n,[],0,[]⟩):=by
  show _=_
  unfold XP
  rw [Nu]
  simp
 generalize XP 201 n c=X at *
 clear Nu
 have H1:Hid (GI w (((w.alloc (.cells Y9 173)).alloc (.cells Y9 173)).setRow (w.heap.size+1) iq) Yz9):=GI.start w 201
 have hz:((w.alloc (.cells Y9 173)).alloc (.cells Y9 173)).heap[w.heap.size+1]?=some (.cells Y9 173 (0,0)):=by
  exact uS
 clear hv
 go_enter Tryz.func117,Tryz.ntmps117
 go_upto_region 2 with (with_reducible refine ZY 173 (.tmp 7) (.tmp 11) rfl ?_;refine ZW rfl 173 (.tmp 7) (.tmp 11) rfl rfl (w.heap.size+1) iq rfl rfl 173 Y9 hz Zg Zg Zg ?_)
 clear hz
 generalize ((w.alloc (.cells Y9 173)).alloc (.cells Y9 173)).setRow (w.heap.size+1) iq=w1 at *
 have z1:=cell_of H1.o.Y8 1
 simp only [R9,R8,RT] at z1
 have f1:=ZI H1.o.Y8 1
 go_upto_region 5 with (go_at_call 118;refine (pU.o _ H1.o.YI).mono ?_;rintro e w' ⟨rfl,rfl⟩)
 have H2:Hid (GI w (w1.setCell ⟨w.heap.size+1,1,none⟩ (.int .u32 (ss:Int))) (Qc 201 (ss:Int) 0 0 0 0 none 0 0 none 0 0 0 none 0 0)):=H1.o.set 1 (.int .u32 (ss:Int))
 clear z1 f1
 generalize w1.setCell ⟨w.heap.size+1,1,none⟩ (.int .u32 (ss:Int))=w2 at *
 go_wp2_with fail
 go_loopw [8,9] (fun s8 s9 w'=>∃ (i pos:Nat) (a:Option Addr) (q:Nat),i≤n∧pos=4+24*i∧s9 = .int .i64 (i:Int)∧s8 = .int .i64 (pos:Int)∧GI w w' (Qc 201 (ss:Int) 0 0 0 0 a i q none 0 0 0 none 0 0)∧w'.ownsRow w 228 7 (.slice a i q) i ((VP c 4 i).flatMap XC)) (fun _ s9 _=>n-(intOf s9).toNat)
 case atStart=>exact ⟨0,4,none,0,Zo,Zo,rfl,rfl,H2.o,Us _ _ _ _⟩
 case round=>
  obtain ⟨i,pos,a,q,hi,Rk,rfl,rfl,Fp,YO⟩:=hrel
  have HG:=Zh Fp
  have HO:=Zh YO
  clear Fp YO H2
  by_cases Ie:i<n
  ·obtain ⟨x0,Ro⟩:∃ x:Nat,x=get c (pos:Int) 4:=⟨_,rfl⟩
   obtain ⟨x1,Tm⟩:∃ x:Nat,x=get c ((pos:Int)+4) 1:=⟨_,rfl⟩
   obtain ⟨x2,OY⟩:∃ x:Nat,x=get c ((pos:Int)+5) 3:=⟨_,rfl⟩
   obtain ⟨x3,OG⟩:∃ x:Nat,x=get c ((pos:Int)+8) 4:=⟨_,rfl⟩
   obtain ⟨x4,MA⟩:∃ x:Nat,x=get c ((pos:Int)+12) 4:=⟨_,rfl⟩
   obtain ⟨x5,BC⟩:∃ x:Nat,x=get c ((pos:Int)+16) 4:=⟨_,rfl⟩
   obtain ⟨x6,jS⟩:∃ x:Nat,x=get c ((pos:Int)+20) 4:=⟨_,rfl⟩
   have Lj:Hid (VP c 4 (i+1)=VP c 4 i++[⟨x0,x1,x2,x3,x4,x5,x6⟩]):=by
    show _=_
    rw [Ro,Tm,OY,OG,MA,BC,jS,Rk]
    unfold VP
    rw [Aq,ND]
    rfl
   have C0:=Zh (fun (w':World) (h:Below w w w')=>CR.o (pos:Int) 4 w' h)
   rw [←Ro] at C0
   have Ri:IntKind.u32.wrap (x0:Int)=(x0:Int):=by have:=Xu c (pos:Int);rw [NC];omega
   have C1:=Zh (fun (w':World) (h:Below w w w')=>CR.o ((pos:Int)+4) 1 w' h)
   rw [←Tm] at C1
   have Zj:IntKind.u8.wrap (x1:Int)=(x1:Int):=by have:=xA c ((pos:Int)+4);rw [IntKind.wrap_u8];omega
   have Fw:IntKind.i64.wrap ((pos:Int)+4)=(pos:Int)+4:=Ua _ Zo
   have C2:=Zh (fun (w':World) (h:Below w w w')=>CR.o ((pos:Int)+5) 3 w' h)
   rw [←OY] at C2
   have Y0:IntKind.u32.wrap (x2:Int)=(x2:Int):=by have:=xB c ((pos:Int)+5);rw [NC];omega
   have dg:IntKind.i64.wrap ((pos:Int)+5)=(pos:Int)+5:=Ua _ Zo
   have C3:=Zh (fun (w':World) (h:Below w w w')=>CR.o ((pos:Int)+8) 4 w' h)
   rw [←OG] at C3
   have Ut:IntKind.u32.wrap (x3:Int)=(x3:Int):=by have:=Xu c ((pos:Int)+8);rw [NC];omega
   have hp3:IntKind.i64.wrap ((pos:Int)+8)=(pos:Int)+8:=Ua _ Zo
   have C4:=Zh (fun (w':World) (h:Below w w w')=>CR.o ((pos:Int)+12) 4 w' h)
   rw [←MA] at C4
   have TE:IntKind.u32.wrap (x4:Int)=(x4:Int):=by have:=Xu c ((pos:Int)+12);rw [NC];omega
   have hp4:IntKind.i64.wrap ((pos:Int)+12)=(pos:Int)+12:=Ua _ Zo
   have C5:=Zh (fun (w':World) (h:Below w w w')=>CR.o ((pos:Int)+16) 4 w' h)
   rw [←BC] at C5
   have LM:IntKind.u32.wrap (x5:Int)=(x5:Int):=by have:=Xu c ((pos:Int)+16);rw [NC];omega
   have hp5:IntKind.i64.wrap ((pos:Int)+16)=(pos:Int)+16:=Ua _ Zo
   have C6:=Zh (fun (w':World) (h:Below w w w')=>CR.o ((pos:Int)+20) 4 w' h)
   rw [←jS] at C6
   have Fl:IntKind.u32.wrap (x6:Int)=(x6:Int):=by have:=Xu c ((pos:Int)+20);rw [NC];omega
   have hp6:IntKind.i64.wrap ((pos:Int)+20)=(pos:Int)+20:=Ua _ Zo
   have mh:IntKind.i64.wrap ((pos:Int)+24)=(pos:Int)+24:=Ua _ Zo
   have Fx:pos≤100000:=by omega
   have OI:=Zh Rk
   clear Rk Ro Tm OY OG MA BC jS
   go_upto_region 19 with fail
   have HG:=Zh (HG.o.below (YG _ _).drew)
   have HO:=Zh (X9 HO.o (YG _ _).drew)
   have k0:(wr.drew).cell? ⟨w.heap.size+1,6,none⟩=some (.slice a i q):=Zc HG.o.Y8 6 rfl
   refine QN ?_
   refine Z3.Yq (d:=40) (S:=(fun w'=>w'.cell? ⟨w.heap.size+1,6,none⟩=some (.slice a i q))) Zg ?_ (fun _=>?_)
   ·(try dsimp only)
    exact k0
   refine YP 0 (h:=YP 2 (h:=YP 3 (h:=YP 6 (h:=YP 7 (h:=YP 8 (h:=YP 11 (h:=YP 12 (h:=YP 13 (h:=YP 16 (h:=YP 17 (h:=YP 18 (h:=YP 21 (h:=YP 22 (h:=YP 23 (h:=YP 26 (h:=YP 27 (h:=YP 28 (h:=YP 31 (h:=YP 32 (h:=YP 33 (h:=YK 1 (h:=?_))))))))))))))))))))))
   refine YR 4 (h:=fun K hK=>?_)
   go_simp
   refine (C0.o _ HG.o.YI).mono ?_
   rintro e w' ⟨rfl,rfl⟩
   go_wp2_with fail
   refine Z3.Xl hK _ _ ?_ (fun _=>?_)
   ·(try dsimp only)
    first|exact k2|exact k1|exact k0
   clear hK K
   try simp only [Z3.pt]
   refine YP 5 (h:=?_)
   refine YR 9 (h:=fun K hK=>?_)
   go_simp
   refine (C1.o _ HG.o.YI).mono ?_
   rintro e w' ⟨rfl,rfl⟩
   go_wp2_with fail
   refine Z3.Xl hK _ _ ?_ (fun _=>?_)
   ·(try dsimp only)
    first|exact k2|exact k1|exact k0
   clear hK K
   try simp only [Z3.pt]
   refine YP 10 (h:=?_)
   refine YR 14 (h:=fun K hK=>?_)
   go_simp
   refine (C2.o _ HG.o.YI).mono ?_
   rintro e w' ⟨rfl,rfl⟩
   go_wp2_with fail
   refine Z3.Xl hK _ _ ?_ (fun _=>?_)
   ·(try dsimp only)
    first|exact k2|exact k1|exact k0
   clear hK K
   try simp only [Z3.pt]
   refine YP 15 (h:=?_)
   refine YR 19 (h:=fun K hK=>?_)
   go_simp
   refine (C3.o _ HG.o.YI).mono ?_
   rintro e w' ⟨rfl,rfl⟩
   go_wp2_with fail
   refine Z3.Xl hK _ _ ?_ (fun _=>?_)
   ·(try dsimp only)
    first|exact k2|exact k1|exact k0
   clear hK K
   try simp only [Z3.pt]
   refine YP 20 (h:=?_)
   refine YR 24 (h:=fun K hK=>?_)
   go_simp
   refine (C4.o _ HG.o.YI).mono ?_
   rintro e w' ⟨rfl,rfl⟩
   go_wp2_with fail
   refine Z3.Xl hK _ _ ?_ (fun _=>?_)
   ·(try dsimp only)
    first|exact k2|exact k1|exact k0
   clear hK K
   try simp only [Z3.pt]
   refine YP 25 (h:=?_)
   refine YR 29 (h:=fun K hK=>?_)
   go_simp
   refine (C5.o _ HG.o.YI).mono ?_
   rintro e w' ⟨rfl,rfl⟩
   go_wp2_with fail
   refine Z3.Xl hK _ _ ?_ (fun _=>?_)
   ·(try dsimp only)
    first|exact k2|exact k1|exact k0
   clear hK K
   try simp only [Z3.pt]
   refine YP 30 (h:=?_)
   refine YR 34 (h:=fun K hK=>?_)
   go_simp
   refine (C6.o _ HG.o.YI).mono ?_
   rintro e w' ⟨rfl,rfl⟩
   go_wp2_with fail
   refine Z3.Xl hK _ _ ?_ (fun _=>?_)
   ·(try dsimp only)
    first|exact k2|exact k1|exact k0
   clear hK K
   try simp only [Z3.pt]
   refine YP 35 (h:=YP 36 (h:=?_))
   refine YR 37 (h:=fun K hK=>?_)
   refine Va Zr NI (.tmp 87) Zr (Qq (x0:Int) (x1:Int) (x2:Int) (x3:Int) (x4:Int) (x5:Int) (x6:Int)) Zr Zr Zd ?_
   have HG:=Zh (HG.o.below (Z' wr.drew (.cells (Qq (x0:Int) (x1:Int) (x2:Int) (x3:Int) (x4:Int) (x5:Int) (x6:Int)) 228)))
   have HO:=Zh (X9 HO.o (Z' wr.drew (.cells (Qq (x0:Int) (x1:Int) (x2:Int) (x3:Int) (x4:Int) (x5:Int) (x6:Int)) 228)))
   have k1:=cell_of HG.o.Y8 6
   simp only [R9,R8,RT] at k1
   refine Z3.Xl hK _ _ ?_ (fun _=>?_)
   ·(try dsimp only)
    first|exact k2|exact k1|exact k0
   clear hK K
   try simp only [Z3.pt]
   refine YR 38 (h:=fun K hK=>?_)
   refine Zw Zr (.tmp 52) (.tmp 88) 170 Zr w.heap.size NI (.slice a i q) i ((VP c 4 i).flatMap XC) Zr HO.o _ 1 ([(⟨x0,x1,x2,x3,x4,x5,x6⟩:uB)].flatMap XC) Zr (UJ wr.drew 228 1 ([(⟨x0,x1,x2,x3,x4,x5,x6⟩:uB)].flatMap XC) Zd) rfl (TV fun x _=>DV x) Zo Zo ?_ ?_
   ·exact HG.o.YI.size
   intro v' w6 EX yr
   obtain ⟨na,nq,Ig,-⟩:=Row.ZV EX.o
   subst Ig
   have HG:=Zh (HG.o.grown HO.o Zd yr.o)
   have HO:Hid (w6.ownsRow w 228 7 (.slice na (i+1) nq) (i+1) ((VP c 4 i++[(⟨x0,x1,x2,x3,x4,x5,x6⟩:uB)]).flatMap XC)):=(by have h:=EX.o;rw [←QL] at h;exact h)
   exact aZ
  ·have yU:i=n:=by omega
   subst yU
   have Tf:=Zh (Row.ZV HO.o)
   have UD:=HG.o.z
   have VD:=HG.o.Y8
   go_wp2_with (first|(with_reducible refine Yp 173 (.tmp 7) rfl ?_;refine Yd rfl 173 (.tmp 7) rfl (w.heap.size+1) rfl 173 (Qc 201 (ss:Int) 0 0 0 0 a i q none 0 0 0 none 0 0) (0,0) _ VD Tryz.underlying173 rfl Zg ?_)|(with_reducible refine ZY 173 (.tmp 6) (.tmp 125) rfl ?_;refine ZW rfl 173 (.tmp 6) (.tmp 125) rfl rfl w.heap.size (Qc 201 (ss:Int) 0 0 0 0 a i q none 0 0 0 none 0 0) rfl rfl 173 Y9 UD Zg Zg Zg ?_))
   refine VR (v:= .agg (Qc 201 (ss:Int) 0 0 0 0 a i q none 0 0 0 none 0 0)) ?_ rfl ?_
   ·exact results_cell_row Zr _ _ w.heap.size 173 (Qc 201 (ss:Int) 0 0 0 0 a i q none 0 0 0 none 0 0) (0,0) _ Zr (setRow_heap _ _ _ _ _ _ UD) Tryz.underlying173 rfl Zg
   refine ⟨⟨_,rfl,?_⟩,Z0 HG.o.YI (ZB _) _⟩
   rw [HX.o]
   have hr:UY wr ⟨⟨201,(ss:Int),0,0,0,0,VP c 4 i,[],0,[]⟩,.slice a i q,.slice none 0 0,.slice none 0 0⟩:=⟨by show Row wr _ _ (VP c 4 i).length _;rw [show (VP c 4 i).length=i by unfold VP;rw [UM,List.length_range]];exact Tf.o,Row.nil _ _,Row.nil _ _⟩
   have Lf:=UY.setRow hr UD (Qc 201 (ss:Int) 0 0 0 0 a i q none 0 0 0 none 0 0)
   exact ⟨_,_,_,rfl,Lf.b,Lf.g,Lf.p⟩
end Go.Proofs.By
