/- Part of a proof. -/
import Derived.Test.YtpdjhlcbcomdkaaGreatDoorW29
set_option linter.unusedVariables false
set_option linter.unusedSimpArgs false
set_option maxRecDepth 100000
set_option maxHeartbeats 16000000
open Go Go.Q Go.Qr
namespace Go.Proofs.By
open Go.RowKit Go.Proofs.Heap Go.Proofs
theorem NH {P:Program} {fn:Func} {p q u:Tmp} {ty tz:TypeId} (h:fn.results=#[.cell p ty,.cell q tz,.tmp u]) (tmps:Array Value) (w:World) (g k:Nat) (t s:TypeId) (cs ds:Array Value) (fr fs:Nat × Nat) (d e:TypeDesc)
  (hp:tmps.getD p undef = .pointer (some ⟨g,0,none⟩)) (hq:tmps.getD q undef = .pointer (some ⟨k,0,none⟩)) (hg:w.heap[g]?=some (.cells cs t fr)) (hk:w.heap[k]?=some (.cells ds s fs))
  (hu:P.underlying ty=some d) (hv:P.underlying tz=some e) (hd:(match d with | .struct _ | .array _ _=>true|_=>false)=true) (he:(match e with | .struct _ | .array _ _=>true|_=>false)=true) (hi:(P.info? ty).map (·.size)=some cs.size) (hj:(P.info? tz).map (·.size)=some ds.size) :
  (results fn tmps).run P w = .ok (.tuple #[.agg cs,.agg ds,tmps.getD u undef]) w:=by
 have tq:tmps[p]?.getD undef = .pointer (some ⟨g,0,none⟩):=by simpa using hp
 have lg:tmps[q]?.getD undef = .pointer (some ⟨k,0,none⟩):=by simpa using hq
 simp [results,h,tq,lg,asAddr,run_loadVar_row w g t ty cs fr d hg hu hd hi,run_loadVar_row w k s tz ds fs e hk hv he hj]
theorem TZ {P:Program} {w:World} {op:Oper} {a:Act} (ty:TypeId) (x:Operand) (ho:op.op = .load ty x) (g:Nat) (hx:a.eval x = .pointer (some ⟨g,0,none⟩)) (t:TypeId) (cs:Array Value) (fr:Nat × Nat) (d:TypeDesc) (hg:w.heap[g]?=some (.cells cs t fr))
  (hu:P.underlying ty=some d) (hd:(match d with | .struct _ | .array _ _=>true|_=>false)=true) (hi:(P.info? ty).map (·.size)=some cs.size):(execOp a.eval op).run P w = .ok (.value (.agg cs)) w:=by
 unfold execOp
 simp only [ho,hx,Instr.loadAt,Instr.sureAddr,Sem.run_bind,Sem.run_pure,Result.andThen_ok,run_loadVar_row w g t ty cs fr d hg hu hd hi]
theorem Vt.setRow {w:World} {p:KZ} {cv ev pv:Value} (h:Vt w p cv ev pv) {g:Nat} {c:Array Value} {t:TypeId} {f:Nat × Nat} (hg:w.heap[g]?=some (.cells c t f)) (h1:66≠t) (h2:5≠t) (cs:Array Value):Vt (w.setRow g cs) p cv ev pv:=
 ⟨Row.setRow h.c hg h1 _,Row.setRow h.e hg h2 _,Row.setRow h.p hg h2 _⟩
def TM (b:List UInt8):(KZ × F3) × Int:=if (YM b).2≠0 then ((WU,TG),(YM b).2) else if (YB (YM b).1.ZH).2≠0 then ((WU,TG),(YB (YM b).1.ZH).2) else (((YM b).1,(YB (YM b).1.ZH).1),0)
theorem xN (v:Value) (b:List UInt8) (w:World) (hv:X9 w v b) :
  Calls Tryz.prog 71 #[v] w fun e w'=>(∃ a,e = .returned (.tuple #[a,oF (TM b).1.2,.int .i64 (TM b).2])∧Oe w' a (TM b).1.1)∧Below w w w':=by
 have HC:=Zh (fun (w':World) (h:Below w w w')=>tW v b w' (hv.below h))
 have HX:Hid (TM b=if (YM b).2≠0 then ((WU,TG),(YM b).2) else if (YB (YM b).1.ZH).2≠0 then ((WU,TG),(YB (YM b).1.ZH).2) else (((YM b).1,(YB (YM b).1.ZH).1),0)):=rfl
 obtain ⟨va,c,rfl,-⟩:=id hv
 clear hv
 have Vp:Hid (Below w w ((w.alloc (.cells (Qb false 0 0 0 0 none 0 0 false 0 none 0 0 none 0 0 0) 79)).alloc (.cells (Qc 0 false false 0) 81))):=ZC (Z' w _) (Zw _) _
 have e1:(w.alloc (.cells (Qb false 0 0 0 0 none 0 0 false 0 none 0 0 none 0 0 0) 79)).heap.size=w.heap.size+1:=by show (w.heap.push _).size=_;rw [O6]
 have e2:((w.alloc (.cells (Qb false 0 0 0 0 none 0 0 false 0 none 0 0 none 0 0 0) 79)).alloc (.cells (Qc 0 false false 0) 81)).heap.size=w.heap.size+2:=by show ((w.alloc (.cells (Qb false 0 0 0 0 none 0 0 false 0 none 0 0 none 0 0 0) 79)).heap.push _).size=_;rw [O6,e1]
 have z1:((w.alloc (.cells (Qb false 0 0 0 0 none 0 0 false 0 none 0 0 none 0 0 0) 79)).alloc (.cells (Qc 0 false false 0) 81)).heap[w.heap.size+1]?=some (.cells (Qc 0 false false 0) 81 (0,0)):=by
  have h:=Z7 (w.alloc (.cells (Qb false 0 0 0 0 none 0 0 false 0 none 0 0 none 0 0 0) 79)) (.cells (Qc 0 false false 0) 81)
  rw [e1] at h
  exact h
 have z0:((w.alloc (.cells (Qb false 0 0 0 0 none 0 0 false 0 none 0 0 none 0 0 0) 79)).alloc (.cells (Qc 0 false false 0) 81)).heap[w.heap.size]?=some (.cells (Qb false 0 0 0 0 none 0 0 false 0 none 0 0 none 0 0 0) 79 (0,0)):=by
  rw [(Z' (w.alloc (.cells (Qb false 0 0 0 0 none 0 0 false 0 none 0 0 none 0 0 0) 79)) _).block _ (by rw [e1];omega)]
  exact Z7 w _
 have HZ:Hid (((w.alloc (.cells (Qb false 0 0 0 0 none 0 0 false 0 none 0 0 none 0 0 0) 79)).alloc (.cells (Qc 0 false false 0) 81)).heap[w.heap.size+1]?=some (.cells (Qc 0 false false 0) 81 (0,0))∧((w.alloc (.cells (Qb false 0 0 0 0 none 0 0 false 0 none 0 0 none 0 0 0) 79)).alloc (.cells (Qc 0 false false 0) 81)).heap[w.heap.size]?=some (.cells (Qb false 0 0 0 0 none 0 0 false 0 none 0 0 none 0 0 0) 79 (0,0))∧((w.alloc (.cells (Qb false 0 0 0 0 none 0 0 false 0 none 0 0 none 0 0 0) 79)).alloc (.cells (Qc 0 false false 0) 81)).heap.size=w.heap.size+2):=⟨z1,z0,e2⟩
 clear z0 z1 e1 e2
 generalize TM b=X at *
 generalize YM b=Y at *
 obtain ⟨P,er⟩:=Y
 dsimp only at HC HX
 go_enter Tryz.func71,Tryz.ntmps71
 go_upto_region 2 with (go_at_call 94;refine (HC.o _ Vp.o).mono ?_;rintro e w2 ⟨⟨a0,f0,t0,rfl,⟨cv,ev,pv,ij,q1,q2,q3⟩⟩,Y0⟩;obtain ⟨ca,cc,F6,-⟩:=id q1;obtain ⟨ea,ec,Lm,-⟩:=id q2;obtain ⟨pa,pc,Mr,-⟩:=id q3;subst F6;subst Lm;subst Mr;dsimp only [Hj] at ij;subst ij;have HR:Hid (Vt w2 P (.slice ca P.VW.length cc) (.slice ea P.ext.length ec) (.slice pa P.ZH.length pc)):=⟨q1,q2,q3⟩;have X6:=Zh Y0;clear q1 q2 q3 Y0)
 clear HC
 have IG:Hid (Below w w w2):=Vp.o.trans (X6.o.mono Vp.o.size)
 have tC:w.heap.size+2≤w2.heap.size:=by have:=X6.o.size;rw [HZ.o.2.2] at this;exact this
 have HY:Hid (∀ w',Below w2 w2 w'→w'.heap[w.heap.size+1]?=some (.cells (Qc 0 false false 0) 81 (0,0))∧w'.heap[w.heap.size]?=some (.cells (Qb false 0 0 0 0 none 0 0 false 0 none 0 0 none 0 0 0) 79 (0,0))):=fun w' h=>by
  have k:=HZ.o.2.2
  exact ⟨(h.block _ Zo).trans ((X6.o.block _ Zo).trans HZ.o.1),(h.block _ Zo).trans ((X6.o.block _ Zo).trans HZ.o.2.1)⟩
 have DU:Hid (Below w w (w2.alloc (.cells (Jt P ca cc ea ec pa pc) 79))):=ZC IG.o (Zw _) _
 by_cases R9:er=0
 rotate_left
 ·have bl:(er != 0)=true:=by rw [R6];exact R9
  rw [ZQ R9] at HX
  obtain ⟨y1,y0⟩:=HY.o _ (Z' w2 (.cells (Jt P ca cc ea ec pa pc) 79))
  clear HZ
  go_wp2_with (first|((with_reducible refine ZU 79 (.tmp 2) (.tmp 19) rfl ?_);refine Zs y0 ?_)|((with_reducible refine ZU 81 (.tmp 3) (.tmp 20) rfl ?_);refine Zs ((setRow_other _ _ _ _ Zo).trans y1) ?_))
  refine VJ (v:= .tuple (Jl (Qb false 0 0 0 0 none 0 0 false 0 none 0 0 none 0 0 0) (Qc 0 false false 0) er)) ?_ rfl ?_
  ·exact Yt8
  exact ⟨⟨_,by rw [HX.o];rfl,by rw [HX.o];exact Hk _⟩,Z3 (Z3 DU.o (Zw _) _) (IP _) _⟩
 subst R9
 have HD:Hid (∀ w1,Below w2 w2 w1→Calls Tryz.prog 95 #[.slice pa P.ZH.length pc] w1 fun e w'=>e = .returned (.tuple (Qo (Qc (YB P.ZH).1.ZF (YB P.ZH).1.key (YB P.ZH).1.start (YB P.ZH).1.frame) (YB P.ZH).2))∧Below w1 w1 w'):=fun w1 h=>Dt _ P.ZH w1 (HR.o.p.below h).r
 rw [Z4 Zi] at HX
 generalize YB P.ZH=D at *
 obtain ⟨d,de⟩:=D
 dsimp only at HD HX
 have Im:w2.heap.size<(w2.alloc (.cells (Jt P ca cc ea ec pa pc) 79)).heap.size:=by show _<(w2.heap.push _).size;rw [O6];exact Nat.lt_succ_self _
 have Z0:=Z7 w2 (.cells (Jt P ca cc ea ec pa pc) 79)
 go_upto_region 5 with (go_at_call 95;refine (HD.o _ (Z' _ _)).mono ?_;rintro e w3 ⟨rfl,VH⟩;have VT:=Zh VH;have yp:=(VH.block _ Im).trans Z0;have yY:w2.heap.size<w3.heap.size:=Pb Im VH.size;clear VH)
 have jb:Hid (Below w2 w2 w3):=(Z' w2 _).trans (VT.o.mono (gW Im))
 have DV:Hid (Below w w (w3.alloc (.cells (Jp d) 81))):=ZC (IG.o.trans (jb.o.mono IG.o.size)) (Zw _) _
 have M4:=Zh ((HR.o.below jb.o).below (Z' w3 (.cells (Jp d) 81)))
 have y5:=((Z' w3 (.cells (Jp d) 81)).block _ yY).trans yp
 obtain ⟨y1,y0⟩:=HY.o _ (jb.o.trans ((Z' w3 (.cells (Jp d) 81)).mono jb.o.size))
 clear Z0 VT HD yp
 by_cases iu:de=0
 rotate_left
 ·have bl:(de != 0)=true:=by rw [R6];exact iu
  rw [ZQ iu] at HX
  go_wp2_with (first|((with_reducible refine ZU 79 (.tmp 2) (.tmp 30) rfl ?_);refine Zs y0 ?_)|((with_reducible refine ZU 81 (.tmp 3) (.tmp 31) rfl ?_);refine Zs ((setRow_other _ _ _ _ Zo).trans y1) ?_))
  refine VJ (v:= .tuple (Jl (Qb false 0 0 0 0 none 0 0 false 0 none 0 0 none 0 0 0) (Qc 0 false false 0) de)) ?_ rfl ?_
  ·exact Yt8
  exact ⟨⟨_,by rw [HX.o];rfl,by rw [HX.o];exact Hk _⟩,Z3 (Z3 DV.o (Zw _) _) (IP _) _⟩
 subst iu
 rw [Z4 Zi] at HX
 have y6:=Z7 w3 (.cells (Jp d) 81)
 have aj:=Zh ((YH (w3.alloc (.cells (Jp d) 81)).heap.size (w3.alloc (.cells (Jp d) 81))).drew)
 have HBV9:=Zh (DV.o.trans (aj.o.mono DV.o.size))
 have HRV9:=Zh (M4.o.below aj.o)
 go_wp2_with fail
 replace y0:=(aj.o.block _ (ZV y0)).trans y0
 replace y1:=(aj.o.block _ (ZV y1)).trans y1
 replace y5:=(aj.o.block _ (ZV y5)).trans y5
 replace y6:=(aj.o.block _ (ZV y6)).trans y6
 refine Sd ?_
 refine Z_.Zu (d:=3) (S:=(fun w'=>w'.heap[w2.heap.size]?=some (.cells (Jt P ca cc ea ec pa pc) 79 (0,0))∧w'.heap[w3.heap.size]?=some (.cells (Jp d) 81 (0,0)))) Zk ?_ (fun X_=>?_)
 ·exact ⟨y5,y6⟩
 refine YK 0 (hy:=by intro wS TE;refine TZ 79 (.tmp 5) ?_ w2.heap.size ?_ 79 (Jt P ca cc ea ec pa pc) (0,0) _ TE.1 Tryz.underlying79 rfl Zk;all_goals rfl) (h:=?_)
 refine YK 1 (hy:=by intro wS TE;refine TZ 81 (.tmp 9) ?_ w3.heap.size ?_ 81 (Jp d) (0,0) _ TE.2 Tryz.underlying81 rfl Zk;all_goals rfl) (h:=?_)
 refine YR 2 (h:=fun K hK=>?_)
 rw [ZQ Zr]
 refine wp_store_row 79 (.tmp 2) (.tmp 33) rfl w.heap.size (Jt P ca cc ea ec pa pc) rfl rfl 79 _ y0 Zk Zk Zk ?_
 refine Z_.Y_ hK _ _ ?_ (fun XC=>?_)
 ·exact ⟨(setRow_other _ _ _ _ Zo).trans y5,(setRow_other _ _ _ _ Zo).trans y6⟩
 clear hK K
 try simp only [Z_.pt]
 refine YR 3 (h:=fun K hK=>?_)
 rw [ZQ Zr]
 refine wp_store_row 81 (.tmp 3) (.tmp 34) rfl (w.heap.size+1) (Jp d) rfl rfl 81 _ ((setRow_other _ _ _ _ Zo).trans y1) Zk Zk Zk ?_
 refine Z_.Ye hK _ _ Zk ?_
 clear hK K
 try simp only [Z_.pt]
 refine YP 4 (h:=?_)
 refine Z_.Yr Zk ?_ _
 refine QY ?_
 go_wp2_with fail
 refine VJ (v:= .tuple (Jl (Jt P ca cc ea ec pa pc) (Jp d) 0)) ?_ rfl ?_
 ·exact NH (p:=2) (q:=3) (u:=4) Zr _ _ w.heap.size (w.heap.size+1) 79 81 (Jt P ca cc ea ec pa pc) (Jp d) (0,0) (0,0) _ _ Zr Zr ((setRow_other _ _ _ _ Zo).trans (setRow_heap _ _ _ _ _ _ y0)) (setRow_heap _ _ _ _ _ _ ((setRow_other _ _ _ _ Zo).trans y1)) Tryz.underlying79 Tryz.underlying81 rfl rfl Zk Zk
 have HRZ:=Vt.setRow (Vt.setRow HRV9.o y0 Zd Zd (Jt P ca cc ea ec pa pc)) ((setRow_other _ _ _ _ Zo).trans y1) Zd Zd (Jp d)
 exact ⟨⟨_,by rw [HX.o];rfl,by rw [HX.o];exact ⟨_,_,_,rfl,HRZ.c,HRZ.e,HRZ.p⟩⟩,Z3 (Z3 HBV9.o (Zw _) _) (IP _) _⟩
theorem ud (v:Value) (n:Nat) (c:List UInt8) (w:World) (hv:X9 w v c) (hn:n≤1000) :
  Calls Tryz.prog 117 (Q7 203 (n:Int) v) w fun e w'=>(∃ a,e = .returned a∧Td w' a (Xu 203 n c))∧Below w w w':=by
 have CR:=Zh (fun (p q:Int) (w':World) (h:Below w w w')=>Rz v c p q w' (hv.below h))
 have HX:Hid (Xu 203 n c=⟨203,0,0,0,0,0,[],Uf c n,0,[]⟩):=by
  show _=_
  unfold Xu
  simp
 generalize Xu 203 n c=X at *
 have H1:Hid (GI w (((w.alloc (.cells YY 173)).alloc (.cells YY 173)).setRow (w.heap.size+1) cQ) Yz7):=GI.start w 203
 have hz:((w.alloc (.cells YY 173)).alloc (.cells YY 173)).heap[w.heap.size+1]?=some (.cells YY 173 (0,0)):=by
  exact sk
 clear hv
 go_enter Tryz.func117,Tryz.ntmps117
 go_upto_region 2 with (with_reducible refine ZU 173 (.tmp 7) (.tmp 11) rfl ?_;refine ZW rfl 173 (.tmp 7) (.tmp 11) rfl rfl (w.heap.size+1) cQ rfl rfl 173 YY hz ZB ZB ZB ?_)
 clear hz
 generalize ((w.alloc (.cells YY 173)).alloc (.cells YY 173)).setRow (w.heap.size+1) cQ=w1 at *
 go_wp2_with fail
 go_loopw [8,9] (fun s8 s9 w'=>∃ (i pos:Nat) (a:Option Addr) (q:Nat),i≤n∧pos=0+4*i∧s9 = .int .i64 (i:Int)∧s8 = .int .i64 (pos:Int)∧GI w w' (Qd 203 0 0 0 0 0 none 0 0 a i q 0 none 0 0)∧w'.ownsRow w 66 1 (.slice a i q) i (YO (Uf c i))) (fun _ s9 _=>n-(intOf s9).toNat)
 case atStart=>exact ⟨0,0,none,0,Zo,Zo,rfl,rfl,H1.o,Ua _ _ _ _⟩
 case round=>
  obtain ⟨i,pos,a,q,hi,QQ,rfl,rfl,Er,YJ⟩:=hrel
  have HG:=Zh Er
  have HO:=Zh YJ
  clear Er YJ H1
  by_cases GW:i<n
  ·obtain ⟨x0,QU⟩:∃ x:Nat,x=get c (pos:Int) 4:=⟨_,rfl⟩
   have Mb:Hid (Uf c (i+1)=Uf c i++[(x0:Int)]):=by
    show _=_
    rw [QU,QQ]
    unfold Uf
    rw [ru,N7]
    simp
   have C0:=Zh (fun (w':World) (h:Below w w w')=>CR.o (pos:Int) 4 w' h)
   rw [←QU] at C0
   have N9:IntKind.u32.wrap (x0:Int)=(x0:Int):=by have:=WX c (pos:Int);rw [NW];omega
   have iO:IntKind.i64.wrap ((pos:Int)+4)=(pos:Int)+4:=Ty _ Zo
   have Ex:pos≤100000:=by omega
   have N0:=Zh QQ
   clear QQ QU
   go_upto_region 22 with fail
   have HG:=Zh (HG.o.below (YH _ _).drew)
   have HO:=Zh (Yx HO.o (YH _ _).drew)
   have k0:(wr.drew).cell? ⟨w.heap.size+1,7,none⟩=some (.slice a i q):=Zc HG.o.Za 7 rfl
   refine Sd ?_
   refine Z_.Zu (d:=9) (S:=(fun w'=>w'.cell? ⟨w.heap.size+1,7,none⟩=some (.slice a i q))) ZB ?_ (fun _=>?_)
   ·(try dsimp only)
    exact k0
   refine YP 0 (h:=YP 2 (h:=YP 3 (h:=YK 1 (h:=?_))))
   refine YR 4 (h:=fun K hK=>?_)
   go_simp
   refine (C0.o _ HG.o.Zj).mono ?_
   rintro e w' ⟨rfl,rfl⟩
   go_wp2_with fail
   refine Z_.Y_ hK _ _ ?_ (fun _=>?_)
   ·(try dsimp only)
    first|exact k2|exact k1|exact k0
   clear hK K
   try simp only [Z_.pt]
   refine YP 5 (h:=?_)
   refine YR 6 (h:=fun K hK=>?_)
   refine Yo Zr Vu (.tmp 100) Zr (.int .u32 (x0:Int)) Zr rfl ?_
   have HG:=Zh (HG.o.below (Z' wr.drew (.cells #[.int .u32 (x0:Int)] 66)))
   have HO:=Zh (Yx HO.o (Z' wr.drew (.cells #[.int .u32 (x0:Int)] 66)))
   have k1:=cell_of HG.o.Za 7
   simp only [SK,S6,SJ] at k1
   refine Z_.Y_ hK _ _ ?_ (fun _=>?_)
   ·(try dsimp only)
    first|exact k2|exact k1|exact k0
   clear hK K
   try simp only [Z_.pt]
   refine YR 7 (h:=fun K hK=>?_)
   refine Zp Zr (.tmp 96) (.tmp 101) 29 Zr w.heap.size Vu (.slice a i q) i (YO (Uf c i)) Zr HO.o _ 1 (YO [(x0:Int)]) Zr (VF wr.drew 66 1 (YO [(x0:Int)]) Zd) rfl (KI _) Zo Zo ?_ ?_
   ·exact HG.o.Zj.size
   intro v' w6 I2 zq
   obtain ⟨na,nq,NZ,-⟩:=Row.Z6 I2.o
   subst NZ
   have HG:=Zh (HG.o.grown HO.o Zd zq.o)
   have HO:Hid (w6.ownsRow w 66 1 (.slice na (i+1) nq) (i+1) (YO (Uf c i++[(x0:Int)]))):=(by have h:=I2.o;rw [show YO (Uf c i)++YO [(x0:Int)]=YO (Uf c i++[(x0:Int)]) from (N7 ..).symm] at h;exact h)
   have k2:=cell_of HG.o.Za 7
   simp only [SK,S6,SJ] at k2
   have f2:=ZO HG.o.Za 7
   refine Z_.Y_ hK _ _ ?_ (fun _=>?_)
   ·(try dsimp only)
    first|exact k2|exact k1|exact k0
   clear hK K
   try simp only [Z_.pt]
   refine YP 8 (h:=?_)
   refine YR 9 (h:=fun K hK=>?_)
   go_simp
   refine Z_.Ye hK _ _ ZB ?_
   clear hK K
   try simp only [Z_.pt]
   refine Z_.Yr ZB ?_ _
   refine QY ?_
   go_wp2_with fail
   go_roundw
   case rel=>
    refine ⟨i+1,pos+4,na,nq,Zo,by have:=N0.o;omega,Zn,Zn,?_,?_⟩
    ·exact HG.o.set 7 (.slice na (i+1) nq)
    ·rw [Mb.o];exact Kv HO.o HG.o.Za Zd _ _
   case measure=>simp [intOf];omega
  ·have wY:i=n:=by omega
   subst wY
   have SH:=Zh (Row.Z6 HO.o)
   have Ub:=HG.o.z
   have UN:=HG.o.Za
   go_wp2_with (first|(with_reducible refine Y8 173 (.tmp 7) rfl ?_;refine Y9 rfl 173 (.tmp 7) rfl (w.heap.size+1) rfl 173 (Qd 203 0 0 0 0 0 none 0 0 a i q 0 none 0 0) (0,0) _ UN Tryz.underlying173 rfl ZB ?_)|(with_reducible refine ZU 173 (.tmp 6) (.tmp 125) rfl ?_;refine ZW rfl 173 (.tmp 6) (.tmp 125) rfl rfl w.heap.size (Qd 203 0 0 0 0 0 none 0 0 a i q 0 none 0 0) rfl rfl 173 YY Ub ZB ZB ZB ?_))
   refine VJ (v:= .agg (Qd 203 0 0 0 0 0 none 0 0 a i q 0 none 0 0)) ?_ rfl ?_
   ·exact results_cell_row Zr _ _ w.heap.size 173 (Qd 203 0 0 0 0 0 none 0 0 a i q 0 none 0 0) (0,0) _ Zr (setRow_heap _ _ _ _ _ _ Ub) Tryz.underlying173 rfl ZB
   refine ⟨⟨_,rfl,?_⟩,Z3 HG.o.Zj (Zw _) _⟩
   rw [HX.o]
   have hr:Uo wr ⟨⟨203,0,0,0,0,0,[],Uf c i,0,[]⟩,.slice none 0 0,.slice a i q,.slice none 0 0⟩:=⟨Row.nil _ _,by show Row wr _ _ (Uf c i).length _;rw [show (Uf c i).length=i by unfold Uf;rw [Tx,List.length_range]];exact SH.o,Row.nil _ _⟩
   have Nf:=Uo.setRow hr Ub (Qd 203 0 0 0 0 0 none 0 0 a i q 0 none 0 0)
   exact ⟨_,_,_,rfl,Nf.b,Nf.g,Nf.p⟩
end Go.Proofs.By
namespace Go.Proofs.By
open Go.RowKit Go.Proofs.Heap Go.Proofs
theorem A3 (v:Value) (n:Nat) (c:List UInt8) (w:World) (hv:X9 w v c) (hn:n≤1000) :
  Calls Tryz.prog 117 (Q7 205 (n:Int) v) w fun e w'=>(∃ a,e = .returned a∧Td w' a (Xu 205 n c))∧Below w w w':=by
 have CR:=Zh (fun (p q:Int) (w':World) (h:Below w w w')=>Rz v c p q w' (hv.below h))
 obtain ⟨ss,Kn⟩:∃ x:Nat,x=get c 0 4:=⟨_,rfl⟩
 have mE:=Zh (fun (w':World) (h:Below w w w')=>CR.o 0 4 w' h)
 rw [←Kn] at mE
 have bss:IntKind.u32.wrap (ss:Int)=(ss:Int):=by have:=WX c 0;rw [NW];omega
 obtain ⟨md,ej⟩:∃ x:Nat,x=get c 4 4:=⟨_,rfl⟩
 have Cmd:=Zh (fun (w':World) (h:Below w w w')=>CR.o 4 4 w' h)
 rw [←ej] at Cmd
 have bmd:IntKind.u32.wrap (md:Int)=(md:Int):=by have:=WX c 4;rw [NW];omega
 have HX:Hid (Xu 205 n c=⟨205,(ss:Int),0,0,0,0,[],[],(md:Int),Tn c n⟩):=by
  show _=_
  unfold Xu
  rw [Kn,ej]
  simp
 generalize Xu 205 n c=X at *
 clear Kn ej
 have H1:Hid (GI w (((w.alloc (.cells YY 173)).alloc (.cells YY 173)).setRow (w.heap.size+1) cR) Yz8):=GI.start w 205
 have hz:((w.alloc (.cells YY 173)).alloc (.cells YY 173)).heap[w.heap.size+1]?=some (.cells YY 173 (0,0)):=by
  exact sk
 clear hv
 go_enter Tryz.func117,Tryz.ntmps117
 go_upto_region 2 with (with_reducible refine ZU 173 (.tmp 7) (.tmp 11) rfl ?_;refine ZW rfl 173 (.tmp 7) (.tmp 11) rfl rfl (w.heap.size+1) cR rfl rfl 173 YY hz ZB ZB ZB ?_)
 clear hz
 generalize ((w.alloc (.cells YY 173)).alloc (.cells YY 173)).setRow (w.heap.size+1) cR=w1 at *
 have z1:=cell_of H1.o.Za 1
 simp only [SK,S6,SJ] at z1
 have f1:=ZO H1.o.Za 1
 go_upto_region 5 with (go_at_call 118;refine (mE.o _ H1.o.Zj).mono ?_;rintro e w' ⟨rfl,rfl⟩)
 have H2:Hid (GI w (w1.setCell ⟨w.heap.size+1,1,none⟩ (.int .u32 (ss:Int))) (Qd 205 (ss:Int) 0 0 0 0 none 0 0 none 0 0 0 none 0 0)):=H1.o.set 1 (.int .u32 (ss:Int))
 clear z1 f1
 generalize w1.setCell ⟨w.heap.size+1,1,none⟩ (.int .u32 (ss:Int))=w2 at *
 have z2:=cell_of H2.o.Za 8
 simp only [SK,S6,SJ] at z2
 have f2:=ZO H2.o.Za 8
 go_upto_region 14 with (go_at_call 118;refine (Cmd.o _ H2.o.Zj).mono ?_;rintro e w' ⟨rfl,rfl⟩)
 have H3:Hid (GI w (w2.setCell ⟨w.heap.size+1,8,none⟩ (.int .u32 (md:Int))) (Qd 205 (ss:Int) 0 0 0 0 none 0 0 none 0 0 (md:Int) none 0 0)):=H2.o.set 8 (.int .u32 (md:Int))
 clear z2 f2
 generalize w2.setCell ⟨w.heap.size+1,8,none⟩ (.int .u32 (md:Int))=w3 at *
 go_wp2_with fail
 go_loopw [8,9] (fun s8 s9 w'=>∃ (i pos:Nat) (a:Option Addr) (q:Nat),i≤n∧pos=8+4*i∧s9 = .int .i64 (i:Int)∧s8 = .int .i64 (pos:Int)∧GI w w' (Qd 205 (ss:Int) 0 0 0 0 none 0 0 none 0 0 (md:Int) a i q)∧w'.ownsRow w 226 2 (.slice a i q) i ((Tn c i).flatMap Wj)) (fun _ s9 _=>n-(intOf s9).toNat)
 case atStart=>exact ⟨0,8,none,0,Zo,Zo,rfl,rfl,H3.o,Ua _ _ _ _⟩
 case round=>
  obtain ⟨i,pos,a,q,hi,QQ,rfl,rfl,Er,YJ⟩:=hrel
  have HG:=Zh Er
  have HO:=Zh YJ
  clear Er YJ H3
  by_cases GW:i<n
  ·obtain ⟨x0,QU⟩:∃ x:Nat,x=get c (pos:Int) 2:=⟨_,rfl⟩
   obtain ⟨x1,S9⟩:∃ x:Nat,x=get c ((pos:Int)+2) 2:=⟨_,rfl⟩
   have Mb:Hid (Tn c (i+1)=Tn c i++[((x0:Int),(x1:Int))]):=by
    show _=_
    rw [QU,S9,QQ]
    unfold Tn
    rw [ru,N7]
    rfl
   have C0:=Zh (fun (w':World) (h:Below w w w')=>CR.o (pos:Int) 2 w' h)
   rw [←QU] at C0
   have N9:IntKind.u16.wrap (x0:Int)=(x0:Int):=by have:=Nb c (pos:Int);rw [IntKind.wrap_u16];omega
   have C1:=Zh (fun (w':World) (h:Below w w w')=>CR.o ((pos:Int)+2) 2 w' h)
   rw [←S9] at C1
   have YZ:IntKind.u16.wrap (x1:Int)=(x1:Int):=by have:=Nb c ((pos:Int)+2);rw [IntKind.wrap_u16];omega
   have Ew:IntKind.i64.wrap ((pos:Int)+2)=(pos:Int)+2:=Ty _ Zo
   have iO:IntKind.i64.wrap ((pos:Int)+4)=(pos:Int)+4:=Ty _ Zo
   have Ex:pos≤100000:=by omega
   have N0:=Zh QQ
   clear QQ QU S9
   go_upto_region 25 with fail
   have HG:=Zh (HG.o.below (YH _ _).drew)
   have HO:=Zh (Yx HO.o (YH _ _).drew)
   have k0:(wr.drew).cell? ⟨w.heap.size+1,9,none⟩=some (.slice a i q):=Zc HG.o.Za 9 rfl
   refine Sd ?_
   refine Z_.Zu (d:=15) (S:=(fun w'=>w'.cell? ⟨w.heap.size+1,9,none⟩=some (.slice a i q))) ZB ?_ (fun _=>?_)
   ·(try dsimp only)
    exact k0
   refine YP 0 (h:=YP 2 (h:=YP 3 (h:=YP 6 (h:=YP 7 (h:=YP 8 (h:=YK 1 (h:=?_)))))))
   refine YR 4 (h:=fun K hK=>?_)
   go_simp
   refine (C0.o _ HG.o.Zj).mono ?_
   rintro e w' ⟨rfl,rfl⟩
   go_wp2_with fail
   refine Z_.Y_ hK _ _ ?_ (fun _=>?_)
   ·(try dsimp only)
    first|exact k2|exact k1|exact k0
   clear hK K
   try simp only [Z_.pt]
   refine YP 5 (h:=?_)
   refine YR 9 (h:=fun K hK=>?_)
   go_simp
   refine (C1.o _ HG.o.Zj).mono ?_
   rintro e w' ⟨rfl,rfl⟩
   go_wp2_with fail
   refine Z_.Y_ hK _ _ ?_ (fun _=>?_)
   ·(try dsimp only)
    first|exact k2|exact k1|exact k0
   clear hK K
   try simp only [Z_.pt]
   refine YP 10 (h:=YP 11 (h:=?_))
   refine YR 12 (h:=fun K hK=>?_)
   refine Xk Zr K_ (.tmp 119) Zr (Qw (x0:Int) (x1:Int)) Zr Zr Zd ?_
   have HG:=Zh (HG.o.below (Z' wr.drew (.cells (Qw (x0:Int) (x1:Int)) 226)))
   have HO:=Zh (Yx HO.o (Z' wr.drew (.cells (Qw (x0:Int) (x1:Int)) 226)))
   have k1:=cell_of HG.o.Za 9
   simp only [SK,S6,SJ] at k1
   refine Z_.Y_ hK _ _ ?_ (fun _=>?_)
   ·(try dsimp only)
    first|exact k2|exact k1|exact k0
   clear hK K
   try simp only [Z_.pt]
   refine YR 13 (h:=fun K hK=>?_)
   refine Zp Zr (.tmp 109) (.tmp 120) 171 Zr w.heap.size K_ (.slice a i q) i ((Tn c i).flatMap Wj) Zr HO.o _ 1 ([((x0:Int),(x1:Int))].flatMap Wj) Zr (VF wr.drew 226 1 ([((x0:Int),(x1:Int))].flatMap Wj) Zd) rfl (U' fun x _=>AW x) Zo Zo ?_ ?_
   ·exact HG.o.Zj.size
   intro v' w6 I2 zq
   obtain ⟨na,nq,NZ,-⟩:=Row.Z6 I2.o
   subst NZ
   have HG:=Zh (HG.o.grown HO.o Zd zq.o)
   have HO:Hid (w6.ownsRow w 226 2 (.slice na (i+1) nq) (i+1) ((Tn c i++[((x0:Int),(x1:Int))]).flatMap Wj)):=(by have h:=I2.o;rw [←O_] at h;exact h)
   have k2:=cell_of HG.o.Za 9
   simp only [SK,S6,SJ] at k2
   have f2:=ZO HG.o.Za 9
   refine Z_.Y_ hK _ _ ?_ (fun _=>?_)
   ·(try dsimp only)
    first|exact k2|exact k1|exact k0
   clear hK K
   try simp only [Z_.pt]
   refine YP 14 (h:=?_)
   refine YR 15 (h:=fun K hK=>?_)
   go_simp
   refine Z_.Ye hK _ _ ZB ?_
   clear hK K
   try simp only [Z_.pt]
   refine Z_.Yr ZB ?_ _
   refine QY ?_
   go_wp2_with fail
   go_roundw
   case rel=>
    refine ⟨i+1,pos+4,na,nq,Zo,by have:=N0.o;omega,Zn,Zn,?_,?_⟩
    ·exact HG.o.set 9 (.slice na (i+1) nq)
    ·rw [Mb.o];exact Kv HO.o HG.o.Za Zd _ _
   case measure=>simp [intOf];omega
  ·have wY:i=n:=by omega
   subst wY
   have SH:=Zh (Row.Z6 HO.o)
   have Ub:=HG.o.z
   have UN:=HG.o.Za
   go_wp2_with (first|(with_reducible refine Y8 173 (.tmp 7) rfl ?_;refine Y9 rfl 173 (.tmp 7) rfl (w.heap.size+1) rfl 173 (Qd 205 (ss:Int) 0 0 0 0 none 0 0 none 0 0 (md:Int) a i q) (0,0) _ UN Tryz.underlying173 rfl ZB ?_)|(with_reducible refine ZU 173 (.tmp 6) (.tmp 125) rfl ?_;refine ZW rfl 173 (.tmp 6) (.tmp 125) rfl rfl w.heap.size (Qd 205 (ss:Int) 0 0 0 0 none 0 0 none 0 0 (md:Int) a i q) rfl rfl 173 YY Ub ZB ZB ZB ?_))
   refine VJ (v:= .agg (Qd 205 (ss:Int) 0 0 0 0 none 0 0 none 0 0 (md:Int) a i q)) ?_ rfl ?_
   ·exact results_cell_row Zr _ _ w.heap.size 173 (Qd 205 (ss:Int) 0 0 0 0 none 0 0 none 0 0 (md:Int) a i q) (0,0) _ Zr (setRow_heap _ _ _ _ _ _ Ub) Tryz.underlying173 rfl ZB
   refine ⟨⟨_,rfl,?_⟩,Z3 HG.o.Zj (Zw _) _⟩
   rw [HX.o]
   have hr:Uo wr ⟨⟨205,(ss:Int),0,0,0,0,[],[],(md:Int),Tn c i⟩,.slice none 0 0,.slice none 0 0,.slice a i q⟩:=⟨Row.nil _ _,Row.nil _ _,by show Row wr _ _ (Tn c i).length _;rw [show (Tn c i).length=i by unfold Tn;rw [Tx,List.length_range]];exact SH.o⟩
   have Nf:=Uo.setRow hr Ub (Qd 205 (ss:Int) 0 0 0 0 none 0 0 none 0 0 (md:Int) a i q)
   exact ⟨_,_,_,rfl,Nf.b,Nf.g,Nf.p⟩
theorem xW (v:Value) (n:Nat) (c:List UInt8) (w:World) (hv:X9 w v c) (hn:n≤1000) :
  Calls Tryz.prog 117 (Q7 201 (n:Int) v) w fun e w'=>(∃ a,e = .returned a∧Td w' a (Xu 201 n c))∧Below w w w':=by
 have CR:=Zh (fun (p q:Int) (w':World) (h:Below w w w')=>Rz v c p q w' (hv.below h))
 obtain ⟨ss,Kn⟩:∃ x:Nat,x=get c 0 4:=⟨_,rfl⟩
 have mE:=Zh (fun (w':World) (h:Below w w w')=>CR.o 0 4 w' h)
 rw [←Kn] at mE
 have bss:IntKind.u32.wrap (ss:Int)=(ss:Int):=by have:=WX c 0;rw [NW];omega
 have HX:Hid (Xu 201 n c=⟨201,(ss:Int),0,0,0,0,Vl c 4 n,[],0,[]⟩):=by
  show _=_
  unfold Xu
  rw [Kn]
  simp
 generalize Xu 201 n c=X at *
 clear Kn
 have H1:Hid (GI w (((w.alloc (.cells YY 173)).alloc (.cells YY 173)).setRow (w.heap.size+1) cS) Yz9):=GI.start w 201
 have hz:((w.alloc (.cells YY 173)).alloc (.cells YY 173)).heap[w.heap.size+1]?=some (.cells YY 173 (0,0)):=by
  exact sk
 clear hv
 go_enter Tryz.func117,Tryz.ntmps117
 go_upto_region 2 with (with_reducible refine ZU 173 (.tmp 7) (.tmp 11) rfl ?_;refine ZW rfl 173 (.tmp 7) (.tmp 11) rfl rfl (w.heap.size+1) cS rfl rfl 173 YY hz ZB ZB ZB ?_)
 clear hz
 generalize ((w.alloc (.cells YY 173)).alloc (.cells YY 173)).setRow (w.heap.size+1) cS=w1 at *
 have z1:=cell_of H1.o.Za 1
 simp only [SK,S6,SJ] at z1
 have f1:=ZO H1.o.Za 1
 go_upto_region 5 with (go_at_call 118;refine (mE.o _ H1.o.Zj).mono ?_;rintro e w' ⟨rfl,rfl⟩)
 have H2:Hid (GI w (w1.setCell ⟨w.heap.size+1,1,none⟩ (.int .u32 (ss:Int))) (Qd 201 (ss:Int) 0 0 0 0 none 0 0 none 0 0 0 none 0 0)):=H1.o.set 1 (.int .u32 (ss:Int))
 clear z1 f1
 generalize w1.setCell ⟨w.heap.size+1,1,none⟩ (.int .u32 (ss:Int))=w2 at *
 go_wp2_with fail
 go_loopw [8,9] (fun s8 s9 w'=>∃ (i pos:Nat) (a:Option Addr) (q:Nat),i≤n∧pos=4+24*i∧s9 = .int .i64 (i:Int)∧s8 = .int .i64 (pos:Int)∧GI w w' (Qd 201 (ss:Int) 0 0 0 0 a i q none 0 0 0 none 0 0)∧w'.ownsRow w 228 7 (.slice a i q) i ((Vl c 4 i).flatMap Xf)) (fun _ s9 _=>n-(intOf s9).toNat)
 case atStart=>exact ⟨0,4,none,0,Zo,Zo,rfl,rfl,H2.o,Ua _ _ _ _⟩
 case round=>
  obtain ⟨i,pos,a,q,hi,QQ,rfl,rfl,Er,YJ⟩:=hrel
  have HG:=Zh Er
  have HO:=Zh YJ
  clear Er YJ H2
  by_cases GW:i<n
  ·obtain ⟨x0,QU⟩:∃ x:Nat,x=get c (pos:Int) 4:=⟨_,rfl⟩
   obtain ⟨x1,S9⟩:∃ x:Nat,x=get c ((pos:Int)+4) 1:=⟨_,rfl⟩
   obtain ⟨x2,Ol⟩:∃ x:Nat,x=get c ((pos:Int)+5) 3:=⟨_,rfl⟩
   obtain ⟨x3,Pv⟩:∃ x:Nat,x=get c ((pos:Int)+8) 4:=⟨_,rfl⟩
   obtain ⟨x4,L5⟩:∃ x:Nat,x=get c ((pos:Int)+12) 4:=⟨_,rfl⟩
   obtain ⟨x5,JQ⟩:∃ x:Nat,x=get c ((pos:Int)+16) 4:=⟨_,rfl⟩
   obtain ⟨x6,eV⟩:∃ x:Nat,x=get c ((pos:Int)+20) 4:=⟨_,rfl⟩
   have Mb:Hid (Vl c 4 (i+1)=Vl c 4 i++[⟨x0,x1,x2,x3,x4,x5,x6⟩]):=by
    show _=_
    rw [QU,S9,Ol,Pv,L5,JQ,eV,QQ]
    unfold Vl
    rw [ru,N7]
    rfl
   have C0:=Zh (fun (w':World) (h:Below w w w')=>CR.o (pos:Int) 4 w' h)
   rw [←QU] at C0
   have N9:IntKind.u32.wrap (x0:Int)=(x0:Int):=by have:=WX c (pos:Int);rw [NW];omega
   have C1:=Zh (fun (w':World) (h:Below w w w')=>CR.o ((pos:Int)+4) 1 w' h)
   rw [←S9] at C1
   have YZ:IntKind.u8.wrap (x1:Int)=(x1:Int):=by have:=uQ c ((pos:Int)+4);rw [IntKind.wrap_u8];omega
   have Ew:IntKind.i64.wrap ((pos:Int)+4)=(pos:Int)+4:=Ty _ Zo
   have C2:=Zh (fun (w':World) (h:Below w w w')=>CR.o ((pos:Int)+5) 3 w' h)
   rw [←Ol] at C2
   have Y0:IntKind.u32.wrap (x2:Int)=(x2:Int):=by have:=uR c ((pos:Int)+5);rw [NW];omega
   have hp2:IntKind.i64.wrap ((pos:Int)+5)=(pos:Int)+5:=Ty _ Zo
   have C3:=Zh (fun (w':World) (h:Below w w w')=>CR.o ((pos:Int)+8) 4 w' h)
   rw [←Pv] at C3
   have VH:IntKind.u32.wrap (x3:Int)=(x3:Int):=by have:=WX c ((pos:Int)+8);rw [NW];omega
   have hp3:IntKind.i64.wrap ((pos:Int)+8)=(pos:Int)+8:=Ty _ Zo
   have C4:=Zh (fun (w':World) (h:Below w w w')=>CR.o ((pos:Int)+12) 4 w' h)
   rw [←L5] at C4
   have OE:IntKind.u32.wrap (x4:Int)=(x4:Int):=by have:=WX c ((pos:Int)+12);rw [NW];omega
   have hp4:IntKind.i64.wrap ((pos:Int)+12)=(pos:Int)+12:=Ty _ Zo
   have C5:=Zh (fun (w':World) (h:Below w w w')=>CR.o ((pos:Int)+16) 4 w' h)
   rw [←JQ] at C5
   have Lj:IntKind.u32.wrap (x5:Int)=(x5:Int):=by have:=WX c ((pos:Int)+16);rw [NW];omega
   have hp5:IntKind.i64.wrap ((pos:Int)+16)=(pos:Int)+16:=Ty _ Zo
   have C6:=Zh (fun (w':World) (h:Below w w w')=>CR.o ((pos:Int)+20) 4 w' h)
   rw [←eV] at C6
   have Ep:IntKind.u32.wrap (x6:Int)=(x6:Int):=by have:=WX c ((pos:Int)+20);rw [NW];omega
   have hp6:IntKind.i64.wrap ((pos:Int)+20)=(pos:Int)+20:=Ty _ Zo
   have iO:IntKind.i64.wrap ((pos:Int)+24)=(pos:Int)+24:=Ty _ Zo
   have Ex:pos≤100000:=by omega
   have N0:=Zh QQ
   clear QQ QU S9 Ol Pv L5 JQ eV
   go_upto_region 19 with fail
   have HG:=Zh (HG.o.below (YH _ _).drew)
   have HO:=Zh (Yx HO.o (YH _ _).drew)
   have k0:(wr.drew).cell? ⟨w.heap.size+1,6,none⟩=some (.slice a i q):=Zc HG.o.Za 6 rfl
   refine Sd ?_
   refine Z_.Zu (d:=40) (S:=(fun w'=>w'.cell? ⟨w.heap.size+1,6,none⟩=some (.slice a i q))) ZB ?_ (fun _=>?_)
   ·(try dsimp only)
    exact k0
   refine YP 0 (h:=YP 2 (h:=YP 3 (h:=YP 6 (h:=YP 7 (h:=YP 8 (h:=YP 11 (h:=YP 12 (h:=YP 13 (h:=YP 16 (h:=YP 17 (h:=YP 18 (h:=YP 21 (h:=YP 22 (h:=YP 23 (h:=YP 26 (h:=YP 27 (h:=YP 28 (h:=YP 31 (h:=YP 32 (h:=YP 33 (h:=YK 1 (h:=?_))))))))))))))))))))))
   refine YR 4 (h:=fun K hK=>?_)
   go_simp
   refine (C0.o _ HG.o.Zj).mono ?_
   rintro e w' ⟨rfl,rfl⟩
   go_wp2_with fail
   refine Z_.Y_ hK _ _ ?_ (fun _=>?_)
   ·(try dsimp only)
    first|exact k2|exact k1|exact k0
   clear hK K
   try simp only [Z_.pt]
   refine YP 5 (h:=?_)
   refine YR 9 (h:=fun K hK=>?_)
   go_simp
   refine (C1.o _ HG.o.Zj).mono ?_
   rintro e w' ⟨rfl,rfl⟩
   go_wp2_with fail
   refine Z_.Y_ hK _ _ ?_ (fun _=>?_)
   ·(try dsimp only)
    first|exact k2|exact k1|exact k0
   clear hK K
   try simp only [Z_.pt]
   refine YP 10 (h:=?_)
   refine YR 14 (h:=fun K hK=>?_)
   go_simp
   refine (C2.o _ HG.o.Zj).mono ?_
   rintro e w' ⟨rfl,rfl⟩
   go_wp2_with fail
   refine Z_.Y_ hK _ _ ?_ (fun _=>?_)
   ·(try dsimp only)
    first|exact k2|exact k1|exact k0
   clear hK K
   try simp only [Z_.pt]
   refine YP 15 (h:=?_)
   refine YR 19 (h:=fun K hK=>?_)
   go_simp
   refine (C3.o _ HG.o.Zj).mono ?_
   rintro e w' ⟨rfl,rfl⟩
   go_wp2_with fail
   refine Z_.Y_ hK _ _ ?_ (fun _=>?_)
   ·(try dsimp only)
    first|exact k2|exact k1|exact k0
   clear hK K
   try simp only [Z_.pt]
   refine YP 20 (h:=?_)
   refine YR 24 (h:=fun K hK=>?_)
   go_simp
   refine (C4.o _ HG.o.Zj).mono ?_
   rintro e w' ⟨rfl,rfl⟩
   go_wp2_with fail
   refine Z_.Y_ hK _ _ ?_ (fun _=>?_)
   ·(try dsimp only)
    first|exact k2|exact k1|exact k0
   clear hK K
   try simp only [Z_.pt]
   refine YP 25 (h:=?_)
   refine YR 29 (h:=fun K hK=>?_)
   go_simp
   refine (C5.o _ HG.o.Zj).mono ?_
   rintro e w' ⟨rfl,rfl⟩
   go_wp2_with fail
   refine Z_.Y_ hK _ _ ?_ (fun _=>?_)
   ·(try dsimp only)
    first|exact k2|exact k1|exact k0
   clear hK K
   try simp only [Z_.pt]
   refine YP 30 (h:=?_)
   refine YR 34 (h:=fun K hK=>?_)
   go_simp
   refine (C6.o _ HG.o.Zj).mono ?_
   rintro e w' ⟨rfl,rfl⟩
   go_wp2_with fail
   refine Z_.Y_ hK _ _ ?_ (fun _=>?_)
   ·(try dsimp only)
    first|exact k2|exact k1|exact k0
   clear hK K
   try simp only [Z_.pt]
   refine YP 35 (h:=YP 36 (h:=?_))
   refine YR 37 (h:=fun K hK=>?_)
   refine Xk Zr M9 (.tmp 87) Zr (Q.Qr (x0:Int) (x1:Int) (x2:Int) (x3:Int) (x4:Int) (x5:Int) (x6:Int)) Zr Zr Zd ?_
   have HG:=Zh (HG.o.below (Z' wr.drew (.cells (Q.Qr (x0:Int) (x1:Int) (x2:Int) (x3:Int) (x4:Int) (x5:Int) (x6:Int)) 228)))
   have HO:=Zh (Yx HO.o (Z' wr.drew (.cells (Q.Qr (x0:Int) (x1:Int) (x2:Int) (x3:Int) (x4:Int) (x5:Int) (x6:Int)) 228)))
   have k1:=cell_of HG.o.Za 6
   simp only [SK,S6,SJ] at k1
   refine Z_.Y_ hK _ _ ?_ (fun _=>?_)
   ·(try dsimp only)
    first|exact k2|exact k1|exact k0
   clear hK K
   try simp only [Z_.pt]
   refine YR 38 (h:=fun K hK=>?_)
   refine Zp Zr (.tmp 52) (.tmp 88) 170 Zr w.heap.size M9 (.slice a i q) i ((Vl c 4 i).flatMap Xf) Zr HO.o _ 1 ([(⟨x0,x1,x2,x3,x4,x5,x6⟩:rG)].flatMap Xf) Zr (VF wr.drew 228 1 ([(⟨x0,x1,x2,x3,x4,x5,x6⟩:rG)].flatMap Xf) Zd) rfl (U' fun x _=>Ci x) Zo Zo ?_ ?_
   ·exact HG.o.Zj.size
   intro v' w6 I2 zq
   obtain ⟨na,nq,NZ,-⟩:=Row.Z6 I2.o
   subst NZ
   have HG:=Zh (HG.o.grown HO.o Zd zq.o)
   have HO:Hid (w6.ownsRow w 228 7 (.slice na (i+1) nq) (i+1) ((Vl c 4 i++[(⟨x0,x1,x2,x3,x4,x5,x6⟩:rG)]).flatMap Xf)):=(by have h:=I2.o;rw [←O_] at h;exact h)
   exact Yx50
  ·have wY:i=n:=by omega
   subst wY
   have SH:=Zh (Row.Z6 HO.o)
   have Ub:=HG.o.z
   have UN:=HG.o.Za
   go_wp2_with (first|(with_reducible refine Y8 173 (.tmp 7) rfl ?_;refine Y9 rfl 173 (.tmp 7) rfl (w.heap.size+1) rfl 173 (Qd 201 (ss:Int) 0 0 0 0 a i q none 0 0 0 none 0 0) (0,0) _ UN Tryz.underlying173 rfl ZB ?_)|(with_reducible refine ZU 173 (.tmp 6) (.tmp 125) rfl ?_;refine ZW rfl 173 (.tmp 6) (.tmp 125) rfl rfl w.heap.size (Qd 201 (ss:Int) 0 0 0 0 a i q none 0 0 0 none 0 0) rfl rfl 173 YY Ub ZB ZB ZB ?_))
   refine VJ (v:= .agg (Qd 201 (ss:Int) 0 0 0 0 a i q none 0 0 0 none 0 0)) ?_ rfl ?_
   ·exact results_cell_row Zr _ _ w.heap.size 173 (Qd 201 (ss:Int) 0 0 0 0 a i q none 0 0 0 none 0 0) (0,0) _ Zr (setRow_heap _ _ _ _ _ _ Ub) Tryz.underlying173 rfl ZB
   refine ⟨⟨_,rfl,?_⟩,Z3 HG.o.Zj (Zw _) _⟩
   rw [HX.o]
   have hr:Uo wr ⟨⟨201,(ss:Int),0,0,0,0,Vl c 4 i,[],0,[]⟩,.slice a i q,.slice none 0 0,.slice none 0 0⟩:=⟨by show Row wr _ _ (Vl c 4 i).length _;rw [show (Vl c 4 i).length=i by unfold Vl;rw [Tx,List.length_range]];exact SH.o,Row.nil _ _,Row.nil _ _⟩
   have Nf:=Uo.setRow hr Ub (Qd 201 (ss:Int) 0 0 0 0 a i q none 0 0 0 none 0 0)
   exact ⟨_,_,_,rfl,Nf.b,Nf.g,Nf.p⟩
end Go.Proofs.By
