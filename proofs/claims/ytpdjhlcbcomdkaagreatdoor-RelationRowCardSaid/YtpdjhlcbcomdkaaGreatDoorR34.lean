/- Part of a proof. -/
import Derived.Test.YtpdjhlcbcomdkaaGreatDoorR33
set_option linter.unusedVariables false
set_option linter.unusedSimpArgs false
set_option maxRecDepth 100000
set_option maxHeartbeats 16000000
open Go Go.Q Go.Qr
namespace Go.Proofs.By
open Go.RowKit Go.Proofs.Heap Go.Proofs
theorem Nu {P:Program} {fn:Func} {p q u:Tmp} {ty tz:TypeId} (h:fn.results=#[.cell p ty,.cell q tz,.tmp u]) (tmps:Array Value) (w:World) (g k:Nat) (t s:TypeId) (cs ds:Array Value) (fr fs:Nat × Nat) (d e:TypeDesc)
  (hp:tmps.getD p undef = .pointer (some ⟨g,0,none⟩)) (hq:tmps.getD q undef = .pointer (some ⟨k,0,none⟩)) (hg:w.heap[g]?=some (.cells cs t fr)) (hk:w.heap[k]?=some (.cells ds s fs))
  (hu:P.underlying ty=some d) (hv:P.underlying tz=some e) (hd:(match d with | .struct _ | .array _ _=>true|_=>false)=true) (he:(match e with | .struct _ | .array _ _=>true|_=>false)=true) (hi:(P.info? ty).map (·.size)=some cs.size) (hj:(P.info? tz).map (·.size)=some ds.size) :
  (results fn tmps).run P w = .ok (.tuple #[.agg cs,.agg ds,tmps.getD u undef]) w:=by
 have sF:tmps[p]?.getD undef = .pointer (some ⟨g,0,none⟩):=by simpa using hp
 have kr:tmps[q]?.getD undef = .pointer (some ⟨k,0,none⟩):=by simpa using hq
 simp [results,h,sF,kr,asAddr,run_loadVar_row w g t ty cs fr d hg hu hd hi,run_loadVar_row w k s tz ds fs e hk hv he hj]
theorem Vf {P:Program} {w:World} {op:Oper} {a:Act} (ty:TypeId) (x:Operand) (ho:op.op = .load ty x) (g:Nat) (hx:a.eval x = .pointer (some ⟨g,0,none⟩)) (t:TypeId) (cs:Array Value) (fr:Nat × Nat) (d:TypeDesc) (hg:w.heap[g]?=some (.cells cs t fr))
  (hu:P.underlying ty=some d) (hd:(match d with | .struct _ | .array _ _=>true|_=>false)=true) (hi:(P.info? ty).map (·.size)=some cs.size):(execOp a.eval op).run P w = .ok (.value (.agg cs)) w:=by
 unfold execOp;simp only [ho,hx,Instr.loadAt,Instr.sureAddr,Sem.run_bind,Sem.run_pure,Result.andThen_ok,run_loadVar_row w g t ty cs fr d hg hu hd hi]
theorem Vy.setRow {w:World} {p:KI} {cv ev pv:Value} (h:Vy w p cv ev pv) {g:Nat} {c:Array Value} {t:TypeId} {f:Nat × Nat} (hg:w.heap[g]?=some (.cells c t f)) (h1:66≠t) (h2:5≠t) (cs:Array Value):Vy (w.setRow g cs) p cv ev pv:=
 ⟨Row.setRow h.c hg h1 _,Row.setRow h.e hg h2 _,Row.setRow h.p hg h2 _⟩
def TG (b:List UInt8):(KI × FJ) × Int:=if (YM b).2≠0 then ((WT,Tu),(YM b).2) else if (Yy (YM b).1.ZG).2≠0 then ((WT,Tu),(Yy (YM b).1.ZG).2) else (((YM b).1,(Yy (YM b).1.ZG).1),0)
theorem xh (v:Value) (b:List UInt8) (w:World) (hv:X6 w v b) :
  Calls Tryz.prog 71 #[v] w fun e w'=>(∃ a,e = .returned (.tuple #[a,nK (TG b).1.2,.int .i64 (TG b).2])∧N0 w' a (TG b).1.1)∧Below w w w':=by
 have HC:=Zh (fun (w':World) (h:Below w w w')=>tC v b w' (hv.below h));have HX:Hid (TG b=if (YM b).2≠0 then ((WT,Tu),(YM b).2) else if (Yy (YM b).1.ZG).2≠0 then ((WT,Tu),(Yy (YM b).1.ZG).2) else (((YM b).1,(Yy (YM b).1.ZG).1),0)):=rfl;obtain ⟨va,c,rfl,-⟩:=id hv;clear hv;have Vk:Hid (Below w w ((w.alloc (.cells (Qb false 0 0 0 0 none 0 0 false 0 none 0 0 none 0 0 0) 79)).alloc (.cells (Qd 0 false false 0) 81))):=ZF (Z' w _) (Zw _) _;have e1:(w.alloc (.cells (Qb false 0 0 0 0 none 0 0 false 0 none 0 0 none 0 0 0) 79)).heap.size=w.heap.size+1:=by show (w.heap.push _).size=_;rw [OI]
 have e2:((w.alloc (.cells (Qb false 0 0 0 0 none 0 0 false 0 none 0 0 none 0 0 0) 79)).alloc (.cells (Qd 0 false false 0) 81)).heap.size=w.heap.size+2:=by show ((w.alloc (.cells (Qb false 0 0 0 0 none 0 0 false 0 none 0 0 none 0 0 0) 79)).heap.push _).size=_;rw [OI,e1]
 have z1:((w.alloc (.cells (Qb false 0 0 0 0 none 0 0 false 0 none 0 0 none 0 0 0) 79)).alloc (.cells (Qd 0 false false 0) 81)).heap[w.heap.size+1]?=some (.cells (Qd 0 false false 0) 81 (0,0)):=by
  have h:=Z8 (w.alloc (.cells (Qb false 0 0 0 0 none 0 0 false 0 none 0 0 none 0 0 0) 79)) (.cells (Qd 0 false false 0) 81);rw [e1] at h;exact h
 have z0:((w.alloc (.cells (Qb false 0 0 0 0 none 0 0 false 0 none 0 0 none 0 0 0) 79)).alloc (.cells (Qd 0 false false 0) 81)).heap[w.heap.size]?=some (.cells (Qb false 0 0 0 0 none 0 0 false 0 none 0 0 none 0 0 0) 79 (0,0)):=by
  rw [(Z' (w.alloc (.cells (Qb false 0 0 0 0 none 0 0 false 0 none 0 0 none 0 0 0) 79)) _).block _ (by rw [e1];omega)];exact Z8 w _
 have HZ:Hid (((w.alloc (.cells (Qb false 0 0 0 0 none 0 0 false 0 none 0 0 none 0 0 0) 79)).alloc (.cells (Qd 0 false false 0) 81)).heap[w.heap.size+1]?=some (.cells (Qd 0 false false 0) 81 (0,0))∧((w.alloc (.cells (Qb false 0 0 0 0 none 0 0 false 0 none 0 0 none 0 0 0) 79)).alloc (.cells (Qd 0 false false 0) 81)).heap[w.heap.size]?=some (.cells (Qb false 0 0 0 0 none 0 0 false 0 none 0 0 none 0 0 0) 79 (0,0))∧((w.alloc (.cells (Qb false 0 0 0 0 none 0 0 false 0 none 0 0 none 0 0 0) 79)).alloc (.cells (Qd 0 false false 0) 81)).heap.size=w.heap.size+2):=⟨z1,z0,e2⟩;clear z0 z1 e1 e2;generalize TG b=X at *
 generalize YM b=Y at *
 obtain ⟨P,er⟩:=Y;dsimp only at HC HX;go_enter Tryz.func71,Tryz.ntmps71;go_upto_region 2 with (go_at_call 94;refine (HC.o _ Vk.o).mono ?_;rintro e w2 ⟨⟨a0,f0,t0,rfl,⟨cv,ev,pv,gz,q1,q2,q3⟩⟩,Y7⟩;obtain ⟨ca,cc,FM,-⟩:=id q1;obtain ⟨ea,ec,Ma,-⟩:=id q2;obtain ⟨pa,pc,Md,-⟩:=id q3;subst FM;subst Ma;subst Md;dsimp only [G6] at gz;subst gz;have HR:Hid (Vy w2 P (.slice ca P.VN.length cc) (.slice ea P.ext.length ec) (.slice pa P.ZG.length pc)):=⟨q1,q2,q3⟩;have X8:=Zh Y7;clear q1 q2 q3 Y7)
 clear HC;have Im:Hid (Below w w w2):=Vk.o.trans (X8.o.mono Vk.o.size);have sI:w.heap.size+2≤w2.heap.size:=by have:=X8.o.size;rw [HZ.o.2.2] at this;exact this
 have HY:Hid (∀ w',Below w2 w2 w'→w'.heap[w.heap.size+1]?=some (.cells (Qd 0 false false 0) 81 (0,0))∧w'.heap[w.heap.size]?=some (.cells (Qb false 0 0 0 0 none 0 0 false 0 none 0 0 none 0 0 0) 79 (0,0))):=fun w' h=>by
  have k:=HZ.o.2.2;exact ⟨(h.block _ Zo).trans ((X8.o.block _ Zo).trans HZ.o.1),(h.block _ Zo).trans ((X8.o.block _ Zo).trans HZ.o.2.1)⟩
 have Dz:Hid (Below w w (w2.alloc (.cells (Jv P ca cc ea ec pa pc) 79))):=ZF Im.o (Zw _) _;by_cases RU:er=0
 rotate_left
 ·have bl:(er != 0)=true:=by rw [RQ];exact RU
  rw [ZR RU] at HX;obtain ⟨y1,y0⟩:=HY.o _ (Z' w2 (.cells (Jv P ca cc ea ec pa pc) 79));clear HZ;go_wp2_with (first|(with_reducible refine ZU 79 (.tmp 2) (.tmp 19) rfl ?_;refine Zs y0 ?_)|(with_reducible refine ZU 81 (.tmp 3) (.tmp 20) rfl ?_;refine Zs ((setRow_other _ _ _ _ Zo).trans y1) ?_))
  refine VD (v:= .tuple (Jm (Qb false 0 0 0 0 none 0 0 false 0 none 0 0 none 0 0 0) (Qd 0 false false 0) er)) ?_ rfl ?_
  ·exact Yt8
  exact ⟨⟨_,by rw [HX.o];rfl,by rw [HX.o];exact G7 _⟩,Z3 (Z3 Dz.o (Zw _) _) (Ix _) _⟩
 subst RU;have HD:Hid (∀ w1,Below w2 w2 w1→Calls Tryz.prog 95 #[.slice pa P.ZG.length pc] w1 fun e w'=>e = .returned (.tuple (Qo (Qd (Yy P.ZG).1.ZH (Yy P.ZG).1.key (Yy P.ZG).1.start (Yy P.ZG).1.frame) (Yy P.ZG).2))∧Below w1 w1 w'):=fun w1 h=>Dd _ P.ZG w1 (HR.o.p.below h).r
 rw [Z4 Zi] at HX;generalize Yy P.ZG=D at *
 obtain ⟨d,de⟩:=D;dsimp only at HD HX;have H9:w2.heap.size<(w2.alloc (.cells (Jv P ca cc ea ec pa pc) 79)).heap.size:=by show _<(w2.heap.push _).size;rw [OI];exact Nat.lt_succ_self _
 have ZY:=Z8 w2 (.cells (Jv P ca cc ea ec pa pc) 79);go_upto_region 5 with (go_at_call 95;refine (HD.o _ (Z' _ _)).mono ?_;rintro e w3 ⟨rfl,VJ⟩;have Wc:=Zh VJ;have yp:=(VJ.block _ H9).trans ZY;have Cq:w2.heap.size<w3.heap.size:=OS H9 VJ.size;clear VJ)
 have ir:Hid (Below w2 w2 w3):=(Z' w2 _).trans (Wc.o.mono (gf H9));have DB:Hid (Below w w (w3.alloc (.cells (Js d) 81))):=ZF (Im.o.trans (ir.o.mono Im.o.size)) (Zw _) _;have MN:=Zh ((HR.o.below ir.o).below (Z' w3 (.cells (Js d) 81)));have y5:=((Z' w3 (.cells (Js d) 81)).block _ Cq).trans yp;obtain ⟨y1,y0⟩:=HY.o _ (ir.o.trans ((Z' w3 (.cells (Js d) 81)).mono ir.o.size));clear ZY Wc HD yp;by_cases gG:de=0
 rotate_left
 ·have bl:(de != 0)=true:=by rw [RQ];exact gG
  rw [ZR gG] at HX;go_wp2_with (first|(with_reducible refine ZU 79 (.tmp 2) (.tmp 30) rfl ?_;refine Zs y0 ?_)|(with_reducible refine ZU 81 (.tmp 3) (.tmp 31) rfl ?_;refine Zs ((setRow_other _ _ _ _ Zo).trans y1) ?_))
  refine VD (v:= .tuple (Jm (Qb false 0 0 0 0 none 0 0 false 0 none 0 0 none 0 0 0) (Qd 0 false false 0) de)) ?_ rfl ?_
  ·exact Yt8
  exact ⟨⟨_,by rw [HX.o];rfl,by rw [HX.o];exact G7 _⟩,Z3 (Z3 DB.o (Zw _) _) (Ix _) _⟩
 subst gG;rw [Z4 Zi] at HX;have y6:=Z8 w3 (.cells (Js d) 81);have HD9:=Zh ((YJ (w3.alloc (.cells (Js d) 81)).heap.size (w3.alloc (.cells (Js d) 81))).drew);have HBV9:=Zh (DB.o.trans (HD9.o.mono DB.o.size));have HRV9:=Zh (MN.o.below HD9.o);go_wp2_with fail
 replace y0:=(HD9.o.block _ (ZW y0)).trans y0;replace y1:=(HD9.o.block _ (ZW y1)).trans y1;replace y5:=(HD9.o.block _ (ZW y5)).trans y5;replace y6:=(HD9.o.block _ (ZW y6)).trans y6;refine SX ?_;refine Z_.Zy (d:=3) (S:=(fun w'=>w'.heap[w2.heap.size]?=some (.cells (Jv P ca cc ea ec pa pc) 79 (0,0))∧w'.heap[w3.heap.size]?=some (.cells (Js d) 81 (0,0)))) Zk ?_ (fun Ye=>?_)
 ·exact ⟨y5,y6⟩
 refine YK 0 (hy:=by intro wS Uq;refine Vf 79 (.tmp 5) ?_ w2.heap.size ?_ 79 (Jv P ca cc ea ec pa pc) (0,0) _ Uq.1 Tryz.underlying79 rfl Zk;all_goals rfl) (h:=?_);refine YK 1 (hy:=by intro wS Uq;refine Vf 81 (.tmp 9) ?_ w3.heap.size ?_ 81 (Js d) (0,0) _ Uq.2 Tryz.underlying81 rfl Zk;all_goals rfl) (h:=?_);refine YR 2 (h:=fun K hK=>?_);rw [ZR Zr];refine wp_store_row 79 (.tmp 2) (.tmp 33) rfl w.heap.size (Jv P ca cc ea ec pa pc) rfl rfl 79 _ y0 Zk Zk Zk ?_;refine Z_.Zb hK _ _ ?_ (fun XU=>?_)
 ·exact ⟨(setRow_other _ _ _ _ Zo).trans y5,(setRow_other _ _ _ _ Zo).trans y6⟩
 clear hK K;try simp only [Z_.pt]
 refine YR 3 (h:=fun K hK=>?_);rw [ZR Zr];refine wp_store_row 81 (.tmp 3) (.tmp 34) rfl (w.heap.size+1) (Js d) rfl rfl 81 _ ((setRow_other _ _ _ _ Zo).trans y1) Zk Zk Zk ?_;refine Z_.Yk hK _ _ Zk ?_;clear hK K;try simp only [Z_.pt]
 refine YP 4 (h:=?_);refine Z_.YC Zk ?_ _;refine RA ?_;go_wp2_with fail
 refine VD (v:= .tuple (Jm (Jv P ca cc ea ec pa pc) (Js d) 0)) ?_ rfl ?_
 ·exact Nu (p:=2) (q:=3) (u:=4) Zr _ _ w.heap.size (w.heap.size+1) 79 81 (Jv P ca cc ea ec pa pc) (Js d) (0,0) (0,0) _ _ Zr Zr ((setRow_other _ _ _ _ Zo).trans (setRow_heap _ _ _ _ _ _ y0)) (setRow_heap _ _ _ _ _ _ ((setRow_other _ _ _ _ Zo).trans y1)) Tryz.underlying79 Tryz.underlying81 rfl rfl Zk Zk
 have HRZ:=Vy.setRow (Vy.setRow HRV9.o y0 Zd Zd (Jv P ca cc ea ec pa pc)) ((setRow_other _ _ _ _ Zo).trans y1) Zd Zd (Js d);exact ⟨⟨_,by rw [HX.o];rfl,by rw [HX.o];exact ⟨_,_,_,rfl,HRZ.c,HRZ.e,HRZ.p⟩⟩,Z3 (Z3 HBV9.o (Zw _) _) (Ix _) _⟩
theorem tI (v:Value) (n:Nat) (c:List UInt8) (w:World) (hv:X6 w v c) (hn:n≤1000) :
  Calls Tryz.prog 117 (Q8 203 (n:Int) v) w fun e w'=>(∃ a,e = .returned a∧S8 w' a (Xq 203 n c))∧Below w w w':=by
 have CR:=Zh (fun (p q:Int) (w':World) (h:Below w w w')=>Rj v c p q w' (hv.below h))
 have HX:Hid (Xq 203 n c=⟨203,0,0,0,0,0,[],T6 c n,0,[]⟩):=by
  show _=_;unfold Xq;simp
 generalize Xq 203 n c=X at *
 have H1:Hid (GI w (((w.alloc (.cells YZ 173)).alloc (.cells YZ 173)).setRow (w.heap.size+1) bV) Yz7):=GI.start w 203
 have hz:((w.alloc (.cells YZ 173)).alloc (.cells YZ 173)).heap[w.heap.size+1]?=some (.cells YZ 173 (0,0)):=by
  exact rO
 clear hv;go_enter Tryz.func117,Tryz.ntmps117;go_upto_region 2 with (with_reducible refine ZU 173 (.tmp 7) (.tmp 11) rfl ?_;refine ZV rfl 173 (.tmp 7) (.tmp 11) rfl rfl (w.heap.size+1) bV rfl rfl 173 YZ hz ZB ZB ZB ?_)
 clear hz;generalize ((w.alloc (.cells YZ 173)).alloc (.cells YZ 173)).setRow (w.heap.size+1) bV=w1 at *
 go_wp2_with fail
 go_loopw [8,9] (fun s8 s9 w'=>∃ (i pos:Nat) (a:Option Addr) (q:Nat),i≤n∧pos=0+4*i∧s9 = .int .i64 (i:Int)∧s8 = .int .i64 (pos:Int)∧GI w w' (Qe 203 0 0 0 0 0 none 0 0 a i q 0 none 0 0)∧w'.ownsRow w 66 1 (.slice a i q) i (YO (T6 c i))) (fun _ s9 _=>n-(intOf s9).toNat)
 case atStart=>exact ⟨0,0,none,0,Zo,Zo,rfl,rfl,H1.o,TY _ _ _ _⟩
 case round=>
  obtain ⟨i,pos,a,q,hi,QF,rfl,rfl,Ed,YH⟩:=hrel;have HG:=Zh Ed;have HO:=Zh YH;clear Ed YH H1;by_cases GA:i<n
  ·obtain ⟨x0,QI⟩:∃ x:Nat,x=get c (pos:Int) 4:=⟨_,rfl⟩
   have LQ:Hid (T6 c (i+1)=T6 c i++[(x0:Int)]):=by
    show _=_;rw [QI,QF];unfold T6;rw [qE,NR];simp
   have C0:=Zh (fun (w':World) (h:Below w w w')=>CR.o (pos:Int) 4 w' h);rw [←QI] at C0;have NT:IntKind.u32.wrap (x0:Int)=(x0:Int):=by have:=WW c (pos:Int);rw [NI];omega
   have gX:IntKind.i64.wrap ((pos:Int)+4)=(pos:Int)+4:=Tm _ Zo;have Ej:pos≤100000:=by omega
   have NL:=Zh QF;clear QF QI;go_upto_region 22 with fail
   have HG:=Zh (HG.o.below (YJ _ _).drew);have HO:=Zh (Yw HO.o (YJ _ _).drew);have k0:(wr.drew).cell? ⟨w.heap.size+1,7,none⟩=some (.slice a i q):=Zc HG.o.Y8 7 rfl;refine SX ?_;refine Z_.Zy (d:=9) (S:=(fun w'=>w'.cell? ⟨w.heap.size+1,7,none⟩=some (.slice a i q))) ZB ?_ (fun _=>?_)
   ·(try dsimp only)
    exact k0
   refine YP 0 (h:=YP 2 (h:=YP 3 (h:=YK 1 (h:=?_))));refine YR 4 (h:=fun K hK=>?_);go_simp;refine (C0.o _ HG.o.Zg).mono ?_;rintro e w' ⟨rfl,rfl⟩;go_wp2_with fail
   refine Z_.Zb hK _ _ ?_ (fun _=>?_)
   ·(try dsimp only)
    first|exact k2|exact k1|exact k0
   clear hK K;try simp only [Z_.pt]
   refine YP 5 (h:=?_);refine YR 6 (h:=fun K hK=>?_);refine Ym Zr Vo (.tmp 100) Zr (.int .u32 (x0:Int)) Zr rfl ?_;have HG:=Zh (HG.o.below (Z' wr.drew (.cells #[.int .u32 (x0:Int)] 66)));have HO:=Zh (Yw HO.o (Z' wr.drew (.cells #[.int .u32 (x0:Int)] 66)));have k1:=cell_of HG.o.Y8 7;simp only [SE,SD,R8] at k1;refine Z_.Zb hK _ _ ?_ (fun _=>?_)
   ·(try dsimp only)
    first|exact k2|exact k1|exact k0
   clear hK K;try simp only [Z_.pt]
   refine YR 7 (h:=fun K hK=>?_);refine Zp Zr (.tmp 96) (.tmp 101) 29 Zr w.heap.size Vo (.slice a i q) i (YO (T6 c i)) Zr HO.o _ 1 (YO [(x0:Int)]) Zr (Vz wr.drew 66 1 (YO [(x0:Int)]) Zd) rfl (Kt _) Zo Zo ?_ ?_
   ·exact HG.o.Zg.size
   intro v' w6 IK yP;obtain ⟨na,nq,NK,-⟩:=Row.Z6 IK.o;subst NK;have HG:=Zh (HG.o.grown HO.o Zd yP.o);have HO:Hid (w6.ownsRow w 66 1 (.slice na (i+1) nq) (i+1) (YO (T6 c i++[(x0:Int)]))):=(by have h:=IK.o;rw [show YO (T6 c i)++YO [(x0:Int)]=YO (T6 c i++[(x0:Int)]) from (NR ..).symm] at h;exact h);have k2:=cell_of HG.o.Y8 7;simp only [SE,SD,R8] at k2;have f2:=ZO HG.o.Y8 7;refine Z_.Zb hK _ _ ?_ (fun _=>?_)
   ·(try dsimp only)
    first|exact k2|exact k1|exact k0
   clear hK K;try simp only [Z_.pt]
   refine YP 8 (h:=?_);refine YR 9 (h:=fun K hK=>?_);go_simp;refine Z_.Yk hK _ _ ZB ?_;clear hK K;try simp only [Z_.pt]
   refine Z_.YC ZB ?_ _;refine RA ?_;go_wp2_with fail
   go_roundw
   case rel=>
    refine ⟨i+1,pos+4,na,nq,Zo,by have:=NL.o;omega,Zn,Zn,?_,?_⟩
    ·exact HG.o.set 7 (.slice na (i+1) nq)
    ·rw [LQ.o];exact Kk HO.o HG.o.Y8 Zd _ _
   case measure=>simp [intOf];omega
  ·have wE:i=n:=by omega
   subst wE;have Sz:=Zh (Row.Z6 HO.o);have TZ:=HG.o.z;have UF:=HG.o.Y8;go_wp2_with (first|(with_reducible refine Zj 173 (.tmp 7) rfl ?_;refine Zf rfl 173 (.tmp 7) rfl (w.heap.size+1) rfl 173 (Qe 203 0 0 0 0 0 none 0 0 a i q 0 none 0 0) (0,0) _ UF Tryz.underlying173 rfl ZB ?_)|(with_reducible refine ZU 173 (.tmp 6) (.tmp 125) rfl ?_;refine ZV rfl 173 (.tmp 6) (.tmp 125) rfl rfl w.heap.size (Qe 203 0 0 0 0 0 none 0 0 a i q 0 none 0 0) rfl rfl 173 YZ TZ ZB ZB ZB ?_))
   refine VD (v:= .agg (Qe 203 0 0 0 0 0 none 0 0 a i q 0 none 0 0)) ?_ rfl ?_
   ·exact results_cell_row Zr _ _ w.heap.size 173 (Qe 203 0 0 0 0 0 none 0 0 a i q 0 none 0 0) (0,0) _ Zr (setRow_heap _ _ _ _ _ _ TZ) Tryz.underlying173 rfl ZB
   refine ⟨⟨_,rfl,?_⟩,Z3 HG.o.Zg (Zw _) _⟩;rw [HX.o];have hr:Uf wr ⟨⟨203,0,0,0,0,0,[],T6 c i,0,[]⟩,.slice none 0 0,.slice a i q,.slice none 0 0⟩:=⟨Row.nil _ _,by show Row wr _ _ (T6 c i).length _;rw [show (T6 c i).length=i by unfold T6;rw [TB,List.length_range]];exact Sz.o,Row.nil _ _⟩;have M0:=Uf.setRow hr TZ (Qe 203 0 0 0 0 0 none 0 0 a i q 0 none 0 0);exact ⟨_,_,_,rfl,M0.b,M0.g,M0.p⟩
end Go.Proofs.By
namespace Go.Proofs.By
open Go.RowKit Go.Proofs.Heap Go.Proofs
theorem AJ (v:Value) (n:Nat) (c:List UInt8) (w:World) (hv:X6 w v c) (hn:n≤1000) :
  Calls Tryz.prog 117 (Q8 205 (n:Int) v) w fun e w'=>(∃ a,e = .returned a∧S8 w' a (Xq 205 n c))∧Below w w w':=by
 have CR:=Zh (fun (p q:Int) (w':World) (h:Below w w w')=>Rj v c p q w' (hv.below h));obtain ⟨ss,Mz⟩:∃ x:Nat,x=get c 0 4:=⟨_,rfl⟩;have lM:=Zh (fun (w':World) (h:Below w w w')=>CR.o 0 4 w' h);rw [←Mz] at lM;have bss:IntKind.u32.wrap (ss:Int)=(ss:Int):=by have:=WW c 0;rw [NI];omega
 obtain ⟨md,dn⟩:∃ x:Nat,x=get c 4 4:=⟨_,rfl⟩;have Cmd:=Zh (fun (w':World) (h:Below w w w')=>CR.o 4 4 w' h);rw [←dn] at Cmd;have bmd:IntKind.u32.wrap (md:Int)=(md:Int):=by have:=WW c 4;rw [NI];omega
 have HX:Hid (Xq 205 n c=⟨205,(ss:Int),0,0,0,0,[],[],(md:Int),Te c n⟩):=by
  show _=_;unfold Xq;rw [Mz,dn];simp
 generalize Xq 205 n c=X at *
 clear Mz dn;have H1:Hid (GI w (((w.alloc (.cells YZ 173)).alloc (.cells YZ 173)).setRow (w.heap.size+1) bW) Yz8):=GI.start w 205
 have hz:((w.alloc (.cells YZ 173)).alloc (.cells YZ 173)).heap[w.heap.size+1]?=some (.cells YZ 173 (0,0)):=by
  exact rO
 clear hv;go_enter Tryz.func117,Tryz.ntmps117;go_upto_region 2 with (with_reducible refine ZU 173 (.tmp 7) (.tmp 11) rfl ?_;refine ZV rfl 173 (.tmp 7) (.tmp 11) rfl rfl (w.heap.size+1) bW rfl rfl 173 YZ hz ZB ZB ZB ?_)
 clear hz;generalize ((w.alloc (.cells YZ 173)).alloc (.cells YZ 173)).setRow (w.heap.size+1) bW=w1 at *
 have z1:=cell_of H1.o.Y8 1;simp only [SE,SD,R8] at z1;have f1:=ZO H1.o.Y8 1;go_upto_region 5 with (go_at_call 118;refine (lM.o _ H1.o.Zg).mono ?_;rintro e w' ⟨rfl,rfl⟩)
 have H2:Hid (GI w (w1.setCell ⟨w.heap.size+1,1,none⟩ (.int .u32 (ss:Int))) (Qe 205 (ss:Int) 0 0 0 0 none 0 0 none 0 0 0 none 0 0)):=H1.o.set 1 (.int .u32 (ss:Int));clear z1 f1;generalize w1.setCell ⟨w.heap.size+1,1,none⟩ (.int .u32 (ss:Int))=w2 at *
 have z2:=cell_of H2.o.Y8 8;simp only [SE,SD,R8] at z2;have f2:=ZO H2.o.Y8 8;go_upto_region 14 with (go_at_call 118;refine (Cmd.o _ H2.o.Zg).mono ?_;rintro e w' ⟨rfl,rfl⟩)
 have H3:Hid (GI w (w2.setCell ⟨w.heap.size+1,8,none⟩ (.int .u32 (md:Int))) (Qe 205 (ss:Int) 0 0 0 0 none 0 0 none 0 0 (md:Int) none 0 0)):=H2.o.set 8 (.int .u32 (md:Int));clear z2 f2;generalize w2.setCell ⟨w.heap.size+1,8,none⟩ (.int .u32 (md:Int))=w3 at *
 go_wp2_with fail
 go_loopw [8,9] (fun s8 s9 w'=>∃ (i pos:Nat) (a:Option Addr) (q:Nat),i≤n∧pos=8+4*i∧s9 = .int .i64 (i:Int)∧s8 = .int .i64 (pos:Int)∧GI w w' (Qe 205 (ss:Int) 0 0 0 0 none 0 0 none 0 0 (md:Int) a i q)∧w'.ownsRow w 226 2 (.slice a i q) i ((Te c i).flatMap Wj)) (fun _ s9 _=>n-(intOf s9).toNat)
 case atStart=>exact ⟨0,8,none,0,Zo,Zo,rfl,rfl,H3.o,TY _ _ _ _⟩
 case round=>
  obtain ⟨i,pos,a,q,hi,QF,rfl,rfl,Ed,YH⟩:=hrel;have HG:=Zh Ed;have HO:=Zh YH;clear Ed YH H3;by_cases GA:i<n
  ·obtain ⟨x0,QI⟩:∃ x:Nat,x=get c (pos:Int) 2:=⟨_,rfl⟩;obtain ⟨x1,SJ⟩:∃ x:Nat,x=get c ((pos:Int)+2) 2:=⟨_,rfl⟩
   have LQ:Hid (Te c (i+1)=Te c i++[((x0:Int),(x1:Int))]):=by
    show _=_;rw [QI,SJ,QF];unfold Te;rw [qE,NR];rfl
   have C0:=Zh (fun (w':World) (h:Below w w w')=>CR.o (pos:Int) 2 w' h);rw [←QI] at C0;have NT:IntKind.u16.wrap (x0:Int)=(x0:Int):=by have:=MX c (pos:Int);rw [IntKind.wrap_u16];omega
   have C1:=Zh (fun (w':World) (h:Below w w w')=>CR.o ((pos:Int)+2) 2 w' h);rw [←SJ] at C1;have YY:IntKind.u16.wrap (x1:Int)=(x1:Int):=by have:=MX c ((pos:Int)+2);rw [IntKind.wrap_u16];omega
   have Ei:IntKind.i64.wrap ((pos:Int)+2)=(pos:Int)+2:=Tm _ Zo;have gX:IntKind.i64.wrap ((pos:Int)+4)=(pos:Int)+4:=Tm _ Zo;have Ej:pos≤100000:=by omega
   have NL:=Zh QF;clear QF QI SJ;go_upto_region 25 with fail
   have HG:=Zh (HG.o.below (YJ _ _).drew);have HO:=Zh (Yw HO.o (YJ _ _).drew);have k0:(wr.drew).cell? ⟨w.heap.size+1,9,none⟩=some (.slice a i q):=Zc HG.o.Y8 9 rfl;refine SX ?_;refine Z_.Zy (d:=15) (S:=(fun w'=>w'.cell? ⟨w.heap.size+1,9,none⟩=some (.slice a i q))) ZB ?_ (fun _=>?_)
   ·(try dsimp only)
    exact k0
   refine YP 0 (h:=YP 2 (h:=YP 3 (h:=YP 6 (h:=YP 7 (h:=YP 8 (h:=YK 1 (h:=?_)))))));refine YR 4 (h:=fun K hK=>?_);go_simp;refine (C0.o _ HG.o.Zg).mono ?_;rintro e w' ⟨rfl,rfl⟩;go_wp2_with fail
   refine Z_.Zb hK _ _ ?_ (fun _=>?_)
   ·(try dsimp only)
    first|exact k2|exact k1|exact k0
   clear hK K;try simp only [Z_.pt]
   refine YP 5 (h:=?_);refine YR 9 (h:=fun K hK=>?_);go_simp;refine (C1.o _ HG.o.Zg).mono ?_;rintro e w' ⟨rfl,rfl⟩;go_wp2_with fail
   refine Z_.Zb hK _ _ ?_ (fun _=>?_)
   ·(try dsimp only)
    first|exact k2|exact k1|exact k0
   clear hK K;try simp only [Z_.pt]
   refine YP 10 (h:=YP 11 (h:=?_));refine YR 12 (h:=fun K hK=>?_);refine Xg Zr KT (.tmp 119) Zr (Qy (x0:Int) (x1:Int)) Zr Zr Zd ?_;have HG:=Zh (HG.o.below (Z' wr.drew (.cells (Qy (x0:Int) (x1:Int)) 226)));have HO:=Zh (Yw HO.o (Z' wr.drew (.cells (Qy (x0:Int) (x1:Int)) 226)));have k1:=cell_of HG.o.Y8 9;simp only [SE,SD,R8] at k1;refine Z_.Zb hK _ _ ?_ (fun _=>?_)
   ·(try dsimp only)
    first|exact k2|exact k1|exact k0
   clear hK K;try simp only [Z_.pt]
   refine YR 13 (h:=fun K hK=>?_);refine Zp Zr (.tmp 109) (.tmp 120) 171 Zr w.heap.size KT (.slice a i q) i ((Te c i).flatMap Wj) Zr HO.o _ 1 ([((x0:Int),(x1:Int))].flatMap Wj) Zr (Vz wr.drew 226 1 ([((x0:Int),(x1:Int))].flatMap Wj) Zd) rfl (U4 fun x _=>Ay x) Zo Zo ?_ ?_
   ·exact HG.o.Zg.size
   intro v' w6 IK yP;obtain ⟨na,nq,NK,-⟩:=Row.Z6 IK.o;subst NK;have HG:=Zh (HG.o.grown HO.o Zd yP.o);have HO:Hid (w6.ownsRow w 226 2 (.slice na (i+1) nq) (i+1) ((Te c i++[((x0:Int),(x1:Int))]).flatMap Wj)):=(by have h:=IK.o;rw [←OQ] at h;exact h);have k2:=cell_of HG.o.Y8 9;simp only [SE,SD,R8] at k2;have f2:=ZO HG.o.Y8 9;refine Z_.Zb hK _ _ ?_ (fun _=>?_)
   ·(try dsimp only)
    first|exact k2|exact k1|exact k0
   clear hK K;try simp only [Z_.pt]
   refine YP 14 (h:=?_);refine YR 15 (h:=fun K hK=>?_);go_simp;refine Z_.Yk hK _ _ ZB ?_;clear hK K;try simp only [Z_.pt]
   refine Z_.YC ZB ?_ _;refine RA ?_;go_wp2_with fail
   go_roundw
   case rel=>
    refine ⟨i+1,pos+4,na,nq,Zo,by have:=NL.o;omega,Zn,Zn,?_,?_⟩
    ·exact HG.o.set 9 (.slice na (i+1) nq)
    ·rw [LQ.o];exact Kk HO.o HG.o.Y8 Zd _ _
   case measure=>simp [intOf];omega
  ·have wE:i=n:=by omega
   subst wE;have Sz:=Zh (Row.Z6 HO.o);have TZ:=HG.o.z;have UF:=HG.o.Y8;go_wp2_with (first|(with_reducible refine Zj 173 (.tmp 7) rfl ?_;refine Zf rfl 173 (.tmp 7) rfl (w.heap.size+1) rfl 173 (Qe 205 (ss:Int) 0 0 0 0 none 0 0 none 0 0 (md:Int) a i q) (0,0) _ UF Tryz.underlying173 rfl ZB ?_)|(with_reducible refine ZU 173 (.tmp 6) (.tmp 125) rfl ?_;refine ZV rfl 173 (.tmp 6) (.tmp 125) rfl rfl w.heap.size (Qe 205 (ss:Int) 0 0 0 0 none 0 0 none 0 0 (md:Int) a i q) rfl rfl 173 YZ TZ ZB ZB ZB ?_))
   refine VD (v:= .agg (Qe 205 (ss:Int) 0 0 0 0 none 0 0 none 0 0 (md:Int) a i q)) ?_ rfl ?_
   ·exact results_cell_row Zr _ _ w.heap.size 173 (Qe 205 (ss:Int) 0 0 0 0 none 0 0 none 0 0 (md:Int) a i q) (0,0) _ Zr (setRow_heap _ _ _ _ _ _ TZ) Tryz.underlying173 rfl ZB
   refine ⟨⟨_,rfl,?_⟩,Z3 HG.o.Zg (Zw _) _⟩;rw [HX.o];have hr:Uf wr ⟨⟨205,(ss:Int),0,0,0,0,[],[],(md:Int),Te c i⟩,.slice none 0 0,.slice none 0 0,.slice a i q⟩:=⟨Row.nil _ _,Row.nil _ _,by show Row wr _ _ (Te c i).length _;rw [show (Te c i).length=i by unfold Te;rw [TB,List.length_range]];exact Sz.o⟩;have M0:=Uf.setRow hr TZ (Qe 205 (ss:Int) 0 0 0 0 none 0 0 none 0 0 (md:Int) a i q);exact ⟨_,_,_,rfl,M0.b,M0.g,M0.p⟩
theorem xD (v:Value) (n:Nat) (c:List UInt8) (w:World) (hv:X6 w v c) (hn:n≤1000) :
  Calls Tryz.prog 117 (Q8 201 (n:Int) v) w fun e w'=>(∃ a,e = .returned a∧S8 w' a (Xq 201 n c))∧Below w w w':=by
 have CR:=Zh (fun (p q:Int) (w':World) (h:Below w w w')=>Rj v c p q w' (hv.below h));obtain ⟨ss,Mz⟩:∃ x:Nat,x=get c 0 4:=⟨_,rfl⟩;have lM:=Zh (fun (w':World) (h:Below w w w')=>CR.o 0 4 w' h);rw [←Mz] at lM;have bss:IntKind.u32.wrap (ss:Int)=(ss:Int):=by have:=WW c 0;rw [NI];omega
 have HX:Hid (Xq 201 n c=⟨201,(ss:Int),0,0,0,0,Vd c 4 n,[],0,[]⟩):=by
  show _=_;unfold Xq;rw [Mz];simp
 generalize Xq 201 n c=X at *
 clear Mz;have H1:Hid (GI w (((w.alloc (.cells YZ 173)).alloc (.cells YZ 173)).setRow (w.heap.size+1) bY) Yz9):=GI.start w 201
 have hz:((w.alloc (.cells YZ 173)).alloc (.cells YZ 173)).heap[w.heap.size+1]?=some (.cells YZ 173 (0,0)):=by
  exact rO
 clear hv;go_enter Tryz.func117,Tryz.ntmps117;go_upto_region 2 with (with_reducible refine ZU 173 (.tmp 7) (.tmp 11) rfl ?_;refine ZV rfl 173 (.tmp 7) (.tmp 11) rfl rfl (w.heap.size+1) bY rfl rfl 173 YZ hz ZB ZB ZB ?_)
 clear hz;generalize ((w.alloc (.cells YZ 173)).alloc (.cells YZ 173)).setRow (w.heap.size+1) bY=w1 at *
 have z1:=cell_of H1.o.Y8 1;simp only [SE,SD,R8] at z1;have f1:=ZO H1.o.Y8 1;go_upto_region 5 with (go_at_call 118;refine (lM.o _ H1.o.Zg).mono ?_;rintro e w' ⟨rfl,rfl⟩)
 have H2:Hid (GI w (w1.setCell ⟨w.heap.size+1,1,none⟩ (.int .u32 (ss:Int))) (Qe 201 (ss:Int) 0 0 0 0 none 0 0 none 0 0 0 none 0 0)):=H1.o.set 1 (.int .u32 (ss:Int));clear z1 f1;generalize w1.setCell ⟨w.heap.size+1,1,none⟩ (.int .u32 (ss:Int))=w2 at *
 go_wp2_with fail
 go_loopw [8,9] (fun s8 s9 w'=>∃ (i pos:Nat) (a:Option Addr) (q:Nat),i≤n∧pos=4+24*i∧s9 = .int .i64 (i:Int)∧s8 = .int .i64 (pos:Int)∧GI w w' (Qe 201 (ss:Int) 0 0 0 0 a i q none 0 0 0 none 0 0)∧w'.ownsRow w 228 7 (.slice a i q) i ((Vd c 4 i).flatMap Xb)) (fun _ s9 _=>n-(intOf s9).toNat)
 case atStart=>exact ⟨0,4,none,0,Zo,Zo,rfl,rfl,H2.o,TY _ _ _ _⟩
 case round=>
  obtain ⟨i,pos,a,q,hi,QF,rfl,rfl,Ed,YH⟩:=hrel;have HG:=Zh Ed;have HO:=Zh YH;clear Ed YH H2;by_cases GA:i<n
  ·obtain ⟨x0,QI⟩:∃ x:Nat,x=get c (pos:Int) 4:=⟨_,rfl⟩;obtain ⟨x1,SJ⟩:∃ x:Nat,x=get c ((pos:Int)+4) 1:=⟨_,rfl⟩;obtain ⟨x2,N7⟩:∃ x:Nat,x=get c ((pos:Int)+5) 3:=⟨_,rfl⟩;obtain ⟨x3,Rh⟩:∃ x:Nat,x=get c ((pos:Int)+8) 4:=⟨_,rfl⟩;obtain ⟨x4,LK⟩:∃ x:Nat,x=get c ((pos:Int)+12) 4:=⟨_,rfl⟩;obtain ⟨x5,JF⟩:∃ x:Nat,x=get c ((pos:Int)+16) 4:=⟨_,rfl⟩;obtain ⟨x6,dV⟩:∃ x:Nat,x=get c ((pos:Int)+20) 4:=⟨_,rfl⟩
   have LQ:Hid (Vd c 4 (i+1)=Vd c 4 i++[⟨x0,x1,x2,x3,x4,x5,x6⟩]):=by
    show _=_;rw [QI,SJ,N7,Rh,LK,JF,dV,QF];unfold Vd;rw [qE,NR];rfl
   have C0:=Zh (fun (w':World) (h:Below w w w')=>CR.o (pos:Int) 4 w' h);rw [←QI] at C0;have NT:IntKind.u32.wrap (x0:Int)=(x0:Int):=by have:=WW c (pos:Int);rw [NI];omega
   have C1:=Zh (fun (w':World) (h:Below w w w')=>CR.o ((pos:Int)+4) 1 w' h);rw [←SJ] at C1;have YY:IntKind.u8.wrap (x1:Int)=(x1:Int):=by have:=uy c ((pos:Int)+4);rw [IntKind.wrap_u8];omega
   have Ei:IntKind.i64.wrap ((pos:Int)+4)=(pos:Int)+4:=Tm _ Zo;have C2:=Zh (fun (w':World) (h:Below w w w')=>CR.o ((pos:Int)+5) 3 w' h);rw [←N7] at C2;have Y7:IntKind.u32.wrap (x2:Int)=(x2:Int):=by have:=uz c ((pos:Int)+5);rw [NI];omega
   have hp2:IntKind.i64.wrap ((pos:Int)+5)=(pos:Int)+5:=Tm _ Zo;have C3:=Zh (fun (w':World) (h:Below w w w')=>CR.o ((pos:Int)+8) 4 w' h);rw [←Rh] at C3;have VJ:IntKind.u32.wrap (x3:Int)=(x3:Int):=by have:=WW c ((pos:Int)+8);rw [NI];omega
   have hp3:IntKind.i64.wrap ((pos:Int)+8)=(pos:Int)+8:=Tm _ Zo;have C4:=Zh (fun (w':World) (h:Below w w w')=>CR.o ((pos:Int)+12) 4 w' h);rw [←LK] at C4;have Oj:IntKind.u32.wrap (x4:Int)=(x4:Int):=by have:=WW c ((pos:Int)+12);rw [NI];omega
   have hp4:IntKind.i64.wrap ((pos:Int)+12)=(pos:Int)+12:=Tm _ Zo;have C5:=Zh (fun (w':World) (h:Below w w w')=>CR.o ((pos:Int)+16) 4 w' h);rw [←JF] at C5;have MI:IntKind.u32.wrap (x5:Int)=(x5:Int):=by have:=WW c ((pos:Int)+16);rw [NI];omega
   have hp5:IntKind.i64.wrap ((pos:Int)+16)=(pos:Int)+16:=Tm _ Zo;have C6:=Zh (fun (w':World) (h:Below w w w')=>CR.o ((pos:Int)+20) 4 w' h);rw [←dV] at C6;have Ec:IntKind.u32.wrap (x6:Int)=(x6:Int):=by have:=WW c ((pos:Int)+20);rw [NI];omega
   have hp6:IntKind.i64.wrap ((pos:Int)+20)=(pos:Int)+20:=Tm _ Zo;have gX:IntKind.i64.wrap ((pos:Int)+24)=(pos:Int)+24:=Tm _ Zo;have Ej:pos≤100000:=by omega
   have NL:=Zh QF;clear QF QI SJ N7 Rh LK JF dV;go_upto_region 19 with fail
   have HG:=Zh (HG.o.below (YJ _ _).drew);have HO:=Zh (Yw HO.o (YJ _ _).drew);have k0:(wr.drew).cell? ⟨w.heap.size+1,6,none⟩=some (.slice a i q):=Zc HG.o.Y8 6 rfl;refine SX ?_;refine Z_.Zy (d:=40) (S:=(fun w'=>w'.cell? ⟨w.heap.size+1,6,none⟩=some (.slice a i q))) ZB ?_ (fun _=>?_)
   ·(try dsimp only)
    exact k0
   refine YP 0 (h:=YP 2 (h:=YP 3 (h:=YP 6 (h:=YP 7 (h:=YP 8 (h:=YP 11 (h:=YP 12 (h:=YP 13 (h:=YP 16 (h:=YP 17 (h:=YP 18 (h:=YP 21 (h:=YP 22 (h:=YP 23 (h:=YP 26 (h:=YP 27 (h:=YP 28 (h:=YP 31 (h:=YP 32 (h:=YP 33 (h:=YK 1 (h:=?_))))))))))))))))))))));refine YR 4 (h:=fun K hK=>?_);go_simp;refine (C0.o _ HG.o.Zg).mono ?_;rintro e w' ⟨rfl,rfl⟩;go_wp2_with fail
   refine Z_.Zb hK _ _ ?_ (fun _=>?_)
   ·(try dsimp only)
    first|exact k2|exact k1|exact k0
   clear hK K;try simp only [Z_.pt]
   refine YP 5 (h:=?_);refine YR 9 (h:=fun K hK=>?_);go_simp;refine (C1.o _ HG.o.Zg).mono ?_;rintro e w' ⟨rfl,rfl⟩;go_wp2_with fail
   refine Z_.Zb hK _ _ ?_ (fun _=>?_)
   ·(try dsimp only)
    first|exact k2|exact k1|exact k0
   clear hK K;try simp only [Z_.pt]
   refine YP 10 (h:=?_);refine YR 14 (h:=fun K hK=>?_);go_simp;refine (C2.o _ HG.o.Zg).mono ?_;rintro e w' ⟨rfl,rfl⟩;go_wp2_with fail
   refine Z_.Zb hK _ _ ?_ (fun _=>?_)
   ·(try dsimp only)
    first|exact k2|exact k1|exact k0
   clear hK K;try simp only [Z_.pt]
   refine YP 15 (h:=?_);refine YR 19 (h:=fun K hK=>?_);go_simp;refine (C3.o _ HG.o.Zg).mono ?_;rintro e w' ⟨rfl,rfl⟩;go_wp2_with fail
   refine Z_.Zb hK _ _ ?_ (fun _=>?_)
   ·(try dsimp only)
    first|exact k2|exact k1|exact k0
   clear hK K;try simp only [Z_.pt]
   refine YP 20 (h:=?_);refine YR 24 (h:=fun K hK=>?_);go_simp;refine (C4.o _ HG.o.Zg).mono ?_;rintro e w' ⟨rfl,rfl⟩;go_wp2_with fail
   refine Z_.Zb hK _ _ ?_ (fun _=>?_)
   ·(try dsimp only)
    first|exact k2|exact k1|exact k0
   clear hK K;try simp only [Z_.pt]
   refine YP 25 (h:=?_);refine YR 29 (h:=fun K hK=>?_);go_simp;refine (C5.o _ HG.o.Zg).mono ?_;rintro e w' ⟨rfl,rfl⟩;go_wp2_with fail
   refine Z_.Zb hK _ _ ?_ (fun _=>?_)
   ·(try dsimp only)
    first|exact k2|exact k1|exact k0
   clear hK K;try simp only [Z_.pt]
   refine YP 30 (h:=?_);refine YR 34 (h:=fun K hK=>?_);go_simp;refine (C6.o _ HG.o.Zg).mono ?_;rintro e w' ⟨rfl,rfl⟩;go_wp2_with fail
   refine Z_.Zb hK _ _ ?_ (fun _=>?_)
   ·(try dsimp only)
    first|exact k2|exact k1|exact k0
   clear hK K;try simp only [Z_.pt]
   refine YP 35 (h:=YP 36 (h:=?_));refine YR 37 (h:=fun K hK=>?_);refine Xg Zr MU (.tmp 87) Zr (Qt (x0:Int) (x1:Int) (x2:Int) (x3:Int) (x4:Int) (x5:Int) (x6:Int)) Zr Zr Zd ?_;have HG:=Zh (HG.o.below (Z' wr.drew (.cells (Qt (x0:Int) (x1:Int) (x2:Int) (x3:Int) (x4:Int) (x5:Int) (x6:Int)) 228)));have HO:=Zh (Yw HO.o (Z' wr.drew (.cells (Qt (x0:Int) (x1:Int) (x2:Int) (x3:Int) (x4:Int) (x5:Int) (x6:Int)) 228)));have k1:=cell_of HG.o.Y8 6;simp only [SE,SD,R8] at k1;refine Z_.Zb hK _ _ ?_ (fun _=>?_)
   ·(try dsimp only)
    first|exact k2|exact k1|exact k0
   clear hK K;try simp only [Z_.pt]
   refine YR 38 (h:=fun K hK=>?_);refine Zp Zr (.tmp 52) (.tmp 88) 170 Zr w.heap.size MU (.slice a i q) i ((Vd c 4 i).flatMap Xb) Zr HO.o _ 1 ([(⟨x0,x1,x2,x3,x4,x5,x6⟩:qQ)].flatMap Xb) Zr (Vz wr.drew 228 1 ([(⟨x0,x1,x2,x3,x4,x5,x6⟩:qQ)].flatMap Xb) Zd) rfl (U4 fun x _=>BS x) Zo Zo ?_ ?_
   ·exact HG.o.Zg.size
   intro v' w6 IK yP;obtain ⟨na,nq,NK,-⟩:=Row.Z6 IK.o;subst NK;have HG:=Zh (HG.o.grown HO.o Zd yP.o);have HO:Hid (w6.ownsRow w 228 7 (.slice na (i+1) nq) (i+1) ((Vd c 4 i++[(⟨x0,x1,x2,x3,x4,x5,x6⟩:qQ)]).flatMap Xb)):=(by have h:=IK.o;rw [←OQ] at h;exact h);exact Yx50
  ·have wE:i=n:=by omega
   subst wE;have Sz:=Zh (Row.Z6 HO.o);have TZ:=HG.o.z;have UF:=HG.o.Y8;go_wp2_with (first|(with_reducible refine Zj 173 (.tmp 7) rfl ?_;refine Zf rfl 173 (.tmp 7) rfl (w.heap.size+1) rfl 173 (Qe 201 (ss:Int) 0 0 0 0 a i q none 0 0 0 none 0 0) (0,0) _ UF Tryz.underlying173 rfl ZB ?_)|(with_reducible refine ZU 173 (.tmp 6) (.tmp 125) rfl ?_;refine ZV rfl 173 (.tmp 6) (.tmp 125) rfl rfl w.heap.size (Qe 201 (ss:Int) 0 0 0 0 a i q none 0 0 0 none 0 0) rfl rfl 173 YZ TZ ZB ZB ZB ?_))
   refine VD (v:= .agg (Qe 201 (ss:Int) 0 0 0 0 a i q none 0 0 0 none 0 0)) ?_ rfl ?_
   ·exact results_cell_row Zr _ _ w.heap.size 173 (Qe 201 (ss:Int) 0 0 0 0 a i q none 0 0 0 none 0 0) (0,0) _ Zr (setRow_heap _ _ _ _ _ _ TZ) Tryz.underlying173 rfl ZB
   refine ⟨⟨_,rfl,?_⟩,Z3 HG.o.Zg (Zw _) _⟩;rw [HX.o];have hr:Uf wr ⟨⟨201,(ss:Int),0,0,0,0,Vd c 4 i,[],0,[]⟩,.slice a i q,.slice none 0 0,.slice none 0 0⟩:=⟨by show Row wr _ _ (Vd c 4 i).length _;rw [show (Vd c 4 i).length=i by unfold Vd;rw [TB,List.length_range]];exact Sz.o,Row.nil _ _,Row.nil _ _⟩;have M0:=Uf.setRow hr TZ (Qe 201 (ss:Int) 0 0 0 0 a i q none 0 0 0 none 0 0);exact ⟨_,_,_,rfl,M0.b,M0.g,M0.p⟩
end Go.Proofs.By
