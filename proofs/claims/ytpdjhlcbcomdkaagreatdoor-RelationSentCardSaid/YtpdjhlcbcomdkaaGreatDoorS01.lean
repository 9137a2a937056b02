import Derived.Test.YtpdjhlcbcomdkaaGreatDoorS00
set_option linter.all false
set_option maxRecDepth 100000
set_option maxHeartbeats 16000000
open Go Go.Q Go.RowKit
namespace Go.Proofs.By
section
variable {P:Program} {ops:Array Oper} {Q:Exit→Act→World→Prop} {md:Region.Mode} {S:World→Prop} {d:Nat}
def till(P:Program)(md:Region.Mode)(ops:Array Oper)(Q:Exit→Act→World→Prop)(S:World→Prop)(d:Nat):Nat→Array Bool→Act→World→Prop
 | 0,done,a,w=>Region.ready md ops done=[]∧Q .normal a w
 | n+1,done,a,w=>(Region.ready md ops done=[]→Q .normal a w) ∧
  ∀i∈Region.ready md ops done,wpOp P ops Q i (fun a' w'=>((done.setIfInBounds i true).getD d true=false→S w')∧till P md ops Q S d n (done.setIfInBounds i true) a' w') a w
def zu:∀(n:Nat) (done:Array Bool) (a:Act) (w:World),till P md ops Q S d n done a w→wpAny P md ops Q n done a w
 | 0,_,_,_,h=>h
 | n+1,_,_,_,h=>⟨h.1,fun i hi=>wpOp_mono (fun a' w' k=>zu n _ a' w' k.2) (h.2 i hi)⟩
def Io(md:Region.Mode)(ops:Array Oper)(done:Array Bool):Prop:=∀k ok,ops[k]?=some ok→done.getD k false=true→∀e∈ok.after,Region.binds md e=true→done.getD e.on false=true
def closed(md:Region.Mode)(ops:Array Oper)(done:Array Bool):Bool:=(List.range ops.size).all fun k=> !(done.getD k false)||(match ops[k]? with
 | some o=>o.after.all fun e=> !(Region.binds md e)||done.getD e.on false
 | none=>true)
def xy{done:Array Bool}(h:closed md ops done=true):Io md ops done:=by
 intro k ok hk hdk e he hb;unfold closed at h;have h1:=List.all_eq_true.1 h k (by rw[List.mem_range];exact(Array.getElem?_eq_some_iff.1 hk).1);rw[hdk,hk]at h1;have h2:=Array.all_eq_true_iff_forall_mem.1 (show(ok.after.all fun e=> !(Region.binds md e)||done.getD e.on false)=true from h1) e he;rw[hb]at h2;simpa using h2
def Io.set{done:Array Bool}(h:Io md ops done){j:Nat}(hj:j∈Region.ready md ops done):Io md ops (done.setIfInBounds j true):=by
 intro k ok hk hdk e he hb;by_cases H7:j=k
 ·subst H7;obtain⟨_,o,ho,Ut⟩:=mem_ready.1 hj;rw[hk]at ho;injection ho with ho
  subst ho;exact getD_set_true (Ut e he hb)
 ·rw[getD_set_ne false H7]at hdk;exact getD_set_true (h k ok hk hdk e he hb)
def al(md:Region.Mode)(ops:Array Oper)(i:Nat):Nat→Nat→Bool
 | 0,_=>false
 | n+1,d=>match ops[d]? with
  | some o=>o.after.any fun e=>Region.binds md e&&(e.on==i||al md ops i n e.on)
  | none=>false
def Gn{i:Nat}{done:Array Bool}(hc:Io md ops done):∀(n d:Nat) (od:Oper),al md ops i n d=true→ops[d]?=some od→(∀e∈od.after,Region.binds md e=true→done.getD e.on false=true)→done.getD i false=true
 | 0,_,_,h,_,_=>by cases h
 | n+1,d,od,h,ho,hl=>by
  unfold al at h;rw[ho]at h;obtain⟨e,he,hb⟩:=Array.any_eq_true'.1 h;have hb:=(UN _ _).mp hb;have h1:=hl e he hb.1;rcases (Bool.or_eq_true _ _).mp hb.2 with h2|h2
  ·rw[←show e.on=i by simpa using h2];exact h1
  ·cases hoe:ops[e.on]? with
   | none=>
    exfalso;cases n with
    | zero=>cases h2
    | succ n=>unfold al at h2;rw[hoe]at h2;cases h2
   | some oe=>exact Gn hc n e.on oe h2 hoe (hc e.on oe hoe h1)
def vv{i:Nat}{oi:Oper}{v:Value}(hi:ops[i]?=some oi)(kS:∀(j:Nat) (o:Oper) cs b,ops[j]?=some o→o.op ≠ .select cs b)
  (hQ:∀c a w,Q (.panic c) (a.put oi.dst v) w→Q (.panic c) a w) (WA:i≠d) (hd:al md ops i ops.size d=true) :
  ∀(n:Nat) (done:Array Bool) (a:Act) (w:World),
   (∀j oj,ops[j]?=some oj→j≠i→done.getD j true=false→(∀e∈oj.after,Region.binds md e=true→e.on≠i)→oi.apart ops oj=true) →
   i∈Region.ready md ops done→YieldsIf P ops S oi v a→Io md ops done→done.getD d true=false→S w →
   till P md ops Q S d n (done.setIfInBounds i true) (a.put oi.dst v) w→till P md ops Q S d (n+1) done a w:=by
 intro n
 induction n with
 | zero=>
  intro done a w _ hr hy _ _ hS H;refine⟨fun h=>(by rw[h]at hr;cases hr),fun j hj=>?_⟩;by_cases zL:j=i
  ·subst zL;exact hy.wpOp hi hS ⟨fun _=>hS,H⟩
  ·have:=ready_mono hj zL;rw[H.1]at this;cases this
 | succ n ih=>
  intro done a w xW hr hy hc hdn hS H;refine⟨fun h=>(by rw[h]at hr;cases hr),fun j hj=>?_⟩;by_cases zL:j=i
  ·subst zL;exact hy.wpOp hi hS ⟨fun _=>hS,H⟩
  ·have h1:=H.2 j (ready_mono hj zL);obtain⟨kC,oj,kM,Ut⟩:=mem_ready.1 hj;have lj:done.getD i true=false:=(mem_ready.1 hr).1
   have hnd:done.getD i false=true→False:=fun k=>by
    rcases Nat.lt_or_ge i done.size with h'|h'
    ·simp[h']at lj k;rw[lj]at k;cases k
    ·simp[DT h']at k
   have pH:∀e∈oj.after,Region.binds md e=true→e.on≠i:=fun e he hb heq=>hnd (by rw[←heq];exact Ut e he hb)
   have hjd:j≠d:=fun e=>by
    subst e;exact hnd (Gn hc ops.size j oj hd kM Ut)
   have g1:(done.setIfInBounds j true).getD d true=false:=by rw[getD_set_ne true hjd];exact hdn
   have g2:((done.setIfInBounds i true).setIfInBounds j true).getD d true=false:=by rw[getD_set_ne true hjd,getD_set_ne true WA];exact hdn
   have h2:=wpOp_putIf kM (xW j oj kM zL kC pH) (fun cs b=>kS i oi cs b hi) (fun cs b=>kS j oj cs b kM) hQ hy h1
   have tU:∀k ok,ops[k]?=some ok→k≠i→(done.setIfInBounds j true).getD k true=false →
     (∀e∈ok.after,Region.binds md e=true→e.on≠i)→oi.apart ops ok=true:=fun k ok hk hki lj N_=>by
    refine xW k ok hk hki ?_ N_;by_cases H7:j=k
    ·subst H7;exact kC
    ·rw[getD_set_ne true H7]at lj;exact lj
   refine wpOp_mono (fun a' w' k=>⟨fun _=>k.2.1 g2,ih (done.setIfInBounds j true) a' w' tU (ready_mono hr (Ne.symm zL)) k.1 (hc.set hj) g1 (k.2.1 g2) ?_⟩) h2;rw[Array.setIfInBounds_comm _ _ zL];exact k.2.2
def Mr{i:Nat}{oi:Oper}{v:Value}{n:Nat}{done:Array Bool}{a:Act}{w:World}(hi:ops[i]?=some oi)
  (hs:Region.noSelect ops=true) (hf:Region.free md ops done i=true) (hr:(Region.ready md ops done).contains i=true)
  (hd:((i !=d)&&al md ops i ops.size d&&closed md ops done && !(done.getD d true))=true)
  (hQ:∀c a w,Q (.panic c) (a.put oi.dst v) w→Q (.panic c) a w) (hy:YieldsIf P ops S oi v a) (hS:S w)
  (h:till P md ops Q S d n (done.setIfInBounds i true) (a.put oi.dst v) w):till P md ops Q S d (n+1) done a w:=by
 simp only[UN]at hd;obtain⟨⟨⟨h1,h2⟩,h3⟩,h4⟩:=hd;exact vv hi (Region.noSelect_spec hs) hQ (by simpa using h1) h2 n done a w (Region.free_spec hi hf) (by simpa using hr) hy (xy h3) (by simpa using h4) hS h
def zw{i:Nat}{oi:Oper}{v:Value}(hi:ops[i]?=some oi)(kS:∀(j:Nat) (o:Oper) cs b,ops[j]?=some o→o.op ≠ .select cs b)
  (hQ:∀c a w,Q (.panic c) (a.put oi.dst v) w→Q (.panic c) a w) (WA:i≠d) :
  ∀(n:Nat) (done:Array Bool) (a:Act) (w:World),
   (∀j oj,ops[j]?=some oj→j≠i→done.getD j true=false→(∀e∈oj.after,Region.binds md e=true→e.on≠i)→oi.apart ops oj=true) →
   i∈Region.ready md ops done→YieldsIf P ops (fun _=>True) oi v a→(done.getD d true=false→S w) →
   till P md ops Q S d n (done.setIfInBounds i true) (a.put oi.dst v) w→till P md ops Q S d (n+1) done a w:=by
 intro n
 induction n with
 | zero=>
  intro done a w _ hr hy hS H;refine⟨fun h=>(by rw[h]at hr;cases hr),fun j hj=>?_⟩;by_cases zL:j=i
  ·subst zL;exact hy.wpOp hi trivial ⟨fun h=>hS (by rw[getD_set_ne true WA]at h;exact h),H⟩
  ·have:=ready_mono hj zL;rw[H.1]at this;cases this
 | succ n ih=>
  intro done a w xW hr hy hS H;refine⟨fun h=>(by rw[h]at hr;cases hr),fun j hj=>?_⟩;by_cases zL:j=i
  ·subst zL;exact hy.wpOp hi trivial ⟨fun h=>hS (by rw[getD_set_ne true WA]at h;exact h),H⟩
  ·have h1:=H.2 j (ready_mono hj zL);obtain⟨kC,oj,kM,Ut⟩:=mem_ready.1 hj;have lj:done.getD i true=false:=(mem_ready.1 hr).1
   have hnd:done.getD i false=true→False:=fun k=>by
    rcases Nat.lt_or_ge i done.size with h'|h'
    ·simp[h']at lj k;rw[lj]at k;cases k
    ·simp[DT h']at k
   have pH:∀e∈oj.after,Region.binds md e=true→e.on≠i:=fun e he hb heq=>hnd (by rw[←heq];exact Ut e he hb)
   have h2:=wpOp_putIf kM (xW j oj kM zL kC pH) (fun cs b=>kS i oi cs b hi) (fun cs b=>kS j oj cs b kM) hQ hy h1
   have tU:∀k ok,ops[k]?=some ok→k≠i→(done.setIfInBounds j true).getD k true=false →
     (∀e∈ok.after,Region.binds md e=true→e.on≠i)→oi.apart ops ok=true:=fun k ok hk hki lj N_=>by
    refine xW k ok hk hki ?_ N_;by_cases H7:j=k
    ·subst H7;exact kC
    ·rw[getD_set_ne true H7]at lj;exact lj
   have hg:(done.setIfInBounds j true).getD d true=false→((done.setIfInBounds i true).setIfInBounds j true).getD d true=false:=fun h=>by
    rw[Array.setIfInBounds_comm _ _ (Ne.symm zL),getD_set_ne true WA];exact h
   refine wpOp_mono (fun a' w' k=>⟨fun h=>k.2.1 (hg h),ih (done.setIfInBounds j true) a' w' tU (ready_mono hr (Ne.symm zL)) k.1 (fun h=>k.2.1 (hg h)) ?_⟩) h2;rw[Array.setIfInBounds_comm _ _ zL];exact k.2.2
def Gi{i:Nat}{oi:Oper}{v:Value}{n:Nat}{done:Array Bool}{a:Act}{w:World}(hi:ops[i]?=some oi)
  (hs:Region.noSelect ops=true) (hf:Region.free md ops done i=true) (hr:(Region.ready md ops done).contains i=true) (hd:(i !=d)=true)
  (hQ:∀c a w,Q (.panic c) (a.put oi.dst v) w→Q (.panic c) a w) (hy:YieldsIf P ops (fun _=>True) oi v a) (hS:done.getD d true=false→S w)
  (h:till P md ops Q S d n (done.setIfInBounds i true) (a.put oi.dst v) w):till P md ops Q S d (n+1) done a w:=
 zw hi (Region.noSelect_spec hs) hQ (by simpa using hd) n done a w (Region.free_spec hi hf) (by simpa using hr) hy hS h
def pt:(∀(xs:List Value) (i:Nat) (h:i<xs.toArray.size),xs.toArray[i]=xs[i]'(by simpa using h))∧(∀(xs:List Oper) (i:Nat) (h:i<xs.toArray.size),xs.toArray[i]=xs[i]'(by simpa using h)) ∧
  (∀(x:Value) (xs:List Value) (i:Nat) (h:i+1<(x :: xs).length),(x :: xs)[i+1]=xs[i]'(by simpa using h))∧(∀(x:Oper) (xs:List Oper) (i:Nat) (h:i+1<(x :: xs).length),(x :: xs)[i+1]=xs[i]'(by simpa using h)) ∧
  (∀(x:Value) (xs:List Value) (h:0<(x :: xs).length),(x :: xs)[0]=x)∧(∀(x:Oper) (xs:List Oper) (h:0<(x :: xs).length),(x :: xs)[0]=x) ∧
  (∀(a:Act) (d:Nat) (v:Value),a.put (some d) v={a with tmps:=a.tmps.setIfInBounds d v})∧(∀(a:Act) (v:Value),a.put none v=a) ∧
  (∀(xs:List Value) (i:Nat) (v:Value),xs.toArray.setIfInBounds i v=(xs.set i v).toArray)∧(∀(xs:List Bool) (i:Nat) (v:Bool),xs.toArray.setIfInBounds i v=(xs.set i v).toArray) ∧
  (∀(x:Value) (xs:List Value) (v:Value),(x :: xs).set 0 v=v :: xs)∧(∀(x:Value) (xs:List Value) (i:Nat) (v:Value),(x :: xs).set (i+1) v=x :: xs.set i v) ∧
  (∀(x:Bool) (xs:List Bool) (v:Bool),(x :: xs).set 0 v=v :: xs)∧(∀(x:Bool) (xs:List Bool) (i:Nat) (v:Bool),(x :: xs).set (i+1) v=x :: xs.set i v):=
 ⟨fun _ _ _=>rfl,fun _ _ _=>rfl,fun _ _ _ _=>rfl,fun _ _ _ _=>rfl,fun _ _ _=>rfl,fun _ _ _=>rfl,fun _ _ _=>rfl,fun _ _=>rfl,fun _ _ _=>List.setIfInBounds_toArray ..,fun _ _ _=>List.setIfInBounds_toArray ..,fun _ _ _=>rfl,fun _ _ _ _=>rfl,fun _ _ _=>rfl,fun _ _ _ _=>rfl⟩
def tk(i:Nat)(v:Value){oi:Oper}{n:Nat}{done:Array Bool}{a:Act}{w:World}(hi:ops[i]?=some oi)(hy:∀w,S w→(execOp a.eval oi).run P w = .ok (.value v) w)
  (h:till P md ops Q S d n (done.setIfInBounds i true) (a.put oi.dst v) w)
  (hc:(Region.noSelect ops&&Region.free md ops done i&&(Region.ready md ops done).contains i&&((i !=d)&&al md ops i ops.size d&&closed md ops done && !(done.getD d true)))=true:=by kernel_rfl)
  (hw:Region.wanted oi (yielded ops a.tmps)=true:=by rfl) (hQ:∀c a w,Q (.panic c) (a.put oi.dst v) w→Q (.panic c) a w:=by exact fun _ _ _ h=>h) (hS:S w:=by assumption):till P md ops Q S d (n+1) done a w:=by
 simp only[UN]at hc;obtain⟨⟨⟨h1,h2⟩,h3⟩,h4⟩:=hc;exact Mr hi h1 h2 h3 (by simpa only[UN]using h4) hQ (WQ ⟨hw,hy⟩) hS h
def tp(i:Nat)(v:Value){oi:Oper}{n:Nat}{done:Array Bool}{a:Act}{w:World}(hi:ops[i]?=some oi)(hy:∀w,True→(execOp a.eval oi).run P w = .ok (.value v) w)
  (h:till P md ops Q S d n (done.setIfInBounds i true) (a.put oi.dst v) w)
  (hc:(Region.noSelect ops&&Region.free md ops done i&&(Region.ready md ops done).contains i&&(i !=d))=true:=by kernel_rfl)
  (hw:Region.wanted oi (yielded ops a.tmps)=true:=by rfl) (hQ:∀c a w,Q (.panic c) (a.put oi.dst v) w→Q (.panic c) a w:=by exact fun _ _ _ h=>h) (hS:done.getD d true=false→S w:=by exact fun h=>by first|assumption|exact absurd h Zd):till P md ops Q S d (n+1) done a w:=by
 simp only[UN]at hc;obtain⟨⟨⟨h1,h2⟩,h3⟩,h4⟩:=hc;exact Gi hi h1 h2 h3 h4 hQ (WQ ⟨hw,hy⟩) hS h
def ts(i:Nat){oi:Oper}{n:Nat}{done:Array Bool}{a:Act}{w:World}(hi:ops[i]?=some oi)
  (h:till P md ops Q S d n (done.setIfInBounds i true) (a.put oi.dst undef) w)
  (hc:(Region.noSelect ops&&Region.free md ops done i&&(Region.ready md ops done).contains i&&(i !=d))=true:=by kernel_rfl)
  (hw:Region.wanted oi (yielded ops a.tmps)=false:=by rfl) (hQ:∀c a w,Q (.panic c) (a.put oi.dst undef) w→Q (.panic c) a w:=by exact fun _ _ _ h=>h) (hS:done.getD d true=false→S w:=by exact fun h=>by first|assumption|exact absurd h Zd):till P md ops Q S d (n+1) done a w:=by
 simp only[UN]at hc;obtain⟨⟨⟨h1,h2⟩,h3⟩,h4⟩:=hc;exact Gi hi h1 h2 h3 h4 hQ (WG ⟨hw,rfl⟩) hS h
def hk(i:Nat)(v:Value){oi:Oper}{n:Nat}{done:Array Bool}{a:Act}{w:World}(hi:ops[i]?=some oi)(hy:∀w,S w→(execOp a.eval oi).run P w = .ok (.value v) w)
  (h:wpAnyH P md ops Q S n (done.setIfInBounds i true) (a.put oi.dst v) w)
  (hc:(Region.noSelect ops&&Region.free md ops done i&&(Region.ready md ops done).contains i)=true:=by kernel_rfl)
  (hw:Region.wanted oi (yielded ops a.tmps)=true:=by rfl) (hQ:∀c a w,Q (.panic c) (a.put oi.dst v) w→Q (.panic c) a w:=by exact fun _ _ _ h=>h) (hS:S w:=by assumption):wpAnyH P md ops Q S (n+1) done a w:=by
 simp only[UN]at hc;obtain⟨⟨h1,h2⟩,h3⟩:=hc;exact wpAnyH_take hi h1 h2 h3 hQ (WQ ⟨hw,hy⟩) hS h
def Yt{done:Array Bool}{a:Act}{w:World}(hr:Region.ready md ops done=[])(h:Q .normal a w):∀n,till P md ops Q S d n done a w
 | 0=>⟨hr,h⟩
 | _+1=>⟨fun _=>h,by rw[hr];simp⟩
def each(P:Program)(md:Region.Mode)(ops:Array Oper)(Q:Exit→Act→World→Prop)(S:World→Prop)(d n:Nat)(done:Array Bool)(a:Act)(w:World)(rs:List Nat):Prop:=
 ∀i∈rs,wpOp P ops Q i (fun a' w'=>((done.setIfInBounds i true).getD d true=false→S w')∧till P md ops Q S d n (done.setIfInBounds i true) a' w') a w
def PS{n:Nat}{done:Array Bool}{a:Act}{w:World}:each P md ops Q S d n done a w []:=fun _ h=>by cases h
def VX{n:Nat}{done:Array Bool}{a:Act}{w:World}{i:Nat}{o:Oper}{rs:List Nat}(ho:ops[i]?=some o)
  (h:∀K':Act→World→Prop,Shut (∀a w,((done.setIfInBounds i true).getD d true=false→S w)→till P md ops Q S d n (done.setIfInBounds i true) a w→K' a w)→if Region.wanted o (yielded ops a.tmps)=true then Oper.wp P o a w K' Q else K' (a.put o.dst undef) w)
  (hs:each P md ops Q S d n done a w rs):each P md ops Q S d n done a w (i :: rs):=fun j hj=>by
 rcases K5.1 hj with rfl|hj
 ·exact wpOp_step ho (fun K' hK=>h K' (fun a w hS hW=>hK a w ⟨hS,hW⟩))
 ·exact hs j hj
def Tm{rs:List Nat}{n:Nat}{done:Array Bool}{a:Act}{w:World}(hr:Region.ready md ops done=rs)(WA:rs≠[])
  (h:each P md ops Q S d n done a w rs):till P md ops Q S d (n+1) done a w:=⟨fun h0=>absurd (hr▸h0) WA,hr▸h⟩
def yR{id:Nat}{a:Act}{w:World}(hm:P.follows .mixedOrders=true)
  (h:till P .any ops Q S d ops.size (Array.replicate ops.size false) a w.drew):(Code.region id ops true).wp P Q a w:=
 wp_region_any hm (zu _ _ _ _ h)
def Zj{id:Nat}{a:Act}{w:World}(hm:P.follows .mixedOrders=true)(hS:S w.drew)
  (h:S w.drew→till P .any ops Q S d ops.size (Array.replicate ops.size false) a w.drew):(Code.region id ops true).wp P Q a w:=yR hm (h hS)
def YY{n:Nat}{done:Array Bool}{i:Nat}{K':Act→World→Prop}(hK:Shut (∀a w,((done.setIfInBounds i true).getD d true=false→S w)→till P md ops Q S d n (done.setIfInBounds i true) a w→K' a w))(a:Act)(w:World)(hS:S w)(h:S w→till P md ops Q S d n (done.setIfInBounds i true) a w):K' a w:=hK a w (fun _=>hS) (h hS)
def Ye{n:Nat}{done:Array Bool}{i:Nat}{K':Act→World→Prop}(hK:Shut (∀a w,((done.setIfInBounds i true).getD d true=false→S w)→till P md ops Q S d n (done.setIfInBounds i true) a w→K' a w))(a:Act)(w:World)(hdn:(done.setIfInBounds i true).getD d true=true)(h:till P md ops Q S d n (done.setIfInBounds i true) a w):K' a w:=hK a w (fun k=>(by rw[hdn]at k;cases k)) h
end
section
variable {P:Program} {md:Region.Mode} {ops:Array Oper} {Q:Exit→Act→World→Prop} {S:World→Prop} {d:Nat}
def along(md:Region.Mode)(ops:Array Oper)(i:Nat):Nat→List Nat→Bool
 | d,[]=>match ops[d]? with
  | some o=>o.after.any fun e=>Region.binds md e&&e.on==i
  | none=>false
 | d,b :: l=>(match ops[d]? with
  | some o=>o.after.any fun e=>Region.binds md e&&e.on==b
  | none=>false)&&along md ops i b l
def Ho{i:Nat}:∀(l:List Nat) (d n:Nat),l.length<n→along md ops i d l=true→al md ops i n d=true
 | [],d,n+1,_,h=>by
  unfold along at h;unfold al;cases ho:ops[d]? with
  | none=>rw[ho]at h;cases h
  | some o=>
   rw[ho]at h;obtain⟨e,he,hb⟩:=Array.any_eq_true'.1 h;have hb:=(UN _ _).mp hb;exact Array.any_eq_true'.2 ⟨e,he,by rw[hb.1,hb.2];rfl⟩
 | b :: l,d,n+1,hn,h=>by
  unfold along at h;have h:=(UN _ _).mp h;have ih:=Ho l b n (by rw[List.length_cons]at hn;omega) h.2;unfold al;cases ho:ops[d]? with
  | none=>rw[ho]at h;cases h.1
  | some o=>
   rw[ho]at h;obtain⟨e,he,hb⟩:=Array.any_eq_true'.1 h.1;have hb:=(UN _ _).mp hb;have heb:e.on=b:=by simpa using hb.2
   exact Array.any_eq_true'.2 ⟨e,he,by rw[hb.1,heb,ih,Bool.or_true];rfl⟩
def tkp(i:Nat)(l:List Nat)(v:Value){oi:Oper}{n:Nat}{done:Array Bool}{a:Act}{w:World}(hi:ops[i]?=some oi)(hy:∀w,S w→(execOp a.eval oi).run P w = .ok (.value v) w)
  (h:till P md ops Q S d n (done.setIfInBounds i true) (a.put oi.dst v) w)
  (hc:(Region.noSelect ops&&Region.free md ops done i&&(Region.ready md ops done).contains i&&((i !=d)&&along md ops i d l&&decide (l.length<ops.size)&&closed md ops done && !(done.getD d true)))=true:=by kernel_rfl)
  (hw:Region.wanted oi (yielded ops a.tmps)=true:=by rfl) (hQ:∀c a w,Q (.panic c) (a.put oi.dst v) w→Q (.panic c) a w:=by exact fun _ _ _ h=>h) (hS:S w:=by assumption):till P md ops Q S d (n+1) done a w:=by
 simp only[UN]at hc;obtain⟨⟨⟨h1,h2⟩,h3⟩,⟨⟨⟨h4,h5⟩,h6⟩,h7⟩,h8⟩:=hc;refine Mr hi h1 h2 h3 ?_ hQ (WQ ⟨hw,hy⟩) hS h;simp only[UN];exact⟨⟨⟨h4,Ho l d ops.size (of_decide_eq_true h6) h5⟩,h7⟩,h8⟩
end
end Go.Proofs.By
namespace Go.Proofs
open Go.RowKit Go.Proofs.By
section
variable {P:Program} {ops:Array Oper} {Q:Exit→Act→World→Prop} {md:Region.Mode} {S:World→Prop} {d:Nat} {oi:Oper} {v:Value} {n:Nat} {done:Array Bool} {x x':Act} {w:World}
def YA(i:Nat)(hi:ops[i]?=some oi:=by rfl)(hc:(Region.noSelect ops&&Region.free md ops done i&&(Region.ready md ops done).contains i)=true:=by kernel_rfl)(hy:∀w,S w→(execOp x.eval oi).run P w = .ok (.value v) w:=by intro wS Ud;(try dsimp only at Ud);(try simp only[Go.Proofs.By.pt]);go_simp;try with_reducible rfl)(ha:x.put oi.dst v=x':=by(try simp only[Go.Proofs.By.pt]);with_reducible rfl)(hw:Region.wanted oi (yielded ops x.tmps)=true:=by rfl)(hQ:∀c a w,Q (.panic c) (a.put oi.dst v) w→Q (.panic c) a w:=by exact fun _ _ _ h=>h)(hS:S w:=by assumption)
  (h:wpAnyH P md ops Q S n (done.setIfInBounds i true) x' w):wpAnyH P md ops Q S (n+1) done x w:=by
 subst ha;exact hk i v hi hy h hc hw (fun c a w k=>hQ c a w k) hS
def YK(i:Nat)(hi:ops[i]?=some oi:=by rfl)(hc:(Region.noSelect ops&&Region.free md ops done i&&(Region.ready md ops done).contains i&&((i !=d)&&al md ops i ops.size d&&closed md ops done && !(done.getD d true)))=true:=by kernel_rfl)(hy:∀w,S w→(execOp x.eval oi).run P w = .ok (.value v) w:=by intro wS Ud;(try dsimp only at Ud);(try simp only[Go.Proofs.By.pt]);go_simp;try with_reducible rfl)(ha:x.put oi.dst v=x':=by(try simp only[Go.Proofs.By.pt]);with_reducible rfl)(hw:Region.wanted oi (yielded ops x.tmps)=true:=by rfl)(hQ:∀c a w,Q (.panic c) (a.put oi.dst v) w→Q (.panic c) a w:=by exact fun _ _ _ h=>h)(hS:S w:=by assumption)
  (h:till P md ops Q S d n (done.setIfInBounds i true) x' w):till P md ops Q S d (n+1) done x w:=by
 subst ha;exact tk i v hi hy h hc hw hQ hS
def YQ(i:Nat)(l:List Nat)(hi:ops[i]?=some oi:=by rfl)(hc:(Region.noSelect ops&&Region.free md ops done i&&(Region.ready md ops done).contains i&&((i !=d)&&along md ops i d l&&decide (l.length<ops.size)&&closed md ops done && !(done.getD d true)))=true:=by kernel_rfl)(hy:∀w,S w→(execOp x.eval oi).run P w = .ok (.value v) w:=by intro wS Ud;(try dsimp only at Ud);(try simp only[Go.Proofs.By.pt]);go_simp;try with_reducible rfl)(ha:x.put oi.dst v=x':=by(try simp only[Go.Proofs.By.pt]);with_reducible rfl)(hw:Region.wanted oi (yielded ops x.tmps)=true:=by rfl)(hQ:∀c a w,Q (.panic c) (a.put oi.dst v) w→Q (.panic c) a w:=by exact fun _ _ _ h=>h)(hS:S w:=by assumption)
  (h:till P md ops Q S d n (done.setIfInBounds i true) x' w):till P md ops Q S d (n+1) done x w:=by
 subst ha;exact tkp i l v hi hy h hc hw hQ hS
def YP(i:Nat)(hi:ops[i]?=some oi:=by rfl)(hc:(Region.noSelect ops&&Region.free md ops done i&&(Region.ready md ops done).contains i&&(i !=d))=true:=by kernel_rfl)(hy:∀w,True→(execOp x.eval oi).run P w = .ok (.value v) w:=by intro wS Ud;(try dsimp only at Ud);(try simp only[Go.Proofs.By.pt]);go_simp;try with_reducible rfl)(ha:x.put oi.dst v=x':=by(try simp only[Go.Proofs.By.pt]);with_reducible rfl)(hw:Region.wanted oi (yielded ops x.tmps)=true:=by rfl)(hQ:∀c a w,Q (.panic c) (a.put oi.dst v) w→Q (.panic c) a w:=by exact fun _ _ _ h=>h)(hS:done.getD d true=false→S w:=by exact fun h=>by first|assumption|exact absurd h Zd)
  (h:till P md ops Q S d n (done.setIfInBounds i true) x' w):till P md ops Q S d (n+1) done x w:=by
 subst ha;exact tp i v hi hy h hc hw hQ hS
def YT(i:Nat)(hi:ops[i]?=some oi:=by rfl)(hc:(Region.noSelect ops&&Region.free md ops done i&&(Region.ready md ops done).contains i&&(i !=d))=true:=by kernel_rfl)(ha:x.put oi.dst undef=x':=by(try simp only[Go.Proofs.By.pt]);with_reducible rfl)(hw:Region.wanted oi (yielded ops x.tmps)=false:=by rfl)(hQ:∀c a w,Q (.panic c) (a.put oi.dst undef) w→Q (.panic c) a w:=by exact fun _ _ _ h=>h)(hS:done.getD d true=false→S w:=by exact fun h=>by first|assumption|exact absurd h Zd)
  (h:till P md ops Q S d n (done.setIfInBounds i true) x' w):till P md ops Q S d (n+1) done x w:=by
 subst ha;exact ts i hi h hc hw hQ hS
def YR(i:Nat)(hi:ops[i]?=some oi:=by rfl)(hr:Region.ready md ops done=[i]:=by kernel_rfl)
  (h:∀K':Act→World→Prop,Shut (∀a w,((done.setIfInBounds i true).getD d true=false→S w)→till P md ops Q S d n (done.setIfInBounds i true) a w→K' a w)→if Region.wanted oi (yielded ops x.tmps)=true then Oper.wp P oi x w K' Q else K' (x.put oi.dst undef) w):till P md ops Q S d (n+1) done x w:=Tm hr Zi (VX hi h PS)
def Rv(i:Nat)(hi:ops[i]?=some oi:=by rfl)(hr:Region.ready md ops done=[i]:=by kernel_rfl)
  (h:∀K':Act→World→Prop,Shut (∀a w,S w→(S w→wpAnyH P md ops Q S n (done.setIfInBounds i true) a w)→K' a w)→if Region.wanted oi (yielded ops x.tmps)=true then Oper.wp P oi x w K' Q else K' (x.put oi.dst undef) w):wpAnyH P md ops Q S (n+1) done x w:=wpAnyH_ready hr Zi (AllReadyH.cons hi h AllReadyH.nil)
def YC{i:Nat}{rs:List Nat}(hi:ops[i]?=some oi:=by rfl)(h:∀K':Act→World→Prop,Shut (∀a w,((done.setIfInBounds i true).getD d true=false→S w)→till P md ops Q S d n (done.setIfInBounds i true) a w→K' a w)→if Region.wanted oi (yielded ops x.tmps)=true then Oper.wp P oi x w K' Q else K' (x.put oi.dst undef) w)(hs:each P md ops Q S d n done x w rs):each P md ops Q S d n done x w (i :: rs):=VX hi h hs
def YHE(hr:Region.ready md ops done=[]:=by kernel_rfl)(h:Q .normal x w):wpAnyH P md ops Q S n done x w:=wpAnyH_done hr h n
end
def Wh{p:Prop}(h:p:=by first|with_reducible assumption|exact Below.drew (by with_reducible assumption)|exact Go.Proofs.By.Below.alloc' (by with_reducible assumption) (Zq _) _|exact Go.Proofs.By.Below.alloc' (Below.drew (by with_reducible assumption)) (Zq _) _|exact Below.drew (Go.Proofs.By.Below.alloc' (by with_reducible assumption) (Zq _) _)):p:=h
def X6{p:Prop}(h:p:=by kernel_rfl):p:=h
def WE{p:Prop}(h:p:=by with_reducible assumption):p:=h
def BJ{p:Prop}(h:p:=by first|with_reducible assumption|exact Below.drew WE):p:=h
def tD{p:Prop}(h:p:=by repeat(first|exact YE _ _|refine Below.drew ?_|refine Below.alloc ?_ Zi _)):p:=h
def TQ{p:Prop}(h:p:=by dsimp only;omega):p:=h
def Nf{p:Prop}(h:p:=by intro u hu;rw[K4]at hu;subst hu;rfl):p:=h
def Ah{p:Prop}(h:p:=by show _<(w.heap.push _).size;rw[N9];exact Nat.lt_succ_self _):p:=h
def Yo12{p:Prop}(h:p:=by rcases EZ.1 hx with h|h;exact(HC.o.each x h).vT (XN zU.o) (Y0 HC.o.Kp Zd) (Y0 HC.o.Kp Zd);rw[K4]at h;subst h;exact HR.o.pk.vT (XN zU.o) (Y0 HC.o.Kp Zd) (Y0 HC.o.Kp Zd)):p:=h
def wY{p:Prop}(h:p:=by first|with_reducible exact zS.o|with_reducible exact(YE _ _).drew):p:=h
def Yo14{p:Prop}(h:p:=by rw[show(T.ZX++[(⟨p,n,la,false⟩:Vd)]).flatMap Zb=T.ZX.flatMap Zb++[.int .i64 p,.int .i64 n,.int .i64 la,.bool false] by rw[O7];rfl,show(T.ZX++[(⟨p,n,la,false⟩:Vd)]).length=T.ZX.length+1 by simp];exact ZW):p:=h
def TY{p:Prop}(h:p:=by simp;omega):p:=h
def Yo17{p:Prop}(h:p:=by rw[show(T.Zu++[(⟨p,nm⟩:U1)]).flatMap Yr=T.Zu.flatMap Yr++[.int .i64 p,.string (str nm)] by rw[O7];rfl,show(T.Zu++[(⟨p,nm⟩:U1)]).length=T.Zu.length+1 by simp];exact ZW):p:=h
def jl{p:Prop}(h:p:=by have h:=(List.getElem?_eq_some_iff.1 hm).1;simpa using h):p:=h
def dN{p:Prop}(h:p:=by have hi:i=w.heap.size:=hi;subst hi;exact⟨_,_,_,HC.o.Y8,WQ rfl⟩):p:=h
def wZ{p:Prop}(h:p:=by first|assumption|exact Below.drew (by assumption)):p:=h
def jm{p:Prop}(h:p:=by show w.heap.size≤(w.heap.push _).size;rw[N9];exact JV _):p:=h
def jo{p:Prop}(h:p:=by repeat(first|exact JM.o|refine ZQ.drew ?_|refine ZQ.alloc ?_ _)):p:=h
def jq{p:Prop}(h:p:=by rw[SC];omega):p:=h
def oD{p:Prop}(h:p:=by rw[xj,UC];exact nT.o):p:=h
def Sw{p:Prop}(h:p:=by assumption):p:=h
def oF{p:Prop}(h:p:=by rw[Fy,UC];exact nS.o):p:=h
def oG{p:Prop}(h:p:=by rw[Fy,UC];exact nR.o):p:=h
def dO{p:Prop}(h:p:=by intro j hj;rw[Sl];rcases c5 j hj with rfl|rfl|rfl|rfl|rfl <;> rfl):p:=h
def jr{p:Prop}(h:p:=by have h:=nW;rw[PA,IC]at h;exact h):p:=h
def dP{p:Prop}(h:p:=by rw[XH f k hk,SC,Nat.min_eq_left h];exact Zq _):p:=h
def Yo31{p:Prop}(h:p:=by first|with_reducible exact HB8.o|with_reducible exact zS.o|with_reducible exact(YE _ _).drew):p:=h
def Ai{p:Prop}(h:p:=by first|rfl|trivial):p:=h
def dQ{p:Prop}(h:p:=by have h:=HO.o;rw[UC,O7];exact h):p:=h
end Go.Proofs
namespace Go.Proofs
abbrev Yz1:List Value:=(Qe 0 0 0 0 0 0 none 0 0 none 0 0 0 none 0 0)
abbrev X9:Array Value:=(Qe 0 0 0 0 0 0 none 0 0 none 0 0 0 none 0 0)
abbrev W_:Array Value:=(Qm 0 0 0 0 false 0 0 0 0 none 0 0 false 0 none 0 0 none 0 0 0 0 false false 0 none 0 0 none 0 0 0)
abbrev Yz3:List Value:=(Qc false 0 0 0 0 none 0 0 false 0 none 0 0 none 0 0 0)
abbrev UO:Array Value:=(Qc false 0 0 0 0 none 0 0 false 0 none 0 0 none 0 0 0)
abbrev Tu:Array Value:=(Qg false 0 0 0 0 none 0 0 false 0 none 0 0 none 0 0 0 0 false false 0)
abbrev IB:Array Value:=(Qa 0 0 0 0 ⟨#[]⟩ none 0 0 none 0 0)
abbrev Yz6:List Value:=(Qe 206 0 0 0 0 0 none 0 0 none 0 0 0 none 0 0)
abbrev Yz6a:Array Value:=(Qe 206 0 0 0 0 0 none 0 0 none 0 0 0 none 0 0)
abbrev Yz7:List Value:=(Qe 203 0 0 0 0 0 none 0 0 none 0 0 0 none 0 0)
abbrev Yz7a:Array Value:=(Qe 203 0 0 0 0 0 none 0 0 none 0 0 0 none 0 0)
abbrev Yz8:List Value:=(Qe 205 0 0 0 0 0 none 0 0 none 0 0 0 none 0 0)
abbrev Yz8a:Array Value:=(Qe 205 0 0 0 0 0 none 0 0 none 0 0 0 none 0 0)
abbrev Yz9:List Value:=(Qe 201 0 0 0 0 0 none 0 0 none 0 0 0 none 0 0)
abbrev Yz9a:Array Value:=(Qe 201 0 0 0 0 0 none 0 0 none 0 0 0 none 0 0)
abbrev Yz10:List Value:=(Qe 200 0 0 0 0 0 none 0 0 none 0 0 0 none 0 0)
abbrev bE:Array Value:=(Qe 200 0 0 0 0 0 none 0 0 none 0 0 0 none 0 0)
def Yx1{p:Prop} (h:p:=by
 have TS:=H1.o.z;have Uu:=H1.o.Y8;go_wp2_with (first|(go_at_call 116;refine CW.o.mono ?_;rintro e w' ⟨rfl,rfl⟩)|with_reducible refine Zl Uu underlying173 ?_|with_reducible refine Zs TS ?_)
 refine Vr (v:= .tuple (Qs X9 0 1)) ?_ rfl ?_
 ·exact Wa (p:=2) (u:=3) (v:=4) Zr _ _ w 173 X9 (0,0) _ Zr (setRow_heap _ _ _ _ _ _ TS) underlying173 rfl X6
 exact Ur.o _ 1 TS H1.o.Za Vc.o):p:=h
def Yx2{p:Prop} (h:p:=by
 clear Hi G' Uf;have TS:=H1.o.z;go_wp2_with (first|(go_at_call 116;refine CW.o.mono ?_;rintro e w' ⟨rfl,rfl⟩)|(go_at_call 117;refine CI.o.mono ?_;rintro e w4 ⟨⟨a,rfl,hit⟩,S0⟩;obtain⟨xa,xc,ya,yc,za,zc,ha,LR⟩:=Kl hit;subst ha;have vL:=Zh LR;have Ea:=(S0.block w (ZY TS)).trans TS;have U5:=Zh (H1.o.Za.trans (S0.mono H1.o.Za.size));clear hit LR S0)|with_reducible refine Zs Ea ?_)
 refine Vr (v:= .tuple (Qs (Qe i.kind i.Yi i.Ez i.time i.Wm i.octets xa i.blocks.length xc ya i.gone.length yc i.XS za i.Xm.length zc) (Z:Int) 0)) ?_ rfl ?_
 ·exact Wa (p:=2) (u:=3) (v:=4) Zr _ _ w 173 (Qe i.kind i.Yi i.Ez i.time i.Wm i.octets xa i.blocks.length xc ya i.gone.length yc i.XS za i.Xm.length zc) (0,0) _ Zr (setRow_heap _ _ _ _ _ _ Ea) underlying173 rfl X6
 exact⟨⟨_,by rw[Vc.o],by rw[Vc.o];exact MM (vL.o.setRow Ea _)⟩,Z0 U5.o (Zq _) _⟩):p:=h
def Yx3{p:Prop} (h:p:=by
 have Vc:Hid (X=((XJ,0),2)):=by show _=_;rw[gL.o,ZU T8]
 have dz:decide ((b.length:Int)<(Z:Int))=true:=WV Zo;have TS:=H1.o.z;have Uu:=H1.o.Y8;go_wp2_with (first|(go_at_call 116;refine CW.o.mono ?_;rintro e w' ⟨rfl,rfl⟩)|with_reducible refine Zl Uu underlying173 ?_|with_reducible refine Zs TS ?_)
 refine Vr (v:= .tuple (Qs X9 0 2)) ?_ rfl ?_
 ·exact Wa (p:=2) (u:=3) (v:=4) Zr _ _ w 173 X9 (0,0) _ Zr (setRow_heap _ _ _ _ _ _ TS) underlying173 rfl X6
 exact Ur.o _ 2 TS H1.o.Za Vc.o):p:=h
def Yx4{p:Prop} (h:p:=by
 rw[hj0];go_upto_region 10 with(go_at_call 93;refine CI.o.mono ?_;rintro e w2 ⟨⟨a,rfl,hit⟩,Y7⟩;obtain⟨xa,xc,ya,yc,za,zc,ha,LR⟩:=Kl hit;subst ha;have vL:=Zh LR;have Yc:=Zh Y7;clear hit LR Y7)
 clear CI;have GW:Hid (Below w w (w2.alloc (.cells (Qe i.kind i.Yi i.Ez i.time i.Wm i.octets xa i.blocks.length xc ya i.gone.length yc i.XS za i.Xm.length zc) 173))):=ZA (R7.o.trans (Yc.o.mono T8)) (Zq _) _;by_cases Rl:er=0
 rotate_left
 ·have BG:Hid (X=([],er)):=by show _=_;rw[HX.o,N7.o,HE.o Rl]
  have bl:(er !=0)=true:=by rw[Rs];exact Rl
  clear HX N7 HE;go_wp2_with fail
  go_ret2
  exact⟨⟨.slice none 0 0,by rw[BG.o];rfl,by rw[BG.o];exact YB.nil _⟩,GW.o⟩
 subst Rl;have hnr:n≤r.length:=dg.o Ai;obtain⟨a2,Uf,-,ZW⟩:=Sk (P:=prog) Vt ra r.length rc n hnr cA;have U0:=Zh ZW;have AU:=Z9 w2 (.cells (Qe i.kind i.Yi i.Ez i.time i.Wm i.octets xa i.blocks.length xc ya i.gone.length yc i.XS za i.Xm.length zc) 173);have GG:=Yc.o.size;have EG:Hid (Below w w ((w2.alloc (.cells (Qe i.kind i.Yi i.Ez i.time i.Wm i.octets xa i.blocks.length xc ya i.gone.length yc i.XS za i.Xm.length zc) 173)).alloc (.cells (Qe i.kind i.Yi i.Ez i.time i.Wm i.octets xa i.blocks.length xc ya i.gone.length yc i.XS za i.Xm.length zc) 173))):=ZA GW.o (Zq _) _;have AP:Below w2 w2 ((w2.alloc (.cells (Qe i.kind i.Yi i.Ez i.time i.Wm i.octets xa i.blocks.length xc ya i.gone.length yc i.XS za i.Xm.length zc) 173)).alloc (.cells (Qe i.kind i.Yi i.Ez i.time i.Wm i.octets xa i.blocks.length xc ya i.gone.length yc i.XS za i.Xm.length zc) 173)):=ZA (Z' w2 _) (Zq _) _;have Nn:=Zh (Yq (Yq Yd.o Yc.o) AP)
 have qZ:Hid (∀x∈L++[⟨i,.slice xa i.blocks.length xc,.slice ya i.gone.length yc,.slice za i.Xm.length zc⟩],TW ((w2.alloc (.cells (Qe i.kind i.Yi i.Ez i.time i.Wm i.octets xa i.blocks.length xc ya i.gone.length yc i.XS za i.Xm.length zc) 173)).alloc (.cells (Qe i.kind i.Yi i.Ez i.time i.Wm i.octets xa i.blocks.length xc ya i.gone.length yc i.XS za i.Xm.length zc) 173)) x):=fun x hx=>by
  rcases EZ.1 hx with h|h
  ·exact((EI.o x h).below Yc.o).below AP
  ·rw[K4]at h;subst h;exact vL.o.below AP
 have vN:=Vw (w2.alloc (.cells (Qe i.kind i.Yi i.Ez i.time i.Wm i.octets xa i.blocks.length xc ya i.gone.length yc i.XS za i.Xm.length zc) 173)) 173 1 (Qe i.kind i.Yi i.Ez i.time i.Wm i.octets xa i.blocks.length xc ya i.gone.length yc i.XS za i.Xm.length zc) Zd;rw[show(w2.alloc _).heap.size=w2.heap.size+1 by show(w2.heap.push _).size=_;rw[N9]]at vN;replace vN:=Zh vN
 have Oz:∀u∈((Qe i.kind i.Yi i.Ez i.time i.Wm i.octets xa i.blocks.length xc ya i.gone.length yc i.XS za i.Xm.length zc):List Value),u.oneCell'=true:=by
  intro u hu;simp only[K5,List.mem_nil_iff,or_false]at hu;rcases hu with rfl|rfl|rfl|rfl|rfl|rfl|rfl|rfl|rfl|rfl <;> rfl
 have HONE:=Zh Oz;clear AP ZW Oz;go_wp2_with (first|with_reducible refine Zl AU underlying173 ?_|(at_builtin;refine YN rfl (.tmp 30) (.tmp 32) 82 rfl w GA (.slice oa j oc) j (L.flatMap YJ) rfl Nn.o _ 1 (Qe i.kind i.Yi i.Ez i.time i.Wm i.octets xa i.blocks.length xc ya i.gone.length yc i.XS za i.Xm.length zc) rfl vN.o rfl HONE.o Zo Zo EG.o.size (fun v' w4 HO4 HG4=>?_)))
 have HBW4:Hid (Below w w w4):=((Fr.Z8 Pj EG.o).grown HG4.o EG.o.size (YG Nn.o)).below;obtain⟨na,nc,Na,-⟩:=Row.Z4 HO4.o;subst Na;go_roundw
 case rel=>
  refine⟨j+1,r.drop n,a2,rc-n,L++[⟨i,.slice xa i.blocks.length xc,.slice ya i.gone.length yc,.slice za i.Xm.length zc⟩],Zo,by rw[UC,HLJ.o];rfl,by rw[QG];omega,by rw[QG],rfl,by rw[WH Zo],HBW4.o,?_,?_,?_,?_,?_⟩
  ·have h:=HO4.o;rw[O7];exact h
  ·intro x hx;exact(qZ.o x hx).vT (XN HG4.o) (Y0 Nn.o Zd) (Y0 Nn.o Zd) (Y0 Nn.o Zd)
  ·intro w'' hb;have h:=U0.o w'' (Re r) (by rw[Xa];omega) (HR.o w'' hb);show XG w'' _ (r.drop n).length (Re (r.drop n));rw[QG,←PN];simpa using h
  ·intro h
   have hl:¬r.length-n=0:=by
    rcases h with h|h
    ·omega
    ·rw[QG]at h;omega
   rw[N7.o,HM.o Ai hl,show 8-(j+1)=q by omega,Ng];rfl
  ·intro h
   have hl:r.length-n=0:=by
    rw[QG]at h;omega
   rw[N7.o,EJ.o Ai hl,Ng];rfl
 case measure=>simp[lN];omega):p:=h
def Yx6{p:Prop} (h:p:=by
 refine hK.out _ _ ?_ (fun _=>?_)
 ·(try dsimp only)
  (first|exact Sr.o _ (Fr.Z8 _ Wh)|exact Sr.o _ (Fr.setAt (Fr.Z8 _ Wh) _ _)|go_keep)
 clear hK K;try simp only[Go.Proofs.By.pt]
 refine wpAnyH_ready (rs:=[12]) X6 Zi ?_;refine AllReadyH.cons (i:=12) rfl (fun K hK=>?_) ?_
 ·(first|(go_split_ands;refine Y9 Zr (.const (.slice none 0 0)) (.tmp 23) 47 Zr w1 Tw (.slice none 0 0) 0 [] Zr (TH _ _ _ _) (.slice a T.Zu.length cap) T.Zu.length (T.Zu.flatMap Yr) Zr ?_ zW.o (OO _) Zo Zo ?_ ?_;(exact R8.o _ Wh);(exact Below.size Wh);intro v1 w2 TP N7;have T6:=Xv N7.o;have Yk:Below w1 w1 w2:=Go.Proofs.By.Below.call Wh (Zq _) T6;obtain⟨k2,k3,k4,k5⟩:=Zv.o _ Yk)|(go_split_ands;refine Y9 Zr (.tmp 24) (.tmp 30) 47 Zr w1 Tw v1 (0+T.Zu.length) ([]++T.Zu.flatMap Yr) Zr ?_ _ 1 (Q6 p (str nm)) Zr ?_ Zr (Kv ⟨p,nm⟩) Zo Zo ?_ ?_;(repeat(first|with_reducible exact TP.o|with_reducible refine WY ?_|with_reducible refine World.ownsRow.alloc ?_ _));(repeat(first|((with_reducible refine SU _ _ 1 (Q6 p (str nm)) Zd _ ?_);rfl)|with_reducible refine Row.drew ?_|with_reducible refine Row.below ?_ T6));(exact Below.size Wh);intro v2 w3 O5 JL;have V6:Below w1 w1 w3:=Below.grown Wh JL.o (Below.size Wh) (YG TP.o);obtain⟨k6,k7,k8,k9⟩:=Zv.o _ V6;obtain⟨va,vc,hv⟩:=Wl O5.o;subst hv))
  refine hK.out _ _ ?_ (fun _=>?_)
  ·(try dsimp only)
   (first|exact Sr.o _ (Fr.Z8 _ Wh)|exact Sr.o _ (Fr.setAt (Fr.Z8 _ Wh) _ _)|go_keep)
  clear hK K;try simp only[Go.Proofs.By.pt]
  refine YA 13 (h:=YA 14 (h:=?_));refine wpAnyH_ready (rs:=[15]) X6 Zi ?_;refine AllReadyH.cons (i:=15) rfl (fun K hK=>?_) ?_
  ·go_simp;refine hK.out _ _ ?_ (fun _=>?_)
   ·(try dsimp only)
    (first|exact Sr.o _ (Fr.Z8 _ Wh)|exact Sr.o _ (Fr.setAt (Fr.Z8 _ Wh) _ _)|go_keep)
   clear hK K;try simp only[Go.Proofs.By.pt]
   refine wpAnyH_done X6 ?_ _;refine QP ?_;go_wp2
   go_ret2
   obtain⟨D7,bZ⟩:=dD.o _ V6;have ZW:=Row.Z4 O5.o;rw[IC,PA]at ZW;have x9:=D7.zk (l:=T.Zu++[⟨p,nm⟩]) Yo17;exact U9 HF (Row.nil _ _) x9 (bZ.setAt _ _)
  exact AllReadyH.nil
 exact AllReadyH.nil):p:=h
def Yx7{p:Prop} (h:p:=by
 refine hK.out _ _ ?_ (fun _=>?_)
 ·(try dsimp only)
  (first|exact Sr.o _ (Fr.Z8 _ Wh)|exact Sr.o _ (Fr.setAt (Fr.Z8 _ Wh) _ _)|go_keep)
 clear hK K;try simp only[Go.Proofs.By.pt]
 refine wpAnyH_ready (rs:=[8]) X6 Zi ?_;refine AllReadyH.cons (i:=8) rfl (fun K hK=>?_) ?_
 ·(first|(go_split_ands;refine Y9 Zr (.const (.slice none 0 0)) (.tmp 79) 49 Zr V TZ (.slice none 0 0) 0 [] Zr (TH _ _ _ _) (.slice a T.ZX.length cap) T.ZX.length (T.ZX.flatMap Zb) Zr ?_ zW.o (Tb _) Zo Zo ?_ ?_;(exact R8.o _ Wh);(exact Below.size Wh);intro v1 w2 TP N7;have T6:=Xv N7.o;have Yk:Below V V w2:=Go.Proofs.By.Below.call Wh (Zq _) T6;have r2:Below w2 w2 w2:=YE _ _;obtain⟨k2,k3⟩:=Zv.o _ Yk)|(go_split_ands;refine Y9 Zr (.tmp 80) (.tmp 82) 49 Zr V TZ v1 (0+T.ZX.length) ([]++T.ZX.flatMap Zb) Zr ?_ _ 1 (Ql p n la false) Zr ?_ Zr (KS ⟨p,n,la,false⟩) Zo Zo ?_ ?_;(exact Zp TP.o Wh);(repeat(first|((with_reducible refine SU _ _ 1 (Ql p n la false) Zd _ ?_);rfl)|with_reducible refine Row.drew ?_|with_reducible refine Row.below ?_ T6));(exact Below.size Wh);intro v2 w3 O5 JL;have V6:Below V V w3:=Below.grown Wh JL.o (Below.size Wh) (YG TP.o);obtain⟨k6,k7⟩:=Zv.o _ V6;obtain⟨va,vc,hv⟩:=Wl O5.o;subst hv))
  refine hK.out _ _ ?_ (fun _=>?_)
  ·(try dsimp only)
   (first|exact Sr.o _ (Fr.Z8 _ Wh)|exact Sr.o _ (Fr.setAt (Fr.Z8 _ Wh) _ _)|go_keep)
  clear hK K;try simp only[Go.Proofs.By.pt]
  refine YA 9 (h:=YA 10 (h:=?_));refine wpAnyH_ready (rs:=[11]) X6 Zi ?_;refine AllReadyH.cons (i:=11) rfl (fun K hK=>?_) ?_
  ·go_simp;refine hK.out _ _ ?_ (fun _=>?_)
   ·(try dsimp only)
    (first|exact Sr.o _ (Fr.Z8 _ Wh)|exact Sr.o _ (Fr.setAt (Fr.Z8 _ Wh) _ _)|go_keep)
   clear hK K;try simp only[Go.Proofs.By.pt]
   refine wpAnyH_done X6 ?_ _;refine QP ?_;go_wp2_with fail
   go_meet;obtain⟨D7,bZ⟩:=dD.o _ V6;have ZW:=Row.Z4 O5.o;rw[IC,PA]at ZW;have x9:=D7.KL (l:=T.ZX++[⟨p,n,la,false⟩]) Yo14;exact⟨x9,bZ.setAt _ _,(Fr.Z8 _ V6).setAt _ _⟩
  exact AllReadyH.nil
 exact AllReadyH.nil):p:=h
def Yx8{p:Prop} (h:p:=by
 clear hK K;try simp only[Go.Proofs.By.pt]
 refine YP 31 (h:=YP 32 (h:=?_));refine YR 33 (h:=fun K hK=>?_);go_simp;have HO:=Zh (HO.o.setV 5 (.slice xa (ws.length+1) xc) (.slice xa (ws.length+1) xc) (.slice ca cs.length cc) (.slice qa qs.length qc) rfl);refine Go.Proofs.By.Ye hK _ _ X6 ?_;clear hK K;try simp only[Go.Proofs.By.pt]
 refine YP 34 (h:=YP 35 (h:=?_));refine YR 36 (h:=fun K hK=>?_);go_simp;have HO:=Zh (HO.o.setV 6 (.slice ya (cs.length+1) yc) (.slice xa (ws.length+1) xc) (.slice ya (cs.length+1) yc) (.slice qa qs.length qc) rfl);refine Go.Proofs.By.Ye hK _ _ X6 ?_;clear hK K;try simp only[Go.Proofs.By.pt]
 refine YP 37 (h:=YP 38 (h:=?_));refine YR 39 (h:=fun K hK=>?_);go_simp;have HO:=Zh (HO.o.setV 7 (.slice za (qs.length+1) zc) (.slice xa (ws.length+1) xc) (.slice ya (cs.length+1) yc) (.slice za (qs.length+1) zc) rfl);refine Go.Proofs.By.Ye hK _ _ X6 ?_;clear hK K;try simp only[Go.Proofs.By.pt]
 refine Go.Proofs.By.Yt X6 ?_ _;refine QP ?_;go_wp2_with fail
 go_meet
 exact⟨_,_,_,HO.o⟩):p:=h
def Yx10{p:Prop} (h:p:=by
 go_upto_region 11 with(go_at_call 125;refine HC.o.mono ?_;rintro e w2 ⟨⟨a0,rfl,⟨cv,ev,pv,bR,q1,q2,q3⟩⟩,Y7⟩;obtain⟨ca,cc,G9,-⟩:=id q1;obtain⟨ea,ec,LQ,-⟩:=id q2;obtain⟨pa,pc,Mk,-⟩:=id q3;subst G9;subst LQ;subst Mk;dsimp only[FY]at bR;subst bR;have HR:Hid (Vp w2 P (.slice ca P.Vs.length cc) (.slice ea P.ext.length ec) (.slice pa P.Zz.length pc)):=⟨q1,q2,q3⟩;have Yc:=Zh Y7;clear q1 q2 q3 Y7)
 clear HC;have GV:Hid (Below w w (w2.alloc (.cells (Qc P.Xq P.type P.seq P.time P.Yi ca P.Vs.length cc P.Xo P.XZ ea P.ext.length ec pa P.Zz.length pc P.pad) 79))):=ZA Yc.o (Zq _) _;by_cases Rl:er=0
 ·subst Rl;have HD:Hid (∀w1,Below w2 w2 w1→Calls prog 126 #[.slice pa P.Zz.length pc] w1 fun e w'=>e = .returned (.tuple (Qo (Qd (Yu P.Zz).1.ZC (Yu P.Zz).1.key (Yu P.Zz).1.start (Yu P.Zz).1.frame) (Yu P.Zz).2))∧Below w1 w1 w'):=fun w1 h=>vZ _ P.Zz w1 (HR.o.p.below h).r
  rw[Z3 Zi]at HX;generalize Yu P.Zz=D at *;obtain⟨d,de⟩:=D;dsimp only at HD HX;have GG:w2.heap.size<(w2.alloc (.cells (Qc P.Xq P.type P.seq P.time P.Yi ca P.Vs.length cc P.Xo P.XZ ea P.ext.length ec pa P.Zz.length pc P.pad) 79)).heap.size:=by show _<(w2.heap.push _).size;rw[N9];exact Nat.lt_succ_self _
  have ZW:=Z9 w2 (.cells (Qc P.Xq P.type P.seq P.time P.Yi ca P.Vs.length cc P.Xo P.XZ ea P.ext.length ec pa P.Zz.length pc P.pad) 79);have aF:=Zh (HR.o.below (Z' w2 (.cells (Qc P.Xq P.type P.seq P.time P.Yi ca P.Vs.length cc P.Xo P.XZ ea P.ext.length ec pa P.Zz.length pc P.pad) 79)));go_upto_region 14 with(go_at_call 126;refine(HD.o _ (Z' _ _)).mono ?_;rintro e w3 ⟨rfl,WM⟩;have WB:=Zh WM;have y0:=(WM.block _ GG).trans ZW;have vW:w2.heap.size<w3.heap.size:=Od GG WM.size;clear WM)
  have wM:=Zh (aF.o.below WB.o);have Ri:Hid (Below w w w3):=Tr GV WB.o;have BA:Hid (Below w w (w3.alloc (.cells (Qd d.ZC d.key d.start d.frame) 81))):=ZA Ri.o (Zq _) _;have M8:=Zh (wM.o.below (Z' w3 (.cells (Qd d.ZC d.key d.start d.frame) 81)));have y1:=((Z' w3 (.cells (Qd d.ZC d.key d.start d.frame) 81)).block _ vW).trans y0;clear ZW aF WB HD;by_cases bW:de=0
  ·subst bW;rw[Z3 Zi]at HX;go_wp2_with (with_reducible refine Zl y1 underlying79 ?_)
   go_ret2
   exact⟨⟨_,by rw[HX.o];rfl,by rw[HX.o];exact⟨_,_,_,rfl,M8.o⟩⟩,BA.o⟩
  ·have bl:(de !=0)=true:=by rw[Rs];exact bW
   have bl2:(de==0)=false:=by rw[Wz];exact bW
   rw[ZU bW]at HX;go_wp2_with fail
   go_ret2
   exact⟨⟨.nilIface,by rw[HX.o];rfl,by rw[HX.o];rfl⟩,BA.o⟩
 ·have bl:(er !=0)=true:=by rw[Rs];exact Rl
  have bl2:(er==0)=false:=by rw[Wz];exact Rl
  rw[ZU Rl]at HX;go_wp2_with fail
  go_ret2
  exact⟨⟨.nilIface,by rw[HX.o];rfl,by rw[HX.o];rfl⟩,GV.o⟩):p:=h
def Yx11{p:Prop} (h:p:=by
 have hT':=Zh hT;have HC:Hid (may s.data.toList=((rn s.data.toList).all (fun p=>GM p.1)&&decide (1≤(rn s.data.toList).length)&&decide ((rn s.data.toList).length≤8))):=rfl;have HU:Hid (runes s.data.toList=if(rn s.data.toList).all good then((rn s.data.toList).length:Int)else -1):=rfl;have CR:=Zh (uJ s w hs hT);clear hT;by_cases hr:1≤runes s.data.toList∧runes s.data.toList≤8
 ·obtain⟨hr1,OA⟩:=hr
  have HL:Hid (((rn s.data.toList).length:Int)=runes s.data.toList):=by
   have:=HU.o;split at this
   ·exact this.symm
   ·omega
  have hlen:1≤(rn s.data.toList).length∧(rn s.data.toList).length≤8:=by have:=HL.o;omega
  have Gu:Hid (may s.data.toList=(rn s.data.toList).all (fun p=>GM p.1)):=by
   show _=_;rw[HC.o];simp[hlen]
  generalize runes s.data.toList=q at *;go_enter func120,ntmps120;go_wp2_with (go_at_call 148;refine CR.o.mono ?_;rintro e w1 ⟨rfl,YV⟩)
  go_loopw [4] (fun a w'=>∃k:Nat,Below w w w'∧a = .int .i64 (cutAt s.data.toList k)∧k≤(rn s.data.toList).length∧Hid (((rn s.data.toList).take k).all (fun p=>GM p.1)=true)) (fun a _=>s.size-(intOf a).toNat)
  case atStart=>exact⟨0,YV,rfl,Tv _,rfl⟩
  case round=>
   obtain⟨k,hb,rfl,hle,Ut⟩:=hrel;by_cases hp:cutAt s.data.toList k<s.size
   ·have hwd:=Lib.decode_width_pos s _ hp;obtain⟨h1,h2,h3,h4⟩:=I7 s k hp
    have hw2:cutAt s.data.toList k+(Utf8.decode s (cutAt s.data.toList k)).2≤s.size:=by
     have:=E4 s.data.toList (k+1);rw[←Lib.size_eq]at this;omega
    have hr0:(Utf8.decode s (cutAt s.data.toList k)).1≤1114111:=by rw[←decodeL_drop];exact decodeL_rune _
    have H2:=Zh h2;have H4:=Zh h4;clear h2 h4;have CD:=Zh (ie s (cutAt s.data.toList k) wr hp (Utf8Tabs_below hT'.o hb));generalize hd:Utf8.decode s (cutAt s.data.toList k)=d at *;have HD:=Zh hd;clear hd;obtain⟨r,wd⟩:=d;dsimp only at *
    have CO:Hid (∀w,Calls prog 150 #[.int .i32 r] w (fun e w'=>e = .returned (.bool (GM r))∧w=w')):=by
     intro w;have:=jg (r:Int) w Zo Zo;rwa[Wi]at this
    by_cases ho:GM r=true
    ·rw[ho]at CO;have HO:=Zh ho;clear ho;go_wp2_with (first|(go_at_call 149;refine CD.o.mono ?_;rintro e w' ⟨rfl,Y7⟩)|(go_at_call 150;refine(CO.o _).mono ?_;rintro e w' ⟨rfl,rfl⟩))
     go_roundw
     case rel=>exact⟨k+1,hb.trans (Y7.mono hb.size),by rw[H2.o];go_num,Zo,Mw Ut.o H4.o HO.o⟩
     case measure=>simp[intOf];omega
    ·have ho:GM r=false:=by simpa using ho
     rw[ho]at CO
     have HF:Hid (may s.data.toList=false):=by
      show _=_;rw[Gu.o];exact Aj H4.o ho
     clear ho;go_wp2_with (first|(go_at_call 149;refine CD.o.mono ?_;rintro e w' ⟨rfl,Y7⟩)|(go_at_call 150;refine(CO.o _).mono ?_;rintro e w' ⟨rfl,rfl⟩))
     go_ret;exact⟨aE HF.o.symm,hb.trans (Y7.mono hb.size)⟩
   ·have hend:=Ba s k hp
    have HF:Hid (may s.data.toList=true):=by
     show _=_;have e:(rn s.data.toList).length=k:=by omega
     have h:=Ut.o;rw[←e,nv]at h;rw[Gu.o,h]
    go_wp2;go_ret;exact⟨aE HF.o.symm,hb⟩
 ·have HF:Hid (may s.data.toList=false):=by
   show _=_;rw[JU];intro hm;have hv:=Cz hm;have hu:=HU.o;rw[ZU hv]at hu;unfold may at hm;simp at hm;omega
  generalize runes s.data.toList=q at *;by_cases hq:q<1
  ·go_enter func120,ntmps120;go_wp2_with (go_at_call 148;refine CR.o.mono ?_;rintro e w1 ⟨rfl,YV⟩)
   go_ret;exact⟨aE HF.o.symm,YV⟩
  ·have pL:8<q:=by omega
   clear hr;go_enter func120,ntmps120;go_wp2_with (go_at_call 148;refine CR.o.mono ?_;rintro e w1 ⟨rfl,YV⟩)
   go_ret
   exact⟨aE HF.o.symm,YV⟩):p:=h
def Yx12{p:Prop} (h:p:=by
 have CM:=Zh (yN s w hs hT);have HK:Hid (key s.data.toList=if may s.data.toList then s.data.toList.map low else[]):=rfl;have HL:Hid (s.data.toList.length=s.size):=(Lib.size_eq s).symm;clear hT;by_cases hm:may s.data.toList=true
 ·have HF:Hid (key s.data.toList=s.data.toList.map low):=by show _=_;rw[HK.o,ZU hm]
  rw[hm]at CM;clear hm;have hconv:∀w,(convert 9 30 (.string s)).run prog w=_:=fun w=>Go.Lib.run_convert_string_bytes w 9 30 5 s underlying9 underlying30 underlying5
  go_enter func121,ntmps121;go_wp2_with (first|(go_at_call 120;refine CM.o.mono ?_;rintro e w1 ⟨rfl,hb⟩))
  have YV:=hb.trans ((xh w1 5 s).mono hb.size);have hr1:=KH w1 5 s;have hB:w.heap.size≤w1.heap.size:=hb.size;generalize grownCap w1 s.size 0 5=cap;generalize bytesWorld w1 5 s=wB at *;generalize w1.heap.size=B at *;clear hconv hb;go_loopw [13] (fun i w'=>∃k:Nat,Below w w w'∧i = .int .i64 k∧k≤s.size∧Ma w' B 0 ((s.data.toList.take k).map low++s.data.toList.drop k)) (fun i _=>s.size-(intOf i).toNat)
  case atStart=>exact⟨0,YV,rfl,Tv _,by simpa using hr1⟩
  case round=>
   obtain⟨k,hb,rfl,hle,ZW⟩:=hrel;have HR:=Zh ZW;clear ZW hr1
   have hML:((s.data.toList.take k).map low++s.data.toList.drop k).length=s.size:=by
    simp only[UC,Te,SC,QG,HL.o];omega
   have vM:=Zh hML;clear hML;by_cases hk:k<s.size
   ·have hc:=(HR.o k (by rw[vM.o];exact hk)).1;have IV:=(HR.o k (by rw[vM.o];exact hk)).2;rw[PA]at hc IV;rw[I0 _ _ (by rw[HL.o];exact hk)]at hc;have HS:=Zh (uz s.data.toList k (by rw[HL.o];exact hk));have hx:=UInt8.toNat_lt (s.data.toList.getD k 0)
    have HW:∀x:UInt8,Ma (wr.setCell ⟨B,k,none⟩ (.int .u8 x.toNat)) B 0 (((s.data.toList.take k).map low++s.data.toList.drop k).set k x):=by
     intro x;have:=gw HR.o (i:=k) x
     rwa[PA]at this
    have HW:=Zh HW;generalize pP:s.data.toList.getD k 0=x at *;have HX:=Zh pP;clear pP;have HU:=Zh (low_up x);have HI:=Zh (low_id x);by_cases c1:65≤x.toNat
    ·by_cases c2:x.toNat≤90
     ·have e:Hid (Value.int .u8 (x.toNat+32:Nat) = .int .u8 (low x).toNat):=by show _=_;rw[HU.o c1 c2]
      go_wp2;go_roundw
      case rel=>
       refine⟨k+1,hb.setCell TY _,Zn,Zo,?_⟩;have:=HW.o (low x);rw[HS.o,HU.o c1 c2]at this;simpa using this
      case measure=>simp[intOf];omega
     ·have e:=HI.o Zo;have E:=Zh e;clear e;go_wp2;go_roundw
      case rel=>
       refine⟨k+1,hb,Zn,Zo,?_⟩;rw[←HS.o,E.o,cJ _ _ (by rw[vM.o];exact hk) _ (by rw[I0 _ _ (by rw[HL.o];exact hk),HX.o])];exact HR.o
      case measure=>simp[intOf];omega
    ·have e:=HI.o Zo;have E:=Zh e;clear e;go_wp2;go_roundw
     case rel=>
      refine⟨k+1,hb,Zn,Zo,?_⟩;rw[←HS.o,E.o,cJ _ _ (by rw[vM.o];exact hk) _ (by rw[I0 _ _ (by rw[HL.o];exact hk),HX.o])];exact HR.o
     case measure=>simp[intOf];omega
   ·have hk:k=s.size:=by omega
    have ZW:=HR.o;subst hk;rw[←HL.o,nv,List.drop_length,rC]at ZW;have G9:=Em (P:=prog) (c:=cap) 30 9 5 ZW underlying30 underlying5 underlying9;rw[Te,HL.o]at G9;clear ZW HR;go_wp2;go_ret;exact⟨GP (by rw[HF.o]),hb⟩
 ·have hm:may s.data.toList=false:=by simpa using hm
  have HF:Hid (key s.data.toList=[]):=by show _=_;rw[HK.o,hm];rfl
  rw[hm]at CM;clear hm;go_enter func121,ntmps121;go_wp2_with (first|(go_at_call 120;refine CM.o.mono ?_;rintro e w1 ⟨rfl,hb⟩))
  go_ret
  exact⟨GP (by rw[HF.o];rfl),hb⟩):p:=h
def Yx13{p:Prop} (h:p:=by
 have HR:=Zh (HR.o.far (XN nP.o) HFA.o);have wL:=Zh (Row.fr wL.o (XN nP.o) (Zq _) (Y0 HC.o.XR Zd));have Sq:Hid (Below w w w6):=((Fr.Z8 Pj Sq.o).grown nP.o Sq.o.size (YG HC.o.XR)).below;have HC:=Zh (HC.o.B_ nP.o gB.o);refine Go.Proofs.By.YY hK _ _ ?_ (fun _=>?_)
 ·exact Zv.o _ _ HC.o.Y8 HR.o.tk
 clear hK K;try simp only[Go.Proofs.By.pt]
 refine YR 17 (h:=fun K hK=>?_);refine Y9 Zr (.tmp 41) (.tmp 44) 114 Zr w J5 mv M.length (M.flatMap Xg) Zr HC.o.Kp _ 1 ([(⟨T.XM,T.WI,.slice ca T.XM.Vs.length cc,.slice ea T.XM.ext.length ec,.slice pa T.XM.Zz.length pc⟩:Tt)].flatMap Xg) Zr wL.o rfl CX (by rw[vM.o];omega) (by rw[vM.o];omega) ?_ ?_
 ·exact Sq.o.size
 intro v17 w7 HO17 zU;have EL:Hid (w7.ownsRow w 97 15 v17 (M++[(⟨T.XM,T.WI,.slice ca T.XM.Vs.length cc,.slice ea T.XM.ext.length ec,.slice pa T.XM.Zz.length pc⟩:Tt)]).length ((M++[(⟨T.XM,T.WI,.slice ca T.XM.Vs.length cc,.slice ea T.XM.ext.length ec,.slice pa T.XM.Zz.length pc⟩:Tt)]).flatMap Xg)):=(by have h:=HO17.o;rw[UC,O7];exact h);obtain⟨ma,mc,kJ,-⟩:=Row.Z4 EL.o;rw[show(M++[(⟨T.XM,T.WI,.slice ca T.XM.Vs.length cc,.slice ea T.XM.ext.length ec,.slice pa T.XM.Zz.length pc⟩:Tt)]).length=j+1 by rw[UC,vM.o];rfl]at kJ;subst kJ;have HEA:Hid (∀x∈M++[(⟨T.XM,T.WI,.slice ca T.XM.Vs.length cc,.slice ea T.XM.ext.length ec,.slice pa T.XM.Zz.length pc⟩:Tt)],Vp w7 x.p x.cv x.ev x.pv):=fun x hx=>Yo12
 have HFM:Hid (vH w6 (fun i=>mv.ownBlock=some i)):=fun i hi=>(by obtain⟨cu,hc⟩:=V7 HC.o.Kp i hi;exact⟨cu,_,_,hc,WG (WG (WQ rfl))⟩)
 have HR:=Zh (HR.o.far (XN zU.o) HFM.o);have Sq:Hid (Below w w w7):=((Fr.Z8 Pj Sq.o).grown zU.o Sq.o.size (YG HC.o.Kp)).below;have HC:=Zh (HC.o.bJ zU.o EL.o HEA.o);obtain⟨b0,b1,b2,b3,b4⟩:=HC.o.cells;have b41:=b4 1;have b42:=b4 2;refine Go.Proofs.By.YY hK _ _ ?_ (fun _=>?_)
 ·exact Zv.o _ _ HC.o.Y8 HR.o.tk
 clear hK K;try simp only[Go.Proofs.By.pt]
 refine YP 18 (h:=YP 19 (h:=?_));refine YR 20 (h:=fun K hK=>?_);go_simp;have HFK:Hid (vH w7 (· = w.heap.size)):=fun i hi=>dN
 have HR:=Zh (HR.o.far (w':=w7.setCell ⟨w,1,none⟩ (.slice na (j+1) nc)) ((Fr.refl _ _ _).setAt _ _) HFK.o);have Sq:Hid (Below w w (w7.setCell ⟨w,1,none⟩ (.slice na (j+1) nc))):=((Fr.Z8 Pj Sq.o).setCell (p:=⟨w,1,none⟩) (WQ (Zq _)) _).below;have HC:=Zh (HC.o.F_ 1 (.slice na (j+1) nc));obtain⟨d0,d1,d2,d3,d4⟩:=HC.o.cells;have d42:=d4 2;refine Go.Proofs.By.Ye hK _ _ X6 ?_;clear hK K;try simp only[Go.Proofs.By.pt]
 refine YP 21 (h:=YP 22 (h:=?_));refine YR 23 (h:=fun K hK=>?_);go_simp;have HFK:Hid (vH (w7.setCell ⟨w,1,none⟩ (.slice na (j+1) nc)) (· = w.heap.size)):=fun i hi=>dN
 have HR:=Zh (HR.o.far (w':=(w7.setCell ⟨w,1,none⟩ (.slice na (j+1) nc)).setCell ⟨w,2,none⟩ (.slice ma (j+1) mc)) ((Fr.refl _ _ _).setAt _ _) HFK.o);have Sq:Hid (Below w w ((w7.setCell ⟨w,1,none⟩ (.slice na (j+1) nc)).setCell ⟨w,2,none⟩ (.slice ma (j+1) mc))):=((Fr.Z8 Pj Sq.o).setCell (p:=⟨w,2,none⟩) (WQ (Zq _)) _).below;have HC:=Zh (HC.o.F_ 2 (.slice ma (j+1) mc));refine Go.Proofs.By.Ye hK _ _ X6 ?_;clear hK K;try simp only[Go.Proofs.By.pt]
 refine Go.Proofs.By.Yt X6 ?_ _;refine QP ?_;go_wp2_with fail
 go_meet
 exact⟨na,nc,ma,mc,HC.o,HR.o,Sq.o⟩):p:=h
def Yx14{p:Prop} (h:p:=by
 have HR:Hid ((rn s.data.toList).length≤s.size):=by have:=KF s.data.toList;rw[Lib.size_eq];exact this
 go_enter func161,ntmps161;go_wp2;go_loopw [3] (fun c w'=>∃k:Nat,w'=w.iter s (cutAt s.data.toList k)∧c = .int .i64 k∧k≤(rn s.data.toList).length∧Hid (((rn s.data.toList).take k).all (fun p=>GM p.1)=true)) (fun _ w'=>s.size-w'.iterPos w)
 case atStart=>exact⟨0,rfl,rfl,Tv _,rfl⟩
 case round=>
  obtain⟨k,rfl,rfl,hle,Ut⟩:=hrel;by_cases hp:cutAt s.data.toList k<s.size
  ·have hnx:∀ty,(Instr.next (.pointer (some ⟨w,0,none⟩)) true ty).run prog (w.iter s (cutAt s.data.toList k))=_:=fun ty=>run_next_any w s _ ty hp
   have hwd:=Lib.decode_width_pos s _ hp;obtain⟨h1,h2,h3,h4⟩:=I7 s k hp;have H2:=Zh h2;have H4:=Zh h4;clear h2 h4;have hks:k<s.size:=by omega
   generalize hd:Utf8.decode s (cutAt s.data.toList k)=d at *;have HD:=Zh hd;clear hd;obtain⟨r,wd⟩:=d;dsimp only at *;by_cases Ni:GM r=true
   ·have HB:=Zh Ni;have hb:=Ni;unfold GM at hb;simp only[UN,Bool.or_eq_true,Su,Bool.not_eq_true',Wz]at hb;obtain⟨⟨b1,b2⟩,b3⟩:=hb;clear Ni;have t1:((r:Int)==65533)=false:=by rw[Wz];omega
    clear b3;by_cases b4:r<127
    ·clear b2;go_wp2;go_roundw
     case rel=>exact⟨k+1,by rw[H2.o],Zn,Zo,Mw Ut.o H4.o HB.o⟩
     case measure=>simp;omega
    ·have b5:159<r:=by omega
     clear b2;go_wp2;go_roundw
     case rel=>exact⟨k+1,by rw[H2.o],Zn,Zo,Mw Ut.o H4.o HB.o⟩
     case measure=>simp;omega
   ·have HF:Hid (may s.data.toList=false):=by
     show _=_;unfold may;rw[Aj H4.o (by simpa using Ni)];rfl
    have HC:Hid (r<33∨(127≤r∧r≤159)∨r=65533):=by
     show _∨_;unfold GM at Ni;simp at Ni;omega
    clear Ni;by_cases b1:r<33
    ·go_wp2;go_ret;exact⟨aE HF.o.symm,Sa _ _ _⟩
    by_cases b2:127≤r∧r≤159
    ·obtain⟨b2,b3⟩:=b2;go_wp2;go_ret;exact⟨aE HF.o.symm,Sa _ _ _⟩
    ·have b3:r=65533:=by have:=HC.o;omega
     subst b3;go_wp2;go_ret;exact⟨aE HF.o.symm,Sa _ _ _⟩
  ·have hnx:∀ty,(Instr.next (.pointer (some ⟨w,0,none⟩)) true ty).run prog (w.iter s (cutAt s.data.toList k))=_:=fun ty=>run_next_end w s _ ty hp
   have hend:=Ba s k hp
   have HM:Hid (may s.data.toList=(decide (1≤k)&&decide (k≤8))):=by
    show _=_;have e:(rn s.data.toList).length=k:=by omega
    have h:=Ut.o;rw[←e,nv]at h;unfold may;rw[h,e,Bool.true_and]
   by_cases c1:1≤k
   ·by_cases c2:k≤8
    ·go_wp2;go_ret;exact⟨aE (by rw[HM.o];first|(simp[c1,c2];done)|(simp[c1,c2];omega)),Sa _ _ _⟩
    ·go_wp2;go_ret;exact⟨aE (by rw[HM.o];first|(simp[c1,c2];done)|(simp[c1,c2];omega)),Sa _ _ _⟩
   ·go_wp2;go_ret
    exact⟨aE (by rw[HM.o];first|(simp[c1];done)|(simp[c1];omega)),Sa _ _ _⟩):p:=h
def oH{p:Prop} (h:p:=by
 have h:=Z9 (w.alloc (.cells X9 173)) (.cells X9 173);rw[show(w.alloc (.cells X9 173)).heap.size=w.heap.size+1 by show(w.heap.push _).size=_;rw[N9]]at h
 exact h):p:=h
def Yx17{p:Prop} (h:p:=by
 have HR:Hid ((rn s.data.toList).length≤s.size):=by have:=KF s.data.toList;rw[Lib.size_eq];exact this
 have hT':=Zh hT;clear hT;go_enter func148,ntmps148;go_wp2;go_loopw [3,4] (fun n a w'=>∃k:Nat,Below w w w'∧n = .int .i64 k∧a = .int .i64 (cutAt s.data.toList k)∧k≤(rn s.data.toList).length∧Hid (((rn s.data.toList).take k).all good=true)) (fun _ a _=>s.size-(intOf a).toNat)
 case atStart=>exact⟨0,YE _ _,rfl,rfl,Tv _,rfl⟩
 case round=>
  obtain⟨k,hb,rfl,rfl,hle,Ut⟩:=hrel;by_cases hp:cutAt s.data.toList k<s.size
  ·have hwd:=Lib.decode_width_pos s _ hp;obtain⟨h1,h2,h3,h4⟩:=I7 s k hp
   have hw2:cutAt s.data.toList k+(Utf8.decode s (cutAt s.data.toList k)).2≤s.size:=by
    have:=E4 s.data.toList (k+1);rw[←Lib.size_eq]at this;omega
   have H2:=Zh h2;have H4:=Zh h4;clear h2 h4;have hks:k<s.size:=by omega
   have CD:=Zh (ie s (cutAt s.data.toList k) wr hp (Utf8Tabs_below hT'.o hb));by_cases hg:good (Utf8.decode s (cutAt s.data.toList k))=true
   ·generalize hd:Utf8.decode s (cutAt s.data.toList k)=d at *;have HD:=Zh hd;clear hd;have hG:¬(d.1=65533∧d.2=1):=by unfold good at hg;intro h;simp[h]at hg
    have HG:=Zh hg;clear hg;obtain⟨r,wd⟩:=d;dsimp only at *;by_cases g1:r=65533
    ·have g2:((wd:Int)==1)=false:=by rw[Wz];omega
     subst g1;clear hG;go_wp2_with (go_at_call 149;refine CD.o.mono ?_;rintro e w' ⟨rfl,Y7⟩)
     go_roundw
     case rel=>exact⟨k+1,hb.trans (Y7.mono hb.size),Zn,by rw[H2.o];go_num,Zo,Mw Ut.o H4.o HG.o⟩
     case measure=>simp[intOf];omega
    ·have g2:((r:Int)==65533)=false:=by rw[Wz];omega
     clear hG g1;go_wp2_with (go_at_call 149;refine CD.o.mono ?_;rintro e w' ⟨rfl,Y7⟩)
     go_roundw
     case rel=>exact⟨k+1,hb.trans (Y7.mono hb.size),Zn,by rw[H2.o];go_num,Zo,Mw Ut.o H4.o HG.o⟩
     case measure=>simp[intOf];omega
   ·have hg:good (Utf8.decode s (cutAt s.data.toList k))=false:=by simpa using hg
    have HF:Hid (runes s.data.toList=-1):=by
     show _=_;unfold runes;rw[Aj H4.o hg];rfl
    have hd:=tM hg;rw[hd]at CD;clear hg hd;go_wp2_with (go_at_call 149;refine CD.o.mono ?_;rintro e w' ⟨rfl,Y7⟩)
    go_ret;exact⟨YI HF.o.symm,hb.trans (Y7.mono hb.size)⟩
  ·have hend:=Ba s k hp
   have HF:Hid (runes s.data.toList=(k:Int)):=by
    show _=_;have e:(rn s.data.toList).length=k:=by omega
    have h:=Ut.o;rw[←e,nv]at h;unfold runes;rw[ZU h,e]
   go_wp2;go_ret
   exact⟨YI HF.o.symm,hb⟩):p:=h
def Yx18{p:Prop} (h:p:=by
 go_wp2_with (first|(go_at_call 78;refine(Pv 5 0 _).mono ?_;rintro e w5 ⟨⟨cs,rfl,O9⟩,Nu⟩;have PD:=Zh (Tr U5 Nu);have JK:=(PD.o.block (w.heap.size+1) (ZY HZ.o)).trans HZ.o;have hi:=Px O9;have hold:=Pw O9;have Oz:=O9.one;have JO:=Zh O9;clear O9 Nu)|(with_reducible refine ZT 100 (.tmp 6) (.tmp 48) rfl ?_;refine VM rfl 100 (.tmp 6) (.tmp 48) rfl rfl (w.heap.size+1) cs.toArray rfl rfl 100 W_ JK hi hold Oz ?_))
 refine Vr (v:= .agg cs.toArray) ?_ rfl ?_
 ·exact results_cell_row Zr _ _ (w.heap.size+1) 100 cs.toArray (0,0) _ Zr (setRow_heap _ _ _ _ _ _ JK) underlying100 rfl hi
 exact⟨⟨cs,rfl,by rw[HX.o];exact JO.o.setRow JK _⟩,Z0 (Tr Ri PD.o) (JV _) _⟩):p:=h
def Yx19{p:Prop} (h:p:=by
 go_enter func151,ntmps151;go_wp2_with (first|(go_at_call 169;refine CK.o.mono ?_;rintro e w2 ⟨rfl,Y7⟩;have TF:=(Y7.block w (ZY PF)).trans PF;have Yc:=Zh (Tr VA Y7);clear Y7)|(go_at_call 170;refine(Ek _ b _ (HV.o _ Yc.o)).mono ?_;rintro e w4 ⟨⟨a,rfl,hit⟩,S0⟩;generalize XP b=RG at *;obtain⟨⟨i,ri⟩,er⟩:=RG;dsimp only at hit;obtain⟨xa,xc,ya,yc,za,zc,ha,LR⟩:=Kl hit;subst ha;have vL:=Zh LR;have Ea:=(S0.block w (ZY TF)).trans TF;have U5:=Zh (Tr Yc S0);clear hit LR S0)|with_reducible refine Zs Ea ?_)
 refine Vr (v:= .tuple (Qs (Qe i.kind i.Yi i.Ez i.time i.Wm i.octets xa i.blocks.length xc ya i.gone.length yc i.XS za i.Xm.length zc) (ri:Nat) er)) ?_ rfl ?_
 ·exact Wa (p:=2) (u:=3) (v:=4) Zr _ _ w 173 (Qe i.kind i.Yi i.Ez i.time i.Wm i.octets xa i.blocks.length xc ya i.gone.length yc i.XS za i.Xm.length zc) (0,0) _ Zr (setRow_heap _ _ _ _ _ _ Ea) underlying173 rfl X6
 exact⟨⟨_,by rw[HX.o],by rw[HX.o];exact MM (vL.o.setRow Ea _)⟩,Z0 U5.o (Zq _) _⟩):p:=h
def Mv{p:Prop} (h:p:=by
 (try dsimp only)
 (first|exact Sr.o _ (Fr.Z8 _ Wh)|exact Sr.o _ (Fr.setAt (Fr.Z8 _ Wh) _ _)|go_keep)):p:=h
def Yx22{p:Prop} (h:p:=by
 have hT':=Zh hT;have CM:=Zh (rz s w hs);have HK:Hid (key s.data.toList=if may s.data.toList then s.data.toList.map low else[]):=rfl;clear hT;by_cases hm:may s.data.toList=true
 ·have HF:Hid (key s.data.toList=mapD Nl s.data.toList):=by
   show _=_;rw[HK.o,ZU hm,lQ _ (by rw[qR];exact Cz hm)]
  have GG:s.size<35184372088832:=by have:=rY hm;rw[←Lib.size_eq]at this;omega
  rw[hm]at CM;clear hm
  have CF:∀w1,Below w w w1→Calls prog 177 #[.func (.func 178) #[] #[],.string s] w1 fun e w'=>e = .returned (.string ⟨(Lib.mapD Nl s.data.toList).toArray⟩)∧Below w1 w1 w':=by
   intro w1 hb;refine Tryz.strings_Map_runes 178 #[] ?_ Nl s w1 GG ?_ ?_ (Utf8Tabs_below hT'.o hb)
   ·exact fun args w=>by kernel_rfl
   ·intro W x hx _;exact(je (x:Int) W Zo Zo).mono fun e w' h=>⟨h.1,0,h.2.symm⟩
   ·intro x hx;unfold Nl;split <;> omega
  have CF:=Zh CF;go_enter func162,ntmps162;go_wp2_with (first|(go_at_call 161;refine CM.o.mono ?_;rintro e w1 ⟨rfl,hb⟩)|(go_at_call 177;refine(CF.o _ Sw).mono ?_;rintro e w2 ⟨rfl,Y7⟩))
  go_ret;refine⟨?_,hb.trans (Y7.mono hb.size)⟩;rw[HF.o];rfl
 ·have hm:may s.data.toList=false:=by simpa using hm
  have HF:Hid (key s.data.toList=[]):=by show _=_;rw[HK.o,hm];rfl
  rw[hm]at CM;clear hm;go_enter func162,ntmps162;go_wp2_with (first|(go_at_call 161;refine CM.o.mono ?_;rintro e w1 ⟨rfl,hb⟩))
  go_ret
  exact⟨GP (by rw[HF.o];rfl),hb⟩):p:=h
def Yx23{p:Prop} (h:p:=by
 have Vc:Hid (X=((XJ,0),4)):=by show _=_;rw[gK.o,ZU AW]
 have dm:((m:Int)!=1)=true:=by rw[Rs];omega
 have CW:=Zh (vG.o 0 0 Zo);have TS:=H1.o.z;have Uu:=H1.o.Y8;go_wp2_with (first|(go_at_call 116;refine CW.o.mono ?_;rintro e w' ⟨rfl,rfl⟩)|with_reducible refine Zl Uu underlying173 ?_|with_reducible refine Zs TS ?_)
 refine Vr (v:= .tuple (Qs X9 0 4)) ?_ rfl ?_
 ·exact Wa (p:=2) (u:=3) (v:=4) Zr _ _ w 173 X9 (0,0) _ Zr (setRow_heap _ _ _ _ _ _ TS) underlying173 rfl X6
 exact Ur.o _ 4 TS H1.o.Za Vc.o):p:=h
def Yx25{p:Prop} (h:p:=by
 rw[DJ.o]at pL;have hq3:=Row.Z4 pL;obtain⟨pv',zM,hH,Kf,pJ,⟨ms',cD,GG,vW⟩,hu'⟩:=hr.Vm
 have kY:hH = .slice (some ⟨g,0,none⟩) T.ZX.length cp:=by
  have h1:=ch Kf 2;rw[(Zv.o w' h).1]at h1;simpa using h1.symm
 subst kY;refine⟨⟨pv',zM,.slice (some ⟨g,0,none⟩) T.ZX.length cp,by rw[hf.block b Fs (fun e=>Kg e.symm)];exact Kf,?_⟩,?_⟩
 ·rw[HT1.o];exact⟨pJ.fr hf (Zq _) (GH _ Zd),⟨ms',cD,GG.fr hf (Zq _) (GH _ Zd),fun x hx=>(vW x hx).fr hf (Zq _) (GH _ Zd)⟩,by rw[List.length_set];exact hq3⟩
 ·have h1:Fr w (· = b) w W1:=(Fr.Z8 _ SE.o).trans (GX.o.mono Zo (fun _ _ h=>h))
  exact(h1.trans ((Fr.Z8 (· = b) h).mono Zo (fun _ _ h=>h))).setCell (WQ TQ) _):p:=h
def Yx26{p:Prop} (h:p:=by
 clear Vc;go_enter func108,ntmps108;go_wp2_with (go_at_call 131;refine CO.o.mono ?_;rintro e w2 ⟨⟨n,rfl⟩,Y7⟩;have Ri:=Zh (Tr VA Y7);have TF:=(Y7.block w (ZY hz)).trans hz;have c0:=cell_of TF 0;simp only[Ss,R_]at c0;clear Y7 TF)
 go_ret2
 exact⟨⟨.slice none 0 0,by rw[HX.o];rfl,by rw[HX.o];exact Row.nil _ _⟩,by rw[HX.o];exact HR.o.below Ri.o,Fr.Z8 _ Ri.o⟩):p:=h
def Yx27{p:Prop} (h:p:=by
 go_simp;refine hK.out _ _ ?_ (fun _=>?_)
 ·exact Mv
 clear hK K;try simp only[Go.Proofs.By.pt]
 refine wpAnyH_ready (rs:=[5]) X6 Zi ?_;refine AllReadyH.cons (i:=5) rfl (fun K hK=>?_) ?_
 ·(first|(go_split_ands;refine Y9 Zr (.const (.slice none 0 0)) (.tmp 23) 47 Zr w1 Tw (.slice none 0 0) 0 [] Zr (TH _ _ _ _) (.slice a T.Zu.length cap) T.Zu.length (T.Zu.flatMap Yr) Zr ?_ zW.o (OO _) Zo Zo ?_ ?_;(exact R8.o _ Wh);(exact Below.size Wh);intro v1 w2 TP N7;have T6:=Xv N7.o;have Yk:Below w1 w1 w2:=Go.Proofs.By.Below.call Wh (Zq _) T6;obtain⟨k2,k3,k4,k5⟩:=Zv.o _ Yk)|(go_split_ands;refine Y9 Zr (.tmp 24) (.tmp 30) 47 Zr w1 Tw v1 (0+T.Zu.length) ([]++T.Zu.flatMap Yr) Zr ?_ _ 1 (Q6 p (str nm)) Zr ?_ Zr (Kv ⟨p,nm⟩) Zo Zo ?_ ?_;(repeat(first|with_reducible exact TP.o|with_reducible refine WY ?_|with_reducible refine World.ownsRow.alloc ?_ _));(repeat(first|((with_reducible refine SU _ _ 1 (Q6 p (str nm)) Zd _ ?_);rfl)|with_reducible refine Row.drew ?_|with_reducible refine Row.below ?_ T6));(exact Below.size Wh);intro v2 w3 O5 JL;have V6:Below w1 w1 w3:=Below.grown Wh JL.o (Below.size Wh) (YG TP.o);obtain⟨k6,k7,k8,k9⟩:=Zv.o _ V6;obtain⟨va,vc,hv⟩:=Wl O5.o;subst hv))
  exact Yx6
 exact AllReadyH.nil):p:=h
def Yx28{p:Prop} (h:p:=by
 go_simp;refine hK.out _ _ ?_ (fun _=>?_)
 ·exact Mv
 clear hK K;try simp only[Go.Proofs.By.pt]
 refine wpAnyH_ready (rs:=[5]) X6 Zi ?_;refine AllReadyH.cons (i:=5) rfl (fun K hK=>?_) ?_
 ·(first|(go_split_ands;refine Y9 Zr (.const (.slice none 0 0)) (.tmp 79) 49 Zr V TZ (.slice none 0 0) 0 [] Zr (TH _ _ _ _) (.slice a T.ZX.length cap) T.ZX.length (T.ZX.flatMap Zb) Zr ?_ zW.o (Tb _) Zo Zo ?_ ?_;(exact R8.o _ Wh);(exact Below.size Wh);intro v1 w2 TP N7;have T6:=Xv N7.o;have Yk:Below V V w2:=Go.Proofs.By.Below.call Wh (Zq _) T6;have r2:Below w2 w2 w2:=YE _ _;obtain⟨k2,k3⟩:=Zv.o _ Yk)|(go_split_ands;refine Y9 Zr (.tmp 80) (.tmp 82) 49 Zr V TZ v1 (0+T.ZX.length) ([]++T.ZX.flatMap Zb) Zr ?_ _ 1 (Ql p n la false) Zr ?_ Zr (KS ⟨p,n,la,false⟩) Zo Zo ?_ ?_;(exact Zp TP.o Wh);(repeat(first|((with_reducible refine SU _ _ 1 (Ql p n la false) Zd _ ?_);rfl)|with_reducible refine Row.drew ?_|with_reducible refine Row.below ?_ T6));(exact Below.size Wh);intro v2 w3 O5 JL;have V6:Below V V w3:=Below.grown Wh JL.o (Below.size Wh) (YG TP.o);obtain⟨k6,k7⟩:=Zv.o _ V6;obtain⟨va,vc,hv⟩:=Wl O5.o;subst hv))
  exact Yx7
 exact AllReadyH.nil):p:=h
def jw{p:Prop} (h:p:=by
 go_enter func131,ntmps131;go_wp2_with (first|(go_at_call 160;refine CW.o.mono ?_;rintro e w2 ⟨rfl,rfl⟩)|(go_at_call 83;refine CS.o.mono ?_;rintro e w3 ⟨rfl,WM⟩;have WB:=Zh WM;clear WM))
 go_ret2
 exact⟨⟨0,by rw[wU.o];rfl⟩,ZA WB.o (Zq _) _⟩):p:=h
def Yx30{p:Prop} (h:p:=by
 have x1:w1.cell? ⟨w,1,none⟩=some (.int .i64 p):=VR 1;have x2:w1.cell? ⟨w,2,none⟩=some (.int .i64 n):=VR 2;have x3:w1.cell? ⟨w,3,none⟩=some (.int .i64 la):=VR 3;have x4:w1.cell? ⟨w,4,none⟩=some (.string (str nm)):=VR 4;have x5:w1.cell? ⟨w,5,none⟩=some (.slice sa ss.length sc):=VR 5;have x6:w1.cell? ⟨w,6,none⟩=some (.slice ba bl bc):=VR 6;clear YV VR;go_wp2_with (go_at_call 102;(with_reducible refine(C.o w1 (HR.o.below VA.o)).mono ?_);rintro e w2 ⟨⟨tv,rfl,Sz⟩,UG,Wb⟩)
 go_ret2
 exact U9 HF Sz UG ((Fr.Z8 _ VA.o).trans (Wb.mono Zo (fun _ _ h=>h)))):p:=h
def Yx31{p:Prop} (h:p:=by
 obtain⟨r,rfl⟩:=RV h0;rw[Wi];have hc:=gf r;by_cases b1:r<33
 ·have HF:Hid (GM r=false):=by show _=_;rw[JU,ne_eq,hc];omega
  clear hc;go_enter func150,ntmps150;go_wp2;go_ret;exact⟨aE HF.o.symm,rfl⟩
 by_cases b2:r<127
 ·have HF:Hid (GM r=true):=by show _=_;rw[hc];omega
  clear hc;have t2:((r:Int)!=65533)=true:=by rw[Rs];omega
  go_enter func150,ntmps150;go_wp2;go_ret;exact⟨aE HF.o.symm,rfl⟩
 by_cases b3:r≤159
 ·have HF:Hid (GM r=false):=by show _=_;rw[JU,ne_eq,hc];omega
  clear hc;go_enter func150,ntmps150;go_wp2;go_ret;exact⟨aE HF.o.symm,rfl⟩
 by_cases b4:r=65533
 ·have HF:Hid (GM 65533=false):=by show _=_;decide
  clear hc;subst b4;go_enter func150,ntmps150;go_wp2;go_ret;exact⟨aE HF.o.symm,rfl⟩
 ·have HF:Hid (GM r=true):=by show _=_;rw[hc];omega
  clear hc;have t2:((r:Int)!=65533)=true:=by rw[Rs];omega
  clear b4;go_enter func150,ntmps150;go_wp2;go_ret
  exact⟨aE (by rw[HF.o];simp;omega),rfl⟩):p:=h
def Yx33{p:Prop} (h:p:=by
 go_ret;have h1:Row (w.alloc (.cells (YF [10,11]).toArray 66)) 66 (.slice (some ⟨w,0,none⟩) 2 2) 2 (YF [10,11]):=Vw w _ 2 (YF [10,11]) Zd;have h2:=Vw (w.alloc (.cells (YF [10,11]).toArray 66)) 5 17 (Re pk7) Zd;have h3:=Vw ((w.alloc (.cells (YF [10,11]).toArray 66)).alloc (.cells (Re pk7).toArray 5)) 32 5 ((E0 w).flatMap fun y=>XD y.x) Zd;have e1:(w.alloc (.cells (YF [10,11]).toArray 66)).heap.size=w.heap.size+1:=by show(w.heap.push _).size=_;rw[N9]
 have e2:((w.alloc (.cells (YF [10,11]).toArray 66)).alloc (.cells (Re pk7).toArray 5)).heap.size=w.heap.size+2:=by show((w.heap.push _).push _).size=_;rw[N9,N9]
 rw[e1]at h2;rw[e2]at h3;refine⟨rfl,⟨h3,?_⟩,ZA (ZA (Z' w _) (Zq _) _) (Zq _) _⟩;intro x hx;simp only[E0,K5,List.mem_nil_iff,or_false]at hx;rcases hx with rfl|rfl|rfl|rfl|rfl
 ·exact⟨Row.nil _ _,Row.nil _ _,by decide⟩
 ·exact⟨Row.nil _ _,Row.nil _ _,by decide⟩
 ·exact⟨(h1.below (Z' _ _)).below (Z' _ _),Row.nil _ _,by show(bop 2).name.length<_;decide⟩
 ·exact⟨Row.nil _ _,Row.nil _ _,by decide⟩
 ·exact⟨Row.nil _ _,h2.below (Z' _ _),by show(bop 4).name.length<_;decide⟩):p:=h
def Yx34{p:Prop} (h:p:=by
 have hb:(er !=0)=true:=by rw[Rs];exact Rl
 have Y7:(er==0)=false:=by rw[Wz];exact Rl
 rw[ZU Rl]at HX;go_wp2_with (first|(go_at_call 78;refine(Pv 3 er _).mono ?_;rintro e w5 ⟨⟨cs,rfl,O9⟩,Nu⟩;have PD:=Zh (Tr Yc Nu);have JK:=(PD.o.block (w.heap.size+1) (ZY HZ.o)).trans HZ.o;have hi:=Px O9;have hold:=Pw O9;have Oz:=O9.one;have JO:=Zh O9;clear O9 Nu)|(with_reducible refine ZT 100 (.tmp 4) (.tmp 26) rfl ?_;refine VM rfl 100 (.tmp 4) (.tmp 26) rfl rfl (w.heap.size+1) cs.toArray rfl rfl 100 W_ JK hi hold Oz ?_))
 refine Vr (v:= .agg cs.toArray) ?_ rfl ?_
 ·exact results_cell_row Zr _ _ (w.heap.size+1) 100 cs.toArray (0,0) _ Zr (setRow_heap _ _ _ _ _ _ JK) underlying100 rfl hi
 exact Ur.o _ cs _ (Z0 (Tr Ri PD.o) (JV _) _) (JO.o.setRow JK _) HX.o):p:=h
def dW{p:Prop} (h:p:=by
 go_enter func96,ntmps96;go_wp2_with (go_at_call 48;(with_reducible refine(CA.o _ (Z' _ _)).mono ?_);rintro e w1 ⟨rfl,YV⟩;obtain⟨Ls,IV⟩:=Sv YV;have PF:w.heap.size<w1.heap.size:=Od Zi YV.size)
 go_ret
 exact⟨dr HF.o.symm,(Z' _ _).trans (YV.mono Zi)⟩):p:=h
def dX{p:Prop} (h:p:=by
 go_enter func179,ntmps179;go_wp2_with (first|(go_at_call 191;refine HCK.o.mono ?_;rintro e w' ⟨rfl,rfl⟩)|(go_at_call 155;refine mV.o.mono ?_;rintro e w' ⟨rfl,rfl⟩))
 go_quiet ((go_at_call 192;exact Calls.quiet_of_same ((CS.o _).mono fun e w' h=>⟨h.1,h.2.symm⟩)))
 go_wp2
 go_ret2
 exact⟨rfl,Og Xp _⟩):p:=h
def Yx38{p:Prop} (h:p:=by
 rw[ZU (by simp[hj])]at HX;rw[Bool.not_eq_true]at hj;rw[hj];go_wp2_with (first|(go_at_call 78;refine(Pv 4 0 _).mono ?_;rintro e w5 ⟨⟨cs,rfl,O9⟩,Nu⟩;have PD:=Zh (Tr WB Nu);have JK:=(PD.o.block (w.heap.size+1) (ZY HZ.o)).trans HZ.o;have hi:=Px O9;have hold:=Pw O9;have Oz:=O9.one;have JO:=Zh O9;clear O9 Nu)|(with_reducible refine ZT 100 (.tmp 4) (.tmp 35) rfl ?_;refine VM rfl 100 (.tmp 4) (.tmp 35) rfl rfl (w.heap.size+1) cs.toArray rfl rfl 100 W_ JK hi hold Oz ?_))
 refine Vr (v:= .agg cs.toArray) ?_ rfl ?_
 ·exact results_cell_row Zr _ _ (w.heap.size+1) 100 cs.toArray (0,0) _ Zr (setRow_heap _ _ _ _ _ _ JK) underlying100 rfl hi
 exact Ur.o _ cs _ (Z0 (Tr Ri PD.o) (JV _) _) (JO.o.setRow JK _) HX.o):p:=h
def Yx40{p:Prop} (h:p:=by
 clear HS fB;go_wp2_with (first|(go_at_call 132;refine CG.o.mono ?_;rintro e w2 ⟨⟨tv,rfl,Sz⟩,PW,RD⟩;obtain⟨ta,tc,lh,-⟩:=id Sz;subst lh;have Ew:=Zh Sz;have Lb:=Zh PW;have TG:=Zh RD;have GG:=RD.size;clear PW RD Sz)|(at_builtin;refine YN rfl (.tmp 60) (.tmp 61) 98 rfl w Xt _ G1.length (G1.flatMap Z7) rfl ?b1 _ Y1.length (Y1.flatMap Z7) rfl ?b2 ?b3 ?b4 ?b5 ?b6 ?b7 (fun v' w3 HO HG=>?_)))
 case b1=>exact V_ Yd.o TG.o (fun k hk=>by omega)
 case b2=>exact Ew.o
 case b3=>exact Vo _
 case b4=>exact XT _
 case b5=>omega
 case b6=>omega
 case b7=>omega
 go_roundw
 case rel=>
  refine⟨j+1,Zo,Zn,by rw[HT.o,Pz.o],?_,?_,?_⟩
  ·exact(TN.o.trans (TG.o.mono T8 (fun _ _ h=>h))).grown HG.o Zo (YG Yd.o)
  ·rw[HT.o,Pz.o];exact ZQ.grown Lb.o (V_ Yd.o TG.o (fun k hk=>by omega)) HG.o hb Zd
  ·rw[HT.o,Pz.o];dsimp only;rw[UC,O7];exact HO.o
 case measure=>simp[intOf];omega):p:=h
def jx{p:Prop} (h:p:=by
 (try dsimp only)
 first|exact⟨dA.o.pk.QB 0,dA.o.pk.QB 1,dA.o.pk.Za⟩|exact⟨O5.o.pk.QB 0,O5.o.pk.QB 1,O5.o.pk.Za⟩|exact⟨TP.o.pk.QB 0,TP.o.pk.QB 1,TP.o.pk.Za⟩|exact⟨k0,k1,Ir.o.pk.Za⟩|exact sU.o _ (YE _ _).drew):p:=h
def dY{p:Prop} (h:p:=by
 go_wp2_with fail
 go_quiet (fail)
 have Yc:=Zh (below_drewN HB.o nq);have vQ:Hid ((wr.drewN nq).heap[w.heap.size]?=some (.cells (Qb p s b f) 59 (0,0))):=HZ.o;go_wp2_with fail
 go_roundw
 case rel=>exact⟨j+1,Zo,Zn,Yc.o,vQ.o,mY.o⟩
 case measure=>simp[intOf];omega):p:=h
def oI{p:Prop} (h:p:=by
 go_wp2_with (go_at_call 92;refine CT.o.mono ?_;rintro e w' ⟨rfl,rfl⟩)
 go_ret
 exact⟨rfl,rfl⟩):p:=h
def Yx44{p:Prop} (h:p:=by
 go_loop [8,23] (fun n i=>∃k:Nat,k≤s.length∧i = .int .i64 k∧n = .int .u64 (be (s.take k):Nat)) (fun _ i=>s.length-(intOf i).toNat)
 case atStart=>exact⟨0,Tv _,rfl,rfl⟩
 case round=>
  obtain⟨k,hk,rfl,rfl⟩:=hrel;by_cases hkq:k<s.length
  ·obtain⟨g,off,cap,e1,_,_,hc⟩:=Al (l:=s) U0.o Zo;cases e1;have d:=hc k Zo
   have HB:Hid (be (s.take (k+1))=be (s.take k)*256+s[k].toNat):=by
    show _=_;rw[List.take_succ_eq_append_getElem Zo,eD]
   have Ow:be (s.take k)<72057594037927936:=be_lt7 jq;have hor:=gh (be (s.take k)) s[k] Ow;have fx:=s[k].toNat_lt;clear hc;generalize s[k]=x at *;generalize be (s.take k)=m at *;go_wp2
   go_round
   case rel=>exact⟨k+1,Zo,Zn,by rw[HB.o];go_num⟩
   case measure=>simp[intOf];omega
  ·obtain rfl:k=s.length:=by omega
   go_wp2
   go_ret2
   exact⟨rfl,rfl⟩):p:=h
def Yx45{p:Prop} (h:p:=by
 have hc:=HC.o k Vz
 have HBAD:Hid (¬(2≤ss.getD k 0∧ss.getD k 0<3221225472)→Bb=5):=by
  intro h;rw[iN.o,ZU];rw[List.any_eq_true];refine⟨ss.getD k 0,?_,by generalize ss.getD k 0=z at h ⊢;simp;omega⟩;rw[QQ,U' Vz];exact O6 Vz
 generalize hy:ss.getD k 0=y at *;have HY:=Zh hy;clear hy;by_cases g1:y<2
 ·have HF:=Zh (HBAD.o Zo);go_wp2;go_ret;exact⟨dr HF.o.symm,Z' _ _⟩
 by_cases g2:3221225472≤y
 ·have HF:=Zh (HBAD.o Zo);go_wp2;go_ret;exact⟨dr HF.o.symm,Z' _ _⟩
 ·go_wp2
  go_round
  case rel=>exact⟨k+1,Zo,Zn,fun j hj=>by by_cases H7:j<k;exact N_.o j H7;rw[show j=k by omega,HY.o];omega⟩
  case measure=>simp[intOf];omega):p:=h
def oJ{p:Prop} (h:p:=by
 (try dsimp only)
 first|exact Zv.o _ (M9.o)|exact Zv.o _ gK.o|exact Zv.o _ iY.o|exact Zv.o _ HX6.o|exact Zv.o _ HX7.o|exact Zv.o _ HX8.o):p:=h
def Yx47{p:Prop} (h:p:=by
 have HC:Hid (Nl r=if 65≤r∧r≤90 then r-65+97 else r):=rfl;by_cases b1:65≤r
 ·by_cases b2:r≤90
  ·have HF:Hid (Nl r=r-65+97):=by show _=_;rw[HC.o,ZU ⟨b1,b2⟩]
   go_enter func178,ntmps178;go_wp2;go_ret;exact⟨YI HF.o.symm,rfl⟩
  ·have HF:Hid (Nl r=r):=by show _=_;rw[HC.o,Z3 Zo]
   go_enter func178,ntmps178;go_wp2;go_ret;exact⟨YI HF.o.symm,rfl⟩
 ·have HF:Hid (Nl r=r):=by show _=_;rw[HC.o,Z3 Zo]
  go_enter func178,ntmps178;go_wp2;go_ret
  exact⟨YI HF.o.symm,rfl⟩):p:=h
def Yx48{p:Prop} (h:p:=by
 have x1:w1.cell? ⟨w,1,none⟩=some (.int .i64 p):=VR 1;have x2:w1.cell? ⟨w,2,none⟩=some (.int .i64 n):=VR 2;have x3:w1.cell? ⟨w,3,none⟩=some (.int .i64 la):=VR 3;have x4:w1.cell? ⟨w,4,none⟩=some (.string (str nm)):=VR 4;have x5:w1.cell? ⟨w,5,none⟩=some (.slice sa ss.length sc):=VR 5;have x6:w1.cell? ⟨w,6,none⟩=some (.slice ba bl bc):=VR 6;clear YV VR;go_wp2_with (go_at_call 101;(with_reducible refine(C.o w1 (HR.o.below VA.o)).mono ?_);rintro e w2 ⟨⟨tv,rfl,Sz⟩,UG,Wb⟩)
 go_ret2
 exact U9 HF Sz UG ((Fr.Z8 _ VA.o).trans (Wb.mono Zo (fun _ _ h=>h)))):p:=h
def Yx49{p:Prop} (h:p:=by
 have h:=Z9 (w.alloc (.cells (Qa kd peer src ly nm sa sl sc ba bl bc) 32)) (.cells W_ 100);have e:(w.alloc (.cells (Qa kd peer src ly nm sa sl sc ba bl bc) 32)).heap.size=w.heap.size+1:=by show(w.heap.push _).size=_;rw[N9]
 rw[e]at h
 exact h):p:=h
def Yx50{p:Prop} (h:p:=by
 have k2:=cell_of HG.o.Y8 6;simp only[Ss,R_,Rw]at k2;have f2:=ZP HG.o.Y8 6;refine Go.Proofs.By.YY hK _ _ ?_ (fun _=>?_)
 ·first|exact k2|exact k1|exact k0
 clear hK K;try simp only[Go.Proofs.By.pt]
 refine YP 39 (h:=?_);refine YR 40 (h:=fun K hK=>?_);go_simp;refine Go.Proofs.By.Ye hK _ _ X6 ?_;clear hK K;try simp only[Go.Proofs.By.pt]
 refine Go.Proofs.By.Yt X6 ?_ _;refine QP ?_;go_wp2_with fail
 go_roundw
 case rel=>
  refine⟨i+1,pos+24,na,nq,Zo,by have:=Nb.o;omega,Zn,Zn,?_,?_⟩
  ·exact HG.o.set 6 (.slice na (i+1) nq)
  ·rw[Lc.o];exact I5 HO.o HG.o.Y8 Zd _ _
 case measure=>simp[intOf];omega):p:=h
def jy{p:Prop} (h:p:=by
 have G0:=Zh (La.o.below (below_drewN (YE _ _) nq));go_wp2_with fail
 go_meet;rw[Gu.o]
 exact G0.o):p:=h
def jz{p:Prop} (h:p:=by
 exact results_cell_row Zr _ _ (w.heap.size+1) 100 cs.toArray (0,0) _ Zr (setRow_heap _ _ _ _ _ _ JK) underlying100 rfl hi):p:=h
def Yx55{p:Prop} (h:p:=by
 exact Wa (p:=2) (u:=3) (v:=4) Zr _ _ w 173 X9 (0,0) _ Zr (setRow_heap _ _ _ _ _ _ TS) underlying173 rfl X6):p:=h
def Yx56{p:Prop} (h:p:=by
 exact Wa (p:=2) (u:=3) (v:=4) Zr _ _ w 173 X9 (0,0) _ Zr (setRow_heap _ _ _ _ _ _ TF) underlying173 rfl X6):p:=h
def Yx57{p:Prop} (h:p:=by
 clear hK K;try simp only[Go.Proofs.By.pt]
 refine wpAnyH_done X6 ?_ _;refine QP ?_;go_wp2_with fail
 go_roundw
 case rel=>exact⟨j+1,.slice na (G1++Y1).length nc,Zo,Zn,by rw[JO.o,Lc.o];have h8:=HDL8.o;simp only[UC]at h8 ⊢;exact h8⟩
 case measure=>simp[intOf];omega):p:=h
def Yx58{p:Prop} (h:p:=by
 clear hK K;try simp only[Go.Proofs.By.pt]
 refine wpAnyH_done X6 ?_ _;refine QP ?_;go_wp2_with fail
 go_roundw
 case rel=>exact⟨j+1,_,Zo,Zn,HP6.o,by rw[ny,Ng,List.map_cons,List.map_nil,qQ,BG.o,←HXS.o];exact Hf.o⟩
 case measure=>simp[intOf];omega):p:=h
def Yx59{p:Prop} (h:p:=by
 have hw:Region.wanted o (yielded ops a.tmps)=true:=by simp[Region.wanted,Lt]
 rw[ZU hw];obtain⟨z,Um,g_⟩:=E.info;obtain⟨i,hi,hz,RI,kx⟩:=info_parts Um;refine Go.wp_buildSlice t e 1 #[(0,x)] ho #[v] i z E.ht hi hz (by rw[RI];omega) (by rw[RI];omega) ?_ h;have hf:=Go.Great.fill_whole (s:=i.size) Zo [v] ((Array.range (1*i.size)).map (z.cells[· % z.cells.size]!)) (fun u hu=>by rw[K4]at hu;subst hu;rw[hv];show 1=_;omega) Zi;have e1:([v].flatMap fun v=>v.cells.toList).toArray=#[v]:=by simp[hv]
 rw[e1]at hf
 simpa[hx]using hf):p:=h
def jA{p:Prop} (h:p:=by
 have h2:=NS Zo hZ4 G' (HV.o w' h)
 rwa[show(b.drop 4).take (Z-4)=(b.drop 4).take (4*Lg) by rw[show Z-4=4*Lg by rw[HZ.o];omega]]at h2):p:=h
def dZ{p:Prop} (h:p:=by
 rcases decodeN_shape n b0 b1 b2 b3 with⟨c,e⟩|⟨c1,c2,c3,cv,e⟩|⟨c1,c2,c3,c4,cv,cs,e⟩|⟨c1,c2,c3,c4,c5,cv,cw,e⟩|e
 ·omega
 all_goals(rw[e];dsimp only;rw[hc _ Zo])):p:=h
def jB{p:Prop} (h:p:=by
 clear HW;go_enter func167,ntmps167;go_wp2;go_ret
 exact⟨XK HF.o.symm,rfl⟩):p:=h
def jC{p:Prop} (h:p:=by
 clear HF;go_enter func116,ntmps116;go_wp2;go_ret
 exact⟨by rw[HX.o];rfl,rfl⟩):p:=h
def Yx64{p:Prop} (h:p:=by
 clear Vc;go_enter func108,ntmps108;go_wp2_with (go_at_call 130;refine CO.o.mono ?_;rintro e w2 ⟨⟨n,l,rfl⟩,Y7⟩;have Ri:=Zh (Tr VA Y7);have TF:=(Y7.block w (ZY hz)).trans hz;have c0:=cell_of TF 0;simp only[Ss,R_]at c0;clear Y7 TF)
 go_ret2
 exact⟨⟨.slice none 0 0,by rw[HX.o];rfl,by rw[HX.o];exact Row.nil _ _⟩,by rw[HX.o];exact HR.o.below Ri.o,Fr.Z8 _ Ri.o⟩):p:=h
def Yx65{p:Prop} (h:p:=by
 go_enter func164,ntmps164;go_wp2;go_quiet (fail)
 go_wp2;go_ret
 exact⟨dr HF.o.symm,by repeat(first|exact YE _ _|refine below_drewN ?_ _|refine Below.drew ?_|refine Below.alloc ?_ Zi _)⟩):p:=h
def Yx68{p:Prop} (h:p:=by
 go_enter func126,ntmps126;go_wp2
 exact Vr (v:= .tuple (Qo (Qd 0 false false 0) 1)) (by simp[results,results126,go_sem]) rfl ⟨rfl,T6⟩):p:=h
def Yx70{p:Prop} (h:p:=by
 have hl:j<l.length:=(List.getElem?_eq_some_iff.1 hz).1;obtain⟨g,o,e,h2⟩:=UI Xu 6 (fun _=>rfl) h Zo
 exact⟨g,o,e,fun m v hm=>(h2 j z hz m (by have h:=(List.getElem?_eq_some_iff.1 hm).1;simpa[Xu]using h)).trans hm⟩):p:=h
def Yx71{p:Prop} (h:p:=by
 have C:=Zh (JS v L w hT h hL);clear hT h hL;go_enter func24,ntmps24;go_wp2_with (go_at_call 53;refine C.o.mono ?_;rintro e w2 ⟨k,g,b,ov,av,mv,lv,M,R,ep,rfl,-,Ty⟩;have Ab:=Zh Ty;have k1:w2.cell? ⟨k,1,none⟩=some av:=(Zc Ty.book.Y8 1 rfl);clear Ty)
 go_ret;refine⟨⟨av,rfl,?_⟩,Ab.o.Za⟩;have h:=Row.Z4 Ab.o.book.XR
 rwa[XF]at h):p:=h
def d_{p:Prop} (h:p:=by
 refine Go.Proofs.By.Ye hK _ _ X6 ?_;clear hK K;try simp only[Go.Proofs.By.pt]
 refine Go.Proofs.By.Yt X6 ?_ _;refine QP ?_;go_wp2_with fail
 go_meet;rw[Gu.o]
 exact aC.o.row _):p:=h
def ed{p:Prop} (h:p:=by
 go_enter func96,ntmps96;go_wp2;go_ret
 exact⟨dr HF.o.symm,Z' _ _⟩):p:=h
def Yx74{p:Prop} (h:p:=by
 obtain⟨a,c,rfl,-⟩:=id hv;clear hv h3;generalize XX b=X at *;go_enter func105,ntmps105;go_wp2_with fail
 go_ret2
 exact⟨⟨.nilIface,by rw[HX.o];rfl,by rw[HX.o];rfl⟩,YE _ _⟩):p:=h
def Yx75{p:Prop} (h:p:=by
 rintro e w1 ⟨rfl,rfl⟩;go_wp2_with fail
 refine Vr (v:= .tuple (Q4 (Ql 0 0 0 false) false)) (by simp[results,results83,go_sem]) rfl ⟨rfl,Z' _ _⟩):p:=h
def Yx76{p:Prop} (h:p:=by
 have HO:=Zh (HO.o.j3 wF.o EE.o);obtain⟨za,zc,hx⟩:∃a c,v30 = .slice a (qs.length+1) c:=by obtain⟨a,c,h⟩:=Row.form (Row.Z4 EE.o);exact⟨a,c,by rw[h,UC];rfl⟩
 subst hx;obtain⟨c5,c6,c7,-,-,-,-⟩:=HO.o.facts;have f5:=ZP HO.o.view 5;have f6:=ZP HO.o.view 6;have f7:=ZP HO.o.view 7;refine Go.Proofs.By.YY hK _ _ ?_ (fun hHeld23=>?_)
 ·exact HO.o.facts
 exact Yx8):p:=h
def Yx77{p:Prop} (h:p:=by
 have HO:=Zh (HO.o.j3 wF.o EE.o);obtain⟨za,zc,hx⟩:∃a c,v30 = .slice a (qs.length+1) c:=by obtain⟨a,c,h⟩:=Row.form (Row.Z4 EE.o);exact⟨a,c,by rw[h,UC];rfl⟩
 subst hx;obtain⟨c5,c6,c7,-,-,-,-⟩:=HO.o.facts;have f5:=ZP HO.o.view 5;have f6:=ZP HO.o.view 6;have f7:=ZP HO.o.view 7;refine Go.Proofs.By.YY hK _ _ ?_ (fun rK=>?_)
 ·exact HO.o.facts
 exact Yx8):p:=h
def Yx78{p:Prop} (h:p:=by
 have HO:=Zh (HO.o.j3 wF.o EE.o);obtain⟨za,zc,hx⟩:∃a c,v30 = .slice a (qs.length+1) c:=by obtain⟨a,c,h⟩:=Row.form (Row.Z4 EE.o);exact⟨a,c,by rw[h,UC];rfl⟩
 subst hx;obtain⟨c5,c6,c7,-,-,-,-⟩:=HO.o.facts;have f5:=ZP HO.o.view 5;have f6:=ZP HO.o.view 6;have f7:=ZP HO.o.view 7;refine Go.Proofs.By.YY hK _ _ ?_ (fun j6=>?_)
 ·exact HO.o.facts
 exact Yx8):p:=h
def ei{p:Prop} (h:p:=by
 go_wp2;go_roundw
 case rel=>exact⟨k+1,Zo,Zn,WO.alloc WO.size _,HF.o⟩
 case measure=>simp[intOf];omega):p:=h
def Yx80{p:Prop} (h:p:=by
 have vU:=XH f k hk l;obtain⟨g,off,cap,h1,h2,h3,h4,h5⟩:=h.open (by rw[vU];exact Nat.mul_pos hl cg);refine⟨g,off,cap,h1,h2,h3,h4,fun i x hx j hj=>?_⟩;have hi:i<l.length:=(List.getElem?_eq_some_iff.1 hx).1
 have Ow:i*k+j<l.length*k:=by
  have h6:(i+1)*k≤l.length*k:=Nat.mul_le_mul_right _ hi;rw[Nat.succ_mul]at h6;omega
 rw[Nat.add_assoc,h5 _ (by rw[vU];exact Ow)]
 exact Mg f k hk l i j x hx hj):p:=h
def ej{p:Prop} (h:p:=by
 clear HF;go_enter func61,ntmps61;go_wp2;go_ret
 exact⟨Kz HX.o.symm,rfl⟩):p:=h
def Yx83{p:Prop} (h:p:=by
 have Vc:Hid (X=(([],R),if Ul R peer md then 0 else 1)):=by show _=_;rw[GY.o];simp
 have CO:=Zh (n9 b R peer md _ JM.o pG AW);clear GY hI hS gT hR pG AW zK;generalize Ul R peer md=O at *;cases O with
 | false=>
  have HX:Hid (X=(([],R),1)):=by show _=_;rw[Vc.o];rfl
  exact Yx26
 | true=>
  have HX:Hid (X=(([],R),0)):=by show _=_;rw[Vc.o];rfl
  exact Yx26):p:=h
def Yx84{p:Prop} (h:p:=by
 rw[hn]at CN;clear hn h hR;go_enter func81,ntmps81;go_wp2_with fail
 refine(CN.o _).mono ?_;rintro e w1 ⟨rfl,rfl⟩;go_wp2_with fail
 refine Vr (v:= .tuple (Q4 (Qq 0 0 none 0 0 false) false)) (by simp[results,results81,go_sem]) rfl ⟨rfl,Z' _ _⟩):p:=h
def Yx85{p:Prop} (h:p:=by
 obtain⟨la,uo,rfl,hx⟩:=ZW;clear hx;have dg:Hid (L=[]):=BK h0;go_wp2_with fail
 go_loopw [7,22] (fun v i w'=>v = .slice none 0 0∧i = .int .i64 0∧w'=w1) (fun _ _ _=>0)
 case atStart=>exact⟨rfl,rfl,rfl⟩
 case round=>
  obtain⟨rfl,rfl,rfl⟩:=hrel;go_wp2;go_ret;rw[HM0.o,dg.o]
  exact⟨⟨_,rfl,Row.nil _ _⟩,Aa.o,Ip.o⟩):p:=h
def eo{p:Prop} (h:p:=by
 clear HW;go_enter func176,ntmps176;go_wp2;go_ret
 exact⟨XK HF.o.symm,rfl⟩):p:=h
def Yx89{p:Prop} (h:p:=by
 clear nr;go_enter func109,ntmps109;go_wp2_with (first|(go_at_call 111;refine(C1.o _).mono ?_;rintro e w1 ⟨rfl,rfl⟩)|(go_at_call 80;refine(CT.o _ (Z' _ _)).mono ?_;rintro e w1 ⟨rfl,rfl⟩))
 go_ret
 exact⟨dr HF.o.symm,Z' _ _⟩):p:=h
def Yx90{p:Prop} (h:p:=by
 refine Vr (v:= .agg (Qf ca cc cp cm)) ?_ rfl ?_
 ·exact results_cell_row Zr _ _ (w.heap.size+1) 202 (Qf ca cc cp cm) (0,0) _ Zr (setRow_heap _ _ _ _ _ _ zA) underlying202 rfl X6
 exact⟨by rw[Vc.o],Z0 JI.o.Za (JV _) _⟩):p:=h
def Yx92{p:Prop} (h:p:=by
 obtain⟨hl,h⟩:=h;refine⟨by rw[List.length_set];exact hl,?_⟩;rcases h with⟨_,h⟩|⟨g',cap',cur,hv,hg,hh,h1,h2,h3,h4⟩
 ·omega
 ·cases hv;refine WG ⟨g,cap,cur.setIfInBounds i u,rfl,hg,by simp[World.setCell,Array.getElem?_modify,hh],h1,h2,by rw[Array.size_setIfInBounds];exact h3,?_⟩
  rw[Array.toList_setIfInBounds,List.take_set,h4]):p:=h
def Yx93{p:Prop} (h:p:=by
 rw[List.set_append_right _ _ TY];rw[List.take_add_one,U' h];simp only[Te,SC,Option.toList,Ng,List.map_cons,List.map_nil,bF]
 congr 1
 rw[show k-min k l.length=0 by omega,List.drop_eq_getElem_cons h,List.set_cons_zero,QQ,U' h]
 rfl):p:=h
def Yx94{p:Prop} (h:p:=by
 obtain⟨rfl,rfl⟩:=h0 rfl;have:news=[]:=BK (by rw[hl,Nat.zero_mul]);subst this;refine wpList_append_own_none Lt s x t ho base e i size E.ht hi v n xs hs Yy hx (h v w ?_ ?_)
 ·show World.ownsRow _ _ _ _ _ _ _;rw[rC];exact Yy
 ·exact⟨rfl,rfl,rfl,Zq _,fun _ _ _=>rfl⟩):p:=h
def Yx96{p:Prop} (h:p:=by
 exact Wa (p:=2) (u:=3) (v:=4) Zr _ _ w 173 X9 (0,0) _ Zr (setRow_heap _ _ _ _ _ _ PF) underlying173 rfl X6):p:=h
def Yx97{p:Prop} (h:p:=by
 rw[pP];show _∈DataW.weights prog 32 (.agg (xs.map (·.1)));unfold DataW.weights;rw[underlying32];dsimp only;refine DataW.weights_mem_each (j:=4) (t:=9) (d:= .lit (.string s4.data.toList)) rfl ?_ _ (by simp[DataW.weights]);rw[List.getElem?_map,e4,gy4]
 rfl):p:=h
def Yx98{p:Prop} (h:p:=by
 have Vc:Hid (X=((XJ,0),1)):=by show _=_;rw[M9.o,ZU Zo]
 have dw:((Lg:Int)!=(R:Int))=true:=by rw[Rs];omega
 exact Yx1):p:=h
def Yx99{p:Prop} (h:p:=by
 have Vc:Hid (X=((XJ,0),1)):=by show _=_;rw[M9.o,ZU Zo]
 have dh:decide (15<(m:Int))=true:=WV Zo
 exact Yx1):p:=h
def aL{p:Prop} (h:p:=by
 go_enter func171,ntmps171;go_wp2_with (first|(go_at_call 155;refine CG.o.mono ?_;rintro e w' ⟨rfl,rfl⟩)|(go_at_call 182;refine HCZ.o.mono ?_;rintro e w' ⟨rfl,rfl⟩))
 go_ret2
 exact⟨rfl,rfl⟩):p:=h
def aM{p:Prop} (h:p:=by
 rw[gY]at fJ;clear ht gY;go_wp2_with (go_at_call 156;refine(CI.o _ (Z' _ _)).mono ?_;rintro e w1 ⟨rfl,rfl⟩)
 go_roundw
 case rel=>exact⟨k+1,Zo,Zn,WO.trans ((Z' _ _).mono WO.size),HF.o⟩
 case measure=>simp[intOf];omega):p:=h
def aN{p:Prop} (h:p:=by
 obtain⟨rfl,rfl⟩:=h0 rfl;have:news=[]:=BK (by rw[hl,Nat.zero_mul]);subst this;refine⟨v,w,run_append_owned_none (P:=P) (w:=w) base t ty e i size E.ht hi v n xs Yy,?_,⟨rfl,rfl,rfl,Zq _,fun _ _ _=>rfl⟩⟩
 rw[rC];exact Yy):p:=h
def js{p:Prop} (h:p:=by
 clear HX;go_enter func143,ntmps143;go_wp2_with fail
 go_ret
 exact⟨by rw[Vc.o];rfl,rfl⟩):p:=h
def aO{p:Prop} (h:p:=by
 clear hR;go_enter func110,ntmps110;go_wp2_with (go_at_call 140;refine(C.o _ tD).mono ?_;rintro e w1 ⟨⟨tv,rfl,Sz⟩,Xh,Wb⟩)
 go_ret
 exact SY HF Sz Xh tD Wb):p:=h
def aP{p:Prop} (h:p:=by
 by_cases hx:x0=n
 ·have HF:=Zh (HH.o (by rw[hx];simp));subst hx;go_wp2;go_ret;exact⟨dr HF.o.symm,WO.alloc WO.size _⟩
 ·have rO:(x0==n)=false:=by rw[Wz];exact hx
  have HF:=Zh (HM.o rO);clear hx
  exact ei):p:=h
def Yx108{p:Prop} (h:p:=by
 have hl:s.data.toList.length=s.size:=(Lib.size_eq s).symm;have h1:=(J2 s.data.toList k).1 Zo;refine⟨h1,?_,jR _ _ Zo,?_⟩
 ·rw[E5 _ _ Zo,decodeL_drop]
 ·rw[U' h1,rn_at _ _ h1,decodeL_drop]):p:=h
def Yx110{p:Prop} (h:p:=by
 have e:(w.alloc (.cells (Qa kd p n q (str nm) sa ss.length sc ba bl bc) 32)).heap.size=w.heap.size+1:=by show(w.heap.push _).size=_;rw[N9]
 rw[e]at h
 exact h):p:=h
def aQ{p:Prop} (h:p:=by
 go_roundw
 case rel=>exact⟨k+1,Zo,Zn,WO.trans (Y7.mono WO.size),Od T8 Y7.size,Hx,fun j hj=>by by_cases H7:j<k;exact N_.o j H7;rw[show j=k by omega];exact HF.o⟩
 case measure=>simp[intOf];omega):p:=h
def Yx112{p:Prop} (h:p:=by
 rw[show j/7*7+j%7=j by omega]at this;rw[this,←(hY (j/7) hi).1 (j%7) Zo];rw[JW ha];unfold Addr.add;split
 ·rename_i e;rw[show a.off+j=a.off+j/7*7 by omega]
 ·rw[show a.off+j=a.off+j/7*7+j%7 by omega]):p:=h
def aR{p:Prop} (h:p:=by
 obtain⟨g,off,cap,h1,h2,h3,h4,h5⟩:=h.open (by rw[VI];exact hl);refine⟨g,off,cap,h1,h2,h3,h4,fun j hj=>?_⟩;rw[h5 j (by rw[VI];exact hj),QQ,U' hj]
 simp[bd,hj]):p:=h
def jt{p:Prop} (h:p:=by
 have h3:=TN.o.trans (TG.o.mono Zo (fun _ _ h=>h))
 exact(h3.alloc Zo _).grown HG.o TY (YG Yd.o)):p:=h
def aS{p:Prop} (h:p:=by
 exfalso
 have WA:(XX b).1 ≠ .X4 l:=by
  unfold XX;split
  ·exact fun h=>by cases h
  split
  ·exact fun h=>by cases h
  split
  ·exact fun h=>by cases h
  split
  ·exact fun h=>by cases h
  ·exact fun h=>by cases h
 exact WA hv):p:=h
def aT{p:Prop} (h:p:=by
 show _=_;rw[iN.o,Z3];rw[List.any_eq_true];rintro⟨x,hx,Nv⟩;obtain⟨j,hj,rfl⟩:=List.getElem_of_mem hx;have:=N_.o j Zo;rw[QQ,U' hj]at this
 simp at Nv this;omega):p:=h
def aU{p:Prop} (h:p:=by
 intro wS Ud;(try dsimp only at Ud)
 refine(Xj 59 (.tmp 3) ?_ w 0 ?_ (Qb p sr b f) _ Ud.1 underlying59 rfl X6).trans ?_
 all_goals rfl):p:=h
def ju{p:Prop} (h:p:=by
 (try dsimp only)
 first|exact Zv.o _ H3.o.Y8 lF|exact Zv.o _ H2.o.Y8 TF|exact Zv.o _ H1d.o.Y8 hzd):p:=h
def jv{p:Prop} (h:p:=by
 go_quiet (fail)
 have Yc:=Zh (below_drewN HB.o nq);go_wp2_with fail
 go_ret
 exact⟨by rw[HX.o];rfl,Yc.o⟩):p:=h
def aV{p:Prop} (h:p:=by
 go_wp2;go_roundw
 case rel=>exact⟨k+1,Zo,Zn,TN.o.alloc T8 _,by rw[HF.o];exact Xr.o.below (Z' _ _),by rw[HF.o];exact Yd.o.alloc _⟩
 case measure=>simp[intOf];omega):p:=h
def aW{p:Prop} (h:p:=by
 have HF:Hid (Bb=0):=by
  show _=_;rw[HP4.o,Z3];rw[List.any_eq_true];rintro⟨j,hj,hj2⟩;rw[N_.o j (by simp at hj;omega)]at hj2;cases hj2
 go_wp2;go_ret
 exact⟨dr HF.o.symm,WO⟩):p:=h
def aX{p:Prop} (h:p:=by
 rw[show get (b.take (4+4*long b)) 4 4=get b 4 4 from AE (p:=4) (q:=4) Zo hb Zo Zo]
 exact Pn (b:=b) (m:=4*long b) (p:=0) (q:=4) Zo hb Zo Zo):p:=h
def aY{p:Prop} (h:p:=by
 rw[show get (b.take (4+4*long b)) 8 4=get b 8 4 from AE (p:=8) (q:=4) Zo hb Zo Zo]
 exact Pn (b:=b) (m:=4*long b) (p:=4) (q:=4) Zo hb Zo Zo):p:=h
def aZ{p:Prop} (h:p:=by
 obtain⟨cB,fx⟩:=hcut;obtain⟨va,vc,rfl,-,-⟩:=id cB;go_wp2;go_ret;rw[mZ.o]
 exact⟨⟨_,rfl,cB⟩,wN.o.below fx,ay.o.trans ((Fr.Z8 _ fx).mono Fx (fun _ _ h=>h))⟩):p:=h
def a_{p:Prop} (h:p:=by
 go_enter func83,ntmps83;go_wp2_with fail
 refine(CP.o _).mono ?_;rintro e w1 ⟨rfl,rfl⟩;go_wp2_with fail
 refine(CN.o _).mono ?_
 exact Yx75):p:=h
def bf{p:Prop} (h:p:=by
 have hkk:k=L.length:=by omega
 have hT:L.take k=L:=by rw[hkk,nv]
 rw[hT]at Yd;clear hT ZW;go_wp2;go_ret;rw[HM0.o]
 exact⟨⟨_,rfl,Row.Z4 Yd.o⟩,Xr.o,TN.o⟩):p:=h
def bh{p:Prop} (h:p:=by
 (try dsimp only)
 with_reducible first|exact SI.o _ (ZA (YE _ _).drew (Zq _) _)|exact SI.o _ (Z0 (ZA (YE _ _).drew (Zq _) _) (Zq _) _)):p:=h
def bj{p:Prop} (h:p:=by
 go_enter func171,ntmps171;go_wp2_with (go_at_call 155;refine CG.o.mono ?_;rintro e w' ⟨rfl,rfl⟩)
 go_ret2
 exact⟨rfl,rfl⟩):p:=h
def bn{p:Prop} (h:p:=by
 go_quiet ((go_at_call 115;exact Calls.quiet_of_same (CL.o _)))
 have Yc:=Zh (below_drewN HB.o nq);clear CL;go_wp2_with fail
 go_ret
 exact⟨by rw[HX.o];rfl,Yc.o⟩):p:=h
def bo{p:Prop} (h:p:=by
 clear ZW;go_enter func122,ntmps122;go_wp2;go_ret
 exact⟨dr HF.o.symm,Z' _ _⟩):p:=h
def bp{p:Prop} (h:p:=by
 clear HE DG;go_upto_region 9 with fail
 go_quiet (fail)
 go_wp2;go_roundw
 case rel=>exact⟨q,Zo,rfl,HE3.o,below_drewN R7.o _,below_drewN HBEL2.o _⟩
 case measure=>simp[intOf]):p:=h
def Yx136{p:Prop} (h:p:=by
 obtain⟨g,off,cap,h1,_,_,_,h5⟩:=uT Yr 2 (fun _=>rfl) Zo h hl
 exact⟨g,off,(slice_inj h1).1,fun i x hx=>⟨h5 i x hx 0 Zo,h5 i x hx 1 Zo⟩⟩):p:=h
def bq{p:Prop} (h:p:=by
 rw[←g2];show WS (WS (opens R) ⟨1,o.peer,o.source,o.ZC,0⟩) t2=_;unfold WS;rw[Z3 (show¬t2.kind=1 by omega),Z3 (show¬t2.kind=2 by omega),ZU rfl]
 rfl):p:=h
def br{p:Prop} (h:p:=by
 go_enter func160,ntmps160;go_wp2_with fail
 refine CO.o.mono ?_;rintro e w' ⟨rfl,rfl⟩;go_wp2_with fail
 go_ret3
 exact⟨rfl,rfl⟩):p:=h
def bt{p:Prop} (h:p:=by
 exact Vr (v:= .tuple (Qo (Qn 0 0 0) 2)) (by simp[results,results152,go_sem]) rfl ⟨rfl,Z' _ _⟩):p:=h
def bu{p:Prop} (h:p:=by
 exact Vr (v:= .tuple (Qo (Qn 0 0 0) 1)) (by simp[results,results152,go_sem]) rfl ⟨rfl,Z' _ _⟩):p:=h
def bw{p:Prop} (h:p:=by
 have hn:(i:Int)<n:=by omega
 have h0:(0:Int)≤i:=by omega
 simp[Instr.index,asIntOf,Sem.run_bind,run_underlying h w,h0,hi,part,fw,sizeOf,typeInfo,hq,cC,hy]):p:=h
def bz{p:Prop} (h:p:=by
 go_enter func141,ntmps141;go_wp2;go_ret
 exact⟨⟨_,rfl,by rw[HF.o];exact Row.nil _ _⟩,YE _ _⟩):p:=h
def bA{p:Prop} (h:p:=by
 rw[Z3 e]
 have:(decide (m=n)&&decide (q=p))=false:=by
  rw[JU];intro h;simp only[UN,Su]at h;exact e h
 rw[this];rfl):p:=h
def bB{p:Prop} (h:p:=by
 have hT:L.take k=L:=Ex Zo;rw[hT]at Yd;clear hT ZW;go_wp2;go_ret;rw[mX.o]
 exact⟨⟨_,rfl,Row.Z4 Yd.o⟩,Vb.o,TN.o⟩):p:=h
def bC{p:Prop} (h:p:=by
 refine⟨h.Za.setCell Zi _,?_,?_⟩
 ·have:=h.tG;simp[World.setCell,Array.getElem?_modify,this]
 ·have:=h.Y8
  simp[World.setCell,Array.getElem?_modify,this]):p:=h
def bD{p:Prop} (h:p:=by
 clear ZW;go_enter func134,ntmps134;go_wp2;go_ret
 exact⟨dr HF.o.symm,Z' _ _⟩):p:=h
end Go.Proofs
namespace Go.Proofs.By
section
open Go.Lib
def Db{l:List UInt8}(h:0<l.length):l≠[]:=List.length_pos_iff.1 h
def Bg:Nat→List UInt8→List (Nat×Nat)
 | 0,_=>[]
 | n+1,l=>if l=[]then[]else decodeL l :: Bg n (l.drop (decodeL l).2)
def rn(l:List UInt8):List (Nat×Nat):=Bg l.length l
def Dq:∀(n m:Nat) (l:List UInt8),l.length≤n→l.length≤m→Bg n l=Bg m l
 | 0,m,l,hn,_=>by
  have:l=[]:=BK Zo;subst this;cases m <;> simp[Bg]
 | n+1,0,l,_,hm=>by
  have:l=[]:=BK Zo;subst this;simp[Bg]
 | n+1,m+1,l,hn,hm=>by
  by_cases WA:l=[]
  ·simp[Bg,WA]
  ·have hw:=decodeL_width l;have hl:0<l.length:=List.length_pos_iff.2 WA;simp only[Bg,Z3 WA];rw[Dq n m _ (by rw[QG];omega) (by rw[QG];omega)]
def Bi:rn []=[]:=rfl
def QZ(l:List UInt8)(WA:l≠[]):rn l=decodeL l :: rn (l.drop (decodeL l).2):=by
 have hw:=decodeL_width l;have hl:0<l.length:=List.length_pos_iff.2 WA;unfold rn;obtain⟨n,hn⟩:∃n,l.length=n+1:=⟨l.length-1,Zo⟩;rw[hn,Bg,Z3 WA,Dq n _ _ (by rw[QG];omega) (Zq _)]
def LD{motive:List UInt8→Prop}(nil:motive [])(step:∀l,l≠[]→motive (l.drop (decodeL l).2)→motive l)(l:List UInt8):motive l:=by
 have key:∀n l,l.length≤n→motive l:=by
  intro n
  induction n with
  | zero=>intro l hl;have:l=[]:=BK Zo;subst this;exact nil
  | succ n ih=>
   intro l hl;by_cases WA:l=[]
   ·subst WA;exact nil
   ·have hw:=decodeL_width l;have hl:0<l.length:=List.length_pos_iff.2 WA;exact step l WA (ih _ (by rw[QG];omega))
 exact key _ l (Zq _)
def good(p:Nat×Nat):Bool:= !(p.1==65533&&p.2==1)
def GM(r:Nat):Bool:=decide (33≤r)&&(decide (r<127)||decide (159<r)) && !(r==65533)
def may(l:List UInt8):Bool:=(rn l).all (fun p=>GM p.1)&&decide (1≤(rn l).length)&&decide ((rn l).length≤8)
def runes(l:List UInt8):Int:=if(rn l).all good then((rn l).length:Int)else -1
def low(b:UInt8):UInt8:=if 65≤b.toNat∧b.toNat≤90 then b+32 else b
def key(l:List UInt8):List UInt8:=if may l then l.map low else[]
def N6(R:List (Nat×Nat)):Nat:=(R.map (·.2)).sum
def cutAt(l:List UInt8)(k:Nat):Nat:=N6 ((rn l).take k)
def lW{p:Nat×Nat}(h:GM p.1=true):good p=true:=by
 unfold GM at h;unfold good;simp at h ⊢;exact WQ h.2
def Cz{l:List UInt8}(h:may l=true):(rn l).all good=true:=by
 unfold may at h;simp only[UN]at h;exact List.all_eq_true.2 fun p hp=>lW (List.all_eq_true.1 h.1.1 p hp)
def qR:∀l,validD l=(rn l).all good:=by
 refine LD rfl ?_;intro l WA ih;rw[validD_step l WA,QZ l WA,List.all_cons,ih];unfold good;by_cases h:(decodeL l).1=65533∧(decodeL l).2=1
 ·simp[h]
 ·rw[Z3 h]
  have:((decodeL l).1==65533&&(decodeL l).2==1)=false:=by
   rw[JU];simpa using h
  simp[this]
def DB:∀l,N6 (rn l)=l.length:=by
 refine LD rfl ?_;intro l WA ih;have h1:=decodeL_le l WA;rw[QZ l WA];unfold N6 at *;rw[List.map_cons,List.sum_cons,ih,QG];omega
def zG(R:List (Nat×Nat))(k:Nat):N6 (R.take k)≤N6 R:=by
 unfold N6
 induction R generalizing k with
 | nil=>simp
 | cons a R ih=>cases k with
  | zero=>simp
  | succ k=>simp only[List.take_succ_cons,List.map_cons,List.sum_cons];have:=ih k;omega
def E4(l:List UInt8)(k:Nat):cutAt l k≤l.length:=by
 rw[←DB l];exact zG _ _
def tK(l:List UInt8):cutAt l 0=0:=rfl
def KF:∀l,(rn l).length≤l.length:=by
 refine LD (by simp[Bi]) ?_;intro l WA ih;have h1:=decodeL_le l WA;have h2:=decodeL_width l;rw[QZ l WA];rw[QG]at ih;simp;omega
def Bh:∀l,∀k,rn (l.drop (cutAt l k))=(rn l).drop k:=by
 refine LD (by intro k;simp[Bi]) ?_;intro l WA ih k;cases k with
 | zero=>simp[tK]
 | succ k=>
  have:=ih k;unfold cutAt at *;rw[QZ l WA,List.take_succ_cons,List.drop_succ_cons];unfold N6 at *;rw[List.map_cons,List.sum_cons,←this,List.drop_drop]
def E5(l:List UInt8)(k:Nat)(h:cutAt l k<l.length):cutAt l (k+1)=cutAt l k+(decodeL (l.drop (cutAt l k))).2:=by
 have WA:l.drop (cutAt l k)≠[]:=Db (by rw[QG];omega);have h1:=Bh l k;rw[QZ _ WA]at h1;unfold cutAt at *
 have hk:(rn l)[k]?=some (decodeL (l.drop (N6 ((rn l).take k)))):=by
  have:=congrArg (·[0]?) h1;simpa using this.symm
 rw[List.take_add_one,hk];unfold N6;simp
def oX(l:List UInt8)(k:Nat):cutAt l k=l.length↔(rn l).length≤k:=by
 constructor
 ·intro h;have h1:=Bh l k;rw[h,List.drop_length,Bi]at h1;have:=congrArg List.length h1;rw[QG]at this;simp at this;omega
 ·intro h;unfold cutAt;rw[Ex h,DB]
def J2(l:List UInt8)(k:Nat):cutAt l k<l.length↔k<(rn l).length:=by
 have h1:=oX l k;have h2:=E4 l k;omega
def jR(l:List UInt8)(k:Nat)(h:k≤(rn l).length):k≤cutAt l k:=by
 induction k with
 | zero=>exact Tv _
 | succ k ih=>
  have:=(J2 l k).2 Zo;have:=ih Zo;rw[E5 l k Sw];have:=decodeL_width (l.drop (cutAt l k));omega
def rn_at(l:List UInt8)(k:Nat)(h:k<(rn l).length):(rn l)[k]=decodeL (l.drop (cutAt l k)):=by
 have Ow:=(J2 l k).2 h;have WA:l.drop (cutAt l k)≠[]:=Db (by rw[QG];omega);have h1:=Bh l k;rw[QZ _ WA]at h1;have:=congrArg (·[0]?) h1;simp[U' h]at this;exact this.symm
def tM{p:Nat×Nat}(h:good p=false):p=(65533,1):=by
 unfold good at h;simp at h;exact Prod.ext h.1 h.2
def tL(l:List UInt8):(decodeL l).2≤4:=by
 rw[decodeL_N];rcases decodeN_shape l.length (l.getD 0 0).toNat (l.getD 1 0).toNat (l.getD 2 0).toNat (l.getD 3 0).toNat with⟨c,e⟩|⟨c1,c2,c3,cv,e⟩|⟨c1,c2,c3,c4,cv,cs,e⟩|⟨c1,c2,c3,c4,c5,cv,cw,e⟩|e
 all_goals(rw[e];dsimp only;omega)
def uw:∀l,l.length≤4*(rn l).length:=by
 refine LD (by simp[Bi]) ?_;intro l WA ih;have h1:=tL l;rw[QG]at ih;rw[QZ l WA,List.length_cons];omega
def rY{l:List UInt8}(h:may l=true):l.length≤32:=by
 have:=uw l;unfold may at h;simp at h;omega
def Tz(r:Nat):Nat:=if 65≤r∧r≤90 then r+32 else r
def QH(b:UInt8):(low b).toNat=Tz b.toNat:=by
 unfold low Tz;split
 ·rename_i h
  rw[UInt8.toNat_add];have:(32:UInt8).toNat=32:=rfl;rw[this];omega
 ·rfl
def J_(l:List UInt8)(i:Nat):((l.map low).getD i 0).toNat=Tz (l.getD i 0).toNat:=by
 rw[QQ,QQ,List.getElem?_map];cases l[i]? with
 | none=>rfl
 | some b=>exact QH b
def xH(n b0 b1 b2 b3:Nat):decodeN n (Tz b0) (Tz b1) (Tz b2) (Tz b3)=(Tz (decodeN n b0 b1 b2 b3).1,(decodeN n b0 b1 b2 b3).2):=by
 have hc:∀b,128≤b→Tz b=b:=by intro b h;unfold Tz;rw[Z3 Zo]
 have hl:∀b,b<128→Tz b<128:=by intro b h;unfold Tz;split <;> omega
 have h64:∀b,Tz b/64=2↔b/64=2:=by
  intro b;unfold Tz;split <;> omega
 by_cases h0:b0<128
 ·unfold decodeN;rw[ZU (hl _ h0),ZU h0]
 ·have e0:=hc b0 Zo;rw[e0];have h8:∀b,b/64=2→Tz b=b:=fun b h=>hc b Zo
  by_cases k1:b1/64=2
  ·rw[h8 b1 k1];by_cases k2:b2/64=2
   ·rw[h8 b2 k2];by_cases k3:b3/64=2
    ·rw[h8 b3 k3];exact dZ
    ·have k3':¬Tz b3/64=2:=fun h=>k3 ((h64 b3).1 h)
     have e3:decodeN n b0 b1 b2 (Tz b3)=decodeN n b0 b1 b2 b3:=by
      unfold decodeN;rw[Z3 h0,Z3 h0];simp only[k3,k3',and_false,if_false]
     rw[e3];exact dZ
   ·have k2':¬Tz b2/64=2:=fun h=>k2 ((h64 b2).1 h)
    have e3:decodeN n b0 b1 (Tz b2) (Tz b3)=decodeN n b0 b1 b2 b3:=by
     unfold decodeN;rw[Z3 h0,Z3 h0];simp only[k2,k2',and_false,false_and,if_false]
    rw[e3];exact dZ
  ·have k1':¬Tz b1/64=2:=fun h=>k1 ((h64 b1).1 h)
   have e3:decodeN n b0 (Tz b1) (Tz b2) (Tz b3)=decodeN n b0 b1 b2 b3:=by
    unfold decodeN;rw[Z3 h0,Z3 h0];simp only[k1,k1',and_false,false_and,if_false]
   rw[e3];exact dZ
def tN(l:List UInt8):decodeL (l.map low)=(Tz (decodeL l).1,(decodeL l).2):=by
 rw[decodeL_N,decodeL_N,Te,J_,J_,J_,J_,xH]
def rn_low:∀l,rn (l.map low)=(rn l).map fun p=>(Tz p.1,p.2):=by
 refine LD rfl ?_;intro l WA ih;rw[QZ _ (by simpa using WA),QZ l WA,List.map_cons,tN];dsimp only;rw[←List.map_drop,ih]
def gg(r:Nat):GM (Tz r)=GM r:=by
 unfold GM Tz;split
 ·rename_i h
  rw[Bool.eq_iff_iff];simp;omega
 ·rfl
def rZ(l:List UInt8):may (l.map low)=may l:=by
 unfold may;rw[rn_low,Te,List.all_map]
 congr 2
 apply List.all_congr rfl;intro p;exact gg _
def fZ(b:UInt8):low (low b)=low b:=by
 apply UInt8.toNat_inj.1;rw[QH,QH];unfold Tz;repeat' split
 all_goals omega
def lL(l:List UInt8)(h:may l=true):(key l).length=l.length∧may (key l)=true∧key (key l)=key l:=by
 have e:key l=l.map low:=by unfold key;rw[ZU h]
 rw[e];refine⟨Te _,by rw[rZ,h],?_⟩;unfold key;rw[ZU (by rw[rZ,h]),List.map_map]
 congr 1
 funext b;exact fZ b
def Nl(r:Int):Int:=if 65≤r∧r≤90 then r-65+97 else r
def DX(l:List UInt8)(WA:l≠[])(h:(decodeL l).1<128):∃b t,l=b :: t∧b.toNat<128∧decodeL l=(b.toNat,1):=by
 cases l with
 | nil=>exact absurd rfl WA
 | cons b t=>
  refine⟨b,t,rfl,?_⟩;have e0:(b :: t).getD 0 0=b:=rfl;rw[decodeL_N,e0]at h ⊢;rcases decodeN_shape (b :: t).length b.toNat ((b :: t).getD 1 0).toNat ((b :: t).getD 2 0).toNat ((b :: t).getD 3 0).toNat with⟨c,e⟩|⟨c1,c2,c3,cv,e⟩|⟨c1,c2,c3,c4,cv,cs,e⟩|⟨c1,c2,c3,c4,c5,cv,cw,e⟩|e
  ·exact⟨c,e⟩
  all_goals(rw[e]at h;dsimp only at h;omega)
def G7(r:Int)(h:128≤r):∀b∈encodeRune r,low b=b:=by
 intro b hb
 have:128≤b.toNat:=by
  unfold encodeRune at hb;obtain⟨z,hz,rfl⟩:=vS.1 hb;have h1:=encodeRuneZ_byte r z hz
  have h2:128≤z:=by
   unfold encodeRuneZ at hz
   repeat' split at hz
   all_goals simp at hz
   all_goals omega
  obtain⟨n,rfl⟩:=RV h1.1;simp;omega
 unfold low;rw[Z3 Zo]
def lQ:∀l,validD l=true→mapD Nl l=l.map low:=by
 refine LD (fun _=>rfl) ?_;intro l WA ih hv;rw[validD_step l WA]at hv;split at hv
 ·cases hv
 rename_i hg
 have ih:=ih hv;by_cases h:(decodeL l).1<128
 ·obtain⟨b,t,rfl,hb,hd⟩:=DX l WA h;rw[mapD_step _ _ WA,ih,hd];dsimp only[List.drop_succ_cons,List.drop_zero,List.map_cons];have h0:0≤Nl (b.toNat:Int):=by unfold Nl;split <;> omega
  rw[ZU h0]
  have:encodeRune (Nl (b.toNat:Int))=[low b]:=by
   have e2:Nl (b.toNat:Int)=((low b).toNat:Int):=by
    rw[QH];unfold Nl Tz;repeat' split
    all_goals omega
   have h3:(low b).toNat<128:=by rw[QH];unfold Tz;split <;> omega
   rw[e2];unfold encodeRune;rw[encodeRuneZ_one Zo Zo];simp
  rw[this];rfl
 ·have hf:Nl ((decodeL l).1:Int)=(decodeL l).1:=by unfold Nl;rw[Z3 Zo]
  rw[mapD_same Nl l WA hf hg,ih,←encode_decode l WA hg]
  conv=>rhs;rw[←List.take_append_drop (decodeL l).2 l,Ng,←encode_decode l WA hg]
  congr 1
  have:=G7 ((decodeL l).1:Int) Zo;exact(List.map_congr_left this).symm▸(List.map_id _).symm
end
structure Op where
 kind:Int
 peer:Int
 source:Int
 ZC:Int
 name:List UInt8
 ZG:List Int
structure Yz where
 kind:Int
 peer:Int
 source:Int
 ZC:Int
 Yi:Int
deriving DecidableEq
structure Src where
 there:Bool
 num:Int
 own:Int
 sv:Value
 ss:List Int
 ZJ:Bool
structure Sub where
 there:Bool
 ZV:Bool
 want:Int
structure Room where
 names:Nat→List UInt8
 src:Nat→Src
 sub:Nat→Nat→Sub
def TU:Src:=⟨false,0,0,.slice none 0 0,[],false⟩
def UW:Sub:=⟨false,false,0⟩
def empty:Room:=⟨fun _=>[],fun _=>TU,fun _ _=>UW⟩
def Room.setName(R:Room)(p:Nat)(s:List UInt8):Room:={R with names:=fun q=>if q=p then s else R.names q}
def Room.YW(R:Room)(n:Nat)(s:Src):Room:={R with src:=fun q=>if q=n then s else R.src q}
def Room.ZO(R:Room)(n p:Nat)(x:Sub):Room:={R with sub:=fun m q=>if m=n∧q=p then x else R.sub m q}
def Vv(n below:Int):Bool:=decide (1≤n)&&decide (n<below)
def Y5(R:Room)(p:Int):Bool:=Vv p 9 && !(R.names p.toNat).isEmpty
def index(l:List Int)(x:Int):Int:=match l.findIdx? (fun y=>y==x)with|some i=>i|none=> -1
def Ro(R:Room)(x:Int):Nat→Nat→Int×Int×Bool
 | 0,_=>(0,0,false)
 | k+1,n=>if(R.src n).there&&decide (0≤index (R.src n).ss x)then((n:Int),index (R.src n).ss x,true)else Ro R x k (n+1)
def of(R:Room)(x:Int):Int×Int×Bool:=Ro R x 9 0
def Ze(R:Room)(p n:Int):Bool:=Vv p 9&&Vv n 9&&(R.sub n.toNat p.toNat).there
def ZX(R:Room)(n:Int):List Nat:=(List.range 9).filter fun p=>Ze R p n
def ZC(R:Room)(o:Op):Int:=if o.ZC<0∨((R.src o.source.toNat).ss.length:Int)≤o.ZC then 5 else 0
def heard(R:Room)(o:Op):Int:=
 let x:=R.sub o.source.toNat o.peer.toNat
 if !x.there then 8
 else if o.kind=10∧x.ZV=true then 9
 else if o.kind=11∧x.ZV=false then 11
 else if o.kind≠12 then 0
 else if ZC R o≠0 then ZC R o
 else if x.want=o.ZC then 9 else 0
def about(R:Room)(o:Op):Int:=
 let s:=R.src o.source.toNat
 if o.kind=5∨o.kind=8∨o.kind=9 then
  (if s.own≠o.peer then 10 else if o.kind=8∧s.ZJ=true then 9 else if o.kind=9∧s.ZJ=false then 11 else 0)
 else if o.kind=6 then
  (if s.own=o.peer then 10 else if(R.sub o.source.toNat o.peer.toNat).there then 9 else ZC R o)
 else heard R o
def Vl(R:Room)(l:List Int)(i:Nat):Bool:=(of R (l.getD i 0)).2.2||(l.take i).contains (l.getD i 0)
def VE(R:Room)(o:Op):Int:=
 if o.ZG.length<1∨3<o.ZG.length then 5
 else if o.ZG.any (fun s=>decide (s<2)||decide (3221225472≤s))then 5
 else if(R.src o.source.toNat).there then 9
 else if(List.range o.ZG.length).any (Vl R o.ZG)then 9 else 0
def sameKey(R:Room)(o:Op)(n:Nat):Bool:= !(R.names n).isEmpty&&decide (key (R.names n)=key o.name)
def LX(R:Room)(o:Op):Int:=
 if Y5 R o.peer then 9
 else if !may o.name then 12
 else if(List.range 9).any (sameKey R o)then 9 else 0
def XQ(R:Room)(o:Op):Int:=
 if o.kind<2∨12<o.kind then 4
 else if !Vv o.peer 9 then 5
 else if o.kind=2 then LX R o
 else if !Y5 R o.peer then 8
 else if o.kind=3 then 0
 else if !Vv o.source 9 then 5
 else if o.kind=4 then VE R o
 else if !(R.src o.source.toNat).there then 8
 else about R o
def asks(R:Room)(p n:Nat):Yz:=⟨9,(R.src n).own,n,0,(R.src n).ss.getD (R.sub n p).want.toNat 0⟩
def waits(R:Room)(p n:Nat):List Yz:=if(R.sub n p).ZV||(R.src n).ZJ then[]else[asks R p n]
def Xe(n:Nat):List Nat→Room→List Yz×Room
 | [],R=>([],R)
 | p :: l,R=>let x:=Xe n l (R.ZO n p UW);(⟨3,p,n,0,0⟩ :: ⟨2,p,n,0,0⟩ :: x.1,x.2)
def gone(R:Room)(n:Nat):List Yz×Room:=
 let x:=Xe n (ZX R n) R
 (x.1,x.2.YW n TU)
def ZH(p:Nat)(R:Room):Nat→List Yz×Room
 | 0=>([],R)
 | k+1=>let x:=ZH p R k;if(x.2.sub k p).there then(x.1++[⟨2,p,k,0,0⟩],x.2.ZO k p UW)else x
def ZB(R0:Room)(p:Nat):Nat→List Yz×Room
 | 0=>([],R0)
 | k+1=>let x:=ZB R0 p k;if(R0.src k).there&&decide ((R0.src k).own=p)then(x.1++(gone x.2 k).1,(gone x.2 k).2)else x
def leave(R:Room)(p:Nat):List Yz×Room:=
 ((ZH p R 9).1++(ZB (ZH p R 9).2 p 9).1,(ZB (ZH p R 9).2 p 9).2.setName p [])
def begin(R:Room)(o:Op):List Yz×Room:=
 let n:=o.source.toNat;let p:=o.peer.toNat
 let R1:=R.ZO n p ⟨true,false,o.ZC⟩
 (⟨1,o.peer,o.source,o.ZC,0⟩ :: (if(R.src n).ZJ then[⟨6,o.peer,o.source,0,0⟩]else[asks R1 p n]),R1)
def YO(R:Room)(n:Nat)(on:Bool)(p:Nat):List Yz:=
 if on then[⟨6,p,n,0,0⟩]else⟨7,p,n,0,0⟩ :: waits R p n
def mute(R:Room)(n:Nat)(on:Bool):List Yz×Room:=
 let R1:=R.YW n {R.src n with ZJ:=on}
 ((ZX R1 n).flatMap (YO R1 n on),R1)
def turns(R:Room)(o:Op)(sv:Value):List Yz×Room:=
 let n:=o.source.toNat;let p:=o.peer.toNat;let x:=R.sub n p
 if o.kind=2 then([],R.setName p o.name)
 else if o.kind=3 then leave R p
 else if o.kind=4 then([],R.YW n ⟨true,o.source,o.peer,sv,o.ZG,false⟩)
 else if o.kind=5 then gone R n
 else if o.kind=6 then begin R o
 else if o.kind=7 then([⟨2,o.peer,o.source,0,0⟩],R.ZO n p UW)
 else if o.kind=8 then mute R n true
 else if o.kind=9 then mute R n false
 else if o.kind=10 then([⟨4,o.peer,o.source,0,0⟩],R.ZO n p {x with ZV:=true})
 else if o.kind=11 then let R1:=R.ZO n p {x with ZV:=false};(⟨5,o.peer,o.source,0,0⟩ :: waits R1 p n,R1)
 else if o.kind=12 then let R1:=R.ZO n p {x with want:=o.ZC};(⟨8,o.peer,o.source,o.ZC,0⟩ :: waits R1 p n,R1)
 else([],R)
def Wq(R:Room)(o:Op)(sv:Value):(List Yz×Room)×Int:=if XQ R o≠0 then(([],R),XQ R o)else(turns R o sv,0)
def YM(R:Room)(peer Yi:Int):(List Yz×Room)×Int:=
 if !(of R Yi).2.2 || !Y5 R peer||decide ((R.src (of R Yi).1.toNat).own≠peer)then(([],R),8)else(gone R (of R Yi).1.toNat,0)
structure Inv(R:Room):Prop where
 P7:R.names 0=[]∧(R.src 0).there=false
 YZ:∀n p,(R.sub n p).there=true→1≤n∧n<9∧1≤p∧p<9∧(R.src n).there=true∧R.names p≠[]∧(R.src n).own≠p∧0≤(R.sub n p).want∧(R.sub n p).want<(R.src n).ss.length
 YL:∀n,(R.src n).there=true→1≤n∧n<9∧(R.src n).num=n∧Y5 R (R.src n).own=true∧1≤(R.src n).ss.length∧(R.src n).ss.length≤3∧(R.src n).ss.Nodup∧∀x∈(R.src n).ss,2≤x∧x<3221225472
 apart:∀n m x,(R.src n).there=true→(R.src m).there=true→x∈(R.src n).ss→x∈(R.src m).ss→n=m
 nameAt:∀p,R.names p≠[]→p<9∧may (R.names p)=true
 keys:∀p q,R.names p≠[]→key (R.names p)=key (R.names q)→p=q
def Vy(R:Room)(n p:Nat)(x:Sub)(m q:Nat):(R.ZO n p x).sub m q=if m=n∧q=p then x else R.sub m q:=rfl
def Wf(R:Room)(n:Nat)(x:Src)(m:Nat):(R.YW n x).src m=if m=n then x else R.src m:=rfl
def XW(R:Room)(p:Nat)(s:List UInt8)(q:Nat):(R.setName p s).names q=if q=p then s else R.names q:=rfl
def Ke(n:Nat):∀l R,(Xe n l R).2.names=R.names
 | [],_=>rfl
 | p :: l,R=>Ke n l (R.ZO n p UW)
def Lm(n:Nat):∀l R,(Xe n l R).2.src=R.src
 | [],_=>rfl
 | p :: l,R=>Lm n l (R.ZO n p UW)
def Fi(n:Nat):∀l R m q,(Xe n l R).2.sub m q=if m=n∧q∈l then UW else R.sub m q
 | [],R,m,q=>by simp[Xe]
 | p :: l,R,m,q=>by
  show(Xe n l (R.ZO n p UW)).2.sub m q=_;rw[Fi n l,Vy];by_cases h1:m=n∧q∈l
  ·rw[ZU h1,ZU ⟨h1.1,List.mem_cons_of_mem _ h1.2⟩]
  ·rw[Z3 h1];by_cases h2:m=n∧q=p
   ·rw[ZU h2,ZU ⟨h2.1,by rw[h2.2];exact List.mem_cons_self⟩]
   ·rw[Z3 h2,Z3];rintro⟨a,b⟩;rcases K5.1 b with b|b
    ·exact h2 ⟨a,b⟩
    ·exact h1 ⟨a,b⟩
def A0{n:Nat}{k:Int}:Vv n k=true↔1≤n∧(n:Int)<k:=by unfold Vv;simp;omega
def Uw{R:Room}{p n:Nat}:Ze R p n=true↔1≤p∧p<9∧1≤n∧n<9∧(R.sub n p).there=true:=by
 unfold Ze;rw[UN,UN,A0,A0,Wi,Wi];exact⟨fun⟨⟨⟨a,b⟩,c,d⟩,e⟩=>⟨a,Zo,c,Zo,e⟩,fun⟨a,b,c,d,e⟩=>⟨⟨⟨a,Zo⟩,c,Zo⟩,e⟩⟩
def OE{R:Room}{n p:Nat}:p∈ZX R n↔1≤p∧p<9∧1≤n∧n<9∧(R.sub n p).there=true:=by
 unfold ZX;rw[Z1g,List.mem_range,Uw];exact⟨fun⟨_,h⟩=>h,fun h=>⟨h.2.1,h⟩⟩
def Inv.OE{R:Room}(hI:Inv R){n p:Nat}:p∈ZX R n↔(R.sub n p).there=true:=by
 rw[By.OE];constructor
 ·exact fun h=>h.2.2.2.2
 ·intro h;have:=hI.YZ n p h;exact⟨this.2.2.1,this.2.2.2.1,this.1,this.2.1,h⟩
def Fk(R:Room)(n:Nat):(gone R n).2.names=R.names:=Ke n _ _
def Ot(R:Room)(n m:Nat):(gone R n).2.src m=if m=n then TU else R.src m:=by
 show(((Xe n (ZX R n) R).2).YW n TU).src m=_;rw[Wf,Lm]
def xN(R:Room)(n m q:Nat):(gone R n).2.sub m q=if m=n∧q∈ZX R n then UW else R.sub m q:=Fi n _ _ m q
def Fl{R:Room}(hI:Inv R)(n m q:Nat):((gone R n).2.sub m q).there=true↔m≠n∧(R.sub m q).there=true:=by
 rw[xN];by_cases h:m=n
 ·subst h;by_cases h2:(R.sub m q).there=true
  ·rw[ZU ⟨rfl,hI.OE.2 h2⟩];simp[UW]
  ·rw[Z3 (fun h=>h2 (hI.OE.1 h.2))];simp[h2]
 ·rw[Z3 (fun e=>h e.1)];simp[h]
def eV(R:Room){n m:Nat}(h:m≠n)(q:Nat):(gone R n).2.sub m q=R.sub m q:=by rw[xN,Z3 (fun e=>h e.1)]
def Km{R R':Room}(h:R'.names=R.names)(p:Int):Y5 R' p=Y5 R p:=by unfold Y5;rw[h]
def FE{R:Room}{p:Nat}:Y5 R p=true↔1≤p∧p<9∧R.names p≠[]:=by
 unfold Y5;rw[UN,A0,Wi];have:(!(R.names p).isEmpty)=true↔R.names p≠[]:=by simp
 rw[this];exact⟨fun⟨⟨a,b⟩,c⟩=>⟨a,Zo,c⟩,fun⟨a,b,c⟩=>⟨⟨a,Zo⟩,c⟩⟩
def Fz{R:Room}(hI:Inv R)(n:Nat):Inv (gone R n).2:=by
 have hn:=Fk R n;refine⟨?_,?_,?_,?_,?_,?_⟩
 ·rw[hn,Ot];refine⟨hI.P7.1,?_⟩;split
  ·rfl
  ·exact hI.P7.2
 ·intro m q h;obtain⟨h1,h2⟩:=(Fl hI n m q).1 h;have:=hI.YZ m q h2;rw[eV R h1,Ot,Z3 h1,hn];exact this
 ·intro m h;rw[Ot]at h ⊢;by_cases h1:m=n
  ·rw[ZU h1]at h;cases h
  ·rw[Z3 h1]at h ⊢;rw[Km hn];exact hI.YL m h
 ·intro m k x h1 h2 h3 h4;rw[Ot]at h1 h2 h3 h4;by_cases hm:m=n
  ·rw[ZU hm]at h1;cases h1
  by_cases hk:k=n
  ·rw[ZU hk]at h2;cases h2
  rw[Z3 hm]at h1 h3;rw[Z3 hk]at h2 h4;exact hI.apart m k x h1 h2 h3 h4
 ·rw[hn];exact hI.nameAt
 ·rw[hn];exact hI.keys
def rV{R:Room}(hI:Inv R)(n p:Nat):Inv (R.ZO n p UW):=by
 refine⟨hI.P7,?_,hI.YL,hI.apart,hI.nameAt,hI.keys⟩;intro m q h;rw[Vy]at h ⊢;by_cases h1:m=n∧q=p
 ·rw[ZU h1]at h;cases h
 ·rw[Z3 h1]at h ⊢;exact hI.YZ m q h
def PX{R:Room}(hI:Inv R)(p:Nat):∀k,Inv (ZH p R k).2
 | 0=>hI
 | k+1=>by
  unfold ZH;dsimp only;split
  ·exact rV (PX hI p k) k p
  ·exact PX hI p k
def NG{R:Room}(hI:Inv R)(p:Nat):∀k,Inv (ZB R p k).2
 | 0=>hI
 | k+1=>by
  unfold ZB;dsimp only;split
  ·exact Fz (NG hI p k) k
  ·exact NG hI p k
def QU(R:Room)(p:Nat):∀k,(ZH p R k).2.names=R.names∧(ZH p R k).2.src=R.src
 | 0=>⟨rfl,rfl⟩
 | k+1=>by
  unfold ZH;dsimp only;split
  ·exact QU R p k
  ·exact QU R p k
def Kn(R:Room)(p:Nat):∀k m q,((ZH p R k).2.sub m q).there=((R.sub m q).there && !(decide (q=p)&&decide (m<k)))
 | 0,m,q=>by simp[ZH]
 | k+1,m,q=>by
  have ih:=Kn R p k;unfold ZH;dsimp only;by_cases ht:((ZH p R k).2.sub k p).there=true
  ·rw[ZU ht];dsimp only;rw[Vy];by_cases h:m=k∧q=p
   ·rw[ZU h,h.1,h.2];simp[UW]
   ·rw[Z3 h,ih];by_cases hq:q=p
    ·have:m≠k:=fun e=>h ⟨e,hq⟩
     simp[hq];by_cases hm:m<k
     ·simp[hm,Nat.lt_succ_of_lt hm]
     ·have:¬m<k+1:=by omega
      simp[hm,this]
    ·simp[hq]
  ·rw[Z3 ht,ih];by_cases hq:q=p
   ·by_cases hm:m=k
    ·subst hm;subst hq;rw[ih]at ht;simp at ht;simp[ht]
    ·simp[hq];by_cases kF:m<k
     ·simp[kF,Nat.lt_succ_of_lt kF]
     ·have:¬m<k+1:=by omega
      simp[kF,this]
   ·simp[hq]
def NM(R:Room)(p:Nat):∀k,(ZB R p k).2.names=R.names
 | 0=>rfl
 | k+1=>by
  unfold ZB;dsimp only;split
  ·dsimp only;rw[Fk];exact NM R p k
  ·exact NM R p k
def NN(R:Room)(p:Nat):∀k m,(ZB R p k).2.src m=if m<k∧(R.src m).there=true∧(R.src m).own=p then TU else R.src m
 | 0,m=>by simp[ZB]
 | k+1,m=>by
  have ih:=NN R p k m;unfold ZB;dsimp only;by_cases hc:((R.src k).there&&decide ((R.src k).own=p))=true
  ·rw[ZU hc];dsimp only;rw[Ot];rw[UN,Su]at hc;by_cases hm:m=k
   ·subst hm;rw[ZU rfl,ZU ⟨Zo,hc.1,hc.2⟩]
   ·rw[Z3 hm,ih];have:m<k+1↔m<k:=by omega
    simp only[this]
  ·rw[Z3 hc,ih];rw[UN,Su]at hc;by_cases hm:m=k
   ·subst hm;rw[Z3 Zo,Z3 (fun h=>hc ⟨h.2.1,h.2.2⟩)]
   ·have:m<k+1↔m<k:=by omega
    simp only[this]
def Ko{R:Room}(hI:Inv R)(p:Nat):∀k m q,((ZB R p k).2.sub m q).there=true↔(R.sub m q).there=true∧¬(m<k∧(R.src m).there=true∧(R.src m).own=p)
 | 0,m,q=>by simp[ZB]
 | k+1,m,q=>by
  have ih:=Ko hI p k m q;unfold ZB;dsimp only;by_cases hc:((R.src k).there&&decide ((R.src k).own=p))=true
  ·rw[ZU hc];dsimp only;rw[Fl (NG hI p k),ih];rw[UN,Su]at hc;by_cases hm:m=k
   ·subst hm;constructor
    ·rintro⟨h,_⟩;exact absurd rfl h
    ·rintro⟨_,h⟩;exact absurd ⟨Zo,hc⟩ h
   ·have:m<k+1↔m<k:=by omega
    rw[this];exact⟨fun h=>h.2,fun h=>⟨hm,h⟩⟩
  ·rw[Z3 hc,ih];rw[UN,Su]at hc;by_cases hm:m=k
   ·subst hm;constructor
    ·rintro⟨h,_⟩;exact⟨h,fun e=>hc e.2⟩
    ·rintro⟨h,_⟩;exact⟨h,fun e=>by omega⟩
   ·have:m<k+1↔m<k:=by omega
    rw[this]
def FH{l:List UInt8}(h:may l=true):key l≠[]:=by
 intro e;have h1:=(lL l h).1;rw[e]at h1;have:l=[]:=BK h1.symm;subst this;cases h
def uh{R:Room}(hI:Inv R)(p:Nat)(hs:∀m,(R.src m).there=true→(R.src m).own≠p)(hu:∀m,(R.sub m p).there=false):Inv (R.setName p []):=by
 refine⟨⟨?_,hI.P7.2⟩,?_,?_,hI.apart,?_,?_⟩
 ·rw[XW];split
  ·rfl
  ·exact hI.P7.1
 ·intro m q h;have h0:=hI.YZ m q h
  have hq:q≠p:=by
   rintro rfl;have h2:=hu m;have h3:(R.sub m q).there=true:=h;rw[h2]at h3;cases h3
  rw[XW,Z3 hq];exact h0
 ·intro m h;obtain⟨h1,h2,h3,h4,h5⟩:=hI.YL m h;refine⟨h1,h2,h3,?_,h5⟩;have ho:=hs m h;show Y5 (R.setName p []) (R.src m).own=true;unfold Y5 at h4 ⊢;rw[UN]at h4 ⊢;refine⟨h4.1,?_⟩;rw[XW,Z3]
  ·exact h4.2
  ·intro e;have:=h4.1;unfold Vv at this;simp at this;omega
 ·intro q h;rw[XW]at h ⊢;by_cases hq:q=p
  ·rw[ZU hq]at h;exact absurd rfl h
  ·rw[Z3 hq]at h ⊢;exact hI.nameAt q h
 ·intro q r h e;rw[XW]at h e;by_cases hq:q=p
  ·rw[ZU hq]at h;exact absurd rfl h
  rw[Z3 hq]at h e;rw[XW]at e;by_cases hr:r=p
  ·rw[ZU hr]at e;exact absurd e (FH (hI.nameAt q h).2)
  ·rw[Z3 hr]at e;exact hI.keys q r h e
def pS{R:Room}(hI:Inv R)(p:Nat):Inv (leave R p).2:=by
 have h1:=PX hI p 9;refine uh (NG h1 p 9) p ?_ ?_
 ·intro m h;rw[NN]at h ⊢;by_cases hc:m<9∧((ZH p R 9).2.src m).there=true∧((ZH p R 9).2.src m).own=p
  ·rw[ZU hc]at h;cases h
  ·rw[Z3 hc]at h ⊢;intro e;exact hc ⟨(h1.YL m h).2.1,h,e⟩
 ·intro m;rw[JU];intro h;have h2:=((Ko h1 p 9 m p).1 h).1;have h3:=h1.YZ m p h2;rw[Kn]at h2;simp at h2;omega
