/-
  Part 2 of the base of the proofs: a logic of our own over the calculus, the contracts of the functions
-/
import Derived.Test.YtginckjifacnhaaGreatPfA
set_option linter.unusedVariables false
namespace Go.FL
open Go Go.RowKit
section
variable {P:Program} {C:Cx} {X:Snap} {o:Oper} {ops:Array Oper} {Q:Exit→Env→Ab→Prop} {env env0 vals fin:Env} {H H':Ab} {a:Act} {w w':World} {I I':Nat→Prop} {μ μ':List Nat} {O O':Nat→Option Loc}
 {k:Nat} {l:List Oper} {v:AV} {t:Nat}
def DK (P:Program) (C:Cx) (ops:Array Oper) (H:Ab) (env0 vals:Env) (l:List Oper) (K:Env→Prop) : Prop:=∃ fin,DL P C ops H env0 vals l fin∧K fin
theorem AW.drawn {id:Nat} (m:Nat) (hm:P.follows .mixedOrders=true) (hok:JC ops m=true) (h:DK P C ops H env0 [] (ops.toList.take m) fun fin=>RL P C ops Q m (ops.toList.drop m) (fin++env0) H) : AW P C (.region id ops true) Q env0 H :=
 let ⟨_,h1,h2⟩:=h;.draws hm hok rfl h1 h2
theorem dv {K:Env→Prop} (hv:VOK P C o (Bq (o.looksAt ops) vals++env0) H v) (h:DK P C ops H env0 ((t,v)::vals) l K) (hd:o.dst=some t:=by rfl) (hg:grd ops (Bq (o.looksAt ops) vals++env0) o true=true:=by rfl) (h0:P0 (get env0 t)=true:=by rfl)
  (hn:(vals.map (·.1)).contains t=false:=by rfl) (hs:GW t v=true:=by rfl) (hr:CB (Bq (o.looksAt ops) vals++env0)=true:=by rfl) (ht:okT C.nt t:=by rfl):DK P C ops H env0 vals (o::l) K :=
 let ⟨fin,h1,h2⟩:=h;⟨fin,.run hd ht h0 hn hs hg hv hr h1,h2⟩
theorem dgf {K:Env→Prop} (h:DK P C ops H env0 ((t,.un)::vals) l K) (hg:grd ops (Bq (o.looksAt ops) vals++env0) o false=true:=by rfl) (hd:o.dst=some t:=by rfl) (h0:P0 (get env0 t)=true:=by rfl)
  (hn:(vals.map (·.1)).contains t=false:=by rfl) (hr:CB (Bq (o.looksAt ops) vals++env0)=true:=by rfl) (ht:okT C.nt t:=by rfl):DK P C ops H env0 vals (o::l) K :=
 let ⟨fin,h1,h2⟩:=h;⟨fin,.skip hd ht h0 hn hg hr (.inl rfl) h1,h2⟩
theorem Zq {K:Env→Prop} (h:DK P C ops H env0 ((t,.tup [])::vals) l K) (hg:grd ops (Bq (o.looksAt ops) vals++env0) o false=true:=by rfl) (hd:o.dst=some t:=by rfl) (h0:P0 (get env0 t)=true:=by rfl)
  (hn:(vals.map (·.1)).contains t=false:=by rfl) (hr:CB (Bq (o.looksAt ops) vals++env0)=true:=by rfl) (ht:okT C.nt t:=by rfl):DK P C ops H env0 vals (o::l) K :=
 let ⟨fin,h1,h2⟩:=h;⟨fin,.skip hd ht h0 hn hg hr (.inr rfl) h1,h2⟩
theorem dz {K:Env→Prop} (h:K vals) : DK P C ops H env0 vals [] K:=⟨vals,.nil vals,h⟩
theorem Ac {x:Operand} {d:DV} (ho:o.op=.move x:=by rfl) (hv:lk env x=.d d:=by rfl) : VOK P C o env H (.d d):=by
 obtain ⟨h1,h2⟩:=Ar hv (by simp)
 have:=JE (P:=P) (C:=C) (env:=env) (H:=H) (.inl ho) h1 (by rw [h2];rfl) (by rw [h2];rfl)
 rw [h2] at this;exact .pv this
theorem WY {x:Operand} {d:DV} (ho:o.op=.assign x:=by rfl) (hv:lk env x=.d d:=by rfl) : VOK P C o env H (.d d):=by
 obtain ⟨h1,h2⟩:=Ar hv (by simp)
 have:=JE (P:=P) (C:=C) (env:=env) (H:=H) (.inr ho) h1 (by rw [h2];rfl) (by rw [h2];rfl)
 rw [h2] at this;exact .pv this
theorem JJ {s:Nat} {e:TypeId} {xs:List DV} (ho:o.op=.move (.tmp s):=by rfl) (hv:get env s=.own e xs:=by rfl) : VOK P C o env H (.ref (.t s) 0 xs.length) :=
 .rel (by simp [ho]) fun X a w I μ O _ hs=>⟨a.tmps.getD s undef,by simp [execOp,ho,Act.eval],rfl,RefRel.self (p:=.t s) hs hv rfl⟩
theorem Ao {c x y:Operand} {b:Bool} {d:DV} (ho:o.op=.pick c x y:=by rfl) (hc:lk env c=.d (.b b):=by rfl) (hv:lk env (if b then x else y)=.d d:=by rfl) : VOK P C o env H (.d d):=by
 obtain ⟨h1,h2⟩:=Ar hv (by simp)
 obtain ⟨h3,h4⟩:=Ar hc (by simp)
 have:=XQ (P:=P) (C:=C) (env:=env) (H:=H) ho h3 h4 h1 (by rw [h2];rfl) (by rw [h2];rfl)
 rw [h2] at this;exact .pv this
theorem TX {op:BinOp} {xt yt:TypeId} {x y:Operand} {q q':IntKind} {m n:Int} {c:Prop} {d:DV} (hc:c) (ho:o.op=.binOp op xt x y yt:=by rfl)
  (hx:lk env x=.d (.i q m):=by rfl) (hy:lk env y=.d (.i q' n):=by rfl) (hb:NA op q m n=some (c,d):=by rfl) (hk:(decide (q'=q)||EF op)=true:=by rfl):VOK P C o env H (.d d):=by
 obtain ⟨h1,h2⟩:=Ar hx (by simp)
 obtain ⟨h3,h4⟩:=Ar hy (by simp)
 exact .pv (WZ ho h1 h3 h2 h4 (by simpa using hk) hb hc)
theorem vbi {op:BinOp} {xt yt:TypeId} {x y:Operand} {q q':IntKind} {m n:Int} {d:DV} (ho:o.op=.binOp op xt x y yt:=by rfl)
  (hx:lk env x=.d (.i q m):=by rfl) (hy:lk env y=.d (.i q' n):=by rfl) (hb:NA op q m n=some (True,d):=by rfl) (hk:(decide (q'=q)||EF op)=true:=by rfl):VOK P C o env H (.d d):=TX trivial ho hx hy hb hk
theorem R2 {op:BinOp} {xt yt:TypeId} {x y:Operand} {q q':IntKind} {m n:Int} {c:Prop} {d:DV} (d':DV) (hc:c∧d=d') (ho:o.op=.binOp op xt x y yt:=by rfl)
  (hx:lk env x=.d (.i q m):=by rfl) (hy:lk env y=.d (.i q' n):=by rfl) (hb:NA op q m n=some (c,d):=by rfl) (hk:(decide (q'=q)||EF op)=true:=by rfl):VOK P C o env H (.d d'):=by
 obtain ⟨hc,rfl⟩:=hc;exact TX hc ho hx hy hb hk
theorem vad {xt yt:TypeId} {x y:Operand} {q':IntKind} {m n:Int} (z:Int) (hz:m+n=z∧-9223372036854775808≤z∧z≤9223372036854775807) (ho:o.op=.binOp .add xt x y yt:=by rfl)
  (hx:lk env x=.d (.i .i64 m):=by rfl) (hy:lk env y=.d (.i q' n):=by rfl) (hk:q'=.i64:=by rfl):VOK P C o env H (.d (.i .i64 z)):=by
 obtain ⟨rfl,h1,h2⟩:=hz
 exact R2 (.i .i64 (m+n)) ⟨trivial,by rw [GO h1 h2]⟩ ho hx hy rfl (by simp [hk])
theorem vsu {xt yt:TypeId} {x y:Operand} {q':IntKind} {m n:Int} (z:Int) (hz:m-n=z∧-9223372036854775808≤z∧z≤9223372036854775807) (ho:o.op=.binOp .sub xt x y yt:=by rfl)
  (hx:lk env x=.d (.i .i64 m):=by rfl) (hy:lk env y=.d (.i q' n):=by rfl) (hk:q'=.i64:=by rfl):VOK P C o env H (.d (.i .i64 z)):=by
 obtain ⟨rfl,h1,h2⟩:=hz
 exact R2 (.i .i64 (m-n)) ⟨trivial,by rw [GO h1 h2]⟩ ho hx hy rfl (by simp [hk])
theorem ZU {op:BinOp} {xt yt:TypeId} {x y:Operand} {b c:Bool} (hop:op=.eql∨op=.neq) (hu:P.underlying xt=some .bool) (ho:o.op=.binOp op xt x y yt:=by rfl)
  (hx:lk env x=.d (.b b):=by rfl) (hy:lk env y=.d (.b c):=by rfl):VOK P C o env H (.d (.b (if op=.eql then b == c else b != c))):=by
 obtain ⟨h1,h2⟩:=Ar hx (by simp)
 obtain ⟨h3,h4⟩:=Ar hy (by simp)
 exact .pv (XE ho hop hu h1 h3 h2 h4)
theorem vnt {xt:TypeId} {x:Operand} {b:Bool} (ho:o.op=.unOp .not xt x:=by rfl) (hx:lk env x=.d (.b b):=by rfl) : VOK P C o env H (.d (.b (!b))):=by
 obtain ⟨h1,h2⟩:=Ar hx (by simp)
 exact .pv (ZQ ho h1 h2)
theorem vcv {src dst:Nat} {x:Operand} {q q1 q':IntKind} {n:Int} (hs:P.underlying src=some (.int q1)) (hd':P.underlying dst=some (.int q')) (ho:o.op=.convert src dst x:=by rfl) (hx:lk env x=.d (.i q n):=by rfl) :
  VOK P C o env H (.d (.i q' (q'.wrap n))):=.pv (Zc ho ⟨q1,hs⟩ hd' hx)
theorem VF {src dst:Nat} {x:Operand} {q q1 q':IntKind} {n:Int} (n':Int) (hn:q'.wrap n=n') (hs:P.underlying src=some (.int q1)) (hd':P.underlying dst=some (.int q')) (ho:o.op=.convert src dst x:=by rfl) (hx:lk env x=.d (.i q n):=by rfl) :
  VOK P C o env H (.d (.i q' n')):=by subst hn;exact vcv hs hd' ho hx
theorem vln {c:Call} {x:Operand} {ty:Nat} {xs:List DV} (hsz:∃ sz,∀ x∈xs,x.cells.length=sz) (hu:P.underlying ty=some (.slice (P.elem ty))) (ho:o.op=.call c:=by rfl) (hc:c.callee=.builtin .len:=by rfl) (hx:c.args=#[x]:=by rfl)
  (hty:c.argTypes=#[ty]:=by rfl) (hv:rd env H (lk env x)=some xs:=by rfl):VOK P C o env H (.d (.i .i64 xs.length)):=.pv (ZM ho hc hx hty hu hv hsz)
theorem Abp {c:Call} {r ty off len:Nat} {p:Pl} (hu:P.underlying ty=some (.slice (P.elem ty))) (ho:o.op=.call c:=by rfl) (hc:c.callee=.builtin .len:=by rfl) (hx:c.args=#[.tmp r]:=by rfl) (hty:c.argTypes=#[ty]:=by rfl)
  (hv:get env r=.ref p off len:=by rfl):VOK P C o env H (.d (.i .i64 len)):=.pv ⟨by simp [ho],fun X a w I μ O _ hs=>⟨_,S4 ho hc hx hty hu hv hs,.of_rep (.i _ _)⟩⟩
theorem QG {c:Call} {x:Operand} {ty:Nat} {s:ByteArray} (hu:P.underlying ty=some .string) (ho:o.op=.call c:=by rfl) (hc:c.callee=.builtin .len:=by rfl) (hx:c.args=#[x]:=by rfl)
  (hty:c.argTypes=#[ty]:=by rfl) (hv:lk env x=.d (.s s):=by rfl):VOK P C o env H (.d (.i .i64 s.size)):=.pv (Vl ho hc hx hty hu hv)
theorem vix {x i:Operand} {ty e sz by_:Nat} {xs:List DV} {q:IntKind} {z:Int} {d:DV} (n:Nat) (hn:z=n) (hx:xs[n]?=some d) (hsz:d.cells.length=sz) (hty:B3 P ty=some (e,sz,by_)) (ho:o.op=.indexAddr ty x i:=by rfl)
  (hv:lk env x=.d (.sl xs):=by rfl) (hi:lk env i=.d (.i q z):=by rfl):VOK P C o env H (.d (.ptr d.cells)):=by
 subst hn
 have hl:n<xs.length:=(lS.1 hx).1
 have hg':xs.getD (n:Int).toNat default=d:=by simp [List.getD_eq_getElem?_getD,hx]
 obtain ⟨h1,h2⟩:=Ar hv (by simp)
 obtain ⟨h3,h4⟩:=Ar hi (by simp)
 have:=UP (P:=P) (C:=C) (env:=env) (H:=H) ho h1 h3 hty h2 h4 (by omega) (by omega) (by rw [hg'];exact hsz)
 rw [hg'] at this;exact .pv this
theorem Al {x:Operand} {ty:Nat} {d:DV} {cs:List DV} (hag:BH P ty=some false) (ho:o.op=.load ty x:=by rfl) (hv:lk env x=.d (.ptr (d::cs)):=by rfl) : VOK P C o env H (.d d):=by
 obtain ⟨h1,h2⟩:=Ar hv (by simp)
 exact .pv (T5 ho h1 hag h2 (by simp))
theorem PT {s ty i j e:Nat} {p:Pl} {xs:List DV} (d:DV) (hx:∃ x,xs[i]?=some x∧x.cells[j]?=some d) (hag:BH P ty=some false) (ho:o.op=.load ty (.tmp s):=by rfl) (hv:get env s=.ep p i j:=by rfl) (hp:AB env H p=.own e xs:=by rfl) :
  VOK P C o env H (.d d):=by
 obtain ⟨x,hx,hj⟩:=hx
 have:=WE (P:=P) (C:=C) (env:=env) (H:=H) ho (by simp [AA]) hag hv hp
 simp only [List.getD_eq_getElem?_getD,hx,hj,Option.getD_some] at this
 exact .pv this
theorem vsl {x:Operand} {ty e sz by_:Nat} {lo hi mx:Option Operand} {xs:List DV} {zl zh zm:Int} (l' h':Nat) (hb:zl=l'∧zh=h'∧l'≤h'∧zh≤zm∧zm≤xs.length) (hsz:∀ x∈xs,x.cells.length=sz) (hty:B3 P ty=some (e,sz,by_))
  (ho:o.op=.slice ty x lo hi mx:=by rfl) (hv:lk env x=.d (.sl xs):=by rfl) (hl:D7 env 0 (lo.map C5)=some zl:=by rfl) (hh:D7 env xs.length (hi.map C5)=some zh:=by rfl) (hm:D7 env zh (mx.map C5)=some zm:=by rfl)
  (hfl:Cc lo (lo.map C5)=true:=by rfl) (hfh:Cc hi (hi.map C5)=true:=by rfl) (hfm:Cc mx (mx.map C5)=true:=by rfl) (hmh:(mx.isNone||hi.isSome)=true:=by rfl):VOK P C o env H (.d (.sl ((xs.drop l').take (h'-l')))):=by
 obtain ⟨rfl,rfl,h1,h2,h3⟩:=hb
 obtain ⟨k1,k2⟩:=Ar hv (by simp)
 have:=Vs (P:=P) (C:=C) (env:=env) (H:=H) ho k1 hfl hfh hfm hty k2 hl hh hm (by cases mx<;>cases hi<;>simp at hmh ⊢) (by omega) (by omega) h2 h3 hsz
 simp only [Int.toNat_natCast] at this
 exact .pv this
theorem vmx {c:Call} {x y:Operand} {q q':IntKind} {m n:Int} (ho:o.op=.call c:=by rfl) (hc:c.callee=.builtin .max:=by rfl) (hx:c.args=#[x,y]:=by rfl) (hxv:lk env x=.d (.i q m):=by rfl) (hyv:lk env y=.d (.i q' n):=by rfl) :
  VOK P C o env H (.d (.i q (if m<n then n else m))):=.pv (YX ho hc hx hxv hyv)
theorem LR {r:Nat} {i:Operand} {ty e sz by_ off len:Nat} {p:Pl} {xs:List DV} {q:IntKind} {z:Int} (n:Nat) (hn:z=n) (hl:n<len) (hty:B3 P ty=some (e,sz,by_)) (hz:0<sz) (ho:o.op=.indexAddr ty (.tmp r) i:=by rfl)
  (hv:get env r=.ref p off len:=by rfl) (hp:AB env H p=.own e xs:=by rfl) (hi:lk env i=.d (.i q z):=by rfl):VOK P C o env H (.ep p (off+n) 0):=by
 subst hn
 obtain ⟨k3,k4⟩:=Ar hi (by simp)
 refine .rel (by simp [ho]) fun X a w I μ O _ hs=>?_
 obtain ⟨inf,s1,s2,s3,_,s5⟩:=C9 hty
 have hni:=hs.look_i k3 k4
 have hrr:=hs.envr r
 rw [hv] at hrr
 obtain ⟨e',ys,A,m,c,g1,g2,g3,g4⟩:=hrr
 rw [hp] at g1;cases g1
 obtain ⟨v0,bs,f1,f2,_,_⟩:=hs.at_place hp
 rw [g2] at f1;cases f1
 obtain ⟨c1,c2,c3⟩:=DX f2
 obtain ⟨b,rfl⟩:=c3 (by omega)
 obtain ⟨A',c',q1,q2,q3,q4⟩:=g4
 have hA:(some (⟨b,0,none⟩:Addr)).map (·.add (off * Av P e))=some ⟨b,off * Av P e,none⟩:=by simp [CX]
 rw [q4 (by omega),hA] at q1
 have hc1:(n:Int)<(len:Int):=by omega
 refine ⟨.pointer (some ⟨b,(off+n) * Av P e+0,none⟩),?_,rfl,e,xs,b,m,c,hp,g2,by omega,by omega,rfl⟩
 have he:a.eval (.tmp r)=.slice (some ⟨b,off * Av P e,none⟩) len c':=q1
 simp [execOp,ho,he,hni,Instr.indexAt,asIntOf,run_underlying s1,hl,DR s2,s3,CX,Nat.add_mul,s5]
theorem vcl {c:Call} {fo:Operand} {f:Nat} {first xs caps:List DV} {r:AV} (hfn:Fn P f (first++xs++caps) r) (hcall:∀ args w,(callFunc f args).run P w=.ok (.enter f args) w) (ho:o.op=.call c:=by rfl) (hc:c.callee=.value fo:=by rfl)
  (hfo:lk env fo=.d (.fn f first caps):=by rfl) (ha:argsD env c.args.toList=some xs:=by rfl) (hr:AI r=false:=by rfl):VOK P C o env H r:=by
 intro X a w I μ O next Q h1 h2 h3 hs hn
 have hfr:=hs.deep (x:=fo) (v:=.fn f first caps) (by rw [hfo];rfl)
 generalize hev:a.eval fo=u at hfr
 cases hfr with
 | fn _ _ _ fs cs hfs hcs =>
  refine ⟨fun _ _=>trivial,?_⟩
  have hres:=CG (P:=P) (w:=w) (ρ:=a.eval) (ty:=o.type) hc hev
  have hex:(execOp a.eval o).run P w=.ok (.enter f (fs.toArray++c.args.map a.eval++cs.toArray)) w:=by
   simp only [execOp,ho,Sem.run_bind,hres,Result.andThen_ok,invoke,hcall]
  rw [Oper.semAt_eq _ _ _ (by simp [ho]),hex,Oper.uponIn_enter]
  refine ⟨fun h=>(by simp [om] at h),?_⟩
  have hcl:=hfn w I _ hs.ilt ((hfs.append (hs.argsD ha)).append hcs)
  have e:(fs++c.args.toList.map a.eval++cs).toArray=fs.toArray++c.args.map a.eval++cs.toArray:=by
   apply Array.ext';simp
  rw [e] at hcl
  refine ⟨trivial,fun csF hroom=>?_⟩
  obtain ⟨e,w',fr,⟨v,I',bs,rfl,q1,q2,q3,q4,q5,q6⟩,s,x⟩:=hcl.2 csF (room_wide _)
  exact ⟨.returned v,w',fr,hn v w' I' bs q1 q2 q3 (Tv (q4.keep (fun _ h=>h) (fun _ _=>rfl) (fun i b h=>by simp at h) fun _ _=>rfl) hr) q5 q6,s,x⟩
theorem GN {ty e sz by_ len:Nat} {z:Value} {parts:Array (Nat×Operand)} {xs:List Operand} {ds:List DV} (hsz:∀ d∈ds,d.flat=true∧d.cells.length=sz) (hT:Cb P ty=some (e,sz,by_,z))
  (ho:o.op=.buildSlice ty len parts:=by rfl) (hp:Im 0 parts.toList=some xs:=by rfl) (hlen:xs.length=len:=by rfl) (ha:argsD env xs=some ds:=by rfl) (hsmall:len * sz≤16777216:=by decide):VOK P C o env H (.own e ds):=by
 intro X a w I μ O next Q h1 h2 h3 hs hn
 obtain ⟨i,i1,i2,i3,i4,i5,i6,i7,i8⟩:=CL hT
 have hr:=hs.argsD ha
 obtain ⟨k1,k2⟩:=S9 hr hsz
 have hdl:ds.length=len:=by rw [hr.length];simpa using hlen
 have hm:ds.length≤maxLen:=by
  rw [hdl]
  have:len≤16777216:=nT (Nat.le_mul_of_pos_right _ i7) hsmall
  simp only [maxLen];omega
 have hl:(xs.map a.eval).length=len:=by simpa using hlen
 have hrun:=FC (P:=P) (w:=w) hT (vs:=xs.map a.eval) (by rw [hl];exact hsmall) k2
 have hparts:parts.map (fun (x:Nat×Operand)=>(x.1,a.eval x.2))=(((xs.map a.eval).zipIdx 0).map fun x=>(x.2,x.1)).toArray:=by
  apply Array.ext'
  rw [Array.toList_map,LJ hp]
  simp [List.zipIdx_map]
 have hex:(execOp a.eval o).run P w=.ok (.value (.slice (some ⟨w.heap.size,0,none⟩) ds.length ds.length)) (w.alloc (.cells ((xs.map a.eval).flatMap (·.cells.toList)).toArray e)):=by
  simp only [execOp,ho,Sem.run_bind]
  rw [show (parts.map fun x=>match x with|(i,x)=>(i,a.eval x))=parts.map (fun (x:Nat×Operand)=>(x.1,a.eval x.2)) from rfl,hparts,hdl,← hl,hrun]
  simp only [Result.andThen_ok,Sem.run_pure]
 refine ⟨fun _ _=>trivial,?_⟩
 rw [Oper.semAt_eq _ _ _ (by simp [ho]),hex,Oper.uponIn_value]
 have hbel:Below w.heap.size w (w.alloc (.cells ((xs.map a.eval).flatMap (·.cells.toList)).toArray e)):=(Below.refl _ _).alloc (Nat.le_refl _) _
 have hl2:((xs.map a.eval).flatMap (·.cells.toList)).toArray.size=ds.length * Av P e:=by rw [i8];simpa using k1.length
 have hbs:∀ b∈Bv (.slice (some ⟨w.heap.size,0,none⟩) ds.length ds.length),b=w.heap.size:=fun b hb=>by
  simp only [Bv] at hb
  split at hb<;>simp at hb
  exact hb
 refine hn _ _ I (Bv (.slice (some ⟨w.heap.size,0,none⟩) ds.length ds.length)) hbel (fun _ h=>h) (fun b hi=>⟨by have:=hs.ilt b hi;simp;omega,fun _=>hi⟩) ?_ (GD _) fun b hb=>?_
 ·have:=ARep.own (P:=P) (μ:=μ) (I:=I) e ds (.slice (some ⟨w.heap.size,0,none⟩) ds.length ds.length) ((xs.map a.eval).flatMap (·.cells.toList)).toArray.toList (by omega)
   (.of <| World.ownsRow_lit w _ ds.length (base:=0) (e:=e) (Nat.zero_le _) hm hl2) (by
    rw [i8];simpa using k1.keep (fun b hi=>hbel.block b (hs.ilt b hi)) fun _ h=>h)
  exact this
 ·rw [hbs b hb]
  exact ⟨Nat.le_refl _,by simp,fun hi=>by have:=hs.ilt _ hi;omega⟩
end
end Go.FL
namespace Go.FL
open Go Go.RowKit Go.ChangeShapes Go.WideShapes Go.ChangeAt
section
variable {H:Type} {enc:TypeId×Value→H} {P:Program} {W W':World}
theorem NG (hl:laidOutB P=true) (hb:Below W.heap.size W W') {sp:Nat→Bool} : ∀ {ts:List TypeId} {vs:List Value} {ds:List (DataW H)} {ps:List MemPlace},(∀ t∈ts,P.readableRec t=true∧t<P.types.size) →
  DataW.TrodAll enc P W 0 (fun _=>true) true ts vs ds ps→(∀ x∈ps,x.block<W.heap.size)→(∀ x∈ps,sp x.block=true)→DataW.TrodAll enc P W' 0 sp true ts vs ds ps:=by
 intro ts
 induction ts with
 | nil =>
  intro vs ds ps _ h _ _
  obtain ⟨rfl,rfl,rfl⟩:=trodAll_nil h
  exact trodAll_mk0
 | cons t ts ih =>
  intro vs ds ps ht h hlt hsp
  obtain ⟨v,vs',d,ds',p,q,rfl,rfl,rfl,h1,h2⟩:=trodAll_cons h
  obtain ⟨hr,hrow⟩:=ht t (by simp)
  exact trodAll_cons_mk (WideElems.Trod_stays hl hr hrow h1 (fun x hx=>hb.same (hlt x (by simp [hx]))) fun x hx=>hsp x (by simp [hx]))
   (ih (fun t' ht'=>ht t' (by simp [ht'])) h2 (fun x hx=>hlt x (by simp [hx])) fun x hx=>hsp x (by simp [hx]))
theorem Wx {f:Func} {s:ChangeSpec} {args:Array Value} {ds gs:List (DataW H)} {before:List MemPlace} {t:TypeId} (hW:DataW.Whole enc P f.params.toList s.vars false W args.toList ds gs before) (hv:s.vars=[])
  (hs:gs=[]→s.fn H (ds++gs)={results:=[.lit (.bool true)],args:=ds}) (hr:f.resultTypes=#[t]) (ht:P.underlying t=some .bool) (hl:laidOutB P=true) (hts:∀ t∈f.params.toList,P.readableRec t=true∧t<P.types.size) (hb:Below W.heap.size W W') :
  s.post enc P f false true false false W args (.bool true) W':=by
 have hold:∀ p∈before,p.block<W.heap.size:=hW.lt
 have hW0:=hW
 obtain ⟨p,q,hA,hV,rfl,hfz,_⟩:=hW
 rw [hv] at hV
 obtain ⟨rfl,rfl⟩:=trodVars_none hV
 have hs:=hs rfl
 have hbo:(fun b=>decide (b<W.heap.size))=(fun b=>decide (b<W.heap.size)):=rfl
 refine ⟨ds,[],p++[],[],p,[],hW0,?_,?_,?_,hb.frame _,fun h=>(by cases h)⟩
 ·rw [hs,hr]
  exact trodAll_cons_mk (shut_bool ht true) trodAll_mk0
 ·rw [hs]
  exact NG hl hb hts hA (fun x hx=>hold x (by simp [hx])) fun x hx=>by simpa using hold x (by simp [hx])
 ·rw [hs,hv];rfl
theorem Ut {f:FuncId} {dvs:List DV} {vs:List Value} (h:Fn P f dvs (.d (.b true))) (hr:RepAll W (fun b=>b<W.heap.size) dvs vs) :
  Calls P f vs.toArray W fun e W'=>e=.returned (.bool true)∧Below W.heap.size W W':=by
 have:=h W _ vs (fun b hb=>hb) hr
 refine CallsIn.calls (this.mono fun e w' ⟨v,I',bs,h1,h2,_,_,h5,_⟩=>⟨?_,h2⟩) room_wide
 cases h5 with
 | d h5=>cases h5;exact h1
end
end Go.FL
namespace Go.FL
open Go Go.RowKit
def FnG (P:Program) (f:FuncId) (args:List AV) (H:Ab) (r:AV) (args':List AV) (H':Ab) : Prop :=
 ∀ (X:Snap) (w:World) (I:Nat→Prop) (μ:List Nat) (O:Nat→Option Loc) (vs:List Value) (bs:List Nat),X.w=w→X.I=I→X.n0=0→X.ne=H.length→X.μ=μ→Mem P X H w I μ O→ARepAll P w I μ args vs bs→bs.Nodup→(∀ b∈bs,O b=some .r) →
  CallsIn (om none) 0 P f vs.toArray w fun e w'=>∃ v I' μ' O' G rs bs',e=.returned v∧Mem P X (H'++G) w' I' μ' O'∧ARep P w' I' μ' r v rs∧ARepAll P w' I' μ' args' (vs.take args'.length) bs'∧(rs++bs').Nodup∧∀ b∈rs++bs',∃ n,O' b=some (.t n)
def Qz : Nat→List AV→Env→Env
 | _,[],e=>e
 | k,a::r,e=>Qz (k+1) r ((k,a)::e)
section
variable {P:Program} {C:Cx} {X:Snap} {o:Oper} {ops:Array Oper} {Q:Exit→Env→Ab→Prop} {env env':Env} {H H':Ab} {a:Act} {w w':World} {I I':Nat→Prop} {μ μ':List Nat} {O O':Nat→Option Loc}
 {K:Env→Ab→Prop} {k:Nat} {l:List Oper}
theorem Mem.cast {Y:Snap} (h:Mem P X H w I μ O) (e1:Y.w=X.w) (e2:Y.I=X.I) (e3:Y.K=X.K) (e4:Y.n0=X.n0) (e5:Y.ne=X.ne) (e6:Y.μ=X.μ) : Mem P Y H w I μ O:=by
 cases X;cases Y;simp only at e1 e2 e3 e4 e5 e6
 subst e1 e2 e3 e4 e5 e6
 exact ⟨h.prot,h.kO,h.kI,h.mono,h.os,h.tape,h.output,h.size,h.own,h.ilt,h.μlen,h.μpre,h.nle,h.heap,h.klt,h.n0le⟩
theorem Mem.lab (h:Mem P X H w I μ O) (hlt:∀ b l,O' b=some l→b<w.heap.size∧¬I b) (hK:∀ b,X.K b→O' b=none) (ho:∀ b id,O b=some (.o id)→O' b=some (.o id)) : Mem P X H w I μ O' where
 prot:=h.prot
 kO:=hK
 kI:=h.kI
 mono:=h.mono
 os:=h.os
 tape:=h.tape
 output:=h.output
 size:=h.size
 own:=hlt
 ilt:=h.ilt
 μlen:=h.μlen
 μpre:=h.μpre
 nle:=h.nle
 heap id o' ho':=by
  obtain ⟨blk,bs,h1,h2,h3,h4⟩:=h.heap id o' ho'
  exact ⟨blk,bs,h1,h2,fun hn=>⟨(h3 hn).1,fun b hb=>ho b id ((h3 hn).2 b hb)⟩,h4⟩
 klt:=h.klt
 n0le:=h.n0le
theorem Sim.adopt (hs:Sim P X env H a w I μ O) {t:Nat} {av:AV} {bs:List Nat} (hr:ARep P w I μ av (a.tmps.getD t undef) bs) (hn:bs.Nodup) (hb:∀ b∈bs,O b=some .r) (h0:Aj (get env t)=false) :
  Sim P X ((t,av)::env) H a w I μ (fun b=>if b∈bs then some (.t t) else O b):=by
 have hO:∀ b l,O b=some l→l≠.r→(if b∈bs then some (Loc.t t) else O b)=some l:=fun b l h hl=>by
  rw [if_neg fun hm=>hl (by have:=hb b hm;rw [h] at this;exact oI this)];exact h
 refine ⟨hs.toMem.lab (fun b l h=>?_) (fun b hk=>?_) fun b id h=>hO b _ h (by simp),fun s=>?_,hs.nt,hs.dfs⟩
 ·by_cases hm:b∈bs
  ·exact hs.own b _ (hb b hm)
  ·rw [if_neg hm] at h;exact hs.own b l h
 ·rw [if_neg fun hm=>by have:=hs.kO b hk;rw [hb b hm] at this;cases this];exact hs.kO b hk
 ·by_cases hst:t=s
  ·subst hst
   have:get ((t,av)::env) t=av:=by simp [get]
   rw [this]
   exact .of hr hn fun b hm=>by simp [hm]
  ·have hg:get ((t,av)::env) s=get env s:=by simp [get,hst]
   rw [hg]
   have hpl:∀ p e xs,AB env H p=.own e xs→AB ((t,av)::env) H p=.own e xs:=by
    intro p e xs hx
    cases p with
    | t r =>
     show get _ r=_
     by_cases hr:t=r
     ·subst hr;rw [show AB env H (.t t)=get env t from rfl] at hx;rw [hx] at h0;cases h0
     ·simp only [get,if_neg hr];exact hx
    | c id off=>exact hx
   have h:=hs.envr s
   cases hgs:get env s with
   | ref p off len =>
    rw [hgs] at h
    obtain ⟨e,xs,A,n,c,h1,h2⟩:=h
    exact ⟨e,xs,A,n,c,hpl p e xs h1,h2⟩
   | ep p i k =>
    rw [hgs] at h
    obtain ⟨e,xs,b,n,c,h1,h2⟩:=h
    exact ⟨e,xs,b,n,c,hpl p e xs h1,h2⟩
   | _ =>
    rw [hgs] at h
    obtain ⟨bs',h1,h2,h3⟩:=h.plain rfl
    exact .of h1 h2 fun b hm=>hO b _ (h3 b hm) (by simp)
theorem Sim.adoptAll : ∀ {args:List AV} {vs:List Value} {bs:List Nat} {k:Nat} {env:Env} {O:Nat→Option Loc},Sim P X env H a w I μ O→ARepAll P w I μ args vs bs→bs.Nodup→(∀ b∈bs,O b=some .r) →
  (∀ t,k≤t→get env t=.un)→(∀ j v,vs[j]?=some v→a.tmps.getD (k+j) undef=v)→∃ O',Sim P X (Qz k args env) H a w I μ O':=by
 intro args
 induction args with
 | nil=>intro vs bs k env O hs _ _ _ _ _;exact ⟨O,hs⟩
 | cons c cs ih =>
  intro vs bs k env O hs h hn hb he hv
  cases h with
  | @cons _ v _ vs b1 b2 h t =>
   have hnd:=List.nodup_append.1 hn
   have e0:a.tmps.getD k undef=v:=by have:=hv 0 v rfl;simpa using this
   have h1:=hs.adopt (t:=k) (by rw [e0];exact h) hnd.1 (fun b hm=>hb b (by simp [hm])) (by rw [he k (Nat.le_refl _)];rfl)
   refine ih h1 t hnd.2.1 (fun b hm=>?_) (fun s hs'=>?_) fun j u hj=>?_
   ·rw [if_neg fun hm'=>hnd.2.2 b hm' b hm rfl];exact hb b (by simp [hm])
   ·simp only [get]
    rw [if_neg (by omega)];exact he s (by omega)
   ·have:=hv (j+1) u (by simpa using hj)
    rw [← this];congr 1;omega
def Zf (rs:List ResultVar) (r:AV) (args':List AV) (H':Ab) : Exit→Env→Ab→Prop
 | .normal,env,H=>(∃ G,H=H'++G)∧ES env r rs∧(∀ (i:Nat) c,args'[i]?=some c→get env i=c∧AI c=false∧.tmp i∉rs)
 | .ret,env,H=>(∃ G,H=H'++G)∧ES env r rs∧(∀ (i:Nat) c,args'[i]?=some c→get env i=c∧AI c=false∧.tmp i∉rs)
 | _,_,_=>False
theorem Sim.gives (hs:Sim P X env H a w I μ O) {fn:Func} {rs:List ResultVar} (hrs:fn.results=rs.toArray) {r:AV} (h:ES env r rs) :
  ∃ v bs,(Go.results fn a.tmps).run P w=.ok v w∧ARep P w I μ r v bs∧bs.Nodup∧∀ b∈bs,∃ t,O b=some (.t t)∧.tmp t∈rs:=by
 have one:∀ t,AI (get env t)=false→∃ bs,ARep P w I μ (get env t) (a.tmps.getD t undef) bs∧bs.Nodup∧∀ b∈bs,O b=some (.t t):=fun t ht=>(hs.envr t).plain ht
 have dis:∀ {t u:Nat} {b1 b2:List Nat},t≠u→(∀ b∈b1,O b=some (.t t))→(∀ b∈b2,O b=some (.t u))→∀ x∈b1,∀ y∈b2,x≠y:=by
  intro t u b1 b2 h h1 h2 x hx y hy e
  have:=h1 x hx;rw [e,h2 y hy] at this;simp at this;exact h this.symm
 unfold ES at h
 split at h
 ·subst h
  exact ⟨_,[],results_none (by rw [hrs]) _ _ _,.tup .nil,nN,by simp⟩
 ·obtain ⟨rfl,h2⟩:=h
  obtain ⟨bs,k1,k2,k3⟩:=one _ h2
  exact ⟨_,bs,results_tmp (by rw [hrs]) _ _ _,k1,k2,fun b hb=>⟨_,k3 b hb,by simp⟩⟩
 ·obtain ⟨hne,rfl,h2,h3⟩:=h
  obtain ⟨b1,k1,k2,k3⟩:=one _ h2
  obtain ⟨b2,m1,m2,m3⟩:=one _ h3
  refine ⟨_,_,results_tmp2 (by rw [hrs]) _ _ _,.tup (.cons k1 (.cons m1 .nil)),?_,?_⟩
  ·simp only [List.append_nil]
   exact List.nodup_append.2 ⟨k2,m2,dis hne k3 m3⟩
  ·intro b hb
   simp only [List.append_nil,List.mem_append] at hb
   rcases hb with hb|hb
   ·exact ⟨_,k3 b hb,by simp⟩
   ·exact ⟨_,m3 b hb,by simp⟩
 ·obtain ⟨⟨n1,n2,n3⟩,rfl,h2,h3,h4⟩:=h
  obtain ⟨b1,k1,k2,k3⟩:=one _ h2
  obtain ⟨b2,m1,m2,m3⟩:=one _ h3
  obtain ⟨b3,p1,p2,p3⟩:=one _ h4
  refine ⟨_,_,results_tmp3 (by rw [hrs]) _ _ _,.tup (.cons k1 (.cons m1 (.cons p1 .nil))),?_,?_⟩
  ·simp only [List.append_nil]
   refine List.nodup_append.2 ⟨k2,List.nodup_append.2 ⟨m2,p2,dis n3 m3 p3⟩,fun x hx y hy=>?_⟩
   rcases List.mem_append.1 hy with hy|hy
   ·exact dis n1 k3 m3 x hx y hy
   ·exact dis n2 k3 p3 x hx y hy
  ·intro b hb
   simp only [List.append_nil,List.mem_append] at hb
   rcases hb with hb|hb|hb
   ·exact ⟨_,k3 b hb,by simp⟩
   ·exact ⟨_,m3 b hb,by simp⟩
   ·exact ⟨_,p3 b hb,by simp⟩
 ·exact h.elim
theorem Sim.firsts (hs:Sim P X env H a w I μ O) (rs:List ResultVar) : ∀ {cs:List AV} {vs:List Value} (k:Nat),(∀ (i:Nat) c,cs[i]?=some c→get env (k+i)=c∧AI c=false∧.tmp (k+i)∉rs)→(∀ (i:Nat),i<cs.length→vs[i]?=some (a.tmps.getD (k+i) undef)) →
  ∃ bs,ARepAll P w I μ cs (vs.take cs.length) bs∧bs.Nodup∧∀ b∈bs,∃ t,k≤t∧O b=some (.t t)∧.tmp t∉rs:=by
 intro cs
 induction cs with
 | nil=>intro vs k _ _;exact ⟨[],by simpa using ARepAll.nil,nN,by simp⟩
 | cons c cs ih =>
  intro vs k hc hv
  cases vs with
  | nil=>have:=hv 0 (by simp);simp at this
  | cons v vs =>
   have h0:=hv 0 (by simp)
   simp only [List.getElem?_cons_zero,Option.some.injEq,Nat.add_zero] at h0
   obtain ⟨q1,q2,q3⟩:=hc 0 c rfl
   simp only [Nat.add_zero] at q1 q3
   obtain ⟨b1,k1,k2,k3⟩:=(hs.envr k).plain (by rw [q1];exact q2)
   rw [q1] at k1
   obtain ⟨b2,m1,m2,m3⟩:=ih (vs:=vs) (k+1) (fun i c' hi=>by have:=hc (i+1) c' (by simpa using hi);rwa [show k+(i+1)=k+1+i by omega] at this)
    (fun i hi=>by have:=hv (i+1) (by simp;omega);rw [show k+(i+1)=k+1+i by omega] at this;simpa using this)
   refine ⟨b1++b2,?_,?_,fun b hb=>?_⟩
   ·simp only [List.length_cons,List.take_succ_cons]
    rw [h0];exact .cons k1 m1
   ·refine List.nodup_append.2 ⟨k2,m2,fun x hx y hy e=>?_⟩
    subst e
    obtain ⟨t,h1,h2,_⟩:=m3 x hy
    have:=k3 x hx
    rw [h2] at this;simp at this;omega
   ·rcases List.mem_append.1 hb with hb|hb
    ·exact ⟨k,Nat.le_refl _,k3 b hb,q3⟩
    ·obtain ⟨t,h1,h2⟩:=m3 b hb
     exact ⟨t,by omega,h2⟩
theorem FnG.of {f:FuncId} {fn:Func} {c:Code} {args args':List AV} {r:AV} {rs:List ResultVar} (lo nt:Nat) (hf:P.funcs[f]?=some fn) (hb:fn.body=some c) (hrs:fn.results=rs.toArray) (hnt:fn.ntmps=nt) (hn:args.length≤nt) (hlo:args'.length≤lo)
  (hlo':lo≤args.length) (h:AW P {nt:=(lo,nt),n0:=0,ne:=H.length} c (Zf rs r args' H') (Qz 0 args []) H):FnG P f args H r args' H':=by
 intro X w I μ O vs bs e1 e2 e3 e4 e5 hm ha hnd hbO
 refine callsIn_of_wp hf hb trivial ?_
 have hlen:=ha.length
 let a:Act:={tmps:=vs.toArray++Array.replicate (fn.ntmps-vs.toArray.size) undef,defers:=[]}
 let Y:Snap:={X with nt:=(lo,nt),dfs:=[],args:=vs}
 have hat:∀ (j:Nat) (v:Value),vs[j]?=some v→a.tmps.getD j undef=v:=fun j v hj=>by
  have hjl:j<vs.length:=(lS.1 hj).1
  have e2:(vs.toArray++Array.replicate (fn.ntmps-vs.length) undef)[j]?=some v:=by
   rw [Array.getElem?_append_left (by simpa using hjl)];simpa using hj
  simp [a,e2]
 have hs0:Sim P Y [] H a w I μ O:=by
  refine ⟨hm.cast rfl rfl rfl rfl rfl rfl,fun t=>.un,by simp [a,Y,hnt];omega,rfl,fun t ht=>?_⟩
  have htl:t<vs.length:=by simp only [Y] at ht;omega
  rw [hat t vs[t] (lG htl)]
  simp [Y,List.getD_eq_getElem?_getD,htl]
 obtain ⟨O1,hs⟩:=hs0.adoptAll (k:=0) ha hnd hbO (fun _ _=>rfl) fun j v hj=>by rw [Nat.zero_add];exact hat j v hj
 have hw:=h Y a w I μ O1 rfl e3 e4 hs
 refine wpIn_mono hw fun e a' w' hp=>?_
 obtain ⟨env',He,I',μ',O',s,q⟩:=hp
 have fin:((∃ G,He=H'++G)∧ES env' r rs∧(∀ (i:Nat) c,args'[i]?=some c→get env' i=c∧AI c=false∧.tmp i∉rs))→a'.defers=[]∧∃ v,(results fn a'.tmps).run P w'=.ok v w' ∧
   ∃ v' I' μ' O' G rs bs',Ending.returned v=.returned v'∧Mem P X (H'++G) w' I' μ' O'∧ARep P w' I' μ' r v' rs∧ARepAll P w' I' μ' args' (vs.take args'.length) bs'∧(rs++bs').Nodup∧∀ b∈rs++bs',∃ n,O' b=some (.t n):=by
  rintro ⟨⟨G,rfl⟩,hres,hargs⟩
  obtain ⟨v,b1,h1,h2,h3,h4⟩:=s.gives hrs hres
  obtain ⟨b2,k1,k2,k3⟩:=s.firsts rs (cs:=args') (vs:=vs) 0 (fun i c hi=>by rw [Nat.zero_add];exact hargs i c hi) fun i hi=>by
   have htl:i<vs.length:=by omega
   rw [Nat.zero_add,s.dfs.2 i (by simp only [Y];omega)]
   simp [Y,List.getD_eq_getElem?_getD,htl]
  refine ⟨s.dfs.1,v,h1,v,I',μ',O',G,b1,b2,rfl,s.toMem.cast rfl rfl rfl rfl rfl rfl,h2,k1,?_,fun b hb=>?_⟩
  ·refine List.nodup_append.2 ⟨h3,k2,fun x hx y hy e=>?_⟩
   subst e
   obtain ⟨t,g1,g2⟩:=h4 x hx
   obtain ⟨t',_,g3,g4⟩:=k3 x hy
   rw [g1] at g3;simp at g3;subst g3
   exact g4 g2
  ·rcases List.mem_append.1 hb with hb|hb
   ·obtain ⟨t,g1,_⟩:=h4 b hb;exact ⟨t,g1⟩
   ·obtain ⟨t,_,g1,_⟩:=k3 b hb;exact ⟨t,g1⟩
 cases e with
 | normal=>exact fin q
 | ret=>exact fin q
 | _=>exact q.elim
end
end Go.FL
namespace Go.FL
open Go Go.RowKit
def KQ : AV→Bool
 | .ref (.c _ _) _ _=>true
 | .ep (.c _ _) _ _=>true
 | _=>false
def Bm (env:Env) : Bool:=env.any fun x=>KQ x.2
def argsA (env:Env) : List Operand→Option (List AV)
 | []=>some []
 | x::xs=>match argsA env xs with
  | some vs=>if noOwn (lk env x)&&!AI (lk env x) then some (lk env x::vs) else none
  | none=>none
section
variable {P:Program} {C:Cx} {X:Snap} {o:Oper} {ops:Array Oper} {Q:Exit→Env→Ab→Prop} {env env':Env} {H H':Ab} {a:Act} {w w':World} {I I':Nat→Prop} {μ μ':List Nat} {O O':Nat→Option Loc}
 {K:Env→Ab→Prop} {k:Nat} {l:List Oper}
theorem Ho (h:Bm env=false) (t:Nat) : (∀ id off x y,get env t≠.ref (.c id off) x y)∧∀ id off x y,get env t≠.ep (.c id off) x y:=by
 constructor<;>intro id off x y hg
 ·have:=Fh hg (by simp)
  have h2:Bm env=true:=List.any_eq_true.2 ⟨_,this,rfl⟩
  rw [h] at h2;cases h2
 ·have:=Fh hg (by simp)
  have h2:Bm env=true:=List.any_eq_true.2 ⟨_,this,rfl⟩
  rw [h] at h2;cases h2
theorem Sim.over (hs:Sim P X env H a w I μ O) (hn0:X.n0=0) (hc:Bm env=false) (bs:List Nat) (hb:∀ b∈bs,O b=some .r) :
  ∃ (Y:Snap) (O2:Nat→Option Loc),Y.w=w∧Y.I=I∧Y.n0=0∧Y.ne=H.length∧Y.μ=μ∧Mem P Y H w I μ O2∧(∀ b∈bs,O2 b=some .r) ∧
   ∀ {w':World} {I':Nat→Prop} {μ':List Nat} {O':Nat→Option Loc} {Hn:Ab} {rs:List Nat},Mem P Y Hn w' I' μ' O'→(∀ b∈rs,∃ n,O' b=some (.t n))→∃ On,Sim P X env Hn a w' I' μ' On∧∀ b∈rs,On b=some .r:=by
 let Y:Snap:={X with w:=w,I:=I,n0:=0,ne:=H.length,μ:=μ,K:=fun b=>X.K b∨I b∨∃ t,O b=some (.t t)}
 let O2:Nat→Option Loc:=fun b=>if b∈bs then some .r else match O b with
  | some (.o id)=>some (.o id)
  | _=>none
 have hO2o:∀ b id,O b=some (.o id)→O2 b=some (.o id):=fun b id h=>by
  show (if b∈bs then _ else _)=_
  rw [if_neg fun hm=>by rw [hb b hm] at h;cases h];simp only [h]
 have hO2n:∀ b,b∉bs→(∀ id,O b≠some (.o id))→O2 b=none:=fun b h1 h2=>by
  show (if b∈bs then _ else _)=_
  rw [if_neg h1]
  split
  ·rename_i id hx;exact absurd hx (h2 id)
  ·rfl
 have hO2:∀ b l,O2 b=some l→∃ l',O b=some l':=fun b l h=>by
  by_cases hm:b∈bs
  ·exact ⟨_,hb b hm⟩
  ·cases hx:O b with
   | some l'=>exact ⟨l',rfl⟩
   | none=>rw [hO2n b hm (by rw [hx];simp)] at h;cases h
 have hKO:∀ b,Y.K b→(∀ id,O b≠some (.o id))∧b∉bs:=fun b hk=>by
  rcases hk with hk|hk|⟨t,hk⟩
  ·exact ⟨fun id h=>(by rw [hs.kO b hk] at h;cases h),fun hm=>by have:=hb b hm;rw [hs.kO b hk] at this;cases this⟩
  ·exact ⟨fun id h=>(hs.own b _ h).2 hk,fun hm=>(hs.own b _ (hb b hm)).2 hk⟩
  ·exact ⟨fun id h=>(by rw [hk] at h;simp at h),fun hm=>by have:=hb b hm;rw [hk] at this;simp at this⟩
 have hmem:Mem P Y H w I μ O2:={
  prot:=fun _ _=>rfl
  kO:=fun b hk=>hO2n b (hKO b hk).2 (hKO b hk).1
  kI:=fun _ _ h=>h
  mono:=fun _ h=>h
  os:=rfl,tape:=rfl,output:=rfl,size:=Nat.le_refl _
  own:=fun b l h=>by obtain ⟨l',h'⟩:=hO2 b l h;exact hs.own b l' h'
  ilt:=hs.ilt,μlen:=hs.μlen,μpre:=fun _ _ _ h=>h,nle:=Nat.le_refl _
  heap:=fun id o' ho'=>by
   obtain ⟨blk,ds,h1,h2,h3,_⟩:=hs.heap id o' ho'
   exact ⟨blk,ds,h1,h2,fun _=>⟨(h3 (by omega)).1,fun b hb'=>hO2o b id ((h3 (by omega)).2 b hb')⟩,fun h=>absurd h (by simp [Y])⟩
  klt:=fun b hk=>by
   rcases hk with hk|hk|⟨t,hk⟩
   ·exact nL (hs.klt b hk) hs.size
   ·exact hs.ilt b hk
   ·exact (hs.own b _ hk).1
  n0le:=Nat.zero_le _}
 refine ⟨Y,O2,rfl,rfl,rfl,rfl,rfl,hmem,fun b hm=>by show (if b∈bs then _ else _)=_;rw [if_pos hm],?_⟩
 intro w' I' μ' O' Hn rs hm hrs
 let On:Nat→Option Loc:=fun b=>if b∈rs then some .r else match O' b with
  | some (.o id)=>some (.o id)
  | _=>match O b with
   | some (.t t)=>some (.t t)
   | _=>none
 have hOt:∀ b t,O b=some (.t t)→On b=some (.t t)∧w'.heap[b]?=w.heap[b]?:=fun b t h=>by
  have hk:Y.K b:=.inr (.inr ⟨t,h⟩)
  have h0:=hm.kO b hk
  refine ⟨?_,hm.prot b hk⟩
  show (if b∈rs then _ else _)=_
  rw [if_neg fun hx=>by obtain ⟨n,hn⟩:=hrs b hx;rw [h0] at hn;cases hn]
  simp only [h0,h]
 have hOo:∀ b id,O' b=some (.o id)→On b=some (.o id):=fun b id h=>by
  show (if b∈rs then _ else _)=_
  rw [if_neg fun hx=>by obtain ⟨n,hn⟩:=hrs b hx;rw [h] at hn;simp at hn]
  simp only [h]
 have hII:∀ b,I b→w'.heap[b]?=w.heap[b]?:=fun b hi=>hm.prot b (.inr (.inl hi))
 have hμ:∀ (i b:Nat),μ[i]?=some b→μ'[i]?=some b:=fun i b h=>hm.μpre i b (by have:=(lS.1 h).1;have:=hs.μlen;simp only [Y];omega) h
 refine ⟨On,⟨{
  prot:=fun b hk=>(hm.prot b (.inl hk)).trans (hs.prot b hk)
  kO:=fun b hk=>by
   have h0:=hm.kO b (.inl hk)
   show (if b∈rs then _ else _)=_
   rw [if_neg fun hx=>by obtain ⟨n,hn⟩:=hrs b hx;rw [h0] at hn;cases hn]
   simp only [h0,hs.kO b hk]
  kI:=fun b hk hi=>hs.kI b hk (hm.kI b (.inl hk) hi)
  mono:=fun b hi=>hm.mono b (hs.mono b hi)
  os:=hm.os.trans hs.os,tape:=hm.tape.trans hs.tape,output:=hm.output.trans hs.output,size:=nT hs.size hm.size
  own:=fun b l hl=>by
   by_cases hx:b∈rs
   ·obtain ⟨n,hn⟩:=hrs b hx
    exact hm.own b _ hn
   ·have hl':(match O' b with
     | some (.o id)=>some (Loc.o id)
     | _=>match O b with
      | some (.t t)=>some (.t t)
      | _=>none)=some l:=by
     have:(if b∈rs then some Loc.r else _)=some l:=hl
     rwa [if_neg hx] at this
    split at hl'
    ·rename_i id h;exact hm.own b _ h
    ·split at hl'
     ·rename_i t h
      refine ⟨nL (hs.own b _ h).1 hm.size,fun hi=>(hs.own b _ h).2 (hm.kI b (.inr (.inr ⟨t,h⟩)) hi)⟩
     ·cases hl'
  ilt:=hm.ilt,μlen:=hm.μlen
  μpre:=fun i b hi h=>hμ i b (hs.μpre i b hi h)
  nle:=nT hs.nle hm.nle
  heap:=fun id o' ho'=>by
   obtain ⟨blk,ds,h1,h2,h3,_⟩:=hm.heap id o' ho'
   exact ⟨blk,ds,h1,h2,fun _=>⟨(h3 (Nat.zero_le _)).1,fun b hb'=>hOo b id ((h3 (Nat.zero_le _)).2 b hb')⟩,fun h=>by omega⟩
  klt:=hs.klt,n0le:=hs.n0le},fun t=>?_,hs.nt,hs.dfs⟩,fun b hx=>by show (if b∈rs then _ else _)=_;rw [if_pos hx]⟩
 have ht:=hs.envr t
 obtain ⟨c1,c2⟩:=Ho hc t
 cases hg:get env t with
 | ref p off len =>
  rw [hg] at ht
  obtain ⟨e,xs,A,n,c,g1,g2,g3⟩:=ht
  cases p with
  | t q=>exact ⟨e,xs,A,n,c,g1,g2,g3⟩
  | c id off'=>exact absurd hg (c1 _ _ _ _)
 | ep p i j =>
  rw [hg] at ht
  obtain ⟨e,xs,b,n,c,g1,g2,g3⟩:=ht
  cases p with
  | t q=>exact ⟨e,xs,b,n,c,g1,g2,g3⟩
  | c id off'=>exact absurd hg (c2 _ _ _ _)
 | _ =>
  rw [hg] at ht
  obtain ⟨ds,g1,g2,g3⟩:=ht.plain rfl
  exact .of (g1.keep hm.mono hII hμ fun b hb'=>(hOt b t (g3 b hb')).2) g2 fun b hb'=>(hOt b t (g3 b hb')).1
theorem Sim.argsA (hs:Sim P X env H a w I μ O) : ∀ {xs:List Operand} {avs:List AV},Go.FL.argsA env xs=some avs→ARepAll P w I μ avs (xs.map a.eval) []:=by
 intro xs
 induction xs with
 | nil=>intro avs h;simp [Go.FL.argsA] at h;subst h;exact .nil
 | cons x xs ih =>
  intro avs h
  simp only [Go.FL.argsA] at h
  split at h
  ·rename_i vs h1
   split at h
   ·rename_i h2
    simp only [Bool.and_eq_true,Bool.not_eq_true'] at h2
    simp only [Option.some.injEq] at h
    subst h
    obtain ⟨b1,hb1⟩:=hs.lk h2.2
    have:=noOwn_bs hb1 h2.1
    subst this
    exact .cons hb1 (ih h1)
   ·cases h
  ·cases h
theorem I0 {c:Call} {f:FuncId} (ho:o.op=.call c) (hc:c.callee=.value (.func f)) (hcall:∀ args w,(callFunc f args).run P w=.ok (.enter f args) w) :
  (execOp a.eval o).run P w=.ok (.enter f (c.args.toList.map a.eval).toArray) w:=by
 have hres:(resolve a.eval c o.type).run P w=.ok {target:=.fn (.func f) #[],args:=#[]++c.args.map a.eval} w:=CG hc rfl
 simp only [execOp,ho,Sem.run_bind,hres,Result.andThen_ok,invoke,hcall]
 congr 2
 apply Array.ext';simp
theorem OpOK.callG {c:Call} {f:FuncId} {avs:List AV} {r:AV} (ho:o.op=.call c) (hc:c.callee=.value (.func f)) (ha:argsA env c.args.toList=some avs) (hcr:Bm env=false) (hn0:C.n0=0)
  (hcall:∀ args w,(callFunc f args).run P w=.ok (.enter f args) w) (hfn:FnG P f avs H r [] H') (hd:∀ t,o.dst=some t→okT C.nt t)
  (hK:∀ G,K (match o.dst with|some t=>put env t r|none=>env) (H'++G)):OpOK P C o env H K:=by
 intro X a w I μ O next Q h1 h2 h3 hs hn
 refine ⟨fun _ _=>trivial,?_⟩
 rw [Oper.semAt_eq _ _ _ (by simp [ho]),I0 ho hc hcall,Oper.uponIn_enter]
 refine ⟨fun h=>(by simp [om] at h),?_⟩
 obtain ⟨Y,O2,y1,y2,y3,y4,y5,ym,_,yk⟩:=hs.over (by omega) hcr [] (by simp)
 have hcl:=hfn Y w I μ O2 _ [] y1 y2 y3 y4 y5 ym (hs.argsA ha) nN (by simp)
 refine ⟨trivial,fun csF hroom=>?_⟩
 obtain ⟨e,w',fr,⟨v,I',μ',O',G,rs,bs',rfl,q1,q2,_,q4,q5⟩,s,x⟩:=hcl.2 csF (room_wide _)
 refine ⟨.returned v,w',fr,?_,s,x⟩
 obtain ⟨On,k1,k2⟩:=yk q1 (rs:=rs) fun b hb=>q5 b (by simp [hb])
 have hh:Hand P w' I' μ' On r v:=⟨rs,q2,(List.nodup_append.1 q4).1,k2⟩
 show next (a.put o.dst v) w'
 have hK:=hK G
 cases hdst:o.dst with
 | none=>exact hn _ _ _ _ _ _ _ k1 (by rw [hdst] at hK;exact hK)
 | some t=>exact hn _ _ _ _ _ _ _ (k1.put_hand (by rw [h1];exact hd t hdst) hh) (by rw [hdst] at hK;exact hK)
theorem OpOK.callG1 {c:Call} {f:FuncId} {avs:List AV} {r:AV} {s t0:Nat} {xa:List Operand} {e:TypeId} {xs xs':List DV} (ho:o.op=.call c) (hc:c.callee=.value (.func f)) (hx:c.args.toList=.tmp s::xa) (hv:get env s=.ref (.t t0) 0 xs.length) (hp:get env t0=.own e xs)
  (ha:argsA (put env t0 .un) xa=some avs) (hcr:Bm (put env t0 .un)=false) (hn0:C.n0=0)
  (hcall:∀ args w,(callFunc f args).run P w=.ok (.enter f args) w) (hfn:FnG P f (.own e xs::avs) H r [.own e xs'] H') (hd:∀ t,o.dst=some t→okT C.nt t)
  (hK:∀ G,K (match o.dst with|some t=>put ((t0,.own e xs')::put env t0 .un) t r|none=>(t0,.own e xs')::put env t0 .un) (H'++G)):OpOK P C o env H K:=by
 intro X a w I μ O next Q h1 h2 h3 hs hn
 refine ⟨fun _ _=>trivial,?_⟩
 rw [Oper.semAt_eq _ _ _ (by simp [ho]),I0 ho hc hcall,Oper.uponIn_enter]
 refine ⟨fun h=>(by simp [om] at h),?_⟩
 have hrs:=hs.envr s
 rw [hv] at hrs
 obtain ⟨e',ys,A,n,cc,g1,g2,g3,A',c',p1,p2,p3,p4⟩:=hrs
 have hee:AV.own e xs=.own e' ys:=hp.symm.trans g1
 cases hee
 obtain ⟨rfl,rfl⟩:=p3 rfl
 simp only [AR,Option.some.injEq] at g2
 obtain ⟨k1,bs,k2,k3,k4⟩:=hs.take t0 (by rw [hp];rfl)
 rw [hp,g2] at k2
 have hnl:n=xs.length:=(DX k2).1
 subst hnl
 have hval:a.eval (.tmp s)=a.tmps.getD t0 undef:=by rw [g2];exact p1
 obtain ⟨Y,O2,y1,y2,y3,y4,y5,ym,yb,yk⟩:=k1.over (by omega) hcr bs k4
 have hargs:ARepAll P w I μ (.own e xs::avs) (c.args.toList.map a.eval) bs:=by
  rw [hx,List.map_cons,hval,g2]
  have:=ARepAll.cons k2 (k1.argsA ha)
  simpa using this
 have hcl:=hfn Y w I μ O2 _ bs y1 y2 y3 y4 y5 ym hargs k3 yb
 refine ⟨trivial,fun csF hroom=>?_⟩
 obtain ⟨e',w',fr,⟨v,I',μ',O',G,rs,bs',rfl,q1,q2,q3,q4,q5⟩,s',x⟩:=hcl.2 csF (room_wide _)
 refine ⟨.returned v,w',fr,?_,s',x⟩
 obtain ⟨On,m1,m2⟩:=yk q1 (rs:=rs++bs') q5
 obtain ⟨n1,n2,n3⟩:=List.nodup_append.1 q4
 have hq3:ARep P w' I' μ' (.own e xs') (a.tmps.getD t0 undef) bs':=by
  rw [hx,List.map_cons,hval] at q3
  simp only [List.length_cons,List.length_nil,Nat.zero_add,List.take_succ_cons,List.take_zero] at q3
  cases q3 with
  | cons h t=>cases t;simpa using h
 have j1:=m1.adopt hq3 n2 (fun b hb=>m2 b (by simp [hb])) (by simp [put,get,Aj])
 have hh:Hand P w' I' μ' (fun b=>if b∈bs' then some (.t t0) else On b) r v:=⟨rs,q2,n1,fun b hb=>by show (if b∈bs' then _ else _)=_;rw [if_neg fun hm=>n3 b hb b hm rfl];exact m2 b (by simp [hb])⟩
 show next (a.put o.dst v) w'
 have hK:=hK G
 cases hdst:o.dst with
 | none=>exact hn _ _ _ _ _ _ _ j1 (by rw [hdst] at hK;exact hK)
 | some t=>exact hn _ _ _ _ _ _ _ (j1.put_hand (by rw [h1];exact hd t hdst) hh) (by rw [hdst] at hK;exact hK)
end
end Go.FL
namespace Go.FL
open Go Go.RowKit
section
variable {P:Program} {C:Cx} {X:Snap} {o:Oper} {ops:Array Oper} {Q:Exit→Env→Ab→Prop} {env env' envi:Env} {H H' H1:Ab} {a:Act} {w w':World} {I I':Nat→Prop} {μ μ':List Nat} {O O':Nat→Option Loc}
 {K:Env→Ab→Prop} {k:Nat} {l:List Oper} {av:AV}
theorem QW {m:Nat} {env0:Env} {tv:List (Nat×AV)} (hdr:∀ (i:Nat) o,i<m→ops[i]?=some o→∀ j,j<m→∃ oj t,ops[j]?=some oj∧oj.dst=some t∧(t∈o.looksAt ops→j<i∧EY ops i j=true)) (hlen:tv.length=m) (hle:m≤ops.size)
  (hone:∀ i,i<m→∃ o t v,ops[i]?=some o∧tv[i]?=some (t,v)∧PO P C ops H env0 (tv.take i).reverse o t v) (hdist:∀ (i j t:Nat) v u,tv[i]?=some (t,v)→tv[j]?=some (t,u)→i=j)
  (n1:X.nt=C.nt) (n2:X.n0=C.n0) (n3:X.ne=C.ne) {L:Array Bool} (hL:L.size=ops.size) {i:Nat} (him:i<m) (hi:i∈Region.ready .any ops L) {QQ:Exit→Act→World→Prop} {N:Act→World→Prop}
  (hs:Sim P X (C4 tv env0 L) H a w I μ O) (hN:∀ a' w' I' O',Sim P X (C4 tv env0 (L.setIfInBounds i true)) H a' w' I' μ O'→N a' w'):wpOpIn (om C.ro) 0 P ops QQ i N a w:=by
 obtain ⟨h1,o,ho,h2⟩:=mem_ready.1 hi
 have hlt:=(Array.getElem?_eq_some_iff.1 ho).1
 rw [B1 (by omega)] at h1
 obtain ⟨o',t,v,ho',htv,hd,htn,h0t,hnt,hself,hrk,hrun⟩:=hone i him
 rw [ho] at ho';cases ho'
 -- what it looks at is known
 have hdir:∀ (j s:Nat) u,tv[j]?=some (s,u)→s∈o.looksAt ops→L.getD j false=true:=fun j s u hj hm=>by
  have hjm:j<m:=by have:=(lS.1 hj).1;omega
  obtain ⟨oj,tj,q1,q2,q3⟩:=hdr i o him ho j hjm
  obtain ⟨oj',tj',vj',r1,r2,r3⟩:=hone j hjm
  rw [q1] at r1;cases r1
  rw [hj] at r2;cases r2
  have:tj=s:=by have:=r3.1;rw [q2] at this;exact oI this
  subst this
  obtain ⟨o2,ho2,e,he,hb,rfl⟩:=Ft (q3 hm).2
  rw [ho] at ho2;cases ho2
  exact h2 e he hb
 have hle1:∀ s,get (Bq (o.looksAt ops) (tv.take i).reverse++env0) s=.un∨get (Bq (o.looksAt ops) (tv.take i).reverse++env0) s=get (C4 tv env0 L) s:=fun s=>by
  rw [Bc]
  split
  ·rename_i hc
   obtain ⟨x,hx,rfl⟩:=List.mem_map.1 (List.contains_iff_mem.1 hc)
   have hx':=List.mem_filter.1 hx
   have hin:=List.mem_reverse.1 hx'.1
   obtain ⟨j,hj⟩:=List.getElem?_of_mem (List.mem_of_mem_take hin)
   have hlk:x.1∈o.looksAt ops:=List.contains_iff_mem.1 hx'.2
   refine .inr ?_
   rw [BI hdist (hdir j x.1 x.2 hj hlk) hj]
   refine DS hx fun u hu=>?_
   have hu':=List.mem_reverse.1 (List.mem_filter.1 hu).1
   obtain ⟨j',hj'⟩:=List.getElem?_of_mem (List.mem_of_mem_take hu')
   have:=hdist j j' x.1 x.2 u hj hj'
   subst this
   rw [hj] at hj'
   simp only [Option.some.injEq] at hj'
   rw [hj']
  ·by_cases hex:∃ (j:Nat) (u:AV),tv[j]?=some (s,u)
   ·obtain ⟨j,u,hj⟩:=hex
    have hjm:j<m:=by have:=(lS.1 hj).1;omega
    obtain ⟨oj,tj,vj,_,r2,r3⟩:=hone j hjm
    rw [hj] at r2;cases r2
    exact .inl r3.2.2.1
   ·exact .inr (Bk fun j u _ hj=>hex ⟨j,u,hj⟩).symm
 have hkn:∀ s,Aj (get (Bq (o.looksAt ops) (tv.take i).reverse++env0) s)=true→get (Bq (o.looksAt ops) (tv.take i).reverse++env0) s=get (C4 tv env0 L) s:=fun s hs=>by
  rcases hle1 s with h|h
  ·rw [h] at hs;cases hs
  ·exact h
 have hle2:∀ s q off len,get (Bq (o.looksAt ops) (tv.take i).reverse++env0) s=.ref (.t q) off len→get (Bq (o.looksAt ops) (tv.take i).reverse++env0) q=get (C4 tv env0 L) q:=fun s q off len h=>by
  have:=List.all_eq_true.1 hrk _ (Fh h (by simp))
  exact hkn q (by simpa using this)
 have hle3:∀ s q x y,get (Bq (o.looksAt ops) (tv.take i).reverse++env0) s=.ep (.t q) x y→get (Bq (o.looksAt ops) (tv.take i).reverse++env0) q=get (C4 tv env0 L) q:=fun s q x y h=>by
  have:=List.all_eq_true.1 hrk _ (Fh h (by simp))
  exact hkn q (by simpa using this)
 have htL:get (C4 tv env0 L) t=.un:=by
  rw [Bk fun j u hl hj=>by
   have:=hdist i j t v u htv hj
   subst this;rw [h1] at hl;cases hl]
  exact h0t
 have hsi:=hs.less hle1 hle2 hle3
 have hnext:∀ a' w' I' O',Sim P X ((t,v)::C4 tv env0 L) H a' w' I' μ O'→N a' w':=fun a' w' I' O' hs'=>by
  refine hN a' w' I' O' (hs'.same fun s=>?_)
  ·simp only [get]
   split
   ·rename_i hts;subst hts
    exact BI hdist (by rw [Ay (by omega),if_pos rfl]) htv
   ·rename_i hts
    by_cases hex:∃ (j:Nat) (u:AV),L.getD j false=true∧tv[j]?=some (s,u)
    ·obtain ⟨j,u,hj1,hj2⟩:=hex
     rw [BI hdist hj1 hj2]
     exact BI hdist (by rw [Ay (by omega)];split<;>first|rfl|exact hj1) hj2
    ·rw [Bk fun j u hl hj=>hex ⟨j,u,hl,hj⟩]
     refine Bk fun j u hl hj=>?_
     rw [Ay (by omega)] at hl
     split at hl
     ·rename_i hij;subst hij
      rw [htv] at hj;cases hj;exact hts rfl
     ·exact hex ⟨j,u,hl,hj⟩
 unfold wpOpIn
 simp only [ho]
 rcases hrun with ⟨hg,hv⟩|⟨hg,hv⟩
 ·rw [if_pos (Hr hsi hg)]
  refine hv.step hd htn hle1 hle2 hle3 (by rw [htL];rfl) (fun p hp e=>?_) n1 n2 n3 hs hnext
  subst e
  rcases hp with ⟨off,len,rfl⟩|⟨x,y,rfl⟩<;>simp [GW] at hself
 ·have:=Hr hsi hg
  rw [if_neg (by rw [this];simp)]
  refine ⟨fun _ _=>trivial,?_⟩
  rw [hd]
  rcases hv with rfl|rfl
  ·have hp:=hs.put_un t (by rw [n1];exact htn) undef
   rw [Ak (by rw [htL];rfl)] at hp
   exact hnext _ _ _ _ hp
  ·have hp:=hs.put_hand (t:=t) (by rw [n1];exact htn) (av:=.tup []) (v:=undef) ⟨[],.tup .nil,nN,by simp⟩
   rw [Ak (by rw [htL];rfl)] at hp
   exact hnext _ _ _ _ hp
def I4 (ops:Array Oper) (m:Nat) (F:List Nat) : Bool :=
 ((List.range ops.size).all fun i=>match ops[i]? with
  | some o=>o.after.all (fun e=>!Region.binds .any e||decide (e.on<i))&&(match o.op with|.select ..=>false|_=>true) &&
   (if i<m then (List.range m).all fun j=>match ops[j]? with
     | some oj=>match oj.dst with
      | some t=>!(o.looksAt ops).contains t||(decide (j<i)&&EY ops i j)
      | none=>false
     | none=>false
    else if i=m then (List.range m).all fun j=>F.contains j||IF ops i i j
    else (List.range i).all fun j=>IF ops i i j)
  | none=>false)&&decide (m<ops.size)&&o_guardNone ops m
where o_guardNone (ops:Array Oper) (m:Nat) : Bool:=match ops[m]? with
 | some o=>o.guard.isNone
 | none=>false
theorem Ju {m:Nat} {F:List Nat} (h:I4 ops m F=true) : m<ops.size∧(∃ o,ops[m]?=some o∧o.guard=none)∧∀ (i:Nat) o,ops[i]?=some o →
  (∀ e∈o.after,Region.binds .any e=true→e.on<i) ∧
  (i<m→∀ j,j<m→∃ oj t,ops[j]?=some oj∧oj.dst=some t∧(t∈o.looksAt ops→j<i∧EY ops i j=true))∧(i=m→∀ j,j<i→j∈F∨IF ops i i j=true)∧(m<i→∀ j,j<i→IF ops i i j=true):=by
 unfold I4 at h
 simp only [Bool.and_eq_true,decide_eq_true_eq] at h
 obtain ⟨⟨h,hm⟩,hg⟩:=h
 refine ⟨hm,?_,fun i o ho=>?_⟩
 ·unfold I4.o_guardNone at hg
  split at hg
  ·rename_i o ho;exact ⟨o,ho,by simpa using hg⟩
  ·cases hg
 have hi:i<ops.size:=(Array.getElem?_eq_some_iff.1 ho).1
 have:=List.all_eq_true.1 h i (List.mem_range.2 hi)
 rw [ho] at this
 simp only [Bool.and_eq_true] at this
 obtain ⟨⟨h1,_⟩,h3⟩:=this
 refine ⟨fun e he hb=>?_,fun him j hj=>?_,fun him j hj=>?_,fun him j hj=>?_⟩
 ·obtain ⟨k,hk,rfl⟩:=Array.mem_iff_getElem.1 he
  have:=Array.all_eq_true.1 h1 k hk
  rw [hb] at this
  simpa using this
 ·rw [if_pos him] at h3
  have:=List.all_eq_true.1 h3 j (List.mem_range.2 hj)
  split at this
  ·rename_i oj hoj
   split at this
   ·rename_i t ht
    refine ⟨oj,t,hoj,ht,fun hm=>?_⟩
    have hc:(o.looksAt ops).contains t=true:=List.contains_iff_mem.2 hm
    rw [hc] at this
    simpa using this
   ·cases this
  ·cases this
 ·rw [if_neg (by omega),if_pos him] at h3
  have:=List.all_eq_true.1 h3 j (List.mem_range.2 (by omega))
  simpa using this
 ·rw [if_neg (by omega),if_neg (by omega)] at h3
  exact List.all_eq_true.1 h3 j (List.mem_range.2 hj)
def Zz (P:Program) (C:Cx) (ops:Array Oper) (H1:Ab) (env0 upd:Env) (tv:List (Nat×AV)) (i:Nat) : Prop :=
 ∃ o t v,ops[i]?=some o∧tv[i]?=some (t,v)∧o.guard=none∧o.dst=some t∧(upd.map (·.1)).contains t=false∧CB (upd++(Bq (o.looksAt ops) (tv.take i).reverse++env0))=true∧VOK P C o (upd++(Bq (o.looksAt ops) (tv.take i).reverse++env0)) H1 v
theorem X4 (upd e e':Env) (h:∀ t,get e t=get e' t) (t:Nat) : get (upd++e) t=get (upd++e') t:=by
 rw [Bc,Bc,h]
theorem Zd {m:Nat} {F:List Nat} {env0 upd:Env} {tv:List (Nat×AV)} (hok:I4 ops m F=true) (hlen:tv.length=m) (hone:∀ i,i<m→∃ o t v,ops[i]?=some o∧tv[i]?=some (t,v)∧PO P C ops H env0 (tv.take i).reverse o t v)
  (hdist:∀ (i j t:Nat) v u,tv[i]?=some (t,v)→tv[j]?=some (t,u)→i=j) (hF:∀ i∈F,Zz P C ops H1 env0 upd tv i) (hrk:CB (upd++env0)=true) (hsuf:RL P C ops Q (m+1) (ops.toList.drop (m+1)) (upd++(tv.reverse++env0)) H1)
  (n1:X.nt=C.nt) (n2:X.n0=C.n0) (n3:X.ne=C.ne):∀ (fuel:Nat) (L:Array Bool) (a:Act) (w:World) (I:Nat→Prop) (O:Nat→Option Loc),L.size=ops.size→RM ops L→L.getD m false=true→(∀ j,m<j→L.getD j false=false)→(∀ j,j<m→j∉F→L.getD j false=true) →
   (List.range m).countP (fun i=>!L.getD i false)+(ops.size-(m+1))≤fuel→Sim P X (upd++C4 tv env0 L) H1 a w I μ O→wpAnyIn (om C.ro) 0 P .any ops (Post P X Q) fuel L a w:=by
 obtain ⟨hm,_,hat⟩:=Ju hok
 have fin:∀ (fuel:Nat) (L:Array Bool) (a:Act) (w:World) (I:Nat→Prop) (O:Nat→Option Loc),L.size=ops.size→L.getD m false=true→(∀ j,m<j→L.getD j false=false)→(∀ j,j<m→L.getD j false=true)→ops.size-(m+1)≤fuel →
   Sim P X (upd++C4 tv env0 L) H1 a w I μ O→wpAnyIn (om C.ro) 0 P .any ops (Post P X Q) fuel L a w:=by
  intro fuel L a w I O hL hmL hup hall hf hs
  refine Yv (m:=m+1) (fun i o ho=>(hat i o ho).1) (fun i o ho hi=>(hat i o ho).2.2.2 (by omega)) (ops.size-(m+1)) (m+1) fuel L a w (Nat.le_refl _) (by omega) hf hL (fun j hj=>⟨fun h=>?_,fun h=>?_⟩) ?_
  ·rcases Nat.lt_or_ge m j with hx|hx
   ·rw [hup j hx] at h;cases h
   ·omega
  ·rcases Nat.lt_or_ge j m with hx|hx
   ·exact hall j hx
   ·have:j=m:=by omega
    subst this;exact hmL
  have hs':=hs.same (env':=upd++(tv.reverse++env0)) fun t=>X4 upd _ _ (fun t=>by
   by_cases hex:∃ (i:Nat) (v:AV),tv[i]?=some (t,v)
   ·obtain ⟨i,v,hi⟩:=hex
    rw [BI hdist (hall i (by have:=(lS.1 hi).1;omega)) hi]
    have hmem:(t,v)∈tv.reverse:=List.mem_reverse.2 (List.mem_of_getElem? hi)
    rw [Bc,if_pos (List.contains_iff_mem.2 (List.mem_map_of_mem (f:=(·.1)) hmem))]
    refine DS hmem fun u hu=>?_
    obtain ⟨j,hj⟩:=List.getElem?_of_mem (List.mem_reverse.1 hu)
    have:=hdist i j t v u hi hj
    subst this
    rw [hi] at hj;simp only [Option.some.injEq,Prod.mk.injEq,true_and] at hj;exact hj.symm
   ·rw [Bk fun i v _ hi=>hex ⟨i,v,hi⟩,Bc,if_neg]
    intro hc
    obtain ⟨x,hx,rfl⟩:=List.mem_map.1 (List.contains_iff_mem.1 hc)
    obtain ⟨i,hi⟩:=List.getElem?_of_mem (List.mem_reverse.1 hx)
    exact hex ⟨i,x.2,hi⟩) t
  have:=hsuf rfl X a w I μ O n1 n2 n3 hs'
  rw [List.length_drop,Array.length_toList] at this
  exact this
 intro fuel
 induction fuel with
 | zero =>
  intro L a w I O hL hD hmL hup hA hf hs
  refine fin 0 L a w I O hL hmL hup (fun j hj=>?_) (by omega) hs
  cases hv:L.getD j false with
  | true=>rfl
  | false =>
   have:0<(List.range m).countP (fun i=>!L.getD i false):=List.countP_pos_iff.2 ⟨j,List.mem_range.2 hj,by rw [hv];rfl⟩
   omega
 | succ fuel ih =>
  intro L a w I O hL hD hmL hup hA hf hs
  by_cases hall:∀ j,j<m→L.getD j false=true
  ·exact fin _ L a w I O hL hmL hup hall (by omega) hs
  obtain ⟨j0,⟨hj0,hj1⟩,hmin⟩:∃ j,(j<m∧L.getD j false=false)∧∀ k,k<j→L.getD k false=true:=by
   have hex:∃ j,j<m∧L.getD j false=false:=by
    apply Classical.byContradiction
    intro hno
    refine hall fun j hj=>?_
    cases hv:L.getD j false with
    | true=>rfl
    | false=>exact absurd ⟨j,hj,hv⟩ hno
   obtain ⟨j,hj⟩:=hex
   induction j using Nat.strongRecOn with
   | ind j ihj =>
    by_cases hk:∃ k,k<j∧L.getD k false=false
    ·obtain ⟨k,hk1,hk2⟩:=hk
     exact ihj k hk1 ⟨by omega,hk2⟩
    ·refine ⟨j,hj,fun k hk1=>?_⟩
     cases hv:L.getD k false with
     | true=>rfl
     | false=>exact absurd ⟨k,hk1,hv⟩ hk
  have hr0:j0∈Region.ready .any ops L:=mem_ready.2 ⟨by rw [B1 (by omega)];exact hj1,_,Array.getElem?_eq_getElem (by omega),fun e he hb=>hmin _ ((hat j0 _ (Array.getElem?_eq_getElem (by omega))).1 e he hb)⟩
  refine ⟨fun h0=>(by rw [h0] at hr0;cases hr0),fun i hi=>?_⟩
  obtain ⟨h1,o,ho,h2⟩:=mem_ready.1 hi
  have hlt:=(Array.getElem?_eq_some_iff.1 ho).1
  rw [B1 (by omega)] at h1
  have him:i<m:=by
   rcases Nat.lt_or_ge i m with hx|hx
   ·exact hx
   ·have hne:i≠m:=fun e=>by rw [e,hmL] at h1;cases h1
    have:=F9 hD _ _ _ ((hat i o ho).2.2.2 (by omega) j0 (by omega)) fun o' ho' e he hb=>by rw [ho] at ho';cases ho';exact h2 e he hb
    rw [hj1] at this;cases this
  have hiF:i∈F:=by
   apply Classical.byContradiction
   intro h;rw [hA i him h] at h1;cases h1
  obtain ⟨o',t,v,ho',htv,hg,hd,hnu,hrk3,hv⟩:=hF i hiF
  rw [ho] at ho';cases ho'
  obtain ⟨o2,t2,v2,ho2,htv2,hd2,htn,h0t,hnt,hself,hrk2,hrun⟩:=hone i him
  rw [ho] at ho2;cases ho2
  rw [htv] at htv2
  simp only [Option.some.injEq,Prod.mk.injEq] at htv2
  obtain ⟨rfl,rfl⟩:=htv2
  have hdir:∀ (j s:Nat) u,tv[j]?=some (s,u)→s∈o.looksAt ops→L.getD j false=true:=fun j s u hj hmm=>by
   have hjm:j<m:=by have:=(lS.1 hj).1;omega
   obtain ⟨oj,tj,q1,q2,q3⟩:=(hat i o ho).2.1 him j hjm
   obtain ⟨oj',tj',vj',r1,r2,r3⟩:=hone j hjm
   rw [q1] at r1;cases r1
   rw [hj] at r2;cases r2
   have:tj=s:=by have:=r3.1;rw [q2] at this;exact oI this
   subst this
   obtain ⟨o2,ho2,e,he,hb,rfl⟩:=Ft (q3 hmm).2
   rw [ho] at ho2;cases ho2
   exact h2 e he hb
  have hle1:∀ s,get (upd++(Bq (o.looksAt ops) (tv.take i).reverse++env0)) s=.un∨get (upd++(Bq (o.looksAt ops) (tv.take i).reverse++env0)) s=get (upd++C4 tv env0 L) s:=fun s=>by
   rw [Bc,Bc (e:=upd)]
   split
   ·exact .inr rfl
   ·rw [Bc]
    split
    ·rename_i hc
     obtain ⟨x,hx,rfl⟩:=List.mem_map.1 (List.contains_iff_mem.1 hc)
     have hx':=List.mem_filter.1 hx
     have hin:=List.mem_reverse.1 hx'.1
     obtain ⟨j,hj⟩:=List.getElem?_of_mem (List.mem_of_mem_take hin)
     have hlk:x.1∈o.looksAt ops:=List.contains_iff_mem.1 hx'.2
     refine .inr ?_
     rw [BI hdist (hdir j x.1 x.2 hj hlk) hj]
     refine DS hx fun u hu=>?_
     have hu':=List.mem_reverse.1 (List.mem_filter.1 hu).1
     obtain ⟨j',hj'⟩:=List.getElem?_of_mem (List.mem_of_mem_take hu')
     have:=hdist j j' x.1 x.2 u hj hj'
     subst this
     rw [hj] at hj'
     simp only [Option.some.injEq] at hj'
     rw [hj']
    ·by_cases hex:∃ (j:Nat) (u:AV),tv[j]?=some (s,u)
     ·obtain ⟨j,u,hj⟩:=hex
      obtain ⟨oj,tj,vj,_,r2,r3⟩:=hone j (by have:=(lS.1 hj).1;omega)
      rw [hj] at r2;cases r2
      exact .inl r3.2.2.1
     ·exact .inr (Bk fun j u _ hj=>hex ⟨j,u,hj⟩).symm
  have hkn:∀ s,Aj (get (upd++(Bq (o.looksAt ops) (tv.take i).reverse++env0)) s)=true→get (upd++(Bq (o.looksAt ops) (tv.take i).reverse++env0)) s=get (upd++C4 tv env0 L) s:=fun s hs=>by
   rcases hle1 s with h|h
   ·rw [h] at hs;cases hs
   ·exact h
  have htL:get (C4 tv env0 L) t=.un:=by
   rw [Bk fun j u hl hj=>by
    have:=hdist i j t v u htv hj
    subst this;rw [h1] at hl;cases hl]
   exact h0t
  have htL2:get (upd++C4 tv env0 L) t=.un:=by rw [Bc,if_neg (by rw [hnu];simp)];exact htL
  unfold wpOpIn
  simp only [ho]
  rw [if_pos (by simp [Region.wanted,hg])]
  refine hv.step hd htn hle1 (fun s q off len h=>?_) (fun s q x y h=>?_) (by rw [htL2];rfl) (fun p hp e=>?_) n1 n2 n3 hs fun a' w' I' O' hs'=>?_
  ·have:=List.all_eq_true.1 hrk3 _ (Fh h (by simp))
   exact hkn q (by simpa using this)
  ·have:=List.all_eq_true.1 hrk3 _ (Fh h (by simp))
   exact hkn q (by simpa using this)
  ·subst e
   rcases hp with ⟨off,len,rfl⟩|⟨x,y,rfl⟩<;>simp [GW] at hself
  refine ih _ a' w' I' O' (by simpa using hL) (fun k ok hk hok' e he hb=>?_) (by rw [Ay (by omega)];split<;>first|rfl|exact hmL) (fun j hj=>?_) (fun j hj hjF=>?_) ?_ (hs'.same fun s=>?_)
  ·rw [Ay (by omega)] at hk ⊢
   split at hk
   ·rename_i hik;subst hik
    rw [ho] at hok';cases hok'
    split
    ·rfl
    ·exact h2 e he hb
   ·split
    ·rfl
    ·exact hD k ok hk hok' e he hb
  ·rw [Ay (by omega),if_neg (by omega)];exact hup j hj
  ·rw [Ay (by omega)]
   split
   ·rfl
   ·exact hA j hj hjF
  ·have:=HI (fun i=>!L.getD i false) (fun k=>!(L.setIfInBounds i true).getD k false) i (by simp only [h1];rfl) (by simp only [Ay (by omega:i<L.size),if_true];rfl)
    (fun j hj=>by simp only [Ay (by omega:i<L.size)];rw [if_neg (Ne.symm hj)]) (List.range m) (List.mem_range.2 him) List.nodup_range
   omega
  ·simp only [get]
   rw [Bc,Bc]
   by_cases hts:t=s
   ·subst hts
    rw [if_pos rfl,if_neg (by rw [hnu];simp)]
    exact BI hdist (by rw [Ay (by omega),if_pos rfl]) htv
   ·rw [if_neg hts]
    split
    ·rfl
    ·by_cases hex:∃ (j:Nat) (u:AV),L.getD j false=true∧tv[j]?=some (s,u)
     ·obtain ⟨j,u,hj1,hj2⟩:=hex
      rw [BI hdist hj1 hj2]
      exact BI hdist (by rw [Ay (by omega)];split<;>first|rfl|exact hj1) hj2
     ·rw [Bk fun j u hl hj=>hex ⟨j,u,hl,hj⟩]
      refine Bk fun j u hl hj=>?_
      rw [Ay (by omega)] at hl
      split at hl
      ·rename_i hij;subst hij
       rw [htv] at hj;cases hj;exact hts rfl
      ·exact hex ⟨j,u,hl,hj⟩
theorem YL {m:Nat} {F:List Nat} {env0 upd:Env} {tv:List (Nat×AV)} (hok:I4 ops m F=true) (hlen:tv.length=m) (hone:∀ i,i<m→∃ o t v,ops[i]?=some o∧tv[i]?=some (t,v)∧PO P C ops H env0 (tv.take i).reverse o t v)
  (hdist:∀ (i j t:Nat) v u,tv[i]?=some (t,v)→tv[j]?=some (t,u)→i=j) (hF:∀ i∈F,Zz P C ops H1 env0 upd tv i) (hrk:CB (upd++env0)=true)
  (hst:∀ om e,ops[m]?=some om→(∀ t,(∀ i∈F,∀ v,tv[i]?≠some (t,v))→get e t=get (tv.reverse++env0) t)→OpOK P C om e H fun e' H'=>e'=upd++e∧H'=H1)
  (hsuf:RL P C ops Q (m+1) (ops.toList.drop (m+1)) (upd++(tv.reverse++env0)) H1)
  (n1:X.nt=C.nt) (n2:X.n0=C.n0) (n3:X.ne=C.ne):∀ (fuel:Nat) (L:Array Bool) (a:Act) (w:World) (I:Nat→Prop) (O:Nat→Option Loc),L.size=ops.size→RM ops L→(∀ j,m≤j→L.getD j false=false) →
   (List.range m).countP (fun i=>!L.getD i false)+(ops.size-m)≤fuel→Sim P X (C4 tv env0 L) H a w I μ O→wpAnyIn (om C.ro) 0 P .any ops (Post P X Q) fuel L a w:=by
 obtain ⟨hm,⟨om',hom,hog⟩,hat⟩:=Ju hok
 intro fuel
 induction fuel with
 | zero=>intro L a w I O hL hD hup hf hs;omega
 | succ fuel ih =>
  intro L a w I O hL hD hup hf hs
  -- the least that is not listed, up to the store
  obtain ⟨j0,⟨hj0,hj1⟩,hmin⟩:∃ j,(j≤m∧L.getD j false=false)∧∀ k,k<j→L.getD k false=true:=by
   have hex:∃ j,j≤m∧L.getD j false=false:=⟨m,Nat.le_refl _,hup m (Nat.le_refl _)⟩
   obtain ⟨j,hj⟩:=hex
   induction j using Nat.strongRecOn with
   | ind j ihj =>
    by_cases hk:∃ k,k<j∧L.getD k false=false
    ·obtain ⟨k,hk1,hk2⟩:=hk
     exact ihj k hk1 ⟨by omega,hk2⟩
    ·refine ⟨j,hj,fun k hk1=>?_⟩
     cases hv:L.getD k false with
     | true=>rfl
     | false=>exact absurd ⟨k,hk1,hv⟩ hk
  have hr0:j0∈Region.ready .any ops L:=mem_ready.2 ⟨by rw [B1 (by omega)];exact hj1,_,Array.getElem?_eq_getElem (by omega),fun e he hb=>hmin _ ((hat j0 _ (Array.getElem?_eq_getElem (by omega))).1 e he hb)⟩
  refine ⟨fun h0=>(by rw [h0] at hr0;cases hr0),fun i hi=>?_⟩
  obtain ⟨h1,o,ho,h2⟩:=mem_ready.1 hi
  have hlt:=(Array.getElem?_eq_some_iff.1 ho).1
  rw [B1 (by omega)] at h1
  have hpred:∀ o',ops[i]?=some o'→∀ e∈o'.after,Region.binds .any e=true→L.getD e.on false=true:=fun o' ho' e he hb=>by rw [ho] at ho';cases ho';exact h2 e he hb
  rcases Nat.lt_trichotomy i m with him|him|him
  ·refine QW (fun i o hi ho=>(hat i o ho).2.1 hi) hlen (by omega) hone hdist n1 n2 n3 hL him hi hs fun a' w' I' O' hs'=>?_
   refine ih _ a' w' I' O' (by simpa using hL) (fun k ok hk hok' e he hb=>?_) (fun j hj=>?_) ?_ hs'
   ·rw [Ay (by omega)] at hk ⊢
    split at hk
    ·rename_i hik;subst hik
     rw [ho] at hok';cases hok'
     split
     ·rfl
     ·exact h2 e he hb
    ·split
     ·rfl
     ·exact hD k ok hk hok' e he hb
   ·rw [Ay (by omega),if_neg (by omega)];exact hup j hj
   ·have:=HI (fun i=>!L.getD i false) (fun k=>!(L.setIfInBounds i true).getD k false) i (by simp only [h1];rfl) (by simp only [Ay (by omega:i<L.size),if_true];rfl)
     (fun j hj=>by simp only [Ay (by omega:i<L.size)];rw [if_neg (Ne.symm hj)]) (List.range m) (List.mem_range.2 him) List.nodup_range
    omega
  ·subst him
   have hA:∀ j,j<i→j∉F→L.getD j false=true:=fun j hj hjF=>by
    rcases (hat i o ho).2.2.1 rfl j hj with h|h
    ·exact absurd h hjF
    ·exact F9 hD _ _ _ h hpred
   have hev:∀ t,(∀ i∈F,∀ v,tv[i]?≠some (t,v))→get (C4 tv env0 L) t=get (tv.reverse++env0) t:=fun t ht=>by
    by_cases hex:∃ (j:Nat) (v:AV),tv[j]?=some (t,v)
    ·obtain ⟨j,v,hj⟩:=hex
     have hjF:j∉F:=fun h=>ht j h v hj
     rw [BI hdist (hA j (by have:=(lS.1 hj).1;omega) hjF) hj]
     have hmem:(t,v)∈tv.reverse:=List.mem_reverse.2 (List.mem_of_getElem? hj)
     rw [Bc,if_pos (List.contains_iff_mem.2 (List.mem_map_of_mem (f:=(·.1)) hmem))]
     refine (DS hmem fun u hu=>?_).symm
     obtain ⟨j',hj'⟩:=List.getElem?_of_mem (List.mem_reverse.1 hu)
     have:=hdist j j' t v u hj hj'
     subst this
     rw [hj] at hj';simp only [Option.some.injEq,Prod.mk.injEq,true_and] at hj';exact hj'.symm
    ·rw [Bk fun j v _ hj=>hex ⟨j,v,hj⟩,Bc,if_neg]
     intro hc
     obtain ⟨x,hx,rfl⟩:=List.mem_map.1 (List.contains_iff_mem.1 hc)
     obtain ⟨j,hj⟩:=List.getElem?_of_mem (List.mem_reverse.1 hx)
     exact hex ⟨j,x.2,hj⟩
   rw [hom] at ho;cases ho
   unfold wpOpIn
   simp only [hom]
   rw [if_pos (by simp [Region.wanted,hog])]
   refine hst om' _ hom hev X a w I μ O _ _ n1 n2 n3 hs fun env' H' a' w' I' μ' O' hs' hK=>?_
   obtain ⟨rfl,rfl⟩:=hK
   have heL:C4 tv env0 (L.setIfInBounds i true)=C4 tv env0 L:=by
    have hfm:∀ (l:List Nat),(∀ j∈l,j<i)→l.filterMap (fun j=>if (L.setIfInBounds i true).getD j false=true then tv[j]? else none)=l.filterMap fun j=>if L.getD j false=true then tv[j]? else none:=by
     intro l
     induction l with
     | nil=>intro _;rfl
     | cons x l ihl =>
      intro hx
      have:=hx x (by simp)
      have e1:=Ay (L:=L) (i:=i) (j:=x) (by omega)
      rw [if_neg (by omega)] at e1
      simp only [List.filterMap_cons,e1,ihl fun j hj=>hx j (by simp [hj])]
    unfold C4
    rw [hfm _ fun j hj=>by have:=List.mem_range.1 hj;omega]
   rw [← heL] at hs'
   refine Zd hok hlen hone hdist hF hrk hsuf n1 n2 n3 fuel _ a' w' I' O' (by simpa using hL) (fun k ok hk hok' e he hb=>?_) (by rw [Ay (by omega),if_pos rfl]) (fun j hj=>?_) (fun j hj hjF=>?_) ?_ hs'
   ·rw [Ay (by omega)] at hk ⊢
    split at hk
    ·rename_i hik;subst hik
     rw [hom] at hok';cases hok'
     split
     ·rfl
     ·exact h2 e he hb
    ·split
     ·rfl
     ·exact hD k ok hk hok' e he hb
   ·rw [Ay (by omega),if_neg (by omega)];exact hup j (by omega)
   ·rw [Ay (by omega),if_neg (by omega)];exact hA j hj hjF
   ·have:(List.range i).countP (fun k=>!(L.setIfInBounds i true).getD k false)=(List.range i).countP (fun k=>!L.getD k false):=List.countP_congr fun j hj=>by
     have:=List.mem_range.1 hj
     rw [Ay (by omega),if_neg (by omega)]
    omega
  ·exfalso
   have:=F9 hD _ _ _ ((hat i o ho).2.2.2 him m him) hpred
   rw [hup m (Nat.le_refl _)] at this;cases this
theorem AW.drawnF {id:Nat} (m:Nat) (F:List Nat) {env0:Env} (upd:Env) (H1:Ab) (hm:P.follows .mixedOrders=true) (hok:I4 ops m F=true) (hrk:CB (upd++env0)=true)
  (h:DK P C ops H env0 [] (ops.toList.take m) fun fin=>(∀ i∈F,Zz P C ops H1 env0 upd fin.reverse i) ∧
   (∀ om e,ops[m]?=some om→(∀ t,(∀ i∈F,∀ v,fin.reverse[i]?≠some (t,v))→get e t=get (fin++env0) t)→OpOK P C om e H fun e' H'=>e'=upd++e∧H'=H1) ∧
   RL P C ops Q (m+1) (ops.toList.drop (m+1)) (upd++(fin++env0)) H1):AW P C (.region id ops true) Q env0 H:=fun X a w I μ O n1 n2 n3 hs=>by
 obtain ⟨fin,hDL,hF,hst,hsuf⟩:=h
 obtain ⟨tv,k1,k2,k3⟩:=hDL.table
 rw [List.append_nil] at k2
 subst k2
 rw [List.reverse_reverse] at hF hst
 obtain ⟨hle,_,_⟩:=Ju hok
 have hlen:tv.length=m:=by rw [k1];simp;omega
 refine wpIn_region_any hm ?_
 have hz:∀ j,(Array.replicate ops.size false).getD j false=false:=fun j=>by
  simp only [Array.getD_eq_getD_getElem?,Array.getElem?_replicate]
  split<;>rfl
 have hs':Sim P X (C4 tv env0 (Array.replicate ops.size false)) H a {w with drawn:=w.drawn+1} I μ O :=
  (hs.grow (w':={w with drawn:=w.drawn+1}) ⟨rfl,rfl,rfl,Nat.le_refl _,fun _ _=>rfl⟩).same fun t=>Bk fun i v h=>by
   rw [hz] at h;cases h
 have hone:∀ i,i<m→∃ o t v,ops[i]?=some o∧tv[i]?=some (t,v)∧PO P C ops H env0 (tv.take i).reverse o t v:=fun i hi=>by
  have ho:ops[i]?=some ops[i]:=Array.getElem?_eq_getElem (by omega)
  obtain ⟨t,v,m1,m2⟩:=k3 i ops[i] (by rw [List.getElem?_take_of_lt hi];simp)
  exact ⟨_,t,v,ho,m1,by simpa using m2⟩
 have hdist:∀ (i j t:Nat) v u,tv[i]?=some (t,v)→tv[j]?=some (t,u)→i=j:=by
  have lt:∀ (i j t:Nat) v u,tv[i]?=some (t,v)→tv[j]?=some (t,u)→¬i<j:=fun i j t v u hi hj hij=>by
   have hjm:j<m:=by have:=(lS.1 hj).1;omega
   obtain ⟨o,t',v',_,k1,k2⟩:=hone j hjm
   rw [hj] at k1;cases k1
   refine k2.2.2.2.1 (t,v) ?_ rfl
   rw [List.mem_reverse]
   exact List.mem_of_getElem? (by rw [List.getElem?_take_of_lt hij];exact hi)
  intro i j t v u hi hj
  have h1:=lt i j t v u hi hj
  have h2:=lt j i t u v hj hi
  omega
 refine YL hok hlen hone hdist hF hrk hst hsuf n1 n2 n3 ops.size _ a _ I O (by simp) (fun i o h=>by rw [hz] at h;cases h) (fun j _=>hz j) ?_ hs'
 have h1:=List.countP_le_length (p:=fun i=>!(Array.replicate ops.size false).getD i false) (l:=List.range m)
 rw [List.length_range] at h1
 omega
end
end Go.FL
namespace Go.FL
open Go Go.RowKit
def Pr (id off:Nat) (env:Env) : Bool:=env.all fun x=>match x.2 with
 | .ref (.c i o) _ _=>!(i == id&&o == off)
 | .ep (.c i o) _ _=>!(i == id&&o == off)
 | _=>true
section
variable {P:Program} {C:Cx} {X:Snap} {o:Oper} {ops:Array Oper} {Q:Exit→Env→Ab→Prop} {env env':Env} {H H':Ab} {a:Act} {w w':World} {I I':Nat→Prop} {μ μ':List Nat} {O O':Nat→Option Loc}
 {K:Env→Ab→Prop} {k:Nat} {l:List Oper}
theorem MD {id off:Nat} (h:Pr id off env=true) (t:Nat) : clr (.c id off) (get env t)=get env t:=by
 cases hg:get env t with
 | ref p x y =>
  cases p with
  | t q=>rfl
  | c i o' =>
   have:=List.all_eq_true.1 h _ (Fh hg (by simp))
   simp only [Bool.not_eq_true',Bool.and_eq_false_iff,beq_eq_false_iff_ne,ne_eq] at this
   simp only [clr]
   rw [if_neg]
   intro e;cases e
   rcases this with h|h<;>exact h rfl
 | ep p x y =>
  cases p with
  | t q=>rfl
  | c i o' =>
   have:=List.all_eq_true.1 h _ (Fh hg (by simp))
   simp only [Bool.not_eq_true',Bool.and_eq_false_iff,beq_eq_false_iff_ne,ne_eq] at this
   simp only [clr]
   rw [if_neg]
   intro e;cases e
   rcases this with h|h<;>exact h rfl
 | _=>rfl
theorem VY {x:Operand} (h:∀ q,x≠.tmp q) (e e':Env) : lk e x=lk e' x:=by
 have h1:∀ s,C5 x≠.t s:=by
  intro s hs
  unfold C5 at hs
  split at hs<;>first|(cases hs;done)|(rename_i q;exact h q rfl)
 have h2:look e (C5 x)=look e' (C5 x):=by
  cases hx:C5 x with
  | t s=>exact absurd hx (h1 s)
  | _=>rfl
 unfold lk
 split
 ·rename_i q;exact absurd rfl (h q)
 ·rfl
 ·rw [h2]
theorem Qd {e e':Env} (h:∀ q,AI (get e q)=false→get e' q=get e q) : ∀ {xs:List Operand} {avs:List AV},argsA e xs=some avs→argsA e' xs=some avs:=by
 intro xs
 induction xs with
 | nil=>intro avs h;exact h
 | cons x xs ih =>
  intro avs ha
  simp only [argsA] at ha ⊢
  split at ha
  ·rename_i vs h1
   rw [ih h1]
   split at ha
   ·rename_i h2
    have hl:lk e' x=lk e x:=by
     cases x with
     | tmp q =>
      simp only [Bool.and_eq_true,Bool.not_eq_true'] at h2
      exact h _ h2.2
     | _=>exact VY (by simp) _ _
    simp only [hl,h2,if_true];exact ha
   ·cases ha
  ·cases ha
theorem ldb {x:Operand} {ty t id off:Nat} {cs:List AV} {c:AV} (hH:H[id]?=some (.box cs)) (hc:cs[off]?=some c) (h:RL P C ops Q (k+1) l ((t,c)::env) H) (hag:BH P ty=some false) (hg:grd ops env o true=true:=by rfl) (ho:o.op=.load ty x:=by rfl)
  (hv:lk env x=.bp id off:=by rfl) (hn:noOwn c=true:=by rfl) (hd:o.dst=some t:=by rfl) (hf:Aj (get env t)=false:=by rfl) (ht:okT C.nt t:=by rfl):RL P C ops Q k (o::l) env H:=by
 obtain ⟨h1,h2⟩:=Ar hv (by simp)
 rw [← Ak hf] at h
 exact .go hg (UF ho h1 hd ht hag h2 hH hc hn h)
theorem Pk {x:Operand} {ty t id off:Nat} {cs:List AV} {e:TypeId} {xs:List DV} (hH:H[id]?=some (.box cs)) (hc:cs[off]?=some (.own e xs)) (h:RL P C ops Q (k+1) l ((t,.ref (.c id off) 0 xs.length)::env) H) (hag:BH P ty=some false)
  (hg:grd ops env o true=true:=by rfl) (ho:o.op=.load ty x:=by rfl) (hv:lk env x=.bp id off:=by rfl) (hd:o.dst=some t:=by rfl) (hf:Aj (get env t)=false:=by rfl) (ht:okT C.nt t:=by rfl):RL P C ops Q k (o::l) env H:=by
 obtain ⟨h1,h2⟩:=Ar hv (by simp)
 rw [← Ak hf] at h
 exact .go hg (NJ ho h1 hd ht hag h2 hH hc h)
theorem stb {x y:Operand} {ty id off:Nat} {cs:List AV} {c:AV} {v:DV} (hH:H[id]?=some (.box cs)) (hc:cs[off]?=some c) (h:RL P C ops Q (k+1) l env (H.set id (.box (cs.set off (.d v))))) (hsz:Av P ty=1) (hg:grd ops env o true=true:=by rfl)
  (ho:o.op=.store ty x y:=by rfl) (hv:lk env x=.bp id off:=by rfl) (hy:lk env y=.d v:=by rfl) (hl:v.leaf=true:=by rfl) (hn:Aj c=false:=by rfl) (hd:o.dst=none:=by rfl) (h0:C.n0=0:=by rfl):RL P C ops Q k (o::l) env H:=by
 obtain ⟨h1,h2⟩:=Ar hv (by simp)
 obtain ⟨h3,h4⟩:=Ar hy (by simp)
 refine .go hg (KN ho h1 h3 hd hsz h2 hH hc (by omega) (by rw [h4];exact hl) (.inl (by rw [h4];rfl)) ?_)
 have e1:K8 env (C5 y)=env:=by
  cases hx:C5 y with
  | t s=>rw [hx] at h4;simp only [K8];rw [show get env s=_ from h4];rfl
  | _=>rfl
 rw [hn,h4,e1]
 simpa [EP,Da,hH] using h
theorem O0 {x:Operand} {r ty id off:Nat} {cs:List AV} {c:AV} {e:TypeId} {xs:List DV} (hH:H[id]?=some (.box cs)) (hc:cs[off]?=some c) (h:RL P C ops Q (k+1) l ((r,.un)::env) (H.set id (.box (cs.set off (.own e xs))))) (hsz:Av P ty=1) (hg:grd ops env o true=true:=by rfl)
  (ho:o.op=.store ty x (.tmp r):=by rfl) (hv:lk env x=.bp id off:=by rfl) (hy:get env r=.own e xs:=by rfl) (hnc:Pr id off env=true:=by rfl) (hr:CY r env=false:=by rfl) (hd:o.dst=none:=by rfl) (h0:C.n0=0:=by rfl):RL P C ops Q k (o::l) env H:=by
 obtain ⟨h1,h2⟩:=Ar hv (by simp)
 refine .go hg (KN (ay:=.t r) ho h1 (by simp [AA]) hd hsz h2 hH hc (by omega) (by show one (get env r)=true;rw [hy];rfl) (.inr ⟨r,rfl⟩) ?_)
 have e2:Da H id off (look env (.t r))=H.set id (.box (cs.set off (.own e xs))):=by
  show Da H id off (get env r)=_
  rw [hy];simp [Da,hH]
 rw [e2]
 refine RL.gh (Gh.same fun t=>?_) h
 have e3:K8 env (.t r)=put env r .un:=by simp [K8,hy,noOwn]
 rw [Jy,e3,Cw hr]
 split
 ·simp only [get]
  split
  ·rfl
  ·exact (MD hnc t).symm
 ·rfl
theorem fab {x:Operand} {s f t off n id p:Nat} (h:RL P C ops Q (k+1) l ((t,.bp id (p+off))::env) H) (hf':Br P s f=some (off,n)) (hn:0<n) (hg:grd ops env o true=true:=by rfl) (ho:o.op=.fieldAddr s x f:=by rfl)
  (hv:lk env x=.bp id p:=by rfl) (hd:o.dst=some t:=by rfl) (hf:Aj (get env t)=false:=by rfl) (ht:okT C.nt t:=by rfl):RL P C ops Q k (o::l) env H:=by
 obtain ⟨h1,h2⟩:=Ar hv (by simp)
 rw [← Ak hf] at h
 exact .go hg (Uf ho h1 hd ht hf' hn h2 h)
theorem ncb {x:Operand} {t id p:Nat} (h:RL P C ops Q (k+1) l ((t,.bp id p)::env) H) (hg:grd ops env o true=true:=by rfl) (ho:o.op=.nilCheck x:=by rfl)
  (hv:lk env x=.bp id p:=by rfl) (hd:o.dst=some t:=by rfl) (hf:Aj (get env t)=false:=by rfl) (ht:okT C.nt t:=by rfl):RL P C ops Q k (o::l) env H:=by
 obtain ⟨h1,h2⟩:=Ar hv (by simp)
 rw [← Ak hf] at h
 exact .go hg (Aao ho h1 hd ht (.inl ⟨id,p,h2⟩) (by rw [h2];exact h))
theorem al {ty t:Nat} {z:Value} {cs:List AV} (h:RL P C ops Q (k+1) l ((t,.bp H.length 0)::env) (H++[.box cs])) (hz:∀ w,(zeroValue ty).run P w=.ok z w) (hcs:∀ w I μ,ARepAll P w I μ cs z.cells.toList [])
  (hg:grd ops env o true=true:=by rfl) (ho:o.op=.alloc ty:=by rfl) (hd:o.dst=some t:=by rfl) (hf:Aj (get env t)=false:=by rfl) (ht:okT C.nt t:=by rfl):RL P C ops Q k (o::l) env H:=by
 rw [← Ak hf] at h
 refine .go hg (.val (env':=env) (H':=H++[.box cs]) (by simp [ho]) hd ht (fun X a w I μ O _ _ _ hs=>?_) h)
 obtain ⟨μ',O',q1,q2⟩:=hs.box (cs:=cs) (vs:=z.cells.toList) ⟨[],hcs w I μ,nN,by simp⟩ ty
 refine ⟨.pointer (some ⟨w.heap.size,0,none⟩),_,I,μ',O',?_,q1,q2⟩
 simp only [execOp,ho,Instr.alloc,Sem.run_bind,hz,Result.andThen_ok,Eh,Sem.run_pure,Array.toArray_toList]
theorem apc {c:Call} {y:Operand} {r t id off ty e sz by_ len:Nat} {z:Value} {cs:List AV} {xs ys:List DV} (hH:H[id]?=some (.box cs)) (hcs:cs[off]?=some (.own e xs)) (hb:len+ys.length≤9223372036854775807∧(len+ys.length) * by_≤140737488355328)
  (h:RL P C ops Q (k+1) l ((t,.own e (xs.take len++ys))::(r,.un)::env) (H.set id (.box (cs.set off .un)))) (hsz:∀ x∈ys,x.cells.length=sz) (hT:Cb P ty=some (e,sz,by_,z)) (hg:grd ops env o true=true:=by rfl) (ho:o.op=.call c:=by rfl)
  (hc:c.callee=.builtin .append:=by rfl) (hx:c.args=#[.tmp r,y]:=by rfl) (hty:c.argTypes=#[ty,ty]:=by rfl) (hv:get env r=.ref (.c id off) 0 len:=by rfl) (hy:rd env H (lk env y)=some ys:=by rfl) (hd:o.dst=some t:=by rfl)
  (hf:Aj (get env t)=false:=by rfl) (hnc:Pr id off ((r,.un)::env.filter fun x=>x.1 != r)=true:=by rfl) (ht:okT C.nt t:=by rfl) (h0:C.n0=0:=by rfl):RL P C ops Q k (o::l) env H:=by
 refine .go hg (Q9 ho hc hx hty hd ht (by simp [AA]) hT hv hH hcs (by omega) hy hsz (by simpa [maxLen] using hb.1) hb.2 ?_)
 have h1:Aj (get (G8 (.c id off) env) t)=false:=by rw [Eo,OL];exact hf
 rw [Ak h1,show Da H id off .un=H.set id (.box (cs.set off .un)) by simp [Da,hH]]
 refine RL.gh (Gh.same fun q=>?_) h
 simp only [get,Eo]
 split
 ·rfl
 ·split
  ·rename_i hq;subst hq;rw [hv];simp [clr]
  ·rename_i hq
   have hfl:∀ env:Env,get (env.filter fun x=>x.1 != r) q=get env q:=fun env=>by
    induction env with
    | nil=>rfl
    | cons x xs ih =>
     obtain ⟨u,v⟩:=x
     by_cases hu:u=r
     ·subst hu;simp [get,ih,hq]
     ·have hu':(u != r)=true:=by simpa using hu
      rw [List.filter_cons_of_pos (by exact hu')]
      simp only [get,ih]
   have:=MD hnc q
   simpa [get,hq,hfl] using this.symm
theorem clg {c:Call} {f t:Nat} {avs:List AV} {r:AV} (h:∀ G,RL P C ops Q (k+1) l ((t,r)::env) (H'++G)) (hfn:FnG P f avs H r [] H') (hcall:∀ args w,(callFunc f args).run P w=.ok (.enter f args) w)
  (hg:grd ops env o true=true:=by rfl) (ho:o.op=.call c:=by rfl) (hc:c.callee=.value (.func f):=by rfl) (ha:argsA env c.args.toList=some avs:=by rfl) (hcr:Bm env=false:=by rfl) (hd:o.dst=some t:=by rfl)
  (hf:Aj (get env t)=false:=by rfl) (ht:okT C.nt t:=by rfl) (h0:C.n0=0:=by rfl):RL P C ops Q k (o::l) env H:=by
 refine .go hg (OpOK.callG ho hc ha hcr h0 hcall hfn (fun t' h'=>by rw [hd] at h';cases h';exact ht) fun G=>?_)
 rw [hd]
 show RL P C ops Q (k+1) l (put env t r) (H'++G)
 rw [Ak hf];exact h G
theorem YW {c:Call} {f t s t0:Nat} {avs:List AV} {r:AV} {xa:List Operand} {e:TypeId} {xs:List DV} (xs':List DV) (h:∀ G,RL P C ops Q (k+1) l ((t,r)::(t0,.own e xs')::(s,.un)::env) (H'++G)) (hfn:FnG P f (.own e xs::avs) H r [.own e xs'] H')
  (hcall:∀ args w,(callFunc f args).run P w=.ok (.enter f args) w) (hg:grd ops env o true=true:=by rfl) (ho:o.op=.call c:=by rfl) (hc:c.callee=.value (.func f):=by rfl) (hx:c.args.toList=.tmp s::xa:=by rfl)
  (hv:get env s=.ref (.t t0) 0 xs.length:=by rfl) (hp:get env t0=.own e xs:=by rfl) (ha:argsA ((t0,.un)::env) xa=some avs:=by rfl) (hcr:Bm env=false:=by rfl) (hr:CY t0 ((s,.un)::env.filter fun x=>x.1 != s)=false:=by rfl) (hd:o.dst=some t:=by rfl)
  (hf:Aj (get env t)=false:=by rfl) (hst:s≠t0:=by decide) (htt:t≠t0:=by decide) (ht:okT C.nt t:=by rfl) (h0:C.n0=0:=by rfl):RL P C ops Q k (o::l) env H:=by
 have hput:put env t0 .un=(t0,.un)::G8 (.t t0) env:=by simp [put,hp,Aj]
 have hget:∀ q,get (put env t0 .un) q=get ((t0,.un)::(s,.un)::env) q:=fun q=>by
  rw [hput]
  simp only [get,Eo]
  split
  ·rfl
  ·split
   ·rename_i hq;subst hq;rw [hv];simp [clr]
   ·rename_i hq;exact MW hr q (Ne.symm hq)
 have hcr':Bm (put env t0 .un)=false:=by
  rw [hput]
  cases hx:Bm ((t0,AV.un)::G8 (.t t0) env) with
  | false=>rfl
  | true =>
   obtain ⟨y,hy,hy2⟩:=List.any_eq_true.1 hx
   rcases List.mem_cons.1 hy with rfl|hy
   ·cases hy2
   ·obtain ⟨z,hz,rfl⟩:=List.mem_map.1 hy
    have hcl:∀ v,KQ (clr (.t t0) v)=true→KQ v=true:=fun v hv=>by
     cases v<;>first|exact hv|(simp only [clr] at hv;split at hv<;>first|(cases hv;done)|exact hv)
    have:Bm env=true:=List.any_eq_true.2 ⟨z,hz,hcl _ hy2⟩
    rw [hcr] at this;cases this
 have ha':argsA (put env t0 .un) xa=some avs:=Qd (fun q hq=>by
  rw [hget]
  simp only [get] at hq ⊢
  split
  ·rfl
  ·rename_i h1
   rw [if_neg h1] at hq
   split
   ·rename_i h2;subst h2;rw [hv] at hq;cases hq
   ·rfl) ha
 refine .go hg (OpOK.callG1 ho hc hx hv hp ha' hcr' h0 hcall hfn (fun t' h'=>by rw [hd] at h';cases h';exact ht) fun G=>?_)
 rw [hd]
 show RL P C ops Q (k+1) l (put ((t0,.own e xs')::put env t0 .un) t r) (H'++G)
 have h1:Aj (get ((t0,.own e xs')::put env t0 .un) t)=false:=by
  simp only [get]
  rw [if_neg (Ne.symm htt),hget]
  simp only [get]
  rw [if_neg (Ne.symm htt)]
  split
  ·rfl
  ·exact hf
 rw [Ak h1]
 refine RL.gh (Gh.same fun q=>?_) (h G)
 simp only [get]
 split
 ·rfl
 ·split
  ·rfl
  ·rw [hget]
   simp only [get]
   rename_i h2
   rw [if_neg h2]
end
end Go.FL
namespace Go.FL
open Go Go.RowKit
def It (P:Program) (f:FuncId) (caps:List DV) (ys:List (List DV)) : Prop :=
 ∀ (l:Nat) (W:World) (I:Nat→Prop) (cv:List Value) (J:Nat→World→Prop),(∀ k W',J k W'→∀ b,I b→W'.heap[b]?=W.heap[b]?)→RepAll W I caps cv →
  (∀ k W1 ds vs,J k W1→ys[k]?=some ds→RepAll W1 I ds vs→YieldAt (om none) 0 P l vs.toArray W1 fun e W'=>e=.returned (.bool true)∧J (k+1) W')→J 0 W →
  CallsIn (om none) 0 P f (#[.func (.yield l) #[] #[]]++cv.toArray) W fun e W'=>(∃ v,e=.returned v)∧J ys.length W'
def Marks (K:Nat→Prop) (w:World) (I:Nat→Prop) (O:Nat→Option Loc) (ms:List Deferred) : Prop :=
 ms.Nodup∧∀ m∈ms,∃ D,m={target:=.collected D,args:=#[]}∧w.heap[D]?=some (.deferred (some []))∧O D=none∧¬I D∧¬K D
theorem Marks.nil {K:Nat→Prop} {w:World} {I:Nat→Prop} {O:Nat→Option Loc} : Marks K w I O []:=⟨nN,fun m hm=>by simp at hm⟩
def PostM (P:Program) (X:Snap) (Q:Exit→Env→Ab→Prop) : Exit→Act→World→Prop:=fun e a w =>
 ∃ env H I μ O ms,Sim P {X with dfs:=ms++X.dfs} env H a w I μ O∧Q e env H∧Marks X.K w I O ms
def AWM (P:Program) (C:Cx) (c:Code) (Q:Exit→Env→Ab→Prop) (env:Env) (H:Ab) : Prop :=
 ∀ X a w I μ O,X.nt=C.nt→X.n0=C.n0→X.ne=C.ne→Sim P X env H a w I μ O→c.wpIn (om C.ro) 0 P (PostM P X Q) a w
section
variable {P:Program} {C:Cx} {X:Snap} {Q:Exit→Env→Ab→Prop} {env env':Env} {H H':Ab} {a:Act} {w w':World} {I I':Nat→Prop} {μ μ':List Nat} {O O':Nat→Option Loc}
theorem Sim.recast {Y:Snap} (hs:Sim P X env H a w I μ O) (hm:Mem P Y H w I μ O) (h1:Y.nt=X.nt) (h2:Y.dfs=X.dfs) (h3:Y.args=X.args) : Sim P Y env H a w I μ O :=
 ⟨hm,hs.envr,by rw [h1];exact hs.nt,by rw [h1,h2,h3];exact hs.dfs⟩
theorem Post.toM {e:Exit} (h:Post P X Q e a w) : PostM P X Q e a w:=by
 obtain ⟨env,H,I,μ,O,s,q⟩:=h
 exact ⟨env,H,I,μ,O,[],s,q,.nil⟩
theorem AWM.lift {c:Code} (h:AW P C c Q env H) : AWM P C c Q env H:=fun X a w I μ O h1 h2 h3 hs =>
 wpIn_mono (h X a w I μ O h1 h2 h3 hs) fun _ _ _ hp=>hp.toM
theorem AWM.seqA {x y:Code} (h:AW P C x (FB (AWM P C y Q) Q) env H) : AWM P C (.seq x y) Q env H:=fun X a w I μ O h1 h2 h3 hs =>
 wpIn_seq (wpIn_mono (h X a w I μ O h1 h2 h3 hs) fun e _ _ ⟨env',H',I',μ',O',s,q⟩=>by
  cases e with
  | normal=>exact q X _ _ I' μ' O' h1 h2 h3 s
  | _=>exact ⟨env',H',I',μ',O',[],s,q,.nil⟩)
theorem Mem.reroot {K':Nat→Prop} (h:Mem P X H w I μ O) (h0:X.n0=0) (hK:∀ b,K' b→O b=none∧b<w.heap.size) : Mem P {X with w:=w,I:=I,μ:=μ,K:=K'} H w I μ O where
 prot:=fun _ _=>rfl
 kO:=fun b hb=>(hK b hb).1
 kI:=fun _ _ h=>h
 mono:=fun _ h=>h
 os:=rfl
 tape:=rfl
 output:=rfl
 size:=Nat.le_refl _
 own:=h.own
 ilt:=h.ilt
 μlen:=h.μlen
 μpre:=fun _ _ _ h=>h
 nle:=h.nle
 heap:=fun id o ho=>by
  obtain ⟨blk,bs,g1,g2,g3,_⟩:=h.heap id o ho
  exact ⟨blk,bs,g1,g2,g3,fun hlt=>absurd hlt (by simp [h0])⟩
 klt:=fun b hb=>(hK b hb).2
 n0le:=h.n0le
theorem Mem.unroot {K':Nat→Prop} (h:Mem P X H w I μ O) (h0:X.n0=0) (hK:∀ b,X.K b→K' b) {w2:World} {H2:Ab} {I2:Nat→Prop} {μ2:List Nat} {O2:Nat→Option Loc}
  (h2:Mem P {X with w:=w,I:=I,μ:=μ,K:=K'} H2 w2 I2 μ2 O2):Mem P X H2 w2 I2 μ2 O2 where
 prot:=fun b hb=>(h2.prot b (hK b hb)).trans (h.prot b hb)
 kO:=fun b hb=>h2.kO b (hK b hb)
 kI:=fun b hb hi=>h.kI b hb (h2.kI b (hK b hb) hi)
 mono:=fun b hb=>h2.mono b (h.mono b hb)
 os:=h2.os.trans h.os
 tape:=h2.tape.trans h.tape
 output:=h2.output.trans h.output
 size:=nT h.size h2.size
 own:=h2.own
 ilt:=h2.ilt
 μlen:=h2.μlen
 μpre:=fun i b hi hb=>h2.μpre i b hi (h.μpre i b hi hb)
 nle:=h2.nle
 heap:=fun id o ho=>by
  obtain ⟨blk,bs,g1,g2,g3,_⟩:=h2.heap id o ho
  exact ⟨blk,bs,g1,g2,g3,fun hlt=>absurd hlt (by simp [h0])⟩
 klt:=h.klt
 n0le:=h.n0le
theorem AWM.seq (h0:C.n0=0) {x y:Code} (h:AWM P C x (FB (AWM P C y Q) Q) env H) : AWM P C (.seq x y) Q env H:=fun X a w I μ O h1 h2 h3 hs =>
 wpIn_seq (wpIn_mono (h X a w I μ O h1 h2 h3 hs) fun e a1 w1 ⟨env',H',I',μ',O',ms,s,q,hm⟩=>by
  cases e with
  | normal =>
   have hX0:X.n0=0:=by omega
   obtain ⟨K',hKd⟩:∃ K':Nat→Prop,K'=fun b=>X.K b∨∃ m∈ms,m={target:=.collected b,args:=#[]}:=⟨_,rfl⟩
   have hK':∀ b,K' b→O' b=none∧b<w1.heap.size:=fun b hb=>by
    rw [hKd] at hb
    rcases hb with hb|⟨m,hm1,hm2⟩
    ·exact ⟨s.kO b hb,nL (s.klt b hb) s.size⟩
    ·obtain ⟨D,e1,e2,e3,e4,_⟩:=hm.2 m hm1
     rw [hm2] at e1;simp at e1;subst e1
     exact ⟨e3,(Array.getElem?_eq_some_iff.1 e2).1⟩
   have hr:=s.recast (s.toMem.reroot hX0 hK') rfl rfl rfl
   refine wpIn_mono (q {X with w:=w1,I:=I',K:=K',μ:=μ',dfs:=ms++X.dfs} a1 w1 I' μ' O' h1 h2 h3 hr) fun e a2 w2 ⟨env2,H2,I2,μ2,O2,ms2,s2,q2,hm2⟩=>?_
   refine ⟨env2,H2,I2,μ2,O2,ms2++ms,?_,q2,?_⟩
   ·have hu:Mem P X H2 w2 I2 μ2 O2:=(s.toMem.cast (Y:=X) rfl rfl rfl rfl rfl rfl).unroot hX0 (K':=K') (fun b hb=>by rw [hKd];exact .inl hb) (s2.toMem.cast rfl rfl rfl rfl rfl rfl)
    exact ⟨hu.cast rfl rfl rfl rfl rfl rfl,s2.envr,s2.nt,by rw [s2.dfs.1];simp,s2.dfs.2⟩
   ·refine ⟨List.nodup_append.2 ⟨hm2.1,hm.1,fun x hx y hy e=>?_⟩,fun m hmm=>?_⟩
    ·subst e
     obtain ⟨D,rfl,_,_,_,hk⟩:=hm2.2 x hx
     exact hk (by show K' D;rw [hKd];exact .inr ⟨_,hy,rfl⟩)
    rcases List.mem_append.1 hmm with hmm|hmm
    ·obtain ⟨D,e1,e2,e3,e4,e5⟩:=hm2.2 m hmm
     exact ⟨D,e1,e2,e3,e4,fun hk=>e5 (by show K' D;rw [hKd];exact .inl hk)⟩
    ·obtain ⟨D,rfl,e2,e3,e4,e5⟩:=hm.2 m hmm
     have hkD:K' D:=by rw [hKd];exact .inr ⟨_,hmm,rfl⟩
     exact ⟨D,rfl,(s2.prot D hkD).trans e2,s2.kO D hkD,fun hi=>e4 (s2.kI D hkD hi),e5⟩
  | _=>exact ⟨env',H',I',μ',O',ms,s,q,hm⟩)
theorem AWM.block {id:Nat} {c:Code} (h:AWM P C c (SR id Q) env H) : AWM P C (.block id c) Q env H:=fun X a w I μ O h1 h2 h3 hs =>
 wpIn_block (wpIn_mono (h X a w I μ O h1 h2 h3 hs) fun e _ _ ⟨env',H',I',μ',O',ms,s,q,hm⟩=>by
  cases e with
  | exit id' =>
   simp only [Exit.inBlock]
   simp only [SR] at q
   split
   ·rename_i hid;subst hid;rw [if_pos rfl] at q;exact ⟨env',H',I',μ',O',ms,s,q,hm⟩
   ·rename_i hid;rw [if_neg hid] at q;exact ⟨env',H',I',μ',O',ms,s,q,hm⟩
  | _=>exact ⟨env',H',I',μ',O',ms,s,q,hm⟩)
theorem AWM.gh {c:Code} (g:Gh P C env H env' H') (h:AWM P C c Q env' H') : AWM P C c Q env H:=fun X a w I μ O h1 h2 h3 hs =>
 let ⟨I',O',hs'⟩:=g X a w I μ O h1 h2 h3 hs;h X a w I' μ O' h1 h2 h3 hs'
theorem Sim.lab (hs:Sim P X env H a w I μ O) (hlt:∀ b l,O' b=some l→b<w.heap.size∧¬I b) (hK:∀ b,X.K b→O' b=none) (ho:∀ b id,O b=some (.o id)→O' b=some (.o id)) (ht:∀ b t,O b=some (.t t)→O' b=some (.t t)) :
  Sim P X env H a w I μ O':=by
 refine ⟨hs.toMem.lab hlt hK ho,fun t=>?_,hs.nt,hs.dfs⟩
 exact (hs.envr t).keepG (fun _ h=>h) (fun _ _=>rfl) (fun _ _ h=>h) (fun b hb=>⟨rfl,ht b t hb⟩) fun p e xs hp=>⟨hp,fun v hv=>hv⟩
theorem Sim.busy {l:Nat} {w2:World} (hs:Sim P X env H a w I μ O) (h0:X.n0=0) (hg:w.grownBy w2 (some l)) (hl:X.K l) (hIl:¬X.I l) : Sim P {X with w:=w2,I:=I,μ:=μ} env H a w2 I μ O:=by
 have hlI:¬I l:=fun hi=>hIl (hs.kI l hl hi)
 have hlt:l<w.heap.size:=nL (hs.klt l hl) hs.size
 have s1:=hs.recast (hs.toMem.reroot (K':=fun b=>X.K b∧b≠l) h0 fun b hb=>⟨hs.kO b hb.1,nL (hs.klt b hb.1) hs.size⟩) rfl rfl rfl
 have s2:=s1.newR [l] fun b hb=>by simp at hb;subst hb;exact ⟨hlt,.inl (hs.kO b hl),hlI,fun h=>h.2 rfl⟩
 have s3:=s2.grownR hg fun b hb=>by cases hb;simp
 have s4:Sim P _ env H a w2 I μ O:=s3.lab (fun b l' hb=>⟨nL (hs.own b l' hb).1 hg.size,(hs.own b l' hb).2⟩) (fun b hb=>hs.kO b hb.1)
  (fun b id hb=>by
   by_cases e:b=l
   ·subst e;simp at hb
   ·simpa [e] using hb) (fun b t hb=>by
   by_cases e:b=l
   ·subst e;simp at hb
   ·simpa [e] using hb)
 exact s4.recast (s4.toMem.reroot (K':=X.K) h0 fun b hb=>⟨hs.kO b hb,nL (hs.klt b hb) (nT hs.size hg.size)⟩) rfl rfl rfl
theorem Mem.ready {l:Nat} {w2 w3 w4:World} {H3:Ab} {I3:Nat→Prop} {μ3:List Nat} {O3:Nat→Option Loc} (h:Mem P X H w I μ O) (h0:X.n0=0) (hl:X.K l) (hIl:¬X.I l) (hg:w.grownBy w2 (some l))
  (h3:Mem P {X with w:=w2,I:=I,μ:=μ} H3 w3 I3 μ3 O3) (hg3:w3.grownBy w4 (some l)) (h4:w4.heap[l]?=X.w.heap[l]?):Mem P X H3 w4 I3 μ3 O3 where
 prot:=fun b hb=>by
  by_cases e:b=l
  ·subst e;exact h4
  ·exact (hg3.block b (nL (h3.klt b hb) h3.size) (by simpa using e)).trans ((h3.prot b hb).trans ((hg.block b (nL (h.klt b hb) h.size) (by simpa using e)).trans (h.prot b hb)))
 kO:=h3.kO
 kI:=fun b hb hi=>h.kI b hb (h3.kI b hb hi)
 mono:=fun b hb=>h3.mono b (h.mono b hb)
 os:=hg3.os.trans (h3.os.trans (hg.os.trans h.os))
 tape:=hg3.tape.trans (h3.tape.trans (hg.tape.trans h.tape))
 output:=hg3.output.trans (h3.output.trans (hg.output.trans h.output))
 size:=nT h.size (nT hg.size (nT h3.size hg3.size))
 own:=fun b l' hb=>⟨nL (h3.own b l' hb).1 hg3.size,(h3.own b l' hb).2⟩
 ilt:=fun b hb=>nL (h3.ilt b hb) hg3.size
 μlen:=h3.μlen
 μpre:=fun i b hi hb=>h3.μpre i b hi (h.μpre i b hi hb)
 nle:=h3.nle
 heap:=fun id o ho=>by
  obtain ⟨blk,bs,g1,g2,g3,_⟩:=h3.heap id o ho
  have hO:=(g3 (by simp [h0])).2
  have hne:∀ b∈blk::bs,w4.heap[b]?=w3.heap[b]?:=fun b hb=>hg3.block b (h3.own b _ (hO b hb)).1 (by
   simp only [ne_eq,Option.some.injEq]
   intro e;subst e
   have:=h3.kO _ hl;rw [hO _ hb] at this;cases this)
  refine ⟨blk,bs,g1,?_,g3,fun hlt=>absurd hlt (by simp [h0])⟩
  cases o with
  | box cs =>
   obtain ⟨cells,e,k1,k2⟩:=g2
   refine ⟨cells,e,(hne blk (by simp)).trans k1,k2.keep (fun _ h=>h) (fun b hb=>hg3.block b (h3.ilt b hb) ?_) (fun _ _ h=>h) fun b hb=>hne b (by simp [hb])⟩
   simp only [ne_eq,Option.some.injEq]
   intro e';subst e'
   exact hIl (h.kI _ hl (h3.kI _ hl hb))
  | mo _ _ =>
   refine ⟨g2.1,g2.2.keep (hne blk (by simp)) (fun b hb=>hg3.block b (h3.ilt b hb) ?_) fun _ h=>h⟩
   simp only [ne_eq,Option.some.injEq]
   intro e';subst e'
   exact hIl (h.kI _ hl (h3.kI _ hl hb))
 klt:=h.klt
 n0le:=h.n0le
end
end Go.FL
namespace Go.FL
open Go Go.RowKit
def Jx (env:Env) : Env:=env.map fun x=>(x.1,if noOwn x.2&&!AI x.2 then x.2 else .un)
theorem JI (env:Env) (t:Nat) : get (Jx env) t=if noOwn (get env t)&&!AI (get env t) then get env t else .un:=by
 induction env with
 | nil=>rfl
 | cons x r ih =>
  obtain ⟨s,v⟩:=x
  simp only [Jx,List.map_cons,get]
  split
  ·rfl
  ·exact ih
section
variable {P:Program} {C:Cx} {X:Snap} {Q:Exit→Env→Ab→Prop} {env env':Env} {H H':Ab} {a:Act} {w w':World} {I I':Nat→Prop} {μ μ':List Nat} {O O':Nat→Option Loc}
theorem Sim.overL (hs:Sim P X env H a w I μ O) (hn0:X.n0=0) (hc:Bm env=false) (ls:List Nat) (hl:∀ b∈ls,O b=some .r) :
  ∃ (Y:Snap) (O2:Nat→Option Loc),Y.w=w∧Y.I=I∧Y.n0=0∧Y.ne=H.length∧Y.μ=μ∧(∀ b∈ls,Y.K b)∧(∀ b,I b→Y.K b)∧Mem P Y H w I μ O2 ∧
   ∀ {w':World} {I':Nat→Prop} {μ':List Nat} {O':Nat→Option Loc} {Hn:Ab},Mem P Y Hn w' I' μ' O'→∃ On,Sim P X env Hn a w' I' μ' On∧∀ b∈ls,On b=some .r:=by
 let Y:Snap:={X with w:=w,I:=I,n0:=0,ne:=H.length,μ:=μ,K:=fun b=>X.K b∨I b∨(∃ t,O b=some (.t t))∨b∈ls}
 let O2:Nat→Option Loc:=fun b=>match O b with
  | some (.o id)=>some (.o id)
  | _=>none
 have hO2o:∀ b id,O b=some (.o id)→O2 b=some (.o id):=fun b id h=>by simp only [O2,h]
 have hO2n:∀ b,(∀ id,O b≠some (.o id))→O2 b=none:=fun b h2=>by
  cases hx:O b with
  | none=>simp only [O2,hx]
  | some l=>cases l with
   | o id=>exact absurd hx (h2 id)
   | _=>simp only [O2,hx]
 have hO2:∀ b l,O2 b=some l→∃ l',O b=some l':=fun b l h=>by
  cases hx:O b with
  | some l'=>exact ⟨l',rfl⟩
  | none=>rw [hO2n b (by rw [hx];simp)] at h;cases h
 have hKO:∀ b,Y.K b→∀ id,O b≠some (.o id):=fun b hk=>by
  rcases hk with hk|hk|⟨t,hk⟩|hk
  ·exact fun id h=>(by rw [hs.kO b hk] at h;cases h)
  ·exact fun id h=>(hs.own b _ h).2 hk
  ·exact fun id h=>(by rw [hk] at h;simp at h)
  ·exact fun id h=>(by rw [hl b hk] at h;simp at h)
 have hmem:Mem P Y H w I μ O2:={
  prot:=fun _ _=>rfl
  kO:=fun b hk=>hO2n b (hKO b hk)
  kI:=fun _ _ h=>h
  mono:=fun _ h=>h
  os:=rfl,tape:=rfl,output:=rfl,size:=Nat.le_refl _
  own:=fun b l h=>by obtain ⟨l',h'⟩:=hO2 b l h;exact hs.own b l' h'
  ilt:=hs.ilt,μlen:=hs.μlen,μpre:=fun _ _ _ h=>h,nle:=Nat.le_refl _
  heap:=fun id o' ho'=>by
   obtain ⟨blk,ds,h1,h2,h3,_⟩:=hs.heap id o' ho'
   exact ⟨blk,ds,h1,h2,fun _=>⟨(h3 (by omega)).1,fun b hb'=>hO2o b id ((h3 (by omega)).2 b hb')⟩,fun h=>absurd h (by simp [Y])⟩
  klt:=fun b hk=>by
   rcases hk with hk|hk|⟨t,hk⟩|hk
   ·exact nL (hs.klt b hk) hs.size
   ·exact hs.ilt b hk
   ·exact (hs.own b _ hk).1
   ·exact (hs.own b _ (hl b hk)).1
  n0le:=Nat.zero_le _}
 refine ⟨Y,O2,rfl,rfl,rfl,rfl,rfl,fun b hb=>.inr (.inr (.inr hb)),fun b hb=>.inr (.inl hb),hmem,?_⟩
 intro w' I' μ' O' Hn hm
 let On:Nat→Option Loc:=fun b=>if b∈ls then some .r else match O' b with
  | some (.o id)=>some (.o id)
  | _=>match O b with
   | some (.t t)=>some (.t t)
   | _=>none
 have hOl:∀ b,b∈ls→On b=some .r:=fun b hb=>by show (if b∈ls then _ else _)=_;rw [if_pos hb]
 have hOe:∀ b,b∉ls→On b=match O' b with
   | some (.o id)=>some (.o id)
   | _=>match O b with
    | some (.t t)=>some (.t t)
    | _=>none:=fun b hb=>by show (if b∈ls then _ else _)=_;rw [if_neg hb]
 have hOt:∀ b t,O b=some (.t t)→On b=some (.t t)∧w'.heap[b]?=w.heap[b]?:=fun b t h=>by
  have hk:Y.K b:=.inr (.inr (.inl ⟨t,h⟩))
  have h0:=hm.kO b hk
  refine ⟨?_,hm.prot b hk⟩
  rw [hOe b fun hb=>by rw [hl b hb] at h;simp at h]
  simp only [h0,h]
 have hOo:∀ b id,O' b=some (.o id)→On b=some (.o id):=fun b id h=>by
  rw [hOe b fun hb=>by have:=hm.kO b (.inr (.inr (.inr hb)));rw [h] at this;cases this]
  simp only [h]
 have hII:∀ b,I b→w'.heap[b]?=w.heap[b]?:=fun b hi=>hm.prot b (.inr (.inl hi))
 have hμ:∀ (i b:Nat),μ[i]?=some b→μ'[i]?=some b:=fun i b h=>hm.μpre i b (by have:=(lS.1 h).1;have:=hs.μlen;simp only [Y];omega) h
 refine ⟨On,⟨{
  prot:=fun b hk=>(hm.prot b (.inl hk)).trans (hs.prot b hk)
  kO:=fun b hk=>by
   have h0:=hm.kO b (.inl hk)
   rw [hOe b fun hb=>by have:=hl b hb;rw [hs.kO b hk] at this;cases this]
   simp only [h0,hs.kO b hk]
  kI:=fun b hk hi=>hs.kI b hk (hm.kI b (.inl hk) hi)
  mono:=fun b hi=>hm.mono b (hs.mono b hi)
  os:=hm.os.trans hs.os,tape:=hm.tape.trans hs.tape,output:=hm.output.trans hs.output,size:=nT hs.size hm.size
  own:=fun b l hl'=>by
   by_cases hx:b∈ls
   ·exact ⟨nL (hs.own b _ (hl b hx)).1 hm.size,fun hi=>(hs.own b _ (hl b hx)).2 (hm.kI b (.inr (.inr (.inr hx))) hi)⟩
   ·rw [hOe b hx] at hl'
    split at hl'
    ·rename_i id h;exact hm.own b _ h
    ·split at hl'
     ·rename_i t h
      refine ⟨nL (hs.own b _ h).1 hm.size,fun hi=>(hs.own b _ h).2 (hm.kI b (.inr (.inr (.inl ⟨t,h⟩))) hi)⟩
     ·cases hl'
  ilt:=hm.ilt,μlen:=hm.μlen
  μpre:=fun i b hi h=>hμ i b (hs.μpre i b hi h)
  nle:=nT hs.nle hm.nle
  heap:=fun id o' ho'=>by
   obtain ⟨blk,ds,h1,h2,h3,_⟩:=hm.heap id o' ho'
   exact ⟨blk,ds,h1,h2,fun _=>⟨(h3 (Nat.zero_le _)).1,fun b hb'=>hOo b id ((h3 (Nat.zero_le _)).2 b hb')⟩,fun h=>by omega⟩
  klt:=hs.klt,n0le:=hs.n0le},fun t=>?_,hs.nt,hs.dfs⟩,hOl⟩
 have ht:=hs.envr t
 obtain ⟨c1,c2⟩:=Ho hc t
 cases hg:get env t with
 | ref p off len =>
  rw [hg] at ht
  obtain ⟨e,xs,A,n,c,g1,g2,g3⟩:=ht
  cases p with
  | t q=>exact ⟨e,xs,A,n,c,g1,g2,g3⟩
  | c id off'=>exact absurd hg (c1 _ _ _ _)
 | ep p i j =>
  rw [hg] at ht
  obtain ⟨e,xs,b,n,c,g1,g2,g3⟩:=ht
  cases p with
  | t q=>exact ⟨e,xs,b,n,c,g1,g2,g3⟩
  | c id off'=>exact absurd hg (c2 _ _ _ _)
 | _ =>
  rw [hg] at ht
  obtain ⟨ds,g1,g2,g3⟩:=ht.plain rfl
  exact .of (g1.keep hm.mono hII hμ fun b hb'=>(hOt b t (g3 b hb')).2) g2 fun b hb'=>(hOt b t (g3 b hb')).1
theorem Sim.round {Y:Snap} {O2:Nat→Option Loc} (hs:Sim P X env H a w I μ O) (hm:Mem P Y H w I μ O2) (p1 p2:Nat) (hp1:p1<X.nt.2) (hp2:p2<X.nt.2) {d1 d2:DV} {v1 v2:Value} (h1:Rep w I d1 v1) (h2:Rep w I d2 v2) :
  Sim P {Y with nt:=(0,X.nt.2),dfs:=[],args:=[]} ((p2,.d d2)::(p1,.d d1)::Jx env) H {tmps:=((#[p1,p2]:Array Tmp).zip #[v1,v2]).foldl (fun t (p,v)=>t.setIfInBounds p v) a.tmps,defers:=[]} w I μ O2:=by
 have e0:((#[p1,p2]:Array Tmp).zip #[v1,v2]).foldl (fun (t:Array Value) (p,v)=>t.setIfInBounds p v) a.tmps=(a.tmps.setIfInBounds p1 v1).setIfInBounds p2 v2:=by
  rw [← Array.foldl_toList,Array.toList_zip]
  rfl
 have hsz:p1<a.tmps.size∧p2<a.tmps.size:=by rw [hs.nt];exact ⟨hp1,hp2⟩
 refine ⟨hm.cast rfl rfl rfl rfl rfl rfl,fun t=>?_,?_,rfl,fun t ht=>absurd ht (by simp)⟩
 ·simp only [get]
  by_cases e2:p2=t
  ·subst e2
   rw [if_pos rfl]
   refine .of (bs:=[]) (.d ?_) nN (by simp)
   rw [e0]
   have:((a.tmps.setIfInBounds p1 v1).setIfInBounds p2 v2).getD p2 undef=v2:=by simp [hsz.2]
   show Rep w I d2 (((a.tmps.setIfInBounds p1 v1).setIfInBounds p2 v2).getD p2 undef)
   rw [this];exact h2
  ·rw [if_neg e2]
   by_cases e1:p1=t
   ·subst e1
    rw [if_pos rfl]
    refine .of (bs:=[]) (.d ?_) nN (by simp)
    rw [e0]
    have:((a.tmps.setIfInBounds p1 v1).setIfInBounds p2 v2).getD p1 undef=v1:=by simp [hsz.1,e2]
    show Rep w I d1 (((a.tmps.setIfInBounds p1 v1).setIfInBounds p2 v2).getD p1 undef)
    rw [this];exact h1
   ·rw [if_neg e1,JI]
    split
    ·rename_i hpl
     simp only [Bool.and_eq_true,Bool.not_eq_true'] at hpl
     obtain ⟨bs,g1,g2,g3⟩:=(hs.envr t).plain hpl.2
     have:=noOwn_bs g1 hpl.1
     subst this
     refine .of (bs:=[]) ?_ nN (by simp)
     rw [e0]
     have:((a.tmps.setIfInBounds p1 v1).setIfInBounds p2 v2).getD t undef=a.tmps.getD t undef:=by simp [e1,e2,Array.getElem?_setIfInBounds_ne]
     show ARep P w I μ (get env t) (((a.tmps.setIfInBounds p1 v1).setIfInBounds p2 v2).getD t undef) []
     rw [this];exact g1
    ·exact .un
 ·rw [e0];simp;exact hs.nt
theorem B5 {w:World} {l:Nat} (o:Obj) : w.grownBy (w.putObj l o) (some l) :=
 ⟨rfl,rfl,rfl,by simp,fun k _ hk=>World.putObj_heap_other (fun e=>hk (by rw [e]))⟩
theorem A7 {w:World} (o:Obj) : Below w.heap.size w (w.alloc o) :=
 ⟨rfl,rfl,rfl,by simp,fun k hk=>Below.heap_alloc w o k hk⟩
theorem AWM.rangeFunc {g p1 p2:Nat} {assign body:Code} {f:FuncId} {caps:List DV} {ys:List (List DV)} (hro:C.ro=none) (hn0:C.n0=0) (hg:get env g=.d (.fn f [] caps)) (hcall:∀ args w,(callFunc f args).run P w=.ok (.enter f args) w)
  (hit:It P f caps ys) (hys:∀ ds∈ys,ds.length=2) (hp1:p1<C.nt.2) (hp2:p2<C.nt.2) (hc:Bm env=false) (Hs:Nat→Ab) (h0:Hs 0=H)
  (hround:∀ (l k:Nat) (d1 d2:DV),ys[k]?=some [d1,d2]→AW P {nt:=(0,C.nt.2),n0:=0,ne:=(Hs k).length,ro:=some l} assign
   (FB (AW P {nt:=(0,C.nt.2),n0:=0,ne:=(Hs k).length,ro:=some l} body fun e _ H'=>e=.normal∧H'=Hs (k+1)) fun _ _ _=>False) ((p2,.d d2)::(p1,.d d1)::Jx env) (Hs k))
  (hdone:Q .normal env (Hs ys.length)):AWM P C (.rangeFunc (.tmp g) #[p1,p2] assign body) Q env H:=by
 intro X a w I μ O h1 h2 h3 hs
 have hX0:X.n0=0:=by omega
 refine wpIn_rangeFunc ?_
 intro fn _
 rw [hro]
 have hfr:=hs.deep (x:=.tmp g) (v:=.fn f [] caps) (by show A0 (get env g)=_;rw [hg];rfl)
 generalize hev:a.eval (.tmp g)=u at hfr
 cases hfr with
 | fn _ _ _ fs cv hfs hcv =>
 cases hfs
 obtain ⟨rec,hrec⟩:∃ rec:LoopState→Option Code→Loop,rec=fun st pe=>{state:=st,pending:=pe,fn,tmps:=a.tmps,params:=#[p1,p2],assign,body,defers:=w.heap.size}:=⟨_,rfl⟩
 obtain ⟨W1,hW1⟩:∃ W1,(w.alloc (.deferred (some []))).alloc (.loop (rec .ready none))=W1:=⟨_,rfl⟩
 have hL1:W1.heap[w.heap.size+1]?=some (.loop (rec .ready none)):=by
  rw [← hW1];have:=World.alloc_heap_new (w.alloc (.deferred (some []))) (.loop (rec .ready none));rwa [World.size_alloc] at this
 have hK1:W1.heap[w.heap.size]?=some (.deferred (some [])):=by
  rw [← hW1];exact (Below.heap_alloc _ _ _ (by simp)).trans (World.alloc_heap_new w _)
 have hb1:Below w.heap.size w W1:=by
  rw [← hW1];exact (A7 _).trans ((A7 _).mono (by simp))
 have hsz1:W1.heap.size=w.heap.size+2:=by rw [← hW1];simp
 have hs1:=(hs.grow hb1).newR [w.heap.size,w.heap.size+1] fun b hb=>by
  have hge:w.heap.size≤b∧b<W1.heap.size:=by simp at hb;omega
  refine ⟨hge.2,.inl ?_,fun hi=>?_,fun hk=>?_⟩
  ·cases hO:O b with
   | none=>rfl
   | some l=>have:=(hs.own b l hO).1;omega
  ·have:=hs.ilt b hi;omega
  ·have:=hs.klt b hk;have:=hs.size;omega
 refine ⟨w.heap.size+1,[{target:=.collected w.heap.size,args:=#[]}],W1,{target:=.fn (.func f) cv.toArray,args:=#[.func (.yield (w.heap.size+1)) #[] #[]]},W1,f,
  #[.func (.yield (w.heap.size+1)) #[] #[]]++cv.toArray,W1,?_,?_,?_,?_,fun h=>(by simp [om] at h),?_⟩
 ·rw [← hW1,hrec];exact run_enterLoop_outer _ _ _ _ _
 ·simp only [resolve,hev]
  simp [go_sem]
 ·intro f' hf';exact trivial
 ·simp [invoke,go_sem,hcall]
 let J:Nat→World→Prop:=fun k W=>∃ I' μ' O',Sim P X env (Hs k) a W I' μ' O'∧O' w.heap.size=some .r∧O' (w.heap.size+1)=some .r∧W.heap[w.heap.size+1]?=some (.loop (rec .ready none)) ∧
  W.heap[w.heap.size]?=some (.deferred (some []))∧(∀ b,I b→I' b)∧∀ b,I b→W.heap[b]?=W1.heap[b]?
 have hcv1:RepAll W1 I [] []:=.nil
 have hcvW:RepAll W1 I caps cv:=hcv.keep (fun b hi=>hb1.block b (hs.ilt b hi)) fun _ h=>h
 refine (hit (w.heap.size+1) W1 I cv J (fun k W' hJ=>by obtain ⟨_,_,_,_,_,_,_,_,_,h⟩:=hJ;exact h) hcvW ?_ ⟨I,μ,_,by rw [h0];exact hs1,by simp,by simp,hL1,hK1,fun _ h=>h,fun _ _=>rfl⟩).mono ?_
 ·-- a round
  rintro k W ds vs ⟨I1,μ1,O1,s1,oD,ol,hl,hD,hI,hIw⟩ hk hr
  have hlen:=hys ds (List.mem_of_getElem? hk)
  obtain ⟨d1,d2,rfl⟩:∃ d1 d2,ds=[d1,d2]:=by
   match ds,hlen with
   | [d1,d2],_=>exact ⟨d1,d2,rfl⟩
  obtain ⟨v1,v2,rfl,hr1,hr2⟩:∃ v1 v2,vs=[v1,v2]∧Rep W I d1 v1∧Rep W I d2 v2:=by
   cases hr with
   | cons x1 t=>cases t with
    | cons x2 t=>cases t;exact ⟨_,_,rfl,x1,x2⟩
  have hy:=run_yield (P:=P) (args:=#[v1,v2]) hl (by rw [hrec];rfl)
  rw [hrec] at hy
  refine ⟨fn,_,assign,body,hy,roundIn_of_wpIn trivial ?_⟩
  obtain ⟨Y,O2,y1,y2,y3,y4,y5,yl,yI,ym,yk⟩:=s1.overL hX0 hc [w.heap.size,w.heap.size+1] (by simp [oD,ol])
  have sr:=s1.round ym p1 p2 (by rw [h1];exact hp1) (by rw [h1];exact hp2) (hr1.keep (fun _ _=>rfl) hI) (hr2.keep (fun _ _=>rfl) hI)
  have hnl:¬I1 (w.heap.size+1):=(s1.own _ _ ol).2
  refine wpIn_mono (hround (w.heap.size+1) k d1 d2 hk {Y with nt:=(0,X.nt.2),dfs:=[],args:=[]} _ _ _ _ _ (by show (0,X.nt.2)=(0,C.nt.2);rw [h1]) y3 y4 sr) ?_
  rintro e a1 w1 ⟨env1,H1,I2,μ2,O3,q1,q2⟩
  cases e with
  | normal =>
   have hl1:w1.heap[w.heap.size+1]?=some (.loop (rec .ready none)):=(q1.prot _ (yl _ (by simp))).trans (by rw [y1];exact hl)
   refine ⟨_,run_beginRound hl1 (by rw [hrec]),?_⟩
   have sb:=q1.busy y3 (B5 (.loop {rec .ready none with state:=.busy})) (yl (w.heap.size+1) (by simp)) (by show ¬Y.I _;rw [y2];exact hnl)
   refine wpIn_mono (q2 {Y with nt:=(0,X.nt.2),dfs:=[],args:=[],w:=w1.putObj (w.heap.size+1) (.loop {rec .ready none with state:=.busy}),I:=I2,μ:=μ2} _ _ _ _ _ (by show (0,X.nt.2)=(0,C.nt.2);rw [h1]) y3 y4 sb) ?_
   rintro e a2 w2 ⟨env2,H2,I3,μ3,O4,t1,t2,rfl⟩
   subst t2
   have hl2:w2.heap[w.heap.size+1]?=some (.loop {rec .ready none with state:=.busy}):=(t1.prot _ (yl _ (by simp))).trans (World.putObj_heap_same (Array.getElem?_eq_some_iff.1 hl1).1)
   have hend:=run_endRound (P:=P) none hl2
   refine ⟨_,_,hend,rfl,?_⟩
   have hme:({({rec .ready none with state:=.busy}:Loop) with state:=if (none:Option Code).isNone then LoopState.ready else .done,pending:=none}:Loop)=rec .ready none:=by rw [hrec];rfl
   rw [hme]
   have hl4:(w2.putObj (w.heap.size+1) (.loop (rec .ready none))).heap[w.heap.size+1]?=some (.loop (rec .ready none)):=World.putObj_heap_same (Array.getElem?_eq_some_iff.1 hl2).1
   have hm4:Mem P Y (Hs (k+1)) (w2.putObj (w.heap.size+1) (.loop (rec .ready none))) I3 μ3 O4 :=
    Mem.ready (X:=Y) (l:=w.heap.size+1) (q1.toMem.cast rfl rfl rfl rfl rfl rfl) y3 (yl _ (by simp)) (by rw [y2];exact hnl) (B5 _) (t1.toMem.cast rfl rfl rfl rfl rfl rfl) (B5 _) (by rw [hl4,y1,hl])
   obtain ⟨On,k1,k2⟩:=yk hm4
   refine ⟨I3,μ3,On,k1,k2 _ (by simp),k2 _ (by simp),hl4,?_,fun b hb=>hm4.mono b (by rw [y2];exact hI b hb),fun b hb=>?_⟩
   ·exact (hm4.prot _ (yl _ (by simp))).trans (by rw [y1];exact hD)
   ·exact (hm4.prot b (yI b (hI b hb))).trans (by rw [y1];exact hIw b hb)
  | _=>exact q2.elim
 ·-- behind the iterator
  rintro e W2 ⟨⟨v,rfl⟩,I1,μ1,O1,s1,oD,ol,hl,hD,hI,hIw⟩
  refine ⟨none,_,by have:=run_endLoop (P:=P) hl (by rw [hrec];simp);rw [hrec] at this;exact this,?_⟩
  have s2:=s1.grownR (B5 (l:=w.heap.size+1) (.loop {state:=.exhausted,pending:=none,fn,tmps:=a.tmps,params:=#[p1,p2],assign,body,defers:=w.heap.size})) fun b hb=>by cases hb;exact ol
  have s3:=s2.lab (O':=fun b=>if b=w.heap.size then none else O1 b) (fun b l hb=>by
    split at hb
    ·cases hb
    ·exact s2.own b l hb) (fun b hb=>by
    split
    ·rfl
    ·exact s2.kO b hb) (fun b id hb=>by rw [if_neg (fun e=>by subst e;rw [oD] at hb;simp at hb)];exact hb) (fun b t hb=>by rw [if_neg (fun e=>by subst e;rw [oD] at hb;simp at hb)];exact hb)
  refine ⟨env,_,I1,μ1,_,[{target:=.collected w.heap.size,args:=#[]}],⟨s3.toMem.cast rfl rfl rfl rfl rfl rfl,s3.envr,s3.nt,by rw [s3.dfs.1],s3.dfs.2⟩,hdone,?_⟩
  refine ⟨by simp,fun m hm=>?_⟩
  simp at hm
  refine ⟨_,hm,?_,by simp,(s1.own _ _ oD).2,fun hk=>by have:=hs.klt _ hk;have:=hs.size;omega⟩
  exact (World.putObj_heap_other (by omega)).trans hD
theorem HP {fn:Func} {R:Ending→World→Prop} (hfin:∀ w,Sim P X env H a w I μ O→LeavesInM (om none) 0 P fn a.tmps R [] .returning w) :
  ∀ (ms:List Deferred) (w:World),Sim P X env H a w I μ O→Marks X.K w I O ms→LeavesInM (om none) 0 P fn a.tmps R ms .returning w:=by
 intro ms
 induction ms with
 | nil=>intro w hw _;exact hfin w hw
 | cons m ms ih =>
  intro w hw hm
  obtain ⟨hn,hm⟩:=hm
  obtain ⟨D,rfl,hD,hO,hI,hK⟩:=hm m (by simp)
  refine ⟨by simp,.inl ⟨D,_,rfl,run_takeDeferred hD,ih _ ?_ ⟨(List.nodup_cons.1 hn).2,fun m' hm'=>?_⟩⟩⟩
  ·have s1:=hw.newR [D] fun b hb=>by simp at hb;subst hb;exact ⟨(Array.getElem?_eq_some_iff.1 hD).1,.inl hO,hI,hK⟩
   have s2:=s1.grownR (B5 (l:=D) (.deferred none)) fun b hb=>by cases hb;simp
   exact s2.lab (fun b l' hb=>⟨by rw [World.putObj_size];exact (hw.own b l' hb).1,(hw.own b l' hb).2⟩) hw.kO
    (fun b id hb=>by
     by_cases e:b=D
     ·subst e;simp at hb
     ·simpa [e] using hb) (fun b t hb=>by
     by_cases e:b=D
     ·subst e;simp at hb
     ·simpa [e] using hb)
  ·obtain ⟨D',rfl,hD',h3,h4,h5⟩:=hm m' (by simp [hm'])
   refine ⟨D',rfl,(World.putObj_heap_other fun e=>?_).trans hD',h3,h4,h5⟩
   subst e
   exact (List.nodup_cons.1 hn).1 hm'
theorem Fn.ofM {f:FuncId} {fn:Func} {c:Code} {args:List DV} {r:AV} {rs:List ResultVar} {nt:Nat} (hf:P.funcs[f]?=some fn) (hb:fn.body=some c) (hrs:fn.results=rs.toArray) (hnt:fn.ntmps=nt) (hn:args.length≤nt) (hbp:noBp r=true)
  (h:AWM P {nt:=(0,nt),n0:=0,ne:=0} c (Z6 rs r) (CI 0 args) []):Fn P f args r:=by
 intro w I vs hI ha
 refine callsIn_of_wp_marks hf hb trivial ?_
 have hlen:=ha.length
 let X:Snap:={w:=w,I:=I,K:=fun b=>b<w.heap.size,n0:=0,ne:=0,μ:=[],nt:=(0,nt),dfs:=[]}
 let a:Act:={tmps:=vs.toArray++Array.replicate (fn.ntmps-vs.toArray.size) undef,defers:=[]}
 have hs:Sim P X (CI 0 args) [] a w I [] (fun _=>none):=by
  refine ⟨{prot:=fun _ _=>rfl,kO:=fun _ _=>rfl,kI:=fun _ _ h=>h,mono:=fun _ h=>h,os:=rfl,tape:=rfl,output:=rfl,size:=Nat.le_refl _,own:=(fun b l h=>by simp at h),ilt:=hI,μlen:=rfl,μpre:=(fun i b hi _=>by simp [X] at hi),nle:=(by simp [X]),heap:=(fun id o h=>by simp at h),klt:=fun b hb=>hb,n0le:=(by simp [X])},fun t=>?_,?_,rfl,fun t h=>absurd h (by simp [X])⟩
  ·rcases DT (tmps:=a.tmps) (k:=0) ha (fun j v hj=>by
    have hjl:j<vs.length:=(lS.1 hj).1
    have e2:(vs.toArray++Array.replicate (fn.ntmps-vs.length) undef)[j]?=some v:=by
     rw [Array.getElem?_append_left (by simpa using hjl)];simpa using hj
    simp [a,e2]) t with h0|⟨d,h0,h1⟩
   ·rw [h0];exact .un
   ·rw [h0];exact .of (bs:=[]) (.d h1) nN (by simp)
  ·simp [a,X,hnt];omega
 have hw:=h X a w I [] (fun _=>none) rfl rfl rfl hs
 refine wpIn_mono hw fun e a' w' hp=>?_
 obtain ⟨env',H',I',μ',O',ms,s,q,hm⟩:=hp
 have hdf:a'.defers=ms:=by rw [s.dfs.1];simp [X]
 have fin:ES env' r rs→LeavesInM (om none) 0 P fn a'.tmps (fun e w'=>∃ v I' bs,e=.returned v∧Below w.heap.size w w'∧(∀ b,I b→I' b) ∧
   (∀ b,I' b→b<w'.heap.size∧(b<w.heap.size→I b))∧ARep P w' I' [] r v bs∧bs.Nodup∧∀ b∈bs,w.heap.size≤b∧b<w'.heap.size∧¬I' b) a'.defers .returning w':=by
  intro hres
  rw [hdf]
  refine HP (fun w4 s4=>?_) ms w' s hm
  obtain ⟨v,bs,h1,h2,h3,h4⟩:=s4.results hrs hres
  refine ⟨v,h1,v,I',bs,rfl,⟨s4.os,s4.tape,s4.output,s4.size,fun b hb=>s4.prot b hb⟩,s4.mono,fun b hi=>⟨s4.ilt b hi,fun hb=>s4.kI b hb hi⟩,h2.noBp hbp,h3,fun b hm=>?_⟩
  obtain ⟨l,hl⟩:=h4 b hm
  refine ⟨?_,(s4.own b l hl).1,(s4.own b l hl).2⟩
  rcases Nat.lt_or_ge b w.heap.size with hlt|hge
  ·have:=s4.kO b hlt;rw [this] at hl;cases hl
  ·exact hge
 cases e with
 | normal=>exact fin q
 | ret=>exact fin q
 | _=>exact q.elim
end
end Go.FL
namespace Go.FL
open Go Go.RowKit
def B (ns:List Nat) : List DV:=ns.map fun n : Nat=>.i .u8 (n:Int)
def Ck (ns:List Nat) : ByteArray:=⟨(ns.map UInt8.ofNat).toArray⟩
theorem Cu (ns:List Nat) : (B ns).length=ns.length:=by simp [B]
theorem Aa0 (ns:List Nat) : ∀ x∈B ns,x.cells.length=1:=fun x hx=>by
 simp only [B,List.mem_map] at hx
 obtain ⟨n,_,rfl⟩:=hx;rfl
theorem Zo {ns:List Nat} {i n:Nat} (h:ns[i]?=some n) : (B ns)[i]?=some (.i .u8 (n:Int)):=by simp [B,h]
theorem Va (xs ys:List Nat) : B (xs++ys)=B xs++B ys:=by simp [B]
theorem Zj (xs:List Nat) (n:Nat) : (B xs).take n=B (xs.take n):=by simp [B,List.map_take]
theorem We (xs:List Nat) (n x:Nat) : (B xs).set n (.i .u8 (x:Int))=B (xs.set n x):=by simp [B,List.map_set]
theorem RepRows.leaf1' {w:World} {I:Nat→Prop} : ∀ {xs:List DV} {vs:List Value},RepRows w I 1 xs vs→(∀ x∈xs,x.leaf=true)→RepAll w I xs vs:=by
 intro xs
 induction xs with
 | nil=>intro vs h _;cases h;exact .nil
 | cons x xs ih =>
  intro vs h hx
  cases h with
  | cons hl h1 h t =>
   rw [DV.leaf_cells (hx x (by simp))] at h
   cases h with
   | cons hh tt=>cases tt;exact .cons hh (ih t fun y hy=>hx y (by simp [hy]))
section
variable {P:Program} {C:Cx} {X:Snap} {o:Oper} {ops:Array Oper} {Q:Exit→Env→Ab→Prop} {env env':Env} {H H':Ab} {a:Act} {w w':World} {I I':Nat→Prop} {μ μ':List Nat} {O O':Nat→Option Loc}
 {K:Env→Ab→Prop} {k:Nat} {l:List Oper}
theorem bxd {x:Operand} {ty t:Nat} {v:DV} (h:RL P C ops Q (k+1) l ((t,.d (.ptr [v]))::env) H) (hg:grd ops env o true=true:=by rfl) (ho:o.op=.box ty x:=by rfl) (hv:A0 (lk env x)=some v:=by rfl)
  (hl:v.leaf=true:=by rfl) (hd:o.dst=some t:=by rfl) (hf:Aj (get env t)=false:=by rfl) (ht:okT C.nt t:=by rfl):RL P C ops Q k (o::l) env H:=by
 rw [← Ak hf] at h
 refine .go hg (.val (by simp [ho]) hd ht (fun X a w I μ O _ _ _ hs=>?_) h)
 have hr:=hs.deep (x:=x) hv
 have hone:=hr.one hl
 have hcells:(a.eval x).cells=#[a.eval x]:=by
  generalize a.eval x=u at hone
  cases u<;>first|rfl|simp [Value.oneCell'] at hone
 have hb:Below w.heap.size w (w.alloc (.cells #[a.eval x] ty)):=A7 _
 let I':Nat→Prop:=fun b=>I b∨b=w.heap.size
 have s1:=hs.called (I':=I') hb (fun b hi=>.inl hi) fun b hi=>by
  rcases hi with hi|rfl
  ·exact ⟨nL (hs.ilt b hi) hb.size,fun _=>hi⟩
  ·exact ⟨by simp,fun hlt=>absurd hlt (Nat.lt_irrefl _)⟩
 refine ⟨.pointer (some ⟨w.heap.size,0,none⟩),_,I',μ,O,?_,s1,[],.d (.ptr [v] w.heap.size 0 [a.eval x] (.inr rfl) ?_ (.cons (hr.keep (fun b hi=>hb.block b (hs.ilt b hi)) fun b hi=>.inl hi) .nil)),nN,by simp⟩
 ·simp only [execOp,ho,Instr.box,Sem.run_bind,Eh,Result.andThen_ok,Sem.run_pure,hcells]
 ·intro j u hj
  have hnew:(w.alloc (.cells #[a.eval x] ty)).heap[w.heap.size]?=some (.cells #[a.eval x] ty):=World.alloc_heap_new w _
  have hj0:j<1:=by simpa using (lS.1 hj).1
  have:j=0:=by omega
  subst this
  simp at hj;subst hj
  show World.cell? _ ⟨w.heap.size,0+0,none⟩=_
  unfold World.cell?
  show (match (w.alloc (.cells #[a.eval x] ty)).heap[w.heap.size]? with|some (.cells c _ _)=>_|_=>_)=_
  rw [hnew];rfl
theorem mkf {f:FuncId} {cap:Array Operand} {t:Nat} {ds:List DV} (h:RL P C ops Q (k+1) l ((t,.d (.fn f [] ds))::env) H) (hg:grd ops env o true=true:=by rfl) (ho:o.op=.makeFunc (.func f) #[] cap:=by rfl) (ha:argsD env cap.toList=some ds:=by rfl)
  (hd:o.dst=some t:=by rfl) (hf:Aj (get env t)=false:=by rfl) (ht:okT C.nt t:=by rfl):RL P C ops Q k (o::l) env H:=by
 rw [← Ak hf] at h
 refine .go hg (.pure (by simp [ho]) hd ht (fun X a w I μ O _ hs=>⟨.func (.func f) #[] (cap.map a.eval),?_,.of_rep ?_⟩) h)
 ·simp [execOp,ho,Instr.makeFunc]
 ·have:=Rep.fn f [] ds [] (cap.toList.map a.eval) (.nil (w:=w) (I:=I)) (hs.argsD ha)
  have e:(cap.toList.map a.eval).toArray=cap.map a.eval:=by apply Array.ext';simp
  rw [e] at this
  exact this
theorem cvs {x:Operand} {src dst e t:Nat} {ns:List Nat} (hs':P.underlying src=some (.slice e)) (he:P.underlying e=some (.int .u8)) (hd':P.underlying dst=some .string) (hne:ns≠[]) (h:RL P C ops Q (k+1) l ((t,.d (.s (Ck ns)))::env) H)
  (hg:grd ops env o true=true:=by rfl) (ho:o.op=.convert src dst x:=by rfl) (hv:rd env H (lk env x)=some (B ns):=by rfl) (hd:o.dst=some t:=by rfl) (hf:Aj (get env t)=false:=by rfl) (ht:okT C.nt t:=by rfl):RL P C ops Q k (o::l) env H:=by
 rw [← Ak hf] at h
 refine .go hg (.pure (by simp [ho]) hd ht (fun X a w I μ O _ hs=>⟨.string (Ck ns),?_,.of_rep (.s _)⟩) h)
 obtain ⟨news,⟨hnl,A,c,hev,hmc,hA⟩,hrr⟩:=hs.rd hv (sz:=1) (Aa0 ns)
 obtain ⟨b,off,rfl,hhas⟩:=hA (by rw [Cu];exact List.length_pos_iff.2 hne)
 have hra:=hrr.leaf1' (by intro x hx;simp only [B,List.mem_map] at hx;obtain ⟨n,_,rfl⟩:=hx;rfl)
 have hnews:news=(ns.map fun n:Nat=>(n:Int)).map (Value.int .u8):=by
  clear hhas hA hnl hev hmc hrr hv h
  generalize hB:B ns=bs at hra
  induction ns generalizing news bs with
  | nil=>simp [B] at hB;subst hB;cases hra;rfl
  | cons n ns ih =>
   simp [B] at hB
   subst hB
   cases hra with
   | cons h1 t =>
    cases h1
    by_cases hns:ns=[]
    ·subst hns;cases t;rfl
    ·rw [List.map_cons,List.map_cons,ih hns _ _ rfl t]
 have hln:(B ns).length=news.length:=by rw [hnl];simp
 rw [hln] at hev
 have hl:=run_loadCells_list (P:=P) (w:=w) ⟨b,off,none⟩ news (fun j v hj=>by
  have:=hhas j v hj
  unfold Addr.add
  split
  ·rename_i e;rw [e] at this;simpa using this
  ·exact this)
 simp only [execOp,ho,hev,Sem.run_bind]
 rw [run_convert_bytes_string w src dst e _ _ _ hs' he hd',run_bytesToString w ⟨b,off,none⟩ news.length c (ns.map fun n:Nat=>(n:Int)) (by rw [hl,hnews])]
 simp only [Result.andThen_ok,Sem.run_pure]
 congr 3
 have hfold:∀ (ns:List Nat) (r:ByteArray),(ns.map fun n:Nat=>(n:Int)).foldl (fun r n=>r.push (UInt8.ofNat n.toNat)) r=⟨r.data++(ns.map UInt8.ofNat).toArray⟩:=by
  intro ns
  induction ns with
  | nil=>intro r;simp
  | cons n ns ih=>intro r;simp only [List.map_cons,List.foldl_cons];rw [ih];simp [ByteArray.push]
 rw [hfold]
 simp [Ck]
end
end Go.FL
namespace Go.FL
open Go Go.RowKit
def AT (s:ByteArray) : List Nat:=s.data.toList.map UInt8.toNat
theorem C8 (s:ByteArray) : (AT s).length=s.size:=by simp [AT]
theorem Lh {ns:List Nat} (h:∀ x∈ns,x<256) : AT (Ck ns)=ns:=by
 simp only [AT,Ck,List.map_map]
 conv=>rhs;rw [← List.map_id ns]
 refine List.map_congr_left fun x hx=>?_
 have:=h x hx
 simp;omega
section
variable {P:Program} {C:Cx} {X:Snap} {o:Oper} {ops:Array Oper} {Q:Exit→Env→Ab→Prop} {env env':Env} {H H':Ab} {a:Act} {w w':World} {I I':Nat→Prop} {μ μ':List Nat} {O O':Nat→Option Loc}
 {K:Env→Ab→Prop} {k:Nat} {l:List Oper}
theorem VOK.deep {e:TypeId} {xs:List DV} (h:VOK P C o env H (.own e xs)) : VOK P C o env H (.d (.sl xs)):=by
 intro X a w I μ O next Q h1 h2 h3 hs hn
 refine h X a w I μ O next Q h1 h2 h3 hs fun v w' I' bs k1 k2 k3 k4 _ k6=>?_
 have hr:Rep w' (fun b=>I' b∨b∈bs) (.sl xs) v:=by
  obtain ⟨A,c,rfl,_,hsub⟩:=Gv (I':=fun b=>I' b∨b∈bs) k4 (fun b hb=>.inl hb) (fun b hb=>.inr hb) 0 xs.length (by omega)
  have:=hsub (.slice A xs.length c) ⟨A,c,rfl,(DX k4).2.1,fun _=>⟨rfl,rfl⟩,fun _=>by cases A<;>simp [Addr.add]⟩
  simpa using this
 exact hn v w' (fun b=>I' b∨b∈bs) [] k1 (fun b hb=>.inl (k2 b hb)) (fun b hb=>by
  rcases hb with hb|hb
  ·exact k3 b hb
  ·exact ⟨(k6 b hb).2.1,fun hlt=>absurd hlt (by have:=(k6 b hb).1;omega)⟩) (.d hr) nN (by simp)
theorem KI {x i:Operand} {ty:Nat} {s:ByteArray} {q:IntKind} {z:Int} (n y:Nat) (hn:z=n) (hb:(AT s)[n]?=some y) (hty:P.underlying ty=some .string)
  (ho:o.op=.index ty x i:=by rfl) (hv:lk env x=.d (.s s):=by rfl) (hi:lk env i=.d (.i q z):=by rfl):VOK P C o env H (.d (.i .u8 (y:Int))):=by
 subst hn
 obtain ⟨h1,h2⟩:=Ar hv (by simp)
 obtain ⟨h3,h4⟩:=Ar hi (by simp)
 have hl:n<s.size:=by have:=(lS.1 hb).1;rwa [C8] at this
 have:=YY (P:=P) (C:=C) (env:=env) (H:=H) ho h1 h3 hty h2 h4 (by omega) (by omega)
 have hy:(s.data.toList.getD (n:Int).toNat 0).toNat=y:=by
  have hl2:n<s.data.toList.length:=by simpa using hl
  simp only [AT,List.getElem?_map,lG hl2,Option.map_some,Option.some.injEq] at hb
  rw [lD,Int.toNat_natCast,lG hl2];exact hb
 rw [hy] at this
 exact .pv this
end
end Go.FL
namespace Go.FL
open Go Go.RowKit
section
variable {P:Program} {C:Cx} {X:Snap} {o:Oper} {ops:Array Oper} {Q:Exit→Env→Ab→Prop} {env env':Env} {H H':Ab} {a:Act} {w w':World} {I I':Nat→Prop} {μ μ':List Nat} {O O':Nat→Option Loc}
theorem Ab4 {s:Nat} {e:TypeId} {xs:List DV} (ho:o.op=.assign (.tmp s):=by rfl) (hv:get env s=.own e xs:=by rfl) : VOK P C o env H (.ref (.t s) 0 xs.length) :=
 .rel (by simp [ho]) fun X a w I μ O _ hs=>⟨a.tmps.getD s undef,by simp [execOp,ho,Act.eval],rfl,RefRel.self (p:=.t s) hs hv rfl⟩
theorem Gh.swap {s t:Nat} {e:TypeId} {xs:List DV} (h:get env t=.ref (.t s) 0 xs.length) (hp:get env s=.own e xs) (h0:Aj (get (put env s .un) t)=false) : Gh P C env H ((t,.own e xs)::put env s .un) H:=fun X a w I μ O _ _ _ hs=>by
 have ht:=hs.envr t
 rw [h] at ht
 obtain ⟨e',ys,A,n,c,q1,q2,q3,A',c',p1,p2,p3,p4⟩:=ht
 have:AV.own e xs=.own e' ys:=hp.symm.trans q1
 cases this
 obtain ⟨rfl,rfl⟩:=p3 rfl
 simp only [AR,Option.some.injEq] at q2
 obtain ⟨k1,bs,k2,k3,k4⟩:=hs.take s (by rw [hp];rfl)
 rw [hp,q2] at k2
 have hn:n=xs.length:=(DX k2).1
 subst hn
 rw [← p1] at k2
 exact ⟨I,_,k1.adopt k2 k3 k4 h0⟩
end
end Go.FL
namespace Go.FL
open Go Go.RowKit
section
variable {P:Program} {C:Cx} {X:Snap} {o:Oper} {ops:Array Oper} {Q:Exit→Env→Ab→Prop} {env env':Env} {H H':Ab} {k:Nat} {l:List Oper} {a:Act} {w w':World} {I I':Nat→Prop} {μ μ':List Nat} {O O':Nat→Option Loc}
theorem gfu {t:Nat} (h:RL P C ops Q (k+1) l ((t,.tup [])::env) H) (hg:grd ops env o false=true:=by rfl) (hd:o.dst=some t:=by rfl) (hf:Aj (get env t)=false:=by rfl) (ht:okT C.nt t:=by rfl) : RL P C ops Q k (o::l) env H:=by
 rw [← Ak hf] at h
 unfold grd at hg
 split at hg
 ·cases hg
 ·rename_i j want h1
  split at hg
  ·cases hg
  ·rename_i oj h2
   split at hg
   ·cases hg
   ·rename_i d h3
    split at hg
    ·rename_i x h4
     simp at hg
     exact .guard_fu h1 h2 h3 h4 hg hd ht h
    ·rename_i h4;exact .guard_n h1 h2 h3 h4 hd ht h
    ·cases hg
def Aav (ops:Array Oper) (env:Env) (o:Oper) : Bool :=
 match o.guard with
 | none=>false
 | some (j,_)=>match ops[j]? with
  | none=>false
  | some oj=>match oj.dst with
   | none=>false
   | some d=>match get env d with
    | .tup []=>true
    | _=>false
theorem gfn {t:Nat} (h:RL P C ops Q (k+1) l ((t,.tup [])::env) H) (hg:Aav ops env o=true:=by rfl) (hd:o.dst=some t:=by rfl) (hf:Aj (get env t)=false:=by rfl) (ht:okT C.nt t:=by rfl) : RL P C ops Q k (o::l) env H:=by
 rw [← Ak hf] at h
 unfold Aav at hg
 split at hg
 ·cases hg
 ·rename_i j want h1
  split at hg
  ·cases hg
  ·rename_i oj h2
   split at hg
   ·cases hg
   ·rename_i d h3
    split at hg
    ·rename_i h4
     exact .guard_n h1 h2 h3 h4 hd ht h
    ·cases hg
end
end Go.FL
namespace Go.FL
open Go Go.RowKit
section
variable {P:Program} {C:Cx} {X:Snap} {o:Oper} {ops:Array Oper} {Q:Exit→Env→Ab→Prop} {env env':Env} {H H':Ab} {a:Act} {w w':World} {I I':Nat→Prop} {μ μ':List Nat} {O O':Nat→Option Loc}
 {K:Env→Ab→Prop} {k:Nat} {l:List Oper}
theorem Sim.given2 (hs:Sim P X env H a w I μ O) (hb:Below w.heap.size w w') (hI:∀ b,I b→I' b) (hI':∀ b,I' b→b<w'.heap.size∧(b<w.heap.size→I b)) {r:AV} {v:Value} {bs:List Nat}
  (hr:ARep P w' I' μ r v bs) (hn:bs.Nodup) (hbs:∀ b∈bs,w.heap.size≤b∧b<w'.heap.size∧¬I' b):∃ O',Sim P X env H a w' I' μ O'∧Hand P w' I' μ O' r v:=by
 have h:=(hs.called hb hI hI').newR bs fun b hm=>by
  obtain ⟨h1,h2,h3⟩:=hbs b hm
  refine ⟨h2,.inl ?_,h3,fun hk=>by have:=hs.klt b hk;have:=hs.size;omega⟩
  cases hO:O b with
  | none=>rfl
  | some l=>have:=(hs.own b l hO).1;omega
 exact ⟨_,h,bs,hr,hn,fun b hm=>by simp [hm]⟩
theorem OpOK.vok {av:AV} {t:Nat} (hv:VOK P C o env H av) (hr:AI av=false) (hd:o.dst=some t) (ht:okT C.nt t) (hK:K (put env t av) H) : OpOK P C o env H K:=by
 intro X a w I μ O next Q h1 h2 h3 hs hn
 refine hv X a w I μ O next Q h1 h2 h3 hs fun v w' I' bs hb hI hI' hvr hnd hbs=>?_
 have har:ARep P w' I' μ av v bs:=by cases av<;>first|exact hvr|simp [AI] at hr
 obtain ⟨O',k1,k2⟩:=hs.given2 hb hI hI' har hnd hbs
 rw [hd]
 exact hn _ _ _ _ _ _ _ (k1.put_hand (by rw [h1];exact ht) k2) hK
theorem vk {av:AV} {t:Nat} (hv:VOK P C o env H av) (h:RL P C ops Q (k+1) l ((t,av)::env) H) (hg:grd ops env o true=true:=by rfl) (hd:o.dst=some t:=by rfl) (hr:AI av=false:=by rfl)
  (hf:Aj (get env t)=false:=by rfl) (ht:okT C.nt t:=by rfl):RL P C ops Q k (o::l) env H:=by
 rw [← Ak hf] at h
 exact .go hg (.vok hv hr hd ht h)
theorem VOK.val {av:AV} (hdef:∀ c,o.op≠.defer c) (h:∀ X a w I μ O,X.nt=C.nt→X.n0=C.n0→X.ne=C.ne→Sim P X env H a w I μ O →
  ∃ v w' I' bs,(execOp a.eval o).run P w=.ok (.value v) w'∧Below w.heap.size w w'∧(∀ b,I b→I' b)∧(∀ b,I' b→b<w'.heap.size∧(b<w.heap.size→I b))∧Wn P env H a w' I' μ av v bs∧bs.Nodup∧∀ b∈bs,w.heap.size≤b∧b<w'.heap.size∧¬I' b):VOK P C o env H av:=by
 intro X a w I μ O next Q h1 h2 h3 hs hn
 obtain ⟨v,w',I',bs,hr,q1,q2,q3,q4,q5,q6⟩:=h X a w I μ O h1 h2 h3 hs
 refine ⟨fun _ _=>trivial,?_⟩
 rw [Oper.semAt_eq _ _ _ hdef,hr,Oper.uponIn_value]
 exact hn v w' I' bs q1 q2 q3 q4 q5 q6
theorem vbx {x:Operand} {ty:Nat} {cs:List DV} (ho:o.op=.box ty x:=by rfl) (hv:A0 (lk env x)=some (.ag cs):=by rfl) : VOK P C o env H (.d (.ptr cs)) :=
 .val (by simp [ho]) fun X a w I μ O _ _ _ hs=>by
  have hr:=hs.deep (x:=x) hv
  generalize hev:a.eval x=u at hr
  cases hr with
  | ag _ vs hr =>
   refine ⟨.pointer (some ⟨w.heap.size,0,none⟩),w.alloc (.cells vs.toArray ty),fun b=>I b∨b=w.heap.size,[],?_,A7 _,fun b hi=>.inl hi,fun b hi=>?_,.d (.ptr cs w.heap.size 0 vs (.inr rfl) ?_ ?_),nN,by simp⟩
   ·simp only [execOp,ho,hev,Instr.box,Sem.run_bind,Eh,Result.andThen_ok,Sem.run_pure,Value.cells]
   ·rcases hi with hi|rfl
    ·exact ⟨nL (hs.ilt b hi) (A7 _).size,fun _=>hi⟩
    ·exact ⟨by simp,fun hlt=>absurd hlt (Nat.lt_irrefl _)⟩
   ·intro j u hj
    have hnew:(w.alloc (.cells vs.toArray ty)).heap[w.heap.size]?=some (.cells vs.toArray ty):=heap_alloc_new w _
    simp only [World.cell?,hnew]
    simpa using hj
   ·exact hr.keep (fun b hi=>(A7 _).block b (hs.ilt b hi)) fun b hi=>.inl hi
theorem vbn {x:Operand} {ty:Nat} {cs:List DV} (ho:o.op=.box ty x:=by rfl) (hv:A0 (lk env x)=some (.ag cs):=by rfl) : VOK P C o env H (.nb cs) :=
 .val (by simp [ho]) fun X a w I μ O _ _ _ hs=>by
  have hr:=hs.deep (x:=x) hv
  generalize hev:a.eval x=u at hr
  cases hr with
  | ag _ vs hr =>
   refine ⟨.pointer (some ⟨w.heap.size,0,none⟩),w.alloc (.cells vs.toArray ty),I,[w.heap.size],?_,A7 _,fun b hi=>hi,fun b hi=>⟨nL (hs.ilt b hi) (A7 _).size,fun _=>hi⟩,
    ARep.nb cs w.heap.size vs.toArray ty (heap_alloc_new w _) (hr.keep (fun b hi=>(A7 _).block b (hs.ilt b hi)) fun b hi=>hi),by simp,fun b hb=>?_⟩
   ·simp only [execOp,ho,hev,Instr.box,Sem.run_bind,Eh,Result.andThen_ok,Sem.run_pure,Value.cells]
   ·simp at hb;subst hb
    exact ⟨Nat.le_refl _,by simp,fun hi=>by have:=hs.ilt _ hi;omega⟩
theorem van {ty:Nat} {z:Value} {cs:List DV} (hz:∀ w,(zeroValue ty).run P w=.ok z w) (hcs:∀ w I,RepAll w I cs z.cells.toList) (ho:o.op=.alloc ty:=by rfl) : VOK P C o env H (.nb cs) :=
 .val (by simp [ho]) fun X a w I μ O _ _ _ hs=>by
  refine ⟨.pointer (some ⟨w.heap.size,0,none⟩),w.alloc (.cells z.cells ty),I,[w.heap.size],?_,A7 _,fun b hi=>hi,fun b hi=>⟨nL (hs.ilt b hi) (A7 _).size,fun _=>hi⟩,
   ARep.nb cs w.heap.size z.cells ty (heap_alloc_new w _) (hcs _ _),by simp,fun b hb=>?_⟩
  ·simp only [execOp,ho,Instr.alloc,Sem.run_bind,hz,Result.andThen_ok,Eh,Sem.run_pure]
  ·simp at hb;subst hb
   exact ⟨Nat.le_refl _,by simp,fun hi=>by have:=hs.ilt _ hi;omega⟩
theorem Sim.nb_inv (hs:Sim P X env H a w I μ O) {t:Nat} {cs:List DV} (hg:get env t=.nb cs) :
  ∃ blk cells e,a.tmps.getD t undef=.pointer (some ⟨blk,0,none⟩)∧w.heap[blk]?=some (.cells cells e (0,0))∧RepAll w I cs cells.toList∧O blk=some (.t t):=by
 have:=hs.envr t
 rw [hg] at this
 obtain ⟨bs,h1,h2,h3⟩:=this.plain rfl
 generalize a.tmps.getD t undef=v at h1
 cases h1 with
 | nb _ blk cells e hh hr=>exact ⟨blk,cells,e,rfl,hh,hr,h3 blk (by simp)⟩
theorem Sim.other_blk (hs:Sim P X env H a w I μ O) {t blk:Nat} (hO:O blk=some (.t t)) : (∀ b,I b→b≠blk)∧(∀ b,X.K b→b≠blk)∧∀ id ob bb bs,H[id]?=some ob→μ[id]?=some bb →
  (X.n0≤id→(bb::bs).Nodup∧∀ b∈bb::bs,O b=some (.o id))→(id<X.n0→∀ b∈bb::bs,X.K b)→∀ b∈bb::bs,b≠blk:=by
 refine ⟨fun b hi e=>?_,fun b hk e=>?_,fun id ob bb bs _ _ h3 h4 b hb e=>?_⟩
 ·subst e;exact (hs.own b _ hO).2 hi
 ·subst e;have:=hs.kO b hk;rw [hO] at this;cases this
 ·subst e
  rcases Nat.lt_or_ge id X.n0 with h|h
  ·have:=hs.kO b (h4 h b hb);rw [hO] at this;cases this
  ·have:=(h3 h).2 b hb;rw [hO] at this;cases this
theorem Sim.nbSet (hs:Sim P X env H a w I μ O) {t:Nat} {cs cs':List DV} (hg:get env t=.nb cs) {vs:List Value} (hr:RepAll w I cs' vs) :
  ∃ blk cells e,a.tmps.getD t undef=.pointer (some ⟨blk,0,none⟩)∧w.heap[blk]?=some (.cells cells e (0,0))∧RepAll w I cs cells.toList∧Sim P X ((t,.nb cs')::env) H a (w.setRow blk vs.toArray) I μ O:=by
 obtain ⟨blk,cells,e,h1,h2,h3,hO⟩:=hs.nb_inv hg
 obtain ⟨n1,n2,n3⟩:=hs.other_blk hO
 have hoth:∀ b,b≠blk→(w.setRow blk vs.toArray).heap[b]?=w.heap[b]?:=fun b hb=>setRow_other w blk b _ hb
 have hnew:=setRow_heap w blk cells vs.toArray e (0,0) h2
 refine ⟨blk,cells,e,h1,h2,h3,{hs.toMem with
  prot:=fun b hk=>(hoth b (n2 b hk)).trans (hs.prot b hk)
  os:=hs.os
  tape:=hs.tape
  output:=hs.output
  size:=by rw [setRow_size];exact hs.size
  own:=fun b l hl=>by rw [setRow_size];exact hs.own b l hl
  ilt:=fun b hi=>by rw [setRow_size];exact hs.ilt b hi
  heap:=fun id ob ho=>?_
  envr:=fun s=>?_
  nt:=hs.nt
  dfs:=hs.dfs}⟩
 ·obtain ⟨bb,bs,k1,k2,k3,k4⟩:=hs.heap id ob ho
  have hne:=n3 id ob bb bs ho k1 k3 k4
  refine ⟨bb,bs,k1,?_,k3,k4⟩
  cases ob with
  | box c =>
   obtain ⟨cl,et,m1,m2⟩:=k2
   exact ⟨cl,et,(hoth bb (hne bb (by simp))).trans m1,m2.keep (fun _ h=>h) (fun b hi=>hoth b (n1 b hi)) (fun _ _ h=>h) fun b hb=>hoth b (hne b (by simp [hb]))⟩
  | mo _ _=>exact ⟨k2.1,k2.2.keep (hoth bb (hne bb (by simp))) (fun b hi=>hoth b (n1 b hi)) fun _ h=>h⟩
 ·by_cases hst:t=s
  ·subst hst
   rw [show get ((t,.nb cs')::env) t=.nb cs' by simp [get]]
   refine .of (bs:=[blk]) ?_ (by simp) (by simpa using hO)
   rw [h1]
   exact .nb cs' blk vs.toArray e hnew (hr.keep (fun b hi=>hoth b (n1 b hi)) fun _ h=>h)
  ·rw [show get ((t,.nb cs')::env) s=get env s by simp [get,hst]]
   have key:∀ p e xs,AB env H p=.own e xs→AB ((t,AV.nb cs')::env) H p=.own e xs∧∀ v,AR a w μ p=some v→AR a (w.setRow blk vs.toArray) μ p=some v:=by
    intro p e' xs hp
    cases p with
    | t r =>
     have hr':t≠r:=fun h=>by subst h;simp only [AB] at hp;rw [hg] at hp;cases hp
     exact ⟨by simp only [AB,get,if_neg hr'];exact hp,fun v hv=>hv⟩
    | c id off =>
     refine ⟨hp,fun v hv=>?_⟩
     simp only [AR,Option.bind_eq_some_iff] at hv ⊢
     obtain ⟨bb,hb1,hb2⟩:=hv
     refine ⟨bb,hb1,?_⟩
     simp only [AB] at hp
     cases hH:H[id]? with
     | none=>rw [hH] at hp;cases hp
     | some ob =>
      obtain ⟨bb',bs,k1,k2,k3,k4⟩:=hs.heap id ob hH
      rw [hb1] at k1;cases k1
      rw [World.cell?_of_block (w:=w) (a:=⟨bb,off,none⟩) (hoth bb (n3 id ob bb bs hH hb1 k3 k4 bb (by simp)))]
      exact hb2
   have ht:=hs.envr s
   cases hgs:get env s with
   | ref p off len =>
    rw [hgs] at ht
    obtain ⟨e',xs,A,n,c,g1,g2,g3,g4⟩:=ht
    exact ⟨e',xs,A,n,c,(key p e' xs g1).1,(key p e' xs g1).2 _ g2,g3,g4⟩
   | ep p i k =>
    rw [hgs] at ht
    obtain ⟨e',xs,b,n,c,g1,g2,g3,g4,g5⟩:=ht
    exact ⟨e',xs,b,n,c,(key p e' xs g1).1,(key p e' xs g1).2 _ g2,g3,g4,g5⟩
   | _ =>
    rw [hgs] at ht
    obtain ⟨bs,g1,g2,g3⟩:=ht.plain rfl
    exact .of (g1.keep (fun _ h=>h) (fun b hi=>hoth b (n1 b hi)) (fun _ _ h=>h) fun b hb=>hoth b fun e=>by
     subst e
     have:=g3 b hb;rw [hO] at this;simp at this;exact hst this) g2 g3
theorem HE {y:Operand} {t ty n:Nat} {cs cs':List DV} (hsz:Av P ty=n) (hn:0<n) (ho:o.op=.store ty (.tmp t) y) (hv:get env t=.nb cs) (hy:A0 (lk env y)=some (.ag cs')) (hl:cs.length=n) (hl':cs'.length=n)
  (h1:cs'.all DV.leaf=true) (hd:o.dst=none) (hK:K ((t,.nb cs')::env) H):OpOK P C o env H K:=by
 refine .done (by simp [ho]) hd (fun X a w I μ O _ _ _ hs=>?_) hK
 have hr:=hs.deep (x:=y) hy
 generalize hev:a.eval y=u at hr
 cases hr with
 | ag _ vs hr =>
  obtain ⟨blk,cells,e,q1,q2,q3,q4⟩:=hs.nbSet hv hr
  refine ⟨_,I,μ,O,?_,q4⟩
  have hone:=hr.one h1
  have hvl:vs.length=n:=by rw [← hr.length];exact hl'
  have hcl:cells.size=n:=by rw [← Array.length_toList,← q3.length];exact hl
  obtain ⟨i,i1,i2⟩:=GX (P:=P) (t:=ty) (by omega)
  have hx:a.eval (.tmp t)=.pointer (some ⟨blk,0,none⟩):=q1
  have hsi:(P.info? ty).map (·.size)=some vs.toArray.size:=by rw [i1];simp;omega
  simp only [execOp,ho,hx,hev,Instr.storeAt,Instr.sureAddr,Sem.run_bind,Sem.run_pure,Result.andThen_ok,run_storeVar_row w blk e ty cells vs.toArray q2 hsi (by simp;omega) (by
   rw [Array.all_eq_true_iff_forall_mem];intro v hv;exact hone v (by simpa using hv))]
theorem stn {y:Operand} {t ty n:Nat} {cs cs':List DV} (h:RL P C ops Q (k+1) l ((t,.nb cs')::env) H) (hsz:Av P ty=n) (hn:0<n) (hg:grd ops env o true=true:=by rfl) (ho:o.op=.store ty (.tmp t) y:=by rfl)
  (hv:get env t=.nb cs:=by rfl) (hy:A0 (lk env y)=some (.ag cs'):=by rfl) (hl:cs.length=n:=by rfl) (hl':cs'.length=n:=by rfl) (h1:cs'.all DV.leaf=true:=by rfl) (hd:o.dst=none:=by rfl):RL P C ops Q k (o::l) env H :=
 .go hg (HE hsz hn ho hv hy hl hl' h1 hd h)
theorem Gh.nbp {t:Nat} {cs:List DV} (hg:get env t=.nb cs) : Gh P C env H ((t,.d (.ptr cs))::env) H:=fun X a w I μ O _ _ _ hs=>by
 obtain ⟨blk,cells,e,h1,h2,h3,hO⟩:=hs.nb_inv hg
 obtain ⟨n1,n2,n3⟩:=hs.other_blk hO
 refine ⟨_,_,⟨hs.toMem.frz [blk] (fun b hm=>by simp at hm;subst hm;exact (hs.own b _ hO).1) (fun b hm hk=>by simp at hm;exact n2 b hk hm) H rfl ?_,fun s=>?_,hs.nt,hs.dfs⟩⟩
 ·intro id ob ho
  obtain ⟨bb,bs,k1,k2,k3,k4⟩:=hs.heap id ob ho
  refine ⟨bb,bs,k1,k2.mono fun _ h=>.inl h,fun hn=>⟨(k3 hn).1,fun b hb=>?_⟩,k4⟩
  have:b∉[blk]:=by simpa using n3 id ob bb bs ho k1 k3 k4 b hb
  simp only [this,if_false]
  exact (k3 hn).2 b hb
 ·by_cases hst:t=s
  ·subst hst
   rw [show get ((t,.d (.ptr cs))::env) t=.d (.ptr cs) by simp [get]]
   refine .of (bs:=[]) ?_ nN (by simp)
   rw [h1]
   refine .d (.ptr cs blk 0 cells.toList (.inr (by simp)) ?_ (h3.keep (fun _ _=>rfl) fun _ h=>.inl h))
   intro j u hj
   simp [World.cell?,h2]
   simpa using hj
  ·rw [show get ((t,.d (.ptr cs))::env) s=get env s by simp [get,hst]]
   have key:∀ p e xs,AB env H p=.own e xs→AB ((t,AV.d (.ptr cs))::env) H p=.own e xs:=by
    intro p e' xs hp
    cases p with
    | t r =>
     have hr':t≠r:=fun h=>by subst h;simp only [AB] at hp;rw [hg] at hp;cases hp
     simp only [AB,get,if_neg hr'];exact hp
    | c id off=>exact hp
   have ht:=hs.envr s
   cases hgs:get env s with
   | ref p off len =>
    rw [hgs] at ht
    obtain ⟨e',xs,A,n,c,g1,g2,g3,g4⟩:=ht
    exact ⟨e',xs,A,n,c,key p e' xs g1,g2,g3,g4⟩
   | ep p i k =>
    rw [hgs] at ht
    obtain ⟨e',xs,b,n,c,g1,g2,g3,g4,g5⟩:=ht
    exact ⟨e',xs,b,n,c,key p e' xs g1,g2,g3,g4,g5⟩
   | _ =>
    rw [hgs] at ht
    obtain ⟨bs,g1,g2,g3⟩:=ht.plain rfl
    refine .of (g1.keep (fun _ h=>.inl h) (fun _ _=>rfl) (fun _ _ h=>h) fun _ _=>rfl) g2 fun b hb=>?_
    have:b∉[blk]:=fun hm=>by
     simp at hm;subst hm
     have:=g3 b hb;rw [hO] at this;simp at this;exact hst this
    simp only [this,if_false]
    exact g3 b hb
theorem RepAll.toA : ∀ {cs:List DV} {vs:List Value},RepAll w I cs vs→ARepAll P w I μ (cs.map .d) vs []
 | _,_,.nil=>.nil
 | _,_,.cons h t=>ARepAll.cons (b1:=[]) (.d h) t.toA
def Gh2 (P:Program) (C:Cx) (env:Env) (H:Ab) (env':Env) (H':Ab) : Prop :=
 ∀ X a w I μ O,X.nt=C.nt→X.n0=C.n0→X.ne=C.ne→Sim P X env H a w I μ O→∃ I' μ' O',Sim P X env' H' a w I' μ' O'
theorem AW.gh2 {c:Code} (g:Gh2 P C env H env' H') (h:AW P C c Q env' H') : AW P C c Q env H:=fun X a w I μ O h1 h2 h3 hs =>
 let ⟨I',μ',O',hs'⟩:=g X a w I μ O h1 h2 h3 hs;h X a w I' μ' O' h1 h2 h3 hs'
theorem RL.gh2 (g:Gh2 P C env H env' H') (h:RL P C ops Q k l env' H') : RL P C ops Q k l env H:=fun hl X a w I μ O h1 h2 h3 hs =>
 let ⟨I',μ',O',hs'⟩:=g X a w I μ O h1 h2 h3 hs;h hl X a w I' μ' O' h1 h2 h3 hs'
theorem Gh.nbb {t:Nat} {cs:List DV} (hg:get env t=.nb cs) : Gh2 P C env H ((t,.bp H.length 0)::env) (H++[.box (cs.map .d)]):=fun X a w I μ O _ _ _ hs=>by
 obtain ⟨blk,cells,e,h1,h2,h3,hO⟩:=hs.nb_inv hg
 obtain ⟨n1,n2,n3⟩:=hs.other_blk hO
 have hμ:∀ (i b:Nat),μ[i]?=some b→(μ++[blk])[i]?=some b:=fun i b h=>by
  rw [List.getElem?_append_left (lS.1 h).1];exact h
 have hlast:(μ++[blk])[H.length]?=some blk:=by rw [← hs.μlen];simp
 have hO':∀ b l,O b=some l→b≠blk→(if b=blk then some (Loc.o H.length) else O b)=some l:=fun b l h hb=>by rw [if_neg hb];exact h
 have hOt:∀ b s,O b=some (.t s)→s≠t→b≠blk:=fun b s h hst e=>by subst e;rw [hO] at h;simp at h;exact hst h.symm
 refine ⟨I,μ++[blk],fun b=>if b=blk then some (.o H.length) else O b,{hs.toMem with
  kO:=fun b hk=>by rw [if_neg (n2 b hk)];exact hs.kO b hk
  own:=fun b l hl=>by
   by_cases hb:b=blk
   ·subst hb;exact hs.own b _ hO
   ·rw [if_neg hb] at hl;exact hs.own b l hl
  μlen:=by simp [hs.μlen]
  μpre:=fun i b hi hb=>hμ i b (hs.μpre i b hi hb)
  nle:=by simp;have:=hs.nle;omega
  heap:=fun id ob ho=>?_
  envr:=fun s=>?_
  nt:=hs.nt
  dfs:=hs.dfs}⟩
 ·rcases Nat.lt_or_ge id H.length with hlt|hge
  ·rw [List.getElem?_append_left hlt] at ho
   obtain ⟨bb,bs,k1,k2,k3,k4⟩:=hs.heap id ob ho
   have hne:=n3 id ob bb bs ho k1 k3 k4
   refine ⟨bb,bs,hμ _ _ k1,?_,fun hn=>⟨(k3 hn).1,fun b hb=>hO' b _ ((k3 hn).2 b hb) (hne b hb)⟩,k4⟩
   cases ob with
   | box c =>
    obtain ⟨cl,et,m1,m2⟩:=k2
    exact ⟨cl,et,m1,m2.keep (fun _ h=>h) (fun _ _=>rfl) hμ fun _ _=>rfl⟩
   | mo _ _=>exact k2
  ·rw [List.getElem?_append_right hge] at ho
   have hid:id=H.length:=by
    have:=(lS.1 ho).1;simp at this;omega
   subst hid
   simp at ho;subst ho
   refine ⟨blk,[],hlast,⟨cells,e,h2,h3.toA⟩,fun _=>⟨by simp,fun b hb=>?_⟩,fun hn=>?_⟩
   ·simp at hb;subst hb;rw [if_pos rfl]
   ·have:=hs.nle;have:=hs.n0le;omega
 ·by_cases hst:t=s
  ·subst hst
   rw [show get ((t,.bp H.length 0)::env) t=.bp H.length 0 by simp [get]]
   refine .of (bs:=[]) ?_ nN (by simp)
   rw [h1]
   exact .bp _ _ _ hlast
  ·rw [show get ((t,.bp H.length 0)::env) s=get env s by simp [get,hst]]
   have key:∀ p e xs,AB env H p=.own e xs→AB ((t,AV.bp H.length 0)::env) (H++[.box (cs.map .d)]) p=.own e xs∧∀ v,AR a w μ p=some v→AR a w (μ++[blk]) p=some v:=by
    intro p e' xs hp
    cases p with
    | t r =>
     have hr':t≠r:=fun h=>by subst h;simp only [AB] at hp;rw [hg] at hp;cases hp
     exact ⟨by simp only [AB,get,if_neg hr'];exact hp,fun v hv=>hv⟩
    | c id off =>
     refine ⟨?_,fun v hv=>?_⟩
     ·simp only [AB] at hp ⊢
      cases hH:H[id]? with
      | none=>rw [hH] at hp;cases hp
      | some ob=>rw [List.getElem?_append_left (lS.1 hH).1,hH];rw [hH] at hp;exact hp
     ·simp only [AR,Option.bind_eq_some_iff] at hv ⊢
      obtain ⟨bb,hb1,hb2⟩:=hv
      exact ⟨bb,hμ _ _ hb1,hb2⟩
   have ht:=hs.envr s
   cases hgs:get env s with
   | ref p off len =>
    rw [hgs] at ht
    obtain ⟨e',xs,A,n,c,g1,g2,g3,g4⟩:=ht
    exact ⟨e',xs,A,n,c,(key p e' xs g1).1,(key p e' xs g1).2 _ g2,g3,g4⟩
   | ep p i k =>
    rw [hgs] at ht
    obtain ⟨e',xs,b,n,c,g1,g2,g3,g4,g5⟩:=ht
    exact ⟨e',xs,b,n,c,(key p e' xs g1).1,(key p e' xs g1).2 _ g2,g3,g4,g5⟩
   | _ =>
    rw [hgs] at ht
    obtain ⟨bs,g1,g2,g3⟩:=ht.plain rfl
    exact .of (g1.keep (fun _ h=>h) (fun _ _=>rfl) hμ fun _ _=>rfl) g2 fun b hb=>hO' b _ (g3 b hb) (hOt b s (g3 b hb) fun e=>hst e.symm)
end
end Go.FL
namespace Go.FL
open Go Go.RowKit
def SO : List DV→Nat→List DV→List DV
 | zs,_,[]=>zs
 | zs,off,c::cs=>SO (zs.set off c) (off+1) cs
def Rd (places:List (Nat×Nat)) : List DV→List (Nat×DV)→Option (List DV)
 | zs,[]=>some zs
 | zs,(i,d)::r=>match places[i]? with
  | none=>none
  | some (off,n)=>if d.flat&&Nat.beq d.cells.length n&&Nat.ble (off+n) zs.length then Rd places (SO zs off d.cells) r else none
def CR (P:Program) (t:Nat) : Option (List (Nat×Nat)) :=
 match P.underlying t with
 | some (.struct fields)=>fields.toList.mapM (fun f=>(P.info? f.type).map fun i=>(f.offset,i.size))
 | _=>none
def Gb (env:Env) : List (Nat×Operand)→Option (List (Nat×DV))
 | []=>some []
 | (i,x)::r=>match A0 (lk env x),Gb env r with
  | some v,some vs=>some ((i,v)::vs)
  | _,_=>none
def PD : List AV→Option (List DV)
 | []=>some []
 | .d v::r=>(PD r).map (v::·)
 | .nl::r=>(PD r).map (.sl []::·)
 | _::_=>none
section
variable {P:Program} {C:Cx} {X:Snap} {o:Oper} {ops:Array Oper} {Q:Exit→Env→Ab→Prop} {env env':Env} {H H':Ab} {a:Act} {w w':World} {I I':Nat→Prop} {μ μ':List Nat} {O O':Nat→Option Loc}
 {K:Env→Ab→Prop} {k:Nat} {l:List Oper}
theorem N8 (off:Nat) : ∀ {cs:List DV} {us:List Value} (k:Nat) {zs:List DV} {cells:Array Value},RepAll w I cs us→RepAll w I zs cells.toList →
  RepAll w I (SO zs (off+k) cs) ((us.zipIdx k).foldl (fun (cs:Array Value) x=>cs.setIfInBounds (off+x.2) x.1) cells).toList
 | _,_,k,zs,cells,.nil,hz=>hz
 | _,_,k,zs,cells,.cons (c:=c) (v:=v) h t,hz=>by
  rw [List.zipIdx_cons,List.foldl_cons,SO]
  exact N8 off (k+1) t (by rw [Array.toList_setIfInBounds];exact hz.set _ h)
theorem QY {places:List (Nat×Nat)} : ∀ {ps:List (Nat×DV)} {vs:List (Nat×Value)} {zs cs:List DV} {cells:Array Value},Rd places zs ps=some cs→RepAll w I zs cells.toList →
  vs.map (·.1)=ps.map (·.1)→RepAll w I (ps.map (·.2)) (vs.map (·.2))→∃ cells',Instr.fill (places.toArray[·]?) cells vs=some cells'∧RepAll w I cs cells'.toList
 | [],vs,zs,cs,cells,h,hz,h1,h2=>by
  have:vs=[]:=by simpa using h1
  subst this
  simp only [Rd,Option.some.injEq] at h;subst h
  exact ⟨cells,rfl,hz⟩
 | (i,d)::ps,[],zs,cs,cells,h,hz,h1,h2=>by simp at h1
 | (i,d)::ps,(j,v)::vs,zs,cs,cells,h,hz,h1,h2=>by
  simp only [List.map_cons,List.cons.injEq] at h1
  obtain ⟨rfl,h1⟩:=h1
  simp only [List.map_cons] at h2
  cases h2 with
  | cons hd ht =>
   simp only [Rd] at h
   cases hp:places[j]? with
   | none=>rw [hp] at h;cases h
   | some on =>
    obtain ⟨off,n⟩:=on
    rw [hp] at h
    simp only at h
    split at h
    ·rename_i hc
     simp only [Bool.and_eq_true,Nat.ble_eq] at hc
     obtain ⟨⟨c1,c2⟩,c3⟩:=hc
     obtain ⟨k1,k2⟩:=hd.vcells c1
     have hvl:v.cells.size=n:=by rw [← Array.length_toList,← k1.length];exact Nat.eq_of_beq_eq_true c2
     have hzl:cells.size=zs.length:=by rw [← Array.length_toList,← hz.length]
     have hs:=N8 (w:=w) (I:=I) off 0 (zs:=zs) (cells:=cells) k1 hz
     obtain ⟨cells',f1,f2⟩:=QY h hs h1 ht
     refine ⟨cells',?_,f2⟩
     have hp':places.toArray[j]?=some (off,n):=by simpa using hp
     simp only [Instr.fill,hp']
     rw [if_neg (by simp;omega)]
     rw [← f1]
     congr 1
     rw [← Array.foldl_toList]
     simp
    ·cases h
theorem vbd {ty:Nat} {parts:Array (Nat×Operand)} {places:List (Nat×Nat)} {z:Value} {zs cs:List DV} {ps:List (Nat×DV)} (hp:CR P ty=some places) (hz:(P.info? ty).bind (·.zero)=some z) (hzr:∀ w I,RepAll w I zs z.cells.toList)
  (ho:o.op=.build ty parts:=by rfl) (hps:Gb env parts.toList=some ps:=by rfl) (hf:Rd places zs ps=some cs:=by rfl):VOK P C o env H (.d (.ag cs)) :=
 .val (by simp [ho]) fun X a w I μ O _ _ _ hs=>by
  have key:∀ {xs:List (Nat×Operand)} {ps:List (Nat×DV)},Gb env xs=some ps→(xs.map fun x=>(x.1,a.eval x.2)).map (·.1)=ps.map (·.1)∧RepAll w I (ps.map (·.2)) ((xs.map fun x=>(x.1,a.eval x.2)).map (·.2)):=by
   intro xs
   induction xs with
   | nil=>intro ps h;simp only [Gb,Option.some.injEq] at h;subst h;exact ⟨rfl,.nil⟩
   | cons x xs ih =>
    intro ps h
    obtain ⟨i,x⟩:=x
    simp only [Gb] at h
    cases h1:A0 (lk env x) with
    | none=>rw [h1] at h;cases h
    | some v =>
     cases h2:Gb env xs with
     | none=>rw [h1,h2] at h;cases h
     | some vs =>
      rw [h1,h2] at h
      simp only [Option.some.injEq] at h;subst h
      obtain ⟨q1,q2⟩:=ih h2
      exact ⟨by simp only [List.map_cons];rw [q1],.cons (hs.deep h1) q2⟩
  obtain ⟨k1,k2⟩:=key hps
  obtain ⟨cells,f1,f2⟩:=QY hf (hzr w I) k1 k2
  have hb:P.built ty (parts.map fun x=>(x.1,a.eval x.2)).toList=some cells:=by
   unfold CR at hp
   unfold Program.built
   cases hi:P.info? ty with
   | none=>rw [hi] at hz;cases hz
   | some it =>
    rw [hi] at hz
    simp only [oB] at hz
    split at hp
    ·rename_i fields hu
     simp only [hu,hz,hp]
     rw [Array.toList_map];exact f1
    ·cases hp
  refine ⟨.agg cells,w,I,[],?_,Below.refl _ _,fun _ h=>h,fun b hi=>⟨hs.ilt b hi,fun _=>hi⟩,.d ?_,nN,by simp⟩
  ·simp only [execOp,ho,Sem.run_bind]
   have:=run_build (P:=P) w ty (parts.map fun x=>(x.1,a.eval x.2)) cells hb
   rw [show (parts.map fun x=>match x with|(i,x)=>(i,a.eval x))=parts.map (fun (x:Nat×Operand)=>(x.1,a.eval x.2)) from rfl,this]
   simp only [Result.andThen_ok,Sem.run_pure]
  ·have:=Rep.ag cs cells.toList f2
   simpa using this
theorem Ap {x:Operand} {ty n:Nat} {cs:List DV} (hag:BH P ty=some true) (hn:Av P ty=n) (hn0:0<n:=by decide) (ho:o.op=.load ty x:=by rfl) (hv:lk env x=.d (.ptr cs):=by rfl) (hc:Nat.ble n cs.length=true:=by rfl) :
  VOK P C o env H (.d (.ag (cs.take n))):=by
 obtain ⟨h1,h2⟩:=Ar hv (by simp)
 exact .pv (Sl ho h1 hag hn hn0 h2 (Nat.le_of_ble_eq_true hc))
theorem H6 {x:Operand} {ty id off:Nat} {cs:List AV} {c:DV} (hH:H[id]?=some (.box cs)) (hc:cs[off]?=some (.d c)) (hag:BH P ty=some false) (ho:o.op=.load ty x:=by rfl) (hv:lk env x=.bp id off:=by rfl) : VOK P C o env H (.d c):=by
 obtain ⟨h1,h2⟩:=Ar hv (by simp)
 exact .pv (Ox ho h1 hag h2 hH hc rfl)
theorem J3 : ∀ {cs:List AV} {ds:List DV} {vs:List Value} {bs:List Nat},PD cs=some ds→ARepAll P w I μ cs vs bs→RepAll w I ds vs
 | [],_,_,_,h,.nil=>by simp only [PD,Option.some.injEq] at h;subst h;exact .nil
 | c::cs,ds,_,_,h,.cons hh ht=>by
  cases c with
  | d v =>
   simp only [PD,Option.map_eq_some_iff] at h
   obtain ⟨r,h1,rfl⟩:=h
   cases hh with
   | d hh=>exact .cons hh (J3 h1 ht)
  | nl =>
   simp only [PD,Option.map_eq_some_iff] at h
   obtain ⟨r,h1,rfl⟩:=h
   cases hh with
   | nl=>exact .cons (.sl0 _ _) (J3 h1 ht)
  | _=>simp [PD] at h
theorem Kn {x:Operand} {ty id n:Nat} {cs:List AV} {ds:List DV} (hH:H[id]?=some (.box cs)) (hag:BH P ty=some true) (hn:Av P ty=n) (hn0:0<n:=by decide) (ho:o.op=.load ty x:=by rfl) (hv:lk env x=.bp id 0:=by rfl)
  (hd:PD cs=some ds:=by rfl) (hl:ds.length=n:=by rfl):VOK P C o env H (.d (.ag ds)):=by
 obtain ⟨h1,h2⟩:=Ar hv (by simp)
 refine .val (by simp [ho]) fun X a w I μ O _ _ _ hs=>?_
 obtain ⟨blk,hm,he⟩:=hs.bp h1 h2
 obtain ⟨blk',bs,k1,⟨cells,et,m1,m2⟩,_,_⟩:=hs.heap id _ hH
 rw [hm] at k1;cases k1
 have hr:=J3 hd m2
 have hh:Has w blk 0 cells.toList:=fun j u hj=>by simp only [World.cell?,m1,Nat.zero_add];simpa using hj
 refine ⟨.agg cells.toList.toArray,w,I,[],?_,Below.refl _ _,fun _ h=>h,fun b hi=>⟨hs.ilt b hi,fun _=>hi⟩,.d (.ag ds cells.toList hr),nN,by simp⟩
 simp only [execOp,ho,Instr.loadAt,he,Instr.sureAddr,Sem.run_bind,Sem.run_pure,Result.andThen_ok,BX hag hn hn0 hh (by rw [← hr.length];exact hl)]
theorem Dv {t ty n:Nat} {cs:List DV} (hag:BH P ty=some true) (hn:Av P ty=n) (hn0:0<n:=by decide) (ho:o.op=.load ty (.tmp t):=by rfl) (hv:get env t=.nb cs:=by rfl) (hl:cs.length=n:=by rfl) : VOK P C o env H (.d (.ag cs)):=by
 refine .val (by simp [ho]) fun X a w I μ O _ _ _ hs=>?_
 obtain ⟨blk,cells,e,h1,h2,h3,_⟩:=hs.nb_inv hv
 have he:a.eval (.tmp t)=.pointer (some ⟨blk,0,none⟩):=h1
 have hh:Has w blk 0 cells.toList:=fun j u hj=>by simp only [World.cell?,h2,Nat.zero_add];simpa using hj
 refine ⟨.agg cells.toList.toArray,w,I,[],?_,Below.refl _ _,fun _ h=>h,fun b hi=>⟨hs.ilt b hi,fun _=>hi⟩,.d (.ag cs cells.toList h3),nN,by simp⟩
 simp only [execOp,ho,Instr.loadAt,he,Instr.sureAddr,Sem.run_bind,Sem.run_pure,Result.andThen_ok,BX hag hn hn0 hh (by rw [← h3.length];exact hl)]
theorem vfa {x:Operand} {s f off n:Nat} {cs:List DV} (hf:Br P s f=some (off,n)) (hn:0<n:=by decide) (ho:o.op=.fieldAddr s x f:=by rfl) (hv:lk env x=.d (.ptr cs):=by rfl) : VOK P C o env H (.d (.ptr (cs.drop off))):=by
 obtain ⟨h1,h2⟩:=Ar hv (by simp)
 exact .pv (Sx ho h1 hf hn h2)
theorem Gw {x:Operand} {s f off n id p:Nat} (hf:Br P s f=some (off,n)) (hn:0<n:=by decide) (ho:o.op=.fieldAddr s x f:=by rfl) (hv:lk env x=.bp id p:=by rfl) : VOK P C o env H (.bp id (p+off)):=by
 obtain ⟨h1,h2⟩:=Ar hv (by simp)
 exact .pv (Ud ho h1 hf hn h2)
theorem vfd {x:Operand} {s f off:Nat} {c:DV} {cs:List DV} {ft:TypeId} (hf:Br P s f=some (off,1)) (hft:∃ fs fl,P.underlying s=some (.struct fs)∧fs[f]?=some fl∧fl.type=ft) (hag:BH P ft=some false)
  (hv:lk env x=.d (.ag cs)) (hc:cs[off]?=some c) (ho:o.op=.field s x f:=by rfl):VOK P C o env H (.d c):=by
 refine .val (by simp [ho]) fun X a w I μ O _ _ _ hs=>?_
 have hr:=hs.deep (x:=x) (v:=.ag cs) (by rw [hv];rfl)
 obtain ⟨fs,fl,i,g1,g2,g3,g4,g5⟩:=Gz hf
 obtain ⟨fs',fl',e1,e2,e3⟩:=hft
 rw [g1] at e1;cases e1
 rw [g2] at e2;cases e2
 subst e3
 generalize hev:a.eval x=u at hr
 cases hr with
 | ag _ vs hr =>
  obtain ⟨v,k1,k2⟩:=hr.get off c hc
  refine ⟨v,w,I,[],?_,Below.refl _ _,fun _ h=>h,fun b hi=>⟨hs.ilt b hi,fun _=>hi⟩,.d k2,nN,by simp⟩
  have hoff:vs[fl.offset]?=some v:=by rw [g3];exact k1
  simp [execOp,ho,hev,Instr.field,run_underlying g1,g2,part,Hm hag,asAgg,hoff]
theorem VOK.tupd {vs:List DV} (h:VOK P C o env H (.tup (vs.map .d))) : VOK P C o env H (.d (.tup vs)):=by
 intro X a w I μ O next Q h1 h2 h3 hs hn
 refine h X a w I μ O next Q h1 h2 h3 hs fun v w' I' bs k1 k2 k3 k4 k5 k6=>hn v w' I' bs k1 k2 k3 ?_ k5 k6
 have key:∀ {vs:List DV} {us:List Value} {bs:List Nat},ARepAll P w' I' μ (vs.map .d) us bs→RepAll w' I' vs us∧bs=[]:=by
  intro vs
  induction vs with
  | nil=>intro us bs h;cases h;exact ⟨.nil,rfl⟩
  | cons v vs ih =>
   intro us bs h
   cases h with
   | cons hh ht =>
    obtain ⟨q1,rfl⟩:=ih ht
    cases hh with
    | d hh=>exact ⟨.cons hh q1,rfl⟩
 replace k4:ARep P w' I' μ (.tup (vs.map .d)) v bs:=k4
 cases k4 with
 | tup k4 =>
  obtain ⟨q1,rfl⟩:=key k4
  exact .d (.tup vs _ q1)
theorem vex {x:Operand} {i:Nat} {vs:List DV} {c:DV} (ho:o.op=.extract x i:=by rfl) (hv:lk env x=.d (.tup vs):=by rfl) (hc:vs[i]?=some c:=by rfl) : VOK P C o env H (.d c):=by
 refine .val (by simp [ho]) fun X a w I μ O _ _ _ hs=>?_
 have hr:=hs.deep (x:=x) (v:=.tup vs) (by rw [hv];rfl)
 generalize hev:a.eval x=u at hr
 cases hr with
 | tup _ us hr =>
  obtain ⟨v,k1,k2⟩:=hr.get i c hc
  refine ⟨v,w,I,[],?_,Below.refl _ _,fun _ h=>h,fun b hi=>⟨hs.ilt b hi,fun _=>hi⟩,.d k2,nN,by simp⟩
  have:us.toArray[i]?=some v:=by simpa using k1
  simp [execOp,ho,hev,Instr.extract,this]
end
end Go.FL
namespace Go.FL
open Go Go.RowKit
def cellD (P:Program) (env:Env) (t ty:Nat) (cs:List DV) : Prop:=(get env t=.d (.ptr cs)∨get env t=.nb cs)∧BH P ty=some true∧Av P ty=cs.length∧0<cs.length
def Uz (P:Program) (env:Env) (r:AV) : List ResultVar→Prop
 | [.cell t ty]=>∃ cs,cellD P env t ty cs∧r=.d (.ag cs)
 | [.cell t ty,.tmp u]=>∃ cs v,cellD P env t ty cs∧A0 (get env u)=some v∧r=.tup [.d (.ag cs),.d v]
 | _=>False
def Abc (P:Program) (rs:List ResultVar) (r:AV) : Exit→Env→Ab→Prop
 | .normal,env,_=>Uz P env r rs
 | .ret,env,_=>Uz P env r rs
 | _,_,_=>False
section
variable {P:Program} {X:Snap} {env:Env} {H:Ab} {a:Act} {w:World} {I:Nat→Prop} {μ:List Nat} {O:Nat→Option Loc}
theorem Sim.cellD (hs:Sim P X env H a w I μ O) {t ty:Nat} {cs:List DV} (h:Go.FL.cellD P env t ty cs) : ∃ p v,a.tmps.getD t undef=.pointer (some p)∧(loadVar ty p).run P w=.ok v w∧Rep w I (.ag cs) v:=by
 obtain ⟨h1,h2,h3,h4⟩:=h
 rcases h1 with h1|h1
 ·have:=hs.envr t
  rw [h1] at this
  obtain ⟨bs,g1,_⟩:=this.plain rfl
  generalize a.tmps.getD t undef=u at g1
  cases g1 with
  | d g1 =>
   cases g1 with
   | ptr _ b off vs k1 k2 k3=>exact ⟨_,_,rfl,BX h2 h3 h4 k2 k3.length.symm,.ag _ _ k3⟩
 ·obtain ⟨blk,cells,e,g1,g2,g3,_⟩:=hs.nb_inv h1
  have hh:Has w blk 0 cells.toList:=fun j u hj=>by simp only [World.cell?,g2,Nat.zero_add];simpa using hj
  exact ⟨_,_,g1,BX h2 h3 h4 hh g3.length.symm,.ag _ _ g3⟩
theorem Sim.deepT (hs:Sim P X env H a w I μ O) {t:Nat} {v:DV} (h:A0 (get env t)=some v) : Rep w I v (a.tmps.getD t undef):=hs.deep (x:=.tmp t) h
theorem Sim.resultsC (hs:Sim P X env H a w I μ O) {fn:Func} {rs:List ResultVar} (hrs:fn.results=rs.toArray) {r:AV} (h:Uz P env r rs) :
  ∃ v bs,(Go.results fn a.tmps).run P w=.ok v w∧ARep P w I μ r v bs∧bs.Nodup∧∀ b∈bs,∃ l,O b=some l:=by
 unfold Uz at h
 split at h
 ·rename_i t ty
  obtain ⟨cs,h1,rfl⟩:=h
  obtain ⟨p,v,k1,k2,k3⟩:=hs.cellD h1
  refine ⟨v,[],?_,.d k3,nN,by simp⟩
  have hx:(do let x ← (do loadVar ty (← asAddr (a.tmps.getD t undef)));pure x).run P w=.ok v w:=by rw [k1];simp [asAddr,k2]
  simp only [Go.results,hrs]
  simpa using hx
 ·obtain ⟨cs,u,h1,h2,rfl⟩:=h
  obtain ⟨p,v,k1,k2,k3⟩:=hs.cellD h1
  refine ⟨_,[],(results_cell_tmp (by rw [hrs]) _ _ _).trans (by rw [k1];simp [asAddr,k2]),.tup (us:=[v,_]) (ARepAll.cons (b1:=[]) (.d k3) (ARepAll.cons (b1:=[]) (.d (hs.deepT h2)) .nil)),nN,by simp⟩
 ·exact h.elim
theorem Fn.ofC {f:FuncId} {fn:Func} {c:Code} {args:List DV} {r:AV} {rs:List ResultVar} {nt:Nat} (hf:P.funcs[f]?=some fn) (hb:fn.body=some c) (hrs:fn.results=rs.toArray) (hnt:fn.ntmps=nt) (hn:args.length≤nt) (hbp:noBp r=true)
  (h:AW P {nt:=(0,nt),n0:=0,ne:=0} c (Abc P rs r) (CI 0 args) []):Fn P f args r:=by
 intro w I vs hI ha
 refine callsIn_of_wp hf hb trivial ?_
 have hlen:=ha.length
 let X:Snap:={w:=w,I:=I,K:=fun b=>b<w.heap.size,n0:=0,ne:=0,μ:=[],nt:=(0,nt),dfs:=[]}
 let a:Act:={tmps:=vs.toArray++Array.replicate (fn.ntmps-vs.toArray.size) undef,defers:=[]}
 have hs:Sim P X (CI 0 args) [] a w I [] (fun _=>none):=by
  refine ⟨{prot:=fun _ _=>rfl,kO:=fun _ _=>rfl,kI:=fun _ _ h=>h,mono:=fun _ h=>h,os:=rfl,tape:=rfl,output:=rfl,size:=Nat.le_refl _,own:=(fun b l h=>by simp at h),ilt:=hI,μlen:=rfl,μpre:=(fun i b hi _=>by simp [X] at hi),nle:=(by simp [X]),heap:=(fun id o h=>by simp at h),klt:=fun b hb=>hb,n0le:=(by simp [X])},fun t=>?_,?_,rfl,fun t h=>absurd h (by simp [X])⟩
  ·rcases DT (tmps:=a.tmps) (k:=0) ha (fun j v hj=>by
    have hjl:j<vs.length:=(lS.1 hj).1
    have e2:(vs.toArray++Array.replicate (fn.ntmps-vs.length) undef)[j]?=some v:=by
     rw [Array.getElem?_append_left (by simpa using hjl)];simpa using hj
    simp [a,e2]) t with h0|⟨d,h0,h1⟩
   ·rw [h0];exact .un
   ·rw [h0];exact .of (bs:=[]) (.d h1) nN (by simp)
  ·simp [a,X,hnt];omega
 have hw:=h X a w I [] (fun _=>none) rfl rfl rfl hs
 refine wpIn_mono hw fun e a' w' hp=>?_
 obtain ⟨env',H',I',μ',O',s,q⟩:=hp
 have fin:Uz P env' r rs→a'.defers=[]∧∃ v,(Go.results fn a'.tmps).run P w'=.ok v w'∧∃ v' I' bs,Ending.returned v=.returned v'∧Below w.heap.size w w'∧(∀ b,I b→I' b) ∧
   (∀ b,I' b→b<w'.heap.size∧(b<w.heap.size→I b))∧ARep P w' I' [] r v' bs∧bs.Nodup∧∀ b∈bs,w.heap.size≤b∧b<w'.heap.size∧¬I' b:=by
  intro hres
  obtain ⟨v,bs,h1,h2,h3,h4⟩:=s.resultsC hrs hres
  refine ⟨s.dfs.1,v,h1,v,I',bs,rfl,⟨s.os,s.tape,s.output,s.size,fun b hb=>s.prot b hb⟩,s.mono,fun b hi=>⟨s.ilt b hi,fun hb=>s.kI b hb hi⟩,h2.noBp hbp,h3,fun b hm=>?_⟩
  obtain ⟨l,hl⟩:=h4 b hm
  refine ⟨?_,(s.own b l hl).1,(s.own b l hl).2⟩
  rcases Nat.lt_or_ge b w.heap.size with hlt|hge
  ·have:=s.kO b hlt;rw [this] at hl;cases hl
  ·exact hge
 cases e with
 | normal=>exact fin q
 | ret=>exact fin q
 | _=>exact q.elim
theorem ZN {C:Cx} {o:Oper} {K:Env→Ab→Prop} {x:Operand} {t:Nat} {v:DV} (ho:o.op=.assign x) (hv:lk env x=.d v) (hd:o.dst=some t) (hf:Aj (get env t)=false) (ht:okT C.nt t) (hK:K ((t,.d v)::env) H) : OpOK P C o env H K :=
 .vok (WY ho hv) rfl hd ht (by rw [Ak hf];exact hK)
end
end Go.FL
namespace Go.FL
open Go Go.RowKit
section
variable {P:Program} {C:Cx} {X:Snap} {o:Oper} {ops:Array Oper} {Q:Exit→Env→Ab→Prop} {env env':Env} {H H':Ab} {a:Act} {w w':World} {I I':Nat→Prop} {μ μ':List Nat} {O O':Nat→Option Loc}
 {K:Env→Ab→Prop} {k:Nat} {l:List Oper}
theorem Abr {x:Operand} {ty:Nat} {s:ByteArray} (hu:P.underlying ty=some .string) (ho:o.op=.range ty x:=by rfl) (hv:lk env x=.d (.s s):=by rfl) : VOK P C o env H (.it s 0) :=
 .val (by simp [ho]) fun X a w I μ O _ _ _ hs=>by
  have hr:=hs.deep (x:=x) (v:=.s s) (by rw [hv];rfl)
  generalize hev:a.eval x=u at hr
  cases hr with
  | s _ =>
   refine ⟨.pointer (some ⟨w.heap.size,0,none⟩),w.alloc (.stringIter s 0),I,[w.heap.size],?_,A7 _,fun b hi=>hi,fun b hi=>⟨nL (hs.ilt b hi) (A7 _).size,fun _=>hi⟩,
    ARep.it s 0 w.heap.size (heap_alloc_new w _),by simp,fun b hb=>?_⟩
   ·have:=run_range_string (P:=P) w ty s hu
    simp only [execOp,ho,hev,Sem.run_bind,this,Result.andThen_ok,Sem.run_pure]
    rfl
   ·simp at hb;subst hb
    exact ⟨Nat.le_refl _,by simp,fun hi=>by have:=hs.ilt _ hi;omega⟩
theorem Sim.it_inv (hs:Sim P X env H a w I μ O) {t:Nat} {s:ByteArray} {pos:Nat} (hg:get env t=.it s pos) :
  ∃ blk,a.tmps.getD t undef=.pointer (some ⟨blk,0,none⟩)∧w.heap[blk]?=some (.stringIter s pos)∧O blk=some (.t t):=by
 have:=hs.envr t
 rw [hg] at this
 obtain ⟨bs,h1,h2,h3⟩:=this.plain rfl
 generalize a.tmps.getD t undef=v at h1
 cases h1 with
 | it _ _ blk hh=>exact ⟨blk,rfl,hh,h3 blk (by simp)⟩
theorem Sim.blkSet (hs:Sim P X env H a w I μ O) {t blk:Nat} {av:AV} (hO:O blk=some (.t t)) (hno:Aj (get env t)=false) (hr:AI av=false) (hoth:∀ b,b≠blk→w'.heap[b]?=w.heap[b]?) (hsz:w'.heap.size=w.heap.size)
  (hos:w'.os=w.os) (htp:w'.tape=w.tape) (hout:w'.output=w.output) (hnew:ARep P w' I μ av (a.tmps.getD t undef) [blk]):Sim P X ((t,av)::env) H a w' I μ O:=by
 obtain ⟨n1,n2,n3⟩:=hs.other_blk hO
 refine {hs.toMem with
  prot:=fun b hk=>(hoth b (n2 b hk)).trans (hs.prot b hk)
  os:=hos.trans hs.os
  tape:=htp.trans hs.tape
  output:=hout.trans hs.output
  size:=by rw [hsz];exact hs.size
  own:=fun b l hl=>by rw [hsz];exact hs.own b l hl
  ilt:=fun b hi=>by rw [hsz];exact hs.ilt b hi
  heap:=fun id ob ho=>?_
  envr:=fun s=>?_
  nt:=hs.nt
  dfs:=hs.dfs}
 ·obtain ⟨bb,bs,k1,k2,k3,k4⟩:=hs.heap id ob ho
  have hne:=n3 id ob bb bs ho k1 k3 k4
  refine ⟨bb,bs,k1,?_,k3,k4⟩
  cases ob with
  | box c =>
   obtain ⟨cl,et,m1,m2⟩:=k2
   exact ⟨cl,et,(hoth bb (hne bb (by simp))).trans m1,m2.keep (fun _ h=>h) (fun b hi=>hoth b (n1 b hi)) (fun _ _ h=>h) fun b hb=>hoth b (hne b (by simp [hb]))⟩
  | mo _ _=>exact ⟨k2.1,k2.2.keep (hoth bb (hne bb (by simp))) (fun b hi=>hoth b (n1 b hi)) fun _ h=>h⟩
 ·by_cases hst:t=s
  ·subst hst
   rw [show get ((t,av)::env) t=av by simp [get]]
   exact .of hnew (by simp) (by simpa using hO)
  ·rw [show get ((t,av)::env) s=get env s by simp [get,hst]]
   have key:∀ p e xs,AB env H p=.own e xs→AB ((t,av)::env) H p=.own e xs∧∀ v,AR a w μ p=some v→AR a w' μ p=some v:=by
    intro p e' xs hp
    cases p with
    | t r =>
     have hr':t≠r:=fun h=>by subst h;simp only [AB] at hp;rw [hp] at hno;cases hno
     exact ⟨by simp only [AB,get,if_neg hr'];exact hp,fun v hv=>hv⟩
    | c id off =>
     refine ⟨hp,fun v hv=>?_⟩
     simp only [AR,Option.bind_eq_some_iff] at hv ⊢
     obtain ⟨bb,hb1,hb2⟩:=hv
     refine ⟨bb,hb1,?_⟩
     simp only [AB] at hp
     cases hH:H[id]? with
     | none=>rw [hH] at hp;cases hp
     | some ob =>
      obtain ⟨bb',bs,k1,k2,k3,k4⟩:=hs.heap id ob hH
      rw [hb1] at k1;cases k1
      rw [World.cell?_of_block (w:=w) (a:=⟨bb,off,none⟩) (hoth bb (n3 id ob bb bs hH hb1 k3 k4 bb (by simp)))]
      exact hb2
   have ht:=hs.envr s
   cases hgs:get env s with
   | ref p off len =>
    rw [hgs] at ht
    obtain ⟨e',xs,A,n,c,g1,g2,g3,g4⟩:=ht
    exact ⟨e',xs,A,n,c,(key p e' xs g1).1,(key p e' xs g1).2 _ g2,g3,g4⟩
   | ep p i k =>
    rw [hgs] at ht
    obtain ⟨e',xs,b,n,c,g1,g2,g3,g4,g5⟩:=ht
    exact ⟨e',xs,b,n,c,(key p e' xs g1).1,(key p e' xs g1).2 _ g2,g3,g4,g5⟩
   | _ =>
    rw [hgs] at ht
    obtain ⟨bs,g1,g2,g3⟩:=ht.plain rfl
    exact .of (g1.keep (fun _ h=>h) (fun b hi=>hoth b (n1 b hi)) (fun _ _ h=>h) fun b hb=>hoth b fun e=>by
     subst e
     have:=g3 b hb;rw [hO] at this;simp at this;exact hst this) g2 g3
theorem Ru {s:ByteArray} {pos blk:Nat} {ty:TypeId} (hh:w.heap[blk]?=some (.stringIter s pos)) (h:pos<s.size) :
  (Instr.next (.pointer (some ⟨blk,0,none⟩)) true ty).run P w=.ok (.tuple #[.bool true,.int .i64 pos,.int .i32 (Utf8.decode s pos).1]) {w with heap:=w.heap.setIfInBounds blk (.stringIter s (pos+(Utf8.decode s pos).2))}:=by
 simp only [Instr.next,getObj,setObj,Sem.run_bind,Sem.run,hh,Result.andThen,h,if_true]
 simp [goInt]
theorem NQ {s:ByteArray} {pos blk:Nat} {ty:TypeId} (hh:w.heap[blk]?=some (.stringIter s pos)) (h:¬pos<s.size) :
  (Instr.next (.pointer (some ⟨blk,0,none⟩)) true ty).run P w=.ok (.tuple #[.bool false]) w:=by
 simp [Instr.next,getObj,Sem.run,hh,h]
theorem nxt {r t:Nat} {s:ByteArray} {pos:Nat} (h:RL P C ops Q (k+1) l ((t,.d (.tup [.b true,.i .i64 pos,.i .i32 (Utf8.decode s pos).1]))::(r,.it s (pos+(Utf8.decode s pos).2))::env) H) (hlt:pos<s.size) (hg:grd ops env o true=true:=by rfl)
  (ho:o.op=.next (.tmp r) true:=by rfl) (hv:get env r=.it s pos:=by rfl) (hd:o.dst=some t:=by rfl) (hf:Aj (get env t)=false:=by rfl) (ht:okT C.nt t:=by rfl) (hrt:r≠t:=by decide):RL P C ops Q k (o::l) env H:=by
 have hf2:Aj (get ((r,.it s (pos+(Utf8.decode s pos).2))::env) t)=false:=by simp only [get,if_neg hrt];exact hf
 rw [← Ak hf2] at h
 refine .go hg (.val (env':=(r,.it s (pos+(Utf8.decode s pos).2))::env) (H':=H) (by simp [ho]) hd ht (fun X a w I μ O _ _ _ hs=>?_) h)
 obtain ⟨blk,h1,h2,hO⟩:=hs.it_inv hv
 have he:a.eval (.tmp r)=.pointer (some ⟨blk,0,none⟩):=h1
 have hlt2:blk<w.heap.size:=(hs.own blk _ hO).1
 refine ⟨_,_,I,μ,O,by simp only [execOp,ho,he,Sem.run_bind,Ru h2 hlt,Result.andThen_ok,Sem.run_pure];rfl,?_,.d (.tup _ [_,_,_] (.cons (.b _) (.cons (.i _ _) (.cons (.i _ _) .nil))))⟩
 refine hs.blkSet (av:=.it s (pos+(Utf8.decode s pos).2)) hO (by rw [hv];rfl) rfl (fun b hb=>?_) (by simp) rfl rfl rfl ?_
 ·show (w.heap.setIfInBounds blk _)[b]?=_
  rw [Array.getElem?_setIfInBounds,if_neg (Ne.symm hb)]
 ·rw [h1]
  refine .it _ _ blk ?_
  show (w.heap.setIfInBounds blk _)[blk]?=_
  rw [Array.getElem?_setIfInBounds,if_pos rfl,if_pos hlt2]
theorem nxe {r t:Nat} {s:ByteArray} {pos:Nat} (h:RL P C ops Q (k+1) l ((t,.d (.tup [.b false]))::env) H) (hlt:¬pos<s.size) (hg:grd ops env o true=true:=by rfl)
  (ho:o.op=.next (.tmp r) true:=by rfl) (hv:get env r=.it s pos:=by rfl) (hd:o.dst=some t:=by rfl) (hf:Aj (get env t)=false:=by rfl) (ht:okT C.nt t:=by rfl):RL P C ops Q k (o::l) env H:=by
 rw [← Ak hf] at h
 refine .go hg (.val (env':=env) (H':=H) (by simp [ho]) hd ht (fun X a w I μ O _ _ _ hs=>?_) h)
 obtain ⟨blk,h1,h2,hO⟩:=hs.it_inv hv
 have he:a.eval (.tmp r)=.pointer (some ⟨blk,0,none⟩):=h1
 exact ⟨_,w,I,μ,O,by simp only [execOp,ho,he,Sem.run_bind,NQ h2 hlt,Result.andThen_ok,Sem.run_pure],hs,.d (.tup _ [_] (.cons (.b _) .nil))⟩
end
end Go.FL
namespace Go.FL
open Go Go.Proofs
theorem AS : Tryz.prog.follows .mixedOrders=true:=by kernel_rfl
theorem s32 : B3 Tryz.prog 31=some (133,1,4):=by kernel_rfl
theorem e32 : Cb Tryz.prog 31=some (133,1,4,.int .u32 0):=by kernel_rfl
theorem l32 : Tryz.prog.underlying 31=some (.slice (Tryz.prog.elem 31)):=by kernel_rfl
theorem a32 : BH Tryz.prog 133=some false:=by kernel_rfl
theorem z32 : Av Tryz.prog 133=1:=by kernel_rfl
theorem slm : B3 Tryz.prog 230=some (133,1,4):=by kernel_rfl
theorem elm : Cb Tryz.prog 230=some (133,1,4,.int .u32 0):=by kernel_rfl
theorem llm : Tryz.prog.underlying 230=some (.slice (Tryz.prog.elem 230)):=by kernel_rfl
theorem alm : BH Tryz.prog 230=some false:=by kernel_rfl
theorem zlm : Av Tryz.prog 230=1:=by kernel_rfl
theorem u32 : Tryz.prog.underlying 133=some (.int .u32):=by kernel_rfl
theorem u64 : Tryz.prog.underlying 81=some (.int .u64):=by kernel_rfl
theorem i64 : Tryz.prog.underlying 3=some (.int .i64):=by kernel_rfl
theorem u8 : Tryz.prog.underlying 5=some (.int .u8):=by kernel_rfl
theorem bo : Tryz.prog.underlying 4=some .bool:=by kernel_rfl
theorem st : Tryz.prog.underlying 9=some .string:=by kernel_rfl
def U (n:Nat) : DV:=.i .u32 n
def L (xs:List Nat) : List DV:=xs.map U
theorem Aa (xs:List Nat) : (L xs).length=xs.length:=by simp [L]
theorem BY (xs:List Nat) : ∃ sz,∀ x∈L xs,x.cells.length=sz:=⟨1,fun x hx=>by
 simp only [L,List.mem_map] at hx
 obtain ⟨n,_,rfl⟩:=hx;rfl⟩
theorem S7 (xs:List Nat) : ∀ x∈L xs,x.cells.length=1:=fun x hx=>by
 simp only [L,List.mem_map] at hx
 obtain ⟨n,_,rfl⟩:=hx;rfl
theorem Fz {xs:List Nat} {i n:Nat} (h:xs[i]?=some n) : (L xs)[i]?=some (U n):=by simp [L,h]
theorem Wa (xs ys:List Nat) : L (xs++ys)=L xs++L ys:=by simp [L]
theorem WG (xs:List Nat) (n:Nat) : (L xs).take n=L (xs.take n):=by simp [L,List.map_take]
def NI (xs:List Nat) : List Nat:=(xs.reverse.dropWhile (· == 0)).reverse
theorem Li (xs:List Nat) : NI (xs++[0])=NI xs:=by simp [NI]
theorem Ms (xs:List Nat) {x:Nat} (h:x≠0) : NI (xs++[x])=xs++[x]:=by simp [NI,h]
end Go.FL
namespace Go.FL
open Go Go.RowKit
def AH : Nat:=1000000000000000
def Aa9 : Nat:=4611686018427387904
def rd? {α:Type} (xs:List α) (i:Int) : Option α:=if 0≤i then xs[i.toNat]? else none
def ap? {α:Type} (m:Nat) (xs ys:List α) : Option (List α):=if xs.length+ys.length≤m then some (xs++ys) else none
def jn {α β:Type} (k:α) (b:α→β) : β:=b k
abbrev w64 : Int→Int:=IntKind.i64.wrap
section
variable {α β:Type}
theorem bnd {x:Option α} {f:α→Option β} {r:β} (h:x.bind f=some r) : ∃ a,x=some a∧f a=some r:=Option.bind_eq_some_iff.1 h
theorem H8 {c:Prop} [Decidable c] {a b r:α} (hc:c) (h:(if c then a else b)=r) : a=r:=by rwa [if_pos hc] at h
theorem IQ {c:Prop} [Decidable c] {a b r:α} (hc:¬c) (h:(if c then a else b)=r) : b=r:=by rwa [if_neg hc] at h
theorem D1 {c:Prop} [Decidable c] {a:Option α} {r:α} (h:(if c then a else none)=some r) : c∧a=some r:=by
 split at h
 ·exact ⟨by assumption,h⟩
 ·cases h
theorem A1 {k:α} {b:α→Option β} {r:β} (h:jn k b=some r) : ∃ K,K=k∧b K=some r:=⟨k,rfl,h⟩
theorem Aq {xs:List α} {i:Int} {x:α} (h:rd? xs i=some x) : ∃ n : Nat,i=n∧xs[n]?=some x:=by
 unfold rd? at h
 split at h
 ·exact ⟨i.toNat,by omega,h⟩
 ·cases h
theorem Mh {m:Nat} {xs ys zs:List α} (h:ap? m xs ys=some zs) : xs.length+ys.length≤m∧zs=xs++ys:=by
 unfold ap? at h
 split at h
 ·exact ⟨by assumption,(oI h).symm⟩
 ·cases h
def FF (s u:ByteArray) : Option ByteArray:=if s.size+u.size≤Aa9 then some (s++u) else none
theorem Wo {s u z:ByteArray} (h:FF s u=some z) : s.size+u.size≤Aa9∧z=s++u:=by
 unfold FF at h
 split at h
 ·exact ⟨by assumption,(oI h).symm⟩
 ·cases h
def Gk (p:Prop) [Decidable p] : Option Unit:=if p then some () else none
theorem HC {p:Prop} [Decidable p] {u:Unit} (h:Gk p=some u) : p:=by
 unfold Gk at h
 split at h
 ·assumption
 ·cases h
theorem bf {b:Bool} (h:¬b=true) : b=false:=by cases b<;>simp at h ⊢
theorem ntt {b:Bool} (h:b=false) : (!b)=true:=by rw [h];rfl
theorem ntf {b:Bool} (h:b=true) : (!b)=false:=by rw [h];rfl
end
section
variable {P:Program} {C:Cx} {X:Snap} {o:Oper} {ops:Array Oper} {Q:Exit→Env→Ab→Prop} {env env':Env} {H H':Ab} {a:Act} {w w':World} {I I':Nat→Prop} {μ μ':List Nat} {O O':Nat→Option Loc}
 {K:Env→Ab→Prop} {k:Nat} {l:List Oper}
def JR {σ:Type} (I:σ→Prop) (e:σ→Env) (g:σ→Ab) : Env→Ab→Prop:=fun env H=>∃ s,I s∧env=e s∧H=g s
theorem AW.mj {x y:Code} {σ:Type} (I:σ→Prop) (e:σ→Env) (g:σ→Ab) (h1:AW P C x (FB (JR I e g) Q) env H) (h2:∀ s,I s→AW P C y Q (e s) (g s)) : AW P C (.seq x y) Q env H :=
 .mid (JR I e g) h1 fun _ _ ⟨s,hi,he,hg⟩=>by subst he;subst hg;exact h2 s hi
theorem AW.mr {x:Code} {K:Env→Ab→Prop} {σ:Type} (I:σ→Prop) (e:σ→Env) (g:σ→Ab) (h1:AW P C x (FB (JR I e g) Q) env H) (h2:∀ s,I s→K (e s) (g s)) : AW P C x (FB K Q) env H :=
 h1.mono fun ex env' H' h=>by
  cases ex with
  | normal=>obtain ⟨s,hi,he,hg⟩:=h;subst he;subst hg;exact h2 s hi
  | _=>exact h
theorem jr {σ:Type} {I:σ→Prop} {e:σ→Env} {g:σ→Ab} (s:σ) (hi:I s) (he:env=e s:=by rfl) (hg:H=g s:=by rfl) : JR I e g env H:=⟨s,hi,he,hg⟩
theorem cnt {t:Nat} {x:Bool} {c1 c2:Code} (hb:x=true) (h1:AW P C c1 Q env H) (hx:get env t=.d (.b x):=by rfl) : AW P C (.cond (.tmp t) c1 c2) Q env H:=.cond hx (fun _=>h1) (fun h=>by rw [hb] at h;cases h)
theorem cnf {t:Nat} {x:Bool} {c1 c2:Code} (hb:x=false) (h2:AW P C c2 Q env H) (hx:get env t=.d (.b x):=by rfl) : AW P C (.cond (.tmp t) c1 c2) Q env H:=.cond hx (fun h=>by rw [hb] at h;cases h) (fun _=>h2)
theorem VOK.lit {x b:Bool} (h:VOK P C o env H (.d (.b x))) (e:x=b) : VOK P C o env H (.d (.b b)):=e▸h
theorem Ag {c:Call} {fo:Operand} {f:Nat} {xs:List DV} {r:AV} (hfn:Fn P f xs r) (hcall:∀ args w,(callFunc f args).run P w=.ok (.enter f args) w) (ho:o.op=.call c:=by rfl) (hc:c.callee=.value fo:=by rfl)
  (hfo:lk env fo=.d (.fn f [] []):=by rfl) (ha:argsD env c.args.toList=some xs:=by rfl) (hr:AI r=false:=by rfl):VOK P C o env H r :=
 vcl (first:=[]) (caps:=[]) (by rw [List.nil_append,List.append_nil];exact hfn) hcall ho hc hfo ha hr
theorem AX {c:Call} {x:Operand} {ty n:Nat} {xs:List DV} (hl:xs.length=n) (hsz:∃ sz,∀ x∈xs,x.cells.length=sz) (hu:P.underlying ty=some (.slice (P.elem ty))) (ho:o.op=.call c:=by rfl) (hc:c.callee=.builtin .len:=by rfl) (hx:c.args=#[x]:=by rfl)
  (hty:c.argTypes=#[ty]:=by rfl) (hv:rd env H (lk env x)=some xs:=by rfl):VOK P C o env H (.d (.i .i64 n)):=by
 subst hl;exact vln hsz hu ho hc hx hty hv
theorem VOK.same {d:DV} (hdef:∀ c,o.op≠.defer c) (h:∀ X a w I μ O,X.n0=C.n0→Sim P X env H a w I μ O→∃ v,(execOp a.eval o).run P w=.ok (.value v) w∧Rep w I d v) : VOK P C o env H (.d d) :=
 .val hdef fun X a w I μ O _ h2 _ hs =>
  let ⟨v,h1,h3⟩:=h X a w I μ O h2 hs
  ⟨v,w,I,[],h1,Below.refl _ _,fun _ h=>h,fun b hi=>⟨hs.ilt b hi,fun _=>hi⟩,.d h3,nN,by simp⟩
theorem vng {xt:TypeId} {x:Operand} {q:IntKind} {n:Int} (ho:o.op=.unOp .neg xt x:=by rfl) (hx:lk env x=.d (.i q n):=by rfl) : VOK P C o env H (.d (.i q (q.wrap (0-n)))):=by
 obtain ⟨h1,h2⟩:=Ar hx (by simp)
 exact .pv (ZR ho h1 h2)
theorem vsa {xt yt:TypeId} {x y:Operand} {s u z:ByteArray} (hs:FF s u=some z) (ho:o.op=.binOp .add xt x y yt:=by rfl) (hx:A0 (lk env x)=some (.s s):=by rfl) (hy:A0 (lk env y)=some (.s u):=by rfl) : VOK P C o env H (.d (.s z)):=by
 obtain ⟨hle,rfl⟩:=Wo hs
 refine .same (by simp [ho]) fun X a w I μ O _ hs=>⟨.string (s++u),?_,.s _⟩
 have h1:=hs.deep hx
 have h2:=hs.deep hy
 generalize hev:a.eval x=v1 at h1
 generalize hev2:a.eval y=v2 at h2
 cases h1;cases h2
 simp [execOp,ho,hev,hev2,binOp,eqGuard_at_string,run_string_add_sum w s u (nT hle (by decide))]
theorem PB {a b m by_:Nat} (h:a+b≤m) (hby:m * by_≤140737488355328∧m≤9223372036854775807) : a+b≤9223372036854775807∧(a+b) * by_≤140737488355328 :=
 ⟨nT h hby.2,nT (Nat.mul_le_mul_right _ h) hby.1⟩
theorem WJ {α:Type} {F:List α→List DV} (hF:∀ xs ys,F (xs++ys)=F xs++F ys) {us ws zs:List α} {m:Nat} (hz:ap? m us ws=some zs) {c:Call} {y:Operand} {r s ty t e sz by_:Nat} {z:Value} (hby:m * by_≤140737488355328∧m≤9223372036854775807)
  (h:RL P C ops Q (k+1) l ((t,.own e (F zs))::(s,.un)::(r,.un)::env) H) (hsz:∀ xs,∀ x∈F xs,x.cells.length=sz) (hlen:∀ xs,(F xs).length=xs.length)
  (hT:Cb P ty=some (e,sz,by_,z)) (hg:grd ops env o true=true:=by rfl) (ho:o.op=.call c:=by rfl) (hc:c.callee=.builtin .append:=by rfl)
  (hx:c.args=#[.tmp r,y]:=by rfl) (hty:c.argTypes=#[ty,ty]:=by rfl) (hv:get env r=.ref (.t s) 0 (F us).length:=by rfl) (hp:get env s=.own e (F us):=by rfl) (hy:rd env H (lk env y)=some (F ws):=by rfl) (hd:o.dst=some t:=by rfl)
  (hf:Aj (get env t)=false:=by rfl) (hr:CY s ((r,.un)::env.filter fun x=>x.1 != r)=false:=by rfl) (ht:okT C.nt t:=by rfl):RL P C ops Q k (o::l) env H:=by
 obtain ⟨hle,rfl⟩:=Mh hz
 exact apr (xs:=F us) (ys:=F ws) (len:=(F us).length) (by rw [hlen,hlen];exact PB hle hby) (by rw [List.take_length,← hF];exact h) (hsz ws) hT hg ho hc hx hty hv hp hy hd hf hr ht
theorem Abt {α:Type} {F:List α→List DV} (hF:∀ xs ys,F (xs++ys)=F xs++F ys) {us ws zs:List α} {m:Nat} (hz:ap? m us ws=some zs) {c:Call} {y:Operand} {r ty t e sz by_:Nat} {z:Value} (hby:m * by_≤140737488355328∧m≤9223372036854775807)
  (h:RL P C ops Q (k+1) l ((t,.own e (F zs))::(r,.un)::env) H) (hsz:∀ xs,∀ x∈F xs,x.cells.length=sz) (hlen:∀ xs,(F xs).length=xs.length)
  (hT:Cb P ty=some (e,sz,by_,z)) (hg:grd ops env o true=true:=by rfl) (ho:o.op=.call c:=by rfl) (hc:c.callee=.builtin .append:=by rfl)
  (hx:c.args=#[.tmp r,y]:=by rfl) (hty:c.argTypes=#[ty,ty]:=by rfl) (hv:get env r=.own e (F us):=by rfl) (hy:rd env H (lk env y)=some (F ws):=by rfl) (hd:o.dst=some t:=by rfl)
  (hf:Aj (get env t)=false:=by rfl) (hr:CY r env=false:=by rfl) (ht:okT C.nt t:=by rfl):RL P C ops Q k (o::l) env H:=by
 obtain ⟨hle,rfl⟩:=Mh hz
 exact apo (xs:=F us) (ys:=F ws) (by rw [hlen,hlen];exact PB hle hby) (by rw [← hF];exact h) (hsz ws) hT hg ho hc hx hty hv hy hd hf hr ht
end
end Go.FL
namespace Go.FL
open Go
section
variable {P:Program} {C:Cx} {o:Oper} {ops:Array Oper} {Q Q':Exit→Env→Ab→Prop} {env env':Env} {H H':Ab} {k:Nat} {l:List Oper}
theorem va {x:Operand} {d:DV} {t:Nat} (h:RL P C ops Q (k+1) l ((t,.d d)::env) H) (ho:o.op=.move x:=by rfl) (hv:lk env x=.d d:=by rfl) (hg:grd ops env o true=true:=by rfl) (hd:o.dst=some t:=by rfl)
  (hf:Aj (get env t)=false:=by rfl) (ht:okT C.nt t:=by rfl):RL P C ops Q k (o::l) env H:=vk (Ac ho hv) h hg hd rfl hf ht
theorem vL {x:Operand} {c b:Bool} {t:Nat} (e:c=b) (h:RL P C ops Q (k+1) l ((t,.d (.b b))::env) H) (ho:o.op=.move x:=by rfl) (hv:lk env x=.d (.b c):=by rfl) (hg:grd ops env o true=true:=by rfl) (hd:o.dst=some t:=by rfl)
  (hf:Aj (get env t)=false:=by rfl) (ht:okT C.nt t:=by rfl):RL P C ops Q k (o::l) env H:=vk (VOK.lit (Ac ho hv) e) h hg hd rfl hf ht
theorem vb {op:BinOp} {xt yt:TypeId} {x y:Operand} {q q':IntKind} {m n:Int} {d:DV} {t:Nat} (h:RL P C ops Q (k+1) l ((t,.d d)::env) H) (ho:o.op=.binOp op xt x y yt:=by rfl)
  (hx:lk env x=.d (.i q m):=by rfl) (hy:lk env y=.d (.i q' n):=by rfl) (hb:NA op q m n=some (True,d):=by rfl) (hk:(decide (q'=q)||EF op)=true:=by rfl) (hg:grd ops env o true=true:=by rfl) (hd:o.dst=some t:=by rfl)
  (hf:Aj (get env t)=false:=by rfl) (ht:okT C.nt t:=by rfl):RL P C ops Q k (o::l) env H:=vk (vbi ho hx hy hb hk) h hg hd rfl hf ht
theorem AW.sk {c:Code} (h:AW P C c Q' env H) (hq:Q .normal env H=AW P C c Q' env H:=by rfl) : AW P C .skip Q env H:=.skip (hq▸h)
end
end Go.FL
namespace Go.FL
open Go
theorem zj {α:Sort _} {a:α} : a=a:=rfl
def bDv (op:BinOp) (env:Env) (x y:Operand) : Option (Prop×DV) :=
 match lk env x,lk env y with
 | .d (.i q m),.d (.i q' n)=>if decide (q'=q)||EF op then NA op q m n else none
 | _,_=>none
section
variable {P:Program} {C:Cx} {ops:Array Oper} {Q Q':Exit→Env→Ab→Prop} {env env':Env} {H H':Ab} {k:Nat} {l:List Oper} {t:Nat} {op:Op} {ty:TypeId} {ps:String} {af:Array Edge} {gd:Option (Nat×Bool)}
theorem kK {av:AV} (hv:VOK P C ⟨some t,op,ty,ps,af,gd⟩ env H av) (h:RL P C ops Q (k+1) l ((t,av)::env) H) (hg:grd ops env ⟨some t,op,ty,ps,af,gd⟩ true=true:=by rfl) (hr:AI av=false:=by rfl)
  (hf:Aj (get env t)=false:=by rfl) (ht:okT C.nt t:=by rfl):RL P C ops Q k (⟨some t,op,ty,ps,af,gd⟩::l) env H:=vk hv h hg rfl hr hf ht
theorem kA {x:Operand} {d:DV} (hv:lk env x=.d d) (h:RL P C ops Q (k+1) l ((t,.d d)::env) H) (hg:grd ops env ⟨some t,.move x,ty,ps,af,gd⟩ true=true:=by rfl)
  (hf:Aj (get env t)=false:=by rfl) (ht:okT C.nt t:=by rfl):RL P C ops Q k (⟨some t,.move x,ty,ps,af,gd⟩::l) env H:=vk (Ac rfl hv) h hg rfl rfl hf ht
theorem kD {x:Operand} {d:DV} (hv:lk env x=.d d) (h:RL P C ops Q (k+1) l ((t,.d d)::env) H) (hg:grd ops env ⟨some t,.assign x,ty,ps,af,gd⟩ true=true:=by rfl)
  (hf:Aj (get env t)=false:=by rfl) (ht:okT C.nt t:=by rfl):RL P C ops Q k (⟨some t,.assign x,ty,ps,af,gd⟩::l) env H:=asd h hg rfl hv rfl hf ht
theorem kG (h:RL P C ops Q (k+1) l ((t,.un)::env) H) (hg:grd ops env ⟨some t,op,ty,ps,af,gd⟩ false=true:=by rfl) (hf:Aj (get env t)=false:=by rfl) (ht:okT C.nt t:=by rfl) :
  RL P C ops Q k (⟨some t,op,ty,ps,af,gd⟩::l) env H:=gf h hg rfl hf ht
theorem kB {op:BinOp} {xt yt:TypeId} {x y:Operand} {d:DV} (hb:bDv op env x y=some (True,d)) (h:RL P C ops Q (k+1) l ((t,.d d)::env) H)
  (hg:grd ops env ⟨some t,.binOp op xt x y yt,ty,ps,af,gd⟩ true=true:=by rfl) (hf:Aj (get env t)=false:=by rfl) (ht:okT C.nt t:=by rfl):RL P C ops Q k (⟨some t,.binOp op xt x y yt,ty,ps,af,gd⟩::l) env H:=by
 unfold bDv at hb
 split at hb
 ·rename_i q m q' n hx hy
  split at hb
  ·rename_i hk
   exact vk (vbi rfl hx hy hb hk) h hg rfl rfl hf ht
  ·cases hb
 ·cases hb
theorem kR {x:Operand} {v:DV} {c:Code} (ts:List Nat) (hv:lk env x=.d v) (h:AW P C c Q' (Jq ts ((t,.d v)::env)) H) (hg:grd ops env ⟨some t,.assign x,ty,ps,af,gd⟩ true=true:=by rfl)
  (hf:Aj (get env t)=false:=by rfl) (ht:okT C.nt t:=by rfl) (hr:ts.all (fun t'=>Nn ts (get ((t,.d v)::env) t'))=true:=by rfl):RL P C ops (FB (AW P C c Q') Q) k [⟨some t,.assign x,ty,ps,af,gd⟩] env H:=ar ts h hg rfl hv rfl hf ht hr
theorem kC {x:Operand} {c b:Bool} (hv:lk env x=.d (.b c)) (e:c=b) (h:RL P C ops Q (k+1) l ((t,.d (.b b))::env) H) (hg:grd ops env ⟨some t,.move x,ty,ps,af,gd⟩ true=true:=by rfl)
  (hf:Aj (get env t)=false:=by rfl) (ht:okT C.nt t:=by rfl):RL P C ops Q k (⟨some t,.move x,ty,ps,af,gd⟩::l) env H:=vL e h rfl hv hg rfl hf ht
theorem kV {K:Env→Prop} {env0 vals:Env} {v:AV} (hv:VOK P C ⟨some t,op,ty,ps,af,gd⟩ (Bq ((⟨some t,op,ty,ps,af,gd⟩:Oper).looksAt ops) vals++env0) H v) (h:DK P C ops H env0 ((t,v)::vals) l K)
  (hg:grd ops (Bq ((⟨some t,op,ty,ps,af,gd⟩:Oper).looksAt ops) vals++env0) ⟨some t,op,ty,ps,af,gd⟩ true=true:=by rfl) (h0:P0 (get env0 t)=true:=by rfl)
  (hn:(vals.map (·.1)).contains t=false:=by rfl) (hs:GW t v=true:=by rfl) (hr:CB (Bq ((⟨some t,op,ty,ps,af,gd⟩:Oper).looksAt ops) vals++env0)=true:=by rfl) (ht:okT C.nt t:=by rfl):DK P C ops H env0 vals (⟨some t,op,ty,ps,af,gd⟩::l) K :=
 dv hv h rfl hg h0 hn hs hr ht
end
end Go.FL
namespace Go.FL
open Go Go.RowKit
section
variable {P:Program} {C:Cx} {X:Snap} {o:Oper} {ops:Array Oper} {Q:Exit→Env→Ab→Prop} {env env':Env} {H H':Ab} {a:Act} {w w':World} {I I':Nat→Prop} {μ μ':List Nat} {O O':Nat→Option Loc}
 {K:Env→Ab→Prop} {k:Nat} {l:List Oper}
theorem Sim.nbbA (hs:Sim P X env H a w I μ O) {t:Nat} {cs:List DV} (hg:get env t=.nb cs) {cs':List AV} (hA:∀ blk cells e,a.tmps.getD t undef=.pointer (some ⟨blk,0,none⟩)→w.heap[blk]?=some (.cells cells e (0,0))→ARepAll P w I μ cs' cells.toList []) :
  ∃ I' μ' O',Sim P X ((t,.bp H.length 0)::env) (H++[.box cs']) a w I' μ' O':=by
 obtain ⟨blk,cells,e,h1,h2,h3,hO⟩:=hs.nb_inv hg
 obtain ⟨n1,n2,n3⟩:=hs.other_blk hO
 have hμ:∀ (i b:Nat),μ[i]?=some b→(μ++[blk])[i]?=some b:=fun i b h=>by
  rw [List.getElem?_append_left (lS.1 h).1];exact h
 have hlast:(μ++[blk])[H.length]?=some blk:=by rw [← hs.μlen];simp
 have hO':∀ b l,O b=some l→b≠blk→(if b=blk then some (Loc.o H.length) else O b)=some l:=fun b l h hb=>by rw [if_neg hb];exact h
 have hOt:∀ b s,O b=some (.t s)→s≠t→b≠blk:=fun b s h hst e=>by subst e;rw [hO] at h;simp at h;exact hst h.symm
 refine ⟨I,μ++[blk],fun b=>if b=blk then some (.o H.length) else O b,{hs.toMem with
  kO:=fun b hk=>by rw [if_neg (n2 b hk)];exact hs.kO b hk
  own:=fun b l hl=>by
   by_cases hb:b=blk
   ·subst hb;exact hs.own b _ hO
   ·rw [if_neg hb] at hl;exact hs.own b l hl
  μlen:=by simp [hs.μlen]
  μpre:=fun i b hi hb=>hμ i b (hs.μpre i b hi hb)
  nle:=by simp;have:=hs.nle;omega
  heap:=fun id ob ho=>?_
  envr:=fun s=>?_
  nt:=hs.nt
  dfs:=hs.dfs}⟩
 ·rcases Nat.lt_or_ge id H.length with hlt|hge
  ·rw [List.getElem?_append_left hlt] at ho
   obtain ⟨bb,bs,k1,k2,k3,k4⟩:=hs.heap id ob ho
   have hne:=n3 id ob bb bs ho k1 k3 k4
   refine ⟨bb,bs,hμ _ _ k1,?_,fun hn=>⟨(k3 hn).1,fun b hb=>hO' b _ ((k3 hn).2 b hb) (hne b hb)⟩,k4⟩
   cases ob with
   | box c =>
    obtain ⟨cl,et,m1,m2⟩:=k2
    exact ⟨cl,et,m1,m2.keep (fun _ h=>h) (fun _ _=>rfl) hμ fun _ _=>rfl⟩
   | mo _ _=>exact k2
  ·rw [List.getElem?_append_right hge] at ho
   have hid:id=H.length:=by
    have:=(lS.1 ho).1;simp at this;omega
   subst hid
   simp at ho;subst ho
   refine ⟨blk,[],hlast,⟨cells,e,h2,(hA blk cells e h1 h2).keep (fun _ h=>h) (fun _ _=>rfl) hμ (by simp)⟩,fun _=>⟨by simp,fun b hb=>?_⟩,fun hn=>?_⟩
   ·simp at hb;subst hb;rw [if_pos rfl]
   ·have:=hs.nle;have:=hs.n0le;omega
 ·by_cases hst:t=s
  ·subst hst
   rw [show get ((t,.bp H.length 0)::env) t=.bp H.length 0 by simp [get]]
   refine .of (bs:=[]) ?_ nN (by simp)
   rw [h1]
   exact .bp _ _ _ hlast
  ·rw [show get ((t,.bp H.length 0)::env) s=get env s by simp [get,hst]]
   have key:∀ p e xs,AB env H p=.own e xs→AB ((t,AV.bp H.length 0)::env) (H++[.box cs']) p=.own e xs∧∀ v,AR a w μ p=some v→AR a w (μ++[blk]) p=some v:=by
    intro p e' xs hp
    cases p with
    | t r =>
     have hr':t≠r:=fun h=>by subst h;simp only [AB] at hp;rw [hg] at hp;cases hp
     exact ⟨by simp only [AB,get,if_neg hr'];exact hp,fun v hv=>hv⟩
    | c id off =>
     refine ⟨?_,fun v hv=>?_⟩
     ·simp only [AB] at hp ⊢
      cases hH:H[id]? with
      | none=>rw [hH] at hp;cases hp
      | some ob=>rw [List.getElem?_append_left (lS.1 hH).1,hH];rw [hH] at hp;exact hp
     ·simp only [AR,Option.bind_eq_some_iff] at hv ⊢
      obtain ⟨bb,hb1,hb2⟩:=hv
      exact ⟨bb,hμ _ _ hb1,hb2⟩
   have ht:=hs.envr s
   cases hgs:get env s with
   | ref p off len =>
    rw [hgs] at ht
    obtain ⟨e',xs,A,n,c,g1,g2,g3,g4⟩:=ht
    exact ⟨e',xs,A,n,c,(key p e' xs g1).1,(key p e' xs g1).2 _ g2,g3,g4⟩
   | ep p i k =>
    rw [hgs] at ht
    obtain ⟨e',xs,b,n,c,g1,g2,g3,g4,g5⟩:=ht
    exact ⟨e',xs,b,n,c,(key p e' xs g1).1,(key p e' xs g1).2 _ g2,g3,g4,g5⟩
   | _ =>
    rw [hgs] at ht
    obtain ⟨bs,g1,g2,g3⟩:=ht.plain rfl
    exact .of (g1.keep (fun _ h=>h) (fun _ _=>rfl) hμ fun _ _=>rfl) g2 fun b hb=>hO' b _ (g3 b hb) (hOt b s (g3 b hb) fun e=>hst e.symm)
theorem ARepAll.setD : ∀ {cs:List AV} {vs:List Value} {bs:List Nat} (j:Nat) {c:DV} {v:Value},ARepAll P w I μ cs vs bs→bs=[]→Rep w I c v→ARepAll P w I μ (cs.set j (.d c)) (vs.set j v) []
 | _,_,_,j,c,v,.nil,_,hr=>by simp;exact .nil
 | _,_,_,0,c,v,.cons h t,hb,hr=>by
  obtain ⟨rfl,rfl⟩:=List.append_eq_nil_iff.1 hb
  exact ARepAll.cons (b1:=[]) (b2:=[]) (.d hr) t
 | _,_,_,j+1,c,v,.cons h t,hb,hr=>by
  obtain ⟨rfl,rfl⟩:=List.append_eq_nil_iff.1 hb
  exact ARepAll.cons (b1:=[]) (b2:=[]) h (t.setD j rfl hr)
def XP : List AV→Nat→List DV→List AV
 | zs,_,[]=>zs
 | zs,off,c::cs=>XP (zs.set off (.d c)) (off+1) cs
def QD (places:List (Nat×Nat)) : List AV→List (Nat×DV)→Option (List AV)
 | zs,[]=>some zs
 | zs,(i,d)::r=>match places[i]? with
  | none=>none
  | some (off,n)=>if d.flat&&Nat.beq d.cells.length n&&Nat.ble (off+n) zs.length then QD places (XP zs off d.cells) r else none
theorem QU (off:Nat) : ∀ {cs:List DV} {us:List Value} (k:Nat) {zs:List AV} {cells:Array Value},RepAll w I cs us→ARepAll P w I μ zs cells.toList [] →
  ARepAll P w I μ (XP zs (off+k) cs) ((us.zipIdx k).foldl (fun (cs:Array Value) x=>cs.setIfInBounds (off+x.2) x.1) cells).toList []
 | _,_,k,zs,cells,.nil,hz=>hz
 | _,_,k,zs,cells,.cons (c:=c) (v:=v) h t,hz=>by
  rw [List.zipIdx_cons,List.foldl_cons,XP]
  exact QU off (k+1) t (by rw [Array.toList_setIfInBounds];exact hz.setD _ rfl h)
theorem Of {places:List (Nat×Nat)} : ∀ {ps:List (Nat×DV)} {vs:List (Nat×Value)} {zs cs:List AV} {cells:Array Value},QD places zs ps=some cs→ARepAll P w I μ zs cells.toList [] →
  vs.map (·.1)=ps.map (·.1)→RepAll w I (ps.map (·.2)) (vs.map (·.2))→∃ cells',Instr.fill (places.toArray[·]?) cells vs=some cells'∧ARepAll P w I μ cs cells'.toList []
 | [],vs,zs,cs,cells,h,hz,h1,h2=>by
  have:vs=[]:=by simpa using h1
  subst this
  simp only [QD,Option.some.injEq] at h;subst h
  exact ⟨cells,rfl,hz⟩
 | (i,d)::ps,[],zs,cs,cells,h,hz,h1,h2=>by simp at h1
 | (i,d)::ps,(j,v)::vs,zs,cs,cells,h,hz,h1,h2=>by
  simp only [List.map_cons,List.cons.injEq] at h1
  obtain ⟨rfl,h1⟩:=h1
  simp only [List.map_cons] at h2
  cases h2 with
  | cons hd ht =>
   simp only [QD] at h
   cases hp:places[j]? with
   | none=>rw [hp] at h;cases h
   | some on =>
    obtain ⟨off,n⟩:=on
    rw [hp] at h
    simp only at h
    split at h
    ·rename_i hc
     simp only [Bool.and_eq_true,Nat.ble_eq] at hc
     obtain ⟨⟨c1,c2⟩,c3⟩:=hc
     obtain ⟨k1,k2⟩:=hd.vcells c1
     have hvl:v.cells.size=n:=by rw [← Array.length_toList,← k1.length];exact Nat.eq_of_beq_eq_true c2
     have hzl:cells.size=zs.length:=by rw [← Array.length_toList,← hz.length]
     have hs:=QU (w:=w) (I:=I) off 0 (zs:=zs) (cells:=cells) k1 hz
     obtain ⟨cells',f1,f2⟩:=Of h hs h1 ht
     refine ⟨cells',?_,f2⟩
     have hp':places.toArray[j]?=some (off,n):=by simpa using hp
     simp only [Instr.fill,hp']
     rw [if_neg (by simp;omega)]
     rw [← f1]
     congr 1
     rw [← Array.foldl_toList]
     simp
    ·cases h
theorem Yi {ty:Nat} {parts:Array (Nat×Operand)} {places:List (Nat×Nat)} {z:Value} {zs cs:List AV} {ps:List (Nat×DV)} (hp:CR P ty=some places) (hz:(P.info? ty).bind (·.zero)=some z) (hzr:∀ w I μ,ARepAll P w I μ zs z.cells.toList [])
  (ho:o.op=.build ty parts:=by rfl) (hps:Gb env parts.toList=some ps:=by rfl) (hf:QD places zs ps=some cs:=by rfl):VOK P C o env H (.ag cs) :=
 .val (by simp [ho]) fun X a w I μ O _ _ _ hs=>by
  have key:∀ {xs:List (Nat×Operand)} {ps:List (Nat×DV)},Gb env xs=some ps→(xs.map fun x=>(x.1,a.eval x.2)).map (·.1)=ps.map (·.1)∧RepAll w I (ps.map (·.2)) ((xs.map fun x=>(x.1,a.eval x.2)).map (·.2)):=by
   intro xs
   induction xs with
   | nil=>intro ps h;simp only [Gb,Option.some.injEq] at h;subst h;exact ⟨rfl,.nil⟩
   | cons x xs ih =>
    intro ps h
    obtain ⟨i,x⟩:=x
    simp only [Gb] at h
    cases h1:A0 (lk env x) with
    | none=>rw [h1] at h;cases h
    | some v =>
     cases h2:Gb env xs with
     | none=>rw [h1,h2] at h;cases h
     | some vs =>
      rw [h1,h2] at h
      simp only [Option.some.injEq] at h;subst h
      obtain ⟨q1,q2⟩:=ih h2
      exact ⟨by simp only [List.map_cons];rw [q1],.cons (hs.deep h1) q2⟩
  obtain ⟨k1,k2⟩:=key hps
  obtain ⟨cells,f1,f2⟩:=Of (P:=P) (μ:=μ) hf (hzr w I μ) k1 k2
  have hb:P.built ty (parts.map fun x=>(x.1,a.eval x.2)).toList=some cells:=by
   unfold CR at hp
   unfold Program.built
   cases hi:P.info? ty with
   | none=>rw [hi] at hz;cases hz
   | some it =>
    rw [hi] at hz
    simp only [oB] at hz
    split at hp
    ·rename_i fields hu
     simp only [hu,hz,hp]
     rw [Array.toList_map];exact f1
    ·cases hp
  refine ⟨.agg cells,w,I,[],?_,Below.refl _ _,fun _ h=>h,fun b hi=>⟨hs.ilt b hi,fun _=>hi⟩,?_,nN,by simp⟩
  ·simp only [execOp,ho,Sem.run_bind]
   have:=run_build (P:=P) w ty (parts.map fun x=>(x.1,a.eval x.2)) cells hb
   rw [show (parts.map fun x=>match x with|(i,x)=>(i,a.eval x))=parts.map (fun (x:Nat×Operand)=>(x.1,a.eval x.2)) from rfl,this]
   simp only [Result.andThen_ok,Sem.run_pure]
  ·have:=ARep.ag f2
   simpa [Wn] using this
theorem XL {y:Operand} {t ty n:Nat} {cs ds:List DV} {cs':List AV} (h:RL P C ops Q (k+1) l ((t,.bp H.length 0)::env) (H++[.box cs'])) (hsz:Av P ty=n) (hn:0<n) (hg:grd ops env o true=true:=by rfl) (ho:o.op=.store ty (.tmp t) y:=by rfl)
  (hv:get env t=.nb cs:=by rfl) (hy:lk env y=.ag cs':=by rfl) (hno:noOwnL cs'=true:=by rfl) (hds:PD cs'=some ds:=by rfl) (hl:cs.length=n:=by rfl) (hl':ds.length=n:=by rfl) (h1:ds.all DV.leaf=true:=by rfl) (hd:o.dst=none:=by rfl):RL P C ops Q k (o::l) env H:=by
 refine .go hg (.done (by simp [ho]) hd (fun X a w I μ O _ _ _ hs=>?_) h)
 obtain ⟨bs,hr⟩:=hs.lk (x:=y) (by rw [hy];rfl)
 rw [hy] at hr
 generalize hev:a.eval y=u at hr
 cases hr with
 | @ag _ vs _ hr =>
  have hb0:=noOwnL_bs hr hno
  subst hb0
  have hrd:=J3 hds hr
  obtain ⟨blk,cells,e,q1,q2,q3,q4⟩:=hs.nbSet hv hrd
  obtain ⟨n1,_,_⟩:=hs.other_blk (t:=t) (blk:=blk) (by
   obtain ⟨blk',_,_,g1,_,_,g4⟩:=hs.nb_inv hv
   rw [q1] at g1;cases g1;exact g4)
  have hnew:=setRow_heap w blk cells vs.toArray e (0,0) q2
  obtain ⟨I',μ',O',fin⟩:=q4.nbbA (t:=t) (cs:=ds) (cs':=cs') (by simp [get]) (fun blk' cells' e' p1 p2=>by
   rw [q1] at p1;cases p1
   rw [hnew] at p2;cases p2
   exact hr.keep (fun _ h=>h) (fun b hi=>setRow_other w blk b _ (n1 b hi)) (fun _ _ h=>h) (by simp))
  refine ⟨_,I',μ',O',?_,fin.same fun s=>?_⟩
  ·have hone:=hrd.one h1
   have hvl:vs.length=n:=by rw [← hrd.length];exact hl'
   have hcl:cells.size=n:=by rw [← Array.length_toList,← q3.length];exact hl
   obtain ⟨i,i1,i2⟩:=GX (P:=P) (t:=ty) (by omega)
   have hx:a.eval (.tmp t)=.pointer (some ⟨blk,0,none⟩):=q1
   have hsi:(P.info? ty).map (·.size)=some vs.toArray.size:=by rw [i1];simp;omega
   simp only [execOp,ho,hx,hev,Instr.storeAt,Instr.sureAddr,Sem.run_bind,Sem.run_pure,Result.andThen_ok,run_storeVar_row w blk e ty cells vs.toArray q2 hsi (by simp;omega) (by
    rw [Array.all_eq_true_iff_forall_mem];intro v hv;exact hone v (by simpa using hv))]
  ·simp only [get]
   split<;>rfl
def R8 (P:Program) (s f:Nat) : Option Bool:=match P.underlying s with
 | some (.struct fs)=>(fs[f]?).bind fun fl=>BH P fl.type
 | _=>none
theorem KY {s f:Nat} {b:Bool} (h:R8 P s f=some b) : ∃ fs fl,P.underlying s=some (.struct fs)∧fs[f]?=some fl∧BH P fl.type=some b:=by
 unfold R8 at h
 split at h
 ·rename_i fs hu
  obtain ⟨fl,h1,h2⟩:=Option.bind_eq_some_iff.1 h
  exact ⟨fs,fl,hu,h1,h2⟩
 ·cases h
theorem Ab9 {x:Operand} {s f off:Nat} {c:DV} {cs:List DV} (hf:Br P s f=some (off,1)) (hg:R8 P s f=some false) (ho:o.op=.field s x f:=by rfl) (hv:lk env x=.d (.ag cs):=by rfl) (hc:cs[off]?=some c:=by rfl) : VOK P C o env H (.d c):=by
 obtain ⟨fs,fl,h1,h2,h3⟩:=KY hg
 exact vfd hf ⟨fs,fl,h1,h2,rfl⟩ h3 hv hc ho
theorem Xp {x:Operand} {s f off n:Nat} {cs:List DV} (hf:Br P s f=some (off,n)) (hg:R8 P s f=some true) (ho:o.op=.field s x f:=by rfl) (hv:lk env x=.d (.ag cs):=by rfl) : VOK P C o env H (.d (.ag ((cs.drop off).take n))):=by
 refine .same (by simp [ho]) fun X a w I μ O _ hs=>?_
 have hr:=hs.deep (x:=x) (v:=.ag cs) (by rw [hv];rfl)
 obtain ⟨fs,fl,i,g1,g2,g3,g4,g5⟩:=Gz hf
 obtain ⟨fs',fl',e1,e2,e3⟩:=KY hg
 rw [g1] at e1;cases e1
 rw [g2] at e2;cases e2
 generalize hev:a.eval x=u at hr
 cases hr with
 | ag _ vs hr =>
  refine ⟨.agg (vs.toArray.extract off (off+n)),?_,?_⟩
  ·simp [execOp,ho,hev,Instr.field,run_underlying g1,g2,part,Hm e3,asAgg,DR g4,g3,g5]
  ·have:=Rep.ag _ _ ((hr.drop off).take n)
   have e:((vs.drop off).take n).toArray=vs.toArray.extract off (off+n):=by
    apply Array.ext'
    simp [List.take_drop]
   rwa [e] at this
theorem UK {α:Type} {F:List α→List DV} (hF:∀ xs ys,F (xs++ys)=F xs++F ys) {us ws zs:List α} {m:Nat} (hz:ap? m us ws=some zs) {c:Call} {y:Operand} {r t id off ty e sz by_:Nat} {z:Value} {cs:List AV} (hH:H[id]?=some (.box cs)) (hcs:cs[off]?=some (.own e (F us))) (hby:m * by_≤140737488355328∧m≤9223372036854775807)
  (h:RL P C ops Q (k+1) l ((t,.own e (F zs))::(r,.un)::env) (H.set id (.box (cs.set off .un)))) (hsz:∀ xs,∀ x∈F xs,x.cells.length=sz) (hlen:∀ xs,(F xs).length=xs.length) (hT:Cb P ty=some (e,sz,by_,z)) (hg:grd ops env o true=true:=by rfl) (ho:o.op=.call c:=by rfl)
  (hc:c.callee=.builtin .append:=by rfl) (hx:c.args=#[.tmp r,y]:=by rfl) (hty:c.argTypes=#[ty,ty]:=by rfl) (hv:get env r=.ref (.c id off) 0 (F us).length:=by rfl) (hy:rd env H (lk env y)=some (F ws):=by rfl) (hd:o.dst=some t:=by rfl)
  (hf:Aj (get env t)=false:=by rfl) (hnc:Pr id off ((r,.un)::env.filter fun x=>x.1 != r)=true:=by rfl) (ht:okT C.nt t:=by rfl) (h0:C.n0=0:=by rfl):RL P C ops Q k (o::l) env H:=by
 obtain ⟨hle,rfl⟩:=Mh hz
 exact apc (xs:=F us) (ys:=F ws) (len:=(F us).length) hH hcs (by rw [hlen,hlen];exact PB hle hby) (by rw [List.take_length,← hF];exact h) (hsz ws) hT hg ho hc hx hty hv hy hd hf hnc ht h0
theorem Q7 {c:Call} {r ty off len n:Nat} {p:Pl} (hl:len=n) (hu:P.underlying ty=some (.slice (P.elem ty))) (ho:o.op=.call c:=by rfl) (hc:c.callee=.builtin .len:=by rfl) (hx:c.args=#[.tmp r]:=by rfl) (hty:c.argTypes=#[ty]:=by rfl)
  (hv:get env r=.ref p off len:=by rfl):VOK P C o env H (.d (.i .i64 n)):=by
 subst hl;exact Abp hu ho hc hx hty hv
end
end Go.FL
namespace Go.FL
open Go Go.RowKit
def Abl (s:ByteArray) (pos:Nat) : Int:=(Utf8.decode s pos).1
def Yx (s:ByteArray) (pos:Nat) : Nat:=pos+(Utf8.decode s pos).2
section
variable {P:Program} {C:Cx} {X:Snap} {o:Oper} {ops:Array Oper} {Q:Exit→Env→Ab→Prop} {env env':Env} {H H':Ab} {a:Act} {w w':World} {I I':Nat→Prop} {μ μ':List Nat} {O O':Nat→Option Loc}
 {K:Env→Ab→Prop} {k:Nat} {l:List Oper}
theorem Abw {x:Operand} {src dst:Nat} {q:IntKind} {n:Int} (hs':(P.underlying src).isSome=true) (hd':P.underlying dst=some .string) (ho:o.op=.convert src dst x:=by rfl) (hv:lk env x=.d (.i q n):=by rfl) : VOK P C o env H (.d (.s (Utf8.encode n))):=by
 refine .same (by simp [ho]) fun X a w I μ O _ hs=>⟨.string (Utf8.encode n),?_,.s _⟩
 have hr:=hs.deep (x:=x) (v:=.i q n) (by rw [hv];rfl)
 generalize hev:a.eval x=u at hr
 cases hr with
 | i _ _=>simp only [execOp,ho,hev,Sem.run_bind,run_convert_int_string w src dst q n hs' hd',Result.andThen_ok,Sem.run_pure]
end
end Go.FL
namespace Go.FL
open Go Go.RowKit
def HG (tmps:Array Value) : ResultVar→Sem Value
 | .tmp t=>pure (tmps.getD t undef)
 | .cell a t=>do loadVar t (← asAddr (tmps.getD a undef))
def resOne (P:Program) (env:Env) : ResultVar→DV→Prop
 | .tmp t,d=>A0 (get env t)=some d
 | .cell t ty,d=>∃ cs,cellD P env t ty cs∧d=.ag cs
def UE (P:Program) (env:Env) (r:AV) : List ResultVar→Prop
 | [x,y]=>∃ dx dy,resOne P env x dx∧resOne P env y dy∧r=.tup [.d dx,.d dy]
 | [x,y,z]=>∃ dx dy dz,resOne P env x dx∧resOne P env y dy∧resOne P env z dz∧r=.tup [.d dx,.d dy,.d dz]
 | [x,y,z,u]=>∃ dx dy dz du,resOne P env x dx∧resOne P env y dy∧resOne P env z dz∧resOne P env u du∧r=.tup [.d dx,.d dy,.d dz,.d du]
 | [x,y,z,u,v]=>∃ dx dy dz du dv,resOne P env x dx∧resOne P env y dy∧resOne P env z dz∧resOne P env u du∧resOne P env v dv∧r=.tup [.d dx,.d dy,.d dz,.d du,.d dv]
 | _=>False
def Abd (P:Program) (rs:List ResultVar) (r:AV) : Exit→Env→Ab→Prop
 | .normal,env,_=>UE P env r rs
 | .ret,env,_=>UE P env r rs
 | _,_,_=>False
theorem HL (fn:Func) (tmps:Array Value) : results fn tmps=(do
  let vs ← fn.results.mapM (HG tmps)
  pure (if h:vs.size=1 then vs[0] else .tuple vs)):=by
 unfold results
 congr 2
theorem Ou {fn:Func} {x y:ResultVar} {wx wy:Value} (h:fn.results=#[x,y]) {tmps:Array Value} {P:Program} {w:World} (hx:(HG tmps x).run P w=.ok wx w) (hy:(HG tmps y).run P w=.ok wy w) : (results fn tmps).run P w=.ok (.tuple #[wx,wy]) w:=by
 rw [HL,h]
 simp [Sem.run_bind,hx,hy]
theorem Uh {fn:Func} {x y z:ResultVar} {wx wy wz:Value} (h:fn.results=#[x,y,z]) {tmps:Array Value} {P:Program} {w:World} (hx:(HG tmps x).run P w=.ok wx w) (hy:(HG tmps y).run P w=.ok wy w) (hz:(HG tmps z).run P w=.ok wz w) : (results fn tmps).run P w=.ok (.tuple #[wx,wy,wz]) w:=by
 rw [HL,h]
 simp [Sem.run_bind,hx,hy,hz]
theorem TN {fn:Func} {x y z u:ResultVar} {wx wy wz wu:Value} (h:fn.results=#[x,y,z,u]) {tmps:Array Value} {P:Program} {w:World} (hx:(HG tmps x).run P w=.ok wx w) (hy:(HG tmps y).run P w=.ok wy w) (hz:(HG tmps z).run P w=.ok wz w) (hu:(HG tmps u).run P w=.ok wu w) : (results fn tmps).run P w=.ok (.tuple #[wx,wy,wz,wu]) w:=by
 rw [HL,h]
 simp [Sem.run_bind,hx,hy,hz,hu]
theorem Ub {fn:Func} {x y z u v:ResultVar} {wx wy wz wu wv:Value} (h:fn.results=#[x,y,z,u,v]) {tmps:Array Value} {P:Program} {w:World} (hx:(HG tmps x).run P w=.ok wx w) (hy:(HG tmps y).run P w=.ok wy w) (hz:(HG tmps z).run P w=.ok wz w) (hu:(HG tmps u).run P w=.ok wu w) (hv:(HG tmps v).run P w=.ok wv w) : (results fn tmps).run P w=.ok (.tuple #[wx,wy,wz,wu,wv]) w:=by
 rw [HL,h]
 simp [Sem.run_bind,hx,hy,hz,hu,hv]
section
variable {P:Program} {X:Snap} {env:Env} {H:Ab} {a:Act} {w:World} {I:Nat→Prop} {μ:List Nat} {O:Nat→Option Loc}
theorem Sim.resOne (hs:Sim P X env H a w I μ O) {x:ResultVar} {d:DV} (h:Go.FL.resOne P env x d) : ∃ v,(HG a.tmps x).run P w=.ok v w∧Rep w I d v:=by
 cases x with
 | tmp t=>exact ⟨_,rfl,hs.deepT h⟩
 | cell t ty =>
  obtain ⟨cs,h1,rfl⟩:=h
  obtain ⟨p,v,k1,k2,k3⟩:=hs.cellD h1
  exact ⟨v,by simp [HG,k1,asAddr,k2],k3⟩
theorem Sim.resultsA (hs:Sim P X env H a w I μ O) {fn:Func} {rs:List ResultVar} (hrs:fn.results=rs.toArray) {r:AV} (h:UE P env r rs) :
  ∃ v bs,(Go.results fn a.tmps).run P w=.ok v w∧ARep P w I μ r v bs∧bs.Nodup∧∀ b∈bs,∃ l,O b=some l:=by
 unfold UE at h
 split at h
 ·obtain ⟨dx,dy,kx,ky,rfl⟩:=h
  obtain ⟨wx,ex,rx⟩:=hs.resOne kx
  obtain ⟨wy,ey,ry⟩:=hs.resOne ky
  exact ⟨_,[],Ou (by rw [hrs]) ex ey,.tup (ARepAll.cons (b1:=[]) (b2:=[]) (.d rx) (ARepAll.cons (b1:=[]) (b2:=[]) (.d ry) .nil)),nN,by simp⟩
 ·obtain ⟨dx,dy,dz,kx,ky,kz,rfl⟩:=h
  obtain ⟨wx,ex,rx⟩:=hs.resOne kx
  obtain ⟨wy,ey,ry⟩:=hs.resOne ky
  obtain ⟨wz,ez,rz⟩:=hs.resOne kz
  exact ⟨_,[],Uh (by rw [hrs]) ex ey ez,.tup (ARepAll.cons (b1:=[]) (b2:=[]) (.d rx) (ARepAll.cons (b1:=[]) (b2:=[]) (.d ry) (ARepAll.cons (b1:=[]) (b2:=[]) (.d rz) .nil))),nN,by simp⟩
 ·obtain ⟨dx,dy,dz,du,kx,ky,kz,ku,rfl⟩:=h
  obtain ⟨wx,ex,rx⟩:=hs.resOne kx
  obtain ⟨wy,ey,ry⟩:=hs.resOne ky
  obtain ⟨wz,ez,rz⟩:=hs.resOne kz
  obtain ⟨wu,eu,ru⟩:=hs.resOne ku
  exact ⟨_,[],TN (by rw [hrs]) ex ey ez eu,.tup (ARepAll.cons (b1:=[]) (b2:=[]) (.d rx) (ARepAll.cons (b1:=[]) (b2:=[]) (.d ry) (ARepAll.cons (b1:=[]) (b2:=[]) (.d rz) (ARepAll.cons (b1:=[]) (b2:=[]) (.d ru) .nil)))),nN,by simp⟩
 ·obtain ⟨dx,dy,dz,du,dv,kx,ky,kz,ku,kv,rfl⟩:=h
  obtain ⟨wx,ex,rx⟩:=hs.resOne kx
  obtain ⟨wy,ey,ry⟩:=hs.resOne ky
  obtain ⟨wz,ez,rz⟩:=hs.resOne kz
  obtain ⟨wu,eu,ru⟩:=hs.resOne ku
  obtain ⟨wv,ev,rv⟩:=hs.resOne kv
  exact ⟨_,[],Ub (by rw [hrs]) ex ey ez eu ev,.tup (ARepAll.cons (b1:=[]) (b2:=[]) (.d rx) (ARepAll.cons (b1:=[]) (b2:=[]) (.d ry) (ARepAll.cons (b1:=[]) (b2:=[]) (.d rz) (ARepAll.cons (b1:=[]) (b2:=[]) (.d ru) (ARepAll.cons (b1:=[]) (b2:=[]) (.d rv) .nil))))),nN,by simp⟩
 ·exact h.elim
theorem Fn.ofA {f:FuncId} {fn:Func} {c:Code} {args:List DV} {r:AV} {rs:List ResultVar} {nt:Nat} (hf:P.funcs[f]?=some fn) (hb:fn.body=some c) (hrs:fn.results=rs.toArray) (hnt:fn.ntmps=nt) (hn:args.length≤nt) (hbp:noBp r=true)
  (h:AW P {nt:=(0,nt),n0:=0,ne:=0} c (Abd P rs r) (CI 0 args) []):Fn P f args r:=by
 intro w I vs hI ha
 refine callsIn_of_wp hf hb trivial ?_
 have hlen:=ha.length
 let X:Snap:={w:=w,I:=I,K:=fun b=>b<w.heap.size,n0:=0,ne:=0,μ:=[],nt:=(0,nt),dfs:=[]}
 let a:Act:={tmps:=vs.toArray++Array.replicate (fn.ntmps-vs.toArray.size) undef,defers:=[]}
 have hs:Sim P X (CI 0 args) [] a w I [] (fun _=>none):=by
  refine ⟨{prot:=fun _ _=>rfl,kO:=fun _ _=>rfl,kI:=fun _ _ h=>h,mono:=fun _ h=>h,os:=rfl,tape:=rfl,output:=rfl,size:=Nat.le_refl _,own:=(fun b l h=>by simp at h),ilt:=hI,μlen:=rfl,μpre:=(fun i b hi _=>by simp [X] at hi),nle:=(by simp [X]),heap:=(fun id o h=>by simp at h),klt:=fun b hb=>hb,n0le:=(by simp [X])},fun t=>?_,?_,rfl,fun t h=>absurd h (by simp [X])⟩
  ·rcases DT (tmps:=a.tmps) (k:=0) ha (fun j v hj=>by
    have hjl:j<vs.length:=(lS.1 hj).1
    have e2:(vs.toArray++Array.replicate (fn.ntmps-vs.length) undef)[j]?=some v:=by
     rw [Array.getElem?_append_left (by simpa using hjl)];simpa using hj
    simp [a,e2]) t with h0|⟨d,h0,h1⟩
   ·rw [h0];exact .un
   ·rw [h0];exact .of (bs:=[]) (.d h1) nN (by simp)
  ·simp [a,X,hnt];omega
 have hw:=h X a w I [] (fun _=>none) rfl rfl rfl hs
 refine wpIn_mono hw fun e a' w' hp=>?_
 obtain ⟨env',H',I',μ',O',s,q⟩:=hp
 have fin:UE P env' r rs→a'.defers=[]∧∃ v,(Go.results fn a'.tmps).run P w'=.ok v w'∧∃ v' I' bs,Ending.returned v=.returned v'∧Below w.heap.size w w'∧(∀ b,I b→I' b) ∧
   (∀ b,I' b→b<w'.heap.size∧(b<w.heap.size→I b))∧ARep P w' I' [] r v' bs∧bs.Nodup∧∀ b∈bs,w.heap.size≤b∧b<w'.heap.size∧¬I' b:=by
  intro hres
  obtain ⟨v,bs,h1,h2,h3,h4⟩:=s.resultsA hrs hres
  refine ⟨s.dfs.1,v,h1,v,I',bs,rfl,⟨s.os,s.tape,s.output,s.size,fun b hb=>s.prot b hb⟩,s.mono,fun b hi=>⟨s.ilt b hi,fun hb=>s.kI b hb hi⟩,h2.noBp hbp,h3,fun b hm=>?_⟩
  obtain ⟨l,hl⟩:=h4 b hm
  refine ⟨?_,(s.own b l hl).1,(s.own b l hl).2⟩
  rcases Nat.lt_or_ge b w.heap.size with hlt|hge
  ·have:=s.kO b hlt;rw [this] at hl;cases hl
  ·exact hge
 cases e with
 | normal=>exact fin q
 | ret=>exact fin q
 | _=>exact q.elim
end
end Go.FL
namespace Go.FL
open Go
def val : List Nat→Nat
 | []=>0
 | x::xs=>x+4294967296 * val xs
def Ok (a:List Nat) : Prop:=∀ x∈a,x<4294967296
def Af (n:Nat) : List Nat:=if h : n=0 then [] else n % 4294967296::Af (n / 4294967296)
termination_by n
decreasing_by exact Nat.div_lt_self (by omega) (by decide)
theorem A4 : Af 0=[]:=by unfold Af;simp
theorem D6 {n:Nat} (h:n≠0) : Af n=n % 4294967296::Af (n / 4294967296):=by
 conv=>lhs;unfold Af
 simp [h]
theorem Ok.nil : Ok []:=by simp [Ok]
theorem Ok.cons {x:Nat} {a:List Nat} (h:x<4294967296) (ha:Ok a) : Ok (x::a):=by
 intro y hy
 rcases List.mem_cons.1 hy with rfl|hy
 ·exact h
 ·exact ha y hy
theorem Ok.head {x:Nat} {a:List Nat} (h:Ok (x::a)) : x<4294967296:=h x (by simp)
theorem Ok.tail {x:Nat} {a:List Nat} (h:Ok (x::a)) : Ok a:=fun y hy=>h y (by simp [hy])
theorem Ok.append {a b:List Nat} (ha:Ok a) (hb:Ok b) : Ok (a++b):=by
 intro y hy
 rcases List.mem_append.1 hy with hy|hy
 ·exact ha y hy
 ·exact hb y hy
theorem Ok.left {a b:List Nat} (h:Ok (a++b)) : Ok a:=fun y hy=>h y (by simp [hy])
theorem Ok.right {a b:List Nat} (h:Ok (a++b)) : Ok b:=fun y hy=>h y (by simp [hy])
theorem Ok.take {a:List Nat} (h:Ok a) (n:Nat) : Ok (a.take n):=fun y hy=>h y (List.mem_of_mem_take hy)
theorem Ok.drop {a:List Nat} (h:Ok a) (n:Nat) : Ok (a.drop n):=fun y hy=>h y (List.mem_of_mem_drop hy)
theorem Ok.set {a:List Nat} (h:Ok a) (n:Nat) {x:Nat} (hx:x<4294967296) : Ok (a.set n x):=fun y hy=>by
 rcases List.mem_or_eq_of_mem_set hy with hy|rfl
 ·exact h y hy
 ·exact hx
theorem Ok.at {a:List Nat} (h:Ok a) {n x:Nat} (hx:a[n]?=some x) : x<4294967296:=h x (List.mem_of_getElem? hx)
theorem Bf (n:Nat) : Ok (Af n):=by
 induction n using Nat.strongRecOn with
 | ind n ih =>
  by_cases h:n=0
  ·subst h;rw [A4];exact .nil
  ·rw [D6 h]
   exact .cons (Nat.mod_lt _ (by decide)) (ih _ (Nat.div_lt_self (by omega) (by decide)))
theorem AK (n:Nat) : val (Af n)=n:=by
 induction n using Nat.strongRecOn with
 | ind n ih =>
  by_cases h:n=0
  ·subst h;rw [A4];rfl
  ·rw [D6 h,val,ih _ (Nat.div_lt_self (by omega) (by decide))]
   exact Nat.mod_add_div n 4294967296
theorem E9 (a b:List Nat) : val (a++b)=val a+4294967296 ^ a.length * val b:=by
 induction a with
 | nil=>simp [val]
 | cons x a ih =>
  simp only [List.cons_append,val,ih,List.length_cons,Nat.pow_succ]
  rw [Nat.mul_add,← Nat.mul_assoc,Nat.mul_comm 4294967296 (4294967296 ^ a.length),Nat.add_assoc]
theorem Cn {a:List Nat} (h:Ok a) : val a<4294967296 ^ a.length:=by
 induction a with
 | nil=>simp [val]
 | cons x a ih =>
  have h1:=h.head
  have h2:=ih h.tail
  simp only [val,List.length_cons,Nat.pow_succ]
  have:4294967296 * val a+4294967296≤4294967296 * 4294967296 ^ a.length:=by
   rw [← Nat.mul_succ];exact Nat.mul_le_mul_left _ h2
  rw [Nat.mul_comm (4294967296 ^ a.length)]
  omega
def Top (a:List Nat) : Prop:=∀ x,a.getLast?=some x→x≠0
theorem WI {a:List Nat} (h:Ok a) (ht:Top a) : Af (val a)=a:=by
 induction a with
 | nil=>rw [val,A4]
 | cons x a ih =>
  have hx:=h.head
  have hne:val (x::a)≠0:=by
   intro h0
   simp only [val] at h0
   have h1:x=0:=by omega
   have h2:val a=0:=by
    rcases Nat.eq_zero_or_pos (val a) with h|h
    ·exact h
    ·have:4294967296 * 1≤4294967296 * val a:=Nat.mul_le_mul_left _ h
     omega
   cases a with
   | nil=>exact ht x (by simp) h1
   | cons y b =>
    have:=ih h.tail (fun z hz=>ht z (by simpa [List.getLast?_cons_cons] using hz))
    rw [h2,A4] at this;cases this
  rw [D6 hne]
  have h1:val (x::a) % 4294967296=x:=by simp only [val];rw [Nat.add_mul_mod_self_left];exact Nat.mod_eq_of_lt hx
  have h2:val (x::a) / 4294967296=val a:=by simp only [val];rw [Nat.add_mul_div_left _ _ (by decide),Nat.div_eq_of_lt hx];omega
  rw [h1,h2]
  congr 1
  cases a with
  | nil=>rw [val,A4]
  | cons y b=>exact ih h.tail (fun z hz=>ht z (by simpa [List.getLast?_cons_cons] using hz))
theorem VI (n:Nat) : Top (Af n):=by
 induction n using Nat.strongRecOn with
 | ind n ih =>
  intro x hx
  by_cases h:n=0
  ·subst h;rw [A4] at hx;cases hx
  ·rw [D6 h] at hx
   by_cases h2:n / 4294967296=0
   ·rw [h2,A4] at hx
    simp at hx
    have:n<4294967296:=by
     rcases Nat.lt_or_ge n 4294967296 with h|h
     ·exact h
     ·have:=Nat.div_pos h (by decide);omega
    rw [Nat.mod_eq_of_lt this] at hx;omega
   ·have:=ih (n / 4294967296) (Nat.div_lt_self (by omega) (by decide))
    rw [D6 h2] at hx this
    exact this x (by simpa [List.getLast?_cons_cons] using hx)
theorem WC (a:List Nat) : val (a++[0])=val a:=by rw [E9];simp [val]
theorem ID {a:List Nat} (h:Ok a) : NI a=Af (val a):=by
 generalize hn:a.length=n
 induction n generalizing a with
 | zero =>
  have:a=[]:=by cases a<;>simp_all
  subst this;rw [val,A4];rfl
 | succ n ih =>
  rcases List.eq_nil_or_concat a with rfl|⟨b,x,rfl⟩
  ·rw [val,A4];rfl
  ·rw [List.concat_eq_append] at *
   by_cases hx:x=0
   ·subst hx
    rw [Li,WC]
    exact ih h.left (by simpa using hn)
   ·rw [Ms _ hx,WI h]
    intro y hy
    simp at hy;omega
theorem Vc (a:List Nat) : ∃ k,a=NI a++List.replicate k 0:=by
 generalize hn:a.length=n
 induction n generalizing a with
 | zero =>
  have:a=[]:=by cases a<;>simp_all
  subst this;exact ⟨0,rfl⟩
 | succ n ih =>
  rcases List.eq_nil_or_concat a with rfl|⟨b,x,rfl⟩
  ·exact ⟨0,rfl⟩
  ·rw [List.concat_eq_append] at *
   by_cases hx:x=0
   ·subst hx
    obtain ⟨k,hk⟩:=ih b (by simpa using hn)
    refine ⟨k+1,?_⟩
    rw [Li,List.replicate_succ',← List.append_assoc,← hk]
   ·rw [Ms _ hx];exact ⟨0,by simp⟩
theorem Rq {a:List Nat} (h:Ok a) : a.length=(Af (val a)).length↔Af (val a)=a:=by
 obtain ⟨k,hk⟩:=Vc a
 rw [ID h] at hk
 constructor
 ·intro hl
  have:k=0:=by
   have:=congrArg List.length hk
   simp at this;omega
  subst this;simpa using hk.symm
 ·intro h;rw [h]
theorem Cv {n k:Nat} (h:n<4294967296 ^ k) : (Af n).length≤k:=by
 induction k generalizing n with
 | zero =>
  have:n=0:=by simpa using h
  subst this;rw [A4];simp
 | succ k ih =>
  by_cases h0:n=0
  ·subst h0;rw [A4];simp
  ·rw [D6 h0,List.length_cons]
   have:n / 4294967296<4294967296 ^ k:=by
    rw [Nat.div_lt_iff_lt_mul (by decide)];rwa [Nat.pow_succ] at h
   have:=ih this;omega
theorem Cp {a:List Nat} (h:Ok a) : (Af (val a)).length≤a.length:=Cv (Cn h)
end Go.FL
namespace Go.FL
open Go Go.Proofs
theorem PA (xs:List Nat) (hx:xs.length≤35184372087808) : Fn Tryz.prog 161 [.sl (L xs)] (.d (.sl (L (NI xs)))):=by
 refine Fn.o1 2 24 Tryz.func161 ?_
 refine .seq (.region ?_)
 refine asn ?_;refine rn ?_
 refine .seq (.block (.loop (.gh (Gh.keep [0] rfl) ?_)))
 refine AL.ind (σ:=List Nat) (m:=List.length) (e:=fun ys=>[(0,.d (.sl (L ys)))]) (h:=fun _=>[]) (I:=fun ys=>NI ys=NI xs∧ys.length≤xs.length) ?_ xs ⟨rfl,Nat.le_refl _⟩
 intro ys ⟨hI,hl⟩ ih
 refine .seq (.seq (.region ?_))
 refine mvd ?_
 refine ln ?_ (BY _) l32
 refine kB zj<|kA zj ?_
 rcases List.eq_nil_or_concat ys with rfl|⟨zs,z,rfl⟩
 ·refine gf ?_
  refine gf4 ?_;refine gf2 ?_;refine pkd ?_;refine rn<|BD ?_;refine .exit ?_;refine aw ?_
  refine .seq (.region ?_)
  refine kA zj<|kD zj<|rn<|.ret ?_
  exact ⟨by rw [← hI];rfl,rfl⟩
 ·simp only [List.concat_eq_append,List.length_append,List.length_singleton] at *
  have e1:decide ((0:Int)<((L (zs++[z])).length:Int))=true:=by simp [Aa]
  rw [e1]
  refine kA zj<|kA zj ?_
  refine ln ?_ (BY _) l32
  refine su zs.length ?_ ?_
  ·simp [Aa];omega
  refine ix zs.length ?_ rfl (Fz (xs:=zs++[z]) (n:=z) (by simp)) rfl s32
  refine ldp ?_ a32
  refine kB zj<|pkd ?_;refine rn ?_
  by_cases hz:z=0
  ·subst hz
   refine BN ?_;refine .skip<|aw ?_
   refine .block (.region ?_)
   refine kA zj<|kA zj ?_
   refine ln ?_ (BY _) l32
   refine su zs.length ?_ ?_
   ·simp [Aa];omega
   refine mvd ?_
   refine ln ?_ (BY _) l32
   refine su zs.length ?_ ?_
   ·simp [Aa];omega
   refine sl 0 zs.length ?_ ?_ (S7 _) s32
   ·simp [Aa];omega
   refine kD zj<|.nil ?_;refine AL.gh (Gh.keep [0] rfl) ?_
   have:=ih zs ⟨by rw [← hI,Li],by omega⟩ (by omega)
   have e2:((L (zs++[0])).drop 0).take (zs.length-0)=L zs:=by simp [Wa,← Aa zs]
   rw [e2]
   exact this
  ·have e2:decide ((z:Int)=0)=false:=by simp;omega
   rw [e2]
   refine BD ?_;refine .exit ?_;refine aw ?_
   refine .seq (.region ?_)
   refine kA zj<|kD zj<|rn<|.ret ?_
   exact ⟨by rw [← hI,Ms _ hz];rfl,rfl⟩
theorem Aai : 0<Av Tryz.prog 133:=by rw [z32];decide
theorem DZ {a:List Nat} (h:Ok a) (hl:a.length≤35184372087808) : Fn Tryz.prog 161 [.sl (L a)] (.d (.sl (L (Af (val a))))):=by
 have:=PA a (by omega)
 rwa [ID h] at this
theorem NB (a:List Nat) (hl:a.length≤35184372087808) : Fn Tryz.prog 117 [.sl (L a)] (.own 133 (L a)):=by
 refine Fn.o1 2 8 Tryz.func117 ?_;refine .sr<|asn ?_;refine rn<|.seq<|.sr<|kA zj ?_
 refine nq (fun b hb=>?_) (BY _) l32
 refine rn ?_
 refine cnd (fun hc=>?_) (fun hc=>?_)
 ·simp only [if_true] at hc
  have h0:L a=[]:=by
   apply Classical.byContradiction
   intro h;rw [hb h] at hc;cases hc
  refine .sr<|asn ?_;refine rn<|.gh (Gh.nlOwn (t:=2) 133 Aai rfl)<|.ret ?_
  exact ⟨by rw [h0];rfl,rfl⟩
 ·refine .skip ?_
  refine aw<|.sr ?_
  refine bsl ?_ ?_ e32
  ·simp
  refine mvd ?_
  refine apo ?_ ?_ (S7 _) e32
  ·simp [Aa];omega
  refine aso ?_;refine rn<|.ret ?_
  exact ⟨rfl,rfl⟩
theorem JO {a:List Nat} (h:Ok a) (hl:a.length≤35184372087808) : Fn Tryz.prog 211 [.sl (L a)] (.own 133 (L (Af (val a)))):=by
 have hd:=Cp h
 refine Fn.o1 2 6 Tryz.func211 ?_;refine .sr<|asn ?_;refine rn<|.sr<|kA zj ?_
 refine cl ?_ (DZ h hl) Tryz.call161
 refine cl ?_ (NB (Af (val a)) (by omega)) Tryz.call117
 refine aso ?_;refine rn<|.ret ?_
 exact ⟨rfl,rfl⟩
theorem P4 {a:List Nat} (h:Ok a) (hl:a.length≤35184372087808) : Fn Tryz.prog 164 [.sl (L a)] (.d (.b (decide (Af (val a)=a)))):=by
 have hd:=Cp h
 refine Fn.o1 2 9 Tryz.func164 ?_;refine .sr<|kD zj<|rn<|.sr<|kA zj ?_
 refine ln ?_ (BY _) l32
 refine mvd ?_
 refine cl ?_ (DZ h hl) Tryz.call161
 refine ln ?_ (BY _) l32
 refine kB zj<|kD zj<|rn<|.ret ?_
 refine ⟨?_,rfl⟩
 show AV.d (.b (decide (((L a).length:Int)=((L (Af (val a))).length:Int))))=_
 congr 2
 simp only [Aa,decide_eq_decide]
 rw [← Rq h];omega
theorem T6 {n:Nat} (h:n<18446744073709551616) : val [n % 4294967296,n / 4294967296]=n∧Ok [n % 4294967296,n / 4294967296]:=by
 refine ⟨by simp only [val];omega,?_⟩
 exact .cons (Nat.mod_lt _ (by decide)) (.cons (by omega) .nil)
theorem FE (n:Nat) : IntKind.u32.wrap (n:Int)=((n % 4294967296:Nat) : Int):=by
 simp only [IntKind.wrap,IntKind.bits,IntKind.signed]
 simp
theorem YH {n:Nat} (h:n<18446744073709551616) : Fn Tryz.prog 115 [.i .u64 n] (.d (.sl (L (Af n)))):=by
 obtain ⟨h1,h2⟩:=T6 h
 refine Fn.o1 2 10 Tryz.func115 ?_;refine .sr<|asn ?_;refine rn<|.sr<|kA zj ?_
 refine cve ((n % 4294967296:Nat):Int) (FE n) ?_ u64 u32
 refine kA zj<|bie (.i .u64 ((n / 4294967296:Nat):Int)) ?_ ?_
 ·simp [IntKind.bits]
 refine cve ((n / 4294967296:Nat):Int) (by rw [FE,Nat.mod_eq_of_lt];omega) ?_ u64 u32
 refine bsl ?_ ?_ e32
 ·simp [DV.flat,DV.cells,DV.leaf]
 refine fz (p:=.t 8) ?_
 refine cl (xs:=[.sl (L [n % 4294967296,n / 4294967296])]) ?_ (DZ h2 (by simp)) Tryz.call161
 refine kD zj<|rn<|.ret ?_
 exact ⟨by rw [h1];rfl,rfl⟩
theorem BW {n:Nat} (h:n<18446744073709551616) : IntKind.u64.wrap (n:Int)=n:=by
 simp only [IntKind.wrap,IntKind.bits,IntKind.signed]
 simp;omega
theorem Ot {n:Nat} (h:n<4294967296) : IntKind.u32.wrap (n:Int)=n:=by
 rw [FE,Nat.mod_eq_of_lt h]
theorem Tj (a b:List Nat) (hl:a.length≤35184372087808) : Fn Tryz.prog 56 [.sl (L a),.sl (L b)] (.d (.b (decide (a=b)))):=by
 refine Fn.o1 4 26 Tryz.func56 ?_;refine .sr<|kD zj<|rn<|.seq<|.sr<|kA zj ?_
 refine ln ?_ (BY _) l32
 refine mvd ?_
 refine ln ?_ (BY _) l32
 refine kB zj<|rn ?_
 by_cases hlen:a.length=b.length
 ·have e1:(!decide (((L a).length:Int)=((L b).length:Int)))=false:=by simp [Aa];omega
  rw [e1]
  refine BD ?_;refine .skip<|aw<|.mid (fun e H'=>e=[(0,.d (.sl (L a))),(1,.d (.sl (L b)))]∧a=b) ?_ ?_
  ·refine .sr ?_
   refine kD zj<|rn<|.block ?_
   refine .loop (.gh (Gh.keep [0,1,5] rfl) ?_)
   refine AL.ind (σ:=Nat) (m:=fun i=>a.length-i) (e:=fun i=>[(0,.d (.sl (L a))),(1,.d (.sl (L b))),(5,.d (.i .i64 i))]) (h:=fun _=>[]) (I:=fun i=>i≤a.length∧a.take i=b.take i) ?_ 0 ⟨by omega,by simp⟩
   intro i ⟨hi,hc⟩ ih
   refine .seq<|.sr<|kA zj<|kA zj ?_
   refine ln ?_ (BY _) l32
   refine kB zj<|rn ?_
   by_cases hil:i<a.length
   ·rw [dT (show (i:Int)<((L a).length:Int) by rw [Aa];omega)]
    have hx:a[i]?=some a[i]:=lG hil
    have hy:b[i]?=some b[i]:=lG (by omega)
    refine BN ?_;refine .skip<|aw<|.gh (Gh.keep [0,1,5] rfl)<|.seq<|.block<|.seq<|.drawn 9 AS (by kernel_rfl) ?_;refine kV Ac<|kV Ac<|kV (vix i rfl (Fz hx) rfl s32)<|kV (Al a32)<|kV Ac<|kV Ac<|kV (vix i rfl (Fz hy) rfl s32)<|kV (Al a32)<|kV vbi<|dz ?_;refine rn ?_
    by_cases hxy:a[i]=b[i]
    ·have e2:(!decide (((a[i]:Nat):Int)=((b[i]:Nat):Int)))=false:=by simp;omega
     rw [e2]
     refine BD ?_;refine .skip<|aw<|.region<|kA zj<|ad ((i+1:Nat):Int) ?_ ?_
     ·omega
     refine kD zj<|.nil ?_
     refine AL.gh (Gh.keep [0,1,5] rfl) (ih (i+1) ⟨by omega,?_⟩ (by omega))
     rw [List.take_add_one,List.take_add_one,hc,hx,hy,hxy]
    ·have e2:(!decide (((a[i]:Nat):Int)=((b[i]:Nat):Int)))=true:=by simp;omega
     rw [e2]
     refine BN ?_;refine .sr<|kD zj<|rn<|.ret ?_
     have:a≠b:=fun e=>hxy (by subst e;rfl)
     exact ⟨by rw [dF this];rfl,rfl⟩
   ·rw [dF (show ¬(i:Int)<((L a).length:Int) by rw [Aa];omega)]
    refine BD ?_;refine .gh (Gh.keep [0,1] rfl)<|.exit ?_
    refine ⟨rfl,?_⟩
    rwa [List.take_of_length_le (by omega),List.take_of_length_le (by omega)] at hc
  ·rintro _ _ ⟨rfl,rfl⟩
   refine .sr<|kD zj<|rn<|.ret ?_
   exact ⟨by rw [dT rfl];rfl,rfl⟩
 ·have e1:(!decide (((L a).length:Int)=((L b).length:Int)))=true:=by simp [Aa];omega
  rw [e1]
  refine BN ?_;refine .sr<|kD zj<|rn<|.ret ?_
  have:a≠b:=fun e=>hlen (by rw [e])
  exact ⟨by rw [dF this];rfl,rfl⟩
end Go.FL
namespace Go.FL
open Go Go.Proofs Go.RowKit
attribute [local go_sem] Oper.semAt_some
set_option maxRecDepth 100000 in
set_option maxHeartbeats 2000000 in
theorem Yy (F:Fence) (n:Nat) (hF:F.fn 163) (hro:F.round=none) (hn:1≤n) (l:Nat) (bx:Nat) (ox:Nat) (A:Option Addr) (b off cap:Nat) (vs:List Value) (J:Nat→World→Prop) (hr:vs.length≤1048576) (hA:0<vs.length→A=some ⟨b,off,none⟩)
  (hbx:∀ k W',J k W'→W'.cell? ⟨bx,ox,none⟩=some (.slice A vs.length cap)) (hc:∀ k W',J k W'→∀ j u,vs[j]?=some u→W'.cell? ⟨b,off+j,none⟩=some u)
  (hY:∀ k W1 u,J k W1→k<vs.length→vs[vs.length-1-k]?=some u→YieldAt F (n-1) Tryz.prog l #[.int .i64 ((vs.length-1-k:Nat):Int),u] W1 fun e W'=>e=.returned (.bool true)∧J (k+1) W')
  (W:World) (h0:J 0 W) :
  CallsIn F n Tryz.prog 163 #[.func (.yield l) #[] #[],.pointer (some ⟨bx,ox,none⟩)] W fun e W'=>(∃ v,e=.returned v)∧J vs.length W':=by
 refine callsIn_of_wp Tryz.func163 rfl hF ?_ hro
 simp only [Tryz.ntmps163,List.size_toArray,List.length_cons,List.length_nil,Nat.reduceAdd,Nat.reduceSub,Array.replicate_succ,Array.replicate_zero,List.push_toArray,List.append_toArray,List.nil_append,List.cons_append]
 have hbx0:=hbx 0 W h0
 gi_wp2
 gi_loopw [3] (fun i wr=>∃ k:Nat,k≤vs.length∧i=.int .i64 ((vs.length:Int)-1-k)∧J k wr) (fun i _=>((intOf i)+1).toNat)
 case atStart=>exact ⟨0,Nat.zero_le _,by simp,h0⟩
 case round =>
  obtain ⟨k,hk,rfl,hJs⟩:=hrel
  have hbx':=hbx k wr hJs
  by_cases hlt:k<vs.length
  ·have hvk:vs[vs.length-1-k]?=some vs[vs.length-1-k]:=lG (by omega)
   obtain ⟨fn,tmps,assign,body,hy,hR⟩:=hY k wr _ hJs hlt hvk
   rw [show ((vs.length-1-k:Nat):Int)=(vs.length:Int)-1-k by omega] at hy
   have hcx':=hc k wr hJs _ _ hvk
   have hAA:=hA (by omega)
   subst hAA
   gi_wp2
   refine hR.mono ?_
   rintro e W3 ⟨rfl,hJ3⟩
   gi_wp2
   go_roundw
   case rel=>exact ⟨k+1,by omega,by simp;omega,hJ3⟩
   case measure=>simp [intOf];omega
  ·obtain rfl:k=vs.length:=by omega
   gi_wp2
   go_end0
   exact ⟨⟨_,rfl⟩,hJs⟩
def Jp (xs:List DV) : List (List DV):=(List.range xs.length).map fun k=>[.i .i64 ((xs.length-1-k:Nat) : Int),xs.getD (xs.length-1-k) .np]
theorem FR (xs:List DV) : (Jp xs).length=xs.length:=by simp [Jp]
theorem Ke {xs:List DV} {k:Nat} {ds:List DV} (h:(Jp xs)[k]?=some ds) : k<xs.length∧ds=[.i .i64 ((xs.length-1-k:Nat) : Int),xs.getD (xs.length-1-k) .np]:=by
 have h1:k<(Jp xs).length:=(lS.1 h).1
 rw [FR] at h1
 refine ⟨h1,?_⟩
 simp [Jp,h1] at h
 rw [← h];simp
theorem Oi {P:Program} {n m:Nat} {f:FuncId} {args:Array Value} {w:World} {R:Ending→World→Prop} (h:CallsIn (om none) n P f args w R) : CallsIn (om none) m P f args w R:=⟨h.1,fun cs _=>h.2 cs (room_wide _)⟩
theorem RepRows.leaf1 {w:World} {I:Nat→Prop} : ∀ {xs:List DV} {vs:List Value},RepRows w I 1 xs vs→(∀ x∈xs,x.leaf=true)→RepAll w I xs vs:=by
 intro xs
 induction xs with
 | nil=>intro vs h _;cases h;exact .nil
 | cons x xs ih =>
  intro vs h hx
  cases h with
  | cons hl h1 h t =>
   rename_i us vs'
   rw [DV.leaf_cells (hx x (by simp))] at h
   cases h with
   | cons hh tt=>cases tt;exact .cons hh (ih t fun y hy=>hx y (by simp [hy]))
theorem RepRows.size1 {w:World} {I:Nat→Prop} {sz:Nat} {xs:List DV} {vs:List Value} (h:RepRows w I sz xs vs) (hx:∀ x∈xs,x.leaf=true) (hne:xs≠[]) : sz=1:=by
 cases h with
 | nil=>exact absurd rfl hne
 | cons hl h1 h t =>
  rename_i x xs' us vs'
  rw [DV.leaf_cells (hx x (by simp))] at h
  have:=h.length
  rw [← hl,← this];rfl
theorem Yr (xs:List DV) (hx:∀ x∈xs,x.leaf=true) (hl:xs.length≤1048576) : It Tryz.prog 163 [.ptr [.sl xs]] (Jp xs):=by
 intro l W I cv J hJ hcv hY h0
 cases hcv with
 | cons hp ht =>
 cases ht
 cases hp with
 | ptr _ bk o us hI hh hr =>
 cases hr with
 | cons hs hn =>
 cases hn
 rename_i u
 have hbx:∀ k W',J k W'→W'.cell? ⟨bk,o,none⟩=some u:=fun k W' hj=>by
  have:=hh 0 u rfl
  rw [World.cell?_of_block (w:=W) (w':=W') (a:=⟨bk,o,none⟩) (hJ k W' hj bk hI)]
  simpa using this
 cases hs with
 | sl0 A c =>
  exact Oi (Yy (om none) 1 trivial rfl (Nat.le_refl _) l bk o A 0 0 c [] J (by simp) (by simp) hbx (by simp) (by simp) W h0)
 | sl xs bk' o' sz c vs hne hc hI' hsz hh' hr =>
  have hs1:=hr.size1 hx hne
  subst hs1
  have hra:=hr.leaf1 hx
  have hlv:xs.length=vs.length:=hra.length
  have hcell:∀ k W',J k W'→∀ j v,vs[j]?=some v→W'.cell? ⟨bk',o'+j,none⟩=some v:=fun k W' hj j v hv=>by
   rw [World.cell?_of_block (w:=W) (w':=W') (a:=⟨bk',o'+j,none⟩) (hJ k W' hj bk' hI')]
   exact hh' j v hv
  have:=Yy (om none) 1 trivial rfl (Nat.le_refl _) l bk o (some ⟨bk',o',none⟩) bk' o' c vs J (by omega) (fun _=>rfl) (by rw [← hlv];exact hbx) hcell (fun k W1 v hj hk hv=>?_) W h0
  ·rw [FR,hlv];exact Oi this
  ·have hk':k<xs.length:=by omega
   have hx1:xs[xs.length-1-k]?=some xs[xs.length-1-k]:=lG (by omega)
   obtain ⟨v',hv1,hv2⟩:=hra.get _ _ hx1
   rw [hlv,hv] at hv1
   cases hv1
   have hyk:(Jp xs)[k]?=some [.i .i64 ((xs.length-1-k:Nat):Int),xs.getD (xs.length-1-k) .np]:=by
    simp [Jp,hk']
   rw [← hlv]
   refine hY k W1 _ [.int .i64 ((xs.length-1-k:Nat):Int),v] hj hyk (.cons (.i _ _) (.cons ?_ .nil))
   rw [lD,hx1]
   exact hv2.keep (hJ k W1 hj) fun _ h=>h
end Go.FL
namespace Go.FL
open Go Go.Proofs
theorem Lt (xs:List DV) : Fn Tryz.prog 109 [.sl xs] (.d (.fn 163 [] [.ptr [.sl xs]])):=by
 refine Fn.o1 2 4 Tryz.func109 ?_;refine .sr<|bxd ?_;refine kD zj<|rn<|.sr<|mkf ?_;refine kD zj<|rn<|.ret ?_
 exact ⟨rfl,rfl⟩
def Bn (n:Nat) : Nat:=if n=0 then 0 else n.log2+1
theorem Dl {n k:Nat} : Bn n≤k↔n<2 ^ k:=by
 unfold Bn;split
 ·rename_i h;subst h;simp [Nat.two_pow_pos]
 ·rename_i h;rw [← Nat.log2_lt h];omega
theorem QI {n k:Nat} (h1:2 ^ k≤n) (h2:n<2 ^ (k+1)) : Bn n=k+1:=by
 have a:=Dl.2 h2
 have b:¬Bn n≤k:=fun h=>by have:=Dl.1 h;omega
 omega
theorem I7 {n:Nat} (h:n≠0) : ∃ k,Bn n=k+1∧2 ^ k≤n∧n<2 ^ (k+1):=by
 refine ⟨n.log2,by simp [Bn,h],Nat.log2_self_le h,Nat.lt_log2_self⟩
theorem LF {n m:Nat} (h:2 ^ m≤n) : Bn n=m+Bn (n / 2 ^ m):=by
 have hp:0<2 ^ m:=Nat.two_pow_pos m
 have h0:n / 2 ^ m≠0:=by have:=Nat.div_pos h hp;omega
 obtain ⟨k,h1,h2,h3⟩:=I7 h0
 rw [h1]
 rw [show m+(k+1)=(m+k)+1 by omega]
 refine QI ?_ ?_
 ·rw [Nat.pow_add,Nat.mul_comm]
  exact (Nat.le_div_iff_mul_le hp).1 h2
 ·rw [show m+k+1=(k+1)+m by omega,Nat.pow_add]
  exact (Nat.div_lt_iff_lt_mul hp).1 h3
theorem YO {l:List UInt8} (n:Nat) (h:n<256) (hl:(List.range 256).map (fun n=>(Bn n).toUInt8)=l) : l[n]?=some (Bn n).toUInt8:=by
 subst hl;simp [h]
theorem WV {n:Nat} (h:n<256) : IntKind.u8.wrap (n:Int)=n:=by
 simp only [IntKind.wrap,IntKind.bits,IntKind.signed]
 simp;omega
theorem V3 {n:Nat} (h:n<4294967296) : Fn Tryz.prog 210 [.i .u32 n] (.d (.i .i64 (Bn n))):=by
 refine Fn.o1 2 19 Tryz.func210 ?_;refine .sr<|kD zj<|rn<|.mid (fun e H'=>∃ y k:Nat,e=[(0,.d (.i .u32 y)),(2,.d (.i .i64 k))]∧y<65536∧k≤16∧Bn n=k+Bn y) ?_ ?_
 ·refine .sr ?_
  refine kA zj<|kB zj<|rn ?_
  by_cases hc:65536≤n
  ·rw [dT (show (65536:Int)≤(n:Int) by omega)]
   refine BN ?_;refine .sr<|kA zj<|bie (.i .u32 ((n / 65536:Nat):Int)) ?_ ?_
   ·simp [IntKind.bits]
   refine kD zj<|rn<|.region<|kD zj<|RL.gh (Gh.keep [0,2] rfl)<|rn ?_
   exact ⟨n / 65536,16,rfl,by omega,by omega,LF (m:=16) (by omega)⟩
  ·rw [dF (show ¬(65536:Int)≤(n:Int) by omega)]
   refine BD ?_;refine .gh (Gh.keep [0,2] rfl)<|.skip ?_
   exact ⟨n,0,rfl,by omega,by omega,by omega⟩
 rintro _ _ ⟨y,k,rfl,hy,hk,e1⟩
 refine .mid (fun e H'=>∃ z j:Nat,e=[(0,.d (.i .u32 z)),(2,.d (.i .i64 j))]∧z<256∧j≤24∧Bn n=j+Bn z) ?_ ?_
 ·refine .sr ?_
  refine kA zj<|kB zj<|rn ?_
  by_cases hc:256≤y
  ·rw [dT (show (256:Int)≤(y:Int) by omega)]
   refine BN ?_;refine .sr<|kA zj<|bie (.i .u32 ((y / 256:Nat):Int)) ?_ ?_
   ·simp [IntKind.bits]
   refine kD zj<|rn<|.region<|kA zj<|ad ((k+8:Nat):Int) ?_ ?_
   ·omega
   refine kD zj<|RL.gh (Gh.keep [0,2] rfl)<|rn ?_
   exact ⟨y / 256,k+8,rfl,by omega,by omega,by rw [e1,LF (m:=8) (by omega)];simp;omega⟩
  ·rw [dF (show ¬(256:Int)≤(y:Int) by omega)]
   refine BD ?_;refine .gh (Gh.keep [0,2] rfl)<|.skip ?_
   exact ⟨y,k,rfl,by omega,by omega,e1⟩
 rintro _ _ ⟨z,j,rfl,hz,hj,e2⟩
 have hb:Bn z≤8:=Dl.2 (by omega)
 refine .sr<|kA zj<|kA zj ?_
 refine cve (z:Int) (WV hz) ?_ u32 u8
 refine ids (b:=(Bn z).toUInt8) z rfl ?_ ?_ st
 ·exact YO z hz (by kernel_rfl)
 have e3:((Bn z).toUInt8).toNat=Bn z:=by simp;omega
 rw [e3]
 refine cve ((Bn z:Nat):Int) (GO (by omega) (by omega)) ?_ u8 i64
 refine ad ((Bn n:Nat):Int) ?_ ?_
 ·omega
 refine kD zj<|rn<|.ret ?_
 exact ⟨rfl,rfl⟩
theorem GF {n:Nat} (h:n<4294967296) : Fn Tryz.prog 162 [.i .u32 n] (.d (.i .i64 ((32-Bn n:Nat) : Int))):=by
 have hb:Bn n≤32:=Dl.2 (by omega)
 refine Fn.o1 2 6 Tryz.func162 ?_;refine .sr<|kD zj<|rn<|.sr<|kA zj ?_
 refine cl ?_ (V3 h) Tryz.call210
 refine su ((32-Bn n:Nat):Int) ?_ ?_
 ·omega
 refine kD zj<|rn<|.ret ?_
 exact ⟨rfl,rfl⟩
theorem Aa5 (n:Nat) : 4294967296 ^ n=2 ^ (32 * n):=by rw [Nat.pow_mul]
theorem Oy {b:List Nat} {x:Nat} (h:Ok b) (hx:x≠0) : Bn (val (b++[x]))=32 * b.length+Bn x:=by
 obtain ⟨k,h1,h2,h3⟩:=I7 hx
 have hv:=Cn h
 rw [h1,E9,← Nat.add_assoc]
 simp only [val]
 rw [Aa5] at hv ⊢
 have hp:=Nat.two_pow_pos (32 * b.length)
 refine QI ?_ ?_
 ·rw [Nat.pow_add]
  have:=Nat.mul_le_mul_left (2 ^ (32 * b.length)) h2
  simp only [Nat.mul_zero,Nat.add_zero];omega
 ·rw [show 32 * b.length+k+1=32 * b.length+(k+1) by omega,Nat.pow_add]
  have:=Nat.mul_le_mul_left (2 ^ (32 * b.length)) (Nat.succ_le_of_lt h3)
  rw [Nat.mul_succ] at this
  simp only [Nat.mul_zero,Nat.add_zero];omega
theorem M6 {n:Nat} (h:n≠0) : ∃ b x,Af n=b++[x]∧x≠0∧Ok b∧x<4294967296:=by
 rcases List.eq_nil_or_concat (Af n) with h0|⟨b,x,h0⟩
 ·rw [D6 h] at h0;cases h0
 ·rw [List.concat_eq_append] at h0
  have ho:=Bf n
  rw [h0] at ho
  exact ⟨b,x,h0,VI n x (by rw [h0];simp),ho.left,ho.right x (by simp)⟩
theorem Hz {n:Nat} : Af n=[]↔n=0:=by
 constructor
 ·intro h
  apply Classical.byContradiction
  intro h0;rw [D6 h0] at h;cases h
 ·rintro rfl;exact A4
theorem Tu {a:List Nat} (h:Ok a) (hl:a.length≤1048576) : Fn Tryz.prog 108 [.sl (L a)] (.d (.i .i64 (Bn (val a)))):=by
 have hd:=Cp h
 refine Fn.o1 2 19 Tryz.func108 ?_;refine .sr<|kD zj<|rn<|.sr<|kA zj ?_
 refine cl ?_ (DZ h (by omega)) Tryz.call161
 refine kD zj<|rn<|.seq<|.sr<|kA zj ?_
 refine ln ?_ (BY _) l32
 refine kB zj<|rn ?_
 by_cases hz:val a=0
 ·rw [hz,A4]
  refine BN ?_;refine .sr<|kD zj<|rn<|.ret ?_
  exact ⟨rfl,rfl⟩
 ·obtain ⟨b,x,e1,hx,hb,hxl⟩:=M6 hz
  have hval:Bn (val a)=32 * b.length+Bn x:=by rw [← Oy hb hx,← e1,AK]
  have hlx:Bn x≤32:=Dl.2 (by omega)
  rw [e1] at hd ⊢
  simp only [List.length_append,List.length_singleton] at hd
  rw [dF (show ¬((L (b++[x])).length:Int)=0 by simp [Aa];omega)]
  refine BD ?_;refine .skip<|aw<|.sr<|kA zj ?_
  refine ln ?_ (BY _) l32
  refine ml ((32 * (b.length+1):Nat):Int) ?_ ?_
  ·simp [Aa];omega
  refine kA zj<|kA zj ?_
  refine ln ?_ (BY _) l32
  refine su (b.length:Int) ?_ ?_
  ·simp [Aa];omega
  refine ix b.length ?_ rfl (Fz (xs:=b++[x]) (n:=x) (by simp)) rfl s32
  refine ldp ?_ a32
  refine cl ?_ (GF hxl) Tryz.call162
  refine su ((Bn (val a):Nat):Int) ?_ ?_
  ·omega
  refine kD zj<|rn<|.ret ?_
  exact ⟨rfl,rfl⟩
theorem Hf (n:Int) (h₀:0≤n) (h₁:n<2 ^ 64) : IntKind.u64.wrap n=n:=by
 simp only [IntKind.wrap,IntKind.bits,IntKind.signed];simp;omega
theorem OJ (n:Int) (h₀:0≤n) (h₁:n<2 ^ 32) : IntKind.u32.wrap n=n:=by
 simp only [IntKind.wrap,IntKind.bits,IntKind.signed];simp;omega
theorem Kw {x y:Nat} (hx:x<4294967296) (hy:y<4294967296) : bits .or .u64 ((x * 4294967296:Nat) : Int) (y:Int)=((x * 4294967296+y:Nat) : Int):=by
 rw [bits_join .u64 64 (by decide) Hf 32 ((x * 4294967296:Nat):Int) (y:Int) (by omega) (by omega) (by omega) (by omega) (by omega) (by omega)]
 omega
theorem Ry (n m:Nat) : Int.tdiv (n:Int) (m:Int)=((n / m:Nat) : Int):=rfl
theorem Vr (n m:Nat) : Int.tmod (n:Int) (m:Int)=((n % m:Nat) : Int):=rfl
theorem Ve {hi lo y:Nat} (h1:hi<y) (h2:lo<4294967296) (h3:y<4294967296) : Fn Tryz.prog 252 [.i .u32 hi,.i .u32 lo,.i .u32 y]
  (.tup [.d (.i .u32 (((hi * 4294967296+lo) / y:Nat):Int)),.d (.i .u32 (((hi * 4294967296+lo) % y:Nat):Int))]):=by
 have hq:(hi * 4294967296+lo) / y<4294967296:=by
  rw [Nat.div_lt_iff_lt_mul (by omega)]
  have:hi * 4294967296+4294967296≤y * 4294967296:=by rw [← Nat.succ_mul];exact Nat.mul_le_mul_right _ h1
  omega
 have hr:(hi * 4294967296+lo) % y<4294967296:=by have:=Nat.mod_lt (hi * 4294967296+lo) (show 0<y by omega);omega
 refine Fn.of (rs:=[.tmp 6,.tmp 7]) (nt:=33) Tryz.func252 rfl rfl rfl (by simp) rfl ?_;refine .sr<|kD zj<|kD zj<|rn<|.seq<|.sr<|kA zj<|kB zj<|kA zj ?_
 have e1:(!decide ((y:Int)=0))=true:=by simp;omega
 rw [e1]
 refine kA zj<|kA zj<|kB zj ?_
 rw [dF (show ¬((y:Int)≤(hi:Int)) by omega)]
 refine pkd ?_;refine rn<|BD ?_;refine .skip<|aw<|.sr<|kA zj ?_
 refine cve (hi:Int) (BW (by omega)) ?_ u32 u64
 refine bie (.i .u64 ((hi * 4294967296:Nat):Int)) ?_ ?_
 ·refine ⟨by decide,?_⟩
  rw [show min (32:Int).toNat IntKind.u64.bits=32 from rfl,Hf _ (by omega) (by omega)]
  simp
 refine mvd ?_
 refine cve (lo:Int) (BW (by omega)) ?_ u32 u64
 refine bie (.i .u64 ((hi * 4294967296+lo:Nat):Int)) ?_ ?_
 ·exact ⟨trivial,by rw [Kw (by omega) h2]⟩
 refine kD zj<|rn<|.seq<|.gh (Gh.keep [2,8] rfl)<|.drawn 12 AS (by kernel_rfl) ?_;refine kV Ac<|kV Ac<|kV (VF (y:Int) (BW (by omega)) u32 u64)<|kV (R2 (.i .u64 (((hi * 4294967296+lo) / y:Nat):Int)) ?_) ?_
 ·refine ⟨by omega,?_⟩
  rw [Ry,BW (by omega)]
 refine kV (VF (((hi * 4294967296+lo) / y:Nat):Int) (Ot hq) u64 u32)<|kV Ac<|kV Ac<|kV (VF (y:Int) (BW (by omega)) u32 u64)<|kV (R2 (.i .u64 (((hi * 4294967296+lo) % y:Nat):Int)) ?_) ?_
 ·refine ⟨by omega,?_⟩
  rw [Vr]
 refine kV (VF (((hi * 4294967296+lo) % y:Nat):Int) (Ot hr) u64 u32)<|kV WY<|kV WY<|dz ?_;refine rn<|.ret ?_
 exact ⟨by decide,rfl,rfl,rfl⟩
theorem Hb (n:Int) (h₀:0≤n) (h₁:n<2 ^ 63) : IntKind.i64.wrap n=n:=by
 simp only [IntKind.wrap,IntKind.bits,IntKind.signed];simp;omega
theorem Vz {x y:Nat} (hx:x<2147483648) (hy:y<4294967296) : bits .or .i64 ((x * 4294967296:Nat) : Int) (y:Int)=((x * 4294967296+y:Nat) : Int):=by
 rw [bits_join .i64 63 (by decide) Hb 32 ((x * 4294967296:Nat):Int) (y:Int) (by omega) (by omega) (by omega) (by omega) (by omega) (by omega)]
 omega
theorem Abn (w:World) : (zeroValue 3).run Tryz.prog w=.ok (.int .i64 0) w:=by
 simp
theorem zi1 : Av Tryz.prog 3=1:=by kernel_rfl
theorem ai1 : BH Tryz.prog 3=some false:=by kernel_rfl
theorem V0 {xs:List Nat} {j:Nat} (h:j<xs.length) : val (xs.drop j)=xs[j]+4294967296 * val (xs.drop (j+1)):=by
 rw [lC h];simp [val]
theorem Uj {xs:List Nat} (h:Ok xs) (hl:xs.length≤2) (hv:val xs<9223372036854775808) : ∀ j,val (xs.drop (j+1))<2147483648:=by
 intro j
 match xs,hl with
 | [],_=>simp [val]
 | [x],_=>cases j<;>simp [val]
 | [x,y],_ =>
  cases j with
  | zero=>simp [val] at hv ⊢;omega
  | succ j=>cases j<;>simp [val]
def MX (a:List Nat) : Nat:=if Bn (val a)≤63 then val a else 0
theorem Wk {a:List Nat} (h:Ok a) (hl:a.length≤1048576) : Fn Tryz.prog 233 [.sl (L a)] (.tup [.d (.i .i64 (MX a:Nat)),.d (.b (decide (Bn (val a)≤63)))]):=by
 refine Fn.ofM (rs:=[.tmp 2,.tmp 3]) (nt:=21) Tryz.func233 rfl rfl rfl (by simp) rfl ?_;refine .seqA ?_;refine .region<|kD zj<|kD zj<|rn ?_
 show AWM _ _ _ _ _ _
 refine .seqA ?_;refine .seq<|.region<|kA zj ?_
 refine cl (xs:=[.sl (L a)]) ?_ (Tu h hl) Tryz.call108
 refine kB zj<|rn ?_
 by_cases hb:Bn (val a)≤63
 ·rw [dF (show ¬((63:Int)<(Bn (val a):Int)) by omega)]
  refine BD ?_;refine .skip ?_
  show AWM _ _ _ _ _ _
  have hv63:val a<9223372036854775808:=Dl.1 hb
  have hlen2:(Af (val a)).length≤2:=Cv (by omega)
  have hvd:=AK (val a)
  have hvs:=Uj (Bf (val a)) hlen2 (by rw [hvd];exact hv63)
  have hdok:=Bf (val a)
  refine .seqA ?_;refine .region ?_
  refine al ?_ Abn (fun w I μ=>.cons (c:=.d (.i .i64 0)) (b1:=[]) (.d (.i _ _)) .nil)
  refine stb (cs:=[.d (.i .i64 0)]) (c:=.d (.i .i64 0)) rfl rfl ?_ zi1
  refine rn ?_
  show AWM _ _ _ _ _ _
  refine .seq rfl<|.seqA ?_;refine .region<|kA zj ?_
  refine cl (xs:=[.sl (L a)]) ?_ (PA a (by omega)) Tryz.call161
  rw [ID h]
  refine cl (xs:=[.sl (L (Af (val a)))]) ?_ (Lt (L (Af (val a)))) Tryz.call109
  refine rn ?_
  show AWM _ _ _ _ _ _
  generalize Af (val a)=xs at *
  have hys:∀ ds∈Jp (L xs),ds.length=2:=fun ds hds=>by
   obtain ⟨k,hk⟩:=List.getElem?_of_mem hds
   rw [(Ke hk).2];rfl
  have hit:=Yr (L xs) (by intro x hx;simp only [L,List.mem_map] at hx;obtain ⟨n,_,rfl⟩:=hx;rfl) (by rw [Aa];omega)
  refine .block<|.rangeFunc rfl rfl rfl Tryz.call163 hit hys (by decide) (by decide) rfl (fun k=>[.box [.d (.i .i64 ((val (xs.drop (xs.length-k)):Nat):Int))]]) (by simp [val]) ?_ ?_
  ·intro l k d1 d2 hk
   obtain ⟨hk1,hk2⟩:=Ke hk
   rw [Aa] at hk1 hk2
   have hj:xs.length-1-k<xs.length:=by omega
   have hxat:(L xs).getD (xs.length-1-k) .np=U xs[xs.length-1-k]:=by
    rw [lD,Fz (lG hj)];rfl
   rw [hxat] at hk2
   simp only [List.cons.injEq,and_true] at hk2
   obtain ⟨rfl,rfl⟩:=hk2
   have hva:=V0 hj
   have hx:=hdok.at (lG hj)
   have hsm:=hvs (xs.length-1-k)
   have e1:xs.length-1-k+1=xs.length-k:=by omega
   have e2:xs.length-(k+1)=xs.length-1-k:=by omega
   rw [e1] at hva hsm
   rw [e2]
   generalize xs[xs.length-1-k]=x at *
   generalize val (xs.drop (xs.length-k))=n at *
   rw [hva]
   refine .region<|kD zj<|rn<|aw<|.block<|.region ?_
   refine ldb (cs:=[.d (.i .i64 (n:Int))]) (c:=.d (.i .i64 (n:Int))) rfl rfl ?_ ai1
   refine bie (.i .i64 ((n * 4294967296:Nat):Int)) ?_ ?_
   ·refine ⟨by decide,?_⟩
    have:IntKind.i64.wrap ((n:Int) * 4294967296)=((n * 4294967296:Nat):Int):=by
     rw [Hb _ (by omega) (by omega)];omega
    rw [← this];simp [IntKind.bits]
   refine mvd ?_
   refine cve (x:Int) (Hb _ (by omega) (by omega)) ?_ u32 i64
   refine bie (.i .i64 ((n * 4294967296+x:Nat):Int)) ?_ ?_
   ·exact ⟨trivial,by rw [Vz hsm hx]⟩
   refine stb (cs:=[.d (.i .i64 (n:Int))]) (c:=.d (.i .i64 (n:Int))) rfl rfl ?_ zi1
   refine .nil ?_
   refine ⟨rfl,?_⟩
   rw [show n * 4294967296+x=x+4294967296 * n by omega]
   rfl
  ·show AWM _ _ _ _ _ _
   refine .lift ?_
   rw [FR,Aa,Nat.sub_self,List.drop_zero,hvd]
   refine .seq<|.region ?_
   refine ldb (cs:=[.d (.i .i64 ((val a:Nat):Int))]) (c:=.d (.i .i64 ((val a:Nat):Int))) rfl rfl ?_ ai1
   refine kD zj<|kD zj<|rn<|.ret ?_
   exact ⟨by decide,by rw [dT hb,MX,if_pos hb];rfl,rfl,rfl⟩
 ·rw [dT (show ((63:Int)<(Bn (val a):Int)) by omega)]
  refine BN ?_;refine .seq<|.region<|kD zj<|kD zj<|rn<|.ret ?_
  exact ⟨by decide,by rw [dF hb,MX,if_neg hb];rfl,rfl,rfl⟩
theorem MK (xs:List Nat) (i n:Nat) : (L xs).set i (U n)=L (xs.set i n):=by simp [L,List.map_set]
theorem GZ {xs:List Nat} {i n:Nat} (h:xs[i]?=some n) : ∃ x,(L xs)[i]?=some x∧x.cells[0]?=some (U n):=⟨U n,Fz h,rfl⟩
theorem Gj {xs:List Nat} {i n:Nat} (h:xs[i]?=some n) : ∃ x,(L xs)[i]?=some x∧x.leaf=true:=⟨U n,Fz h,rfl⟩
theorem Rp {ds qs:List Nat} {k x r d:Nat} (hx:ds[k]?=some x) (h:val (ds.drop (k+1))=val qs * d+r) :
  val (ds.drop k)=val ((r * 4294967296+x) / d::qs) * d+(r * 4294967296+x) % d:=by
 have hk:k<ds.length:=(lS.1 hx).1
 have e:ds.drop k=x::ds.drop (k+1):=by
  rw [lC hk]
  rw [lG hk] at hx;cases hx;rfl
 rw [e,val,h,val]
 have:=Nat.div_add_mod (r * 4294967296+x) d
 generalize (r * 4294967296+x) / d=q at *
 generalize (r * 4294967296+x) % d=s at *
 rw [Nat.add_mul,Nat.mul_add,Nat.mul_comm q d]
 have e2:4294967296 * (val qs * d)=4294967296 * val qs * d:=by rw [Nat.mul_assoc]
 omega
theorem UC {n q r d:Nat} (h:n=q * d+r) (hr:r<d) : n / d=q∧n % d=r:=by
 subst h
 have hd:0<d:=by omega
 constructor
 ·rw [Nat.mul_comm,Nat.mul_add_div hd,Nat.div_eq_of_lt hr];omega
 ·rw [Nat.mul_comm,Nat.mul_add_mod,Nat.mod_eq_of_lt hr]
theorem Qa {a:List Nat} (h:Ok a) (hl:a.length≤1048576) {d:Nat} (hd0:0<d) (hd:d<4294967296) : Fn Tryz.prog 232 [.sl (L a),.i .u32 d]
  (.tup [.d (.sl (L (Af (val a / d)))),.d (.sl (L (Af (val a % d))))]):=by
 have hdl:=Cp h
 refine Fn.of (rs:=[.tmp 4,.tmp 5]) (nt:=35) Tryz.func232 rfl rfl rfl (by simp) rfl ?_;refine .sr<|asn ?_;refine asn ?_;refine rn<|.sr<|kA zj ?_
 refine cl ?_ (JO h (by omega)) Tryz.call211
 refine aso ?_;refine rn<|.sr<|kD zj<|rn ?_
 generalize hds:Af (val a)=ds at *
 have hok:Ok ds:=by rw [← hds];exact Bf _
 have hv:val ds=val a:=by rw [← hds,AK]
 refine .mid (fun e H'=>∃ qs r,e=[(4,.own 133 (L qs)),(6,.d (.i .u32 ((r:Nat):Int)))]∧H'=[]∧Ok qs∧qs.length=ds.length∧r<d∧val a=val qs * d+r) ?_ ?_
 ·refine .sr ?_
  refine mvo ?_
  refine lnr ?_ l32
  refine su ((ds.length:Int)-1) ?_ ?_
  ·simp [Aa];omega
  refine kD zj<|rn<|.block ?_
  refine .loop (.gh (Gh.keep [1,4,6,7] rfl) ?_)
  refine AL.cast (env':=[(1,.d (.i .u32 d)),(4,.own 133 (L (ds.take ds.length++[]))),(6,.d (.i .u32 ((0:Nat):Int))),(7,.d (.i .i64 ((ds.length:Int)-1)))]) (by simp [Jq,get,CI]) ?_
  refine AL.ind (σ:=Nat×List Nat×Nat) (m:=fun s=>s.1) (e:=fun s=>[(1,.d (.i .u32 d)),(4,.own 133 (L (ds.take s.1++s.2.1))),(6,.d (.i .u32 (s.2.2:Int))),(7,.d (.i .i64 ((s.1:Int)-1)))]) (h:=fun _=>[])
   (I:=fun s=>s.1≤ds.length∧Ok s.2.1∧s.2.1.length+s.1=ds.length∧s.2.2<d∧val (ds.drop s.1)=val s.2.1 * d+s.2.2) ?_ (ds.length,[],0) ?_
  rotate_left
  ·exact ⟨Nat.le_refl _,.nil,by simp,hd0,by simp [val]⟩
  rintro ⟨k,qs,r⟩ ⟨h1,h2,h3,h4,h5⟩ ih
  dsimp only at h1 h2 h3 h4 h5 ih ⊢
  refine .seq<|.sr<|kA zj<|kB zj<|rn ?_
  rcases Nat.eq_zero_or_pos k with rfl|hk
  ·rw [dF (show ¬(0:Int)≤((0:Nat):Int)-1 by omega)]
   refine BD ?_;refine .gh (Gh.keep [4,6] rfl)<|.exit ?_
   refine ⟨qs,r,rfl,rfl,h2,by omega,h4,?_⟩
   rw [← hv,← h5,List.drop_zero]
  ·obtain ⟨k,rfl⟩:∃ j,k=j+1:=⟨k-1,by omega⟩
   have hx:ds[k]?=some ds[k]:=lG (by omega)
   generalize ds[k]=x at hx
   have hx':(ds.take (k+1)++qs)[k]?=some x:=by
    rw [List.getElem?_append_left (by simp;omega),List.getElem?_take_of_lt (by omega)];exact hx
   rw [dT (show (0:Int)≤((k+1:Nat):Int)-1 by omega)]
   refine BN ?_;refine .skip<|aw<|.seq<|.block<|.region<|mvo ?_;refine kA zj<|kA zj<|mvo ?_;refine kA zj ?_
   refine ixr k ?_ ?_ ?_ s32 (by decide)
   ·omega
   ·simp [Aa];omega
   refine lde (U x) ?_ ?_ a32
   ·rw [Nat.zero_add];exact GZ hx'
   refine mvd ?_
   refine cl (xs:=[.i .u32 r,.i .u32 x,.i .u32 d]) ?_ (Ve h4 (hok.at hx) hd) Tryz.call252
   refine mvt ?_;refine ex ?_;refine ex ?_
   refine ixr k ?_ ?_ ?_ s32 (by decide)
   ·omega
   ·simp [Aa];omega
   refine ste ?_ ?_ z32
   ·rw [Nat.zero_add];exact Gj hx'
   refine kD zj<|.nil ?_;refine aw<|.region<|kA zj<|su ((k:Int)-1) ?_ ?_
   ·omega
   refine kD zj<|.nil ?_
   have hq:(r * 4294967296+x) / d<4294967296:=by
    rw [Nat.div_lt_iff_lt_mul (by omega)]
    have:r * 4294967296+4294967296≤d * 4294967296:=by rw [← Nat.succ_mul];exact Nat.mul_le_mul_right _ h4
    have:=hok.at hx
    omega
   have e1:(L (ds.take (k+1)++qs)).set (0+k) (U ((r * 4294967296+x) / d))=L (ds.take k++((r * 4294967296+x) / d::qs)):=by
    rw [MK,Nat.zero_add,List.take_add_one,hx]
    congr 1
    rw [List.append_assoc,List.set_append_right _ _ (by simp;omega)]
    simp [Nat.min_eq_left (show k≤ds.length by omega)]
   refine AL.gh (Gh.keep [1,4,6,7] rfl) ?_
   have:=ih (k,(r * 4294967296+x) / d::qs,(r * 4294967296+x) % d) ⟨by omega,.cons hq h2,by simp;omega,Nat.mod_lt _ hd0,Rp hx h5⟩ (by simp)
   dsimp only at this
   rw [← e1] at this
   exact this
 ·rintro _ _ ⟨qs,r,rfl,rfl,h1,h2,h3,h4⟩
  obtain ⟨e1,e2⟩:=UC h4 h3
  rw [e1,e2]
  refine .sr<|fz (p:=.t 4) ?_;refine kA zj ?_
  refine cl (xs:=[.sl (L qs)]) ?_ (DZ h1 (by omega)) Tryz.call161
  refine mvd ?_
  refine cve (r:Int) (BW (by omega)) ?_ u32 u64
  refine cl ?_ (YH (n:=r) (by omega)) Tryz.call115
  refine kD zj<|kD zj<|rn<|.ret ?_
  exact ⟨by decide,rfl,rfl,rfl⟩
theorem s8 : B3 Tryz.prog 235=some (5,1,1):=by kernel_rfl
theorem e8 : Cb Tryz.prog 235=some (5,1,1,.int .u8 0):=by kernel_rfl
theorem l8 : Tryz.prog.underlying 235=some (.slice (Tryz.prog.elem 235)):=by kernel_rfl
theorem q8 : Tryz.prog.underlying 235=some (.slice 5):=by kernel_rfl
theorem a8 : BH Tryz.prog 5=some false:=by kernel_rfl
theorem z8 : Av Tryz.prog 5=1:=by kernel_rfl
theorem SX {ns:List Nat} {i n:Nat} (h:ns[i]?=some n) : ∃ x,(B ns)[i]?=some x∧x.cells[0]?=some (.i .u8 (n:Int)):=⟨_,Zo h,rfl⟩
theorem ZW {ns:List Nat} {i n:Nat} (h:ns[i]?=some n) : ∃ x,(B ns)[i]?=some x∧x.leaf=true:=⟨_,Zo h,rfl⟩
def GP (ns:List Nat) (i:Nat) : List Nat:=(List.range ns.length).map fun j=>if j<i∨ns.length<j+i+1 then ns.getD (ns.length-1-j) 0 else ns.getD j 0
theorem Ez (ns:List Nat) (i:Nat) : (GP ns i).length=ns.length:=by simp [GP]
theorem IR {ns:List Nat} {i j:Nat} (h:j<ns.length) : (GP ns i)[j]?=some (if j<i∨ns.length<j+i+1 then ns.getD (ns.length-1-j) 0 else ns.getD j 0):=by simp [GP,h]
theorem TU (ns:List Nat) : GP ns 0=ns:=by
 apply List.ext_getElem?
 intro j
 by_cases h:j<ns.length
 ·rw [IR h,if_neg (by omega),lD,lG h];rfl
 ·rw [List.getElem?_eq_none (by rw [Ez];omega),List.getElem?_eq_none (by omega)]
theorem UB (ns:List Nat) {i:Nat} (hi:ns.length≤2 * i+1) : GP ns i=ns.reverse:=by
 apply List.ext_getElem?
 intro j
 by_cases h:j<ns.length
 ·rw [IR h,List.getElem?_reverse h]
  by_cases hc:j<i∨ns.length<j+i+1
  ·rw [if_pos hc,lD,lG (by omega)];rfl
  ·have:ns.length-1-j=j:=by omega
   rw [if_neg hc,this,lD,lG h];rfl
 ·rw [List.getElem?_eq_none (by rw [Ez];omega),List.getElem?_eq_none (by simp;omega)]
theorem TO (ns:List Nat) {i:Nat} (hi:2 * i+1<ns.length) : ((GP ns i).set i (ns.getD (ns.length-1-i) 0)).set (ns.length-1-i) (ns.getD i 0)=GP ns (i+1):=by
 apply List.ext_getElem?
 intro j
 by_cases h:j<ns.length
 ·rw [IR h,List.getElem?_set,List.getElem?_set,IR h,List.length_set,Ez]
  by_cases h1:ns.length-1-i=j
  ·rw [if_pos h1,if_pos (by omega),if_pos (by omega),← h1,show ns.length-1-(ns.length-1-i)=i by omega]
  ·rw [if_neg h1]
   by_cases h2:i=j
   ·rw [if_pos h2,if_pos (by omega),if_pos (by omega),h2]
   ·rw [if_neg h2]
    by_cases hc:j<i∨ns.length<j+i+1
    ·rw [if_pos hc,if_pos (by omega)]
    ·rw [if_neg hc,if_neg (by omega)]
 ·rw [List.getElem?_eq_none (by simp [Ez];omega),List.getElem?_eq_none (by rw [Ez];omega)]
theorem Sy {H:Ab} {ns:List Nat} (hl:ns.length≤1073741824) : FnG Tryz.prog 234 [.own 5 (B ns)] H (.tup []) [.own 5 (B ns.reverse)] H:=by
 refine FnG.of (rs:=[]) 1 28 Tryz.func234 rfl rfl rfl (by simp) (by simp) (by simp) ?_;refine .sr<|mvo ?_
 refine lnr ?_ l8
 refine su ((ns.length:Int)-1) ?_ ?_
 ·rw [Cu];omega
 refine kD zj<|kD zj<|rn<|.block ?_
 refine .loop (.gh (Gh.keep [0,2,3] rfl) ?_)
 refine AL.cast (env':=[(0,.own 5 (B (GP ns 0))),(2,.d (.i .i64 ((0:Nat):Int))),(3,.d (.i .i64 ((ns.length:Int)-1-((0:Nat):Int))))]) (by rw [TU];simp;rfl) ?_
 refine AL.ind (σ:=Nat) (m:=fun i=>ns.length-i) (e:=fun i=>[(0,.own 5 (B (GP ns i))),(2,.d (.i .i64 (i:Int))),(3,.d (.i .i64 ((ns.length:Int)-1-(i:Int))))]) (h:=fun _=>H)
  (I:=fun i=>i≤ns.length) ?_ 0 (Nat.zero_le _)
 intro i h1 ih
 refine .seq<|.sr<|kA zj<|kA zj<|kB zj<|rn ?_
 by_cases hi:2 * i+1<ns.length
 ·rw [dT (show (i:Int)<(ns.length:Int)-1-(i:Int) by omega)]
  refine BN ?_;refine .skip<|aw ?_
  have hjl:ns.length-1-i<ns.length:=by omega
  have hxi:(GP ns i)[i]?=some (ns.getD i 0):=by rw [IR (by omega),if_neg (by omega)]
  have hxj:(GP ns i)[ns.length-1-i]?=some (ns.getD (ns.length-1-i) 0):=by rw [IR hjl,if_neg (by omega)]
  have hst:=TO ns hi
  have hrl:=Ez ns i
  generalize ns.getD i 0=x at *
  generalize ns.getD (ns.length-1-i) 0=y at *
  refine .seq<|.block<|.drawnF 13 [2,3] [(0,.own 5 ((B (GP ns i)).set i (.i .u8 (y:Int))))] H AS (by kernel_rfl) rfl ?_;refine kV JJ<|kV Ac<|kV JJ<|kV Ac<|kV JJ<|kV Ac<|kV (LR (ns.length-1-i) ?_ ?_ s8 (by decide)) ?_
  ·omega
  ·rw [Cu,hrl];omega
  refine dv (PT (.i .u8 (y:Int)) ?_ a8) ?_
  ·rw [Nat.zero_add];exact SX hxj
  refine kV JJ<|kV Ac<|kV (LR i ?_ ?_ s8 (by decide)) ?_
  ·omega
  ·rw [Cu,hrl];omega
  refine dv (PT (.i .u8 (x:Int)) ?_ a8) ?_
  ·rw [Nat.zero_add];exact SX hxi
  refine dv (LR i ?_ ?_ s8 (by decide)) ?_
  ·omega
  ·rw [Cu,hrl];omega
  refine dz ?_
  refine ⟨?_,?_,?_⟩
  ·intro k hk
   simp only [List.mem_cons,List.not_mem_nil,or_false] at hk
   rcases hk with rfl|rfl
   ·refine ⟨_,_,_,rfl,rfl,rfl,rfl,rfl,rfl,?_⟩
    show VOK _ _ _ _ _ (.ref (.t 0) 0 (B (GP ns i)).length)
    rw [show (B (GP ns i)).length=((B (GP ns i)).set i (.i .u8 (y:Int))).length by rw [List.length_set]]
    exact JJ
   ·exact ⟨_,_,_,rfl,rfl,rfl,rfl,rfl,rfl,Ac⟩
  ·intro om e hom hge
   cases hom
   have hnf:∀ t,t≠16→t≠17→∀ k∈[2,3],∀ v,([(26,AV.ep (.t 0) (0+i) 0),(25,.d (.i .u8 (x:Int))),(24,.ep (.t 0) (0+i) 0),(23,.d (.i .i64 (i:Int))),(22,.ref (.t 0) 0 (B (GP ns i)).length),(21,.d (.i .u8 (y:Int))),(20,.ep (.t 0) (0+(ns.length-1-i)) 0),(19,.d (.i .i64 ((ns.length:Int)-1-(i:Int)))),(18,.ref (.t 0) 0 (B (GP ns i)).length),(17,.d (.i .i64 ((ns.length:Int)-1-(i:Int)))),(16,.ref (.t 0) 0 (B (GP ns i)).length),(15,.d (.i .i64 (i:Int))),(14,.ref (.t 0) 0 (B (GP ns i)).length)]:Env).reverse[k]?≠some (t,v):=by
    intro t ht1 ht2 k hk v
    simp only [List.mem_cons,List.not_mem_nil,or_false] at hk
    rcases hk with rfl|rfl<;>simp [Ne.symm ht1,Ne.symm ht2]
   have g26:get e 26=.ep (.t 0) i 0:=(hge 26 (hnf 26 (by decide) (by decide))).trans (by show AV.ep (.t 0) (0+i) 0=_;rw [Nat.zero_add])
   have g21:get e 21=.d (.i .u8 (y:Int)):=hge 21 (hnf 21 (by decide) (by decide))
   have g0:get e 0=.own 5 (B (GP ns i)):=hge 0 (hnf 0 (by decide) (by decide))
   refine Ni (x:=.tmp 26) (y:=.tmp 21) (r:=26) (ay:=.t 21) (p:=.t 0) (i:=i) (k:=0) (v:=.i .u8 (y:Int)) (x':=.i .u8 (y:Int)) rfl rfl rfl rfl z8 g26 g0 (fun _ _ h=>by cases h) g21 rfl ?_ ⟨rfl,rfl⟩
   rw [lD,Zo hxi];rfl
  ·refine ixr (ns.length-1-i) ?_ ?_ ?_ s8 (by decide)
   ·omega
   ·rw [Cu,hrl];omega
   refine ste ?_ ?_ z8
   ·rw [Nat.zero_add]
    rw [We]
    exact ZW (n:=y) (by rw [List.getElem?_set_ne (by omega)];exact hxj)
   refine .nil ?_;refine aw ?_
   rw [Nat.zero_add,We,We,hst]
   refine .region<|kA zj<|ad ((i+1:Nat):Int) ?_ ?_
   ·omega
   refine kA zj<|su ((ns.length:Int)-1-((i+1:Nat):Int)) ?_ ?_
   ·omega
   refine kD zj<|kD zj<|rn<|.gh (Gh.keep [0,2,3] rfl) ?_
   exact ih (i+1) (by omega) (by omega)
 ·rw [dF (show ¬((i:Int)<(ns.length:Int)-1-(i:Int)) by omega)]
  refine BD ?_;refine .exit ?_
  refine ⟨⟨[],by simp⟩,rfl,?_⟩
  intro k c hk
  cases k with
  | zero =>
   simp at hk;subst hk
   exact ⟨by rw [← UB ns (i:=i) (by omega)];rfl,rfl,by simp⟩
  | succ k=>simp at hk
def Fy (n:Nat) : List Nat:=if h : n=0 then [] else (48+n % 10)::Fy (n / 10)
termination_by n
decreasing_by omega
theorem Dn : Fy 0=[]:=by unfold Fy;simp
theorem Hk {n:Nat} (h:n≠0) : Fy n=(48+n % 10)::Fy (n / 10):=by
 rw [Fy];simp [h]
def DU (n:Nat) : List Nat:=if n=0 then [48] else (Fy n).reverse
def EC : List Nat→Nat
 | []=>0
 | x::r=>(x-48)+10 * EC r
def Dig (xs:List Nat) : Prop:=∀ x∈xs,48≤x∧x≤57
theorem QS (a b:List Nat) : EC (a++b)=EC a+10 ^ a.length * EC b:=by
 induction a with
 | nil=>simp [EC]
 | cons x r ih=>simp only [List.cons_append,EC,ih,List.length_cons,Nat.pow_succ,Nat.mul_add];rw [Nat.mul_comm (10 ^ r.length) 10,Nat.mul_assoc];omega
theorem MU (n:Nat) : Dig (Fy n):=by
 induction n using Nat.strongRecOn with
 | ind n ih =>
  by_cases h:n=0
  ·subst h;rw [Dn];intro x hx;simp at hx
  ·rw [Hk h]
   intro x hx
   rcases List.mem_cons.1 hx with rfl|hx
   ·omega
   ·exact ih (n / 10) (by omega) x hx
theorem TL (n:Nat) : EC (Fy n)=n:=by
 induction n using Nat.strongRecOn with
 | ind n ih =>
  by_cases h:n=0
  ·subst h;rw [Dn];rfl
  ·rw [Hk h,EC,ih (n / 10) (by omega)];omega
theorem S1 : ∀ (xs:List Nat),Dig xs→∃ k,xs=Fy (EC xs)++List.replicate k 48
 | [],_=>⟨0,by simp [EC,Dn]⟩
 | x::r,h=>by
  obtain ⟨k,hk⟩:=S1 r (fun y hy=>h y (by simp [hy]))
  have hx:=h x (by simp)
  by_cases h0:x-48+10 * EC r=0
  ·have h1:EC r=0:=by omega
   rw [h1,Dn] at hk
   refine ⟨k+1,?_⟩
   rw [EC,h0,Dn,List.replicate_succ,List.nil_append,show x=48 by omega]
   congr 1
  ·refine ⟨k,?_⟩
   rw [EC,Hk h0,show (x-48+10 * EC r) / 10=EC r by omega,show 48+(x-48+10 * EC r) % 10=x by omega,List.cons_append,← hk]
theorem UA {n:Nat} (h:n≠0) : ∃ xs x,Fy n=xs++[x]∧x≠48:=by
 induction n using Nat.strongRecOn with
 | ind n ih =>
  rw [Hk h]
  by_cases h1:n / 10=0
  ·rw [h1,Dn]
   exact ⟨[],_,rfl,by omega⟩
  ·obtain ⟨xs,x,e,hx⟩:=ih (n / 10) (by omega) h1
   exact ⟨_::xs,x,by rw [e];rfl,hx⟩
theorem Mp {n:Nat} (h:n≠0) : Fy n≠[]:=by rw [Hk h];simp
theorem WW {n k:Nat} (h:n<10 ^ k) : (Fy n).length≤k:=by
 induction k generalizing n with
 | zero=>simp at h;subst h;simp [Dn]
 | succ k ih =>
  by_cases h0:n=0
  ·subst h0;simp [Dn]
  ·rw [Hk h0,List.length_cons]
   have:=ih (n:=n / 10) (by rw [Nat.pow_succ] at h;omega)
   omega
theorem z8p : 0<Av Tryz.prog 5:=by rw [z8];decide
theorem ZX (n:Nat) : Int.tmod (n:Int) 10=((n % 10:Nat) : Int):=rfl
theorem Zw (n:Nat) : Int.tdiv (n:Int) 10=((n / 10:Nat) : Int):=rfl
theorem Dig.snoc {xs:List Nat} {x:Nat} (h:Dig xs) (h1:48≤x) (h2:x≤57) : Dig (xs++[x]):=by
 intro y hy
 rcases List.mem_append.1 hy with hy|hy
 ·exact h y hy
 ·simp at hy;subst hy;exact ⟨h1,h2⟩
theorem Up (xs:List Nat) (n:Nat) (M:Nat) : EC (xs++[48+n % 10])+10 ^ (xs++[48+n % 10]).length * (n / 10+M)=EC xs+10 ^ xs.length * (n+10 * M):=by
 have e1:(xs++[48+n % 10]).length=xs.length+1:=by simp
 have e2:n+10 * M=n % 10+10 * (n / 10+M):=by omega
 have e3:EC [48+n % 10]=n % 10:=by simp [EC]
 rw [e1,e2,QS,e3,Nat.pow_succ,Nat.mul_add (10 ^ xs.length) (n % 10),Nat.mul_assoc,Nat.add_assoc]
theorem Xt {xs:List Nat} {m N l:Nat} (h:EC xs+10 ^ xs.length * m=N) (hm:0<m) (hN:N<4294967296 ^ l) : xs.length≤32 * l:=by
 have h1:10 ^ xs.length≤N:=by
  have:=Nat.mul_le_mul_left (10 ^ xs.length) hm
  omega
 have h2:2 ^ xs.length≤10 ^ xs.length:=Nat.pow_le_pow_left (by decide) _
 have h3:4294967296 ^ l=2 ^ (32 * l):=by rw [Nat.pow_mul]
 rw [h3] at hN
 have h4:2 ^ xs.length<2 ^ (32 * l):=by omega
 have:=(Nat.pow_lt_pow_iff_right (a:=2) (by decide)).1 h4
 omega
theorem Pd {m:Nat} (h:0<m) : 0<(Af m).length:=by rw [D6 (by omega)];simp
theorem MQ {N:Nat} {xs:List Nat} {k:Nat} (hN:N≠0) (hx:xs=Fy N++List.replicate k 48) :
  (k=0→∃ x,xs[xs.length-1]?=some x∧x≠48)∧(k≠0→1<xs.length∧xs[xs.length-1]?=some 48∧xs.take (xs.length-1)=Fy N++List.replicate (k-1) 48):=by
 refine ⟨fun h=>?_,fun h=>?_⟩
 ·subst h
  obtain ⟨ys,y,e,hy⟩:=UA hN
  subst hx
  refine ⟨y,?_,hy⟩
  rw [e];simp
 ·obtain ⟨j,rfl⟩:=Nat.exists_eq_succ_of_ne_zero h
  have hne:=List.length_pos_iff.2 (Mp hN)
  have e:xs=(Fy N++List.replicate j 48)++[48]:=by rw [hx,List.replicate_succ',List.append_assoc]
  have hl:xs.length=(Fy N++List.replicate j 48).length+1:=by rw [e];simp;omega
  have hl2:(Fy N++List.replicate j 48).length=(Fy N).length+j:=by simp
  refine ⟨by omega,?_,?_⟩
  ·rw [hl,Nat.add_sub_cancel,e,List.getElem?_append_right (by omega),Nat.sub_self];rfl
  ·rw [hl,Nat.add_sub_cancel,e,List.take_left];rfl
theorem VQ {a:List Nat} (h:Ok a) (hl:a.length≤1048576) : Fn Tryz.prog 203 [.sl (L a)] (.d (.s (Ck (DU (val a))))):=by
 have hNl:=Cn h
 refine Fn.o1 2 60 Tryz.func203 ?_;refine .sr<|kD zj<|rn<|.sr<|asn ?_;refine rn<|.mid (fun e H'=>∃ out,e=[(3,.own 5 (B out))]∧H'=[]∧Dig out∧EC out=val a∧out.length≤33554441∧(val a=0→out=[])) ?_ ?_
 ·refine .sr ?_
  refine mvd ?_
  refine cl (xs:=[.sl (L a)]) ?_ (JO h (by omega)) Tryz.call211
  refine aso ?_;refine rn<|.block<|.gh (Gh.nlOwn (t:=3) 5 z8p rfl)<|.gh (Gh.frz (p:=.t 0) rfl (fun _ _ h=>by cases h)) ?_
  refine .loop (.gh (Gh.keep [0,3] rfl) ?_)
  refine AL.ind (σ:=List Nat×Nat) (m:=fun s=>s.2) (e:=fun s=>[(0,.d (.sl (L (Af s.2)))),(3,.own 5 (B s.1))]) (h:=fun _=>[])
   (I:=fun s=>Dig s.1∧EC s.1+10 ^ s.1.length * s.2=val a∧(s.1≠[]→val a≠0)∧s.1.length≤33554441) ?_ ([],val a) ⟨by intro x hx;simp at hx,by simp [EC],by simp,by simp⟩
  rintro ⟨out,m⟩ ⟨h1,h2,h3,h3'⟩ ih
  dsimp only at h1 h2 h3 h3' ih ⊢
  refine .seq<|.sr<|kA zj ?_
  refine ln ?_ (BY _) l32
  refine kB zj<|rn ?_
  by_cases hm:m=0
  ·subst hm
   rw [A4]
   refine BD ?_;refine .gh (Gh.keep [3] rfl)<|.exit ?_
   refine ⟨out,rfl,rfl,h1,by simpa using h2,h3',fun h0=>?_⟩
   by_cases ho:out=[]
   ·exact ho
   ·exact absurd h0 (h3 ho)
  ·have hdl:=Pd (show 0<m by omega)
   rw [dT (show (0:Int)<((L (Af m)).length:Nat) by rw [Aa];omega)]
   have hol:=Xt h2 (by omega) hNl
   have hmN:m≤val a:=by
    have:=Nat.mul_le_mul_right m (Nat.pow_pos (n:=out.length) (show 0<10 by decide))
    omega
   have hml:(Af m).length≤1048576:=nT (Cv (Nat.lt_of_le_of_lt hmN hNl)) hl
   have hvm:=AK m
   refine BN ?_;refine .skip<|aw<|.block<|.sr<|kA zj ?_
   refine cl (xs:=[.sl (L (Af m)),.i .u32 ((1000000000:Nat):Int)]) ?_ (Qa (d:=1000000000) (Bf m) hml (by decide) (by decide)) Tryz.call232
   refine mvt ?_;refine ex ?_;refine ex ?_;refine kD zj<|kD zj<|rn ?_
   rw [hvm]
   have hr:m % 1000000000<1000000000:=Nat.mod_lt _ (by decide)
   have hq:m=m % 1000000000+1000000000 * (m / 1000000000):=by omega
   have hqlt:m / 1000000000<m:=by omega
   generalize m % 1000000000=r at *
   generalize m / 1000000000=q at *
   refine .sr<|kA zj ?_
   have hrl:(Af r).length≤1048576:=nT (Cv (n:=r) (k:=1) (by omega)) (by decide)
   refine cl (xs:=[.sl (L (Af r))]) ?_ (Wk (Bf r) hrl) Tryz.call233
   refine mvt ?_;refine ex ?_;refine ex ?_;refine kD zj<|kD zj<|rn ?_
   have hsm:MX (Af r)=r:=by
    unfold MX;rw [AK,if_pos (Dl.2 (by omega))]
   rw [hsm]
   refine .mid (fun e H'=>∃ out',e=[(3,.own 5 (B out')),(4,.d (.sl (L (Af q))))]∧H'=[]∧Dig out'∧EC out'+10 ^ out'.length * q=val a∧out'.length=out.length+9) ?_ ?_
   ·refine .sr ?_
    refine kA zj<|rn<|.block ?_
    refine .loop (.gh (Gh.keep [3,4,6,23] rfl) ?_)
    refine AL.ind (σ:=List Nat×Nat×Nat) (m:=fun s=>9-s.2.2) (e:=fun s=>[(3,.own 5 (B s.1)),(4,.d (.sl (L (Af q)))),(6,.d (.i .i64 (s.2.1:Int))),(23,.d (.i .i64 (s.2.2:Int)))]) (h:=fun _=>[])
     (I:=fun s=>Dig s.1∧s.2.2≤9∧s.2.1<10 ^ (9-s.2.2)∧EC s.1+10 ^ s.1.length * (s.2.1+10 ^ (9-s.2.2) * q)=val a∧s.1.length=out.length+s.2.2) ?_ (out,r,0) ⟨h1,by simp,by simpa using hr,by rw [← h2,hq];rfl,by simp⟩
    rintro ⟨o2,n,j⟩ ⟨g1,g2,g3,g4,g5⟩ ih2
    dsimp only at g1 g2 g3 g4 g5 ih2 ⊢
    refine .sr<|kB zj<|rn<|.seq ?_
    by_cases hj:j<9
    ·rw [dT (show (j:Int)<9 by omega)]
     have hpj:10 ^ (9-j)=10 * 10 ^ (9-(j+1)):=by rw [show 9-j=(9-(j+1))+1 by omega,Nat.pow_succ,Nat.mul_comm]
     have hn9:n<1000000000:=nL g3 (by
      have:=Nat.pow_le_pow_right (n:=10) (by decide) (show 9-j≤9 by omega)
      exact this)
     refine BN ?_;refine .skip<|aw<|.seq<|.block<|.sr<|mvo ?_;refine kA zj<|bie (.i .i64 ((n % 10:Nat):Int)) ?_ ?_
     ·exact ⟨by decide,by rw [ZX]⟩
     refine ad ((48+n % 10:Nat):Int) ?_ ?_
     ·omega
     refine cve ((48+n % 10:Nat):Int) (WV (by omega)) ?_ i64 u8
     refine bsl ?_ ?_ e8
     ·simp [DV.flat,DV.cells,DV.leaf]
     refine apr ?_ ?_ (Aa0 [48+n % 10]) e8
     ·rw [Cu,Cu];simp;omega
     refine aso ?_;refine rn<|.region<|kA zj<|bie (.i .i64 ((n / 10:Nat):Int)) ?_ ?_
     ·refine ⟨by decide,?_⟩
      rw [Zw,Hb _ (by omega) (by omega)]
     refine kD zj<|.nil ?_;refine aw<|.region<|ad ((j+1:Nat):Int) ?_ ?_
     ·omega
     refine kA zj<|rn<|.gh (Gh.keep [3,4,6,23] rfl) ?_
     have hB:(B o2).take (B o2).length++[DV.i .u8 ((48+n % 10:Nat):Int)]=B (o2++[48+n % 10]):=by rw [List.take_length,Va];rfl
     have:=ih2 (o2++[48+n % 10],n / 10,j+1) ⟨g1.snoc (by omega) (by omega),by dsimp only;omega,?_,?_,by simp;omega⟩ (by dsimp only;omega)
     ·rw [← hB] at this;exact this
     ·dsimp only
      rw [hpj] at g3
      exact Nat.div_lt_of_lt_mul g3
     ·dsimp only
      rw [Up,← g4,hpj,Nat.mul_assoc]
    ·have hj9:j=9:=by omega
     subst hj9
     refine BD ?_;refine .gh (Gh.keep [3,4] rfl)<|.exit ?_
     have hn0:n=0:=by simpa using g3
     subst hn0
     refine ⟨o2,rfl,rfl,g1,by simpa using g4,g5⟩
   ·rintro _ _ ⟨out',rfl,rfl,k1,k2,k3⟩
    refine .region<|kA zj<|kD zj<|.gh (Gh.keep [0,3] rfl)<|.nil ?_
    exact ih (out',q) ⟨k1,k2,fun _=>by omega,by dsimp only;omega⟩ hqlt
 rintro _ _ ⟨out,rfl,rfl,h1,h2,h3,h4⟩
 obtain ⟨k,hk⟩:=S1 out h1
 rw [h2] at hk
 refine .mid (fun e H'=>e=[(3,.own 5 (B (Fy (val a))))]∧H'=[]) ?_ ?_
 ·refine .block ?_
  refine .loop (.gh (Gh.keep [3] rfl) ?_)
  refine AL.ind (σ:=List Nat×Nat) (m:=fun s=>s.2) (e:=fun s=>[(3,.own 5 (B s.1))]) (h:=fun _=>[])
   (I:=fun s=>(val a=0→s.1=[])∧s.1=Fy (val a)++List.replicate s.2 48∧s.1.length≤33554441) ?_ (out,k) ⟨h4,hk,h3⟩
  rintro ⟨xs,k⟩ ⟨g1,g2,g3⟩ ih
  dsimp only at g1 g2 g3 ih ⊢
  refine .seq<|.sr<|mvo ?_
  refine lnr ?_ l8
  refine kB zj<|kA zj ?_
  by_cases hx:1<xs.length
  ·have hN:val a≠0:=fun h0=>by rw [g1 h0] at hx;simp at hx
   obtain ⟨s1,s2⟩:=MQ hN g2
   rw [dT (show (1:Int)<((B xs).length:Nat) by rw [Cu];omega)]
   refine mvo ?_;refine mvo ?_
   refine lnr ?_ l8
   refine su ((xs.length-1:Nat):Int) ?_ ?_
   ·rw [Cu];omega
   refine ixr (xs.length-1) ?_ ?_ ?_ s8 (by decide)
   ·rfl
   ·rw [Cu];omega
   by_cases hk0:k=0
   ·obtain ⟨x,hx1,hx2⟩:=s1 hk0
    subst hk0
    refine lde (.i .u8 (x:Int)) ?_ ?_ a8
    ·rw [Nat.zero_add];exact SX hx1
    refine bi ?_
    rw [dF (show ¬((x:Int)=48) from fun h48=>hx2 (by exact_mod_cast h48))]
    refine pkd ?_;refine rn<|BD ?_;refine .gh (Gh.keep [3] rfl)<|.exit ?_
    refine ⟨?_,rfl⟩
    rw [g2];simp;rfl
   ·obtain ⟨t1,t2,t3⟩:=s2 hk0
    refine lde (.i .u8 ((48:Nat):Int)) ?_ ?_ a8
    ·rw [Nat.zero_add];exact SX t2
    refine kB zj<|pkd ?_;refine rn<|BN ?_;refine .skip<|aw<|.gh (Gh.keep [3] rfl)<|.block<|.region<|mvo ?_;refine mvo ?_
    refine lnr ?_ l8
    refine su ((xs.length-1:Nat):Int) ?_ ?_
    ·rw [Cu];omega
    refine slr 0 (xs.length-1) ?_ ?_ s8
    ·rw [Cu];omega
    refine ass ?_;refine .nil ?_;refine .gh (Gh.keep [3] rfl) ?_
    have:=ih (xs.take (xs.length-1),k-1) ⟨fun h0=>absurd h0 hN,t3,by rw [List.length_take];omega⟩ (by dsimp only;omega)
    rw [← Zj] at this
    exact this
  ·rw [dF (show ¬((1:Int)<((B xs).length:Nat)) by rw [Cu];omega)]
   refine gf4 ?_;refine gf3 ?_;refine pkd ?_;refine rn<|BD ?_;refine .gh (Gh.keep [3] rfl)<|.exit ?_
   refine ⟨?_,rfl⟩
   by_cases hN:val a=0
   ·rw [g1 hN,hN,Dn];rfl
   ·have:k=0:=by
     by_cases hk0:k=0
     ·exact hk0
     ·exact absurd ((MQ hN g2).2 hk0).1 hx
    subst this
    rw [g2];simp;rfl
 rintro _ _ ⟨rfl,rfl⟩
 have hdl:(Fy (val a)).length≤33554441:=by rw [hk] at h3;simp at h3;omega
 refine .seq<|.sr<|mvo ?_
 refine lnr ?_ l8
 refine kB zj<|rn ?_
 by_cases hN:val a=0
 ·rw [hN,Dn]
  refine BN ?_;refine .sr<|kD zj<|rn<|.ret ?_
  exact ⟨rfl,rfl⟩
 ·have hpos:=List.length_pos_iff.2 (Mp hN)
  rw [dF (show ¬(((B (Fy (val a))).length:Nat):Int)=0 by rw [Cu];omega)]
  refine BD ?_;refine .skip<|aw<|.seq<|.gh (Gh.keep [3] rfl)<|.region<|mvo ?_
  refine YW (B (Fy (val a)).reverse) (fun G=>?_) (Sy (by omega)) Tryz.call234
  refine rn<|.sr<|fz (p:=.t 3) ?_;refine kA zj<|cvs (ns:=(Fy (val a)).reverse) q8 u8 st ?_ ?_
  ·simpa using Mp hN
  refine kD zj<|rn<|.ret ?_
  exact ⟨by unfold DU;rw [if_neg hN];rfl,rfl⟩
def NK (m n:Nat) : Int:=if m<n then -1 else if m=n then 0 else 1
theorem PK {m n:Nat} (h:(Af m).length<(Af n).length) : m<n:=by
 rcases Nat.lt_or_ge m n with h1|h1
 ·exact h1
 ·have h2:=Cn (Bf m)
  rw [AK] at h2
  have:=Cv (n:=n) (k:=(Af m).length) (by omega)
  omega
theorem WP {xs ys:List Nat} (hx:Ok xs) (hy:Ok ys) {i:Nat} (h:xs.drop (i+1)=ys.drop (i+1)) {x y:Nat} (h1:xs[i]?=some x) (h2:ys[i]?=some y) (hxy:x<y) : val xs<val ys:=by
 have hxl:i<xs.length:=(lS.1 h1).1
 have hyl:i<ys.length:=(lS.1 h2).1
 have ex:xs=xs.take i++x::xs.drop (i+1):=by
  have:=lS.1 h1
  rw [← this.2,← lC hxl,List.take_append_drop]
 have ey:ys=ys.take i++y::ys.drop (i+1):=by
  have:=lS.1 h2
  rw [← this.2,← lC hyl,List.take_append_drop]
 have lx:(xs.take i).length=i:=by rw [List.length_take];omega
 have ly:(ys.take i).length=i:=by rw [List.length_take];omega
 have vx:=Cn (hx.take i)
 rw [ex,ey,E9,E9,lx,ly,h]
 rw [lx] at vx
 simp only [val]
 have h3:4294967296 ^ i * (x+4294967296 * val (ys.drop (i+1)))+4294967296 ^ i≤4294967296 ^ i * (y+4294967296 * val (ys.drop (i+1))):=by
  rw [← Nat.mul_succ]
  exact Nat.mul_le_mul_left _ (by omega)
 omega
theorem Nt {a b:List Nat} (ha:Ok a) (hb:Ok b) (hla:a.length≤35184372087808) (hlb:b.length≤35184372087808) : Fn Tryz.prog 189 [.sl (L a),.sl (L b)] (.d (.i .i64 (NK (val a) (val b)))):=by
 have dla:=nT (Cp ha) hla
 have dlb:=nT (Cp hb) hlb
 have va:=AK (val a)
 have vb:=AK (val b)
 have oa:=Bf (val a)
 have ob:=Bf (val b)
 have lt1:=@PK (val a) (val b)
 have lt2:=@PK (val b) (val a)
 refine Fn.o1 4 47 Tryz.func189 ?_;refine .sr<|kD zj<|rn<|.sr<|kA zj ?_
 refine cl (xs:=[.sl (L a)]) ?_ (PA a (by omega)) Tryz.call161
 refine mvd ?_
 refine cl (xs:=[.sl (L b)]) ?_ (PA b (by omega)) Tryz.call161
 refine kD zj<|kD zj<|rn ?_
 rw [ID ha,ID hb]
 generalize Af (val a)=xs at *
 generalize Af (val b)=ys at *
 refine .seq<|.sr<|kA zj ?_
 refine ln ?_ (BY _) l32
 refine mvd ?_
 refine ln ?_ (BY _) l32
 refine kB zj<|rn ?_
 by_cases hlen:xs.length=ys.length
 ·have e1:(!decide (((L xs).length:Int)=((L ys).length:Int)))=false:=by simp [Aa];omega
  rw [e1]
  refine BD ?_;refine .skip<|aw<|.seq<|.sr<|kA zj ?_
  refine ln ?_ (BY _) l32
  refine su ((xs.length:Int)-1) ?_ ?_
  ·rw [Aa];omega
  refine kD zj<|rn<|.block ?_
  refine .loop (.gh (Gh.keep [0,1,5] rfl) ?_)
  refine AL.ind (σ:=Nat) (m:=fun i=>i) (e:=fun i=>[(0,.d (.sl (L xs))),(1,.d (.sl (L ys))),(5,.d (.i .i64 ((i:Int)-1)))]) (h:=fun _=>[])
   (I:=fun i=>i≤xs.length∧xs.drop i=ys.drop i) ?_ xs.length ⟨Nat.le_refl _,by rw [List.drop_of_length_le (Nat.le_refl _),List.drop_of_length_le (by omega)]⟩
  rintro i ⟨h1,h2⟩ ih
  refine .seq<|.sr<|kA zj<|kB zj<|rn ?_
  cases i with
  | zero =>
   rw [dF (show ¬(0:Int)≤((0:Nat):Int)-1 by omega)]
   refine BD ?_;refine .exit ?_;refine aw<|.sr<|kD zj<|rn<|.ret ?_
   simp only [List.drop_zero] at h2
   subst h2
   exact ⟨by rw [← va,← vb];unfold NK;rw [if_neg (by omega),if_pos rfl];rfl,rfl⟩
  | succ i =>
   have hx:xs[i]?=some xs[i]:=lG (by omega)
   have hy:ys[i]?=some ys[i]:=lG (by omega)
   have hdx:xs.drop i=xs[i]::xs.drop (i+1):=lC (by omega)
   have hdy:ys.drop i=ys[i]::ys.drop (i+1):=lC (by omega)
   generalize xs[i]=x at hx hdx
   generalize ys[i]=y at hy hdy
   rw [dT (show (0:Int)≤((i+1:Nat):Int)-1 by omega)]
   refine BN ?_;refine .skip<|aw<|.gh (Gh.keep [0,1,5] rfl)<|.seq<|.block<|.seq<|.drawn 9 AS (by kernel_rfl) ?_;refine kV Ac<|kV Ac<|kV (vix (z:=((i+1:Nat):Int)-1) i (by omega) (Fz hx) rfl s32)<|kV (Al a32)<|kV Ac<|kV Ac<|kV (vix (z:=((i+1:Nat):Int)-1) i (by omega) (Fz hy) rfl s32)<|kV (Al a32)<|kV vbi<|dz ?_;refine rn ?_
   by_cases hxy:x=y
   ·subst hxy
    have e1:(!decide ((x:Int)=(x:Int)))=false:=by simp
    rw [e1]
    refine BD ?_;refine .skip<|aw<|.gh (Gh.keep [0,1,5] rfl)<|.region<|kA zj<|su ((i:Int)-1) ?_ ?_
    ·omega
    refine kD zj<|rn<|.gh (Gh.keep [0,1,5] rfl) ?_
    exact ih i ⟨by omega,by rw [hdx,hdy,h2]⟩ (by omega)
   ·have e1:(!decide ((x:Int)=(y:Int)))=true:=by simp;omega
    rw [e1]
    refine BN ?_;refine .seq<|.seq<|.gh (Gh.keep [0,1,5] rfl)<|.drawn 9 AS (by kernel_rfl) ?_;refine kV Ac<|kV Ac<|kV (vix (z:=((i+1:Nat):Int)-1) i (by omega) (Fz hx) rfl s32)<|kV (Al a32)<|kV Ac<|kV Ac<|kV (vix (z:=((i+1:Nat):Int)-1) i (by omega) (Fz hy) rfl s32)<|kV (Al a32)<|kV vbi<|dz ?_;refine rn ?_
    by_cases hlt:x<y
    ·rw [dT (show (x:Int)<(y:Int) by omega)]
     refine BN ?_;refine .sr<|kD zj<|rn<|.ret ?_
     have:=WP oa ob h2 hx hy hlt
     exact ⟨by unfold NK;rw [if_pos (by omega)];rfl,rfl⟩
    ·rw [dF (show ¬(x:Int)<(y:Int) by omega)]
     refine BD ?_;refine .skip<|aw<|.sr<|kD zj<|rn<|.ret ?_
     have:=WP ob oa h2.symm hy hx (by omega)
     exact ⟨by unfold NK;rw [if_neg (by omega),if_neg (by omega)];rfl,rfl⟩
 ·have e1:(!decide (((L xs).length:Int)=((L ys).length:Int)))=true:=by simp [Aa];omega
  rw [e1]
  refine BN ?_;refine .sr<|kA zj ?_
  refine ln ?_ (BY _) l32
  refine mvd ?_
  refine ln ?_ (BY _) l32
  refine su ((xs.length:Int)-ys.length) ?_ ?_
  ·rw [Aa,Aa];omega
  refine mx ?_;refine mn ?_;refine kD zj<|rn<|.ret ?_
  refine ⟨?_,rfl⟩
  show AV.d (.i .i64 _)=_
  congr 2
  unfold NK
  by_cases hl:xs.length<ys.length
  ·have h1:=lt1 hl
   rw [if_pos h1]
   have hd:(xs.length:Int)-ys.length≤-1:=by omega
   generalize (xs.length:Int)-ys.length=d at hd
   have e2:(if d < -1 then (-1:Int) else d)=-1:=by split<;>omega
   rw [e2];rfl
  ·have h1:=lt2 (by omega)
   rw [if_neg (show ¬val a<val b by omega),if_neg (show ¬val a=val b by omega)]
   have hd:1≤(xs.length:Int)-ys.length:=by omega
   generalize (xs.length:Int)-ys.length=d at hd
   have e2:(if d < -1 then (-1:Int) else d)=d:=if_neg (by omega)
   rw [e2]
   split<;>omega
theorem Kz {n:Nat} (h0:0<n) (h:n<4294967296) : Af n=[n]:=by
 rw [D6 (by omega),Nat.mod_eq_of_lt h,Nat.div_eq_of_lt h,A4]
def Ds (xs:List Nat) (at_:Nat) : List Nat:=xs++List.replicate (at_+1-xs.length) 0
theorem Ia (xs:List Nat) (at_:Nat) : at_<(Ds xs at_).length∧(at_<xs.length→Ds xs at_=xs):=by
 constructor
 ·simp [Ds];omega
 ·intro h;simp [Ds,show at_+1-xs.length=0 by omega]
theorem Lc {xs:List Nat} {at_:Nat} (h:¬at_<xs.length) : (Ds xs at_).getD at_ 0=0:=by
 simp only [Ds,List.getD_eq_getElem?_getD]
 rw [List.getElem?_append_right (by omega)]
 simp only [List.getElem?_replicate]
 split<;>rfl
theorem Eu (xs:List Nat) (at_:Nat) : (Ds xs at_).length=max xs.length (at_+1):=by simp [Ds];omega
def Dz (xs:List Nat) (n at_:Nat) : List Nat :=
 if h:n=0 then xs
 else Dz ((Ds xs at_).set at_ ((n+(Ds xs at_).getD at_ 0) % 4294967296)) ((n+(Ds xs at_).getD at_ 0) / 4294967296) (at_+1)
termination_by (xs.length-at_,n)
decreasing_by
 by_cases hl:at_<xs.length
 ·apply Prod.Lex.left
  rw [List.length_set,(Ia xs at_).2 hl];omega
 ·rw [Lc hl,Nat.add_zero,List.length_set,Eu]
  rw [show max xs.length (at_+1)-(at_+1)=xs.length-at_ by omega]
  apply Prod.Lex.right
  exact Nat.div_lt_self (by omega) (by decide)
theorem F4 (xs:List Nat) (at_:Nat) : Dz xs 0 at_=xs:=by unfold Dz;simp
theorem Ij {xs:List Nat} {n at_:Nat} (h:n≠0) : Dz xs n at_=Dz ((Ds xs at_).set at_ ((n+(Ds xs at_).getD at_ 0) % 4294967296)) ((n+(Ds xs at_).getD at_ 0) / 4294967296) (at_+1):=by
 conv=>lhs;unfold Dz
 simp [h]
theorem NF (k:Nat) : val (List.replicate k 0)=0:=by
 induction k with
 | zero=>rfl
 | succ k ih=>simp [List.replicate_succ,val,ih]
theorem Vf (xs:List Nat) (at_:Nat) : val (Ds xs at_)=val xs:=by simp [Ds,E9,NF]
theorem Ml {xs:List Nat} (h:Ok xs) (at_:Nat) : Ok (Ds xs at_):=h.append fun x hx=>by
 rw [List.eq_of_mem_replicate hx];decide
theorem Th : ∀ {xs:List Nat} {i x y:Nat},xs[i]?=some x→val (xs.set i y)+x * 4294967296 ^ i=val xs+y * 4294967296 ^ i:=by
 intro xs
 induction xs with
 | nil=>intro i x y h;simp at h
 | cons z zs ih =>
  intro i x y h
  cases i with
  | zero=>simp at h;subst h;simp only [List.set_cons_zero,val,Nat.pow_zero,Nat.mul_one];omega
  | succ i =>
   have:=ih (y:=y) (by simpa using h)
   simp only [List.set_cons_succ,val,Nat.pow_succ]
   have e1:x * (4294967296 ^ i * 4294967296)=4294967296 * (x * 4294967296 ^ i):=by rw [← Nat.mul_assoc,Nat.mul_comm]
   have e2:y * (4294967296 ^ i * 4294967296)=4294967296 * (y * 4294967296 ^ i):=by rw [← Nat.mul_assoc,Nat.mul_comm]
   rw [e1,e2];omega
theorem Fp (xs:List Nat) (n at_:Nat) (h:Ok xs) : val (Dz xs n at_)=val xs+n * 4294967296 ^ at_∧Ok (Dz xs n at_):=by
 induction xs,n,at_ using Dz.induct with
 | case1 xs at_=>rw [F4];exact ⟨by simp,h⟩
 | case2 xs n at_ hn ih =>
  rw [Ij hn]
  have hlt:=(Ia xs at_).1
  have hx:(Ds xs at_)[at_]?=some ((Ds xs at_).getD at_ 0):=by rw [lD,lG hlt];rfl
  generalize (Ds xs at_).getD at_ 0=x at *
  have hp:=Ml h at_
  obtain ⟨i1,i2⟩:=ih (hp.set _ (Nat.mod_lt _ (by decide)))
  refine ⟨?_,i2⟩
  rw [i1]
  have hs:=Th (y:=(n+x) % 4294967296) hx
  rw [Vf] at hs
  have e1:(n+x) / 4294967296 * 4294967296 ^ (at_+1)=(n+x) / 4294967296 * 4294967296 * 4294967296 ^ at_:=by rw [Nat.pow_succ,Nat.mul_comm (4294967296 ^ at_),Nat.mul_assoc]
  have e2:(n+x) % 4294967296 * 4294967296 ^ at_+(n+x) / 4294967296 * 4294967296 * 4294967296 ^ at_=(n+x) * 4294967296 ^ at_:=by
   rw [← Nat.add_mul];congr 1;omega
  have e3:(n+x) * 4294967296 ^ at_=n * 4294967296 ^ at_+x * 4294967296 ^ at_:=Nat.add_mul _ _ _
  omega
theorem Wg (xs:List Nat) (n at_:Nat) (h:Ok xs) : ∀ j,n≤4294967296 ^ j→(Dz xs n at_).length≤max xs.length (at_+j)+1:=by
 induction xs,n,at_ using Dz.induct with
 | case1 xs at_=>intro j _;rw [F4];omega
 | case2 xs n at_ hn0 ih =>
  intro j hj
  rw [Ij hn0]
  have hlt:=(Ia xs at_).1
  have hx:(Ds xs at_)[at_]?=some ((Ds xs at_).getD at_ 0):=by rw [lD,lG hlt];rfl
  have hp:=Ml h at_
  have hxl:=hp.at hx
  have ih:=ih (hp.set _ (Nat.mod_lt _ (by decide)))
  rw [List.length_set,Eu] at ih
  by_cases hl:at_<xs.length
  ·cases j with
   | zero =>
    have:=ih 0 (by rw [Nat.pow_zero] at hj ⊢;omega)
    omega
   | succ j =>
    have:=ih j (by
     rw [Nat.pow_succ] at hj
     have:(n+(Ds xs at_).getD at_ 0) / 4294967296<4294967296 ^ j+1:=by
      rw [Nat.div_lt_iff_lt_mul (by decide),Nat.add_mul];omega
     omega)
    omega
  ·have h0:=Lc hl
   rw [h0] at ih ⊢
   cases j with
   | zero =>
    simp at hj
    have e:(n+0) / 4294967296=0:=by omega
    rw [e,F4,List.length_set,Eu];omega
   | succ j =>
    have:=ih j (by
     rw [Nat.pow_succ] at hj
     rw [Nat.add_zero]
     exact (Nat.div_le_iff_le_mul_add_pred (by decide)).2 (by omega))
    omega
theorem Kh (xs:List Nat) (n at_:Nat) : xs.length≤(Dz xs n at_).length∧(n≠0→at_<(Dz xs n at_).length):=by
 induction xs,n,at_ using Dz.induct with
 | case1 xs at_=>rw [F4];exact ⟨Nat.le_refl _,fun h=>absurd rfl h⟩
 | case2 xs n at_ hn0 ih =>
  rw [Ij hn0]
  have h1:=ih.1
  rw [List.length_set,Eu] at h1
  exact ⟨by omega,fun _=>by omega⟩
abbrev hb (H:Ab) (id off:Nat) (cs:List AV) (xs:List Nat) : Ab:=H.set id (.box (cs.set off (.own 133 (L xs))))
theorem Ll {H:Ab} {id off:Nat} {cs:List AV} {xs:List Nat} (h:id<H.length) : (hb H id off cs xs)[id]?=some (.box (cs.set off (.own 133 (L xs)))):=by simp [hb,h]
theorem IT {off:Nat} {cs:List AV} {v:AV} (h:off<cs.length) : (cs.set off v)[off]?=some v:=by simp [h]
theorem Mk (H:Ab) {id off:Nat} {cs:List AV} {xs:List Nat} (env:Env) (h:id<H.length) (ho:off<cs.length) : AB env (hb H id off cs xs) (.c id off)=.own 133 (L xs):=by
 simp [AB,hb,h,List.getD_eq_getElem?_getD,ho]
theorem Yc (H:Ab) {id off:Nat} {cs:List AV} {xs ys:List Nat} (h:id<H.length) : HM (.c id off) (.own 133 (L ys)) (hb H id off cs xs)=hb H id off cs ys:=by
 simp [HM,Da,hb,h]
theorem WD {H:Ab} {id off:Nat} {cs:List AV} {xs0:List Nat} (hH:H[id]?=some (.box cs)) (hc:cs[off]?=some (.own 133 (L xs0))) (hx0:Ok xs0) (hl0:xs0.length≤1048576) {n0 at0:Nat} (hn0:n0<18446744069414584320) (hat0:at0≤1048576) :
  FnG Tryz.prog 251 [.bp id off,.d (.i .u64 n0),.d (.i .i64 at0)] H (.tup []) [] (hb H id off cs (Dz xs0 n0 at0)):=by
 have hid:id<H.length:=(lS.1 hH).1
 have hoff:off<cs.length:=(lS.1 hc).1
 have hHe:H=hb H id off cs xs0:=by
  unfold hb
  rw [List.set_same _ _ hc,List.set_same _ _ hH]
 have hlen:(Dz xs0 n0 at0).length≤1048580:=by
  have:=Wg xs0 n0 at0 hx0 2 (by simp;omega);omega
 refine FnG.of (rs:=[]) 0 41 Tryz.func251 rfl rfl rfl (by simp) (by simp) (by simp) ?_;refine .block ?_
 refine .loop (.gh (Gh.keep [0,1,2] rfl) ?_)
 refine AL.castH hHe ?_
 refine AL.ind (σ:=List Nat×Nat×Nat) (m:=fun s=>(s.1.length-s.2.2) * 36893488147419103232+s.2.1) (e:=fun s=>[(0,.bp id off),(1,.d (.i .u64 (s.2.1:Int))),(2,.d (.i .i64 (s.2.2:Int)))]) (h:=fun s=>hb H id off cs s.1)
  (I:=fun s=>Dz s.1 s.2.1 s.2.2=Dz xs0 n0 at0∧Ok s.1∧s.2.1<18446744069414584320) ?_ (xs0,n0,at0) ⟨rfl,hx0,hn0⟩
 rintro ⟨xs,n,at_⟩ ⟨h1,h2,h3⟩ ih
 dsimp only at h1 h2 h3 ih ⊢
 have hge:=Kh xs n at_
 rw [h1] at hge
 refine .seq<|.sr<|kA zj<|kB zj<|rn ?_
 by_cases hn:n=0
 ·subst hn
  refine BD ?_;refine .exit ?_
  rw [F4] at h1
  subst h1
  exact ⟨⟨[],by simp⟩,rfl,by simp⟩
 ·rw [dT (show (0:Int)<(n:Int) by omega)]
  have hat:=hge.2 hn
  refine BN ?_;refine .skip<|aw<|.seq<|.block<|.mid (fun e H'=>e=[(0,.bp id off),(1,.d (.i .u64 (n:Int))),(2,.d (.i .i64 (at_:Int)))]∧H'=hb H id off cs (Ds xs at_)) ?_ ?_
  ·refine .block ?_
   refine .loop (.gh (Gh.keep [0,1,2] rfl) ?_)
   refine AL.ind (σ:=List Nat) (m:=fun ys=>at_+1-ys.length) (e:=fun _=>[(0,.bp id off),(1,.d (.i .u64 (n:Int))),(2,.d (.i .i64 (at_:Int)))]) (h:=fun ys=>hb H id off cs ys)
    (I:=fun ys=>Ds ys at_=Ds xs at_∧ys.length≤1048580) ?_ xs ⟨rfl,by omega⟩
   rintro ys ⟨g1,g2⟩ ih2
   refine .seq<|.sr<|kA zj<|mvb ?_;refine ncb ?_
   refine Pk (Ll hid) (IT hoff) ?_ alm
   refine lnr ?_ llm
   refine kB zj<|rn ?_
   by_cases hl:at_<ys.length
   ·rw [dF (show ¬(((L ys).length:Nat):Int)≤(at_:Int) by rw [Aa];omega)]
    refine BD ?_;refine .gh (Gh.keep [0,1,2] rfl)<|.exit ?_
    refine ⟨rfl,?_⟩
    rw [← g1,(Ia ys at_).2 hl]
   ·rw [dT (show (((L ys).length:Nat):Int)≤(at_:Int) by rw [Aa];omega)]
    refine BN ?_;refine .skip<|aw<|.gh (Gh.keep [0,1,2] rfl)<|.block<|.region<|mvb ?_;refine mvb ?_;refine ncb ?_
    refine Pk (Ll hid) (IT hoff) ?_ alm
    refine bsl ?_ ?_ elm
    ·simp [DV.flat,DV.cells,DV.leaf]
    refine apc (ys:=[.i .u32 0]) (Ll hid) (IT hoff) ?_ ?_ (by simp [DV.cells]) elm
    ·simp [Aa];omega
    refine ncb ?_;refine RL.gh (Gh.keep [0,1,2,21,22] rfl) ?_
    refine O0 (id:=id) (off:=off) (cs:=(cs.set off (.own 133 (L ys))).set off .un) (c:=.un) ?_ ?_ ?_ zlm
    ·simp [hb,hid]
    ·simp [hoff]
    refine .nil ?_;refine AL.gh (Gh.keep [0,1,2] rfl) ?_
    have e1:Ds (ys++[0]) at_=Ds xs at_:=by
     rw [← g1]
     simp only [Ds,List.length_append,List.length_singleton,List.append_assoc]
     rw [show at_+1-ys.length=(at_+1-(ys.length+1))+1 by omega,List.replicate_succ];rfl
    have:=ih2 (ys++[0]) ⟨e1,by simp;omega⟩ (by simp;omega)
    have e2:(L ys).take (L ys).length++[DV.i .u32 0]=L (ys++[0]):=by rw [List.take_length];simp [L,U]
    refine AL.castH ?_ this
    rw [e2]
    simp [hb]
  ·rintro _ _ ⟨rfl,rfl⟩
   have hpl:=Ia xs at_
   have hx:(Ds xs at_)[at_]?=some ((Ds xs at_).getD at_ 0):=by rw [lD,lG hpl.1];rfl
   have hpo:=Ml h2 at_
   have hstep:=Ij (xs:=xs) (at_:=at_) hn
   rw [h1] at hstep
   have hxb:=hpo.at hx
   have hm1:¬at_<xs.length→(Ds xs at_).getD at_ 0=0:=fun h=>Lc h
   have hpll:=Eu xs at_
   generalize (Ds xs at_).getD at_ 0=x at hx hstep hxb hm1
   generalize Ds xs at_=ys at hx hstep hpo hpl hpll
   have hylen:ys.length≤1048580:=by omega
   refine .sr<|kA zj<|mvb ?_;refine ncb ?_
   refine Pk (Ll hid) (IT hoff) ?_ alm
   refine mvd ?_
   refine ixr (p:=.c id off) (xs:=L ys) at_ rfl ?_ ?_ slm (by decide) (hp:=Mk H _ hid hoff)
   ·rw [Aa];exact hpl.1
   refine lde (p:=.c id off) (xs:=L ys) (U x) ?_ ?_ a32 (hp:=Mk H _ hid hoff)
   ·rw [Nat.zero_add];exact GZ hx
   refine cve (x:Int) (BW (by omega)) ?_ u32 u64
   refine bie (.i .u64 ((n+x:Nat):Int)) ?_ ?_
   ·exact ⟨trivial,by rw [← Int.natCast_add,BW (by omega)]⟩
   refine kD zj<|rn<|.sr<|mvb ?_;refine ncb ?_
   refine Pk (Ll hid) (IT hoff) ?_ alm
   refine kA zj<|kA zj ?_
   refine cve (((n+x) % 4294967296:Nat):Int) (FE _) ?_ u64 u32
   refine ixr (p:=.c id off) (xs:=L ys) at_ rfl ?_ ?_ slm (by decide) (hp:=Mk H _ hid hoff)
   ·rw [Aa];exact hpl.1
   refine ste (p:=.c id off) (xs:=L ys) ?_ ?_ z32 (hp:=Mk H _ hid hoff) (hn:=fun _ _ _=>Nat.zero_le _)
   ·rw [Nat.zero_add];exact Gj hx
   rw [show 0+at_=at_ from Nat.zero_add _,show DV.i .u32 (((n+x) % 4294967296:Nat):Int)=U ((n+x) % 4294967296) from rfl,MK,Yc H hid]
   refine rn<|.region<|kA zj<|bie (.i .u64 (((n+x) / 4294967296:Nat):Int)) ?_ ?_
   ·simp [IntKind.bits]
   refine kD zj<|.nil ?_;refine aw<|.region<|kA zj<|ad ((at_+1:Nat):Int) ?_ ?_
   ·omega
   refine kD zj<|.nil ?_;refine AL.gh (Gh.keep [0,1,2] rfl)<|AL.cast (env':=[(0,.bp id off),(1,.d (.i .u64 (((n+x) / 4294967296:Nat):Int))),(2,.d (.i .i64 ((at_+1:Nat):Int)))]) ?_ ?_
   ·rfl
   refine (ih (ys.set at_ ((n+x) % 4294967296),(n+x) / 4294967296,at_+1) ⟨hstep.symm,hpo.set _ (Nat.mod_lt _ (by decide)),by show (n+x) / 4294967296<18446744069414584320;omega⟩ ?_)
   simp only [List.length_set]
   by_cases hl:at_<xs.length
   ·have:ys.length=xs.length:=by omega
    rw [this]
    have e:xs.length-at_=(xs.length-(at_+1))+1:=by omega
    rw [e,Nat.add_mul];omega
   ·have:=hm1 hl
    subst this
    have e1:ys.length-(at_+1)=0:=by omega
    have e2:xs.length-at_=0:=by omega
    rw [e1,e2];omega
theorem fad : Br Tryz.prog 232 0=some (0,1):=by kernel_rfl
def CP : List Nat→List Nat→Nat→List Nat
 | xs,[],_=>xs
 | xs,y::ys,i=>CP (Dz xs y i) ys (i+1)
theorem E4 : ∀ (ys xs:List Nat) (i:Nat),Ok xs→val (CP xs ys i)=val xs+val ys * 4294967296 ^ i∧Ok (CP xs ys i)
 | [],xs,i,h=>⟨by simp [CP,val],h⟩
 | y::ys,xs,i,h=>by
  obtain ⟨a1,a2⟩:=Fp xs y i h
  obtain ⟨b1,b2⟩:=E4 ys (Dz xs y i) (i+1) a2
  refine ⟨?_,b2⟩
  show val (CP (Dz xs y i) ys (i+1))=_
  rw [b1,a1,val,Nat.add_mul,Nat.pow_succ,Nat.add_assoc]
  congr 2
  rw [← Nat.mul_assoc,Nat.mul_comm (val ys * _),← Nat.mul_assoc]
theorem Le : ∀ (ys xs:List Nat) (i:Nat),xs.length≤(CP xs ys i).length
 | [],xs,i=>Nat.le_refl _
 | y::ys,xs,i=>nT (Kh xs y i).1 (Le ys (Dz xs y i) (i+1))
theorem ZY {H G:Ab} {id off:Nat} {cs:List AV} {xs ys:List Nat} (h:id<H.length) : hb (hb H id off cs xs++G) id off (cs.set off (.own 133 (L xs))) ys=hb H id off cs ys++G:=by
 simp [hb,h]
theorem Yf {H G:Ab} {id off:Nat} {cs:List AV} {xs:List Nat} (h:id<H.length) : (hb H id off cs xs++G)[id]?=some (.box (cs.set off (.own 133 (L xs)))):=by
 rw [List.getElem?_append_left (by simpa using h)];exact Ll h
theorem Um {H:Ab} {id off:Nat} {cs:List AV} {xs0 b:List Nat} (hH:H[id]?=some (.box cs)) (hc:cs[off]?=some (.own 133 (L xs0))) (hx0:Ok xs0) (hb0:Ok b) (hl:b.length≤1048576) (hl0:(CP xs0 b 0).length≤1048576) :
  FnG Tryz.prog 230 [.bp id off,.d (.sl (L b))] H (.tup []) [] (hb H id off cs (CP xs0 b 0)):=by
 have hid:id<H.length:=(lS.1 hH).1
 have hoff:off<cs.length:=(lS.1 hc).1
 have hHe:H=hb H id off cs xs0++[]:=by
  unfold hb
  rw [List.set_same _ _ hc,List.set_same _ _ hH,List.append_nil]
 refine FnG.of (rs:=[]) 0 21 Tryz.func230 rfl rfl rfl (by simp) (by simp) (by simp) ?_;refine .sr<|kA zj ?_
 refine ln ?_ (BY _) l32
 refine kA zj<|rn<|.block ?_
 refine .loop (.gh (Gh.keep [0,6,7,8] rfl) ?_)
 refine AL.castH hHe ?_
 refine AL.ind (σ:=List Nat×Nat×Ab) (m:=fun s=>b.length-s.2.1) (e:=fun s=>[(0,.bp id off),(6,.d (.sl (L b))),(7,.d (.i .i64 ((L b).length:Nat))),(8,.d (.i .i64 (s.2.1:Int)))]) (h:=fun s=>hb H id off cs s.1++s.2.2)
  (I:=fun s=>s.2.1≤b.length∧Ok s.1∧CP s.1 (b.drop s.2.1) s.2.1=CP xs0 b 0) ?_ (xs0,0,[]) ⟨by simp,hx0,rfl⟩
 rintro ⟨xs,i,G⟩ ⟨h1,h2,h3⟩ ih
 dsimp only at h1 h2 h3 ih ⊢
 refine .sr<|kB zj<|rn<|.seq ?_
 by_cases hi:i<b.length
 ·rw [dT (show (i:Int)<((L b).length:Nat) by rw [Aa];omega)]
  have hy:b[i]?=some b[i]:=lG hi
  have hdr:b.drop i=b[i]::b.drop (i+1):=lC hi
  generalize b[i]=y at hy hdr
  have hyl:=hb0.at hy
  rw [hdr] at h3
  have hge:=Le (b.drop (i+1)) (Dz xs y i) (i+1)
  replace h3:CP (Dz xs y i) (b.drop (i+1)) (i+1)=CP xs0 b 0:=h3
  rw [h3] at hge
  have hge2:=(Kh xs y i).1
  refine BN ?_;refine .skip<|aw<|.seq<|.block<|.sr<|kA zj ?_
  refine ix i ?_ rfl (Fz hy) rfl s32
  refine ldp ?_ a32
  refine kD zj<|kD zj<|rn<|.region<|mvb ?_;refine ncb ?_
  refine fab ?_ fad (by decide)
  refine mvd ?_
  refine cve (y:Int) (BW (by omega)) ?_ u32 u64
  refine mvd ?_
  refine clg (fun G2=>?_) (WD (n0:=y) (at0:=i) (Yf hid) (IT hoff) h2 (by omega) (by omega) (by omega)) Tryz.call251
  refine .nil ?_;refine aw<|.region<|ad ((i+1:Nat):Int) ?_ ?_
  ·omega
  refine kA zj<|.nil ?_;refine AL.gh (Gh.keep [0,6,7,8] rfl)<|AL.castH (H':=hb H id off cs (Dz xs y i)++(G++G2)) (by rw [ZY hid,List.append_assoc]) ?_
  exact ih (Dz xs y i,i+1,G++G2) ⟨by show i+1≤b.length;omega,(Fp xs y i h2).2,h3⟩ (by show b.length-(i+1)<b.length-i;omega)
 ·rw [dF (show ¬(i:Int)<((L b).length:Nat) by rw [Aa];omega)]
  have:b.drop i=[]:=List.drop_eq_nil_of_le (by omega)
  rw [this] at h3
  replace h3:xs=CP xs0 b 0:=h3
  refine BD ?_;refine .exit ?_
  rw [h3]
  exact ⟨⟨G,rfl⟩,rfl,by simp⟩
theorem s2 : B3 Tryz.prog 220=some (31,1,24):=by kernel_rfl
theorem l2 : Tryz.prog.underlying 220=some (.slice (Tryz.prog.elem 220)):=by kernel_rfl
theorem a2 : BH Tryz.prog 31=some false:=by kernel_rfl
def LL (ls:List (List Nat)) : List DV:=ls.map fun a=>.sl (L a)
theorem F5 (ls:List (List Nat)) : (LL ls).length=ls.length:=by simp [LL]
theorem VD (ls:List (List Nat)) : ∃ sz,∀ x∈LL ls,x.cells.length=sz:=⟨1,fun x hx=>by
 simp only [LL,List.mem_map] at hx
 obtain ⟨n,_,rfl⟩:=hx;rfl⟩
theorem UY {ls:List (List Nat)} {i:Nat} {a:List Nat} (h:ls[i]?=some a) : (LL ls)[i]?=some (.sl (L a)):=by simp [LL,h]
def DP : List (List Nat)→List Nat→List Nat
 | [],xs=>xs
 | a::r,xs=>DP r (CP xs a 0)
theorem Mz : ∀ (ls:List (List Nat)) (xs:List Nat),Ok xs→val (DP ls xs)=val xs+(ls.map val).sum∧Ok (DP ls xs)
 | [],xs,h=>⟨by simp [DP],h⟩
 | a::r,xs,h=>by
  obtain ⟨a1,a2⟩:=E4 a xs 0 h
  obtain ⟨b1,b2⟩:=Mz r _ a2
  refine ⟨?_,b2⟩
  show val (DP r (CP xs a 0))=_
  rw [b1,a1];simp;omega
theorem OG : ∀ (ls:List (List Nat)) (xs:List Nat),xs.length≤(DP ls xs).length
 | [],xs=>Nat.le_refl _
 | a::r,xs=>nT (Le a xs 0) (OG r _)
theorem WT (w:World) : (zeroValue 232).run Tryz.prog w=.ok (.agg #[.slice none 0 0]) w:=by simp
theorem LI (w:World) (I:Nat→Prop) (μ:List Nat) : ARepAll Tryz.prog w I μ [.own 133 (L [])] (Value.agg #[.slice none 0 0]).cells.toList []:=by
 have:=ARepAll.cons (ARep.own (P:=Tryz.prog) (w:=w) (I:=I) (μ:=μ) 133 [] (.slice none 0 0) [] Aai (.inl ⟨none,rfl,rfl,rfl⟩) (.nil _)) .nil
 exact this
theorem Y0 {ls:List (List Nat)} (h:∀ a∈ls,Ok a) (hl:ls.length≤1048576) (hla:∀ a∈ls,a.length≤1048576) (hs:(DP ls []).length≤1048576) : Fn Tryz.prog 201 [.sl (LL ls)] (.d (.sl (L (Af (ls.map val).sum)))):=by
 have hv:=Mz ls [] .nil
 refine Fn.o1 2 18 Tryz.func201 ?_;refine .sr<|asn ?_;refine rn<|.sr ?_
 refine al ?_ WT LI
 refine rn<|.mid (fun e H'=>∃ G,e=[(3,.bp 0 0)]∧H'=[.box [.own 133 (L (DP ls []))]]++G) ?_ ?_
 ·refine .sr ?_
  refine mvd ?_
  refine ln ?_ (VD _) l2
  refine kA zj<|rn<|.block ?_
  refine .loop (.gh (Gh.keep [3,6,7,8] rfl) ?_)
  refine AL.ind (σ:=List Nat×Nat×Ab) (m:=fun s=>ls.length-s.2.1) (e:=fun s=>[(3,.bp 0 0),(6,.d (.sl (LL ls))),(7,.d (.i .i64 ((LL ls).length:Nat))),(8,.d (.i .i64 (s.2.1:Int)))]) (h:=fun s=>[.box [.own 133 (L s.1)]]++s.2.2)
   (I:=fun s=>s.2.1≤ls.length∧Ok s.1∧DP (ls.drop s.2.1) s.1=DP ls []) ?_ ([],0,[]) ⟨by simp,.nil,rfl⟩
  rintro ⟨xs,i,G⟩ ⟨h1,h2,h3⟩ ih
  dsimp only at h1 h2 h3 ih ⊢
  refine .sr<|kB zj<|rn<|.seq ?_
  by_cases hi:i<ls.length
  ·rw [dT (show (i:Int)<((LL ls).length:Nat) by rw [F5];omega)]
   have hy:ls[i]?=some ls[i]:=lG hi
   have hdr:ls.drop i=ls[i]::ls.drop (i+1):=lC hi
   generalize ls[i]=y at hy hdr
   have hyo:=h y (List.mem_of_getElem? hy)
   have hyl:=hla y (List.mem_of_getElem? hy)
   rw [hdr] at h3
   replace h3:DP (ls.drop (i+1)) (CP xs y 0)=DP ls []:=h3
   have hge:=OG (ls.drop (i+1)) (CP xs y 0)
   rw [h3] at hge
   refine BN ?_;refine .skip<|aw<|.seq<|.block<|.sr ?_
   refine ix i ?_ rfl (UY hy) rfl s2
   refine ldp ?_ a2
   refine kD zj<|rn<|.region<|kA zj ?_
   refine clg (fun G2=>?_) (Um (cs:=[.own 133 (L xs)]) (b:=y) rfl rfl h2 hyo hyl (by omega)) Tryz.call230
   refine .nil ?_;refine aw<|.region<|ad ((i+1:Nat):Int) ?_ ?_
   ·omega
   refine kA zj<|.nil ?_;refine AL.gh (Gh.keep [3,6,7,8] rfl)<|AL.castH (H':=[.box [.own 133 (L (CP xs y 0))]]++(G++G2)) (by rw [← List.append_assoc];rfl) ?_
   exact ih (CP xs y 0,i+1,G++G2) ⟨by show i+1≤ls.length;omega,(E4 y xs 0 h2).2,h3⟩ (by show ls.length-(i+1)<ls.length-i;omega)
  ·rw [dF (show ¬(i:Int)<((LL ls).length:Nat) by rw [F5];omega)]
   have:ls.drop i=[]:=List.drop_eq_nil_of_le (by omega)
   rw [this] at h3
   replace h3:xs=DP ls []:=h3
   refine BD ?_;refine .gh (Gh.keep [3] rfl)<|.exit ?_
   rw [h3]
   exact ⟨G,rfl,rfl⟩
 ·rintro _ _ ⟨G,rfl,rfl⟩
  refine .sr<|fz (p:=.c 0 0) ?_
  refine fab ?_ fad (by decide)
  refine ldb (cs:=[.d (.sl (L (DP ls [])))]) (c:=.d (.sl (L (DP ls [])))) rfl rfl ?_ alm
  refine cl (xs:=[.sl (L (DP ls []))]) ?_ (DZ hv.2 (by omega)) Tryz.call161
  refine kD zj<|rn<|.ret ?_
  exact ⟨by rw [hv.1];simp [val];rfl,rfl⟩
end Go.FL
