/-
  Part 2 of the base of the proofs: a logic of our own over the calculus, the contracts of the functions
-/
import Derived.Test.YtheadnogdeajfaaGreatSmA
set_option linter.unusedVariables false
namespace Go.FL
open Go Go.RowKit
section
variable {P:Program} {C:Cx} {X:Snap} {o:Oper} {ops:Array Oper} {Q:Exit→Env→Ad→Prop} {env env0 vals fin:Env} {H H':Ad} {a:Act} {w w':World} {I I':Nat→Prop} {μ μ':List Nat} {O O':Nat→Option Loc}
 {k:Nat} {l:List Oper} {v:AV} {t:Nat}
def DK (P:Program) (C:Cx) (ops:Array Oper) (H:Ad) (env0 vals:Env) (l:List Oper) (K:Env→Prop) : Prop:=∃ fin,DL P C ops H env0 vals l fin∧K fin
theorem AW.drawn {id:Nat} (m:Nat) (hm:P.follows .mixedOrders=true) (hok:JK ops m=true) (h:DK P C ops H env0 [] (ops.toList.take m) fun fin=>RL P C ops Q m (ops.toList.drop m) (fin++env0) H) : AW P C (.region id ops true) Q env0 H :=
 let ⟨_,h1,h2⟩:=h;.draws hm hok rfl h1 h2
theorem dv {K:Env→Prop} (hv:VOK P C o (BJ (o.looksAt ops) vals++env0) H v) (h:DK P C ops H env0 ((t,v)::vals) l K) (hd:o.dst=some t:=by rfl) (hg:grd ops (BJ (o.looksAt ops) vals++env0) o true=true:=by rfl) (h0:Sr (get env0 t)=true:=by rfl)
  (hn:(vals.map (·.1)).contains t=false:=by rfl) (hs:Io t v=true:=by rfl) (hr:DM (BJ (o.looksAt ops) vals++env0)=true:=by rfl) (ht:okT C.nt t:=by rfl):DK P C ops H env0 vals (o::l) K :=
 let ⟨fin,h1,h2⟩:=h;⟨fin,.run hd ht h0 hn hs hg hv hr h1,h2⟩
theorem dgf {K:Env→Prop} (h:DK P C ops H env0 ((t,.un)::vals) l K) (hg:grd ops (BJ (o.looksAt ops) vals++env0) o false=true:=by rfl) (hd:o.dst=some t:=by rfl) (h0:Sr (get env0 t)=true:=by rfl)
  (hn:(vals.map (·.1)).contains t=false:=by rfl) (hr:DM (BJ (o.looksAt ops) vals++env0)=true:=by rfl) (ht:okT C.nt t:=by rfl):DK P C ops H env0 vals (o::l) K :=
 let ⟨fin,h1,h2⟩:=h;⟨fin,.skip hd ht h0 hn hg hr (.inl rfl) h1,h2⟩
theorem dz {K:Env→Prop} (h:K vals) : DK P C ops H env0 vals [] K:=⟨vals,.nil vals,h⟩
theorem Ah {x:Operand} {d:DV} (ho:o.op=.move x:=by rfl) (hv:lk env x=.d d:=by rfl) : VOK P C o env H (.d d):=by
 obtain ⟨h1,h2⟩:=Av hv (by simp)
 have:=J3 (P:=P) (C:=C) (env:=env) (H:=H) (.inl ho) h1 (by rw [h2];rfl) (by rw [h2];rfl)
 rw [h2] at this;exact .pv this
theorem Zq {x:Operand} {d:DV} (ho:o.op=.assign x:=by rfl) (hv:lk env x=.d d:=by rfl) : VOK P C o env H (.d d):=by
 obtain ⟨h1,h2⟩:=Av hv (by simp)
 have:=J3 (P:=P) (C:=C) (env:=env) (H:=H) (.inr ho) h1 (by rw [h2];rfl) (by rw [h2];rfl)
 rw [h2] at this;exact .pv this
theorem Nr {s:Nat} {e:TypeId} {xs:List DV} (ho:o.op=.move (.tmp s):=by rfl) (hv:get env s=.own e xs:=by rfl) : VOK P C o env H (.ref (.t s) 0 xs.length) :=
 .rel (by simp [ho]) fun X a w I μ O _ hs=>⟨a.tmps.getD s undef,by simp [execOp,ho,Act.eval],rfl,RefRel.self (p:=.t s) hs hv rfl⟩
theorem Ag {c x y:Operand} {b:Bool} {d:DV} (ho:o.op=.pick c x y:=by rfl) (hc:lk env c=.d (.b b):=by rfl) (hv:lk env (if b then x else y)=.d d:=by rfl) : VOK P C o env H (.d d):=by
 obtain ⟨h1,h2⟩:=Av hv (by simp)
 obtain ⟨h3,h4⟩:=Av hc (by simp)
 have:=Wy (P:=P) (C:=C) (env:=env) (H:=H) ho h3 h4 h1 (by rw [h2];rfl) (by rw [h2];rfl)
 rw [h2] at this;exact .pv this
theorem NK {op:BinOp} {xt yt:TypeId} {x y:Operand} {q q':IntKind} {m n:Int} {c:Prop} {d:DV} (hc:c) (ho:o.op=.binOp op xt x y yt:=by rfl)
  (hx:lk env x=.d (.i q m):=by rfl) (hy:lk env y=.d (.i q' n):=by rfl) (hb:NQ op q m n=some (c,d):=by rfl) (hk:(decide (q'=q)||Fh op)=true:=by rfl):VOK P C o env H (.d d):=by
 obtain ⟨h1,h2⟩:=Av hx (by simp)
 obtain ⟨h3,h4⟩:=Av hy (by simp)
 exact .pv (Xq ho h1 h3 h2 h4 (by simpa using hk) hb hc)
theorem vbi {op:BinOp} {xt yt:TypeId} {x y:Operand} {q q':IntKind} {m n:Int} {d:DV} (ho:o.op=.binOp op xt x y yt:=by rfl)
  (hx:lk env x=.d (.i q m):=by rfl) (hy:lk env y=.d (.i q' n):=by rfl) (hb:NQ op q m n=some (True,d):=by rfl) (hk:(decide (q'=q)||Fh op)=true:=by rfl):VOK P C o env H (.d d):=NK trivial ho hx hy hb hk
theorem PO {op:BinOp} {xt yt:TypeId} {x y:Operand} {q q':IntKind} {m n:Int} {c:Prop} {d:DV} (d':DV) (hc:c∧d=d') (ho:o.op=.binOp op xt x y yt:=by rfl)
  (hx:lk env x=.d (.i q m):=by rfl) (hy:lk env y=.d (.i q' n):=by rfl) (hb:NQ op q m n=some (c,d):=by rfl) (hk:(decide (q'=q)||Fh op)=true:=by rfl):VOK P C o env H (.d d'):=by
 obtain ⟨hc,rfl⟩:=hc;exact NK hc ho hx hy hb hk
theorem vad {xt yt:TypeId} {x y:Operand} {q':IntKind} {m n:Int} (z:Int) (hz:m+n=z∧-9223372036854775808≤z∧z≤9223372036854775807) (ho:o.op=.binOp .add xt x y yt:=by rfl)
  (hx:lk env x=.d (.i .i64 m):=by rfl) (hy:lk env y=.d (.i q' n):=by rfl) (hk:q'=.i64:=by rfl):VOK P C o env H (.d (.i .i64 z)):=by
 obtain ⟨rfl,h1,h2⟩:=hz
 exact PO (.i .i64 (m+n)) ⟨trivial,by rw [G1 h1 h2]⟩ ho hx hy rfl (by simp [hk])
theorem vsu {xt yt:TypeId} {x y:Operand} {q':IntKind} {m n:Int} (z:Int) (hz:m-n=z∧-9223372036854775808≤z∧z≤9223372036854775807) (ho:o.op=.binOp .sub xt x y yt:=by rfl)
  (hx:lk env x=.d (.i .i64 m):=by rfl) (hy:lk env y=.d (.i q' n):=by rfl) (hk:q'=.i64:=by rfl):VOK P C o env H (.d (.i .i64 z)):=by
 obtain ⟨rfl,h1,h2⟩:=hz
 exact PO (.i .i64 (m-n)) ⟨trivial,by rw [G1 h1 h2]⟩ ho hx hy rfl (by simp [hk])
theorem YI {op:BinOp} {xt yt:TypeId} {x y:Operand} {b c:Bool} (hop:op=.eql∨op=.neq) (hu:P.underlying xt=some .bool) (ho:o.op=.binOp op xt x y yt:=by rfl)
  (hx:lk env x=.d (.b b):=by rfl) (hy:lk env y=.d (.b c):=by rfl):VOK P C o env H (.d (.b (if op=.eql then b == c else b != c))):=by
 obtain ⟨h1,h2⟩:=Av hx (by simp)
 obtain ⟨h3,h4⟩:=Av hy (by simp)
 exact .pv (WG ho hop hu h1 h3 h2 h4)
theorem vnt {xt:TypeId} {x:Operand} {b:Bool} (ho:o.op=.unOp .not xt x:=by rfl) (hx:lk env x=.d (.b b):=by rfl) : VOK P C o env H (.d (.b (!b))):=by
 obtain ⟨h1,h2⟩:=Av hx (by simp)
 exact .pv (Yo ho h1 h2)
theorem vcv {src dst:Nat} {x:Operand} {q q1 q':IntKind} {n:Int} (hs:P.underlying src=some (.int q1)) (hd':P.underlying dst=some (.int q')) (ho:o.op=.convert src dst x:=by rfl) (hx:lk env x=.d (.i q n):=by rfl) :
  VOK P C o env H (.d (.i q' (q'.wrap n))):=.pv (Yp ho ⟨q1,hs⟩ hd' hx)
theorem U1 {src dst:Nat} {x:Operand} {q q1 q':IntKind} {n:Int} (n':Int) (hn:q'.wrap n=n') (hs:P.underlying src=some (.int q1)) (hd':P.underlying dst=some (.int q')) (ho:o.op=.convert src dst x:=by rfl) (hx:lk env x=.d (.i q n):=by rfl) :
  VOK P C o env H (.d (.i q' n')):=by subst hn;exact vcv hs hd' ho hx
theorem vln {c:Call} {x:Operand} {ty:Nat} {xs:List DV} (hsz:∃ sz,∀ x∈xs,x.cells.length=sz) (hu:P.underlying ty=some (.slice (P.elem ty))) (ho:o.op=.call c:=by rfl) (hc:c.callee=.builtin .len:=by rfl) (hx:c.args=#[x]:=by rfl)
  (hty:c.argTypes=#[ty]:=by rfl) (hv:rd env H (lk env x)=some xs:=by rfl):VOK P C o env H (.d (.i .i64 xs.length)):=.pv (YQ ho hc hx hty hu hv hsz)
theorem ZK {c:Call} {r ty off len:Nat} {p:Pl} (hu:P.underlying ty=some (.slice (P.elem ty))) (ho:o.op=.call c:=by rfl) (hc:c.callee=.builtin .len:=by rfl) (hx:c.args=#[.tmp r]:=by rfl) (hty:c.argTypes=#[ty]:=by rfl)
  (hv:get env r=.ref p off len:=by rfl):VOK P C o env H (.d (.i .i64 len)):=.pv ⟨by simp [ho],fun X a w I μ O _ hs=>⟨_,SM ho hc hx hty hu hv hs,.of_rep (.i _ _)⟩⟩
theorem X6 {c:Call} {x:Operand} {ty:Nat} {s:ByteArray} (hu:P.underlying ty=some .string) (ho:o.op=.call c:=by rfl) (hc:c.callee=.builtin .len:=by rfl) (hx:c.args=#[x]:=by rfl)
  (hty:c.argTypes=#[ty]:=by rfl) (hv:lk env x=.d (.s s):=by rfl):VOK P C o env H (.d (.i .i64 s.size)):=.pv (VL ho hc hx hty hu hv)
theorem vix {x i:Operand} {ty e sz by_:Nat} {xs:List DV} {q:IntKind} {z:Int} {d:DV} (n:Nat) (hn:z=n) (hx:xs[n]?=some d) (hsz:d.cells.length=sz) (hty:D9 P ty=some (e,sz,by_)) (ho:o.op=.indexAddr ty x i:=by rfl)
  (hv:lk env x=.d (.sl xs):=by rfl) (hi:lk env i=.d (.i q z):=by rfl):VOK P C o env H (.d (.ptr d.cells)):=by
 subst hn
 have hl:n<xs.length:=(lS.1 hx).1
 have hg':xs.getD (n:Int).toNat default=d:=by simp [List.getD_eq_getElem?_getD,hx]
 obtain ⟨h1,h2⟩:=Av hv (by simp)
 obtain ⟨h3,h4⟩:=Av hi (by simp)
 have:=VD (P:=P) (C:=C) (env:=env) (H:=H) ho h1 h3 hty h2 h4 (by omega) (by omega) (by rw [hg'];exact hsz)
 rw [hg'] at this;exact .pv this
theorem Ai {x:Operand} {ty:Nat} {d:DV} {cs:List DV} (hag:C0 P ty=some false) (ho:o.op=.load ty x:=by rfl) (hv:lk env x=.d (.ptr (d::cs)):=by rfl) : VOK P C o env H (.d d):=by
 obtain ⟨h1,h2⟩:=Av hv (by simp)
 exact .pv (Uj ho h1 hag h2 (by simp))
theorem Q4 {s ty i j e:Nat} {p:Pl} {xs:List DV} (d:DV) (hx:∃ x,xs[i]?=some x∧x.cells[j]?=some d) (hag:C0 P ty=some false) (ho:o.op=.load ty (.tmp s):=by rfl) (hv:get env s=.ep p i j:=by rfl) (hp:A1 env H p=.own e xs:=by rfl) :
  VOK P C o env H (.d d):=by
 obtain ⟨x,hx,hj⟩:=hx
 have:=Wh (P:=P) (C:=C) (env:=env) (H:=H) ho (by simp [AH]) hag hv hp
 simp only [List.getD_eq_getElem?_getD,hx,hj,Option.getD_some] at this
 exact .pv this
theorem vsl {x:Operand} {ty e sz by_:Nat} {lo hi mx:Option Operand} {xs:List DV} {zl zh zm:Int} (l' h':Nat) (hb:zl=l'∧zh=h'∧l'≤h'∧zh≤zm∧zm≤xs.length) (hsz:∀ x∈xs,x.cells.length=sz) (hty:D9 P ty=some (e,sz,by_))
  (ho:o.op=.slice ty x lo hi mx:=by rfl) (hv:lk env x=.d (.sl xs):=by rfl) (hl:Gw env 0 (lo.map EC)=some zl:=by rfl) (hh:Gw env xs.length (hi.map EC)=some zh:=by rfl) (hm:Gw env zh (mx.map EC)=some zm:=by rfl)
  (hfl:DI lo (lo.map EC)=true:=by rfl) (hfh:DI hi (hi.map EC)=true:=by rfl) (hfm:DI mx (mx.map EC)=true:=by rfl) (hmh:(mx.isNone||hi.isSome)=true:=by rfl):VOK P C o env H (.d (.sl ((xs.drop l').take (h'-l')))):=by
 obtain ⟨rfl,rfl,h1,h2,h3⟩:=hb
 obtain ⟨k1,k2⟩:=Av hv (by simp)
 have:=Va (P:=P) (C:=C) (env:=env) (H:=H) ho k1 hfl hfh hfm hty k2 hl hh hm (by cases mx<;>cases hi<;>simp at hmh ⊢) (by omega) (by omega) h2 h3 hsz
 simp only [Int.toNat_natCast] at this
 exact .pv this
theorem vmn {c:Call} {x y:Operand} {q q':IntKind} {m n:Int} (ho:o.op=.call c:=by rfl) (hc:c.callee=.builtin .min:=by rfl) (hx:c.args=#[x,y]:=by rfl) (hxv:lk env x=.d (.i q m):=by rfl) (hyv:lk env y=.d (.i q' n):=by rfl) :
  VOK P C o env H (.d (.i q (if n<m then n else m))):=.pv (Yr ho hc hx hxv hyv)
theorem vmx {c:Call} {x y:Operand} {q q':IntKind} {m n:Int} (ho:o.op=.call c:=by rfl) (hc:c.callee=.builtin .max:=by rfl) (hx:c.args=#[x,y]:=by rfl) (hxv:lk env x=.d (.i q m):=by rfl) (hyv:lk env y=.d (.i q' n):=by rfl) :
  VOK P C o env H (.d (.i q (if m<n then n else m))):=.pv (Yb ho hc hx hxv hyv)
theorem Oa {r:Nat} {i:Operand} {ty e sz by_ off len:Nat} {p:Pl} {xs:List DV} {q:IntKind} {z:Int} (n:Nat) (hn:z=n) (hl:n<len) (hty:D9 P ty=some (e,sz,by_)) (hz:0<sz) (ho:o.op=.indexAddr ty (.tmp r) i:=by rfl)
  (hv:get env r=.ref p off len:=by rfl) (hp:A1 env H p=.own e xs:=by rfl) (hi:lk env i=.d (.i q z):=by rfl):VOK P C o env H (.ep p (off+n) 0):=by
 subst hn
 obtain ⟨k3,k4⟩:=Av hi (by simp)
 refine .rel (by simp [ho]) fun X a w I μ O _ hs=>?_
 obtain ⟨inf,s1,s2,s3,_,s5⟩:=EY hty
 have hni:=hs.look_i k3 k4
 have hrr:=hs.envr r
 rw [hv] at hrr
 obtain ⟨e',ys,A,m,c,g1,g2,g3,g4⟩:=hrr
 rw [hp] at g1;cases g1
 obtain ⟨v0,bs,f1,f2,_,_⟩:=hs.at_place hp
 rw [g2] at f1;cases f1
 obtain ⟨c1,c2,c3⟩:=FH f2
 obtain ⟨b,rfl⟩:=c3 (by omega)
 obtain ⟨A',c',q1,q2,q3,q4⟩:=g4
 have hA:(some (⟨b,0,none⟩:Addr)).map (·.add (off * AN P e))=some ⟨b,off * AN P e,none⟩:=by simp [DH]
 rw [q4 (by omega),hA] at q1
 have hc1:(n:Int)<(len:Int):=by omega
 refine ⟨.pointer (some ⟨b,(off+n) * AN P e+0,none⟩),?_,rfl,e,xs,b,m,c,hp,g2,by omega,by omega,rfl⟩
 have he:a.eval (.tmp r)=.slice (some ⟨b,off * AN P e,none⟩) len c':=q1
 simp [execOp,ho,he,hni,Instr.indexAt,asIntOf,run_underlying s1,hl,EO s2,s3,DH,Nat.add_mul,s5]
theorem vcl {c:Call} {fo:Operand} {f:Nat} {first xs caps:List DV} {r:AV} (hfn:Fn P f (first++xs++caps) r) (hcall:∀ args w,(callFunc f args).run P w=.ok (.enter f args) w) (ho:o.op=.call c:=by rfl) (hc:c.callee=.value fo:=by rfl)
  (hfo:lk env fo=.d (.fn f first caps):=by rfl) (ha:argsD env c.args.toList=some xs:=by rfl) (hr:A5 r=false:=by rfl):VOK P C o env H r:=by
 intro X a w I μ O next Q h1 h2 h3 hs hn
 have hfr:=hs.deep (x:=fo) (v:=.fn f first caps) (by rw [hfo];rfl)
 generalize hev:a.eval fo=u at hfr
 cases hfr with
 | fn _ _ _ fs cs hfs hcs =>
  refine ⟨fun _ _=>trivial,?_⟩
  have hres:=CA (P:=P) (w:=w) (ρ:=a.eval) (ty:=o.type) hc hev
  have hex:(execOp a.eval o).run P w=.ok (.enter f (fs.toArray++c.args.map a.eval++cs.toArray)) w:=by
   simp only [execOp,ho,Sem.run_bind,hres,Result.andThen_ok,invoke,hcall]
  rw [Oper.semAt_eq _ _ _ (by simp [ho]),hex,Oper.uponIn_enter]
  refine ⟨fun h=>(by simp [om] at h),?_⟩
  have hcl:=hfn w I _ hs.ilt ((hfs.append (hs.argsD ha)).append hcs)
  have e:(fs++c.args.toList.map a.eval++cs).toArray=fs.toArray++c.args.map a.eval++cs.toArray:=by
   apply Array.ext';simp
  rw [e] at hcl
  refine ⟨trivial,fun csF hroom=>?_⟩
  obtain ⟨e,w',fr,⟨v,I',bs,rfl,q1,q2,q3,q4,q5,q6⟩,s,x⟩:=hcl.2 csF (room_wide _)
  exact ⟨.returned v,w',fr,hn v w' I' bs q1 q2 q3 (P1 (q4.keep (fun _ h=>h) (fun _ _=>rfl) (fun i b h=>by simp at h) fun _ _=>rfl) hr) q5 q6,s,x⟩
theorem Lp {ty e sz by_ len:Nat} {z:Value} {parts:Array (Nat×Operand)} {xs:List Operand} {ds:List DV} (hsz:∀ d∈ds,d.flat=true∧d.cells.length=sz) (hT:C1 P ty=some (e,sz,by_,z))
  (ho:o.op=.buildSlice ty len parts:=by rfl) (hp:IF 0 parts.toList=some xs:=by rfl) (hlen:xs.length=len:=by rfl) (ha:argsD env xs=some ds:=by rfl) (hsmall:len * sz≤16777216:=by decide):VOK P C o env H (.own e ds):=by
 intro X a w I μ O next Q h1 h2 h3 hs hn
 obtain ⟨i,i1,i2,i3,i4,i5,i6,i7,i8⟩:=Eg hT
 have hr:=hs.argsD ha
 obtain ⟨k1,k2⟩:=SL hr hsz
 have hdl:ds.length=len:=by rw [hr.length];simpa using hlen
 have hm:ds.length≤maxLen:=by
  rw [hdl]
  have:len≤16777216:=nT (Nat.le_mul_of_pos_right _ i7) hsmall
  simp only [maxLen];omega
 have hl:(xs.map a.eval).length=len:=by simpa using hlen
 have hrun:=F5 (P:=P) (w:=w) hT (vs:=xs.map a.eval) (by rw [hl];exact hsmall) k2
 have hparts:parts.map (fun (x:Nat×Operand)=>(x.1,a.eval x.2))=(((xs.map a.eval).zipIdx 0).map fun x=>(x.2,x.1)).toArray:=by
  apply Array.ext'
  rw [Array.toList_map,L6 hp]
  simp [List.zipIdx_map]
 have hex:(execOp a.eval o).run P w=.ok (.value (.slice (some ⟨w.heap.size,0,none⟩) ds.length ds.length)) (w.alloc (.cells ((xs.map a.eval).flatMap (·.cells.toList)).toArray e)):=by
  simp only [execOp,ho,Sem.run_bind]
  rw [show (parts.map fun x=>match x with|(i,x)=>(i,a.eval x))=parts.map (fun (x:Nat×Operand)=>(x.1,a.eval x.2)) from rfl,hparts,hdl,← hl,hrun]
  simp only [Result.andThen_ok,Sem.run_pure]
 refine ⟨fun _ _=>trivial,?_⟩
 rw [Oper.semAt_eq _ _ _ (by simp [ho]),hex,Oper.uponIn_value]
 have hbel:Below w.heap.size w (w.alloc (.cells ((xs.map a.eval).flatMap (·.cells.toList)).toArray e)):=(Below.refl _ _).alloc (Nat.le_refl _) _
 have hl2:((xs.map a.eval).flatMap (·.cells.toList)).toArray.size=ds.length * AN P e:=by rw [i8];simpa using k1.length
 have hbs:∀ b∈B0 (.slice (some ⟨w.heap.size,0,none⟩) ds.length ds.length),b=w.heap.size:=fun b hb=>by
  simp only [B0] at hb
  split at hb<;>simp at hb
  exact hb
 refine hn _ _ I (B0 (.slice (some ⟨w.heap.size,0,none⟩) ds.length ds.length)) hbel (fun _ h=>h) (fun b hi=>⟨by have:=hs.ilt b hi;simp;omega,fun _=>hi⟩) ?_ (IV _) fun b hb=>?_
 ·have:=ARep.own (P:=P) (μ:=μ) (I:=I) e ds (.slice (some ⟨w.heap.size,0,none⟩) ds.length ds.length) ((xs.map a.eval).flatMap (·.cells.toList)).toArray.toList (by omega)
   (.of <| World.ownsRow_lit w _ ds.length (base:=0) (e:=e) (Nat.zero_le _) hm hl2) (by
    rw [i8];simpa using k1.keep (fun b hi=>hbel.block b (hs.ilt b hi)) fun _ h=>h)
  exact this
 ·rw [hbs b hb]
  exact ⟨Nat.le_refl _,by simp,fun hi=>by have:=hs.ilt _ hi;omega⟩
end
end Go.FL
namespace Go.FL
open Go Go.RowKit Go.ChangeShapes Go.WideShapes Go.ChangeAt
section
variable {H:Type} {enc:TypeId×Value→H} {P:Program} {W W':World}
theorem NX (hl:laidOutB P=true) (hb:Below W.heap.size W W') {sp:Nat→Bool} : ∀ {ts:List TypeId} {vs:List Value} {ds:List (DataW H)} {ps:List MemPlace},(∀ t∈ts,P.readableRec t=true∧t<P.types.size) →
  DataW.TrodAll enc P W 0 (fun _=>true) true ts vs ds ps→(∀ x∈ps,x.block<W.heap.size)→(∀ x∈ps,sp x.block=true)→DataW.TrodAll enc P W' 0 sp true ts vs ds ps:=by
 intro ts
 induction ts with
 | nil =>
  intro vs ds ps _ h _ _
  obtain ⟨rfl,rfl,rfl⟩:=trodAll_nil h
  exact trodAll_mk0
 | cons t ts ih =>
  intro vs ds ps ht h hlt hsp
  obtain ⟨v,vs',d,ds',p,q,rfl,rfl,rfl,h1,h2⟩:=trodAll_cons h
  obtain ⟨hr,hrow⟩:=ht t (by simp)
  exact trodAll_cons_mk (WideElems.Trod_stays hl hr hrow h1 (fun x hx=>hb.same (hlt x (by simp [hx]))) fun x hx=>hsp x (by simp [hx]))
   (ih (fun t' ht'=>ht t' (by simp [ht'])) h2 (fun x hx=>hlt x (by simp [hx])) fun x hx=>hsp x (by simp [hx]))
theorem U6 {f:Func} {s:ChangeSpec} {args:Array Value} {ds gs:List (DataW H)} {before:List MemPlace} {t:TypeId} (hW:DataW.Whole enc P f.params.toList s.vars false W args.toList ds gs before) (hv:s.vars=[])
  (hs:gs=[]→s.fn H (ds++gs)={results:=[.lit (.bool true)],args:=ds}) (hr:f.resultTypes=#[t]) (ht:P.underlying t=some .bool) (hl:laidOutB P=true) (hts:∀ t∈f.params.toList,P.readableRec t=true∧t<P.types.size) (hb:Below W.heap.size W W') :
  s.post enc P f false true false false W args (.bool true) W':=by
 have hold:∀ p∈before,p.block<W.heap.size:=hW.lt
 have hW0:=hW
 obtain ⟨p,q,hA,hV,rfl,hfz,_⟩:=hW
 rw [hv] at hV
 obtain ⟨rfl,rfl⟩:=trodVars_none hV
 have hs:=hs rfl
 have hbo:(fun b=>decide (b<W.heap.size))=(fun b=>decide (b<W.heap.size)):=rfl
 refine ⟨ds,[],p++[],[],p,[],hW0,?_,?_,?_,hb.frame _,fun h=>(by cases h)⟩
 ·rw [hs,hr]
  exact trodAll_cons_mk (shut_bool ht true) trodAll_mk0
 ·rw [hs]
  exact NX hl hb hts hA (fun x hx=>hold x (by simp [hx])) fun x hx=>by simpa using hold x (by simp [hx])
 ·rw [hs,hv];rfl
theorem WH {t:TypeId} {k:IntKind} {v:Value} {d:DataW H} {ps:List MemPlace} (ht:P.underlying t=some (.int k)) (hval:Value.okWide P W .any 0 t v) (hd:DataW.Trod enc P W 0 (fun _=>true) true t v d ps) :
  ∃ n,(Lit.int k n).wf=true∧Rep W (fun b=>b<W.heap.size) (.i k n) v:=by
 obtain ⟨n,rfl,_,_,hw⟩:=open_int ht hval hd
 exact ⟨n,hw,.i k n⟩
theorem Ts {f:FuncId} {dvs:List DV} {vs:List Value} (h:Fn P f dvs (.d (.b true))) (hr:RepAll W (fun b=>b<W.heap.size) dvs vs) :
  Calls P f vs.toArray W fun e W'=>e=.returned (.bool true)∧Below W.heap.size W W':=by
 have:=h W _ vs (fun b hb=>hb) hr
 refine CallsIn.calls (this.mono fun e w' ⟨v,I',bs,h1,h2,_,_,h5,_⟩=>⟨?_,h2⟩) room_wide
 cases h5 with
 | d h5=>cases h5;exact h1
end
end Go.FL
namespace Go.FL
open Go Go.RowKit
def FnG (P:Program) (f:FuncId) (args:List AV) (H:Ad) (r:AV) (args':List AV) (H':Ad) : Prop :=
 ∀ (X:Snap) (w:World) (I:Nat→Prop) (μ:List Nat) (O:Nat→Option Loc) (vs:List Value) (bs:List Nat),X.w=w→X.I=I→X.n0=0→X.ne=H.length→X.μ=μ→Mem P X H w I μ O→ARepAll P w I μ args vs bs→bs.Nodup→(∀ b∈bs,O b=some .r) →
  CallsIn (om none) 0 P f vs.toArray w fun e w'=>∃ v I' μ' O' G rs bs',e=.returned v∧Mem P X (H'++G) w' I' μ' O'∧ARep P w' I' μ' r v rs∧ARepAll P w' I' μ' args' (vs.take args'.length) bs'∧(rs++bs').Nodup∧∀ b∈rs++bs',∃ n,O' b=some (.t n)
def Qj : Nat→List AV→Env→Env
 | _,[],e=>e
 | k,a::r,e=>Qj (k+1) r ((k,a)::e)
section
variable {P:Program} {C:Cx} {X:Snap} {o:Oper} {ops:Array Oper} {Q:Exit→Env→Ad→Prop} {env env':Env} {H H':Ad} {a:Act} {w w':World} {I I':Nat→Prop} {μ μ':List Nat} {O O':Nat→Option Loc}
 {K:Env→Ad→Prop} {k:Nat} {l:List Oper}
theorem Mem.cast {Y:Snap} (h:Mem P X H w I μ O) (e1:Y.w=X.w) (e2:Y.I=X.I) (e3:Y.K=X.K) (e4:Y.n0=X.n0) (e5:Y.ne=X.ne) (e6:Y.μ=X.μ) : Mem P Y H w I μ O:=by
 cases X;cases Y;simp only at e1 e2 e3 e4 e5 e6
 subst e1 e2 e3 e4 e5 e6
 exact ⟨h.prot,h.kO,h.kI,h.mono,h.os,h.tape,h.output,h.size,h.own,h.ilt,h.μlen,h.μpre,h.nle,h.heap,h.klt,h.n0le⟩
theorem Mem.lab (h:Mem P X H w I μ O) (hlt:∀ b l,O' b=some l→b<w.heap.size∧¬I b) (hK:∀ b,X.K b→O' b=none) (ho:∀ b id,O b=some (.o id)→O' b=some (.o id)) : Mem P X H w I μ O' where
 prot:=h.prot
 kO:=hK
 kI:=h.kI
 mono:=h.mono
 os:=h.os
 tape:=h.tape
 output:=h.output
 size:=h.size
 own:=hlt
 ilt:=h.ilt
 μlen:=h.μlen
 μpre:=h.μpre
 nle:=h.nle
 heap id o' ho':=by
  obtain ⟨blk,bs,h1,h2,h3,h4⟩:=h.heap id o' ho'
  exact ⟨blk,bs,h1,h2,fun hn=>⟨(h3 hn).1,fun b hb=>ho b id ((h3 hn).2 b hb)⟩,h4⟩
 klt:=h.klt
 n0le:=h.n0le
theorem Sim.adopt (hs:Sim P X env H a w I μ O) {t:Nat} {av:AV} {bs:List Nat} (hr:ARep P w I μ av (a.tmps.getD t undef) bs) (hn:bs.Nodup) (hb:∀ b∈bs,O b=some .r) (h0:Am (get env t)=false) :
  Sim P X ((t,av)::env) H a w I μ (fun b=>if b∈bs then some (.t t) else O b):=by
 have hO:∀ b l,O b=some l→l≠.r→(if b∈bs then some (Loc.t t) else O b)=some l:=fun b l h hl=>by
  rw [if_neg fun hm=>hl (by have:=hb b hm;rw [h] at this;exact oI this)];exact h
 refine ⟨hs.toMem.lab (fun b l h=>?_) (fun b hk=>?_) fun b id h=>hO b _ h (by simp),fun s=>?_,hs.nt,hs.dfs⟩
 ·by_cases hm:b∈bs
  ·exact hs.own b _ (hb b hm)
  ·rw [if_neg hm] at h;exact hs.own b l h
 ·rw [if_neg fun hm=>by have:=hs.kO b hk;rw [hb b hm] at this;cases this];exact hs.kO b hk
 ·by_cases hst:t=s
  ·subst hst
   have:get ((t,av)::env) t=av:=by simp [get]
   rw [this]
   exact .of hr hn fun b hm=>by simp [hm]
  ·have hg:get ((t,av)::env) s=get env s:=by simp [get,hst]
   rw [hg]
   have hpl:∀ p e xs,A1 env H p=.own e xs→A1 ((t,av)::env) H p=.own e xs:=by
    intro p e xs hx
    cases p with
    | t r =>
     show get _ r=_
     by_cases hr:t=r
     ·subst hr;rw [show A1 env H (.t t)=get env t from rfl] at hx;rw [hx] at h0;cases h0
     ·simp only [get,if_neg hr];exact hx
    | c id off=>exact hx
   have h:=hs.envr s
   cases hgs:get env s with
   | ref p off len =>
    rw [hgs] at h
    obtain ⟨e,xs,A,n,c,h1,h2⟩:=h
    exact ⟨e,xs,A,n,c,hpl p e xs h1,h2⟩
   | ep p i k =>
    rw [hgs] at h
    obtain ⟨e,xs,b,n,c,h1,h2⟩:=h
    exact ⟨e,xs,b,n,c,hpl p e xs h1,h2⟩
   | _ =>
    rw [hgs] at h
    obtain ⟨bs',h1,h2,h3⟩:=h.plain rfl
    exact .of h1 h2 fun b hm=>hO b _ (h3 b hm) (by simp)
theorem Sim.adoptAll : ∀ {args:List AV} {vs:List Value} {bs:List Nat} {k:Nat} {env:Env} {O:Nat→Option Loc},Sim P X env H a w I μ O→ARepAll P w I μ args vs bs→bs.Nodup→(∀ b∈bs,O b=some .r) →
  (∀ t,k≤t→get env t=.un)→(∀ j v,vs[j]?=some v→a.tmps.getD (k+j) undef=v)→∃ O',Sim P X (Qj k args env) H a w I μ O':=by
 intro args
 induction args with
 | nil=>intro vs bs k env O hs _ _ _ _ _;exact ⟨O,hs⟩
 | cons c cs ih =>
  intro vs bs k env O hs h hn hb he hv
  cases h with
  | @cons _ v _ vs b1 b2 h t =>
   have hnd:=List.nodup_append.1 hn
   have e0:a.tmps.getD k undef=v:=by have:=hv 0 v rfl;simpa using this
   have h1:=hs.adopt (t:=k) (by rw [e0];exact h) hnd.1 (fun b hm=>hb b (by simp [hm])) (by rw [he k (Nat.le_refl _)];rfl)
   refine ih h1 t hnd.2.1 (fun b hm=>?_) (fun s hs'=>?_) fun j u hj=>?_
   ·rw [if_neg fun hm'=>hnd.2.2 b hm' b hm rfl];exact hb b (by simp [hm])
   ·simp only [get]
    rw [if_neg (by omega)];exact he s (by omega)
   ·have:=hv (j+1) u (by simpa using hj)
    rw [← this];congr 1;omega
def ZB (rs:List ResultVar) (r:AV) (args':List AV) (H':Ad) : Exit→Env→Ad→Prop
 | .normal,env,H=>(∃ G,H=H'++G)∧Gk env r rs∧(∀ (i:Nat) c,args'[i]?=some c→get env i=c∧A5 c=false∧.tmp i∉rs)
 | .ret,env,H=>(∃ G,H=H'++G)∧Gk env r rs∧(∀ (i:Nat) c,args'[i]?=some c→get env i=c∧A5 c=false∧.tmp i∉rs)
 | _,_,_=>False
theorem Sim.gives (hs:Sim P X env H a w I μ O) {fn:Func} {rs:List ResultVar} (hrs:fn.results=rs.toArray) {r:AV} (h:Gk env r rs) :
  ∃ v bs,(Go.results fn a.tmps).run P w=.ok v w∧ARep P w I μ r v bs∧bs.Nodup∧∀ b∈bs,∃ t,O b=some (.t t)∧.tmp t∈rs:=by
 have one:∀ t,A5 (get env t)=false→∃ bs,ARep P w I μ (get env t) (a.tmps.getD t undef) bs∧bs.Nodup∧∀ b∈bs,O b=some (.t t):=fun t ht=>(hs.envr t).plain ht
 have dis:∀ {t u:Nat} {b1 b2:List Nat},t≠u→(∀ b∈b1,O b=some (.t t))→(∀ b∈b2,O b=some (.t u))→∀ x∈b1,∀ y∈b2,x≠y:=by
  intro t u b1 b2 h h1 h2 x hx y hy e
  have:=h1 x hx;rw [e,h2 y hy] at this;simp at this;exact h this.symm
 unfold Gk at h
 split at h
 ·subst h
  exact ⟨_,[],results_none (by rw [hrs]) _ _ _,.tup .nil,nN,by simp⟩
 ·obtain ⟨rfl,h2⟩:=h
  obtain ⟨bs,k1,k2,k3⟩:=one _ h2
  exact ⟨_,bs,results_tmp (by rw [hrs]) _ _ _,k1,k2,fun b hb=>⟨_,k3 b hb,by simp⟩⟩
 ·obtain ⟨hne,rfl,h2,h3⟩:=h
  obtain ⟨b1,k1,k2,k3⟩:=one _ h2
  obtain ⟨b2,m1,m2,m3⟩:=one _ h3
  refine ⟨_,_,results_tmp2 (by rw [hrs]) _ _ _,.tup (.cons k1 (.cons m1 .nil)),?_,?_⟩
  ·simp only [List.append_nil]
   exact List.nodup_append.2 ⟨k2,m2,dis hne k3 m3⟩
  ·intro b hb
   simp only [List.append_nil,List.mem_append] at hb
   rcases hb with hb|hb
   ·exact ⟨_,k3 b hb,by simp⟩
   ·exact ⟨_,m3 b hb,by simp⟩
 ·obtain ⟨⟨n1,n2,n3⟩,rfl,h2,h3,h4⟩:=h
  obtain ⟨b1,k1,k2,k3⟩:=one _ h2
  obtain ⟨b2,m1,m2,m3⟩:=one _ h3
  obtain ⟨b3,p1,p2,p3⟩:=one _ h4
  refine ⟨_,_,results_tmp3 (by rw [hrs]) _ _ _,.tup (.cons k1 (.cons m1 (.cons p1 .nil))),?_,?_⟩
  ·simp only [List.append_nil]
   refine List.nodup_append.2 ⟨k2,List.nodup_append.2 ⟨m2,p2,dis n3 m3 p3⟩,fun x hx y hy=>?_⟩
   rcases List.mem_append.1 hy with hy|hy
   ·exact dis n1 k3 m3 x hx y hy
   ·exact dis n2 k3 p3 x hx y hy
  ·intro b hb
   simp only [List.append_nil,List.mem_append] at hb
   rcases hb with hb|hb|hb
   ·exact ⟨_,k3 b hb,by simp⟩
   ·exact ⟨_,m3 b hb,by simp⟩
   ·exact ⟨_,p3 b hb,by simp⟩
 ·exact h.elim
theorem Sim.firsts (hs:Sim P X env H a w I μ O) (rs:List ResultVar) : ∀ {cs:List AV} {vs:List Value} (k:Nat),(∀ (i:Nat) c,cs[i]?=some c→get env (k+i)=c∧A5 c=false∧.tmp (k+i)∉rs)→(∀ (i:Nat),i<cs.length→vs[i]?=some (a.tmps.getD (k+i) undef)) →
  ∃ bs,ARepAll P w I μ cs (vs.take cs.length) bs∧bs.Nodup∧∀ b∈bs,∃ t,k≤t∧O b=some (.t t)∧.tmp t∉rs:=by
 intro cs
 induction cs with
 | nil=>intro vs k _ _;exact ⟨[],by simpa using ARepAll.nil,nN,by simp⟩
 | cons c cs ih =>
  intro vs k hc hv
  cases vs with
  | nil=>have:=hv 0 (by simp);simp at this
  | cons v vs =>
   have h0:=hv 0 (by simp)
   simp only [List.getElem?_cons_zero,Option.some.injEq,Nat.add_zero] at h0
   obtain ⟨q1,q2,q3⟩:=hc 0 c rfl
   simp only [Nat.add_zero] at q1 q3
   obtain ⟨b1,k1,k2,k3⟩:=(hs.envr k).plain (by rw [q1];exact q2)
   rw [q1] at k1
   obtain ⟨b2,m1,m2,m3⟩:=ih (vs:=vs) (k+1) (fun i c' hi=>by have:=hc (i+1) c' (by simpa using hi);rwa [show k+(i+1)=k+1+i by omega] at this)
    (fun i hi=>by have:=hv (i+1) (by simp;omega);rw [show k+(i+1)=k+1+i by omega] at this;simpa using this)
   refine ⟨b1++b2,?_,?_,fun b hb=>?_⟩
   ·simp only [List.length_cons,List.take_succ_cons]
    rw [h0];exact .cons k1 m1
   ·refine List.nodup_append.2 ⟨k2,m2,fun x hx y hy e=>?_⟩
    subst e
    obtain ⟨t,h1,h2,_⟩:=m3 x hy
    have:=k3 x hx
    rw [h2] at this;simp at this;omega
   ·rcases List.mem_append.1 hb with hb|hb
    ·exact ⟨k,Nat.le_refl _,k3 b hb,q3⟩
    ·obtain ⟨t,h1,h2⟩:=m3 b hb
     exact ⟨t,by omega,h2⟩
theorem FnG.of {f:FuncId} {fn:Func} {c:Code} {args args':List AV} {r:AV} {rs:List ResultVar} (lo nt:Nat) (hf:P.funcs[f]?=some fn) (hb:fn.body=some c) (hrs:fn.results=rs.toArray) (hnt:fn.ntmps=nt) (hn:args.length≤nt) (hlo:args'.length≤lo)
  (hlo':lo≤args.length) (h:AW P {nt:=(lo,nt),n0:=0,ne:=H.length} c (ZB rs r args' H') (Qj 0 args []) H):FnG P f args H r args' H':=by
 intro X w I μ O vs bs e1 e2 e3 e4 e5 hm ha hnd hbO
 refine callsIn_of_wp hf hb trivial ?_
 have hlen:=ha.length
 let a:Act:={tmps:=vs.toArray++Array.replicate (fn.ntmps-vs.toArray.size) undef,defers:=[]}
 let Y:Snap:={X with nt:=(lo,nt),dfs:=[],args:=vs}
 have hat:∀ (j:Nat) (v:Value),vs[j]?=some v→a.tmps.getD j undef=v:=fun j v hj=>by
  have hjl:j<vs.length:=(lS.1 hj).1
  have e2:(vs.toArray++Array.replicate (fn.ntmps-vs.length) undef)[j]?=some v:=by
   rw [Array.getElem?_append_left (by simpa using hjl)];simpa using hj
  simp [a,e2]
 have hs0:Sim P Y [] H a w I μ O:=by
  refine ⟨hm.cast rfl rfl rfl rfl rfl rfl,fun t=>.un,by simp [a,Y,hnt];omega,rfl,fun t ht=>?_⟩
  have htl:t<vs.length:=by simp only [Y] at ht;omega
  rw [hat t vs[t] (lG htl)]
  simp [Y,List.getD_eq_getElem?_getD,htl]
 obtain ⟨O1,hs⟩:=hs0.adoptAll (k:=0) ha hnd hbO (fun _ _=>rfl) fun j v hj=>by rw [Nat.zero_add];exact hat j v hj
 have hw:=h Y a w I μ O1 rfl e3 e4 hs
 refine wpIn_mono hw fun e a' w' hp=>?_
 obtain ⟨env',He,I',μ',O',s,q⟩:=hp
 have fin:((∃ G,He=H'++G)∧Gk env' r rs∧(∀ (i:Nat) c,args'[i]?=some c→get env' i=c∧A5 c=false∧.tmp i∉rs))→a'.defers=[]∧∃ v,(results fn a'.tmps).run P w'=.ok v w' ∧
   ∃ v' I' μ' O' G rs bs',Ending.returned v=.returned v'∧Mem P X (H'++G) w' I' μ' O'∧ARep P w' I' μ' r v' rs∧ARepAll P w' I' μ' args' (vs.take args'.length) bs'∧(rs++bs').Nodup∧∀ b∈rs++bs',∃ n,O' b=some (.t n):=by
  rintro ⟨⟨G,rfl⟩,hres,hargs⟩
  obtain ⟨v,b1,h1,h2,h3,h4⟩:=s.gives hrs hres
  obtain ⟨b2,k1,k2,k3⟩:=s.firsts rs (cs:=args') (vs:=vs) 0 (fun i c hi=>by rw [Nat.zero_add];exact hargs i c hi) fun i hi=>by
   have htl:i<vs.length:=by omega
   rw [Nat.zero_add,s.dfs.2 i (by simp only [Y];omega)]
   simp [Y,List.getD_eq_getElem?_getD,htl]
  refine ⟨s.dfs.1,v,h1,v,I',μ',O',G,b1,b2,rfl,s.toMem.cast rfl rfl rfl rfl rfl rfl,h2,k1,?_,fun b hb=>?_⟩
  ·refine List.nodup_append.2 ⟨h3,k2,fun x hx y hy e=>?_⟩
   subst e
   obtain ⟨t,g1,g2⟩:=h4 x hx
   obtain ⟨t',_,g3,g4⟩:=k3 x hy
   rw [g1] at g3;simp at g3;subst g3
   exact g4 g2
  ·rcases List.mem_append.1 hb with hb|hb
   ·obtain ⟨t,g1,_⟩:=h4 b hb;exact ⟨t,g1⟩
   ·obtain ⟨t,_,g1,_⟩:=k3 b hb;exact ⟨t,g1⟩
 cases e with
 | normal=>exact fin q
 | ret=>exact fin q
 | _=>exact q.elim
end
end Go.FL
namespace Go.FL
open Go Go.RowKit
def Lk : AV→Bool
 | .ref (.c _ _) _ _=>true
 | .ep (.c _ _) _ _=>true
 | _=>false
def CG (env:Env) : Bool:=env.any fun x=>Lk x.2
def argsA (env:Env) : List Operand→Option (List AV)
 | []=>some []
 | x::xs=>match argsA env xs with
  | some vs=>if noOwn (lk env x)&&!A5 (lk env x) then some (lk env x::vs) else none
  | none=>none
section
variable {P:Program} {C:Cx} {X:Snap} {o:Oper} {ops:Array Oper} {Q:Exit→Env→Ad→Prop} {env env':Env} {H H':Ad} {a:Act} {w w':World} {I I':Nat→Prop} {μ μ':List Nat} {O O':Nat→Option Loc}
 {K:Env→Ad→Prop} {k:Nat} {l:List Oper}
theorem HW (h:CG env=false) (t:Nat) : (∀ id off x y,get env t≠.ref (.c id off) x y)∧∀ id off x y,get env t≠.ep (.c id off) x y:=by
 constructor<;>intro id off x y hg
 ·have:=FE hg (by simp)
  have h2:CG env=true:=List.any_eq_true.2 ⟨_,this,rfl⟩
  rw [h] at h2;cases h2
 ·have:=FE hg (by simp)
  have h2:CG env=true:=List.any_eq_true.2 ⟨_,this,rfl⟩
  rw [h] at h2;cases h2
theorem Sim.over (hs:Sim P X env H a w I μ O) (hn0:X.n0=0) (hc:CG env=false) (bs:List Nat) (hb:∀ b∈bs,O b=some .r) :
  ∃ (Y:Snap) (O2:Nat→Option Loc),Y.w=w∧Y.I=I∧Y.n0=0∧Y.ne=H.length∧Y.μ=μ∧Mem P Y H w I μ O2∧(∀ b∈bs,O2 b=some .r) ∧
   ∀ {w':World} {I':Nat→Prop} {μ':List Nat} {O':Nat→Option Loc} {Hn:Ad} {rs:List Nat},Mem P Y Hn w' I' μ' O'→(∀ b∈rs,∃ n,O' b=some (.t n))→∃ On,Sim P X env Hn a w' I' μ' On∧∀ b∈rs,On b=some .r:=by
 let Y:Snap:={X with w:=w,I:=I,n0:=0,ne:=H.length,μ:=μ,K:=fun b=>X.K b∨I b∨∃ t,O b=some (.t t)}
 let O2:Nat→Option Loc:=fun b=>if b∈bs then some .r else match O b with
  | some (.o id)=>some (.o id)
  | _=>none
 have hO2o:∀ b id,O b=some (.o id)→O2 b=some (.o id):=fun b id h=>by
  show (if b∈bs then _ else _)=_
  rw [if_neg fun hm=>by rw [hb b hm] at h;cases h];simp only [h]
 have hO2n:∀ b,b∉bs→(∀ id,O b≠some (.o id))→O2 b=none:=fun b h1 h2=>by
  show (if b∈bs then _ else _)=_
  rw [if_neg h1]
  split
  ·rename_i id hx;exact absurd hx (h2 id)
  ·rfl
 have hO2:∀ b l,O2 b=some l→∃ l',O b=some l':=fun b l h=>by
  by_cases hm:b∈bs
  ·exact ⟨_,hb b hm⟩
  ·cases hx:O b with
   | some l'=>exact ⟨l',rfl⟩
   | none=>rw [hO2n b hm (by rw [hx];simp)] at h;cases h
 have hKO:∀ b,Y.K b→(∀ id,O b≠some (.o id))∧b∉bs:=fun b hk=>by
  rcases hk with hk|hk|⟨t,hk⟩
  ·exact ⟨fun id h=>(by rw [hs.kO b hk] at h;cases h),fun hm=>by have:=hb b hm;rw [hs.kO b hk] at this;cases this⟩
  ·exact ⟨fun id h=>(hs.own b _ h).2 hk,fun hm=>(hs.own b _ (hb b hm)).2 hk⟩
  ·exact ⟨fun id h=>(by rw [hk] at h;simp at h),fun hm=>by have:=hb b hm;rw [hk] at this;simp at this⟩
 have hmem:Mem P Y H w I μ O2:={
  prot:=fun _ _=>rfl
  kO:=fun b hk=>hO2n b (hKO b hk).2 (hKO b hk).1
  kI:=fun _ _ h=>h
  mono:=fun _ h=>h
  os:=rfl,tape:=rfl,output:=rfl,size:=Nat.le_refl _
  own:=fun b l h=>by obtain ⟨l',h'⟩:=hO2 b l h;exact hs.own b l' h'
  ilt:=hs.ilt,μlen:=hs.μlen,μpre:=fun _ _ _ h=>h,nle:=Nat.le_refl _
  heap:=fun id o' ho'=>by
   obtain ⟨blk,ds,h1,h2,h3,_⟩:=hs.heap id o' ho'
   exact ⟨blk,ds,h1,h2,fun _=>⟨(h3 (by omega)).1,fun b hb'=>hO2o b id ((h3 (by omega)).2 b hb')⟩,fun h=>absurd h (by simp [Y])⟩
  klt:=fun b hk=>by
   rcases hk with hk|hk|⟨t,hk⟩
   ·exact nL (hs.klt b hk) hs.size
   ·exact hs.ilt b hk
   ·exact (hs.own b _ hk).1
  n0le:=Nat.zero_le _}
 refine ⟨Y,O2,rfl,rfl,rfl,rfl,rfl,hmem,fun b hm=>by show (if b∈bs then _ else _)=_;rw [if_pos hm],?_⟩
 intro w' I' μ' O' Hn rs hm hrs
 let On:Nat→Option Loc:=fun b=>if b∈rs then some .r else match O' b with
  | some (.o id)=>some (.o id)
  | _=>match O b with
   | some (.t t)=>some (.t t)
   | _=>none
 have hOt:∀ b t,O b=some (.t t)→On b=some (.t t)∧w'.heap[b]?=w.heap[b]?:=fun b t h=>by
  have hk:Y.K b:=.inr (.inr ⟨t,h⟩)
  have h0:=hm.kO b hk
  refine ⟨?_,hm.prot b hk⟩
  show (if b∈rs then _ else _)=_
  rw [if_neg fun hx=>by obtain ⟨n,hn⟩:=hrs b hx;rw [h0] at hn;cases hn]
  simp only [h0,h]
 have hOo:∀ b id,O' b=some (.o id)→On b=some (.o id):=fun b id h=>by
  show (if b∈rs then _ else _)=_
  rw [if_neg fun hx=>by obtain ⟨n,hn⟩:=hrs b hx;rw [h] at hn;simp at hn]
  simp only [h]
 have hII:∀ b,I b→w'.heap[b]?=w.heap[b]?:=fun b hi=>hm.prot b (.inr (.inl hi))
 have hμ:∀ (i b:Nat),μ[i]?=some b→μ'[i]?=some b:=fun i b h=>hm.μpre i b (by have:=(lS.1 h).1;have:=hs.μlen;simp only [Y];omega) h
 refine ⟨On,⟨{
  prot:=fun b hk=>(hm.prot b (.inl hk)).trans (hs.prot b hk)
  kO:=fun b hk=>by
   have h0:=hm.kO b (.inl hk)
   show (if b∈rs then _ else _)=_
   rw [if_neg fun hx=>by obtain ⟨n,hn⟩:=hrs b hx;rw [h0] at hn;cases hn]
   simp only [h0,hs.kO b hk]
  kI:=fun b hk hi=>hs.kI b hk (hm.kI b (.inl hk) hi)
  mono:=fun b hi=>hm.mono b (hs.mono b hi)
  os:=hm.os.trans hs.os,tape:=hm.tape.trans hs.tape,output:=hm.output.trans hs.output,size:=nT hs.size hm.size
  own:=fun b l hl=>by
   by_cases hx:b∈rs
   ·obtain ⟨n,hn⟩:=hrs b hx
    exact hm.own b _ hn
   ·have hl':(match O' b with
     | some (.o id)=>some (Loc.o id)
     | _=>match O b with
      | some (.t t)=>some (.t t)
      | _=>none)=some l:=by
     have:(if b∈rs then some Loc.r else _)=some l:=hl
     rwa [if_neg hx] at this
    split at hl'
    ·rename_i id h;exact hm.own b _ h
    ·split at hl'
     ·rename_i t h
      refine ⟨nL (hs.own b _ h).1 hm.size,fun hi=>(hs.own b _ h).2 (hm.kI b (.inr (.inr ⟨t,h⟩)) hi)⟩
     ·cases hl'
  ilt:=hm.ilt,μlen:=hm.μlen
  μpre:=fun i b hi h=>hμ i b (hs.μpre i b hi h)
  nle:=nT hs.nle hm.nle
  heap:=fun id o' ho'=>by
   obtain ⟨blk,ds,h1,h2,h3,_⟩:=hm.heap id o' ho'
   exact ⟨blk,ds,h1,h2,fun _=>⟨(h3 (Nat.zero_le _)).1,fun b hb'=>hOo b id ((h3 (Nat.zero_le _)).2 b hb')⟩,fun h=>by omega⟩
  klt:=hs.klt,n0le:=hs.n0le},fun t=>?_,hs.nt,hs.dfs⟩,fun b hx=>by show (if b∈rs then _ else _)=_;rw [if_pos hx]⟩
 have ht:=hs.envr t
 obtain ⟨c1,c2⟩:=HW hc t
 cases hg:get env t with
 | ref p off len =>
  rw [hg] at ht
  obtain ⟨e,xs,A,n,c,g1,g2,g3⟩:=ht
  cases p with
  | t q=>exact ⟨e,xs,A,n,c,g1,g2,g3⟩
  | c id off'=>exact absurd hg (c1 _ _ _ _)
 | ep p i j =>
  rw [hg] at ht
  obtain ⟨e,xs,b,n,c,g1,g2,g3⟩:=ht
  cases p with
  | t q=>exact ⟨e,xs,b,n,c,g1,g2,g3⟩
  | c id off'=>exact absurd hg (c2 _ _ _ _)
 | _ =>
  rw [hg] at ht
  obtain ⟨ds,g1,g2,g3⟩:=ht.plain rfl
  exact .of (g1.keep hm.mono hII hμ fun b hb'=>(hOt b t (g3 b hb')).2) g2 fun b hb'=>(hOt b t (g3 b hb')).1
theorem Sim.argsA (hs:Sim P X env H a w I μ O) : ∀ {xs:List Operand} {avs:List AV},Go.FL.argsA env xs=some avs→ARepAll P w I μ avs (xs.map a.eval) []:=by
 intro xs
 induction xs with
 | nil=>intro avs h;simp [Go.FL.argsA] at h;subst h;exact .nil
 | cons x xs ih =>
  intro avs h
  simp only [Go.FL.argsA] at h
  split at h
  ·rename_i vs h1
   split at h
   ·rename_i h2
    simp only [Bool.and_eq_true,Bool.not_eq_true'] at h2
    simp only [Option.some.injEq] at h
    subst h
    obtain ⟨b1,hb1⟩:=hs.lk h2.2
    have:=noOwn_bs hb1 h2.1
    subst this
    exact .cons hb1 (ih h1)
   ·cases h
  ·cases h
theorem Uh {c:Call} {f:FuncId} (ho:o.op=.call c) (hc:c.callee=.value (.func f)) (hcall:∀ args w,(callFunc f args).run P w=.ok (.enter f args) w) :
  (execOp a.eval o).run P w=.ok (.enter f (c.args.toList.map a.eval).toArray) w:=by
 have hres:(resolve a.eval c o.type).run P w=.ok {target:=.fn (.func f) #[],args:=#[]++c.args.map a.eval} w:=CA hc rfl
 simp only [execOp,ho,Sem.run_bind,hres,Result.andThen_ok,invoke,hcall]
 congr 2
 apply Array.ext';simp
theorem OpOK.callG1 {c:Call} {f:FuncId} {avs:List AV} {r:AV} {s t0:Nat} {xa:List Operand} {e:TypeId} {xs xs':List DV} (ho:o.op=.call c) (hc:c.callee=.value (.func f)) (hx:c.args.toList=.tmp s::xa) (hv:get env s=.ref (.t t0) 0 xs.length) (hp:get env t0=.own e xs)
  (ha:argsA (put env t0 .un) xa=some avs) (hcr:CG (put env t0 .un)=false) (hn0:C.n0=0)
  (hcall:∀ args w,(callFunc f args).run P w=.ok (.enter f args) w) (hfn:FnG P f (.own e xs::avs) H r [.own e xs'] H') (hd:∀ t,o.dst=some t→okT C.nt t)
  (hK:∀ G,K (match o.dst with|some t=>put ((t0,.own e xs')::put env t0 .un) t r|none=>(t0,.own e xs')::put env t0 .un) (H'++G)):OpOK P C o env H K:=by
 intro X a w I μ O next Q h1 h2 h3 hs hn
 refine ⟨fun _ _=>trivial,?_⟩
 rw [Oper.semAt_eq _ _ _ (by simp [ho]),Uh ho hc hcall,Oper.uponIn_enter]
 refine ⟨fun h=>(by simp [om] at h),?_⟩
 have hrs:=hs.envr s
 rw [hv] at hrs
 obtain ⟨e',ys,A,n,cc,g1,g2,g3,A',c',p1,p2,p3,p4⟩:=hrs
 have hee:AV.own e xs=.own e' ys:=hp.symm.trans g1
 cases hee
 obtain ⟨rfl,rfl⟩:=p3 rfl
 simp only [Br,Option.some.injEq] at g2
 obtain ⟨k1,bs,k2,k3,k4⟩:=hs.take t0 (by rw [hp];rfl)
 rw [hp,g2] at k2
 have hnl:n=xs.length:=(FH k2).1
 subst hnl
 have hval:a.eval (.tmp s)=a.tmps.getD t0 undef:=by rw [g2];exact p1
 obtain ⟨Y,O2,y1,y2,y3,y4,y5,ym,yb,yk⟩:=k1.over (by omega) hcr bs k4
 have hargs:ARepAll P w I μ (.own e xs::avs) (c.args.toList.map a.eval) bs:=by
  rw [hx,List.map_cons,hval,g2]
  have:=ARepAll.cons k2 (k1.argsA ha)
  simpa using this
 have hcl:=hfn Y w I μ O2 _ bs y1 y2 y3 y4 y5 ym hargs k3 yb
 refine ⟨trivial,fun csF hroom=>?_⟩
 obtain ⟨e',w',fr,⟨v,I',μ',O',G,rs,bs',rfl,q1,q2,q3,q4,q5⟩,s',x⟩:=hcl.2 csF (room_wide _)
 refine ⟨.returned v,w',fr,?_,s',x⟩
 obtain ⟨On,m1,m2⟩:=yk q1 (rs:=rs++bs') q5
 obtain ⟨n1,n2,n3⟩:=List.nodup_append.1 q4
 have hq3:ARep P w' I' μ' (.own e xs') (a.tmps.getD t0 undef) bs':=by
  rw [hx,List.map_cons,hval] at q3
  simp only [List.length_cons,List.length_nil,Nat.zero_add,List.take_succ_cons,List.take_zero] at q3
  cases q3 with
  | cons h t=>cases t;simpa using h
 have j1:=m1.adopt hq3 n2 (fun b hb=>m2 b (by simp [hb])) (by simp [put,get,Am])
 have hh:Hand P w' I' μ' (fun b=>if b∈bs' then some (.t t0) else On b) r v:=⟨rs,q2,n1,fun b hb=>by show (if b∈bs' then _ else _)=_;rw [if_neg fun hm=>n3 b hb b hm rfl];exact m2 b (by simp [hb])⟩
 show next (a.put o.dst v) w'
 have hK:=hK G
 cases hdst:o.dst with
 | none=>exact hn _ _ _ _ _ _ _ j1 (by rw [hdst] at hK;exact hK)
 | some t=>exact hn _ _ _ _ _ _ _ (j1.put_hand (by rw [h1];exact hd t hdst) hh) (by rw [hdst] at hK;exact hK)
end
end Go.FL
namespace Go.FL
open Go Go.RowKit
section
variable {P:Program} {C:Cx} {X:Snap} {o:Oper} {ops:Array Oper} {Q:Exit→Env→Ad→Prop} {env env' envi:Env} {H H' H1:Ad} {a:Act} {w w':World} {I I':Nat→Prop} {μ μ':List Nat} {O O':Nat→Option Loc}
 {K:Env→Ad→Prop} {k:Nat} {l:List Oper} {av:AV}
theorem Wo {m:Nat} {env0:Env} {tv:List (Nat×AV)} (hdr:∀ (i:Nat) o,i<m→ops[i]?=some o→∀ j,j<m→∃ oj t,ops[j]?=some oj∧oj.dst=some t∧(t∈o.looksAt ops→j<i∧G6 ops i j=true)) (hlen:tv.length=m) (hle:m≤ops.size)
  (hone:∀ i,i<m→∃ o t v,ops[i]?=some o∧tv[i]?=some (t,v)∧QZ P C ops H env0 (tv.take i).reverse o t v) (hdist:∀ (i j t:Nat) v u,tv[i]?=some (t,v)→tv[j]?=some (t,u)→i=j)
  (n1:X.nt=C.nt) (n2:X.n0=C.n0) (n3:X.ne=C.ne) {L:Array Bool} (hL:L.size=ops.size) {i:Nat} (him:i<m) (hi:i∈Region.ready .any ops L) {QQ:Exit→Act→World→Prop} {N:Act→World→Prop}
  (hs:Sim P X (Ez tv env0 L) H a w I μ O) (hN:∀ a' w' I' O',Sim P X (Ez tv env0 (L.setIfInBounds i true)) H a' w' I' μ O'→N a' w'):wpOpIn (om C.ro) 0 P ops QQ i N a w:=by
 obtain ⟨h1,o,ho,h2⟩:=mem_ready.1 hi
 have hlt:=(Array.getElem?_eq_some_iff.1 ho).1
 rw [Dm (by omega)] at h1
 obtain ⟨o',t,v,ho',htv,hd,htn,h0t,hnt,hself,hrk,hrun⟩:=hone i him
 rw [ho] at ho';cases ho'
 -- what it looks at is known
 have hdir:∀ (j s:Nat) u,tv[j]?=some (s,u)→s∈o.looksAt ops→L.getD j false=true:=fun j s u hj hm=>by
  have hjm:j<m:=by have:=(lS.1 hj).1;omega
  obtain ⟨oj,tj,q1,q2,q3⟩:=hdr i o him ho j hjm
  obtain ⟨oj',tj',vj',r1,r2,r3⟩:=hone j hjm
  rw [q1] at r1;cases r1
  rw [hj] at r2;cases r2
  have:tj=s:=by have:=r3.1;rw [q2] at this;exact oI this
  subst this
  obtain ⟨o2,ho2,e,he,hb,rfl⟩:=GN (q3 hm).2
  rw [ho] at ho2;cases ho2
  exact h2 e he hb
 have hle1:∀ s,get (BJ (o.looksAt ops) (tv.take i).reverse++env0) s=.un∨get (BJ (o.looksAt ops) (tv.take i).reverse++env0) s=get (Ez tv env0 L) s:=fun s=>by
  rw [Bt]
  split
  ·rename_i hc
   obtain ⟨x,hx,rfl⟩:=List.mem_map.1 (List.contains_iff_mem.1 hc)
   have hx':=List.mem_filter.1 hx
   have hin:=List.mem_reverse.1 hx'.1
   obtain ⟨j,hj⟩:=List.getElem?_of_mem (List.mem_of_mem_take hin)
   have hlk:x.1∈o.looksAt ops:=List.contains_iff_mem.1 hx'.2
   refine .inr ?_
   rw [Ch hdist (hdir j x.1 x.2 hj hlk) hj]
   refine ER hx fun u hu=>?_
   have hu':=List.mem_reverse.1 (List.mem_filter.1 hu).1
   obtain ⟨j',hj'⟩:=List.getElem?_of_mem (List.mem_of_mem_take hu')
   have:=hdist j j' x.1 x.2 u hj hj'
   subst this
   rw [hj] at hj'
   simp only [Option.some.injEq] at hj'
   rw [hj']
  ·by_cases hex:∃ (j:Nat) (u:AV),tv[j]?=some (s,u)
   ·obtain ⟨j,u,hj⟩:=hex
    have hjm:j<m:=by have:=(lS.1 hj).1;omega
    obtain ⟨oj,tj,vj,_,r2,r3⟩:=hone j hjm
    rw [hj] at r2;cases r2
    exact .inl r3.2.2.1
   ·exact .inr (BT fun j u _ hj=>hex ⟨j,u,hj⟩).symm
 have hkn:∀ s,Am (get (BJ (o.looksAt ops) (tv.take i).reverse++env0) s)=true→get (BJ (o.looksAt ops) (tv.take i).reverse++env0) s=get (Ez tv env0 L) s:=fun s hs=>by
  rcases hle1 s with h|h
  ·rw [h] at hs;cases hs
  ·exact h
 have hle2:∀ s q off len,get (BJ (o.looksAt ops) (tv.take i).reverse++env0) s=.ref (.t q) off len→get (BJ (o.looksAt ops) (tv.take i).reverse++env0) q=get (Ez tv env0 L) q:=fun s q off len h=>by
  have:=List.all_eq_true.1 hrk _ (FE h (by simp))
  exact hkn q (by simpa using this)
 have hle3:∀ s q x y,get (BJ (o.looksAt ops) (tv.take i).reverse++env0) s=.ep (.t q) x y→get (BJ (o.looksAt ops) (tv.take i).reverse++env0) q=get (Ez tv env0 L) q:=fun s q x y h=>by
  have:=List.all_eq_true.1 hrk _ (FE h (by simp))
  exact hkn q (by simpa using this)
 have htL:get (Ez tv env0 L) t=.un:=by
  rw [BT fun j u hl hj=>by
   have:=hdist i j t v u htv hj
   subst this;rw [h1] at hl;cases hl]
  exact h0t
 have hsi:=hs.less hle1 hle2 hle3
 have hnext:∀ a' w' I' O',Sim P X ((t,v)::Ez tv env0 L) H a' w' I' μ O'→N a' w':=fun a' w' I' O' hs'=>by
  refine hN a' w' I' O' (hs'.same fun s=>?_)
  ·simp only [get]
   split
   ·rename_i hts;subst hts
    exact Ch hdist (by rw [AG (by omega),if_pos rfl]) htv
   ·rename_i hts
    by_cases hex:∃ (j:Nat) (u:AV),L.getD j false=true∧tv[j]?=some (s,u)
    ·obtain ⟨j,u,hj1,hj2⟩:=hex
     rw [Ch hdist hj1 hj2]
     exact Ch hdist (by rw [AG (by omega)];split<;>first|rfl|exact hj1) hj2
    ·rw [BT fun j u hl hj=>hex ⟨j,u,hl,hj⟩]
     refine BT fun j u hl hj=>?_
     rw [AG (by omega)] at hl
     split at hl
     ·rename_i hij;subst hij
      rw [htv] at hj;cases hj;exact hts rfl
     ·exact hex ⟨j,u,hl,hj⟩
 unfold wpOpIn
 simp only [ho]
 rcases hrun with ⟨hg,hv⟩|⟨hg,hv⟩
 ·rw [if_pos (Il hsi hg)]
  refine hv.step hd htn hle1 hle2 hle3 (by rw [htL];rfl) (fun p hp e=>?_) n1 n2 n3 hs hnext
  subst e
  rcases hp with ⟨off,len,rfl⟩|⟨x,y,rfl⟩<;>simp [Io] at hself
 ·have:=Il hsi hg
  rw [if_neg (by rw [this];simp)]
  refine ⟨fun _ _=>trivial,?_⟩
  rw [hd]
  rcases hv with rfl|rfl
  ·have hp:=hs.put_un t (by rw [n1];exact htn) undef
   rw [Al (by rw [htL];rfl)] at hp
   exact hnext _ _ _ _ hp
  ·have hp:=hs.put_hand (t:=t) (by rw [n1];exact htn) (av:=.tup []) (v:=undef) ⟨[],.tup .nil,nN,by simp⟩
   rw [Al (by rw [htL];rfl)] at hp
   exact hnext _ _ _ _ hp
def Jo (ops:Array Oper) (m:Nat) (F:List Nat) : Bool :=
 ((List.range ops.size).all fun i=>match ops[i]? with
  | some o=>o.after.all (fun e=>!Region.binds .any e||decide (e.on<i))&&(match o.op with|.select ..=>false|_=>true) &&
   (if i<m then (List.range m).all fun j=>match ops[j]? with
     | some oj=>match oj.dst with
      | some t=>!(o.looksAt ops).contains t||(decide (j<i)&&G6 ops i j)
      | none=>false
     | none=>false
    else if i=m then (List.range m).all fun j=>F.contains j||IX ops i i j
    else (List.range i).all fun j=>IX ops i i j)
  | none=>false)&&decide (m<ops.size)&&o_guardNone ops m
where o_guardNone (ops:Array Oper) (m:Nat) : Bool:=match ops[m]? with
 | some o=>o.guard.isNone
 | none=>false
theorem JL {m:Nat} {F:List Nat} (h:Jo ops m F=true) : m<ops.size∧(∃ o,ops[m]?=some o∧o.guard=none)∧∀ (i:Nat) o,ops[i]?=some o →
  (∀ e∈o.after,Region.binds .any e=true→e.on<i) ∧
  (i<m→∀ j,j<m→∃ oj t,ops[j]?=some oj∧oj.dst=some t∧(t∈o.looksAt ops→j<i∧G6 ops i j=true))∧(i=m→∀ j,j<i→j∈F∨IX ops i i j=true)∧(m<i→∀ j,j<i→IX ops i i j=true):=by
 unfold Jo at h
 simp only [Bool.and_eq_true,decide_eq_true_eq] at h
 obtain ⟨⟨h,hm⟩,hg⟩:=h
 refine ⟨hm,?_,fun i o ho=>?_⟩
 ·unfold Jo.o_guardNone at hg
  split at hg
  ·rename_i o ho;exact ⟨o,ho,by simpa using hg⟩
  ·cases hg
 have hi:i<ops.size:=(Array.getElem?_eq_some_iff.1 ho).1
 have:=List.all_eq_true.1 h i (List.mem_range.2 hi)
 rw [ho] at this
 simp only [Bool.and_eq_true] at this
 obtain ⟨⟨h1,_⟩,h3⟩:=this
 refine ⟨fun e he hb=>?_,fun him j hj=>?_,fun him j hj=>?_,fun him j hj=>?_⟩
 ·obtain ⟨k,hk,rfl⟩:=Array.mem_iff_getElem.1 he
  have:=Array.all_eq_true.1 h1 k hk
  rw [hb] at this
  simpa using this
 ·rw [if_pos him] at h3
  have:=List.all_eq_true.1 h3 j (List.mem_range.2 hj)
  split at this
  ·rename_i oj hoj
   split at this
   ·rename_i t ht
    refine ⟨oj,t,hoj,ht,fun hm=>?_⟩
    have hc:(o.looksAt ops).contains t=true:=List.contains_iff_mem.2 hm
    rw [hc] at this
    simpa using this
   ·cases this
  ·cases this
 ·rw [if_neg (by omega),if_pos him] at h3
  have:=List.all_eq_true.1 h3 j (List.mem_range.2 (by omega))
  simpa using this
 ·rw [if_neg (by omega),if_neg (by omega)] at h3
  exact List.all_eq_true.1 h3 j (List.mem_range.2 hj)
def Yc (P:Program) (C:Cx) (ops:Array Oper) (H1:Ad) (env0 upd:Env) (tv:List (Nat×AV)) (i:Nat) : Prop :=
 ∃ o t v,ops[i]?=some o∧tv[i]?=some (t,v)∧o.guard=none∧o.dst=some t∧(upd.map (·.1)).contains t=false∧DM (upd++(BJ (o.looksAt ops) (tv.take i).reverse++env0))=true∧VOK P C o (upd++(BJ (o.looksAt ops) (tv.take i).reverse++env0)) H1 v
theorem WD (upd e e':Env) (h:∀ t,get e t=get e' t) (t:Nat) : get (upd++e) t=get (upd++e') t:=by
 rw [Bt,Bt,h]
theorem Yj {m:Nat} {F:List Nat} {env0 upd:Env} {tv:List (Nat×AV)} (hok:Jo ops m F=true) (hlen:tv.length=m) (hone:∀ i,i<m→∃ o t v,ops[i]?=some o∧tv[i]?=some (t,v)∧QZ P C ops H env0 (tv.take i).reverse o t v)
  (hdist:∀ (i j t:Nat) v u,tv[i]?=some (t,v)→tv[j]?=some (t,u)→i=j) (hF:∀ i∈F,Yc P C ops H1 env0 upd tv i) (hrk:DM (upd++env0)=true) (hsuf:RL P C ops Q (m+1) (ops.toList.drop (m+1)) (upd++(tv.reverse++env0)) H1)
  (n1:X.nt=C.nt) (n2:X.n0=C.n0) (n3:X.ne=C.ne):∀ (fuel:Nat) (L:Array Bool) (a:Act) (w:World) (I:Nat→Prop) (O:Nat→Option Loc),L.size=ops.size→UL ops L→L.getD m false=true→(∀ j,m<j→L.getD j false=false)→(∀ j,j<m→j∉F→L.getD j false=true) →
   (List.range m).countP (fun i=>!L.getD i false)+(ops.size-(m+1))≤fuel→Sim P X (upd++Ez tv env0 L) H1 a w I μ O→wpAnyIn (om C.ro) 0 P .any ops (Post P X Q) fuel L a w:=by
 obtain ⟨hm,_,hat⟩:=JL hok
 have fin:∀ (fuel:Nat) (L:Array Bool) (a:Act) (w:World) (I:Nat→Prop) (O:Nat→Option Loc),L.size=ops.size→L.getD m false=true→(∀ j,m<j→L.getD j false=false)→(∀ j,j<m→L.getD j false=true)→ops.size-(m+1)≤fuel →
   Sim P X (upd++Ez tv env0 L) H1 a w I μ O→wpAnyIn (om C.ro) 0 P .any ops (Post P X Q) fuel L a w:=by
  intro fuel L a w I O hL hmL hup hall hf hs
  refine Xv (m:=m+1) (fun i o ho=>(hat i o ho).1) (fun i o ho hi=>(hat i o ho).2.2.2 (by omega)) (ops.size-(m+1)) (m+1) fuel L a w (Nat.le_refl _) (by omega) hf hL (fun j hj=>⟨fun h=>?_,fun h=>?_⟩) ?_
  ·rcases Nat.lt_or_ge m j with hx|hx
   ·rw [hup j hx] at h;cases h
   ·omega
  ·rcases Nat.lt_or_ge j m with hx|hx
   ·exact hall j hx
   ·have:j=m:=by omega
    subst this;exact hmL
  have hs':=hs.same (env':=upd++(tv.reverse++env0)) fun t=>WD upd _ _ (fun t=>by
   by_cases hex:∃ (i:Nat) (v:AV),tv[i]?=some (t,v)
   ·obtain ⟨i,v,hi⟩:=hex
    rw [Ch hdist (hall i (by have:=(lS.1 hi).1;omega)) hi]
    have hmem:(t,v)∈tv.reverse:=List.mem_reverse.2 (List.mem_of_getElem? hi)
    rw [Bt,if_pos (List.contains_iff_mem.2 (List.mem_map_of_mem (f:=(·.1)) hmem))]
    refine ER hmem fun u hu=>?_
    obtain ⟨j,hj⟩:=List.getElem?_of_mem (List.mem_reverse.1 hu)
    have:=hdist i j t v u hi hj
    subst this
    rw [hi] at hj;simp only [Option.some.injEq,Prod.mk.injEq,true_and] at hj;exact hj.symm
   ·rw [BT fun i v _ hi=>hex ⟨i,v,hi⟩,Bt,if_neg]
    intro hc
    obtain ⟨x,hx,rfl⟩:=List.mem_map.1 (List.contains_iff_mem.1 hc)
    obtain ⟨i,hi⟩:=List.getElem?_of_mem (List.mem_reverse.1 hx)
    exact hex ⟨i,x.2,hi⟩) t
  have:=hsuf rfl X a w I μ O n1 n2 n3 hs'
  rw [List.length_drop,Array.length_toList] at this
  exact this
 intro fuel
 induction fuel with
 | zero =>
  intro L a w I O hL hD hmL hup hA hf hs
  refine fin 0 L a w I O hL hmL hup (fun j hj=>?_) (by omega) hs
  cases hv:L.getD j false with
  | true=>rfl
  | false =>
   have:0<(List.range m).countP (fun i=>!L.getD i false):=List.countP_pos_iff.2 ⟨j,List.mem_range.2 hj,by rw [hv];rfl⟩
   omega
 | succ fuel ih =>
  intro L a w I O hL hD hmL hup hA hf hs
  by_cases hall:∀ j,j<m→L.getD j false=true
  ·exact fin _ L a w I O hL hmL hup hall (by omega) hs
  obtain ⟨j0,⟨hj0,hj1⟩,hmin⟩:∃ j,(j<m∧L.getD j false=false)∧∀ k,k<j→L.getD k false=true:=by
   have hex:∃ j,j<m∧L.getD j false=false:=by
    apply Classical.byContradiction
    intro hno
    refine hall fun j hj=>?_
    cases hv:L.getD j false with
    | true=>rfl
    | false=>exact absurd ⟨j,hj,hv⟩ hno
   obtain ⟨j,hj⟩:=hex
   induction j using Nat.strongRecOn with
   | ind j ihj =>
    by_cases hk:∃ k,k<j∧L.getD k false=false
    ·obtain ⟨k,hk1,hk2⟩:=hk
     exact ihj k hk1 ⟨by omega,hk2⟩
    ·refine ⟨j,hj,fun k hk1=>?_⟩
     cases hv:L.getD k false with
     | true=>rfl
     | false=>exact absurd ⟨k,hk1,hv⟩ hk
  have hr0:j0∈Region.ready .any ops L:=mem_ready.2 ⟨by rw [Dm (by omega)];exact hj1,_,Array.getElem?_eq_getElem (by omega),fun e he hb=>hmin _ ((hat j0 _ (Array.getElem?_eq_getElem (by omega))).1 e he hb)⟩
  refine ⟨fun h0=>(by rw [h0] at hr0;cases hr0),fun i hi=>?_⟩
  obtain ⟨h1,o,ho,h2⟩:=mem_ready.1 hi
  have hlt:=(Array.getElem?_eq_some_iff.1 ho).1
  rw [Dm (by omega)] at h1
  have him:i<m:=by
   rcases Nat.lt_or_ge i m with hx|hx
   ·exact hx
   ·have hne:i≠m:=fun e=>by rw [e,hmL] at h1;cases h1
    have:=Gu hD _ _ _ ((hat i o ho).2.2.2 (by omega) j0 (by omega)) fun o' ho' e he hb=>by rw [ho] at ho';cases ho';exact h2 e he hb
    rw [hj1] at this;cases this
  have hiF:i∈F:=by
   apply Classical.byContradiction
   intro h;rw [hA i him h] at h1;cases h1
  obtain ⟨o',t,v,ho',htv,hg,hd,hnu,hrk3,hv⟩:=hF i hiF
  rw [ho] at ho';cases ho'
  obtain ⟨o2,t2,v2,ho2,htv2,hd2,htn,h0t,hnt,hself,hrk2,hrun⟩:=hone i him
  rw [ho] at ho2;cases ho2
  rw [htv] at htv2
  simp only [Option.some.injEq,Prod.mk.injEq] at htv2
  obtain ⟨rfl,rfl⟩:=htv2
  have hdir:∀ (j s:Nat) u,tv[j]?=some (s,u)→s∈o.looksAt ops→L.getD j false=true:=fun j s u hj hmm=>by
   have hjm:j<m:=by have:=(lS.1 hj).1;omega
   obtain ⟨oj,tj,q1,q2,q3⟩:=(hat i o ho).2.1 him j hjm
   obtain ⟨oj',tj',vj',r1,r2,r3⟩:=hone j hjm
   rw [q1] at r1;cases r1
   rw [hj] at r2;cases r2
   have:tj=s:=by have:=r3.1;rw [q2] at this;exact oI this
   subst this
   obtain ⟨o2,ho2,e,he,hb,rfl⟩:=GN (q3 hmm).2
   rw [ho] at ho2;cases ho2
   exact h2 e he hb
  have hle1:∀ s,get (upd++(BJ (o.looksAt ops) (tv.take i).reverse++env0)) s=.un∨get (upd++(BJ (o.looksAt ops) (tv.take i).reverse++env0)) s=get (upd++Ez tv env0 L) s:=fun s=>by
   rw [Bt,Bt (e:=upd)]
   split
   ·exact .inr rfl
   ·rw [Bt]
    split
    ·rename_i hc
     obtain ⟨x,hx,rfl⟩:=List.mem_map.1 (List.contains_iff_mem.1 hc)
     have hx':=List.mem_filter.1 hx
     have hin:=List.mem_reverse.1 hx'.1
     obtain ⟨j,hj⟩:=List.getElem?_of_mem (List.mem_of_mem_take hin)
     have hlk:x.1∈o.looksAt ops:=List.contains_iff_mem.1 hx'.2
     refine .inr ?_
     rw [Ch hdist (hdir j x.1 x.2 hj hlk) hj]
     refine ER hx fun u hu=>?_
     have hu':=List.mem_reverse.1 (List.mem_filter.1 hu).1
     obtain ⟨j',hj'⟩:=List.getElem?_of_mem (List.mem_of_mem_take hu')
     have:=hdist j j' x.1 x.2 u hj hj'
     subst this
     rw [hj] at hj'
     simp only [Option.some.injEq] at hj'
     rw [hj']
    ·by_cases hex:∃ (j:Nat) (u:AV),tv[j]?=some (s,u)
     ·obtain ⟨j,u,hj⟩:=hex
      obtain ⟨oj,tj,vj,_,r2,r3⟩:=hone j (by have:=(lS.1 hj).1;omega)
      rw [hj] at r2;cases r2
      exact .inl r3.2.2.1
     ·exact .inr (BT fun j u _ hj=>hex ⟨j,u,hj⟩).symm
  have hkn:∀ s,Am (get (upd++(BJ (o.looksAt ops) (tv.take i).reverse++env0)) s)=true→get (upd++(BJ (o.looksAt ops) (tv.take i).reverse++env0)) s=get (upd++Ez tv env0 L) s:=fun s hs=>by
   rcases hle1 s with h|h
   ·rw [h] at hs;cases hs
   ·exact h
  have htL:get (Ez tv env0 L) t=.un:=by
   rw [BT fun j u hl hj=>by
    have:=hdist i j t v u htv hj
    subst this;rw [h1] at hl;cases hl]
   exact h0t
  have htL2:get (upd++Ez tv env0 L) t=.un:=by rw [Bt,if_neg (by rw [hnu];simp)];exact htL
  unfold wpOpIn
  simp only [ho]
  rw [if_pos (by simp [Region.wanted,hg])]
  refine hv.step hd htn hle1 (fun s q off len h=>?_) (fun s q x y h=>?_) (by rw [htL2];rfl) (fun p hp e=>?_) n1 n2 n3 hs fun a' w' I' O' hs'=>?_
  ·have:=List.all_eq_true.1 hrk3 _ (FE h (by simp))
   exact hkn q (by simpa using this)
  ·have:=List.all_eq_true.1 hrk3 _ (FE h (by simp))
   exact hkn q (by simpa using this)
  ·subst e
   rcases hp with ⟨off,len,rfl⟩|⟨x,y,rfl⟩<;>simp [Io] at hself
  refine ih _ a' w' I' O' (by simpa using hL) (fun k ok hk hok' e he hb=>?_) (by rw [AG (by omega)];split<;>first|rfl|exact hmL) (fun j hj=>?_) (fun j hj hjF=>?_) ?_ (hs'.same fun s=>?_)
  ·rw [AG (by omega)] at hk ⊢
   split at hk
   ·rename_i hik;subst hik
    rw [ho] at hok';cases hok'
    split
    ·rfl
    ·exact h2 e he hb
   ·split
    ·rfl
    ·exact hD k ok hk hok' e he hb
  ·rw [AG (by omega),if_neg (by omega)];exact hup j hj
  ·rw [AG (by omega)]
   split
   ·rfl
   ·exact hA j hj hjF
  ·have:=JJ (fun i=>!L.getD i false) (fun k=>!(L.setIfInBounds i true).getD k false) i (by simp only [h1];rfl) (by simp only [AG (by omega:i<L.size),if_true];rfl)
    (fun j hj=>by simp only [AG (by omega:i<L.size)];rw [if_neg (Ne.symm hj)]) (List.range m) (List.mem_range.2 him) List.nodup_range
   omega
  ·simp only [get]
   rw [Bt,Bt]
   by_cases hts:t=s
   ·subst hts
    rw [if_pos rfl,if_neg (by rw [hnu];simp)]
    exact Ch hdist (by rw [AG (by omega),if_pos rfl]) htv
   ·rw [if_neg hts]
    split
    ·rfl
    ·by_cases hex:∃ (j:Nat) (u:AV),L.getD j false=true∧tv[j]?=some (s,u)
     ·obtain ⟨j,u,hj1,hj2⟩:=hex
      rw [Ch hdist hj1 hj2]
      exact Ch hdist (by rw [AG (by omega)];split<;>first|rfl|exact hj1) hj2
     ·rw [BT fun j u hl hj=>hex ⟨j,u,hl,hj⟩]
      refine BT fun j u hl hj=>?_
      rw [AG (by omega)] at hl
      split at hl
      ·rename_i hij;subst hij
       rw [htv] at hj;cases hj;exact hts rfl
      ·exact hex ⟨j,u,hl,hj⟩
theorem YH {m:Nat} {F:List Nat} {env0 upd:Env} {tv:List (Nat×AV)} (hok:Jo ops m F=true) (hlen:tv.length=m) (hone:∀ i,i<m→∃ o t v,ops[i]?=some o∧tv[i]?=some (t,v)∧QZ P C ops H env0 (tv.take i).reverse o t v)
  (hdist:∀ (i j t:Nat) v u,tv[i]?=some (t,v)→tv[j]?=some (t,u)→i=j) (hF:∀ i∈F,Yc P C ops H1 env0 upd tv i) (hrk:DM (upd++env0)=true)
  (hst:∀ om e,ops[m]?=some om→(∀ t,(∀ i∈F,∀ v,tv[i]?≠some (t,v))→get e t=get (tv.reverse++env0) t)→OpOK P C om e H fun e' H'=>e'=upd++e∧H'=H1)
  (hsuf:RL P C ops Q (m+1) (ops.toList.drop (m+1)) (upd++(tv.reverse++env0)) H1)
  (n1:X.nt=C.nt) (n2:X.n0=C.n0) (n3:X.ne=C.ne):∀ (fuel:Nat) (L:Array Bool) (a:Act) (w:World) (I:Nat→Prop) (O:Nat→Option Loc),L.size=ops.size→UL ops L→(∀ j,m≤j→L.getD j false=false) →
   (List.range m).countP (fun i=>!L.getD i false)+(ops.size-m)≤fuel→Sim P X (Ez tv env0 L) H a w I μ O→wpAnyIn (om C.ro) 0 P .any ops (Post P X Q) fuel L a w:=by
 obtain ⟨hm,⟨om',hom,hog⟩,hat⟩:=JL hok
 intro fuel
 induction fuel with
 | zero=>intro L a w I O hL hD hup hf hs;omega
 | succ fuel ih =>
  intro L a w I O hL hD hup hf hs
  -- the least that is not listed, up to the store
  obtain ⟨j0,⟨hj0,hj1⟩,hmin⟩:∃ j,(j≤m∧L.getD j false=false)∧∀ k,k<j→L.getD k false=true:=by
   have hex:∃ j,j≤m∧L.getD j false=false:=⟨m,Nat.le_refl _,hup m (Nat.le_refl _)⟩
   obtain ⟨j,hj⟩:=hex
   induction j using Nat.strongRecOn with
   | ind j ihj =>
    by_cases hk:∃ k,k<j∧L.getD k false=false
    ·obtain ⟨k,hk1,hk2⟩:=hk
     exact ihj k hk1 ⟨by omega,hk2⟩
    ·refine ⟨j,hj,fun k hk1=>?_⟩
     cases hv:L.getD k false with
     | true=>rfl
     | false=>exact absurd ⟨k,hk1,hv⟩ hk
  have hr0:j0∈Region.ready .any ops L:=mem_ready.2 ⟨by rw [Dm (by omega)];exact hj1,_,Array.getElem?_eq_getElem (by omega),fun e he hb=>hmin _ ((hat j0 _ (Array.getElem?_eq_getElem (by omega))).1 e he hb)⟩
  refine ⟨fun h0=>(by rw [h0] at hr0;cases hr0),fun i hi=>?_⟩
  obtain ⟨h1,o,ho,h2⟩:=mem_ready.1 hi
  have hlt:=(Array.getElem?_eq_some_iff.1 ho).1
  rw [Dm (by omega)] at h1
  have hpred:∀ o',ops[i]?=some o'→∀ e∈o'.after,Region.binds .any e=true→L.getD e.on false=true:=fun o' ho' e he hb=>by rw [ho] at ho';cases ho';exact h2 e he hb
  rcases Nat.lt_trichotomy i m with him|him|him
  ·refine Wo (fun i o hi ho=>(hat i o ho).2.1 hi) hlen (by omega) hone hdist n1 n2 n3 hL him hi hs fun a' w' I' O' hs'=>?_
   refine ih _ a' w' I' O' (by simpa using hL) (fun k ok hk hok' e he hb=>?_) (fun j hj=>?_) ?_ hs'
   ·rw [AG (by omega)] at hk ⊢
    split at hk
    ·rename_i hik;subst hik
     rw [ho] at hok';cases hok'
     split
     ·rfl
     ·exact h2 e he hb
    ·split
     ·rfl
     ·exact hD k ok hk hok' e he hb
   ·rw [AG (by omega),if_neg (by omega)];exact hup j hj
   ·have:=JJ (fun i=>!L.getD i false) (fun k=>!(L.setIfInBounds i true).getD k false) i (by simp only [h1];rfl) (by simp only [AG (by omega:i<L.size),if_true];rfl)
     (fun j hj=>by simp only [AG (by omega:i<L.size)];rw [if_neg (Ne.symm hj)]) (List.range m) (List.mem_range.2 him) List.nodup_range
    omega
  ·subst him
   have hA:∀ j,j<i→j∉F→L.getD j false=true:=fun j hj hjF=>by
    rcases (hat i o ho).2.2.1 rfl j hj with h|h
    ·exact absurd h hjF
    ·exact Gu hD _ _ _ h hpred
   have hev:∀ t,(∀ i∈F,∀ v,tv[i]?≠some (t,v))→get (Ez tv env0 L) t=get (tv.reverse++env0) t:=fun t ht=>by
    by_cases hex:∃ (j:Nat) (v:AV),tv[j]?=some (t,v)
    ·obtain ⟨j,v,hj⟩:=hex
     have hjF:j∉F:=fun h=>ht j h v hj
     rw [Ch hdist (hA j (by have:=(lS.1 hj).1;omega) hjF) hj]
     have hmem:(t,v)∈tv.reverse:=List.mem_reverse.2 (List.mem_of_getElem? hj)
     rw [Bt,if_pos (List.contains_iff_mem.2 (List.mem_map_of_mem (f:=(·.1)) hmem))]
     refine (ER hmem fun u hu=>?_).symm
     obtain ⟨j',hj'⟩:=List.getElem?_of_mem (List.mem_reverse.1 hu)
     have:=hdist j j' t v u hj hj'
     subst this
     rw [hj] at hj';simp only [Option.some.injEq,Prod.mk.injEq,true_and] at hj';exact hj'.symm
    ·rw [BT fun j v _ hj=>hex ⟨j,v,hj⟩,Bt,if_neg]
     intro hc
     obtain ⟨x,hx,rfl⟩:=List.mem_map.1 (List.contains_iff_mem.1 hc)
     obtain ⟨j,hj⟩:=List.getElem?_of_mem (List.mem_reverse.1 hx)
     exact hex ⟨j,x.2,hj⟩
   rw [hom] at ho;cases ho
   unfold wpOpIn
   simp only [hom]
   rw [if_pos (by simp [Region.wanted,hog])]
   refine hst om' _ hom hev X a w I μ O _ _ n1 n2 n3 hs fun env' H' a' w' I' μ' O' hs' hK=>?_
   obtain ⟨rfl,rfl⟩:=hK
   have heL:Ez tv env0 (L.setIfInBounds i true)=Ez tv env0 L:=by
    have hfm:∀ (l:List Nat),(∀ j∈l,j<i)→l.filterMap (fun j=>if (L.setIfInBounds i true).getD j false=true then tv[j]? else none)=l.filterMap fun j=>if L.getD j false=true then tv[j]? else none:=by
     intro l
     induction l with
     | nil=>intro _;rfl
     | cons x l ihl =>
      intro hx
      have:=hx x (by simp)
      have e1:=AG (L:=L) (i:=i) (j:=x) (by omega)
      rw [if_neg (by omega)] at e1
      simp only [List.filterMap_cons,e1,ihl fun j hj=>hx j (by simp [hj])]
    unfold Ez
    rw [hfm _ fun j hj=>by have:=List.mem_range.1 hj;omega]
   rw [← heL] at hs'
   refine Yj hok hlen hone hdist hF hrk hsuf n1 n2 n3 fuel _ a' w' I' O' (by simpa using hL) (fun k ok hk hok' e he hb=>?_) (by rw [AG (by omega),if_pos rfl]) (fun j hj=>?_) (fun j hj hjF=>?_) ?_ hs'
   ·rw [AG (by omega)] at hk ⊢
    split at hk
    ·rename_i hik;subst hik
     rw [hom] at hok';cases hok'
     split
     ·rfl
     ·exact h2 e he hb
    ·split
     ·rfl
     ·exact hD k ok hk hok' e he hb
   ·rw [AG (by omega),if_neg (by omega)];exact hup j (by omega)
   ·rw [AG (by omega),if_neg (by omega)];exact hA j hj hjF
   ·have:(List.range i).countP (fun k=>!(L.setIfInBounds i true).getD k false)=(List.range i).countP (fun k=>!L.getD k false):=List.countP_congr fun j hj=>by
     have:=List.mem_range.1 hj
     rw [AG (by omega),if_neg (by omega)]
    omega
  ·exfalso
   have:=Gu hD _ _ _ ((hat i o ho).2.2.2 him m him) hpred
   rw [hup m (Nat.le_refl _)] at this;cases this
theorem AW.drawnF {id:Nat} (m:Nat) (F:List Nat) {env0:Env} (upd:Env) (H1:Ad) (hm:P.follows .mixedOrders=true) (hok:Jo ops m F=true) (hrk:DM (upd++env0)=true)
  (h:DK P C ops H env0 [] (ops.toList.take m) fun fin=>(∀ i∈F,Yc P C ops H1 env0 upd fin.reverse i) ∧
   (∀ om e,ops[m]?=some om→(∀ t,(∀ i∈F,∀ v,fin.reverse[i]?≠some (t,v))→get e t=get (fin++env0) t)→OpOK P C om e H fun e' H'=>e'=upd++e∧H'=H1) ∧
   RL P C ops Q (m+1) (ops.toList.drop (m+1)) (upd++(fin++env0)) H1):AW P C (.region id ops true) Q env0 H:=fun X a w I μ O n1 n2 n3 hs=>by
 obtain ⟨fin,hDL,hF,hst,hsuf⟩:=h
 obtain ⟨tv,k1,k2,k3⟩:=hDL.table
 rw [List.append_nil] at k2
 subst k2
 rw [List.reverse_reverse] at hF hst
 obtain ⟨hle,_,_⟩:=JL hok
 have hlen:tv.length=m:=by rw [k1];simp;omega
 refine wpIn_region_any hm ?_
 have hz:∀ j,(Array.replicate ops.size false).getD j false=false:=fun j=>by
  simp only [Array.getD_eq_getD_getElem?,Array.getElem?_replicate]
  split<;>rfl
 have hs':Sim P X (Ez tv env0 (Array.replicate ops.size false)) H a {w with drawn:=w.drawn+1} I μ O :=
  (hs.grow (w':={w with drawn:=w.drawn+1}) ⟨rfl,rfl,rfl,Nat.le_refl _,fun _ _=>rfl⟩).same fun t=>BT fun i v h=>by
   rw [hz] at h;cases h
 have hone:∀ i,i<m→∃ o t v,ops[i]?=some o∧tv[i]?=some (t,v)∧QZ P C ops H env0 (tv.take i).reverse o t v:=fun i hi=>by
  have ho:ops[i]?=some ops[i]:=Array.getElem?_eq_getElem (by omega)
  obtain ⟨t,v,m1,m2⟩:=k3 i ops[i] (by rw [List.getElem?_take_of_lt hi];simp)
  exact ⟨_,t,v,ho,m1,by simpa using m2⟩
 have hdist:∀ (i j t:Nat) v u,tv[i]?=some (t,v)→tv[j]?=some (t,u)→i=j:=by
  have lt:∀ (i j t:Nat) v u,tv[i]?=some (t,v)→tv[j]?=some (t,u)→¬i<j:=fun i j t v u hi hj hij=>by
   have hjm:j<m:=by have:=(lS.1 hj).1;omega
   obtain ⟨o,t',v',_,k1,k2⟩:=hone j hjm
   rw [hj] at k1;cases k1
   refine k2.2.2.2.1 (t,v) ?_ rfl
   rw [List.mem_reverse]
   exact List.mem_of_getElem? (by rw [List.getElem?_take_of_lt hij];exact hi)
  intro i j t v u hi hj
  have h1:=lt i j t v u hi hj
  have h2:=lt j i t u v hj hi
  omega
 refine YH hok hlen hone hdist hF hrk hst hsuf n1 n2 n3 ops.size _ a _ I O (by simp) (fun i o h=>by rw [hz] at h;cases h) (fun j _=>hz j) ?_ hs'
 have h1:=List.countP_le_length (p:=fun i=>!(Array.replicate ops.size false).getD i false) (l:=List.range m)
 rw [List.length_range] at h1
 omega
end
end Go.FL
namespace Go.FL
open Go Go.RowKit
def Np (id off:Nat) (env:Env) : Bool:=env.all fun x=>match x.2 with
 | .ref (.c i o) _ _=>!(i == id&&o == off)
 | .ep (.c i o) _ _=>!(i == id&&o == off)
 | _=>true
section
variable {P:Program} {C:Cx} {X:Snap} {o:Oper} {ops:Array Oper} {Q:Exit→Env→Ad→Prop} {env env':Env} {H H':Ad} {a:Act} {w w':World} {I I':Nat→Prop} {μ μ':List Nat} {O O':Nat→Option Loc}
 {K:Env→Ad→Prop} {k:Nat} {l:List Oper}
theorem NH {id off:Nat} (h:Np id off env=true) (t:Nat) : clr (.c id off) (get env t)=get env t:=by
 cases hg:get env t with
 | ref p x y =>
  cases p with
  | t q=>rfl
  | c i o' =>
   have:=List.all_eq_true.1 h _ (FE hg (by simp))
   simp only [Bool.not_eq_true',Bool.and_eq_false_iff,beq_eq_false_iff_ne,ne_eq] at this
   simp only [clr]
   rw [if_neg]
   intro e;cases e
   rcases this with h|h<;>exact h rfl
 | ep p x y =>
  cases p with
  | t q=>rfl
  | c i o' =>
   have:=List.all_eq_true.1 h _ (FE hg (by simp))
   simp only [Bool.not_eq_true',Bool.and_eq_false_iff,beq_eq_false_iff_ne,ne_eq] at this
   simp only [clr]
   rw [if_neg]
   intro e;cases e
   rcases this with h|h<;>exact h rfl
 | _=>rfl
theorem UY {x:Operand} (h:∀ q,x≠.tmp q) (e e':Env) : lk e x=lk e' x:=by
 have h1:∀ s,EC x≠.t s:=by
  intro s hs
  unfold EC at hs
  split at hs<;>first|(cases hs;done)|(rename_i q;exact h q rfl)
 have h2:look e (EC x)=look e' (EC x):=by
  cases hx:EC x with
  | t s=>exact absurd hx (h1 s)
  | _=>rfl
 unfold lk
 split
 ·rename_i q;exact absurd rfl (h q)
 ·rfl
 ·rw [h2]
theorem Rn {e e':Env} (h:∀ q,A5 (get e q)=false→get e' q=get e q) : ∀ {xs:List Operand} {avs:List AV},argsA e xs=some avs→argsA e' xs=some avs:=by
 intro xs
 induction xs with
 | nil=>intro avs h;exact h
 | cons x xs ih =>
  intro avs ha
  simp only [argsA] at ha ⊢
  split at ha
  ·rename_i vs h1
   rw [ih h1]
   split at ha
   ·rename_i h2
    have hl:lk e' x=lk e x:=by
     cases x with
     | tmp q =>
      simp only [Bool.and_eq_true,Bool.not_eq_true'] at h2
      exact h _ h2.2
     | _=>exact UY (by simp) _ _
    simp only [hl,h2,if_true];exact ha
   ·cases ha
  ·cases ha
theorem ldb {x:Operand} {ty t id off:Nat} {cs:List AV} {c:AV} (hH:H[id]?=some (.box cs)) (hc:cs[off]?=some c) (h:RL P C ops Q (k+1) l ((t,c)::env) H) (hag:C0 P ty=some false) (hg:grd ops env o true=true:=by rfl) (ho:o.op=.load ty x:=by rfl)
  (hv:lk env x=.bp id off:=by rfl) (hn:noOwn c=true:=by rfl) (hd:o.dst=some t:=by rfl) (hf:Am (get env t)=false:=by rfl) (ht:okT C.nt t:=by rfl):RL P C ops Q k (o::l) env H:=by
 obtain ⟨h1,h2⟩:=Av hv (by simp)
 rw [← Al hf] at h
 exact .go hg (Ui ho h1 hd ht hag h2 hH hc hn h)
theorem Sp {x:Operand} {ty t id off:Nat} {cs:List AV} {e:TypeId} {xs:List DV} (hH:H[id]?=some (.box cs)) (hc:cs[off]?=some (.own e xs)) (h:RL P C ops Q (k+1) l ((t,.ref (.c id off) 0 xs.length)::env) H) (hag:C0 P ty=some false)
  (hg:grd ops env o true=true:=by rfl) (ho:o.op=.load ty x:=by rfl) (hv:lk env x=.bp id off:=by rfl) (hd:o.dst=some t:=by rfl) (hf:Am (get env t)=false:=by rfl) (ht:okT C.nt t:=by rfl):RL P C ops Q k (o::l) env H:=by
 obtain ⟨h1,h2⟩:=Av hv (by simp)
 rw [← Al hf] at h
 exact .go hg (N1 ho h1 hd ht hag h2 hH hc h)
theorem stb {x y:Operand} {ty id off:Nat} {cs:List AV} {c:AV} {v:DV} (hH:H[id]?=some (.box cs)) (hc:cs[off]?=some c) (h:RL P C ops Q (k+1) l env (H.set id (.box (cs.set off (.d v))))) (hsz:AN P ty=1) (hg:grd ops env o true=true:=by rfl)
  (ho:o.op=.store ty x y:=by rfl) (hv:lk env x=.bp id off:=by rfl) (hy:lk env y=.d v:=by rfl) (hl:v.leaf=true:=by rfl) (hn:Am c=false:=by rfl) (hd:o.dst=none:=by rfl) (h0:C.n0=0:=by rfl):RL P C ops Q k (o::l) env H:=by
 obtain ⟨h1,h2⟩:=Av hv (by simp)
 obtain ⟨h3,h4⟩:=Av hy (by simp)
 refine .go hg (Oy ho h1 h3 hd hsz h2 hH hc (by omega) (by rw [h4];exact hl) (.inl (by rw [h4];rfl)) ?_)
 have e1:Nv env (EC y)=env:=by
  cases hx:EC y with
  | t s=>rw [hx] at h4;simp only [Nv];rw [show get env s=_ from h4];rfl
  | _=>rfl
 rw [hn,h4,e1]
 simpa [Fl,FB,hH] using h
theorem H6 {x:Operand} {r ty id off:Nat} {cs:List AV} {c:AV} {e:TypeId} {xs:List DV} (hH:H[id]?=some (.box cs)) (hc:cs[off]?=some c) (h:RL P C ops Q (k+1) l ((r,.un)::env) (H.set id (.box (cs.set off (.own e xs))))) (hsz:AN P ty=1) (hg:grd ops env o true=true:=by rfl)
  (ho:o.op=.store ty x (.tmp r):=by rfl) (hv:lk env x=.bp id off:=by rfl) (hy:get env r=.own e xs:=by rfl) (hnc:Np id off env=true:=by rfl) (hr:D8 r env=false:=by rfl) (hd:o.dst=none:=by rfl) (h0:C.n0=0:=by rfl):RL P C ops Q k (o::l) env H:=by
 obtain ⟨h1,h2⟩:=Av hv (by simp)
 refine .go hg (Oy (ay:=.t r) ho h1 (by simp [AH]) hd hsz h2 hH hc (by omega) (by show one (get env r)=true;rw [hy];rfl) (.inr ⟨r,rfl⟩) ?_)
 have e2:FB H id off (look env (.t r))=H.set id (.box (cs.set off (.own e xs))):=by
  show FB H id off (get env r)=_
  rw [hy];simp [FB,hH]
 rw [e2]
 refine RL.gh (Gh.same fun t=>?_) h
 have e3:Nv env (.t r)=put env r .un:=by simp [Nv,hy,noOwn]
 rw [JZ,e3,DT hr]
 split
 ·simp only [get]
  split
  ·rfl
  ·exact (NH hnc t).symm
 ·rfl
theorem al {ty t:Nat} {z:Value} {cs:List AV} (h:RL P C ops Q (k+1) l ((t,.bp H.length 0)::env) (H++[.box cs])) (hz:∀ w,(zeroValue ty).run P w=.ok z w) (hcs:∀ w I μ,ARepAll P w I μ cs z.cells.toList [])
  (hg:grd ops env o true=true:=by rfl) (ho:o.op=.alloc ty:=by rfl) (hd:o.dst=some t:=by rfl) (hf:Am (get env t)=false:=by rfl) (ht:okT C.nt t:=by rfl):RL P C ops Q k (o::l) env H:=by
 rw [← Al hf] at h
 refine .go hg (.val (env':=env) (H':=H++[.box cs]) (by simp [ho]) hd ht (fun X a w I μ O _ _ _ hs=>?_) h)
 obtain ⟨μ',O',q1,q2⟩:=hs.box (cs:=cs) (vs:=z.cells.toList) ⟨[],hcs w I μ,nN,by simp⟩ ty
 refine ⟨.pointer (some ⟨w.heap.size,0,none⟩),_,I,μ',O',?_,q1,q2⟩
 simp only [execOp,ho,Instr.alloc,Sem.run_bind,hz,Result.andThen_ok,Fo,Sem.run_pure,Array.toArray_toList]
theorem apc {c:Call} {y:Operand} {r t id off ty e sz by_ len:Nat} {z:Value} {cs:List AV} {xs ys:List DV} (hH:H[id]?=some (.box cs)) (hcs:cs[off]?=some (.own e xs)) (hb:len+ys.length≤9223372036854775807∧(len+ys.length) * by_≤140737488355328)
  (h:RL P C ops Q (k+1) l ((t,.own e (xs.take len++ys))::(r,.un)::env) (H.set id (.box (cs.set off .un)))) (hsz:∀ x∈ys,x.cells.length=sz) (hT:C1 P ty=some (e,sz,by_,z)) (hg:grd ops env o true=true:=by rfl) (ho:o.op=.call c:=by rfl)
  (hc:c.callee=.builtin .append:=by rfl) (hx:c.args=#[.tmp r,y]:=by rfl) (hty:c.argTypes=#[ty,ty]:=by rfl) (hv:get env r=.ref (.c id off) 0 len:=by rfl) (hy:rd env H (lk env y)=some ys:=by rfl) (hd:o.dst=some t:=by rfl)
  (hf:Am (get env t)=false:=by rfl) (hnc:Np id off ((r,.un)::env.filter fun x=>x.1 != r)=true:=by rfl) (ht:okT C.nt t:=by rfl) (h0:C.n0=0:=by rfl):RL P C ops Q k (o::l) env H:=by
 refine .go hg (QB ho hc hx hty hd ht (by simp [AH]) hT hv hH hcs (by omega) hy hsz (by simpa [maxLen] using hb.1) hb.2 ?_)
 have h1:Am (get (JB (.c id off) env) t)=false:=by rw [E2,Oi];exact hf
 rw [Al h1,show FB H id off .un=H.set id (.box (cs.set off .un)) by simp [FB,hH]]
 refine RL.gh (Gh.same fun q=>?_) h
 simp only [get,E2]
 split
 ·rfl
 ·split
  ·rename_i hq;subst hq;rw [hv];simp [clr]
  ·rename_i hq
   have hfl:∀ env:Env,get (env.filter fun x=>x.1 != r) q=get env q:=fun env=>by
    induction env with
    | nil=>rfl
    | cons x xs ih =>
     obtain ⟨u,v⟩:=x
     by_cases hu:u=r
     ·subst hu;simp [get,ih,hq]
     ·have hu':(u != r)=true:=by simpa using hu
      rw [List.filter_cons_of_pos (by exact hu')]
      simp only [get,ih]
   have:=NH hnc q
   simpa [get,hq,hfl] using this.symm
theorem Zx {c:Call} {f t s t0:Nat} {avs:List AV} {r:AV} {xa:List Operand} {e:TypeId} {xs:List DV} (xs':List DV) (h:∀ G,RL P C ops Q (k+1) l ((t,r)::(t0,.own e xs')::(s,.un)::env) (H'++G)) (hfn:FnG P f (.own e xs::avs) H r [.own e xs'] H')
  (hcall:∀ args w,(callFunc f args).run P w=.ok (.enter f args) w) (hg:grd ops env o true=true:=by rfl) (ho:o.op=.call c:=by rfl) (hc:c.callee=.value (.func f):=by rfl) (hx:c.args.toList=.tmp s::xa:=by rfl)
  (hv:get env s=.ref (.t t0) 0 xs.length:=by rfl) (hp:get env t0=.own e xs:=by rfl) (ha:argsA ((t0,.un)::env) xa=some avs:=by rfl) (hcr:CG env=false:=by rfl) (hr:D8 t0 ((s,.un)::env.filter fun x=>x.1 != s)=false:=by rfl) (hd:o.dst=some t:=by rfl)
  (hf:Am (get env t)=false:=by rfl) (hst:s≠t0:=by decide) (htt:t≠t0:=by decide) (ht:okT C.nt t:=by rfl) (h0:C.n0=0:=by rfl):RL P C ops Q k (o::l) env H:=by
 have hput:put env t0 .un=(t0,.un)::JB (.t t0) env:=by simp [put,hp,Am]
 have hget:∀ q,get (put env t0 .un) q=get ((t0,.un)::(s,.un)::env) q:=fun q=>by
  rw [hput]
  simp only [get,E2]
  split
  ·rfl
  ·split
   ·rename_i hq;subst hq;rw [hv];simp [clr]
   ·rename_i hq;exact No hr q (Ne.symm hq)
 have hcr':CG (put env t0 .un)=false:=by
  rw [hput]
  cases hx:CG ((t0,AV.un)::JB (.t t0) env) with
  | false=>rfl
  | true =>
   obtain ⟨y,hy,hy2⟩:=List.any_eq_true.1 hx
   rcases List.mem_cons.1 hy with rfl|hy
   ·cases hy2
   ·obtain ⟨z,hz,rfl⟩:=List.mem_map.1 hy
    have hcl:∀ v,Lk (clr (.t t0) v)=true→Lk v=true:=fun v hv=>by
     cases v<;>first|exact hv|(simp only [clr] at hv;split at hv<;>first|(cases hv;done)|exact hv)
    have:CG env=true:=List.any_eq_true.2 ⟨z,hz,hcl _ hy2⟩
    rw [hcr] at this;cases this
 have ha':argsA (put env t0 .un) xa=some avs:=Rn (fun q hq=>by
  rw [hget]
  simp only [get] at hq ⊢
  split
  ·rfl
  ·rename_i h1
   rw [if_neg h1] at hq
   split
   ·rename_i h2;subst h2;rw [hv] at hq;cases hq
   ·rfl) ha
 refine .go hg (OpOK.callG1 ho hc hx hv hp ha' hcr' h0 hcall hfn (fun t' h'=>by rw [hd] at h';cases h';exact ht) fun G=>?_)
 rw [hd]
 show RL P C ops Q (k+1) l (put ((t0,.own e xs')::put env t0 .un) t r) (H'++G)
 have h1:Am (get ((t0,.own e xs')::put env t0 .un) t)=false:=by
  simp only [get]
  rw [if_neg (Ne.symm htt),hget]
  simp only [get]
  rw [if_neg (Ne.symm htt)]
  split
  ·rfl
  ·exact hf
 rw [Al h1]
 refine RL.gh (Gh.same fun q=>?_) (h G)
 simp only [get]
 split
 ·rfl
 ·split
  ·rfl
  ·rw [hget]
   simp only [get]
   rename_i h2
   rw [if_neg h2]
end
end Go.FL
namespace Go.FL
open Go Go.RowKit
def It (P:Program) (f:FuncId) (caps:List DV) (ys:List (List DV)) : Prop :=
 ∀ (l:Nat) (W:World) (I:Nat→Prop) (cv:List Value) (J:Nat→World→Prop),(∀ k W',J k W'→∀ b,I b→W'.heap[b]?=W.heap[b]?)→RepAll W I caps cv →
  (∀ k W1 ds vs,J k W1→ys[k]?=some ds→RepAll W1 I ds vs→YieldAt (om none) 0 P l vs.toArray W1 fun e W'=>e=.returned (.bool true)∧J (k+1) W')→J 0 W →
  CallsIn (om none) 0 P f (#[.func (.yield l) #[] #[]]++cv.toArray) W fun e W'=>(∃ v,e=.returned v)∧J ys.length W'
def Marks (K:Nat→Prop) (w:World) (I:Nat→Prop) (O:Nat→Option Loc) (ms:List Deferred) : Prop :=
 ms.Nodup∧∀ m∈ms,∃ D,m={target:=.collected D,args:=#[]}∧w.heap[D]?=some (.deferred (some []))∧O D=none∧¬I D∧¬K D
theorem Marks.nil {K:Nat→Prop} {w:World} {I:Nat→Prop} {O:Nat→Option Loc} : Marks K w I O []:=⟨nN,fun m hm=>by simp at hm⟩
def Xu (P:Program) (X:Snap) (Q:Exit→Env→Ad→Prop) : Exit→Act→World→Prop:=fun e a w =>
 ∃ env H I μ O ms,Sim P {X with dfs:=ms++X.dfs} env H a w I μ O∧Q e env H∧Marks X.K w I O ms
def AWM (P:Program) (C:Cx) (c:Code) (Q:Exit→Env→Ad→Prop) (env:Env) (H:Ad) : Prop :=
 ∀ X a w I μ O,X.nt=C.nt→X.n0=C.n0→X.ne=C.ne→Sim P X env H a w I μ O→c.wpIn (om C.ro) 0 P (Xu P X Q) a w
section
variable {P:Program} {C:Cx} {X:Snap} {Q:Exit→Env→Ad→Prop} {env env':Env} {H H':Ad} {a:Act} {w w':World} {I I':Nat→Prop} {μ μ':List Nat} {O O':Nat→Option Loc}
theorem Sim.recast {Y:Snap} (hs:Sim P X env H a w I μ O) (hm:Mem P Y H w I μ O) (h1:Y.nt=X.nt) (h2:Y.dfs=X.dfs) (h3:Y.args=X.args) : Sim P Y env H a w I μ O :=
 ⟨hm,hs.envr,by rw [h1];exact hs.nt,by rw [h1,h2,h3];exact hs.dfs⟩
theorem Post.toM {e:Exit} (h:Post P X Q e a w) : Xu P X Q e a w:=by
 obtain ⟨env,H,I,μ,O,s,q⟩:=h
 exact ⟨env,H,I,μ,O,[],s,q,.nil⟩
theorem AWM.lift {c:Code} (h:AW P C c Q env H) : AWM P C c Q env H:=fun X a w I μ O h1 h2 h3 hs =>
 wpIn_mono (h X a w I μ O h1 h2 h3 hs) fun _ _ _ hp=>hp.toM
theorem AWM.seqA {x y:Code} (h:AW P C x (Hf (AWM P C y Q) Q) env H) : AWM P C (.seq x y) Q env H:=fun X a w I μ O h1 h2 h3 hs =>
 wpIn_seq (wpIn_mono (h X a w I μ O h1 h2 h3 hs) fun e _ _ ⟨env',H',I',μ',O',s,q⟩=>by
  cases e with
  | normal=>exact q X _ _ I' μ' O' h1 h2 h3 s
  | _=>exact ⟨env',H',I',μ',O',[],s,q,.nil⟩)
theorem Mem.reroot {K':Nat→Prop} (h:Mem P X H w I μ O) (h0:X.n0=0) (hK:∀ b,K' b→O b=none∧b<w.heap.size) : Mem P {X with w:=w,I:=I,μ:=μ,K:=K'} H w I μ O where
 prot:=fun _ _=>rfl
 kO:=fun b hb=>(hK b hb).1
 kI:=fun _ _ h=>h
 mono:=fun _ h=>h
 os:=rfl
 tape:=rfl
 output:=rfl
 size:=Nat.le_refl _
 own:=h.own
 ilt:=h.ilt
 μlen:=h.μlen
 μpre:=fun _ _ _ h=>h
 nle:=h.nle
 heap:=fun id o ho=>by
  obtain ⟨blk,bs,g1,g2,g3,_⟩:=h.heap id o ho
  exact ⟨blk,bs,g1,g2,g3,fun hlt=>absurd hlt (by simp [h0])⟩
 klt:=fun b hb=>(hK b hb).2
 n0le:=h.n0le
theorem Mem.unroot {K':Nat→Prop} (h:Mem P X H w I μ O) (h0:X.n0=0) (hK:∀ b,X.K b→K' b) {w2:World} {H2:Ad} {I2:Nat→Prop} {μ2:List Nat} {O2:Nat→Option Loc}
  (h2:Mem P {X with w:=w,I:=I,μ:=μ,K:=K'} H2 w2 I2 μ2 O2):Mem P X H2 w2 I2 μ2 O2 where
 prot:=fun b hb=>(h2.prot b (hK b hb)).trans (h.prot b hb)
 kO:=fun b hb=>h2.kO b (hK b hb)
 kI:=fun b hb hi=>h.kI b hb (h2.kI b (hK b hb) hi)
 mono:=fun b hb=>h2.mono b (h.mono b hb)
 os:=h2.os.trans h.os
 tape:=h2.tape.trans h.tape
 output:=h2.output.trans h.output
 size:=nT h.size h2.size
 own:=h2.own
 ilt:=h2.ilt
 μlen:=h2.μlen
 μpre:=fun i b hi hb=>h2.μpre i b hi (h.μpre i b hi hb)
 nle:=h2.nle
 heap:=fun id o ho=>by
  obtain ⟨blk,bs,g1,g2,g3,_⟩:=h2.heap id o ho
  exact ⟨blk,bs,g1,g2,g3,fun hlt=>absurd hlt (by simp [h0])⟩
 klt:=h.klt
 n0le:=h.n0le
theorem AWM.seq (h0:C.n0=0) {x y:Code} (h:AWM P C x (Hf (AWM P C y Q) Q) env H) : AWM P C (.seq x y) Q env H:=fun X a w I μ O h1 h2 h3 hs =>
 wpIn_seq (wpIn_mono (h X a w I μ O h1 h2 h3 hs) fun e a1 w1 ⟨env',H',I',μ',O',ms,s,q,hm⟩=>by
  cases e with
  | normal =>
   have hX0:X.n0=0:=by omega
   obtain ⟨K',hKd⟩:∃ K':Nat→Prop,K'=fun b=>X.K b∨∃ m∈ms,m={target:=.collected b,args:=#[]}:=⟨_,rfl⟩
   have hK':∀ b,K' b→O' b=none∧b<w1.heap.size:=fun b hb=>by
    rw [hKd] at hb
    rcases hb with hb|⟨m,hm1,hm2⟩
    ·exact ⟨s.kO b hb,nL (s.klt b hb) s.size⟩
    ·obtain ⟨D,e1,e2,e3,e4,_⟩:=hm.2 m hm1
     rw [hm2] at e1;simp at e1;subst e1
     exact ⟨e3,(Array.getElem?_eq_some_iff.1 e2).1⟩
   have hr:=s.recast (s.toMem.reroot hX0 hK') rfl rfl rfl
   refine wpIn_mono (q {X with w:=w1,I:=I',K:=K',μ:=μ',dfs:=ms++X.dfs} a1 w1 I' μ' O' h1 h2 h3 hr) fun e a2 w2 ⟨env2,H2,I2,μ2,O2,ms2,s2,q2,hm2⟩=>?_
   refine ⟨env2,H2,I2,μ2,O2,ms2++ms,?_,q2,?_⟩
   ·have hu:Mem P X H2 w2 I2 μ2 O2:=(s.toMem.cast (Y:=X) rfl rfl rfl rfl rfl rfl).unroot hX0 (K':=K') (fun b hb=>by rw [hKd];exact .inl hb) (s2.toMem.cast rfl rfl rfl rfl rfl rfl)
    exact ⟨hu.cast rfl rfl rfl rfl rfl rfl,s2.envr,s2.nt,by rw [s2.dfs.1];simp,s2.dfs.2⟩
   ·refine ⟨List.nodup_append.2 ⟨hm2.1,hm.1,fun x hx y hy e=>?_⟩,fun m hmm=>?_⟩
    ·subst e
     obtain ⟨D,rfl,_,_,_,hk⟩:=hm2.2 x hx
     exact hk (by show K' D;rw [hKd];exact .inr ⟨_,hy,rfl⟩)
    rcases List.mem_append.1 hmm with hmm|hmm
    ·obtain ⟨D,e1,e2,e3,e4,e5⟩:=hm2.2 m hmm
     exact ⟨D,e1,e2,e3,e4,fun hk=>e5 (by show K' D;rw [hKd];exact .inl hk)⟩
    ·obtain ⟨D,rfl,e2,e3,e4,e5⟩:=hm.2 m hmm
     have hkD:K' D:=by rw [hKd];exact .inr ⟨_,hmm,rfl⟩
     exact ⟨D,rfl,(s2.prot D hkD).trans e2,s2.kO D hkD,fun hi=>e4 (s2.kI D hkD hi),e5⟩
  | _=>exact ⟨env',H',I',μ',O',ms,s,q,hm⟩)
theorem AWM.block {id:Nat} {c:Code} (h:AWM P C c (Sy id Q) env H) : AWM P C (.block id c) Q env H:=fun X a w I μ O h1 h2 h3 hs =>
 wpIn_block (wpIn_mono (h X a w I μ O h1 h2 h3 hs) fun e _ _ ⟨env',H',I',μ',O',ms,s,q,hm⟩=>by
  cases e with
  | exit id' =>
   simp only [Exit.inBlock]
   simp only [Sy] at q
   split
   ·rename_i hid;subst hid;rw [if_pos rfl] at q;exact ⟨env',H',I',μ',O',ms,s,q,hm⟩
   ·rename_i hid;rw [if_neg hid] at q;exact ⟨env',H',I',μ',O',ms,s,q,hm⟩
  | _=>exact ⟨env',H',I',μ',O',ms,s,q,hm⟩)
theorem AWM.gh {c:Code} (g:Gh P C env H env' H') (h:AWM P C c Q env' H') : AWM P C c Q env H:=fun X a w I μ O h1 h2 h3 hs =>
 let ⟨I',O',hs'⟩:=g X a w I μ O h1 h2 h3 hs;h X a w I' μ O' h1 h2 h3 hs'
theorem Sim.lab (hs:Sim P X env H a w I μ O) (hlt:∀ b l,O' b=some l→b<w.heap.size∧¬I b) (hK:∀ b,X.K b→O' b=none) (ho:∀ b id,O b=some (.o id)→O' b=some (.o id)) (ht:∀ b t,O b=some (.t t)→O' b=some (.t t)) :
  Sim P X env H a w I μ O':=by
 refine ⟨hs.toMem.lab hlt hK ho,fun t=>?_,hs.nt,hs.dfs⟩
 exact (hs.envr t).keepG (fun _ h=>h) (fun _ _=>rfl) (fun _ _ h=>h) (fun b hb=>⟨rfl,ht b t hb⟩) fun p e xs hp=>⟨hp,fun v hv=>hv⟩
theorem Sim.busy {l:Nat} {w2:World} (hs:Sim P X env H a w I μ O) (h0:X.n0=0) (hg:w.grownBy w2 (some l)) (hl:X.K l) (hIl:¬X.I l) : Sim P {X with w:=w2,I:=I,μ:=μ} env H a w2 I μ O:=by
 have hlI:¬I l:=fun hi=>hIl (hs.kI l hl hi)
 have hlt:l<w.heap.size:=nL (hs.klt l hl) hs.size
 have s1:=hs.recast (hs.toMem.reroot (K':=fun b=>X.K b∧b≠l) h0 fun b hb=>⟨hs.kO b hb.1,nL (hs.klt b hb.1) hs.size⟩) rfl rfl rfl
 have s2:=s1.newR [l] fun b hb=>by simp at hb;subst hb;exact ⟨hlt,.inl (hs.kO b hl),hlI,fun h=>h.2 rfl⟩
 have s3:=s2.grownR hg fun b hb=>by cases hb;simp
 have s4:Sim P _ env H a w2 I μ O:=s3.lab (fun b l' hb=>⟨nL (hs.own b l' hb).1 hg.size,(hs.own b l' hb).2⟩) (fun b hb=>hs.kO b hb.1)
  (fun b id hb=>by
   by_cases e:b=l
   ·subst e;simp at hb
   ·simpa [e] using hb) (fun b t hb=>by
   by_cases e:b=l
   ·subst e;simp at hb
   ·simpa [e] using hb)
 exact s4.recast (s4.toMem.reroot (K':=X.K) h0 fun b hb=>⟨hs.kO b hb,nL (hs.klt b hb) (nT hs.size hg.size)⟩) rfl rfl rfl
theorem Mem.ready {l:Nat} {w2 w3 w4:World} {H3:Ad} {I3:Nat→Prop} {μ3:List Nat} {O3:Nat→Option Loc} (h:Mem P X H w I μ O) (h0:X.n0=0) (hl:X.K l) (hIl:¬X.I l) (hg:w.grownBy w2 (some l))
  (h3:Mem P {X with w:=w2,I:=I,μ:=μ} H3 w3 I3 μ3 O3) (hg3:w3.grownBy w4 (some l)) (h4:w4.heap[l]?=X.w.heap[l]?):Mem P X H3 w4 I3 μ3 O3 where
 prot:=fun b hb=>by
  by_cases e:b=l
  ·subst e;exact h4
  ·exact (hg3.block b (nL (h3.klt b hb) h3.size) (by simpa using e)).trans ((h3.prot b hb).trans ((hg.block b (nL (h.klt b hb) h.size) (by simpa using e)).trans (h.prot b hb)))
 kO:=h3.kO
 kI:=fun b hb hi=>h.kI b hb (h3.kI b hb hi)
 mono:=fun b hb=>h3.mono b (h.mono b hb)
 os:=hg3.os.trans (h3.os.trans (hg.os.trans h.os))
 tape:=hg3.tape.trans (h3.tape.trans (hg.tape.trans h.tape))
 output:=hg3.output.trans (h3.output.trans (hg.output.trans h.output))
 size:=nT h.size (nT hg.size (nT h3.size hg3.size))
 own:=fun b l' hb=>⟨nL (h3.own b l' hb).1 hg3.size,(h3.own b l' hb).2⟩
 ilt:=fun b hb=>nL (h3.ilt b hb) hg3.size
 μlen:=h3.μlen
 μpre:=fun i b hi hb=>h3.μpre i b hi (h.μpre i b hi hb)
 nle:=h3.nle
 heap:=fun id o ho=>by
  obtain ⟨blk,bs,g1,g2,g3,_⟩:=h3.heap id o ho
  have hO:=(g3 (by simp [h0])).2
  have hne:∀ b∈blk::bs,w4.heap[b]?=w3.heap[b]?:=fun b hb=>hg3.block b (h3.own b _ (hO b hb)).1 (by
   simp only [ne_eq,Option.some.injEq]
   intro e;subst e
   have:=h3.kO _ hl;rw [hO _ hb] at this;cases this)
  refine ⟨blk,bs,g1,?_,g3,fun hlt=>absurd hlt (by simp [h0])⟩
  cases o with
  | box cs =>
   obtain ⟨cells,e,k1,k2⟩:=g2
   refine ⟨cells,e,(hne blk (by simp)).trans k1,k2.keep (fun _ h=>h) (fun b hb=>hg3.block b (h3.ilt b hb) ?_) (fun _ _ h=>h) fun b hb=>hne b (by simp [hb])⟩
   simp only [ne_eq,Option.some.injEq]
   intro e';subst e'
   exact hIl (h.kI _ hl (h3.kI _ hl hb))
 klt:=h.klt
 n0le:=h.n0le
end
end Go.FL
namespace Go.FL
open Go Go.RowKit
def J0 (env:Env) : Env:=env.map fun x=>(x.1,if noOwn x.2&&!A5 x.2 then x.2 else .un)
theorem JY (env:Env) (t:Nat) : get (J0 env) t=if noOwn (get env t)&&!A5 (get env t) then get env t else .un:=by
 induction env with
 | nil=>rfl
 | cons x r ih =>
  obtain ⟨s,v⟩:=x
  simp only [J0,List.map_cons,get]
  split
  ·rfl
  ·exact ih
section
variable {P:Program} {C:Cx} {X:Snap} {Q:Exit→Env→Ad→Prop} {env env':Env} {H H':Ad} {a:Act} {w w':World} {I I':Nat→Prop} {μ μ':List Nat} {O O':Nat→Option Loc}
theorem Sim.overL (hs:Sim P X env H a w I μ O) (hn0:X.n0=0) (hc:CG env=false) (ls:List Nat) (hl:∀ b∈ls,O b=some .r) :
  ∃ (Y:Snap) (O2:Nat→Option Loc),Y.w=w∧Y.I=I∧Y.n0=0∧Y.ne=H.length∧Y.μ=μ∧(∀ b∈ls,Y.K b)∧(∀ b,I b→Y.K b)∧Mem P Y H w I μ O2 ∧
   ∀ {w':World} {I':Nat→Prop} {μ':List Nat} {O':Nat→Option Loc} {Hn:Ad},Mem P Y Hn w' I' μ' O'→∃ On,Sim P X env Hn a w' I' μ' On∧∀ b∈ls,On b=some .r:=by
 let Y:Snap:={X with w:=w,I:=I,n0:=0,ne:=H.length,μ:=μ,K:=fun b=>X.K b∨I b∨(∃ t,O b=some (.t t))∨b∈ls}
 let O2:Nat→Option Loc:=fun b=>match O b with
  | some (.o id)=>some (.o id)
  | _=>none
 have hO2o:∀ b id,O b=some (.o id)→O2 b=some (.o id):=fun b id h=>by simp only [O2,h]
 have hO2n:∀ b,(∀ id,O b≠some (.o id))→O2 b=none:=fun b h2=>by
  cases hx:O b with
  | none=>simp only [O2,hx]
  | some l=>cases l with
   | o id=>exact absurd hx (h2 id)
   | _=>simp only [O2,hx]
 have hO2:∀ b l,O2 b=some l→∃ l',O b=some l':=fun b l h=>by
  cases hx:O b with
  | some l'=>exact ⟨l',rfl⟩
  | none=>rw [hO2n b (by rw [hx];simp)] at h;cases h
 have hKO:∀ b,Y.K b→∀ id,O b≠some (.o id):=fun b hk=>by
  rcases hk with hk|hk|⟨t,hk⟩|hk
  ·exact fun id h=>(by rw [hs.kO b hk] at h;cases h)
  ·exact fun id h=>(hs.own b _ h).2 hk
  ·exact fun id h=>(by rw [hk] at h;simp at h)
  ·exact fun id h=>(by rw [hl b hk] at h;simp at h)
 have hmem:Mem P Y H w I μ O2:={
  prot:=fun _ _=>rfl
  kO:=fun b hk=>hO2n b (hKO b hk)
  kI:=fun _ _ h=>h
  mono:=fun _ h=>h
  os:=rfl,tape:=rfl,output:=rfl,size:=Nat.le_refl _
  own:=fun b l h=>by obtain ⟨l',h'⟩:=hO2 b l h;exact hs.own b l' h'
  ilt:=hs.ilt,μlen:=hs.μlen,μpre:=fun _ _ _ h=>h,nle:=Nat.le_refl _
  heap:=fun id o' ho'=>by
   obtain ⟨blk,ds,h1,h2,h3,_⟩:=hs.heap id o' ho'
   exact ⟨blk,ds,h1,h2,fun _=>⟨(h3 (by omega)).1,fun b hb'=>hO2o b id ((h3 (by omega)).2 b hb')⟩,fun h=>absurd h (by simp [Y])⟩
  klt:=fun b hk=>by
   rcases hk with hk|hk|⟨t,hk⟩|hk
   ·exact nL (hs.klt b hk) hs.size
   ·exact hs.ilt b hk
   ·exact (hs.own b _ hk).1
   ·exact (hs.own b _ (hl b hk)).1
  n0le:=Nat.zero_le _}
 refine ⟨Y,O2,rfl,rfl,rfl,rfl,rfl,fun b hb=>.inr (.inr (.inr hb)),fun b hb=>.inr (.inl hb),hmem,?_⟩
 intro w' I' μ' O' Hn hm
 let On:Nat→Option Loc:=fun b=>if b∈ls then some .r else match O' b with
  | some (.o id)=>some (.o id)
  | _=>match O b with
   | some (.t t)=>some (.t t)
   | _=>none
 have hOl:∀ b,b∈ls→On b=some .r:=fun b hb=>by show (if b∈ls then _ else _)=_;rw [if_pos hb]
 have hOe:∀ b,b∉ls→On b=match O' b with
   | some (.o id)=>some (.o id)
   | _=>match O b with
    | some (.t t)=>some (.t t)
    | _=>none:=fun b hb=>by show (if b∈ls then _ else _)=_;rw [if_neg hb]
 have hOt:∀ b t,O b=some (.t t)→On b=some (.t t)∧w'.heap[b]?=w.heap[b]?:=fun b t h=>by
  have hk:Y.K b:=.inr (.inr (.inl ⟨t,h⟩))
  have h0:=hm.kO b hk
  refine ⟨?_,hm.prot b hk⟩
  rw [hOe b fun hb=>by rw [hl b hb] at h;simp at h]
  simp only [h0,h]
 have hOo:∀ b id,O' b=some (.o id)→On b=some (.o id):=fun b id h=>by
  rw [hOe b fun hb=>by have:=hm.kO b (.inr (.inr (.inr hb)));rw [h] at this;cases this]
  simp only [h]
 have hII:∀ b,I b→w'.heap[b]?=w.heap[b]?:=fun b hi=>hm.prot b (.inr (.inl hi))
 have hμ:∀ (i b:Nat),μ[i]?=some b→μ'[i]?=some b:=fun i b h=>hm.μpre i b (by have:=(lS.1 h).1;have:=hs.μlen;simp only [Y];omega) h
 refine ⟨On,⟨{
  prot:=fun b hk=>(hm.prot b (.inl hk)).trans (hs.prot b hk)
  kO:=fun b hk=>by
   have h0:=hm.kO b (.inl hk)
   rw [hOe b fun hb=>by have:=hl b hb;rw [hs.kO b hk] at this;cases this]
   simp only [h0,hs.kO b hk]
  kI:=fun b hk hi=>hs.kI b hk (hm.kI b (.inl hk) hi)
  mono:=fun b hi=>hm.mono b (hs.mono b hi)
  os:=hm.os.trans hs.os,tape:=hm.tape.trans hs.tape,output:=hm.output.trans hs.output,size:=nT hs.size hm.size
  own:=fun b l hl'=>by
   by_cases hx:b∈ls
   ·exact ⟨nL (hs.own b _ (hl b hx)).1 hm.size,fun hi=>(hs.own b _ (hl b hx)).2 (hm.kI b (.inr (.inr (.inr hx))) hi)⟩
   ·rw [hOe b hx] at hl'
    split at hl'
    ·rename_i id h;exact hm.own b _ h
    ·split at hl'
     ·rename_i t h
      refine ⟨nL (hs.own b _ h).1 hm.size,fun hi=>(hs.own b _ h).2 (hm.kI b (.inr (.inr (.inl ⟨t,h⟩))) hi)⟩
     ·cases hl'
  ilt:=hm.ilt,μlen:=hm.μlen
  μpre:=fun i b hi h=>hμ i b (hs.μpre i b hi h)
  nle:=nT hs.nle hm.nle
  heap:=fun id o' ho'=>by
   obtain ⟨blk,ds,h1,h2,h3,_⟩:=hm.heap id o' ho'
   exact ⟨blk,ds,h1,h2,fun _=>⟨(h3 (Nat.zero_le _)).1,fun b hb'=>hOo b id ((h3 (Nat.zero_le _)).2 b hb')⟩,fun h=>by omega⟩
  klt:=hs.klt,n0le:=hs.n0le},fun t=>?_,hs.nt,hs.dfs⟩,hOl⟩
 have ht:=hs.envr t
 obtain ⟨c1,c2⟩:=HW hc t
 cases hg:get env t with
 | ref p off len =>
  rw [hg] at ht
  obtain ⟨e,xs,A,n,c,g1,g2,g3⟩:=ht
  cases p with
  | t q=>exact ⟨e,xs,A,n,c,g1,g2,g3⟩
  | c id off'=>exact absurd hg (c1 _ _ _ _)
 | ep p i j =>
  rw [hg] at ht
  obtain ⟨e,xs,b,n,c,g1,g2,g3⟩:=ht
  cases p with
  | t q=>exact ⟨e,xs,b,n,c,g1,g2,g3⟩
  | c id off'=>exact absurd hg (c2 _ _ _ _)
 | _ =>
  rw [hg] at ht
  obtain ⟨ds,g1,g2,g3⟩:=ht.plain rfl
  exact .of (g1.keep hm.mono hII hμ fun b hb'=>(hOt b t (g3 b hb')).2) g2 fun b hb'=>(hOt b t (g3 b hb')).1
theorem Sim.round {Y:Snap} {O2:Nat→Option Loc} (hs:Sim P X env H a w I μ O) (hm:Mem P Y H w I μ O2) (p1 p2:Nat) (hp1:p1<X.nt.2) (hp2:p2<X.nt.2) {d1 d2:DV} {v1 v2:Value} (h1:Rep w I d1 v1) (h2:Rep w I d2 v2) :
  Sim P {Y with nt:=(0,X.nt.2),dfs:=[],args:=[]} ((p2,.d d2)::(p1,.d d1)::J0 env) H {tmps:=((#[p1,p2]:Array Tmp).zip #[v1,v2]).foldl (fun t (p,v)=>t.setIfInBounds p v) a.tmps,defers:=[]} w I μ O2:=by
 have e0:((#[p1,p2]:Array Tmp).zip #[v1,v2]).foldl (fun (t:Array Value) (p,v)=>t.setIfInBounds p v) a.tmps=(a.tmps.setIfInBounds p1 v1).setIfInBounds p2 v2:=by
  rw [← Array.foldl_toList,Array.toList_zip]
  rfl
 have hsz:p1<a.tmps.size∧p2<a.tmps.size:=by rw [hs.nt];exact ⟨hp1,hp2⟩
 refine ⟨hm.cast rfl rfl rfl rfl rfl rfl,fun t=>?_,?_,rfl,fun t ht=>absurd ht (by simp)⟩
 ·simp only [get]
  by_cases e2:p2=t
  ·subst e2
   rw [if_pos rfl]
   refine .of (bs:=[]) (.d ?_) nN (by simp)
   rw [e0]
   have:((a.tmps.setIfInBounds p1 v1).setIfInBounds p2 v2).getD p2 undef=v2:=by simp [hsz.2]
   show Rep w I d2 (((a.tmps.setIfInBounds p1 v1).setIfInBounds p2 v2).getD p2 undef)
   rw [this];exact h2
  ·rw [if_neg e2]
   by_cases e1:p1=t
   ·subst e1
    rw [if_pos rfl]
    refine .of (bs:=[]) (.d ?_) nN (by simp)
    rw [e0]
    have:((a.tmps.setIfInBounds p1 v1).setIfInBounds p2 v2).getD p1 undef=v1:=by simp [hsz.1,e2]
    show Rep w I d1 (((a.tmps.setIfInBounds p1 v1).setIfInBounds p2 v2).getD p1 undef)
    rw [this];exact h1
   ·rw [if_neg e1,JY]
    split
    ·rename_i hpl
     simp only [Bool.and_eq_true,Bool.not_eq_true'] at hpl
     obtain ⟨bs,g1,g2,g3⟩:=(hs.envr t).plain hpl.2
     have:=noOwn_bs g1 hpl.1
     subst this
     refine .of (bs:=[]) ?_ nN (by simp)
     rw [e0]
     have:((a.tmps.setIfInBounds p1 v1).setIfInBounds p2 v2).getD t undef=a.tmps.getD t undef:=by simp [e1,e2,Array.getElem?_setIfInBounds_ne]
     show ARep P w I μ (get env t) (((a.tmps.setIfInBounds p1 v1).setIfInBounds p2 v2).getD t undef) []
     rw [this];exact g1
    ·exact .un
 ·rw [e0];simp;exact hs.nt
theorem Cj {w:World} {l:Nat} (o:Obj) : w.grownBy (w.putObj l o) (some l) :=
 ⟨rfl,rfl,rfl,by simp,fun k _ hk=>World.putObj_heap_other (fun e=>hk (by rw [e]))⟩
theorem Bu {w:World} (o:Obj) : Below w.heap.size w (w.alloc o) :=
 ⟨rfl,rfl,rfl,by simp,fun k hk=>Below.heap_alloc w o k hk⟩
theorem AWM.rangeFunc {g p1 p2:Nat} {assign body:Code} {f:FuncId} {caps:List DV} {ys:List (List DV)} (hro:C.ro=none) (hn0:C.n0=0) (hg:get env g=.d (.fn f [] caps)) (hcall:∀ args w,(callFunc f args).run P w=.ok (.enter f args) w)
  (hit:It P f caps ys) (hys:∀ ds∈ys,ds.length=2) (hp1:p1<C.nt.2) (hp2:p2<C.nt.2) (hc:CG env=false) (Hs:Nat→Ad) (h0:Hs 0=H)
  (hround:∀ (l k:Nat) (d1 d2:DV),ys[k]?=some [d1,d2]→AW P {nt:=(0,C.nt.2),n0:=0,ne:=(Hs k).length,ro:=some l} assign
   (Hf (AW P {nt:=(0,C.nt.2),n0:=0,ne:=(Hs k).length,ro:=some l} body fun e _ H'=>e=.normal∧H'=Hs (k+1)) fun _ _ _=>False) ((p2,.d d2)::(p1,.d d1)::J0 env) (Hs k))
  (hdone:Q .normal env (Hs ys.length)):AWM P C (.rangeFunc (.tmp g) #[p1,p2] assign body) Q env H:=by
 intro X a w I μ O h1 h2 h3 hs
 have hX0:X.n0=0:=by omega
 refine wpIn_rangeFunc ?_
 intro fn _
 rw [hro]
 have hfr:=hs.deep (x:=.tmp g) (v:=.fn f [] caps) (by show Bo (get env g)=_;rw [hg];rfl)
 generalize hev:a.eval (.tmp g)=u at hfr
 cases hfr with
 | fn _ _ _ fs cv hfs hcv =>
 cases hfs
 obtain ⟨rec,hrec⟩:∃ rec:LoopState→Option Code→Loop,rec=fun st pe=>{state:=st,pending:=pe,fn,tmps:=a.tmps,params:=#[p1,p2],assign,body,defers:=w.heap.size}:=⟨_,rfl⟩
 obtain ⟨W1,hW1⟩:∃ W1,(w.alloc (.deferred (some []))).alloc (.loop (rec .ready none))=W1:=⟨_,rfl⟩
 have hL1:W1.heap[w.heap.size+1]?=some (.loop (rec .ready none)):=by
  rw [← hW1];have:=World.alloc_heap_new (w.alloc (.deferred (some []))) (.loop (rec .ready none));rwa [World.size_alloc] at this
 have hK1:W1.heap[w.heap.size]?=some (.deferred (some [])):=by
  rw [← hW1];exact (Below.heap_alloc _ _ _ (by simp)).trans (World.alloc_heap_new w _)
 have hb1:Below w.heap.size w W1:=by
  rw [← hW1];exact (Bu _).trans ((Bu _).mono (by simp))
 have hsz1:W1.heap.size=w.heap.size+2:=by rw [← hW1];simp
 have hs1:=(hs.grow hb1).newR [w.heap.size,w.heap.size+1] fun b hb=>by
  have hge:w.heap.size≤b∧b<W1.heap.size:=by simp at hb;omega
  refine ⟨hge.2,.inl ?_,fun hi=>?_,fun hk=>?_⟩
  ·cases hO:O b with
   | none=>rfl
   | some l=>have:=(hs.own b l hO).1;omega
  ·have:=hs.ilt b hi;omega
  ·have:=hs.klt b hk;have:=hs.size;omega
 refine ⟨w.heap.size+1,[{target:=.collected w.heap.size,args:=#[]}],W1,{target:=.fn (.func f) cv.toArray,args:=#[.func (.yield (w.heap.size+1)) #[] #[]]},W1,f,
  #[.func (.yield (w.heap.size+1)) #[] #[]]++cv.toArray,W1,?_,?_,?_,?_,fun h=>(by simp [om] at h),?_⟩
 ·rw [← hW1,hrec];exact run_enterLoop_outer _ _ _ _ _
 ·simp only [resolve,hev]
  simp [go_sem]
 ·intro f' hf';exact trivial
 ·simp [invoke,go_sem,hcall]
 let J:Nat→World→Prop:=fun k W=>∃ I' μ' O',Sim P X env (Hs k) a W I' μ' O'∧O' w.heap.size=some .r∧O' (w.heap.size+1)=some .r∧W.heap[w.heap.size+1]?=some (.loop (rec .ready none)) ∧
  W.heap[w.heap.size]?=some (.deferred (some []))∧(∀ b,I b→I' b)∧∀ b,I b→W.heap[b]?=W1.heap[b]?
 have hcv1:RepAll W1 I [] []:=.nil
 have hcvW:RepAll W1 I caps cv:=hcv.keep (fun b hi=>hb1.block b (hs.ilt b hi)) fun _ h=>h
 refine (hit (w.heap.size+1) W1 I cv J (fun k W' hJ=>by obtain ⟨_,_,_,_,_,_,_,_,_,h⟩:=hJ;exact h) hcvW ?_ ⟨I,μ,_,by rw [h0];exact hs1,by simp,by simp,hL1,hK1,fun _ h=>h,fun _ _=>rfl⟩).mono ?_
 ·-- a round
  rintro k W ds vs ⟨I1,μ1,O1,s1,oD,ol,hl,hD,hI,hIw⟩ hk hr
  have hlen:=hys ds (List.mem_of_getElem? hk)
  obtain ⟨d1,d2,rfl⟩:∃ d1 d2,ds=[d1,d2]:=by
   match ds,hlen with
   | [d1,d2],_=>exact ⟨d1,d2,rfl⟩
  obtain ⟨v1,v2,rfl,hr1,hr2⟩:∃ v1 v2,vs=[v1,v2]∧Rep W I d1 v1∧Rep W I d2 v2:=by
   cases hr with
   | cons x1 t=>cases t with
    | cons x2 t=>cases t;exact ⟨_,_,rfl,x1,x2⟩
  have hy:=run_yield (P:=P) (args:=#[v1,v2]) hl (by rw [hrec];rfl)
  rw [hrec] at hy
  refine ⟨fn,_,assign,body,hy,roundIn_of_wpIn trivial ?_⟩
  obtain ⟨Y,O2,y1,y2,y3,y4,y5,yl,yI,ym,yk⟩:=s1.overL hX0 hc [w.heap.size,w.heap.size+1] (by simp [oD,ol])
  have sr:=s1.round ym p1 p2 (by rw [h1];exact hp1) (by rw [h1];exact hp2) (hr1.keep (fun _ _=>rfl) hI) (hr2.keep (fun _ _=>rfl) hI)
  have hnl:¬I1 (w.heap.size+1):=(s1.own _ _ ol).2
  refine wpIn_mono (hround (w.heap.size+1) k d1 d2 hk {Y with nt:=(0,X.nt.2),dfs:=[],args:=[]} _ _ _ _ _ (by show (0,X.nt.2)=(0,C.nt.2);rw [h1]) y3 y4 sr) ?_
  rintro e a1 w1 ⟨env1,H1,I2,μ2,O3,q1,q2⟩
  cases e with
  | normal =>
   have hl1:w1.heap[w.heap.size+1]?=some (.loop (rec .ready none)):=(q1.prot _ (yl _ (by simp))).trans (by rw [y1];exact hl)
   refine ⟨_,run_beginRound hl1 (by rw [hrec]),?_⟩
   have sb:=q1.busy y3 (Cj (.loop {rec .ready none with state:=.busy})) (yl (w.heap.size+1) (by simp)) (by show ¬Y.I _;rw [y2];exact hnl)
   refine wpIn_mono (q2 {Y with nt:=(0,X.nt.2),dfs:=[],args:=[],w:=w1.putObj (w.heap.size+1) (.loop {rec .ready none with state:=.busy}),I:=I2,μ:=μ2} _ _ _ _ _ (by show (0,X.nt.2)=(0,C.nt.2);rw [h1]) y3 y4 sb) ?_
   rintro e a2 w2 ⟨env2,H2,I3,μ3,O4,t1,t2,rfl⟩
   subst t2
   have hl2:w2.heap[w.heap.size+1]?=some (.loop {rec .ready none with state:=.busy}):=(t1.prot _ (yl _ (by simp))).trans (World.putObj_heap_same (Array.getElem?_eq_some_iff.1 hl1).1)
   have hend:=run_endRound (P:=P) none hl2
   refine ⟨_,_,hend,rfl,?_⟩
   have hme:({({rec .ready none with state:=.busy}:Loop) with state:=if (none:Option Code).isNone then LoopState.ready else .done,pending:=none}:Loop)=rec .ready none:=by rw [hrec];rfl
   rw [hme]
   have hl4:(w2.putObj (w.heap.size+1) (.loop (rec .ready none))).heap[w.heap.size+1]?=some (.loop (rec .ready none)):=World.putObj_heap_same (Array.getElem?_eq_some_iff.1 hl2).1
   have hm4:Mem P Y (Hs (k+1)) (w2.putObj (w.heap.size+1) (.loop (rec .ready none))) I3 μ3 O4 :=
    Mem.ready (X:=Y) (l:=w.heap.size+1) (q1.toMem.cast rfl rfl rfl rfl rfl rfl) y3 (yl _ (by simp)) (by rw [y2];exact hnl) (Cj _) (t1.toMem.cast rfl rfl rfl rfl rfl rfl) (Cj _) (by rw [hl4,y1,hl])
   obtain ⟨On,k1,k2⟩:=yk hm4
   refine ⟨I3,μ3,On,k1,k2 _ (by simp),k2 _ (by simp),hl4,?_,fun b hb=>hm4.mono b (by rw [y2];exact hI b hb),fun b hb=>?_⟩
   ·exact (hm4.prot _ (yl _ (by simp))).trans (by rw [y1];exact hD)
   ·exact (hm4.prot b (yI b (hI b hb))).trans (by rw [y1];exact hIw b hb)
  | _=>exact q2.elim
 ·-- behind the iterator
  rintro e W2 ⟨⟨v,rfl⟩,I1,μ1,O1,s1,oD,ol,hl,hD,hI,hIw⟩
  refine ⟨none,_,by have:=run_endLoop (P:=P) hl (by rw [hrec];simp);rw [hrec] at this;exact this,?_⟩
  have s2:=s1.grownR (Cj (l:=w.heap.size+1) (.loop {state:=.exhausted,pending:=none,fn,tmps:=a.tmps,params:=#[p1,p2],assign,body,defers:=w.heap.size})) fun b hb=>by cases hb;exact ol
  have s3:=s2.lab (O':=fun b=>if b=w.heap.size then none else O1 b) (fun b l hb=>by
    split at hb
    ·cases hb
    ·exact s2.own b l hb) (fun b hb=>by
    split
    ·rfl
    ·exact s2.kO b hb) (fun b id hb=>by rw [if_neg (fun e=>by subst e;rw [oD] at hb;simp at hb)];exact hb) (fun b t hb=>by rw [if_neg (fun e=>by subst e;rw [oD] at hb;simp at hb)];exact hb)
  refine ⟨env,_,I1,μ1,_,[{target:=.collected w.heap.size,args:=#[]}],⟨s3.toMem.cast rfl rfl rfl rfl rfl rfl,s3.envr,s3.nt,by rw [s3.dfs.1],s3.dfs.2⟩,hdone,?_⟩
  refine ⟨by simp,fun m hm=>?_⟩
  simp at hm
  refine ⟨_,hm,?_,by simp,(s1.own _ _ oD).2,fun hk=>by have:=hs.klt _ hk;have:=hs.size;omega⟩
  exact (World.putObj_heap_other (by omega)).trans hD
theorem Kr {fn:Func} {R:Ending→World→Prop} (hfin:∀ w,Sim P X env H a w I μ O→LeavesInM (om none) 0 P fn a.tmps R [] .returning w) :
  ∀ (ms:List Deferred) (w:World),Sim P X env H a w I μ O→Marks X.K w I O ms→LeavesInM (om none) 0 P fn a.tmps R ms .returning w:=by
 intro ms
 induction ms with
 | nil=>intro w hw _;exact hfin w hw
 | cons m ms ih =>
  intro w hw hm
  obtain ⟨hn,hm⟩:=hm
  obtain ⟨D,rfl,hD,hO,hI,hK⟩:=hm m (by simp)
  refine ⟨by simp,.inl ⟨D,_,rfl,run_takeDeferred hD,ih _ ?_ ⟨(List.nodup_cons.1 hn).2,fun m' hm'=>?_⟩⟩⟩
  ·have s1:=hw.newR [D] fun b hb=>by simp at hb;subst hb;exact ⟨(Array.getElem?_eq_some_iff.1 hD).1,.inl hO,hI,hK⟩
   have s2:=s1.grownR (Cj (l:=D) (.deferred none)) fun b hb=>by cases hb;simp
   exact s2.lab (fun b l' hb=>⟨by rw [World.putObj_size];exact (hw.own b l' hb).1,(hw.own b l' hb).2⟩) hw.kO
    (fun b id hb=>by
     by_cases e:b=D
     ·subst e;simp at hb
     ·simpa [e] using hb) (fun b t hb=>by
     by_cases e:b=D
     ·subst e;simp at hb
     ·simpa [e] using hb)
  ·obtain ⟨D',rfl,hD',h3,h4,h5⟩:=hm m' (by simp [hm'])
   refine ⟨D',rfl,(World.putObj_heap_other fun e=>?_).trans hD',h3,h4,h5⟩
   subst e
   exact (List.nodup_cons.1 hn).1 hm'
theorem Fn.ofM {f:FuncId} {fn:Func} {c:Code} {args:List DV} {r:AV} {rs:List ResultVar} {nt:Nat} (hf:P.funcs[f]?=some fn) (hb:fn.body=some c) (hrs:fn.results=rs.toArray) (hnt:fn.ntmps=nt) (hn:args.length≤nt) (hbp:noBp r=true)
  (h:AWM P {nt:=(0,nt),n0:=0,ne:=0} c (YR rs r) (EA 0 args) []):Fn P f args r:=by
 intro w I vs hI ha
 refine callsIn_of_wp_marks hf hb trivial ?_
 have hlen:=ha.length
 let X:Snap:={w:=w,I:=I,K:=fun b=>b<w.heap.size,n0:=0,ne:=0,μ:=[],nt:=(0,nt),dfs:=[]}
 let a:Act:={tmps:=vs.toArray++Array.replicate (fn.ntmps-vs.toArray.size) undef,defers:=[]}
 have hs:Sim P X (EA 0 args) [] a w I [] (fun _=>none):=by
  refine ⟨{prot:=fun _ _=>rfl,kO:=fun _ _=>rfl,kI:=fun _ _ h=>h,mono:=fun _ h=>h,os:=rfl,tape:=rfl,output:=rfl,size:=Nat.le_refl _,own:=(fun b l h=>by simp at h),ilt:=hI,μlen:=rfl,μpre:=(fun i b hi _=>by simp [X] at hi),nle:=(by simp [X]),heap:=(fun id o h=>by simp at h),klt:=fun b hb=>hb,n0le:=(by simp [X])},fun t=>?_,?_,rfl,fun t h=>absurd h (by simp [X])⟩
  ·rcases Gr (tmps:=a.tmps) (k:=0) ha (fun j v hj=>by
    have hjl:j<vs.length:=(lS.1 hj).1
    have e2:(vs.toArray++Array.replicate (fn.ntmps-vs.length) undef)[j]?=some v:=by
     rw [Array.getElem?_append_left (by simpa using hjl)];simpa using hj
    simp [a,e2]) t with h0|⟨d,h0,h1⟩
   ·rw [h0];exact .un
   ·rw [h0];exact .of (bs:=[]) (.d h1) nN (by simp)
  ·simp [a,X,hnt];omega
 have hw:=h X a w I [] (fun _=>none) rfl rfl rfl hs
 refine wpIn_mono hw fun e a' w' hp=>?_
 obtain ⟨env',H',I',μ',O',ms,s,q,hm⟩:=hp
 have hdf:a'.defers=ms:=by rw [s.dfs.1];simp [X]
 have fin:Gk env' r rs→LeavesInM (om none) 0 P fn a'.tmps (fun e w'=>∃ v I' bs,e=.returned v∧Below w.heap.size w w'∧(∀ b,I b→I' b) ∧
   (∀ b,I' b→b<w'.heap.size∧(b<w.heap.size→I b))∧ARep P w' I' [] r v bs∧bs.Nodup∧∀ b∈bs,w.heap.size≤b∧b<w'.heap.size∧¬I' b) a'.defers .returning w':=by
  intro hres
  rw [hdf]
  refine Kr (fun w4 s4=>?_) ms w' s hm
  obtain ⟨v,bs,h1,h2,h3,h4⟩:=s4.results hrs hres
  refine ⟨v,h1,v,I',bs,rfl,⟨s4.os,s4.tape,s4.output,s4.size,fun b hb=>s4.prot b hb⟩,s4.mono,fun b hi=>⟨s4.ilt b hi,fun hb=>s4.kI b hb hi⟩,h2.noBp hbp,h3,fun b hm=>?_⟩
  obtain ⟨l,hl⟩:=h4 b hm
  refine ⟨?_,(s4.own b l hl).1,(s4.own b l hl).2⟩
  rcases Nat.lt_or_ge b w.heap.size with hlt|hge
  ·have:=s4.kO b hlt;rw [this] at hl;cases hl
  ·exact hge
 cases e with
 | normal=>exact fin q
 | ret=>exact fin q
 | _=>exact q.elim
end
end Go.FL
namespace Go.FL
open Go Go.RowKit
def B (ns:List Nat) : List DV:=ns.map fun n : Nat=>.i .u8 (n:Int)
section
variable {P:Program} {C:Cx} {X:Snap} {o:Oper} {ops:Array Oper} {Q:Exit→Env→Ad→Prop} {env env':Env} {H H':Ad} {a:Act} {w w':World} {I I':Nat→Prop} {μ μ':List Nat} {O O':Nat→Option Loc}
 {K:Env→Ad→Prop} {k:Nat} {l:List Oper}
theorem bxd {x:Operand} {ty t:Nat} {v:DV} (h:RL P C ops Q (k+1) l ((t,.d (.ptr [v]))::env) H) (hg:grd ops env o true=true:=by rfl) (ho:o.op=.box ty x:=by rfl) (hv:Bo (lk env x)=some v:=by rfl)
  (hl:v.leaf=true:=by rfl) (hd:o.dst=some t:=by rfl) (hf:Am (get env t)=false:=by rfl) (ht:okT C.nt t:=by rfl):RL P C ops Q k (o::l) env H:=by
 rw [← Al hf] at h
 refine .go hg (.val (by simp [ho]) hd ht (fun X a w I μ O _ _ _ hs=>?_) h)
 have hr:=hs.deep (x:=x) hv
 have hone:=hr.one hl
 have hcells:(a.eval x).cells=#[a.eval x]:=by
  generalize a.eval x=u at hone
  cases u<;>first|rfl|simp [Value.oneCell'] at hone
 have hb:Below w.heap.size w (w.alloc (.cells #[a.eval x] ty)):=Bu _
 let I':Nat→Prop:=fun b=>I b∨b=w.heap.size
 have s1:=hs.called (I':=I') hb (fun b hi=>.inl hi) fun b hi=>by
  rcases hi with hi|rfl
  ·exact ⟨nL (hs.ilt b hi) hb.size,fun _=>hi⟩
  ·exact ⟨by simp,fun hlt=>absurd hlt (Nat.lt_irrefl _)⟩
 refine ⟨.pointer (some ⟨w.heap.size,0,none⟩),_,I',μ,O,?_,s1,[],.d (.ptr [v] w.heap.size 0 [a.eval x] (.inr rfl) ?_ (.cons (hr.keep (fun b hi=>hb.block b (hs.ilt b hi)) fun b hi=>.inl hi) .nil)),nN,by simp⟩
 ·simp only [execOp,ho,Instr.box,Sem.run_bind,Fo,Result.andThen_ok,Sem.run_pure,hcells]
 ·intro j u hj
  have hnew:(w.alloc (.cells #[a.eval x] ty)).heap[w.heap.size]?=some (.cells #[a.eval x] ty):=World.alloc_heap_new w _
  have hj0:j<1:=by simpa using (lS.1 hj).1
  have:j=0:=by omega
  subst this
  simp at hj;subst hj
  show World.cell? _ ⟨w.heap.size,0+0,none⟩=_
  unfold World.cell?
  show (match (w.alloc (.cells #[a.eval x] ty)).heap[w.heap.size]? with|some (.cells c _ _)=>_|_=>_)=_
  rw [hnew];rfl
theorem mkf {f:FuncId} {cap:Array Operand} {t:Nat} {ds:List DV} (h:RL P C ops Q (k+1) l ((t,.d (.fn f [] ds))::env) H) (hg:grd ops env o true=true:=by rfl) (ho:o.op=.makeFunc (.func f) #[] cap:=by rfl) (ha:argsD env cap.toList=some ds:=by rfl)
  (hd:o.dst=some t:=by rfl) (hf:Am (get env t)=false:=by rfl) (ht:okT C.nt t:=by rfl):RL P C ops Q k (o::l) env H:=by
 rw [← Al hf] at h
 refine .go hg (.pure (by simp [ho]) hd ht (fun X a w I μ O _ hs=>⟨.func (.func f) #[] (cap.map a.eval),?_,.of_rep ?_⟩) h)
 ·simp [execOp,ho,Instr.makeFunc]
 ·have:=Rep.fn f [] ds [] (cap.toList.map a.eval) (.nil (w:=w) (I:=I)) (hs.argsD ha)
  have e:(cap.toList.map a.eval).toArray=cap.map a.eval:=by apply Array.ext';simp
  rw [e] at this
  exact this
end
end Go.FL
namespace Go.FL
open Go Go.RowKit
def Bd (s:ByteArray) : List Nat:=s.data.toList.map UInt8.toNat
theorem GL (s:ByteArray) : (Bd s).length=s.size:=by simp [Bd]
section
variable {P:Program} {C:Cx} {X:Snap} {o:Oper} {ops:Array Oper} {Q:Exit→Env→Ad→Prop} {env env':Env} {H H':Ad} {a:Act} {w w':World} {I I':Nat→Prop} {μ μ':List Nat} {O O':Nat→Option Loc}
 {K:Env→Ad→Prop} {k:Nat} {l:List Oper}
theorem VOK.deep {e:TypeId} {xs:List DV} (h:VOK P C o env H (.own e xs)) : VOK P C o env H (.d (.sl xs)):=by
 intro X a w I μ O next Q h1 h2 h3 hs hn
 refine h X a w I μ O next Q h1 h2 h3 hs fun v w' I' bs k1 k2 k3 k4 _ k6=>?_
 have hr:Rep w' (fun b=>I' b∨b∈bs) (.sl xs) v:=by
  obtain ⟨A,c,rfl,_,hsub⟩:=GD (I':=fun b=>I' b∨b∈bs) k4 (fun b hb=>.inl hb) (fun b hb=>.inr hb) 0 xs.length (by omega)
  have:=hsub (.slice A xs.length c) ⟨A,c,rfl,(FH k4).2.1,fun _=>⟨rfl,rfl⟩,fun _=>by cases A<;>simp [Addr.add]⟩
  simpa using this
 exact hn v w' (fun b=>I' b∨b∈bs) [] k1 (fun b hb=>.inl (k2 b hb)) (fun b hb=>by
  rcases hb with hb|hb
  ·exact k3 b hb
  ·exact ⟨(k6 b hb).2.1,fun hlt=>absurd hlt (by have:=(k6 b hb).1;omega)⟩) (.d hr) nN (by simp)
theorem VG {x i:Operand} {ty:Nat} {s:ByteArray} {q:IntKind} {z:Int} (n y:Nat) (hn:z=n) (hb:(Bd s)[n]?=some y) (hty:P.underlying ty=some .string)
  (ho:o.op=.index ty x i:=by rfl) (hv:lk env x=.d (.s s):=by rfl) (hi:lk env i=.d (.i q z):=by rfl):VOK P C o env H (.d (.i .u8 (y:Int))):=by
 subst hn
 obtain ⟨h1,h2⟩:=Av hv (by simp)
 obtain ⟨h3,h4⟩:=Av hi (by simp)
 have hl:n<s.size:=by have:=(lS.1 hb).1;rwa [GL] at this
 have:=X9 (P:=P) (C:=C) (env:=env) (H:=H) ho h1 h3 hty h2 h4 (by omega) (by omega)
 have hy:(s.data.toList.getD (n:Int).toNat 0).toNat=y:=by
  have hl2:n<s.data.toList.length:=by simpa using hl
  simp only [Bd,List.getElem?_map,lG hl2,Option.map_some,Option.some.injEq] at hb
  rw [lD,Int.toNat_natCast,lG hl2];exact hb
 rw [hy] at this
 exact .pv this
end
end Go.FL
namespace Go.FL
open Go Go.RowKit
section
variable {P:Program} {C:Cx} {X:Snap} {o:Oper} {ops:Array Oper} {Q:Exit→Env→Ad→Prop} {env env':Env} {H H':Ad} {a:Act} {w w':World} {I I':Nat→Prop} {μ μ':List Nat} {O O':Nat→Option Loc}
theorem ZL {s:Nat} {e:TypeId} {xs:List DV} (ho:o.op=.assign (.tmp s):=by rfl) (hv:get env s=.own e xs:=by rfl) : VOK P C o env H (.ref (.t s) 0 xs.length) :=
 .rel (by simp [ho]) fun X a w I μ O _ hs=>⟨a.tmps.getD s undef,by simp [execOp,ho,Act.eval],rfl,RefRel.self (p:=.t s) hs hv rfl⟩
theorem Gh.swap {s t:Nat} {e:TypeId} {xs:List DV} (h:get env t=.ref (.t s) 0 xs.length) (hp:get env s=.own e xs) (h0:Am (get (put env s .un) t)=false) : Gh P C env H ((t,.own e xs)::put env s .un) H:=fun X a w I μ O _ _ _ hs=>by
 have ht:=hs.envr t
 rw [h] at ht
 obtain ⟨e',ys,A,n,c,q1,q2,q3,A',c',p1,p2,p3,p4⟩:=ht
 have:AV.own e xs=.own e' ys:=hp.symm.trans q1
 cases this
 obtain ⟨rfl,rfl⟩:=p3 rfl
 simp only [Br,Option.some.injEq] at q2
 obtain ⟨k1,bs,k2,k3,k4⟩:=hs.take s (by rw [hp];rfl)
 rw [hp,q2] at k2
 have hn:n=xs.length:=(FH k2).1
 subst hn
 rw [← p1] at k2
 exact ⟨I,_,k1.adopt k2 k3 k4 h0⟩
end
end Go.FL
namespace Go.FL
open Go Go.RowKit
section
variable {P:Program} {C:Cx} {X:Snap} {o:Oper} {ops:Array Oper} {Q:Exit→Env→Ad→Prop} {env env':Env} {H H':Ad} {k:Nat} {l:List Oper} {a:Act} {w w':World} {I I':Nat→Prop} {μ μ':List Nat} {O O':Nat→Option Loc}
theorem gfu {t:Nat} (h:RL P C ops Q (k+1) l ((t,.tup [])::env) H) (hg:grd ops env o false=true:=by rfl) (hd:o.dst=some t:=by rfl) (hf:Am (get env t)=false:=by rfl) (ht:okT C.nt t:=by rfl) : RL P C ops Q k (o::l) env H:=by
 rw [← Al hf] at h
 unfold grd at hg
 split at hg
 ·cases hg
 ·rename_i j want h1
  split at hg
  ·cases hg
  ·rename_i oj h2
   split at hg
   ·cases hg
   ·rename_i d h3
    split at hg
    ·rename_i x h4
     simp at hg
     exact .guard_fu h1 h2 h3 h4 hg hd ht h
    ·rename_i h4;exact .guard_n h1 h2 h3 h4 hd ht h
    ·cases hg
def Zi (ops:Array Oper) (env:Env) (o:Oper) : Bool :=
 match o.guard with
 | none=>false
 | some (j,_)=>match ops[j]? with
  | none=>false
  | some oj=>match oj.dst with
   | none=>false
   | some d=>match get env d with
    | .tup []=>true
    | _=>false
theorem gfn {t:Nat} (h:RL P C ops Q (k+1) l ((t,.tup [])::env) H) (hg:Zi ops env o=true:=by rfl) (hd:o.dst=some t:=by rfl) (hf:Am (get env t)=false:=by rfl) (ht:okT C.nt t:=by rfl) : RL P C ops Q k (o::l) env H:=by
 rw [← Al hf] at h
 unfold Zi at hg
 split at hg
 ·cases hg
 ·rename_i j want h1
  split at hg
  ·cases hg
  ·rename_i oj h2
   split at hg
   ·cases hg
   ·rename_i d h3
    split at hg
    ·rename_i h4
     exact .guard_n h1 h2 h3 h4 hd ht h
    ·cases hg
end
end Go.FL
namespace Go.FL
open Go Go.RowKit
section
variable {P:Program} {C:Cx} {X:Snap} {o:Oper} {ops:Array Oper} {Q:Exit→Env→Ad→Prop} {env env':Env} {H H':Ad} {a:Act} {w w':World} {I I':Nat→Prop} {μ μ':List Nat} {O O':Nat→Option Loc}
 {K:Env→Ad→Prop} {k:Nat} {l:List Oper}
theorem Sim.given2 (hs:Sim P X env H a w I μ O) (hb:Below w.heap.size w w') (hI:∀ b,I b→I' b) (hI':∀ b,I' b→b<w'.heap.size∧(b<w.heap.size→I b)) {r:AV} {v:Value} {bs:List Nat}
  (hr:ARep P w' I' μ r v bs) (hn:bs.Nodup) (hbs:∀ b∈bs,w.heap.size≤b∧b<w'.heap.size∧¬I' b):∃ O',Sim P X env H a w' I' μ O'∧Hand P w' I' μ O' r v:=by
 have h:=(hs.called hb hI hI').newR bs fun b hm=>by
  obtain ⟨h1,h2,h3⟩:=hbs b hm
  refine ⟨h2,.inl ?_,h3,fun hk=>by have:=hs.klt b hk;have:=hs.size;omega⟩
  cases hO:O b with
  | none=>rfl
  | some l=>have:=(hs.own b l hO).1;omega
 exact ⟨_,h,bs,hr,hn,fun b hm=>by simp [hm]⟩
theorem OpOK.vok {av:AV} {t:Nat} (hv:VOK P C o env H av) (hr:A5 av=false) (hd:o.dst=some t) (ht:okT C.nt t) (hK:K (put env t av) H) : OpOK P C o env H K:=by
 intro X a w I μ O next Q h1 h2 h3 hs hn
 refine hv X a w I μ O next Q h1 h2 h3 hs fun v w' I' bs hb hI hI' hvr hnd hbs=>?_
 have har:ARep P w' I' μ av v bs:=by cases av<;>first|exact hvr|simp [A5] at hr
 obtain ⟨O',k1,k2⟩:=hs.given2 hb hI hI' har hnd hbs
 rw [hd]
 exact hn _ _ _ _ _ _ _ (k1.put_hand (by rw [h1];exact ht) k2) hK
theorem vk {av:AV} {t:Nat} (hv:VOK P C o env H av) (h:RL P C ops Q (k+1) l ((t,av)::env) H) (hg:grd ops env o true=true:=by rfl) (hd:o.dst=some t:=by rfl) (hr:A5 av=false:=by rfl)
  (hf:Am (get env t)=false:=by rfl) (ht:okT C.nt t:=by rfl):RL P C ops Q k (o::l) env H:=by
 rw [← Al hf] at h
 exact .go hg (.vok hv hr hd ht h)
theorem VOK.val {av:AV} (hdef:∀ c,o.op≠.defer c) (h:∀ X a w I μ O,X.nt=C.nt→X.n0=C.n0→X.ne=C.ne→Sim P X env H a w I μ O →
  ∃ v w' I' bs,(execOp a.eval o).run P w=.ok (.value v) w'∧Below w.heap.size w w'∧(∀ b,I b→I' b)∧(∀ b,I' b→b<w'.heap.size∧(b<w.heap.size→I b))∧Vy P env H a w' I' μ av v bs∧bs.Nodup∧∀ b∈bs,w.heap.size≤b∧b<w'.heap.size∧¬I' b):VOK P C o env H av:=by
 intro X a w I μ O next Q h1 h2 h3 hs hn
 obtain ⟨v,w',I',bs,hr,q1,q2,q3,q4,q5,q6⟩:=h X a w I μ O h1 h2 h3 hs
 refine ⟨fun _ _=>trivial,?_⟩
 rw [Oper.semAt_eq _ _ _ hdef,hr,Oper.uponIn_value]
 exact hn v w' I' bs q1 q2 q3 q4 q5 q6
theorem vbx {x:Operand} {ty:Nat} {cs:List DV} (ho:o.op=.box ty x:=by rfl) (hv:Bo (lk env x)=some (.ag cs):=by rfl) : VOK P C o env H (.d (.ptr cs)) :=
 .val (by simp [ho]) fun X a w I μ O _ _ _ hs=>by
  have hr:=hs.deep (x:=x) hv
  generalize hev:a.eval x=u at hr
  cases hr with
  | ag _ vs hr =>
   refine ⟨.pointer (some ⟨w.heap.size,0,none⟩),w.alloc (.cells vs.toArray ty),fun b=>I b∨b=w.heap.size,[],?_,Bu _,fun b hi=>.inl hi,fun b hi=>?_,.d (.ptr cs w.heap.size 0 vs (.inr rfl) ?_ ?_),nN,by simp⟩
   ·simp only [execOp,ho,hev,Instr.box,Sem.run_bind,Fo,Result.andThen_ok,Sem.run_pure,Value.cells]
   ·rcases hi with hi|rfl
    ·exact ⟨nL (hs.ilt b hi) (Bu _).size,fun _=>hi⟩
    ·exact ⟨by simp,fun hlt=>absurd hlt (Nat.lt_irrefl _)⟩
   ·intro j u hj
    have hnew:(w.alloc (.cells vs.toArray ty)).heap[w.heap.size]?=some (.cells vs.toArray ty):=heap_alloc_new w _
    simp only [World.cell?,hnew]
    simpa using hj
   ·exact hr.keep (fun b hi=>(Bu _).block b (hs.ilt b hi)) fun b hi=>.inl hi
theorem van {ty:Nat} {z:Value} {cs:List DV} (hz:∀ w,(zeroValue ty).run P w=.ok z w) (hcs:∀ w I,RepAll w I cs z.cells.toList) (ho:o.op=.alloc ty:=by rfl) : VOK P C o env H (.nb cs) :=
 .val (by simp [ho]) fun X a w I μ O _ _ _ hs=>by
  refine ⟨.pointer (some ⟨w.heap.size,0,none⟩),w.alloc (.cells z.cells ty),I,[w.heap.size],?_,Bu _,fun b hi=>hi,fun b hi=>⟨nL (hs.ilt b hi) (Bu _).size,fun _=>hi⟩,
   ARep.nb cs w.heap.size z.cells ty (heap_alloc_new w _) (hcs _ _),by simp,fun b hb=>?_⟩
  ·simp only [execOp,ho,Instr.alloc,Sem.run_bind,hz,Result.andThen_ok,Fo,Sem.run_pure]
  ·simp at hb;subst hb
   exact ⟨Nat.le_refl _,by simp,fun hi=>by have:=hs.ilt _ hi;omega⟩
theorem Sim.nb_inv (hs:Sim P X env H a w I μ O) {t:Nat} {cs:List DV} (hg:get env t=.nb cs) :
  ∃ blk cells e,a.tmps.getD t undef=.pointer (some ⟨blk,0,none⟩)∧w.heap[blk]?=some (.cells cells e (0,0))∧RepAll w I cs cells.toList∧O blk=some (.t t):=by
 have:=hs.envr t
 rw [hg] at this
 obtain ⟨bs,h1,h2,h3⟩:=this.plain rfl
 generalize a.tmps.getD t undef=v at h1
 cases h1 with
 | nb _ blk cells e hh hr=>exact ⟨blk,cells,e,rfl,hh,hr,h3 blk (by simp)⟩
theorem Sim.other_blk (hs:Sim P X env H a w I μ O) {t blk:Nat} (hO:O blk=some (.t t)) : (∀ b,I b→b≠blk)∧(∀ b,X.K b→b≠blk)∧∀ id ob bb bs,H[id]?=some ob→μ[id]?=some bb →
  (X.n0≤id→(bb::bs).Nodup∧∀ b∈bb::bs,O b=some (.o id))→(id<X.n0→∀ b∈bb::bs,X.K b)→∀ b∈bb::bs,b≠blk:=by
 refine ⟨fun b hi e=>?_,fun b hk e=>?_,fun id ob bb bs _ _ h3 h4 b hb e=>?_⟩
 ·subst e;exact (hs.own b _ hO).2 hi
 ·subst e;have:=hs.kO b hk;rw [hO] at this;cases this
 ·subst e
  rcases Nat.lt_or_ge id X.n0 with h|h
  ·have:=hs.kO b (h4 h b hb);rw [hO] at this;cases this
  ·have:=(h3 h).2 b hb;rw [hO] at this;cases this
theorem Sim.nbSet (hs:Sim P X env H a w I μ O) {t:Nat} {cs cs':List DV} (hg:get env t=.nb cs) {vs:List Value} (hr:RepAll w I cs' vs) :
  ∃ blk cells e,a.tmps.getD t undef=.pointer (some ⟨blk,0,none⟩)∧w.heap[blk]?=some (.cells cells e (0,0))∧RepAll w I cs cells.toList∧Sim P X ((t,.nb cs')::env) H a (w.setRow blk vs.toArray) I μ O:=by
 obtain ⟨blk,cells,e,h1,h2,h3,hO⟩:=hs.nb_inv hg
 obtain ⟨n1,n2,n3⟩:=hs.other_blk hO
 have hoth:∀ b,b≠blk→(w.setRow blk vs.toArray).heap[b]?=w.heap[b]?:=fun b hb=>setRow_other w blk b _ hb
 have hnew:=setRow_heap w blk cells vs.toArray e (0,0) h2
 refine ⟨blk,cells,e,h1,h2,h3,{hs.toMem with
  prot:=fun b hk=>(hoth b (n2 b hk)).trans (hs.prot b hk)
  os:=hs.os
  tape:=hs.tape
  output:=hs.output
  size:=by rw [setRow_size];exact hs.size
  own:=fun b l hl=>by rw [setRow_size];exact hs.own b l hl
  ilt:=fun b hi=>by rw [setRow_size];exact hs.ilt b hi
  heap:=fun id ob ho=>?_
  envr:=fun s=>?_
  nt:=hs.nt
  dfs:=hs.dfs}⟩
 ·obtain ⟨bb,bs,k1,k2,k3,k4⟩:=hs.heap id ob ho
  have hne:=n3 id ob bb bs ho k1 k3 k4
  refine ⟨bb,bs,k1,?_,k3,k4⟩
  cases ob with
  | box c =>
   obtain ⟨cl,et,m1,m2⟩:=k2
   exact ⟨cl,et,(hoth bb (hne bb (by simp))).trans m1,m2.keep (fun _ h=>h) (fun b hi=>hoth b (n1 b hi)) (fun _ _ h=>h) fun b hb=>hoth b (hne b (by simp [hb]))⟩
 ·by_cases hst:t=s
  ·subst hst
   rw [show get ((t,.nb cs')::env) t=.nb cs' by simp [get]]
   refine .of (bs:=[blk]) ?_ (by simp) (by simpa using hO)
   rw [h1]
   exact .nb cs' blk vs.toArray e hnew (hr.keep (fun b hi=>hoth b (n1 b hi)) fun _ h=>h)
  ·rw [show get ((t,.nb cs')::env) s=get env s by simp [get,hst]]
   have key:∀ p e xs,A1 env H p=.own e xs→A1 ((t,AV.nb cs')::env) H p=.own e xs∧∀ v,Br a w μ p=some v→Br a (w.setRow blk vs.toArray) μ p=some v:=by
    intro p e' xs hp
    cases p with
    | t r =>
     have hr':t≠r:=fun h=>by subst h;simp only [A1] at hp;rw [hg] at hp;cases hp
     exact ⟨by simp only [A1,get,if_neg hr'];exact hp,fun v hv=>hv⟩
    | c id off =>
     refine ⟨hp,fun v hv=>?_⟩
     simp only [Br,Option.bind_eq_some_iff] at hv ⊢
     obtain ⟨bb,hb1,hb2⟩:=hv
     refine ⟨bb,hb1,?_⟩
     simp only [A1] at hp
     cases hH:H[id]? with
     | none=>rw [hH] at hp;cases hp
     | some ob =>
      obtain ⟨bb',bs,k1,k2,k3,k4⟩:=hs.heap id ob hH
      rw [hb1] at k1;cases k1
      rw [World.cell?_of_block (w:=w) (a:=⟨bb,off,none⟩) (hoth bb (n3 id ob bb bs hH hb1 k3 k4 bb (by simp)))]
      exact hb2
   have ht:=hs.envr s
   cases hgs:get env s with
   | ref p off len =>
    rw [hgs] at ht
    obtain ⟨e',xs,A,n,c,g1,g2,g3,g4⟩:=ht
    exact ⟨e',xs,A,n,c,(key p e' xs g1).1,(key p e' xs g1).2 _ g2,g3,g4⟩
   | ep p i k =>
    rw [hgs] at ht
    obtain ⟨e',xs,b,n,c,g1,g2,g3,g4,g5⟩:=ht
    exact ⟨e',xs,b,n,c,(key p e' xs g1).1,(key p e' xs g1).2 _ g2,g3,g4,g5⟩
   | _ =>
    rw [hgs] at ht
    obtain ⟨bs,g1,g2,g3⟩:=ht.plain rfl
    exact .of (g1.keep (fun _ h=>h) (fun b hi=>hoth b (n1 b hi)) (fun _ _ h=>h) fun b hb=>hoth b fun e=>by
     subst e
     have:=g3 b hb;rw [hO] at this;simp at this;exact hst this) g2 g3
theorem Vh {y:Operand} {t ty n:Nat} {cs cs':List DV} (hsz:AN P ty=n) (hn:0<n) (ho:o.op=.store ty (.tmp t) y) (hv:get env t=.nb cs) (hy:Bo (lk env y)=some (.ag cs')) (hl:cs.length=n) (hl':cs'.length=n)
  (h1:cs'.all DV.leaf=true) (hd:o.dst=none) (hK:K ((t,.nb cs')::env) H):OpOK P C o env H K:=by
 refine .done (by simp [ho]) hd (fun X a w I μ O _ _ _ hs=>?_) hK
 have hr:=hs.deep (x:=y) hy
 generalize hev:a.eval y=u at hr
 cases hr with
 | ag _ vs hr =>
  obtain ⟨blk,cells,e,q1,q2,q3,q4⟩:=hs.nbSet hv hr
  refine ⟨_,I,μ,O,?_,q4⟩
  have hone:=hr.one h1
  have hvl:vs.length=n:=by rw [← hr.length];exact hl'
  have hcl:cells.size=n:=by rw [← Array.length_toList,← q3.length];exact hl
  obtain ⟨i,i1,i2⟩:=Ho (P:=P) (t:=ty) (by omega)
  have hx:a.eval (.tmp t)=.pointer (some ⟨blk,0,none⟩):=q1
  have hsi:(P.info? ty).map (·.size)=some vs.toArray.size:=by rw [i1];simp;omega
  simp only [execOp,ho,hx,hev,Instr.storeAt,Instr.sureAddr,Sem.run_bind,Sem.run_pure,Result.andThen_ok,run_storeVar_row w blk e ty cells vs.toArray q2 hsi (by simp;omega) (by
   rw [Array.all_eq_true_iff_forall_mem];intro v hv;exact hone v (by simpa using hv))]
theorem stn {y:Operand} {t ty n:Nat} {cs cs':List DV} (h:RL P C ops Q (k+1) l ((t,.nb cs')::env) H) (hsz:AN P ty=n) (hn:0<n) (hg:grd ops env o true=true:=by rfl) (ho:o.op=.store ty (.tmp t) y:=by rfl)
  (hv:get env t=.nb cs:=by rfl) (hy:Bo (lk env y)=some (.ag cs'):=by rfl) (hl:cs.length=n:=by rfl) (hl':cs'.length=n:=by rfl) (h1:cs'.all DV.leaf=true:=by rfl) (hd:o.dst=none:=by rfl):RL P C ops Q k (o::l) env H :=
 .go hg (Vh hsz hn ho hv hy hl hl' h1 hd h)
theorem Gh.nbp {t:Nat} {cs:List DV} (hg:get env t=.nb cs) : Gh P C env H ((t,.d (.ptr cs))::env) H:=fun X a w I μ O _ _ _ hs=>by
 obtain ⟨blk,cells,e,h1,h2,h3,hO⟩:=hs.nb_inv hg
 obtain ⟨n1,n2,n3⟩:=hs.other_blk hO
 refine ⟨_,_,⟨hs.toMem.frz [blk] (fun b hm=>by simp at hm;subst hm;exact (hs.own b _ hO).1) (fun b hm hk=>by simp at hm;exact n2 b hk hm) H rfl ?_,fun s=>?_,hs.nt,hs.dfs⟩⟩
 ·intro id ob ho
  obtain ⟨bb,bs,k1,k2,k3,k4⟩:=hs.heap id ob ho
  refine ⟨bb,bs,k1,k2.mono fun _ h=>.inl h,fun hn=>⟨(k3 hn).1,fun b hb=>?_⟩,k4⟩
  have:b∉[blk]:=by simpa using n3 id ob bb bs ho k1 k3 k4 b hb
  simp only [this,if_false]
  exact (k3 hn).2 b hb
 ·by_cases hst:t=s
  ·subst hst
   rw [show get ((t,.d (.ptr cs))::env) t=.d (.ptr cs) by simp [get]]
   refine .of (bs:=[]) ?_ nN (by simp)
   rw [h1]
   refine .d (.ptr cs blk 0 cells.toList (.inr (by simp)) ?_ (h3.keep (fun _ _=>rfl) fun _ h=>.inl h))
   intro j u hj
   simp [World.cell?,h2]
   simpa using hj
  ·rw [show get ((t,.d (.ptr cs))::env) s=get env s by simp [get,hst]]
   have key:∀ p e xs,A1 env H p=.own e xs→A1 ((t,AV.d (.ptr cs))::env) H p=.own e xs:=by
    intro p e' xs hp
    cases p with
    | t r =>
     have hr':t≠r:=fun h=>by subst h;simp only [A1] at hp;rw [hg] at hp;cases hp
     simp only [A1,get,if_neg hr'];exact hp
    | c id off=>exact hp
   have ht:=hs.envr s
   cases hgs:get env s with
   | ref p off len =>
    rw [hgs] at ht
    obtain ⟨e',xs,A,n,c,g1,g2,g3,g4⟩:=ht
    exact ⟨e',xs,A,n,c,key p e' xs g1,g2,g3,g4⟩
   | ep p i k =>
    rw [hgs] at ht
    obtain ⟨e',xs,b,n,c,g1,g2,g3,g4,g5⟩:=ht
    exact ⟨e',xs,b,n,c,key p e' xs g1,g2,g3,g4,g5⟩
   | _ =>
    rw [hgs] at ht
    obtain ⟨bs,g1,g2,g3⟩:=ht.plain rfl
    refine .of (g1.keep (fun _ h=>.inl h) (fun _ _=>rfl) (fun _ _ h=>h) fun _ _=>rfl) g2 fun b hb=>?_
    have:b∉[blk]:=fun hm=>by
     simp at hm;subst hm
     have:=g3 b hb;rw [hO] at this;simp at this;exact hst this
    simp only [this,if_false]
    exact g3 b hb
def Gh2 (P:Program) (C:Cx) (env:Env) (H:Ad) (env':Env) (H':Ad) : Prop :=
 ∀ X a w I μ O,X.nt=C.nt→X.n0=C.n0→X.ne=C.ne→Sim P X env H a w I μ O→∃ I' μ' O',Sim P X env' H' a w I' μ' O'
theorem AW.gh2 {c:Code} (g:Gh2 P C env H env' H') (h:AW P C c Q env' H') : AW P C c Q env H:=fun X a w I μ O h1 h2 h3 hs =>
 let ⟨I',μ',O',hs'⟩:=g X a w I μ O h1 h2 h3 hs;h X a w I' μ' O' h1 h2 h3 hs'
theorem RL.gh2 (g:Gh2 P C env H env' H') (h:RL P C ops Q k l env' H') : RL P C ops Q k l env H:=fun hl X a w I μ O h1 h2 h3 hs =>
 let ⟨I',μ',O',hs'⟩:=g X a w I μ O h1 h2 h3 hs;h hl X a w I' μ' O' h1 h2 h3 hs'
end
end Go.FL
namespace Go.FL
open Go Go.RowKit
def SJ : List DV→Nat→List DV→List DV
 | zs,_,[]=>zs
 | zs,off,c::cs=>SJ (zs.set off c) (off+1) cs
def Rf (places:List (Nat×Nat)) : List DV→List (Nat×DV)→Option (List DV)
 | zs,[]=>some zs
 | zs,(i,d)::r=>match places[i]? with
  | none=>none
  | some (off,n)=>if d.flat&&Nat.beq d.cells.length n&&Nat.ble (off+n) zs.length then Rf places (SJ zs off d.cells) r else none
def EI (P:Program) (t:Nat) : Option (List (Nat×Nat)) :=
 match P.underlying t with
 | some (.struct fields)=>fields.toList.mapM (fun f=>(P.info? f.type).map fun i=>(f.offset,i.size))
 | _=>none
def GE (env:Env) : List (Nat×Operand)→Option (List (Nat×DV))
 | []=>some []
 | (i,x)::r=>match Bo (lk env x),GE env r with
  | some v,some vs=>some ((i,v)::vs)
  | _,_=>none
def PN : List AV→Option (List DV)
 | []=>some []
 | .d v::r=>(PN r).map (v::·)
 | .nl::r=>(PN r).map (.sl []::·)
 | _::_=>none
section
variable {P:Program} {C:Cx} {X:Snap} {o:Oper} {ops:Array Oper} {Q:Exit→Env→Ad→Prop} {env env':Env} {H H':Ad} {a:Act} {w w':World} {I I':Nat→Prop} {μ μ':List Nat} {O O':Nat→Option Loc}
 {K:Env→Ad→Prop} {k:Nat} {l:List Oper}
theorem OC (off:Nat) : ∀ {cs:List DV} {us:List Value} (k:Nat) {zs:List DV} {cells:Array Value},RepAll w I cs us→RepAll w I zs cells.toList →
  RepAll w I (SJ zs (off+k) cs) ((us.zipIdx k).foldl (fun (cs:Array Value) x=>cs.setIfInBounds (off+x.2) x.1) cells).toList
 | _,_,k,zs,cells,.nil,hz=>hz
 | _,_,k,zs,cells,.cons (c:=c) (v:=v) h t,hz=>by
  rw [List.zipIdx_cons,List.foldl_cons,SJ]
  exact OC off (k+1) t (by rw [Array.toList_setIfInBounds];exact hz.set _ h)
theorem Qx {places:List (Nat×Nat)} : ∀ {ps:List (Nat×DV)} {vs:List (Nat×Value)} {zs cs:List DV} {cells:Array Value},Rf places zs ps=some cs→RepAll w I zs cells.toList →
  vs.map (·.1)=ps.map (·.1)→RepAll w I (ps.map (·.2)) (vs.map (·.2))→∃ cells',Instr.fill (places.toArray[·]?) cells vs=some cells'∧RepAll w I cs cells'.toList
 | [],vs,zs,cs,cells,h,hz,h1,h2=>by
  have:vs=[]:=by simpa using h1
  subst this
  simp only [Rf,Option.some.injEq] at h;subst h
  exact ⟨cells,rfl,hz⟩
 | (i,d)::ps,[],zs,cs,cells,h,hz,h1,h2=>by simp at h1
 | (i,d)::ps,(j,v)::vs,zs,cs,cells,h,hz,h1,h2=>by
  simp only [List.map_cons,List.cons.injEq] at h1
  obtain ⟨rfl,h1⟩:=h1
  simp only [List.map_cons] at h2
  cases h2 with
  | cons hd ht =>
   simp only [Rf] at h
   cases hp:places[j]? with
   | none=>rw [hp] at h;cases h
   | some on =>
    obtain ⟨off,n⟩:=on
    rw [hp] at h
    simp only at h
    split at h
    ·rename_i hc
     simp only [Bool.and_eq_true,Nat.ble_eq] at hc
     obtain ⟨⟨c1,c2⟩,c3⟩:=hc
     obtain ⟨k1,k2⟩:=hd.vcells c1
     have hvl:v.cells.size=n:=by rw [← Array.length_toList,← k1.length];exact Nat.eq_of_beq_eq_true c2
     have hzl:cells.size=zs.length:=by rw [← Array.length_toList,← hz.length]
     have hs:=OC (w:=w) (I:=I) off 0 (zs:=zs) (cells:=cells) k1 hz
     obtain ⟨cells',f1,f2⟩:=Qx h hs h1 ht
     refine ⟨cells',?_,f2⟩
     have hp':places.toArray[j]?=some (off,n):=by simpa using hp
     simp only [Instr.fill,hp']
     rw [if_neg (by simp;omega)]
     rw [← f1]
     congr 1
     rw [← Array.foldl_toList]
     simp
    ·cases h
theorem vbd {ty:Nat} {parts:Array (Nat×Operand)} {places:List (Nat×Nat)} {z:Value} {zs cs:List DV} {ps:List (Nat×DV)} (hp:EI P ty=some places) (hz:(P.info? ty).bind (·.zero)=some z) (hzr:∀ w I,RepAll w I zs z.cells.toList)
  (ho:o.op=.build ty parts:=by rfl) (hps:GE env parts.toList=some ps:=by rfl) (hf:Rf places zs ps=some cs:=by rfl):VOK P C o env H (.d (.ag cs)) :=
 .val (by simp [ho]) fun X a w I μ O _ _ _ hs=>by
  have key:∀ {xs:List (Nat×Operand)} {ps:List (Nat×DV)},GE env xs=some ps→(xs.map fun x=>(x.1,a.eval x.2)).map (·.1)=ps.map (·.1)∧RepAll w I (ps.map (·.2)) ((xs.map fun x=>(x.1,a.eval x.2)).map (·.2)):=by
   intro xs
   induction xs with
   | nil=>intro ps h;simp only [GE,Option.some.injEq] at h;subst h;exact ⟨rfl,.nil⟩
   | cons x xs ih =>
    intro ps h
    obtain ⟨i,x⟩:=x
    simp only [GE] at h
    cases h1:Bo (lk env x) with
    | none=>rw [h1] at h;cases h
    | some v =>
     cases h2:GE env xs with
     | none=>rw [h1,h2] at h;cases h
     | some vs =>
      rw [h1,h2] at h
      simp only [Option.some.injEq] at h;subst h
      obtain ⟨q1,q2⟩:=ih h2
      exact ⟨by simp only [List.map_cons];rw [q1],.cons (hs.deep h1) q2⟩
  obtain ⟨k1,k2⟩:=key hps
  obtain ⟨cells,f1,f2⟩:=Qx hf (hzr w I) k1 k2
  have hb:P.built ty (parts.map fun x=>(x.1,a.eval x.2)).toList=some cells:=by
   unfold EI at hp
   unfold Program.built
   cases hi:P.info? ty with
   | none=>rw [hi] at hz;cases hz
   | some it =>
    rw [hi] at hz
    simp only [oB] at hz
    split at hp
    ·rename_i fields hu
     simp only [hu,hz,hp]
     rw [Array.toList_map];exact f1
    ·cases hp
  refine ⟨.agg cells,w,I,[],?_,Below.refl _ _,fun _ h=>h,fun b hi=>⟨hs.ilt b hi,fun _=>hi⟩,.d ?_,nN,by simp⟩
  ·simp only [execOp,ho,Sem.run_bind]
   have:=run_build (P:=P) w ty (parts.map fun x=>(x.1,a.eval x.2)) cells hb
   rw [show (parts.map fun x=>match x with|(i,x)=>(i,a.eval x))=parts.map (fun (x:Nat×Operand)=>(x.1,a.eval x.2)) from rfl,this]
   simp only [Result.andThen_ok,Sem.run_pure]
  ·have:=Rep.ag cs cells.toList f2
   simpa using this
theorem AC {x:Operand} {ty n:Nat} {cs:List DV} (hag:C0 P ty=some true) (hn:AN P ty=n) (hn0:0<n:=by decide) (ho:o.op=.load ty x:=by rfl) (hv:lk env x=.d (.ptr cs):=by rfl) (hc:Nat.ble n cs.length=true:=by rfl) :
  VOK P C o env H (.d (.ag (cs.take n))):=by
 obtain ⟨h1,h2⟩:=Av hv (by simp)
 exact .pv (RJ ho h1 hag hn hn0 h2 (Nat.le_of_ble_eq_true hc))
theorem Sm {x:Operand} {ty id off:Nat} {cs:List AV} {c:DV} (hH:H[id]?=some (.box cs)) (hc:cs[off]?=some (.d c)) (hag:C0 P ty=some false) (ho:o.op=.load ty x:=by rfl) (hv:lk env x=.bp id off:=by rfl) : VOK P C o env H (.d c):=by
 obtain ⟨h1,h2⟩:=Av hv (by simp)
 exact .pv (OO ho h1 hag h2 hH hc rfl)
theorem KL : ∀ {cs:List AV} {ds:List DV} {vs:List Value} {bs:List Nat},PN cs=some ds→ARepAll P w I μ cs vs bs→RepAll w I ds vs
 | [],_,_,_,h,.nil=>by simp only [PN,Option.some.injEq] at h;subst h;exact .nil
 | c::cs,ds,_,_,h,.cons hh ht=>by
  cases c with
  | d v =>
   simp only [PN,Option.map_eq_some_iff] at h
   obtain ⟨r,h1,rfl⟩:=h
   cases hh with
   | d hh=>exact .cons hh (KL h1 ht)
  | nl =>
   simp only [PN,Option.map_eq_some_iff] at h
   obtain ⟨r,h1,rfl⟩:=h
   cases hh with
   | nl=>exact .cons (.sl0 _ _) (KL h1 ht)
  | _=>simp [PN] at h
theorem GT {x:Operand} {ty id n:Nat} {cs:List AV} {ds:List DV} (hH:H[id]?=some (.box cs)) (hag:C0 P ty=some true) (hn:AN P ty=n) (hn0:0<n:=by decide) (ho:o.op=.load ty x:=by rfl) (hv:lk env x=.bp id 0:=by rfl)
  (hd:PN cs=some ds:=by rfl) (hl:ds.length=n:=by rfl):VOK P C o env H (.d (.ag ds)):=by
 obtain ⟨h1,h2⟩:=Av hv (by simp)
 refine .val (by simp [ho]) fun X a w I μ O _ _ _ hs=>?_
 obtain ⟨blk,hm,he⟩:=hs.bp h1 h2
 obtain ⟨blk',bs,k1,⟨cells,et,m1,m2⟩,_,_⟩:=hs.heap id _ hH
 rw [hm] at k1;cases k1
 have hr:=KL hd m2
 have hh:Has w blk 0 cells.toList:=fun j u hj=>by simp only [World.cell?,m1,Nat.zero_add];simpa using hj
 refine ⟨.agg cells.toList.toArray,w,I,[],?_,Below.refl _ _,fun _ h=>h,fun b hi=>⟨hs.ilt b hi,fun _=>hi⟩,.d (.ag ds cells.toList hr),nN,by simp⟩
 simp only [execOp,ho,Instr.loadAt,he,Instr.sureAddr,Sem.run_bind,Sem.run_pure,Result.andThen_ok,D2 hag hn hn0 hh (by rw [← hr.length];exact hl)]
theorem Jw {t ty n:Nat} {cs:List DV} (hag:C0 P ty=some true) (hn:AN P ty=n) (hn0:0<n:=by decide) (ho:o.op=.load ty (.tmp t):=by rfl) (hv:get env t=.nb cs:=by rfl) (hl:cs.length=n:=by rfl) : VOK P C o env H (.d (.ag cs)):=by
 refine .val (by simp [ho]) fun X a w I μ O _ _ _ hs=>?_
 obtain ⟨blk,cells,e,h1,h2,h3,_⟩:=hs.nb_inv hv
 have he:a.eval (.tmp t)=.pointer (some ⟨blk,0,none⟩):=h1
 have hh:Has w blk 0 cells.toList:=fun j u hj=>by simp only [World.cell?,h2,Nat.zero_add];simpa using hj
 refine ⟨.agg cells.toList.toArray,w,I,[],?_,Below.refl _ _,fun _ h=>h,fun b hi=>⟨hs.ilt b hi,fun _=>hi⟩,.d (.ag cs cells.toList h3),nN,by simp⟩
 simp only [execOp,ho,Instr.loadAt,he,Instr.sureAddr,Sem.run_bind,Sem.run_pure,Result.andThen_ok,D2 hag hn hn0 hh (by rw [← h3.length];exact hl)]
theorem vfa {x:Operand} {s f off n:Nat} {cs:List DV} (hf:CM P s f=some (off,n)) (hn:0<n:=by decide) (ho:o.op=.fieldAddr s x f:=by rfl) (hv:lk env x=.d (.ptr cs):=by rfl) : VOK P C o env H (.d (.ptr (cs.drop off))):=by
 obtain ⟨h1,h2⟩:=Av hv (by simp)
 exact .pv (Ss ho h1 hf hn h2)
theorem DX {x:Operand} {s f off n id p:Nat} (hf:CM P s f=some (off,n)) (hn:0<n:=by decide) (ho:o.op=.fieldAddr s x f:=by rfl) (hv:lk env x=.bp id p:=by rfl) : VOK P C o env H (.bp id (p+off)):=by
 obtain ⟨h1,h2⟩:=Av hv (by simp)
 exact .pv (Uy ho h1 hf hn h2)
theorem vfd {x:Operand} {s f off:Nat} {c:DV} {cs:List DV} {ft:TypeId} (hf:CM P s f=some (off,1)) (hft:∃ fs fl,P.underlying s=some (.struct fs)∧fs[f]?=some fl∧fl.type=ft) (hag:C0 P ft=some false)
  (hv:lk env x=.d (.ag cs)) (hc:cs[off]?=some c) (ho:o.op=.field s x f:=by rfl):VOK P C o env H (.d c):=by
 refine .val (by simp [ho]) fun X a w I μ O _ _ _ hs=>?_
 have hr:=hs.deep (x:=x) (v:=.ag cs) (by rw [hv];rfl)
 obtain ⟨fs,fl,i,g1,g2,g3,g4,g5⟩:=L0 hf
 obtain ⟨fs',fl',e1,e2,e3⟩:=hft
 rw [g1] at e1;cases e1
 rw [g2] at e2;cases e2
 subst e3
 generalize hev:a.eval x=u at hr
 cases hr with
 | ag _ vs hr =>
  obtain ⟨v,k1,k2⟩:=hr.get off c hc
  refine ⟨v,w,I,[],?_,Below.refl _ _,fun _ h=>h,fun b hi=>⟨hs.ilt b hi,fun _=>hi⟩,.d k2,nN,by simp⟩
  have hoff:vs[fl.offset]?=some v:=by rw [g3];exact k1
  simp [execOp,ho,hev,Instr.field,run_underlying g1,g2,part,Lm hag,asAgg,hoff]
theorem VOK.tupd {vs:List DV} (h:VOK P C o env H (.tup (vs.map .d))) : VOK P C o env H (.d (.tup vs)):=by
 intro X a w I μ O next Q h1 h2 h3 hs hn
 refine h X a w I μ O next Q h1 h2 h3 hs fun v w' I' bs k1 k2 k3 k4 k5 k6=>hn v w' I' bs k1 k2 k3 ?_ k5 k6
 have key:∀ {vs:List DV} {us:List Value} {bs:List Nat},ARepAll P w' I' μ (vs.map .d) us bs→RepAll w' I' vs us∧bs=[]:=by
  intro vs
  induction vs with
  | nil=>intro us bs h;cases h;exact ⟨.nil,rfl⟩
  | cons v vs ih =>
   intro us bs h
   cases h with
   | cons hh ht =>
    obtain ⟨q1,rfl⟩:=ih ht
    cases hh with
    | d hh=>exact ⟨.cons hh q1,rfl⟩
 replace k4:ARep P w' I' μ (.tup (vs.map .d)) v bs:=k4
 cases k4 with
 | tup k4 =>
  obtain ⟨q1,rfl⟩:=key k4
  exact .d (.tup vs _ q1)
theorem vex {x:Operand} {i:Nat} {vs:List DV} {c:DV} (ho:o.op=.extract x i:=by rfl) (hv:lk env x=.d (.tup vs):=by rfl) (hc:vs[i]?=some c:=by rfl) : VOK P C o env H (.d c):=by
 refine .val (by simp [ho]) fun X a w I μ O _ _ _ hs=>?_
 have hr:=hs.deep (x:=x) (v:=.tup vs) (by rw [hv];rfl)
 generalize hev:a.eval x=u at hr
 cases hr with
 | tup _ us hr =>
  obtain ⟨v,k1,k2⟩:=hr.get i c hc
  refine ⟨v,w,I,[],?_,Below.refl _ _,fun _ h=>h,fun b hi=>⟨hs.ilt b hi,fun _=>hi⟩,.d k2,nN,by simp⟩
  have:us.toArray[i]?=some v:=by simpa using k1
  simp [execOp,ho,hev,Instr.extract,this]
end
end Go.FL
namespace Go.FL
open Go Go.RowKit
def cellD (P:Program) (env:Env) (t ty:Nat) (cs:List DV) : Prop:=(get env t=.d (.ptr cs)∨get env t=.nb cs)∧C0 P ty=some true∧AN P ty=cs.length∧0<cs.length
def T7 (P:Program) (env:Env) (r:AV) : List ResultVar→Prop
 | [.cell t ty]=>∃ cs,cellD P env t ty cs∧r=.d (.ag cs)
 | [.cell t ty,.tmp u]=>∃ cs v,cellD P env t ty cs∧Bo (get env u)=some v∧r=.tup [.d (.ag cs),.d v]
 | _=>False
def Zy (P:Program) (rs:List ResultVar) (r:AV) : Exit→Env→Ad→Prop
 | .normal,env,_=>T7 P env r rs
 | .ret,env,_=>T7 P env r rs
 | _,_,_=>False
section
variable {P:Program} {X:Snap} {env:Env} {H:Ad} {a:Act} {w:World} {I:Nat→Prop} {μ:List Nat} {O:Nat→Option Loc}
theorem Sim.cellD (hs:Sim P X env H a w I μ O) {t ty:Nat} {cs:List DV} (h:Go.FL.cellD P env t ty cs) : ∃ p v,a.tmps.getD t undef=.pointer (some p)∧(loadVar ty p).run P w=.ok v w∧Rep w I (.ag cs) v:=by
 obtain ⟨h1,h2,h3,h4⟩:=h
 rcases h1 with h1|h1
 ·have:=hs.envr t
  rw [h1] at this
  obtain ⟨bs,g1,_⟩:=this.plain rfl
  generalize a.tmps.getD t undef=u at g1
  cases g1 with
  | d g1 =>
   cases g1 with
   | ptr _ b off vs k1 k2 k3=>exact ⟨_,_,rfl,D2 h2 h3 h4 k2 k3.length.symm,.ag _ _ k3⟩
 ·obtain ⟨blk,cells,e,g1,g2,g3,_⟩:=hs.nb_inv h1
  have hh:Has w blk 0 cells.toList:=fun j u hj=>by simp only [World.cell?,g2,Nat.zero_add];simpa using hj
  exact ⟨_,_,g1,D2 h2 h3 h4 hh g3.length.symm,.ag _ _ g3⟩
theorem Sim.deepT (hs:Sim P X env H a w I μ O) {t:Nat} {v:DV} (h:Bo (get env t)=some v) : Rep w I v (a.tmps.getD t undef):=hs.deep (x:=.tmp t) h
theorem Sim.resultsC (hs:Sim P X env H a w I μ O) {fn:Func} {rs:List ResultVar} (hrs:fn.results=rs.toArray) {r:AV} (h:T7 P env r rs) :
  ∃ v bs,(Go.results fn a.tmps).run P w=.ok v w∧ARep P w I μ r v bs∧bs.Nodup∧∀ b∈bs,∃ l,O b=some l:=by
 unfold T7 at h
 split at h
 ·rename_i t ty
  obtain ⟨cs,h1,rfl⟩:=h
  obtain ⟨p,v,k1,k2,k3⟩:=hs.cellD h1
  refine ⟨v,[],?_,.d k3,nN,by simp⟩
  have hx:(do let x ← (do loadVar ty (← asAddr (a.tmps.getD t undef)));pure x).run P w=.ok v w:=by rw [k1];simp [asAddr,k2]
  simp only [Go.results,hrs]
  simpa using hx
 ·obtain ⟨cs,u,h1,h2,rfl⟩:=h
  obtain ⟨p,v,k1,k2,k3⟩:=hs.cellD h1
  refine ⟨_,[],(results_cell_tmp (by rw [hrs]) _ _ _).trans (by rw [k1];simp [asAddr,k2]),.tup (us:=[v,_]) (ARepAll.cons (b1:=[]) (.d k3) (ARepAll.cons (b1:=[]) (.d (hs.deepT h2)) .nil)),nN,by simp⟩
 ·exact h.elim
theorem Fn.ofC {f:FuncId} {fn:Func} {c:Code} {args:List DV} {r:AV} {rs:List ResultVar} {nt:Nat} (hf:P.funcs[f]?=some fn) (hb:fn.body=some c) (hrs:fn.results=rs.toArray) (hnt:fn.ntmps=nt) (hn:args.length≤nt) (hbp:noBp r=true)
  (h:AW P {nt:=(0,nt),n0:=0,ne:=0} c (Zy P rs r) (EA 0 args) []):Fn P f args r:=by
 intro w I vs hI ha
 refine callsIn_of_wp hf hb trivial ?_
 have hlen:=ha.length
 let X:Snap:={w:=w,I:=I,K:=fun b=>b<w.heap.size,n0:=0,ne:=0,μ:=[],nt:=(0,nt),dfs:=[]}
 let a:Act:={tmps:=vs.toArray++Array.replicate (fn.ntmps-vs.toArray.size) undef,defers:=[]}
 have hs:Sim P X (EA 0 args) [] a w I [] (fun _=>none):=by
  refine ⟨{prot:=fun _ _=>rfl,kO:=fun _ _=>rfl,kI:=fun _ _ h=>h,mono:=fun _ h=>h,os:=rfl,tape:=rfl,output:=rfl,size:=Nat.le_refl _,own:=(fun b l h=>by simp at h),ilt:=hI,μlen:=rfl,μpre:=(fun i b hi _=>by simp [X] at hi),nle:=(by simp [X]),heap:=(fun id o h=>by simp at h),klt:=fun b hb=>hb,n0le:=(by simp [X])},fun t=>?_,?_,rfl,fun t h=>absurd h (by simp [X])⟩
  ·rcases Gr (tmps:=a.tmps) (k:=0) ha (fun j v hj=>by
    have hjl:j<vs.length:=(lS.1 hj).1
    have e2:(vs.toArray++Array.replicate (fn.ntmps-vs.length) undef)[j]?=some v:=by
     rw [Array.getElem?_append_left (by simpa using hjl)];simpa using hj
    simp [a,e2]) t with h0|⟨d,h0,h1⟩
   ·rw [h0];exact .un
   ·rw [h0];exact .of (bs:=[]) (.d h1) nN (by simp)
  ·simp [a,X,hnt];omega
 have hw:=h X a w I [] (fun _=>none) rfl rfl rfl hs
 refine wpIn_mono hw fun e a' w' hp=>?_
 obtain ⟨env',H',I',μ',O',s,q⟩:=hp
 have fin:T7 P env' r rs→a'.defers=[]∧∃ v,(Go.results fn a'.tmps).run P w'=.ok v w'∧∃ v' I' bs,Ending.returned v=.returned v'∧Below w.heap.size w w'∧(∀ b,I b→I' b) ∧
   (∀ b,I' b→b<w'.heap.size∧(b<w.heap.size→I b))∧ARep P w' I' [] r v' bs∧bs.Nodup∧∀ b∈bs,w.heap.size≤b∧b<w'.heap.size∧¬I' b:=by
  intro hres
  obtain ⟨v,bs,h1,h2,h3,h4⟩:=s.resultsC hrs hres
  refine ⟨s.dfs.1,v,h1,v,I',bs,rfl,⟨s.os,s.tape,s.output,s.size,fun b hb=>s.prot b hb⟩,s.mono,fun b hi=>⟨s.ilt b hi,fun hb=>s.kI b hb hi⟩,h2.noBp hbp,h3,fun b hm=>?_⟩
  obtain ⟨l,hl⟩:=h4 b hm
  refine ⟨?_,(s.own b l hl).1,(s.own b l hl).2⟩
  rcases Nat.lt_or_ge b w.heap.size with hlt|hge
  ·have:=s.kO b hlt;rw [this] at hl;cases hl
  ·exact hge
 cases e with
 | normal=>exact fin q
 | ret=>exact fin q
 | _=>exact q.elim
end
end Go.FL
namespace Go.FL
open Go Go.RowKit
section
variable {P:Program} {C:Cx} {X:Snap} {o:Oper} {ops:Array Oper} {Q:Exit→Env→Ad→Prop} {env env':Env} {H H':Ad} {a:Act} {w w':World} {I I':Nat→Prop} {μ μ':List Nat} {O O':Nat→Option Loc}
 {K:Env→Ad→Prop} {k:Nat} {l:List Oper}
theorem Zk {x:Operand} {ty:Nat} {s:ByteArray} (hu:P.underlying ty=some .string) (ho:o.op=.range ty x:=by rfl) (hv:lk env x=.d (.s s):=by rfl) : VOK P C o env H (.it s 0) :=
 .val (by simp [ho]) fun X a w I μ O _ _ _ hs=>by
  have hr:=hs.deep (x:=x) (v:=.s s) (by rw [hv];rfl)
  generalize hev:a.eval x=u at hr
  cases hr with
  | s _ =>
   refine ⟨.pointer (some ⟨w.heap.size,0,none⟩),w.alloc (.stringIter s 0),I,[w.heap.size],?_,Bu _,fun b hi=>hi,fun b hi=>⟨nL (hs.ilt b hi) (Bu _).size,fun _=>hi⟩,
    ARep.it s 0 w.heap.size (heap_alloc_new w _),by simp,fun b hb=>?_⟩
   ·have:=run_range_string (P:=P) w ty s hu
    simp only [execOp,ho,hev,Sem.run_bind,this,Result.andThen_ok,Sem.run_pure]
    rfl
   ·simp at hb;subst hb
    exact ⟨Nat.le_refl _,by simp,fun hi=>by have:=hs.ilt _ hi;omega⟩
theorem Sim.it_inv (hs:Sim P X env H a w I μ O) {t:Nat} {s:ByteArray} {pos:Nat} (hg:get env t=.it s pos) :
  ∃ blk,a.tmps.getD t undef=.pointer (some ⟨blk,0,none⟩)∧w.heap[blk]?=some (.stringIter s pos)∧O blk=some (.t t):=by
 have:=hs.envr t
 rw [hg] at this
 obtain ⟨bs,h1,h2,h3⟩:=this.plain rfl
 generalize a.tmps.getD t undef=v at h1
 cases h1 with
 | it _ _ blk hh=>exact ⟨blk,rfl,hh,h3 blk (by simp)⟩
theorem Sim.blkSet (hs:Sim P X env H a w I μ O) {t blk:Nat} {av:AV} (hO:O blk=some (.t t)) (hno:Am (get env t)=false) (hr:A5 av=false) (hoth:∀ b,b≠blk→w'.heap[b]?=w.heap[b]?) (hsz:w'.heap.size=w.heap.size)
  (hos:w'.os=w.os) (htp:w'.tape=w.tape) (hout:w'.output=w.output) (hnew:ARep P w' I μ av (a.tmps.getD t undef) [blk]):Sim P X ((t,av)::env) H a w' I μ O:=by
 obtain ⟨n1,n2,n3⟩:=hs.other_blk hO
 refine {hs.toMem with
  prot:=fun b hk=>(hoth b (n2 b hk)).trans (hs.prot b hk)
  os:=hos.trans hs.os
  tape:=htp.trans hs.tape
  output:=hout.trans hs.output
  size:=by rw [hsz];exact hs.size
  own:=fun b l hl=>by rw [hsz];exact hs.own b l hl
  ilt:=fun b hi=>by rw [hsz];exact hs.ilt b hi
  heap:=fun id ob ho=>?_
  envr:=fun s=>?_
  nt:=hs.nt
  dfs:=hs.dfs}
 ·obtain ⟨bb,bs,k1,k2,k3,k4⟩:=hs.heap id ob ho
  have hne:=n3 id ob bb bs ho k1 k3 k4
  refine ⟨bb,bs,k1,?_,k3,k4⟩
  cases ob with
  | box c =>
   obtain ⟨cl,et,m1,m2⟩:=k2
   exact ⟨cl,et,(hoth bb (hne bb (by simp))).trans m1,m2.keep (fun _ h=>h) (fun b hi=>hoth b (n1 b hi)) (fun _ _ h=>h) fun b hb=>hoth b (hne b (by simp [hb]))⟩
 ·by_cases hst:t=s
  ·subst hst
   rw [show get ((t,av)::env) t=av by simp [get]]
   exact .of hnew (by simp) (by simpa using hO)
  ·rw [show get ((t,av)::env) s=get env s by simp [get,hst]]
   have key:∀ p e xs,A1 env H p=.own e xs→A1 ((t,av)::env) H p=.own e xs∧∀ v,Br a w μ p=some v→Br a w' μ p=some v:=by
    intro p e' xs hp
    cases p with
    | t r =>
     have hr':t≠r:=fun h=>by subst h;simp only [A1] at hp;rw [hp] at hno;cases hno
     exact ⟨by simp only [A1,get,if_neg hr'];exact hp,fun v hv=>hv⟩
    | c id off =>
     refine ⟨hp,fun v hv=>?_⟩
     simp only [Br,Option.bind_eq_some_iff] at hv ⊢
     obtain ⟨bb,hb1,hb2⟩:=hv
     refine ⟨bb,hb1,?_⟩
     simp only [A1] at hp
     cases hH:H[id]? with
     | none=>rw [hH] at hp;cases hp
     | some ob =>
      obtain ⟨bb',bs,k1,k2,k3,k4⟩:=hs.heap id ob hH
      rw [hb1] at k1;cases k1
      rw [World.cell?_of_block (w:=w) (a:=⟨bb,off,none⟩) (hoth bb (n3 id ob bb bs hH hb1 k3 k4 bb (by simp)))]
      exact hb2
   have ht:=hs.envr s
   cases hgs:get env s with
   | ref p off len =>
    rw [hgs] at ht
    obtain ⟨e',xs,A,n,c,g1,g2,g3,g4⟩:=ht
    exact ⟨e',xs,A,n,c,(key p e' xs g1).1,(key p e' xs g1).2 _ g2,g3,g4⟩
   | ep p i k =>
    rw [hgs] at ht
    obtain ⟨e',xs,b,n,c,g1,g2,g3,g4,g5⟩:=ht
    exact ⟨e',xs,b,n,c,(key p e' xs g1).1,(key p e' xs g1).2 _ g2,g3,g4,g5⟩
   | _ =>
    rw [hgs] at ht
    obtain ⟨bs,g1,g2,g3⟩:=ht.plain rfl
    exact .of (g1.keep (fun _ h=>h) (fun b hi=>hoth b (n1 b hi)) (fun _ _ h=>h) fun b hb=>hoth b fun e=>by
     subst e
     have:=g3 b hb;rw [hO] at this;simp at this;exact hst this) g2 g3
theorem QX {s:ByteArray} {pos blk:Nat} {ty:TypeId} (hh:w.heap[blk]?=some (.stringIter s pos)) (h:pos<s.size) :
  (Instr.next (.pointer (some ⟨blk,0,none⟩)) true ty).run P w=.ok (.tuple #[.bool true,.int .i64 pos,.int .i32 (Utf8.decode s pos).1]) {w with heap:=w.heap.setIfInBounds blk (.stringIter s (pos+(Utf8.decode s pos).2))}:=by
 simp only [Instr.next,getObj,setObj,Sem.run_bind,Sem.run,hh,Result.andThen,h,if_true]
 simp [goInt]
theorem N7 {s:ByteArray} {pos blk:Nat} {ty:TypeId} (hh:w.heap[blk]?=some (.stringIter s pos)) (h:¬pos<s.size) :
  (Instr.next (.pointer (some ⟨blk,0,none⟩)) true ty).run P w=.ok (.tuple #[.bool false]) w:=by
 simp [Instr.next,getObj,Sem.run,hh,h]
theorem nxt {r t:Nat} {s:ByteArray} {pos:Nat} (h:RL P C ops Q (k+1) l ((t,.d (.tup [.b true,.i .i64 pos,.i .i32 (Utf8.decode s pos).1]))::(r,.it s (pos+(Utf8.decode s pos).2))::env) H) (hlt:pos<s.size) (hg:grd ops env o true=true:=by rfl)
  (ho:o.op=.next (.tmp r) true:=by rfl) (hv:get env r=.it s pos:=by rfl) (hd:o.dst=some t:=by rfl) (hf:Am (get env t)=false:=by rfl) (ht:okT C.nt t:=by rfl) (hrt:r≠t:=by decide):RL P C ops Q k (o::l) env H:=by
 have hf2:Am (get ((r,.it s (pos+(Utf8.decode s pos).2))::env) t)=false:=by simp only [get,if_neg hrt];exact hf
 rw [← Al hf2] at h
 refine .go hg (.val (env':=(r,.it s (pos+(Utf8.decode s pos).2))::env) (H':=H) (by simp [ho]) hd ht (fun X a w I μ O _ _ _ hs=>?_) h)
 obtain ⟨blk,h1,h2,hO⟩:=hs.it_inv hv
 have he:a.eval (.tmp r)=.pointer (some ⟨blk,0,none⟩):=h1
 have hlt2:blk<w.heap.size:=(hs.own blk _ hO).1
 refine ⟨_,_,I,μ,O,by simp only [execOp,ho,he,Sem.run_bind,QX h2 hlt,Result.andThen_ok,Sem.run_pure];rfl,?_,.d (.tup _ [_,_,_] (.cons (.b _) (.cons (.i _ _) (.cons (.i _ _) .nil))))⟩
 refine hs.blkSet (av:=.it s (pos+(Utf8.decode s pos).2)) hO (by rw [hv];rfl) rfl (fun b hb=>?_) (by simp) rfl rfl rfl ?_
 ·show (w.heap.setIfInBounds blk _)[b]?=_
  rw [Array.getElem?_setIfInBounds,if_neg (Ne.symm hb)]
 ·rw [h1]
  refine .it _ _ blk ?_
  show (w.heap.setIfInBounds blk _)[blk]?=_
  rw [Array.getElem?_setIfInBounds,if_pos rfl,if_pos hlt2]
theorem nxe {r t:Nat} {s:ByteArray} {pos:Nat} (h:RL P C ops Q (k+1) l ((t,.d (.tup [.b false]))::env) H) (hlt:¬pos<s.size) (hg:grd ops env o true=true:=by rfl)
  (ho:o.op=.next (.tmp r) true:=by rfl) (hv:get env r=.it s pos:=by rfl) (hd:o.dst=some t:=by rfl) (hf:Am (get env t)=false:=by rfl) (ht:okT C.nt t:=by rfl):RL P C ops Q k (o::l) env H:=by
 rw [← Al hf] at h
 refine .go hg (.val (env':=env) (H':=H) (by simp [ho]) hd ht (fun X a w I μ O _ _ _ hs=>?_) h)
 obtain ⟨blk,h1,h2,hO⟩:=hs.it_inv hv
 have he:a.eval (.tmp r)=.pointer (some ⟨blk,0,none⟩):=h1
 exact ⟨_,w,I,μ,O,by simp only [execOp,ho,he,Sem.run_bind,N7 h2 hlt,Result.andThen_ok,Sem.run_pure],hs,.d (.tup _ [_] (.cons (.b _) .nil))⟩
end
end Go.FL
namespace Go.FL
open Go Go.Proofs
theorem Bw : Tryz.prog.follows .mixedOrders=true:=by kernel_rfl
theorem s32 : D9 Tryz.prog 22=some (118,1,4):=by kernel_rfl
theorem e32 : C1 Tryz.prog 22=some (118,1,4,.int .u32 0):=by kernel_rfl
theorem l32 : Tryz.prog.underlying 22=some (.slice (Tryz.prog.elem 22)):=by kernel_rfl
theorem a32 : C0 Tryz.prog 118=some false:=by kernel_rfl
theorem z32 : AN Tryz.prog 118=1:=by kernel_rfl
theorem u32 : Tryz.prog.underlying 118=some (.int .u32):=by kernel_rfl
theorem u64 : Tryz.prog.underlying 112=some (.int .u64):=by kernel_rfl
theorem i64 : Tryz.prog.underlying 3=some (.int .i64):=by kernel_rfl
theorem u8 : Tryz.prog.underlying 5=some (.int .u8):=by kernel_rfl
theorem bo : Tryz.prog.underlying 4=some .bool:=by kernel_rfl
theorem st : Tryz.prog.underlying 9=some .string:=by kernel_rfl
def U (n:Nat) : DV:=.i .u32 n
def L (xs:List Nat) : List DV:=xs.map U
theorem Ab (xs:List Nat) : (L xs).length=xs.length:=by simp [L]
theorem BP (xs:List Nat) : ∃ sz,∀ x∈L xs,x.cells.length=sz:=⟨1,fun x hx=>by
 simp only [L,List.mem_map] at hx
 obtain ⟨n,_,rfl⟩:=hx;rfl⟩
theorem Gs (xs:List Nat) : ∀ x∈L xs,x.cells.length=1:=fun x hx=>by
 simp only [L,List.mem_map] at hx
 obtain ⟨n,_,rfl⟩:=hx;rfl
theorem EW {xs:List Nat} {i n:Nat} (h:xs[i]?=some n) : (L xs)[i]?=some (U n):=by simp [L,h]
theorem QL (xs ys:List Nat) : L (xs++ys)=L xs++L ys:=by simp [L]
theorem P5 (xs:List Nat) (n:Nat) : (L xs).take n=L (xs.take n):=by simp [L,List.map_take]
def JI (xs:List Nat) : List Nat:=(xs.reverse.dropWhile (· == 0)).reverse
theorem Hg (xs:List Nat) : JI (xs++[0])=JI xs:=by simp [JI]
theorem I9 (xs:List Nat) {x:Nat} (h:x≠0) : JI (xs++[x])=xs++[x]:=by simp [JI,h]
end Go.FL
namespace Go.FL
open Go Go.RowKit
def Aw : Nat:=1000000000000000
def rd? {α:Type} (xs:List α) (i:Int) : Option α:=if 0≤i then xs[i.toNat]? else none
def ap? {α:Type} (m:Nat) (xs ys:List α) : Option (List α):=if xs.length+ys.length≤m then some (xs++ys) else none
def jn {α β:Type} (k:α) (b:α→β) : β:=b k
abbrev w64 : Int→Int:=IntKind.i64.wrap
section
variable {α β:Type}
theorem bnd {x:Option α} {f:α→Option β} {r:β} (h:x.bind f=some r) : ∃ a,x=some a∧f a=some r:=Option.bind_eq_some_iff.1 h
theorem UD {c:Prop} [Decidable c] {a b r:α} (hc:c) (h:(if c then a else b)=r) : a=r:=by rwa [if_pos hc] at h
theorem Vi {c:Prop} [Decidable c] {a b r:α} (hc:¬c) (h:(if c then a else b)=r) : b=r:=by rwa [if_neg hc] at h
theorem GX {c:Prop} [Decidable c] {a:Option α} {r:α} (h:(if c then a else none)=some r) : c∧a=some r:=by
 split at h
 ·exact ⟨by assumption,h⟩
 ·cases h
theorem AF {k:α} {b:α→Option β} {r:β} (h:jn k b=some r) : ∃ K,K=k∧b K=some r:=⟨k,rfl,h⟩
theorem Ae {xs:List α} {i:Int} {x:α} (h:rd? xs i=some x) : ∃ n : Nat,i=n∧xs[n]?=some x:=by
 unfold rd? at h
 split at h
 ·exact ⟨i.toNat,by omega,h⟩
 ·cases h
theorem KY {m:Nat} {xs ys zs:List α} (h:ap? m xs ys=some zs) : xs.length+ys.length≤m∧zs=xs++ys:=by
 unfold ap? at h
 split at h
 ·exact ⟨by assumption,(oI h).symm⟩
 ·cases h
def E5 (p:Prop) [Decidable p] : Option Unit:=if p then some () else none
theorem EP {p:Prop} [Decidable p] {u:Unit} (h:E5 p=some u) : p:=by
 unfold E5 at h
 split at h
 ·assumption
 ·cases h
theorem bf {b:Bool} (h:¬b=true) : b=false:=by cases b<;>simp at h ⊢
theorem ntt {b:Bool} (h:b=false) : (!b)=true:=by rw [h];rfl
theorem ntf {b:Bool} (h:b=true) : (!b)=false:=by rw [h];rfl
end
section
variable {P:Program} {C:Cx} {X:Snap} {o:Oper} {ops:Array Oper} {Q:Exit→Env→Ad→Prop} {env env':Env} {H H':Ad} {a:Act} {w w':World} {I I':Nat→Prop} {μ μ':List Nat} {O O':Nat→Option Loc}
 {K:Env→Ad→Prop} {k:Nat} {l:List Oper}
def JR {σ:Type} (I:σ→Prop) (e:σ→Env) (g:σ→Ad) : Env→Ad→Prop:=fun env H=>∃ s,I s∧env=e s∧H=g s
theorem AW.mj {x y:Code} {σ:Type} (I:σ→Prop) (e:σ→Env) (g:σ→Ad) (h1:AW P C x (Hf (JR I e g) Q) env H) (h2:∀ s,I s→AW P C y Q (e s) (g s)) : AW P C (.seq x y) Q env H :=
 .mid (JR I e g) h1 fun _ _ ⟨s,hi,he,hg⟩=>by subst he;subst hg;exact h2 s hi
theorem AW.mr {x:Code} {K:Env→Ad→Prop} {σ:Type} (I:σ→Prop) (e:σ→Env) (g:σ→Ad) (h1:AW P C x (Hf (JR I e g) Q) env H) (h2:∀ s,I s→K (e s) (g s)) : AW P C x (Hf K Q) env H :=
 h1.mono fun ex env' H' h=>by
  cases ex with
  | normal=>obtain ⟨s,hi,he,hg⟩:=h;subst he;subst hg;exact h2 s hi
  | _=>exact h
theorem jr {σ:Type} {I:σ→Prop} {e:σ→Env} {g:σ→Ad} (s:σ) (hi:I s) (he:env=e s:=by rfl) (hg:H=g s:=by rfl) : JR I e g env H:=⟨s,hi,he,hg⟩
theorem cnt {t:Nat} {x:Bool} {c1 c2:Code} (hb:x=true) (h1:AW P C c1 Q env H) (hx:get env t=.d (.b x):=by rfl) : AW P C (.cond (.tmp t) c1 c2) Q env H:=.cond hx (fun _=>h1) (fun h=>by rw [hb] at h;cases h)
theorem cnf {t:Nat} {x:Bool} {c1 c2:Code} (hb:x=false) (h2:AW P C c2 Q env H) (hx:get env t=.d (.b x):=by rfl) : AW P C (.cond (.tmp t) c1 c2) Q env H:=.cond hx (fun h=>by rw [hb] at h;cases h) (fun _=>h2)
theorem VOK.cast {v v':AV} (h:VOK P C o env H v) (e:v=v') : VOK P C o env H v':=e▸h
theorem VOK.lit {x b:Bool} (h:VOK P C o env H (.d (.b x))) (e:x=b) : VOK P C o env H (.d (.b b)):=e▸h
theorem Ak {c:Call} {fo:Operand} {f:Nat} {xs:List DV} {r:AV} (hfn:Fn P f xs r) (hcall:∀ args w,(callFunc f args).run P w=.ok (.enter f args) w) (ho:o.op=.call c:=by rfl) (hc:c.callee=.value fo:=by rfl)
  (hfo:lk env fo=.d (.fn f [] []):=by rfl) (ha:argsD env c.args.toList=some xs:=by rfl) (hr:A5 r=false:=by rfl):VOK P C o env H r :=
 vcl (first:=[]) (caps:=[]) (by rw [List.nil_append,List.append_nil];exact hfn) hcall ho hc hfo ha hr
theorem A9 {c:Call} {x:Operand} {ty n:Nat} {xs:List DV} (hl:xs.length=n) (hsz:∃ sz,∀ x∈xs,x.cells.length=sz) (hu:P.underlying ty=some (.slice (P.elem ty))) (ho:o.op=.call c:=by rfl) (hc:c.callee=.builtin .len:=by rfl) (hx:c.args=#[x]:=by rfl)
  (hty:c.argTypes=#[ty]:=by rfl) (hv:rd env H (lk env x)=some xs:=by rfl):VOK P C o env H (.d (.i .i64 n)):=by
 subst hl;exact vln hsz hu ho hc hx hty hv
theorem VOK.same {d:DV} (hdef:∀ c,o.op≠.defer c) (h:∀ X a w I μ O,X.n0=C.n0→Sim P X env H a w I μ O→∃ v,(execOp a.eval o).run P w=.ok (.value v) w∧Rep w I d v) : VOK P C o env H (.d d) :=
 .val hdef fun X a w I μ O _ h2 _ hs =>
  let ⟨v,h1,h3⟩:=h X a w I μ O h2 hs
  ⟨v,w,I,[],h1,Below.refl _ _,fun _ h=>h,fun b hi=>⟨hs.ilt b hi,fun _=>hi⟩,.d h3,nN,by simp⟩
theorem vng {xt:TypeId} {x:Operand} {q:IntKind} {n:Int} (ho:o.op=.unOp .neg xt x:=by rfl) (hx:lk env x=.d (.i q n):=by rfl) : VOK P C o env H (.d (.i q (q.wrap (0-n)))):=by
 obtain ⟨h1,h2⟩:=Av hx (by simp)
 exact .pv (YK ho h1 h2)
theorem MH {a b m by_:Nat} (h:a+b≤m) (hby:m * by_≤140737488355328∧m≤9223372036854775807) : a+b≤9223372036854775807∧(a+b) * by_≤140737488355328 :=
 ⟨nT h hby.2,nT (Nat.mul_le_mul_right _ h) hby.1⟩
theorem N8 {α:Type} {F:List α→List DV} (hF:∀ xs ys,F (xs++ys)=F xs++F ys) {us ws zs:List α} {m:Nat} (hz:ap? m us ws=some zs) {c:Call} {y:Operand} {r s ty t e sz by_:Nat} {z:Value} (hby:m * by_≤140737488355328∧m≤9223372036854775807)
  (h:RL P C ops Q (k+1) l ((t,.own e (F zs))::(s,.un)::(r,.un)::env) H) (hsz:∀ xs,∀ x∈F xs,x.cells.length=sz) (hlen:∀ xs,(F xs).length=xs.length)
  (hT:C1 P ty=some (e,sz,by_,z)) (hg:grd ops env o true=true:=by rfl) (ho:o.op=.call c:=by rfl) (hc:c.callee=.builtin .append:=by rfl)
  (hx:c.args=#[.tmp r,y]:=by rfl) (hty:c.argTypes=#[ty,ty]:=by rfl) (hv:get env r=.ref (.t s) 0 (F us).length:=by rfl) (hp:get env s=.own e (F us):=by rfl) (hy:rd env H (lk env y)=some (F ws):=by rfl) (hd:o.dst=some t:=by rfl)
  (hf:Am (get env t)=false:=by rfl) (hr:D8 s ((r,.un)::env.filter fun x=>x.1 != r)=false:=by rfl) (ht:okT C.nt t:=by rfl):RL P C ops Q k (o::l) env H:=by
 obtain ⟨hle,rfl⟩:=KY hz
 exact apr (xs:=F us) (ys:=F ws) (len:=(F us).length) (by rw [hlen,hlen];exact MH hle hby) (by rw [List.take_length,← hF];exact h) (hsz ws) hT hg ho hc hx hty hv hp hy hd hf hr ht
theorem XU {α:Type} {F:List α→List DV} (hF:∀ xs ys,F (xs++ys)=F xs++F ys) {us ws zs:List α} {m:Nat} (hz:ap? m us ws=some zs) {c:Call} {y:Operand} {r ty t e sz by_:Nat} {z:Value} (hby:m * by_≤140737488355328∧m≤9223372036854775807)
  (h:RL P C ops Q (k+1) l ((t,.own e (F zs))::(r,.un)::env) H) (hsz:∀ xs,∀ x∈F xs,x.cells.length=sz) (hlen:∀ xs,(F xs).length=xs.length)
  (hT:C1 P ty=some (e,sz,by_,z)) (hg:grd ops env o true=true:=by rfl) (ho:o.op=.call c:=by rfl) (hc:c.callee=.builtin .append:=by rfl)
  (hx:c.args=#[.tmp r,y]:=by rfl) (hty:c.argTypes=#[ty,ty]:=by rfl) (hv:get env r=.own e (F us):=by rfl) (hy:rd env H (lk env y)=some (F ws):=by rfl) (hd:o.dst=some t:=by rfl)
  (hf:Am (get env t)=false:=by rfl) (hr:D8 r env=false:=by rfl) (ht:okT C.nt t:=by rfl):RL P C ops Q k (o::l) env H:=by
 obtain ⟨hle,rfl⟩:=KY hz
 exact apo (xs:=F us) (ys:=F ws) (by rw [hlen,hlen];exact MH hle hby) (by rw [← hF];exact h) (hsz ws) hT hg ho hc hx hty hv hy hd hf hr ht
theorem Tt {α:Type} {F:List α→List DV} {ws zs:List α} {m:Nat} (hz:ap? m [] ws=some zs) {c:Call} {x y:Operand} {ty t e sz by_:Nat} {z:Value} (hby:m * by_≤140737488355328∧m≤9223372036854775807)
  (h:RL P C ops Q (k+1) l ((t,.own e (F zs))::env) H) (hsz:∀ xs,∀ x∈F xs,x.cells.length=sz) (hlen:∀ xs,(F xs).length=xs.length)
  (hT:C1 P ty=some (e,sz,by_,z)) (hg:grd ops env o true=true:=by rfl) (ho:o.op=.call c:=by rfl) (hc:c.callee=.builtin .append:=by rfl)
  (hx:c.args=#[x,y]:=by rfl) (hty:c.argTypes=#[ty,ty]:=by rfl) (hv:lk env x=.nl:=by rfl) (hy:rd env H (lk env y)=some (F ws):=by rfl) (hd:o.dst=some t:=by rfl)
  (hf:Am (get env t)=false:=by rfl) (ht:okT C.nt t:=by rfl):RL P C ops Q k (o::l) env H:=by
 obtain ⟨hle,hz'⟩:=KY hz
 rw [hz',List.nil_append] at h
 exact apn (ys:=F ws) (by rw [hlen];have:=MH hle hby;simpa using this) h (hsz ws) hT hg ho hc hx hty hv hy hd hf ht
end
end Go.FL
namespace Go.FL
open Go
section
variable {P:Program} {C:Cx} {o:Oper} {ops:Array Oper} {Q Q':Exit→Env→Ad→Prop} {env env':Env} {H H':Ad} {k:Nat} {l:List Oper}
theorem va {x:Operand} {d:DV} {t:Nat} (h:RL P C ops Q (k+1) l ((t,.d d)::env) H) (ho:o.op=.move x:=by rfl) (hv:lk env x=.d d:=by rfl) (hg:grd ops env o true=true:=by rfl) (hd:o.dst=some t:=by rfl)
  (hf:Am (get env t)=false:=by rfl) (ht:okT C.nt t:=by rfl):RL P C ops Q k (o::l) env H:=vk (Ah ho hv) h hg hd rfl hf ht
theorem vL {x:Operand} {c b:Bool} {t:Nat} (e:c=b) (h:RL P C ops Q (k+1) l ((t,.d (.b b))::env) H) (ho:o.op=.move x:=by rfl) (hv:lk env x=.d (.b c):=by rfl) (hg:grd ops env o true=true:=by rfl) (hd:o.dst=some t:=by rfl)
  (hf:Am (get env t)=false:=by rfl) (ht:okT C.nt t:=by rfl):RL P C ops Q k (o::l) env H:=vk (VOK.lit (Ah ho hv) e) h hg hd rfl hf ht
theorem vb {op:BinOp} {xt yt:TypeId} {x y:Operand} {q q':IntKind} {m n:Int} {d:DV} {t:Nat} (h:RL P C ops Q (k+1) l ((t,.d d)::env) H) (ho:o.op=.binOp op xt x y yt:=by rfl)
  (hx:lk env x=.d (.i q m):=by rfl) (hy:lk env y=.d (.i q' n):=by rfl) (hb:NQ op q m n=some (True,d):=by rfl) (hk:(decide (q'=q)||Fh op)=true:=by rfl) (hg:grd ops env o true=true:=by rfl) (hd:o.dst=some t:=by rfl)
  (hf:Am (get env t)=false:=by rfl) (ht:okT C.nt t:=by rfl):RL P C ops Q k (o::l) env H:=vk (vbi ho hx hy hb hk) h hg hd rfl hf ht
theorem AW.sk {c:Code} (h:AW P C c Q' env H) (hq:Q .normal env H=AW P C c Q' env H:=by rfl) : AW P C .skip Q env H:=.skip (hq▸h)
end
end Go.FL
namespace Go.FL
open Go Go.RowKit
section
variable {P:Program} {C:Cx} {X:Snap} {o:Oper} {ops:Array Oper} {Q:Exit→Env→Ad→Prop} {env env':Env} {H H':Ad} {a:Act} {w w':World} {I I':Nat→Prop} {μ μ':List Nat} {O O':Nat→Option Loc}
 {K:Env→Ad→Prop} {k:Nat} {l:List Oper}
theorem Sim.nbbA (hs:Sim P X env H a w I μ O) {t:Nat} {cs:List DV} (hg:get env t=.nb cs) {cs':List AV} (hA:∀ blk cells e,a.tmps.getD t undef=.pointer (some ⟨blk,0,none⟩)→w.heap[blk]?=some (.cells cells e (0,0))→ARepAll P w I μ cs' cells.toList []) :
  ∃ I' μ' O',Sim P X ((t,.bp H.length 0)::env) (H++[.box cs']) a w I' μ' O':=by
 obtain ⟨blk,cells,e,h1,h2,h3,hO⟩:=hs.nb_inv hg
 obtain ⟨n1,n2,n3⟩:=hs.other_blk hO
 have hμ:∀ (i b:Nat),μ[i]?=some b→(μ++[blk])[i]?=some b:=fun i b h=>by
  rw [List.getElem?_append_left (lS.1 h).1];exact h
 have hlast:(μ++[blk])[H.length]?=some blk:=by rw [← hs.μlen];simp
 have hO':∀ b l,O b=some l→b≠blk→(if b=blk then some (Loc.o H.length) else O b)=some l:=fun b l h hb=>by rw [if_neg hb];exact h
 have hOt:∀ b s,O b=some (.t s)→s≠t→b≠blk:=fun b s h hst e=>by subst e;rw [hO] at h;simp at h;exact hst h.symm
 refine ⟨I,μ++[blk],fun b=>if b=blk then some (.o H.length) else O b,{hs.toMem with
  kO:=fun b hk=>by rw [if_neg (n2 b hk)];exact hs.kO b hk
  own:=fun b l hl=>by
   by_cases hb:b=blk
   ·subst hb;exact hs.own b _ hO
   ·rw [if_neg hb] at hl;exact hs.own b l hl
  μlen:=by simp [hs.μlen]
  μpre:=fun i b hi hb=>hμ i b (hs.μpre i b hi hb)
  nle:=by simp;have:=hs.nle;omega
  heap:=fun id ob ho=>?_
  envr:=fun s=>?_
  nt:=hs.nt
  dfs:=hs.dfs}⟩
 ·rcases Nat.lt_or_ge id H.length with hlt|hge
  ·rw [List.getElem?_append_left hlt] at ho
   obtain ⟨bb,bs,k1,k2,k3,k4⟩:=hs.heap id ob ho
   have hne:=n3 id ob bb bs ho k1 k3 k4
   refine ⟨bb,bs,hμ _ _ k1,?_,fun hn=>⟨(k3 hn).1,fun b hb=>hO' b _ ((k3 hn).2 b hb) (hne b hb)⟩,k4⟩
   cases ob with
   | box c =>
    obtain ⟨cl,et,m1,m2⟩:=k2
    exact ⟨cl,et,m1,m2.keep (fun _ h=>h) (fun _ _=>rfl) hμ fun _ _=>rfl⟩
  ·rw [List.getElem?_append_right hge] at ho
   have hid:id=H.length:=by
    have:=(lS.1 ho).1;simp at this;omega
   subst hid
   simp at ho;subst ho
   refine ⟨blk,[],hlast,⟨cells,e,h2,(hA blk cells e h1 h2).keep (fun _ h=>h) (fun _ _=>rfl) hμ (by simp)⟩,fun _=>⟨by simp,fun b hb=>?_⟩,fun hn=>?_⟩
   ·simp at hb;subst hb;rw [if_pos rfl]
   ·have:=hs.nle;have:=hs.n0le;omega
 ·by_cases hst:t=s
  ·subst hst
   rw [show get ((t,.bp H.length 0)::env) t=.bp H.length 0 by simp [get]]
   refine .of (bs:=[]) ?_ nN (by simp)
   rw [h1]
   exact .bp _ _ _ hlast
  ·rw [show get ((t,.bp H.length 0)::env) s=get env s by simp [get,hst]]
   have key:∀ p e xs,A1 env H p=.own e xs→A1 ((t,AV.bp H.length 0)::env) (H++[.box cs']) p=.own e xs∧∀ v,Br a w μ p=some v→Br a w (μ++[blk]) p=some v:=by
    intro p e' xs hp
    cases p with
    | t r =>
     have hr':t≠r:=fun h=>by subst h;simp only [A1] at hp;rw [hg] at hp;cases hp
     exact ⟨by simp only [A1,get,if_neg hr'];exact hp,fun v hv=>hv⟩
    | c id off =>
     refine ⟨?_,fun v hv=>?_⟩
     ·simp only [A1] at hp ⊢
      cases hH:H[id]? with
      | none=>rw [hH] at hp;cases hp
      | some ob=>rw [List.getElem?_append_left (lS.1 hH).1,hH];rw [hH] at hp;exact hp
     ·simp only [Br,Option.bind_eq_some_iff] at hv ⊢
      obtain ⟨bb,hb1,hb2⟩:=hv
      exact ⟨bb,hμ _ _ hb1,hb2⟩
   have ht:=hs.envr s
   cases hgs:get env s with
   | ref p off len =>
    rw [hgs] at ht
    obtain ⟨e',xs,A,n,c,g1,g2,g3,g4⟩:=ht
    exact ⟨e',xs,A,n,c,(key p e' xs g1).1,(key p e' xs g1).2 _ g2,g3,g4⟩
   | ep p i k =>
    rw [hgs] at ht
    obtain ⟨e',xs,b,n,c,g1,g2,g3,g4,g5⟩:=ht
    exact ⟨e',xs,b,n,c,(key p e' xs g1).1,(key p e' xs g1).2 _ g2,g3,g4,g5⟩
   | _ =>
    rw [hgs] at ht
    obtain ⟨bs,g1,g2,g3⟩:=ht.plain rfl
    exact .of (g1.keep (fun _ h=>h) (fun _ _=>rfl) hμ fun _ _=>rfl) g2 fun b hb=>hO' b _ (g3 b hb) (hOt b s (g3 b hb) fun e=>hst e.symm)
theorem ARepAll.setD : ∀ {cs:List AV} {vs:List Value} {bs:List Nat} (j:Nat) {c:DV} {v:Value},ARepAll P w I μ cs vs bs→bs=[]→Rep w I c v→ARepAll P w I μ (cs.set j (.d c)) (vs.set j v) []
 | _,_,_,j,c,v,.nil,_,hr=>by simp;exact .nil
 | _,_,_,0,c,v,.cons h t,hb,hr=>by
  obtain ⟨rfl,rfl⟩:=List.append_eq_nil_iff.1 hb
  exact ARepAll.cons (b1:=[]) (b2:=[]) (.d hr) t
 | _,_,_,j+1,c,v,.cons h t,hb,hr=>by
  obtain ⟨rfl,rfl⟩:=List.append_eq_nil_iff.1 hb
  exact ARepAll.cons (b1:=[]) (b2:=[]) h (t.setD j rfl hr)
def WB : List AV→Nat→List DV→List AV
 | zs,_,[]=>zs
 | zs,off,c::cs=>WB (zs.set off (.d c)) (off+1) cs
def Qz (places:List (Nat×Nat)) : List AV→List (Nat×DV)→Option (List AV)
 | zs,[]=>some zs
 | zs,(i,d)::r=>match places[i]? with
  | none=>none
  | some (off,n)=>if d.flat&&Nat.beq d.cells.length n&&Nat.ble (off+n) zs.length then Qz places (WB zs off d.cells) r else none
theorem QK (off:Nat) : ∀ {cs:List DV} {us:List Value} (k:Nat) {zs:List AV} {cells:Array Value},RepAll w I cs us→ARepAll P w I μ zs cells.toList [] →
  ARepAll P w I μ (WB zs (off+k) cs) ((us.zipIdx k).foldl (fun (cs:Array Value) x=>cs.setIfInBounds (off+x.2) x.1) cells).toList []
 | _,_,k,zs,cells,.nil,hz=>hz
 | _,_,k,zs,cells,.cons (c:=c) (v:=v) h t,hz=>by
  rw [List.zipIdx_cons,List.foldl_cons,WB]
  exact QK off (k+1) t (by rw [Array.toList_setIfInBounds];exact hz.setD _ rfl h)
theorem ON {places:List (Nat×Nat)} : ∀ {ps:List (Nat×DV)} {vs:List (Nat×Value)} {zs cs:List AV} {cells:Array Value},Qz places zs ps=some cs→ARepAll P w I μ zs cells.toList [] →
  vs.map (·.1)=ps.map (·.1)→RepAll w I (ps.map (·.2)) (vs.map (·.2))→∃ cells',Instr.fill (places.toArray[·]?) cells vs=some cells'∧ARepAll P w I μ cs cells'.toList []
 | [],vs,zs,cs,cells,h,hz,h1,h2=>by
  have:vs=[]:=by simpa using h1
  subst this
  simp only [Qz,Option.some.injEq] at h;subst h
  exact ⟨cells,rfl,hz⟩
 | (i,d)::ps,[],zs,cs,cells,h,hz,h1,h2=>by simp at h1
 | (i,d)::ps,(j,v)::vs,zs,cs,cells,h,hz,h1,h2=>by
  simp only [List.map_cons,List.cons.injEq] at h1
  obtain ⟨rfl,h1⟩:=h1
  simp only [List.map_cons] at h2
  cases h2 with
  | cons hd ht =>
   simp only [Qz] at h
   cases hp:places[j]? with
   | none=>rw [hp] at h;cases h
   | some on =>
    obtain ⟨off,n⟩:=on
    rw [hp] at h
    simp only at h
    split at h
    ·rename_i hc
     simp only [Bool.and_eq_true,Nat.ble_eq] at hc
     obtain ⟨⟨c1,c2⟩,c3⟩:=hc
     obtain ⟨k1,k2⟩:=hd.vcells c1
     have hvl:v.cells.size=n:=by rw [← Array.length_toList,← k1.length];exact Nat.eq_of_beq_eq_true c2
     have hzl:cells.size=zs.length:=by rw [← Array.length_toList,← hz.length]
     have hs:=QK (w:=w) (I:=I) off 0 (zs:=zs) (cells:=cells) k1 hz
     obtain ⟨cells',f1,f2⟩:=ON h hs h1 ht
     refine ⟨cells',?_,f2⟩
     have hp':places.toArray[j]?=some (off,n):=by simpa using hp
     simp only [Instr.fill,hp']
     rw [if_neg (by simp;omega)]
     rw [← f1]
     congr 1
     rw [← Array.foldl_toList]
     simp
    ·cases h
theorem Ur {ty:Nat} {parts:Array (Nat×Operand)} {places:List (Nat×Nat)} {z:Value} {zs cs:List AV} {ps:List (Nat×DV)} (hp:EI P ty=some places) (hz:(P.info? ty).bind (·.zero)=some z) (hzr:∀ w I μ,ARepAll P w I μ zs z.cells.toList [])
  (ho:o.op=.build ty parts:=by rfl) (hps:GE env parts.toList=some ps:=by rfl) (hf:Qz places zs ps=some cs:=by rfl):VOK P C o env H (.ag cs) :=
 .val (by simp [ho]) fun X a w I μ O _ _ _ hs=>by
  have key:∀ {xs:List (Nat×Operand)} {ps:List (Nat×DV)},GE env xs=some ps→(xs.map fun x=>(x.1,a.eval x.2)).map (·.1)=ps.map (·.1)∧RepAll w I (ps.map (·.2)) ((xs.map fun x=>(x.1,a.eval x.2)).map (·.2)):=by
   intro xs
   induction xs with
   | nil=>intro ps h;simp only [GE,Option.some.injEq] at h;subst h;exact ⟨rfl,.nil⟩
   | cons x xs ih =>
    intro ps h
    obtain ⟨i,x⟩:=x
    simp only [GE] at h
    cases h1:Bo (lk env x) with
    | none=>rw [h1] at h;cases h
    | some v =>
     cases h2:GE env xs with
     | none=>rw [h1,h2] at h;cases h
     | some vs =>
      rw [h1,h2] at h
      simp only [Option.some.injEq] at h;subst h
      obtain ⟨q1,q2⟩:=ih h2
      exact ⟨by simp only [List.map_cons];rw [q1],.cons (hs.deep h1) q2⟩
  obtain ⟨k1,k2⟩:=key hps
  obtain ⟨cells,f1,f2⟩:=ON (P:=P) (μ:=μ) hf (hzr w I μ) k1 k2
  have hb:P.built ty (parts.map fun x=>(x.1,a.eval x.2)).toList=some cells:=by
   unfold EI at hp
   unfold Program.built
   cases hi:P.info? ty with
   | none=>rw [hi] at hz;cases hz
   | some it =>
    rw [hi] at hz
    simp only [oB] at hz
    split at hp
    ·rename_i fields hu
     simp only [hu,hz,hp]
     rw [Array.toList_map];exact f1
    ·cases hp
  refine ⟨.agg cells,w,I,[],?_,Below.refl _ _,fun _ h=>h,fun b hi=>⟨hs.ilt b hi,fun _=>hi⟩,?_,nN,by simp⟩
  ·simp only [execOp,ho,Sem.run_bind]
   have:=run_build (P:=P) w ty (parts.map fun x=>(x.1,a.eval x.2)) cells hb
   rw [show (parts.map fun x=>match x with|(i,x)=>(i,a.eval x))=parts.map (fun (x:Nat×Operand)=>(x.1,a.eval x.2)) from rfl,this]
   simp only [Result.andThen_ok,Sem.run_pure]
  ·have:=ARep.ag f2
   simpa [Vy] using this
theorem TD {y:Operand} {t ty n:Nat} {cs ds:List DV} {cs':List AV} (h:RL P C ops Q (k+1) l ((t,.bp H.length 0)::env) (H++[.box cs'])) (hsz:AN P ty=n) (hn:0<n) (hg:grd ops env o true=true:=by rfl) (ho:o.op=.store ty (.tmp t) y:=by rfl)
  (hv:get env t=.nb cs:=by rfl) (hy:lk env y=.ag cs':=by rfl) (hno:noOwnL cs'=true:=by rfl) (hds:PN cs'=some ds:=by rfl) (hl:cs.length=n:=by rfl) (hl':ds.length=n:=by rfl) (h1:ds.all DV.leaf=true:=by rfl) (hd:o.dst=none:=by rfl):RL P C ops Q k (o::l) env H:=by
 refine .go hg (.done (by simp [ho]) hd (fun X a w I μ O _ _ _ hs=>?_) h)
 obtain ⟨bs,hr⟩:=hs.lk (x:=y) (by rw [hy];rfl)
 rw [hy] at hr
 generalize hev:a.eval y=u at hr
 cases hr with
 | @ag _ vs _ hr =>
  have hb0:=noOwnL_bs hr hno
  subst hb0
  have hrd:=KL hds hr
  obtain ⟨blk,cells,e,q1,q2,q3,q4⟩:=hs.nbSet hv hrd
  obtain ⟨n1,_,_⟩:=hs.other_blk (t:=t) (blk:=blk) (by
   obtain ⟨blk',_,_,g1,_,_,g4⟩:=hs.nb_inv hv
   rw [q1] at g1;cases g1;exact g4)
  have hnew:=setRow_heap w blk cells vs.toArray e (0,0) q2
  obtain ⟨I',μ',O',fin⟩:=q4.nbbA (t:=t) (cs:=ds) (cs':=cs') (by simp [get]) (fun blk' cells' e' p1 p2=>by
   rw [q1] at p1;cases p1
   rw [hnew] at p2;cases p2
   exact hr.keep (fun _ h=>h) (fun b hi=>setRow_other w blk b _ (n1 b hi)) (fun _ _ h=>h) (by simp))
  refine ⟨_,I',μ',O',?_,fin.same fun s=>?_⟩
  ·have hone:=hrd.one h1
   have hvl:vs.length=n:=by rw [← hrd.length];exact hl'
   have hcl:cells.size=n:=by rw [← Array.length_toList,← q3.length];exact hl
   obtain ⟨i,i1,i2⟩:=Ho (P:=P) (t:=ty) (by omega)
   have hx:a.eval (.tmp t)=.pointer (some ⟨blk,0,none⟩):=q1
   have hsi:(P.info? ty).map (·.size)=some vs.toArray.size:=by rw [i1];simp;omega
   simp only [execOp,ho,hx,hev,Instr.storeAt,Instr.sureAddr,Sem.run_bind,Sem.run_pure,Result.andThen_ok,run_storeVar_row w blk e ty cells vs.toArray q2 hsi (by simp;omega) (by
    rw [Array.all_eq_true_iff_forall_mem];intro v hv;exact hone v (by simpa using hv))]
  ·simp only [get]
   split<;>rfl
def Xr (P:Program) (s f:Nat) : Option Bool:=match P.underlying s with
 | some (.struct fs)=>(fs[f]?).bind fun fl=>C0 P fl.type
 | _=>none
theorem Tz {s f:Nat} {b:Bool} (h:Xr P s f=some b) : ∃ fs fl,P.underlying s=some (.struct fs)∧fs[f]?=some fl∧C0 P fl.type=some b:=by
 unfold Xr at h
 split at h
 ·rename_i fs hu
  obtain ⟨fl,h1,h2⟩:=Option.bind_eq_some_iff.1 h
  exact ⟨fs,fl,hu,h1,h2⟩
 ·cases h
theorem XW {x:Operand} {s f off:Nat} {c:DV} {cs:List DV} (hf:CM P s f=some (off,1)) (hg:Xr P s f=some false) (ho:o.op=.field s x f:=by rfl) (hv:lk env x=.d (.ag cs):=by rfl) (hc:cs[off]?=some c:=by rfl) : VOK P C o env H (.d c):=by
 obtain ⟨fs,fl,h1,h2,h3⟩:=Tz hg
 exact vfd hf ⟨fs,fl,h1,h2,rfl⟩ h3 hv hc ho
theorem NY {α:Type} {F:List α→List DV} (hF:∀ xs ys,F (xs++ys)=F xs++F ys) {us ws zs:List α} {m:Nat} (hz:ap? m us ws=some zs) {c:Call} {y:Operand} {r t id off ty e sz by_:Nat} {z:Value} {cs:List AV} (hH:H[id]?=some (.box cs)) (hcs:cs[off]?=some (.own e (F us))) (hby:m * by_≤140737488355328∧m≤9223372036854775807)
  (h:RL P C ops Q (k+1) l ((t,.own e (F zs))::(r,.un)::env) (H.set id (.box (cs.set off .un)))) (hsz:∀ xs,∀ x∈F xs,x.cells.length=sz) (hlen:∀ xs,(F xs).length=xs.length) (hT:C1 P ty=some (e,sz,by_,z)) (hg:grd ops env o true=true:=by rfl) (ho:o.op=.call c:=by rfl)
  (hc:c.callee=.builtin .append:=by rfl) (hx:c.args=#[.tmp r,y]:=by rfl) (hty:c.argTypes=#[ty,ty]:=by rfl) (hv:get env r=.ref (.c id off) 0 (F us).length:=by rfl) (hy:rd env H (lk env y)=some (F ws):=by rfl) (hd:o.dst=some t:=by rfl)
  (hf:Am (get env t)=false:=by rfl) (hnc:Np id off ((r,.un)::env.filter fun x=>x.1 != r)=true:=by rfl) (ht:okT C.nt t:=by rfl) (h0:C.n0=0:=by rfl):RL P C ops Q k (o::l) env H:=by
 obtain ⟨hle,rfl⟩:=KY hz
 exact apc (xs:=F us) (ys:=F ws) (len:=(F us).length) hH hcs (by rw [hlen,hlen];exact MH hle hby) (by rw [List.take_length,← hF];exact h) (hsz ws) hT hg ho hc hx hty hv hy hd hf hnc ht h0
theorem VP {c:Call} {r ty off len n:Nat} {p:Pl} (hl:len=n) (hu:P.underlying ty=some (.slice (P.elem ty))) (ho:o.op=.call c:=by rfl) (hc:c.callee=.builtin .len:=by rfl) (hx:c.args=#[.tmp r]:=by rfl) (hty:c.argTypes=#[ty]:=by rfl)
  (hv:get env r=.ref p off len:=by rfl):VOK P C o env H (.d (.i .i64 n)):=by
 subst hl;exact ZK hu ho hc hx hty hv
end
end Go.FL
namespace Go.FL
open Go Go.RowKit
def W7 (s:ByteArray) (pos:Nat) : Int:=(Utf8.decode s pos).1
def L7 (s:ByteArray) (pos:Nat) : Nat:=pos+(Utf8.decode s pos).2
section
variable {P:Program} {C:Cx} {X:Snap} {o:Oper} {ops:Array Oper} {Q:Exit→Env→Ad→Prop} {env env':Env} {H H':Ad} {a:Act} {w w':World} {I I':Nat→Prop} {μ μ':List Nat} {O O':Nat→Option Loc}
 {K:Env→Ad→Prop} {k:Nat} {l:List Oper}
end
end Go.FL
namespace Go.FL
open Go Go.RowKit
def IU (tmps:Array Value) : ResultVar→Sem Value
 | .tmp t=>pure (tmps.getD t undef)
 | .cell a t=>do loadVar t (← asAddr (tmps.getD a undef))
def resOne (P:Program) (env:Env) : ResultVar→DV→Prop
 | .tmp t,d=>Bo (get env t)=some d
 | .cell t ty,d=>∃ cs,cellD P env t ty cs∧d=.ag cs
def X8 (P:Program) (env:Env) (r:AV) : List ResultVar→Prop
 | [x,y]=>∃ dx dy,resOne P env x dx∧resOne P env y dy∧r=.tup [.d dx,.d dy]
 | [x,y,z]=>∃ dx dy dz,resOne P env x dx∧resOne P env y dy∧resOne P env z dz∧r=.tup [.d dx,.d dy,.d dz]
 | [x,y,z,u]=>∃ dx dy dz du,resOne P env x dx∧resOne P env y dy∧resOne P env z dz∧resOne P env u du∧r=.tup [.d dx,.d dy,.d dz,.d du]
 | [x,y,z,u,v]=>∃ dx dy dz du dv,resOne P env x dx∧resOne P env y dy∧resOne P env z dz∧resOne P env u du∧resOne P env v dv∧r=.tup [.d dx,.d dy,.d dz,.d du,.d dv]
 | _=>False
theorem HQ (fn:Func) (tmps:Array Value) : results fn tmps=(do
  let vs ← fn.results.mapM (IU tmps)
  pure (if h:vs.size=1 then vs[0] else .tuple vs)):=by
 unfold results
 congr 2
theorem TJ {fn:Func} {x y:ResultVar} {wx wy:Value} (h:fn.results=#[x,y]) {tmps:Array Value} {P:Program} {w:World} (hx:(IU tmps x).run P w=.ok wx w) (hy:(IU tmps y).run P w=.ok wy w) : (results fn tmps).run P w=.ok (.tuple #[wx,wy]) w:=by
 rw [HQ,h]
 simp [Sem.run_bind,hx,hy]
theorem TZ {fn:Func} {x y z:ResultVar} {wx wy wz:Value} (h:fn.results=#[x,y,z]) {tmps:Array Value} {P:Program} {w:World} (hx:(IU tmps x).run P w=.ok wx w) (hy:(IU tmps y).run P w=.ok wy w) (hz:(IU tmps z).run P w=.ok wz w) : (results fn tmps).run P w=.ok (.tuple #[wx,wy,wz]) w:=by
 rw [HQ,h]
 simp [Sem.run_bind,hx,hy,hz]
theorem Uf {fn:Func} {x y z u:ResultVar} {wx wy wz wu:Value} (h:fn.results=#[x,y,z,u]) {tmps:Array Value} {P:Program} {w:World} (hx:(IU tmps x).run P w=.ok wx w) (hy:(IU tmps y).run P w=.ok wy w) (hz:(IU tmps z).run P w=.ok wz w) (hu:(IU tmps u).run P w=.ok wu w) : (results fn tmps).run P w=.ok (.tuple #[wx,wy,wz,wu]) w:=by
 rw [HQ,h]
 simp [Sem.run_bind,hx,hy,hz,hu]
theorem T6 {fn:Func} {x y z u v:ResultVar} {wx wy wz wu wv:Value} (h:fn.results=#[x,y,z,u,v]) {tmps:Array Value} {P:Program} {w:World} (hx:(IU tmps x).run P w=.ok wx w) (hy:(IU tmps y).run P w=.ok wy w) (hz:(IU tmps z).run P w=.ok wz w) (hu:(IU tmps u).run P w=.ok wu w) (hv:(IU tmps v).run P w=.ok wv w) : (results fn tmps).run P w=.ok (.tuple #[wx,wy,wz,wu,wv]) w:=by
 rw [HQ,h]
 simp [Sem.run_bind,hx,hy,hz,hu,hv]
section
variable {P:Program} {X:Snap} {env:Env} {H:Ad} {a:Act} {w:World} {I:Nat→Prop} {μ:List Nat} {O:Nat→Option Loc}
theorem Sim.resOne (hs:Sim P X env H a w I μ O) {x:ResultVar} {d:DV} (h:Go.FL.resOne P env x d) : ∃ v,(IU a.tmps x).run P w=.ok v w∧Rep w I d v:=by
 cases x with
 | tmp t=>exact ⟨_,rfl,hs.deepT h⟩
 | cell t ty =>
  obtain ⟨cs,h1,rfl⟩:=h
  obtain ⟨p,v,k1,k2,k3⟩:=hs.cellD h1
  exact ⟨v,by simp [IU,k1,asAddr,k2],k3⟩
theorem Sim.resultsA (hs:Sim P X env H a w I μ O) {fn:Func} {rs:List ResultVar} (hrs:fn.results=rs.toArray) {r:AV} (h:X8 P env r rs) :
  ∃ v bs,(Go.results fn a.tmps).run P w=.ok v w∧ARep P w I μ r v bs∧bs.Nodup∧∀ b∈bs,∃ l,O b=some l:=by
 unfold X8 at h
 split at h
 ·obtain ⟨dx,dy,kx,ky,rfl⟩:=h
  obtain ⟨wx,ex,rx⟩:=hs.resOne kx
  obtain ⟨wy,ey,ry⟩:=hs.resOne ky
  exact ⟨_,[],TJ (by rw [hrs]) ex ey,.tup (ARepAll.cons (b1:=[]) (b2:=[]) (.d rx) (ARepAll.cons (b1:=[]) (b2:=[]) (.d ry) .nil)),nN,by simp⟩
 ·obtain ⟨dx,dy,dz,kx,ky,kz,rfl⟩:=h
  obtain ⟨wx,ex,rx⟩:=hs.resOne kx
  obtain ⟨wy,ey,ry⟩:=hs.resOne ky
  obtain ⟨wz,ez,rz⟩:=hs.resOne kz
  exact ⟨_,[],TZ (by rw [hrs]) ex ey ez,.tup (ARepAll.cons (b1:=[]) (b2:=[]) (.d rx) (ARepAll.cons (b1:=[]) (b2:=[]) (.d ry) (ARepAll.cons (b1:=[]) (b2:=[]) (.d rz) .nil))),nN,by simp⟩
 ·obtain ⟨dx,dy,dz,du,kx,ky,kz,ku,rfl⟩:=h
  obtain ⟨wx,ex,rx⟩:=hs.resOne kx
  obtain ⟨wy,ey,ry⟩:=hs.resOne ky
  obtain ⟨wz,ez,rz⟩:=hs.resOne kz
  obtain ⟨wu,eu,ru⟩:=hs.resOne ku
  exact ⟨_,[],Uf (by rw [hrs]) ex ey ez eu,.tup (ARepAll.cons (b1:=[]) (b2:=[]) (.d rx) (ARepAll.cons (b1:=[]) (b2:=[]) (.d ry) (ARepAll.cons (b1:=[]) (b2:=[]) (.d rz) (ARepAll.cons (b1:=[]) (b2:=[]) (.d ru) .nil)))),nN,by simp⟩
 ·obtain ⟨dx,dy,dz,du,dv,kx,ky,kz,ku,kv,rfl⟩:=h
  obtain ⟨wx,ex,rx⟩:=hs.resOne kx
  obtain ⟨wy,ey,ry⟩:=hs.resOne ky
  obtain ⟨wz,ez,rz⟩:=hs.resOne kz
  obtain ⟨wu,eu,ru⟩:=hs.resOne ku
  obtain ⟨wv,ev,rv⟩:=hs.resOne kv
  exact ⟨_,[],T6 (by rw [hrs]) ex ey ez eu ev,.tup (ARepAll.cons (b1:=[]) (b2:=[]) (.d rx) (ARepAll.cons (b1:=[]) (b2:=[]) (.d ry) (ARepAll.cons (b1:=[]) (b2:=[]) (.d rz) (ARepAll.cons (b1:=[]) (b2:=[]) (.d ru) (ARepAll.cons (b1:=[]) (b2:=[]) (.d rv) .nil))))),nN,by simp⟩
 ·exact h.elim
end
end Go.FL
namespace Go.FL
open Go
def val : List Nat→Nat
 | []=>0
 | x::xs=>x+4294967296 * val xs
def Ok (a:List Nat) : Prop:=∀ x∈a,x<4294967296
def Ao (n:Nat) : List Nat:=if h : n=0 then [] else n % 4294967296::Ao (n / 4294967296)
termination_by n
decreasing_by exact Nat.div_lt_self (by omega) (by decide)
theorem AU : Ao 0=[]:=by unfold Ao;simp
theorem Er {n:Nat} (h:n≠0) : Ao n=n % 4294967296::Ao (n / 4294967296):=by
 conv=>lhs;unfold Ao
 simp [h]
theorem Ok.nil : Ok []:=by simp [Ok]
theorem Ok.cons {x:Nat} {a:List Nat} (h:x<4294967296) (ha:Ok a) : Ok (x::a):=by
 intro y hy
 rcases List.mem_cons.1 hy with rfl|hy
 ·exact h
 ·exact ha y hy
theorem Ok.head {x:Nat} {a:List Nat} (h:Ok (x::a)) : x<4294967296:=h x (by simp)
theorem Ok.tail {x:Nat} {a:List Nat} (h:Ok (x::a)) : Ok a:=fun y hy=>h y (by simp [hy])
theorem Ok.append {a b:List Nat} (ha:Ok a) (hb:Ok b) : Ok (a++b):=by
 intro y hy
 rcases List.mem_append.1 hy with hy|hy
 ·exact ha y hy
 ·exact hb y hy
theorem Ok.left {a b:List Nat} (h:Ok (a++b)) : Ok a:=fun y hy=>h y (by simp [hy])
theorem Ok.right {a b:List Nat} (h:Ok (a++b)) : Ok b:=fun y hy=>h y (by simp [hy])
theorem Ok.take {a:List Nat} (h:Ok a) (n:Nat) : Ok (a.take n):=fun y hy=>h y (List.mem_of_mem_take hy)
theorem Ok.drop {a:List Nat} (h:Ok a) (n:Nat) : Ok (a.drop n):=fun y hy=>h y (List.mem_of_mem_drop hy)
theorem Ok.set {a:List Nat} (h:Ok a) (n:Nat) {x:Nat} (hx:x<4294967296) : Ok (a.set n x):=fun y hy=>by
 rcases List.mem_or_eq_of_mem_set hy with hy|rfl
 ·exact h y hy
 ·exact hx
theorem Ok.at {a:List Nat} (h:Ok a) {n x:Nat} (hx:a[n]?=some x) : x<4294967296:=h x (List.mem_of_getElem? hx)
theorem BI (n:Nat) : Ok (Ao n):=by
 induction n using Nat.strongRecOn with
 | ind n ih =>
  by_cases h:n=0
  ·subst h;rw [AU];exact .nil
  ·rw [Er h]
   exact .cons (Nat.mod_lt _ (by decide)) (ih _ (Nat.div_lt_self (by omega) (by decide)))
theorem A8 (n:Nat) : val (Ao n)=n:=by
 induction n using Nat.strongRecOn with
 | ind n ih =>
  by_cases h:n=0
  ·subst h;rw [AU];rfl
  ·rw [Er h,val,ih _ (Nat.div_lt_self (by omega) (by decide))]
   exact Nat.mod_add_div n 4294967296
theorem Fp (a b:List Nat) : val (a++b)=val a+4294967296 ^ a.length * val b:=by
 induction a with
 | nil=>simp [val]
 | cons x a ih =>
  simp only [List.cons_append,val,ih,List.length_cons,Nat.pow_succ]
  rw [Nat.mul_add,← Nat.mul_assoc,Nat.mul_comm 4294967296 (4294967296 ^ a.length),Nat.add_assoc]
theorem Es {a:List Nat} (h:Ok a) : val a<4294967296 ^ a.length:=by
 induction a with
 | nil=>simp [val]
 | cons x a ih =>
  have h1:=h.head
  have h2:=ih h.tail
  simp only [val,List.length_cons,Nat.pow_succ]
  have:4294967296 * val a+4294967296≤4294967296 * 4294967296 ^ a.length:=by
   rw [← Nat.mul_succ];exact Nat.mul_le_mul_left _ h2
  rw [Nat.mul_comm (4294967296 ^ a.length)]
  omega
def Top (a:List Nat) : Prop:=∀ x,a.getLast?=some x→x≠0
theorem U0 {a:List Nat} (h:Ok a) (ht:Top a) : Ao (val a)=a:=by
 induction a with
 | nil=>rw [val,AU]
 | cons x a ih =>
  have hx:=h.head
  have hne:val (x::a)≠0:=by
   intro h0
   simp only [val] at h0
   have h1:x=0:=by omega
   have h2:val a=0:=by
    rcases Nat.eq_zero_or_pos (val a) with h|h
    ·exact h
    ·have:4294967296 * 1≤4294967296 * val a:=Nat.mul_le_mul_left _ h
     omega
   cases a with
   | nil=>exact ht x (by simp) h1
   | cons y b =>
    have:=ih h.tail (fun z hz=>ht z (by simpa [List.getLast?_cons_cons] using hz))
    rw [h2,AU] at this;cases this
  rw [Er hne]
  have h1:val (x::a) % 4294967296=x:=by simp only [val];rw [Nat.add_mul_mod_self_left];exact Nat.mod_eq_of_lt hx
  have h2:val (x::a) / 4294967296=val a:=by simp only [val];rw [Nat.add_mul_div_left _ _ (by decide),Nat.div_eq_of_lt hx];omega
  rw [h1,h2]
  congr 1
  cases a with
  | nil=>rw [val,AU]
  | cons y b=>exact ih h.tail (fun z hz=>ht z (by simpa [List.getLast?_cons_cons] using hz))
theorem Wf (n:Nat) : Top (Ao n):=by
 induction n using Nat.strongRecOn with
 | ind n ih =>
  intro x hx
  by_cases h:n=0
  ·subst h;rw [AU] at hx;cases hx
  ·rw [Er h] at hx
   by_cases h2:n / 4294967296=0
   ·rw [h2,AU] at hx
    simp at hx
    have:n<4294967296:=by
     rcases Nat.lt_or_ge n 4294967296 with h|h
     ·exact h
     ·have:=Nat.div_pos h (by decide);omega
    rw [Nat.mod_eq_of_lt this] at hx;omega
   ·have:=ih (n / 4294967296) (Nat.div_lt_self (by omega) (by decide))
    rw [Er h2] at hx this
    exact this x (by simpa [List.getLast?_cons_cons] using hx)
theorem UH (a:List Nat) : val (a++[0])=val a:=by rw [Fp];simp [val]
theorem Gg {a:List Nat} (h:Ok a) : JI a=Ao (val a):=by
 generalize hn:a.length=n
 induction n generalizing a with
 | zero =>
  have:a=[]:=by cases a<;>simp_all
  subst this;rw [val,AU];rfl
 | succ n ih =>
  rcases List.eq_nil_or_concat a with rfl|⟨b,x,rfl⟩
  ·rw [val,AU];rfl
  ·rw [List.concat_eq_append] at *
   by_cases hx:x=0
   ·subst hx
    rw [Hg,UH]
    exact ih h.left (by simpa using hn)
   ·rw [I9 _ hx,U0 h]
    intro y hy
    simp at hy;omega
theorem UF (a:List Nat) : ∃ k,a=JI a++List.replicate k 0:=by
 generalize hn:a.length=n
 induction n generalizing a with
 | zero =>
  have:a=[]:=by cases a<;>simp_all
  subst this;exact ⟨0,rfl⟩
 | succ n ih =>
  rcases List.eq_nil_or_concat a with rfl|⟨b,x,rfl⟩
  ·exact ⟨0,rfl⟩
  ·rw [List.concat_eq_append] at *
   by_cases hx:x=0
   ·subst hx
    obtain ⟨k,hk⟩:=ih b (by simpa using hn)
    refine ⟨k+1,?_⟩
    rw [Hg,List.replicate_succ',← List.append_assoc,← hk]
   ·rw [I9 _ hx];exact ⟨0,by simp⟩
theorem Q5 {a:List Nat} (h:Ok a) : a.length=(Ao (val a)).length↔Ao (val a)=a:=by
 obtain ⟨k,hk⟩:=UF a
 rw [Gg h] at hk
 constructor
 ·intro hl
  have:k=0:=by
   have:=congrArg List.length hk
   simp at this;omega
  subst this;simpa using hk.symm
 ·intro h;rw [h]
theorem EE {n k:Nat} (h:n<4294967296 ^ k) : (Ao n).length≤k:=by
 induction k generalizing n with
 | zero =>
  have:n=0:=by simpa using h
  subst this;rw [AU];simp
 | succ k ih =>
  by_cases h0:n=0
  ·subst h0;rw [AU];simp
  ·rw [Er h0,List.length_cons]
   have:n / 4294967296<4294967296 ^ k:=by
    rw [Nat.div_lt_iff_lt_mul (by decide)];rwa [Nat.pow_succ] at h
   have:=ih this;omega
theorem Cv {a:List Nat} (h:Ok a) : (Ao (val a)).length≤a.length:=EE (Es h)
end Go.FL
namespace Go.FL
open Go Go.Proofs
theorem YE (xs:List Nat) (hx:xs.length≤35184372087808) : Fn Tryz.prog 143 [.sl (L xs)] (.d (.sl (L (JI xs)))):=by
 refine Fn.o1 2 24 Tryz.func143 ?_
 refine .seq (.region ?_)
 refine asn ?_;refine rn ?_
 refine .seq (.block (.loop (.gh (Gh.keep [0] rfl) ?_)))
 refine AL.ind (σ:=List Nat) (m:=List.length) (e:=fun ys=>[(0,.d (.sl (L ys)))]) (h:=fun _=>[]) (I:=fun ys=>JI ys=JI xs∧ys.length≤xs.length) ?_ xs ⟨rfl,Nat.le_refl _⟩
 intro ys ⟨hI,hl⟩ ih
 refine .seq (.seq (.region ?_))
 refine mvd ?_
 refine ln ?_ (BP _) l32
 refine bi ?_;refine mvd ?_
 rcases List.eq_nil_or_concat ys with rfl|⟨zs,z,rfl⟩
 ·refine gf ?_
  refine gf4 ?_;refine gf2 ?_;refine pkd ?_;refine rn ?_;refine BZ ?_;refine .exit ?_;refine aw ?_
  refine .seq (.region ?_)
  refine mvd ?_;refine asd ?_;refine rn ?_;refine .ret ?_
  exact ⟨by rw [← hI];rfl,rfl⟩
 ·simp only [List.concat_eq_append,List.length_append,List.length_singleton] at *
  have e1:decide ((0:Int)<((L (zs++[z])).length:Int))=true:=by simp [Ab]
  rw [e1]
  refine mvd ?_;refine mvd ?_
  refine ln ?_ (BP _) l32
  refine su zs.length ?_ ?_
  ·simp [Ab];omega
  refine ix zs.length ?_ rfl (EW (xs:=zs++[z]) (n:=z) (by simp)) rfl s32
  refine ldp ?_ a32
  refine bi ?_;refine pkd ?_;refine rn ?_
  by_cases hz:z=0
  ·subst hz
   refine B1 ?_;refine .skip ?_;refine aw ?_
   refine .block (.region ?_)
   refine mvd ?_;refine mvd ?_
   refine ln ?_ (BP _) l32
   refine su zs.length ?_ ?_
   ·simp [Ab];omega
   refine mvd ?_
   refine ln ?_ (BP _) l32
   refine su zs.length ?_ ?_
   ·simp [Ab];omega
   refine sl 0 zs.length ?_ ?_ (Gs _) s32
   ·simp [Ab];omega
   refine asd ?_;refine .nil ?_;refine AL.gh (Gh.keep [0] rfl) ?_
   have:=ih zs ⟨by rw [← hI,Hg],by omega⟩ (by omega)
   have e2:((L (zs++[0])).drop 0).take (zs.length-0)=L zs:=by simp [QL,← Ab zs]
   rw [e2]
   exact this
  ·have e2:decide ((z:Int)=0)=false:=by simp;omega
   rw [e2]
   refine BZ ?_;refine .exit ?_;refine aw ?_
   refine .seq (.region ?_)
   refine mvd ?_;refine asd ?_;refine rn ?_;refine .ret ?_
   exact ⟨by rw [← hI,I9 _ hz];rfl,rfl⟩
theorem Vu : 0<AN Tryz.prog 118:=by rw [z32];decide
theorem F8 {a:List Nat} (h:Ok a) (hl:a.length≤35184372087808) : Fn Tryz.prog 143 [.sl (L a)] (.d (.sl (L (Ao (val a))))):=by
 have:=YE a (by omega)
 rwa [Gg h] at this
theorem Na (a:List Nat) (hl:a.length≤35184372087808) : Fn Tryz.prog 142 [.sl (L a)] (.own 118 (L a)):=by
 refine Fn.o1 2 8 Tryz.func142 ?_;refine .sr ?_;refine asn ?_;refine rn ?_;refine .seq ?_;refine .sr ?_;refine mvd ?_
 refine nq (fun b hb=>?_) (BP _) l32
 refine rn ?_
 refine cnd (fun hc=>?_) (fun hc=>?_)
 ·simp only [if_true] at hc
  have h0:L a=[]:=by
   apply Classical.byContradiction
   intro h;rw [hb h] at hc;cases hc
  refine .sr ?_;refine asn ?_;refine rn ?_;refine .gh (Gh.nlOwn (t:=2) 118 Vu rfl) ?_;refine .ret ?_
  exact ⟨by rw [h0];rfl,rfl⟩
 ·refine .skip ?_
  refine aw ?_;refine .sr ?_
  refine bsl ?_ ?_ e32
  ·simp
  refine mvd ?_
  refine apo ?_ ?_ (Gs _) e32
  ·simp [Ab];omega
  refine aso ?_;refine rn ?_;refine .ret ?_
  exact ⟨rfl,rfl⟩
theorem Pk {a:List Nat} (h:Ok a) (hl:a.length≤35184372087808) : Fn Tryz.prog 172 [.sl (L a)] (.own 118 (L (Ao (val a)))):=by
 have hd:=Cv h
 refine Fn.o1 2 6 Tryz.func172 ?_;refine .sr ?_;refine asn ?_;refine rn ?_;refine .sr ?_;refine mvd ?_
 refine cl ?_ (F8 h hl) Tryz.call143
 refine cl ?_ (Na (Ao (val a)) (by omega)) Tryz.call142
 refine aso ?_;refine rn ?_;refine .ret ?_
 exact ⟨rfl,rfl⟩
theorem Qk {a:List Nat} (h:Ok a) (hl:a.length≤35184372087808) : Fn Tryz.prog 164 [.sl (L a)] (.d (.b (decide (Ao (val a)=a)))):=by
 have hd:=Cv h
 refine Fn.o1 2 9 Tryz.func164 ?_;refine .sr ?_;refine asd ?_;refine rn ?_;refine .sr ?_;refine mvd ?_
 refine ln ?_ (BP _) l32
 refine mvd ?_
 refine cl ?_ (F8 h hl) Tryz.call143
 refine ln ?_ (BP _) l32
 refine bi ?_;refine asd ?_;refine rn ?_;refine .ret ?_
 refine ⟨?_,rfl⟩
 show AV.d (.b (decide (((L a).length:Int)=((L (Ao (val a))).length:Int))))=_
 congr 2
 simp only [Ab,decide_eq_decide]
 rw [← Q5 h];omega
theorem Oe {n:Nat} (h:n<18446744073709551616) : val [n % 4294967296,n / 4294967296]=n∧Ok [n % 4294967296,n / 4294967296]:=by
 refine ⟨by simp only [val];omega,?_⟩
 exact .cons (Nat.mod_lt _ (by decide)) (.cons (by omega) .nil)
theorem EF (n:Nat) : IntKind.u32.wrap (n:Int)=((n % 4294967296:Nat) : Int):=by
 simp only [IntKind.wrap,IntKind.bits,IntKind.signed]
 simp
theorem Xx {n:Nat} (h:n<18446744073709551616) : Fn Tryz.prog 104 [.i .u64 n] (.d (.sl (L (Ao n)))):=by
 obtain ⟨h1,h2⟩:=Oe h
 refine Fn.o1 2 10 Tryz.func104 ?_;refine .sr ?_;refine asn ?_;refine rn ?_;refine .sr ?_;refine mvd ?_
 refine cve ((n % 4294967296:Nat):Int) (EF n) ?_ u64 u32
 refine mvd ?_;refine bie (.i .u64 ((n / 4294967296:Nat):Int)) ?_ ?_
 ·simp [IntKind.bits]
 refine cve ((n / 4294967296:Nat):Int) (by rw [EF,Nat.mod_eq_of_lt];omega) ?_ u64 u32
 refine bsl ?_ ?_ e32
 ·simp [DV.flat,DV.cells,DV.leaf]
 refine fz (p:=.t 8) ?_
 refine cl (xs:=[.sl (L [n % 4294967296,n / 4294967296])]) ?_ (F8 h2 (by simp)) Tryz.call143
 refine asd ?_;refine rn ?_;refine .ret ?_
 exact ⟨by rw [h1];rfl,rfl⟩
theorem DW {a:List Nat} (h:Ok a) (hl:a.length≤35184372087808) : Fn Tryz.prog 152 [.sl (L a)] (.own 118 (L (Ao (val a)))):=by
 refine Fn.o1 2 24 Tryz.func152 ?_;refine .sr ?_;refine asn ?_;refine rn ?_;refine .sr ?_;refine mvd ?_
 refine ln ?_ (BP _) l32
 refine asd ?_;refine rn ?_;refine .seq ?_;refine .block ?_
 refine .loop (.gh (Gh.keep [0,3] rfl) ?_)
 refine AL.ind (σ:=Nat) (m:=fun n=>n) (e:=fun n=>[(0,.d (.sl (L a))),(3,.d (.i .i64 n))]) (h:=fun _=>[]) (I:=fun n=>n≤a.length∧JI (a.take n)=JI a) ?_ (L a).length ⟨by simp [Ab],by rw [Ab,List.take_length]⟩
 intro n ⟨hn,hc⟩ ih
 -- behind the loop
 have fin:∀ (Q:Exit→Env→Ad→Prop),JI (a.take n)=a.take n→True:=fun _ _=>trivial
 refine .seq ?_;refine .sr ?_;refine mvd ?_;refine bi ?_;refine mvd ?_
 by_cases hz:0<n∧a[n-1]?=some 0
 ·obtain ⟨h0,h1⟩:=hz
  rw [dT (show (0:Int)<(n:Int) by omega)]
  refine mvd ?_;refine mvd ?_;refine su ((n-1:Nat):Int) ?_ ?_
  ·omega
  refine ix (n-1) ?_ rfl (EW h1) rfl s32
  refine ldp ?_ a32
  refine bi ?_;refine pkd ?_;refine rn ?_;refine B1 ?_;refine .skip ?_;refine aw ?_;refine .block ?_;refine .region ?_;refine mvd ?_;refine su ((n-1:Nat):Int) ?_ ?_
  ·omega
  refine asd ?_;refine .nil ?_
  refine AL.gh (Gh.keep [0,3] rfl) (ih (n-1) ⟨by omega,?_⟩ (by omega))
  rw [← hc]
  have:a.take n=a.take (n-1)++[0]:=by
   have:=List.take_add_one (l:=a) (i:=n-1)
   rw [h1] at this
   rw [show n-1+1=n by omega] at this
   simpa using this
  rw [this,Hg]
 ·have hfin:JI a=a.take n:=by
   rw [← hc]
   rcases Nat.eq_zero_or_pos n with rfl|h0
   ·simp [JI]
   ·obtain ⟨x,hx⟩:∃ x,a[n-1]?=some x:=⟨_,lG (by omega)⟩
    have hx0:x≠0:=fun e=>hz ⟨h0,by rw [hx,e]⟩
    have:a.take n=a.take (n-1)++[x]:=by
     have:=List.take_add_one (l:=a) (i:=n-1)
     rw [hx] at this
     rw [show n-1+1=n by omega] at this
     simpa using this
    rw [this,I9 _ hx0]
  refine RL.gh (Gh.keep [0,3,8,9] rfl) ?_
  have tail:∀ e:Env,get e 0=.d (.sl (L a))→get e 3=.d (.i .i64 n)→get e 16=.d (.b false)→True:=fun _ _ _ _=>trivial
  by_cases h0:0<n
  ·obtain ⟨x,hx⟩:∃ x,a[n-1]?=some x:=⟨_,lG (by omega)⟩
   have hx0:x≠0:=fun e=>hz ⟨h0,by rw [hx,e]⟩
   rw [dT (show (0:Int)<(n:Int) by omega)]
   refine mvd ?_;refine mvd ?_;refine su ((n-1:Nat):Int) ?_ ?_
   ·omega
   refine ix (n-1) ?_ rfl (EW hx) rfl s32
   refine ldp ?_ a32
   refine bi ?_;refine pkd ?_;refine rn ?_
   rw [dF (show ¬(x:Int)=0 by omega)]
   refine BZ ?_;refine .exit ?_;refine aw ?_;refine .gh (Gh.keep [0,3] rfl) ?_;refine .sr ?_;refine asn ?_;refine rn ?_;refine .sr ?_;refine mvn ?_;refine mvd ?_;refine mvd ?_
   refine sl 0 n ?_ ?_ (Gs _) s32
   ·simp [Ab];omega
   rw [List.drop_zero,Nat.sub_zero,P5,← hfin,Gg h]
   refine apn ?_ ?_ (Gs _) e32
   ·have:=Cv h;simp [Ab];omega
   refine aso ?_;refine rn ?_;refine .ret ?_
   exact ⟨rfl,rfl⟩
  ·obtain rfl:n=0:=by omega
   repeat refine gf ?_
   refine pkd ?_;refine rn ?_;refine BZ ?_;refine .exit ?_;refine aw ?_;refine .gh (Gh.keep [0,3] rfl) ?_;refine .sr ?_;refine asn ?_;refine rn ?_;refine .sr ?_;refine mvn ?_;refine mvd ?_;refine mvd ?_
   refine sl 0 0 ?_ ?_ (Gs _) s32
   ·simp
   rw [List.drop_zero,Nat.sub_zero,P5,← hfin,Gg h]
   refine apn ?_ ?_ (Gs _) e32
   ·have:=Cv h;simp [Ab];omega
   refine aso ?_;refine rn ?_;refine .ret ?_
   exact ⟨rfl,rfl⟩
theorem Cb {n:Nat} (h:n<18446744073709551616) : IntKind.u64.wrap (n:Int)=n:=by
 simp only [IntKind.wrap,IntKind.bits,IntKind.signed]
 simp;omega
theorem Ka {n:Nat} (h:n<4294967296) : IntKind.u32.wrap (n:Int)=n:=by
 rw [EF,Nat.mod_eq_of_lt h]
theorem KG {a:List Nat} (h:Ok a) {i:Nat} (hi:i<9223372036854775807) : Fn Tryz.prog 186 [.sl (L a),.i .i64 i] (.d (.i .u64 (a.getD i 0:Nat))):=by
 refine Fn.o1 4 14 Tryz.func186 ?_;refine .sr ?_;refine asd ?_;refine rn ?_;refine .seq ?_;refine .sr ?_;refine mvd ?_;refine mvd ?_
 refine ln ?_ (BP _) l32
 refine bi ?_;refine rn ?_
 by_cases hl:i<a.length
 ·rw [dT (show (i:Int)<((L a).length:Int) by rw [Ab];omega)]
  have hx:a[i]?=some a[i]:=lG hl
  refine B1 ?_;refine .sr ?_;refine mvd ?_;refine mvd ?_
  refine ix i ?_ rfl (EW hx) rfl s32
  refine ldp ?_ a32
  refine cve ((a[i]:Nat):Int) (Cb (by have:=h.at hx;omega)) ?_ u32 u64
  refine asd ?_;refine rn ?_;refine .ret ?_
  exact ⟨by rw [lD,hx];rfl,rfl⟩
 ·rw [dF (show ¬(i:Int)<((L a).length:Int) by rw [Ab];omega)]
  refine BZ ?_;refine .skip ?_;refine aw ?_;refine .sr ?_;refine asd ?_;refine rn ?_;refine .ret ?_
  exact ⟨by rw [lD,List.getElem?_eq_none (by omega)];rfl,rfl⟩
theorem Vx {n:Nat} (h:n<18446744073709551616) : Fn Tryz.prog 127 [.i .u64 n] (.own 118 (L (Ao n))):=by
 obtain ⟨h1,h2⟩:=Oe h
 refine Fn.o1 2 10 Tryz.func127 ?_;refine .sr ?_;refine asn ?_;refine rn ?_;refine .sr ?_;refine mvd ?_
 refine cve ((n % 4294967296:Nat):Int) (EF n) ?_ u64 u32
 refine mvd ?_;refine bie (.i .u64 ((n / 4294967296:Nat):Int)) ?_ ?_
 ·simp [IntKind.bits]
 refine cve ((n / 4294967296:Nat):Int) (by rw [EF,Nat.mod_eq_of_lt];omega) ?_ u64 u32
 refine bsl ?_ ?_ e32
 ·simp [DV.flat,DV.cells,DV.leaf]
 refine fz (p:=.t 8) ?_
 refine cl (xs:=[.sl (L [n % 4294967296,n / 4294967296])]) ?_ (DW h2 (by simp)) Tryz.call152
 refine aso ?_;refine rn ?_;refine .ret ?_
 exact ⟨by rw [h1];rfl,rfl⟩
theorem Su (a b:List Nat) (hl:a.length≤35184372087808) : Fn Tryz.prog 112 [.sl (L a),.sl (L b)] (.d (.b (decide (a=b)))):=by
 refine Fn.o1 4 26 Tryz.func112 ?_;refine .sr ?_;refine asd ?_;refine rn ?_;refine .seq ?_;refine .sr ?_;refine mvd ?_
 refine ln ?_ (BP _) l32
 refine mvd ?_
 refine ln ?_ (BP _) l32
 refine bi ?_;refine rn ?_
 by_cases hlen:a.length=b.length
 ·have e1:(!decide (((L a).length:Int)=((L b).length:Int)))=false:=by simp [Ab];omega
  rw [e1]
  refine BZ ?_;refine .skip ?_;refine aw ?_;refine .mid (fun e H'=>e=[(0,.d (.sl (L a))),(1,.d (.sl (L b)))]∧a=b) ?_ ?_
  ·refine .sr ?_
   refine asd ?_;refine rn ?_;refine .block ?_
   refine .loop (.gh (Gh.keep [0,1,5] rfl) ?_)
   refine AL.ind (σ:=Nat) (m:=fun i=>a.length-i) (e:=fun i=>[(0,.d (.sl (L a))),(1,.d (.sl (L b))),(5,.d (.i .i64 i))]) (h:=fun _=>[]) (I:=fun i=>i≤a.length∧a.take i=b.take i) ?_ 0 ⟨by omega,by simp⟩
   intro i ⟨hi,hc⟩ ih
   refine .seq ?_;refine .sr ?_;refine mvd ?_;refine mvd ?_
   refine ln ?_ (BP _) l32
   refine bi ?_;refine rn ?_
   by_cases hil:i<a.length
   ·rw [dT (show (i:Int)<((L a).length:Int) by rw [Ab];omega)]
    have hx:a[i]?=some a[i]:=lG hil
    have hy:b[i]?=some b[i]:=lG (by omega)
    refine B1 ?_;refine .skip ?_;refine aw ?_;refine .gh (Gh.keep [0,1,5] rfl) ?_;refine .seq ?_;refine .block ?_;refine .seq ?_;refine .drawn 9 Bw (by kernel_rfl) ?_;refine dv Ah ?_;refine dv Ah ?_;refine dv (vix i rfl (EW hx) rfl s32) ?_;refine dv (Ai a32) ?_;refine dv Ah ?_;refine dv Ah ?_;refine dv (vix i rfl (EW hy) rfl s32) ?_;refine dv (Ai a32) ?_;refine dv vbi ?_;refine dz ?_;refine rn ?_
    by_cases hxy:a[i]=b[i]
    ·have e2:(!decide (((a[i]:Nat):Int)=((b[i]:Nat):Int)))=false:=by simp;omega
     rw [e2]
     refine BZ ?_;refine .skip ?_;refine aw ?_;refine .region ?_;refine mvd ?_;refine ad ((i+1:Nat):Int) ?_ ?_
     ·omega
     refine asd ?_;refine .nil ?_
     refine AL.gh (Gh.keep [0,1,5] rfl) (ih (i+1) ⟨by omega,?_⟩ (by omega))
     rw [List.take_add_one,List.take_add_one,hc,hx,hy,hxy]
    ·have e2:(!decide (((a[i]:Nat):Int)=((b[i]:Nat):Int)))=true:=by simp;omega
     rw [e2]
     refine B1 ?_;refine .sr ?_;refine asd ?_;refine rn ?_;refine .ret ?_
     have:a≠b:=fun e=>hxy (by subst e;rfl)
     exact ⟨by rw [dF this];rfl,rfl⟩
   ·rw [dF (show ¬(i:Int)<((L a).length:Int) by rw [Ab];omega)]
    refine BZ ?_;refine .gh (Gh.keep [0,1] rfl) ?_;refine .exit ?_
    refine ⟨rfl,?_⟩
    rwa [List.take_of_length_le (by omega),List.take_of_length_le (by omega)] at hc
  ·rintro _ _ ⟨rfl,rfl⟩
   refine .sr ?_;refine asd ?_;refine rn ?_;refine .ret ?_
   exact ⟨by rw [dT rfl];rfl,rfl⟩
 ·have e1:(!decide (((L a).length:Int)=((L b).length:Int)))=true:=by simp [Ab];omega
  rw [e1]
  refine B1 ?_;refine .sr ?_;refine asd ?_;refine rn ?_;refine .ret ?_
  have:a≠b:=fun e=>hlen (by rw [e])
  exact ⟨by rw [dF this];rfl,rfl⟩
end Go.FL
namespace Go.FL
open Go Go.Proofs Go.RowKit
attribute [local go_sem] Oper.semAt_some
set_option maxRecDepth 100000 in
set_option maxHeartbeats 2000000 in
theorem XC (F:Fence) (n:Nat) (hF:F.fn 168) (hro:F.round=none) (hn:1≤n) (l:Nat) (bx:Nat) (ox:Nat) (A:Option Addr) (b off cap:Nat) (vs:List Value) (J:Nat→World→Prop) (hr:vs.length≤1048576) (hA:0<vs.length→A=some ⟨b,off,none⟩)
  (hbx:∀ k W',J k W'→W'.cell? ⟨bx,ox,none⟩=some (.slice A vs.length cap)) (hc:∀ k W',J k W'→∀ j u,vs[j]?=some u→W'.cell? ⟨b,off+j,none⟩=some u)
  (hY:∀ k W1 u,J k W1→k<vs.length→vs[vs.length-1-k]?=some u→YieldAt F (n-1) Tryz.prog l #[.int .i64 ((vs.length-1-k:Nat):Int),u] W1 fun e W'=>e=.returned (.bool true)∧J (k+1) W')
  (W:World) (h0:J 0 W) :
  CallsIn F n Tryz.prog 168 #[.func (.yield l) #[] #[],.pointer (some ⟨bx,ox,none⟩)] W fun e W'=>(∃ v,e=.returned v)∧J vs.length W':=by
 refine callsIn_of_wp Tryz.func168 rfl hF ?_ hro
 simp only [Tryz.ntmps168,List.size_toArray,List.length_cons,List.length_nil,Nat.reduceAdd,Nat.reduceSub,Array.replicate_succ,Array.replicate_zero,List.push_toArray,List.append_toArray,List.nil_append,List.cons_append]
 have hbx0:=hbx 0 W h0
 gi_wp2
 gi_loopw [3] (fun i wr=>∃ k:Nat,k≤vs.length∧i=.int .i64 ((vs.length:Int)-1-k)∧J k wr) (fun i _=>((intOf i)+1).toNat)
 case atStart=>exact ⟨0,Nat.zero_le _,by simp,h0⟩
 case round =>
  obtain ⟨k,hk,rfl,hJs⟩:=hrel
  have hbx':=hbx k wr hJs
  by_cases hlt:k<vs.length
  ·have hvk:vs[vs.length-1-k]?=some vs[vs.length-1-k]:=lG (by omega)
   obtain ⟨fn,tmps,assign,body,hy,hR⟩:=hY k wr _ hJs hlt hvk
   rw [show ((vs.length-1-k:Nat):Int)=(vs.length:Int)-1-k by omega] at hy
   have hcx':=hc k wr hJs _ _ hvk
   have hAA:=hA (by omega)
   subst hAA
   gi_wp2
   refine hR.mono ?_
   rintro e W3 ⟨rfl,hJ3⟩
   gi_wp2
   go_roundw
   case rel=>exact ⟨k+1,by omega,by simp;omega,hJ3⟩
   case measure=>simp [intOf];omega
  ·obtain rfl:k=vs.length:=by omega
   gi_wp2
   go_end0
   exact ⟨⟨_,rfl⟩,hJs⟩
def Kf (xs:List DV) : List (List DV):=(List.range xs.length).map fun k=>[.i .i64 ((xs.length-1-k:Nat) : Int),xs.getD (xs.length-1-k) .np]
theorem Ih (xs:List DV) : (Kf xs).length=xs.length:=by simp [Kf]
theorem QI {xs:List DV} {k:Nat} {ds:List DV} (h:(Kf xs)[k]?=some ds) : k<xs.length∧ds=[.i .i64 ((xs.length-1-k:Nat) : Int),xs.getD (xs.length-1-k) .np]:=by
 have h1:k<(Kf xs).length:=(lS.1 h).1
 rw [Ih] at h1
 refine ⟨h1,?_⟩
 simp [Kf,h1] at h
 rw [← h];simp
theorem Of {P:Program} {n m:Nat} {f:FuncId} {args:Array Value} {w:World} {R:Ending→World→Prop} (h:CallsIn (om none) n P f args w R) : CallsIn (om none) m P f args w R:=⟨h.1,fun cs _=>h.2 cs (room_wide _)⟩
theorem RepRows.leaf1 {w:World} {I:Nat→Prop} : ∀ {xs:List DV} {vs:List Value},RepRows w I 1 xs vs→(∀ x∈xs,x.leaf=true)→RepAll w I xs vs:=by
 intro xs
 induction xs with
 | nil=>intro vs h _;cases h;exact .nil
 | cons x xs ih =>
  intro vs h hx
  cases h with
  | cons hl h1 h t =>
   rename_i us vs'
   rw [DV.leaf_cells (hx x (by simp))] at h
   cases h with
   | cons hh tt=>cases tt;exact .cons hh (ih t fun y hy=>hx y (by simp [hy]))
theorem RepRows.size1 {w:World} {I:Nat→Prop} {sz:Nat} {xs:List DV} {vs:List Value} (h:RepRows w I sz xs vs) (hx:∀ x∈xs,x.leaf=true) (hne:xs≠[]) : sz=1:=by
 cases h with
 | nil=>exact absurd rfl hne
 | cons hl h1 h t =>
  rename_i x xs' us vs'
  rw [DV.leaf_cells (hx x (by simp))] at h
  have:=h.length
  rw [← hl,← this];rfl
theorem Y9 (xs:List DV) (hx:∀ x∈xs,x.leaf=true) (hl:xs.length≤1048576) : It Tryz.prog 168 [.ptr [.sl xs]] (Kf xs):=by
 intro l W I cv J hJ hcv hY h0
 cases hcv with
 | cons hp ht =>
 cases ht
 cases hp with
 | ptr _ bk o us hI hh hr =>
 cases hr with
 | cons hs hn =>
 cases hn
 rename_i u
 have hbx:∀ k W',J k W'→W'.cell? ⟨bk,o,none⟩=some u:=fun k W' hj=>by
  have:=hh 0 u rfl
  rw [World.cell?_of_block (w:=W) (w':=W') (a:=⟨bk,o,none⟩) (hJ k W' hj bk hI)]
  simpa using this
 cases hs with
 | sl0 A c =>
  exact Of (XC (om none) 1 trivial rfl (Nat.le_refl _) l bk o A 0 0 c [] J (by simp) (by simp) hbx (by simp) (by simp) W h0)
 | sl xs bk' o' sz c vs hne hc hI' hsz hh' hr =>
  have hs1:=hr.size1 hx hne
  subst hs1
  have hra:=hr.leaf1 hx
  have hlv:xs.length=vs.length:=hra.length
  have hcell:∀ k W',J k W'→∀ j v,vs[j]?=some v→W'.cell? ⟨bk',o'+j,none⟩=some v:=fun k W' hj j v hv=>by
   rw [World.cell?_of_block (w:=W) (w':=W') (a:=⟨bk',o'+j,none⟩) (hJ k W' hj bk' hI')]
   exact hh' j v hv
  have:=XC (om none) 1 trivial rfl (Nat.le_refl _) l bk o (some ⟨bk',o',none⟩) bk' o' c vs J (by omega) (fun _=>rfl) (by rw [← hlv];exact hbx) hcell (fun k W1 v hj hk hv=>?_) W h0
  ·rw [Ih,hlv];exact Of this
  ·have hk':k<xs.length:=by omega
   have hx1:xs[xs.length-1-k]?=some xs[xs.length-1-k]:=lG (by omega)
   obtain ⟨v',hv1,hv2⟩:=hra.get _ _ hx1
   rw [hlv,hv] at hv1
   cases hv1
   have hyk:(Kf xs)[k]?=some [.i .i64 ((xs.length-1-k:Nat):Int),xs.getD (xs.length-1-k) .np]:=by
    simp [Kf,hk']
   rw [← hlv]
   refine hY k W1 _ [.int .i64 ((xs.length-1-k:Nat):Int),v] hj hyk (.cons (.i _ _) (.cons ?_ .nil))
   rw [lD,hx1]
   exact hv2.keep (hJ k W1 hj) fun _ h=>h
end Go.FL
namespace Go.FL
open Go Go.Proofs
theorem Qp (xs:List DV) : Fn Tryz.prog 157 [.sl xs] (.d (.fn 168 [] [.ptr [.sl xs]])):=by
 refine Fn.o1 2 4 Tryz.func157 ?_;refine .sr ?_;refine bxd ?_;refine asd ?_;refine rn ?_;refine .sr ?_;refine mkf ?_;refine asd ?_;refine rn ?_;refine .ret ?_
 exact ⟨rfl,rfl⟩
def BN (n:Nat) : Nat:=if n=0 then 0 else n.log2+1
theorem E0 {n k:Nat} : BN n≤k↔n<2 ^ k:=by
 unfold BN;split
 ·rename_i h;subst h;simp [Nat.two_pow_pos]
 ·rename_i h;rw [← Nat.log2_lt h];omega
theorem P9 {n k:Nat} (h1:2 ^ k≤n) (h2:n<2 ^ (k+1)) : BN n=k+1:=by
 have a:=E0.2 h2
 have b:¬BN n≤k:=fun h=>by have:=E0.1 h;omega
 omega
theorem Jn {n:Nat} (h:n≠0) : ∃ k,BN n=k+1∧2 ^ k≤n∧n<2 ^ (k+1):=by
 refine ⟨n.log2,by simp [BN,h],Nat.log2_self_le h,Nat.lt_log2_self⟩
theorem LP {n m:Nat} (h:2 ^ m≤n) : BN n=m+BN (n / 2 ^ m):=by
 have hp:0<2 ^ m:=Nat.two_pow_pos m
 have h0:n / 2 ^ m≠0:=by have:=Nat.div_pos h hp;omega
 obtain ⟨k,h1,h2,h3⟩:=Jn h0
 rw [h1]
 rw [show m+(k+1)=(m+k)+1 by omega]
 refine P9 ?_ ?_
 ·rw [Nat.pow_add,Nat.mul_comm]
  exact (Nat.le_div_iff_mul_le hp).1 h2
 ·rw [show m+k+1=(k+1)+m by omega,Nat.pow_add]
  exact (Nat.div_lt_iff_lt_mul hp).1 h3
theorem X2 {l:List UInt8} (n:Nat) (h:n<256) (hl:(List.range 256).map (fun n=>(BN n).toUInt8)=l) : l[n]?=some (BN n).toUInt8:=by
 subst hl;simp [h]
theorem Yq {n:Nat} (h:n<256) : IntKind.u8.wrap (n:Int)=n:=by
 simp only [IntKind.wrap,IntKind.bits,IntKind.signed]
 simp;omega
theorem Vm {n:Nat} (h:n<4294967296) : Fn Tryz.prog 178 [.i .u32 n] (.d (.i .i64 (BN n))):=by
 refine Fn.o1 2 19 Tryz.func178 ?_;refine .sr ?_;refine asd ?_;refine rn ?_;refine .mid (fun e H'=>∃ y k:Nat,e=[(0,.d (.i .u32 y)),(2,.d (.i .i64 k))]∧y<65536∧k≤16∧BN n=k+BN y) ?_ ?_
 ·refine .sr ?_
  refine mvd ?_;refine bi ?_;refine rn ?_
  by_cases hc:65536≤n
  ·rw [dT (show (65536:Int)≤(n:Int) by omega)]
   refine B1 ?_;refine .sr ?_;refine mvd ?_;refine bie (.i .u32 ((n / 65536:Nat):Int)) ?_ ?_
   ·simp [IntKind.bits]
   refine asd ?_;refine rn ?_;refine .region ?_;refine asd ?_;refine RL.gh (Gh.keep [0,2] rfl) ?_;refine rn ?_
   exact ⟨n / 65536,16,rfl,by omega,by omega,LP (m:=16) (by omega)⟩
  ·rw [dF (show ¬(65536:Int)≤(n:Int) by omega)]
   refine BZ ?_;refine .gh (Gh.keep [0,2] rfl) ?_;refine .skip ?_
   exact ⟨n,0,rfl,by omega,by omega,by omega⟩
 rintro _ _ ⟨y,k,rfl,hy,hk,e1⟩
 refine .mid (fun e H'=>∃ z j:Nat,e=[(0,.d (.i .u32 z)),(2,.d (.i .i64 j))]∧z<256∧j≤24∧BN n=j+BN z) ?_ ?_
 ·refine .sr ?_
  refine mvd ?_;refine bi ?_;refine rn ?_
  by_cases hc:256≤y
  ·rw [dT (show (256:Int)≤(y:Int) by omega)]
   refine B1 ?_;refine .sr ?_;refine mvd ?_;refine bie (.i .u32 ((y / 256:Nat):Int)) ?_ ?_
   ·simp [IntKind.bits]
   refine asd ?_;refine rn ?_;refine .region ?_;refine mvd ?_;refine ad ((k+8:Nat):Int) ?_ ?_
   ·omega
   refine asd ?_;refine RL.gh (Gh.keep [0,2] rfl) ?_;refine rn ?_
   exact ⟨y / 256,k+8,rfl,by omega,by omega,by rw [e1,LP (m:=8) (by omega)];simp;omega⟩
  ·rw [dF (show ¬(256:Int)≤(y:Int) by omega)]
   refine BZ ?_;refine .gh (Gh.keep [0,2] rfl) ?_;refine .skip ?_
   exact ⟨y,k,rfl,by omega,by omega,e1⟩
 rintro _ _ ⟨z,j,rfl,hz,hj,e2⟩
 have hb:BN z≤8:=E0.2 (by omega)
 refine .sr ?_;refine mvd ?_;refine mvd ?_
 refine cve (z:Int) (Yq hz) ?_ u32 u8
 refine ids (b:=(BN z).toUInt8) z rfl ?_ ?_ st
 ·exact X2 z hz (by kernel_rfl)
 have e3:((BN z).toUInt8).toNat=BN z:=by simp;omega
 rw [e3]
 refine cve ((BN z:Nat):Int) (G1 (by omega) (by omega)) ?_ u8 i64
 refine ad ((BN n:Nat):Int) ?_ ?_
 ·omega
 refine asd ?_;refine rn ?_;refine .ret ?_
 exact ⟨rfl,rfl⟩
theorem GQ {n:Nat} (h:n<4294967296) : Fn Tryz.prog 167 [.i .u32 n] (.d (.i .i64 ((32-BN n:Nat) : Int))):=by
 have hb:BN n≤32:=E0.2 (by omega)
 refine Fn.o1 2 6 Tryz.func167 ?_;refine .sr ?_;refine asd ?_;refine rn ?_;refine .sr ?_;refine mvd ?_
 refine cl ?_ (Vm h) Tryz.call178
 refine su ((32-BN n:Nat):Int) ?_ ?_
 ·omega
 refine asd ?_;refine rn ?_;refine .ret ?_
 exact ⟨rfl,rfl⟩
theorem Zb (n:Nat) : 4294967296 ^ n=2 ^ (32 * n):=by rw [Nat.pow_mul]
theorem Pb {b:List Nat} {x:Nat} (h:Ok b) (hx:x≠0) : BN (val (b++[x]))=32 * b.length+BN x:=by
 obtain ⟨k,h1,h2,h3⟩:=Jn hx
 have hv:=Es h
 rw [h1,Fp,← Nat.add_assoc]
 simp only [val]
 rw [Zb] at hv ⊢
 have hp:=Nat.two_pow_pos (32 * b.length)
 refine P9 ?_ ?_
 ·rw [Nat.pow_add]
  have:=Nat.mul_le_mul_left (2 ^ (32 * b.length)) h2
  simp only [Nat.mul_zero,Nat.add_zero];omega
 ·rw [show 32 * b.length+k+1=32 * b.length+(k+1) by omega,Nat.pow_add]
  have:=Nat.mul_le_mul_left (2 ^ (32 * b.length)) (Nat.succ_le_of_lt h3)
  rw [Nat.mul_succ] at this
  simp only [Nat.mul_zero,Nat.add_zero];omega
theorem NA {n:Nat} (h:n≠0) : ∃ b x,Ao n=b++[x]∧x≠0∧Ok b∧x<4294967296:=by
 rcases List.eq_nil_or_concat (Ao n) with h0|⟨b,x,h0⟩
 ·rw [Er h] at h0;cases h0
 ·rw [List.concat_eq_append] at h0
  have ho:=BI n
  rw [h0] at ho
  exact ⟨b,x,h0,Wf n x (by rw [h0];simp),ho.left,ho.right x (by simp)⟩
theorem HS {n:Nat} : Ao n=[]↔n=0:=by
 constructor
 ·intro h
  apply Classical.byContradiction
  intro h0;rw [Er h0] at h;cases h
 ·rintro rfl;exact AU
theorem W4 {a:List Nat} (h:Ok a) (hl:a.length≤1048576) : Fn Tryz.prog 156 [.sl (L a)] (.d (.i .i64 (BN (val a)))):=by
 have hd:=Cv h
 refine Fn.o1 2 19 Tryz.func156 ?_;refine .sr ?_;refine asd ?_;refine rn ?_;refine .sr ?_;refine mvd ?_
 refine cl ?_ (F8 h (by omega)) Tryz.call143
 refine asd ?_;refine rn ?_;refine .seq ?_;refine .sr ?_;refine mvd ?_
 refine ln ?_ (BP _) l32
 refine bi ?_;refine rn ?_
 by_cases hz:val a=0
 ·rw [hz,AU]
  refine B1 ?_;refine .sr ?_;refine asd ?_;refine rn ?_;refine .ret ?_
  exact ⟨rfl,rfl⟩
 ·obtain ⟨b,x,e1,hx,hb,hxl⟩:=NA hz
  have hval:BN (val a)=32 * b.length+BN x:=by rw [← Pb hb hx,← e1,A8]
  have hlx:BN x≤32:=E0.2 (by omega)
  rw [e1] at hd ⊢
  simp only [List.length_append,List.length_singleton] at hd
  rw [dF (show ¬((L (b++[x])).length:Int)=0 by simp [Ab];omega)]
  refine BZ ?_;refine .skip ?_;refine aw ?_;refine .sr ?_;refine mvd ?_
  refine ln ?_ (BP _) l32
  refine ml ((32 * (b.length+1):Nat):Int) ?_ ?_
  ·simp [Ab];omega
  refine mvd ?_;refine mvd ?_
  refine ln ?_ (BP _) l32
  refine su (b.length:Int) ?_ ?_
  ·simp [Ab];omega
  refine ix b.length ?_ rfl (EW (xs:=b++[x]) (n:=x) (by simp)) rfl s32
  refine ldp ?_ a32
  refine cl ?_ (GQ hxl) Tryz.call167
  refine su ((BN (val a):Nat):Int) ?_ ?_
  ·omega
  refine asd ?_;refine rn ?_;refine .ret ?_
  exact ⟨rfl,rfl⟩
theorem Gc (n:Int) (h₀:0≤n) (h₁:n<2 ^ 64) : IntKind.u64.wrap n=n:=by
 simp only [IntKind.wrap,IntKind.bits,IntKind.signed];simp;omega
theorem HH (n:Int) (h₀:0≤n) (h₁:n<2 ^ 32) : IntKind.u32.wrap n=n:=by
 simp only [IntKind.wrap,IntKind.bits,IntKind.signed];simp;omega
theorem KH {x y:Nat} (hx:x<4294967296) (hy:y<4294967296) : bits .or .u64 ((x * 4294967296:Nat) : Int) (y:Int)=((x * 4294967296+y:Nat) : Int):=by
 rw [bits_join .u64 64 (by decide) Gc 32 ((x * 4294967296:Nat):Int) (y:Int) (by omega) (by omega) (by omega) (by omega) (by omega) (by omega)]
 omega
theorem Rr (n m:Nat) : Int.tdiv (n:Int) (m:Int)=((n / m:Nat) : Int):=rfl
theorem V6 (n m:Nat) : Int.tmod (n:Int) (m:Int)=((n % m:Nat) : Int):=rfl
theorem UQ {hi lo y:Nat} (h1:hi<y) (h2:lo<4294967296) (h3:y<4294967296) : Fn Tryz.prog 187 [.i .u32 hi,.i .u32 lo,.i .u32 y]
  (.tup [.d (.i .u32 (((hi * 4294967296+lo) / y:Nat):Int)),.d (.i .u32 (((hi * 4294967296+lo) % y:Nat):Int))]):=by
 have hq:(hi * 4294967296+lo) / y<4294967296:=by
  rw [Nat.div_lt_iff_lt_mul (by omega)]
  have:hi * 4294967296+4294967296≤y * 4294967296:=by rw [← Nat.succ_mul];exact Nat.mul_le_mul_right _ h1
  omega
 have hr:(hi * 4294967296+lo) % y<4294967296:=by have:=Nat.mod_lt (hi * 4294967296+lo) (show 0<y by omega);omega
 refine Fn.of (rs:=[.tmp 6,.tmp 7]) (nt:=33) Tryz.func187 rfl rfl rfl (by simp) rfl ?_;refine .sr ?_;refine asd ?_;refine asd ?_;refine rn ?_;refine .seq ?_;refine .sr ?_;refine mvd ?_;refine bi ?_;refine mvd ?_
 have e1:(!decide ((y:Int)=0))=true:=by simp;omega
 rw [e1]
 refine mvd ?_;refine mvd ?_;refine bi ?_
 rw [dF (show ¬((y:Int)≤(hi:Int)) by omega)]
 refine pkd ?_;refine rn ?_;refine BZ ?_;refine .skip ?_;refine aw ?_;refine .sr ?_;refine mvd ?_
 refine cve (hi:Int) (Cb (by omega)) ?_ u32 u64
 refine bie (.i .u64 ((hi * 4294967296:Nat):Int)) ?_ ?_
 ·refine ⟨by decide,?_⟩
  rw [show min (32:Int).toNat IntKind.u64.bits=32 from rfl,Gc _ (by omega) (by omega)]
  simp
 refine mvd ?_
 refine cve (lo:Int) (Cb (by omega)) ?_ u32 u64
 refine bie (.i .u64 ((hi * 4294967296+lo:Nat):Int)) ?_ ?_
 ·exact ⟨trivial,by rw [KH (by omega) h2]⟩
 refine asd ?_;refine rn ?_;refine .seq ?_;refine .gh (Gh.keep [2,8] rfl) ?_;refine .drawn 12 Bw (by kernel_rfl) ?_;refine dv Ah ?_;refine dv Ah ?_;refine dv (U1 (y:Int) (Cb (by omega)) u32 u64) ?_;refine dv (PO (.i .u64 (((hi * 4294967296+lo) / y:Nat):Int)) ?_) ?_
 ·refine ⟨by omega,?_⟩
  rw [Rr,Cb (by omega)]
 refine dv (U1 (((hi * 4294967296+lo) / y:Nat):Int) (Ka hq) u64 u32) ?_;refine dv Ah ?_;refine dv Ah ?_;refine dv (U1 (y:Int) (Cb (by omega)) u32 u64) ?_;refine dv (PO (.i .u64 (((hi * 4294967296+lo) % y:Nat):Int)) ?_) ?_
 ·refine ⟨by omega,?_⟩
  rw [V6]
 refine dv (U1 (((hi * 4294967296+lo) % y:Nat):Int) (Ka hr) u64 u32) ?_;refine dv Zq ?_;refine dv Zq ?_;refine dz ?_;refine rn ?_;refine .ret ?_
 exact ⟨by decide,rfl,rfl,rfl⟩
theorem Uw (n:Int) (h₀:0≤n) (h₁:n<2 ^ 63) : IntKind.i64.wrap n=n:=by
 simp only [IntKind.wrap,IntKind.bits,IntKind.signed];simp;omega
theorem XP {xs:List Nat} {j:Nat} (h:j<xs.length) : val (xs.drop j)=xs[j]+4294967296 * val (xs.drop (j+1)):=by
 rw [lC h];simp [val]
theorem QV (xs:List Nat) (i n:Nat) : (L xs).set i (U n)=L (xs.set i n):=by simp [L,List.map_set]
theorem Ja {xs:List Nat} {i n:Nat} (h:xs[i]?=some n) : ∃ x,(L xs)[i]?=some x∧x.cells[0]?=some (U n):=⟨U n,EW h,rfl⟩
theorem HJ {xs:List Nat} {i n:Nat} (h:xs[i]?=some n) : ∃ x,(L xs)[i]?=some x∧x.leaf=true:=⟨U n,EW h,rfl⟩
theorem Qu {ds qs:List Nat} {k x r d:Nat} (hx:ds[k]?=some x) (h:val (ds.drop (k+1))=val qs * d+r) :
  val (ds.drop k)=val ((r * 4294967296+x) / d::qs) * d+(r * 4294967296+x) % d:=by
 have hk:k<ds.length:=(lS.1 hx).1
 have e:ds.drop k=x::ds.drop (k+1):=by
  rw [lC hk]
  rw [lG hk] at hx;cases hx;rfl
 rw [e,val,h,val]
 have:=Nat.div_add_mod (r * 4294967296+x) d
 generalize (r * 4294967296+x) / d=q at *
 generalize (r * 4294967296+x) % d=s at *
 rw [Nat.add_mul,Nat.mul_add,Nat.mul_comm q d]
 have e2:4294967296 * (val qs * d)=4294967296 * val qs * d:=by rw [Nat.mul_assoc]
 omega
theorem TL {n q r d:Nat} (h:n=q * d+r) (hr:r<d) : n / d=q∧n % d=r:=by
 subst h
 have hd:0<d:=by omega
 constructor
 ·rw [Nat.mul_comm,Nat.mul_add_div hd,Nat.div_eq_of_lt hr];omega
 ·rw [Nat.mul_comm,Nat.mul_add_mod,Nat.mod_eq_of_lt hr]
theorem Vd {a:List Nat} (h:Ok a) (hl:a.length≤1048576) {d:Nat} (hd0:0<d) (hd:d<4294967296) : Fn Tryz.prog 180 [.sl (L a),.i .u32 d]
  (.tup [.d (.sl (L (Ao (val a / d)))),.d (.sl (L (Ao (val a % d))))]):=by
 have hdl:=Cv h
 refine Fn.of (rs:=[.tmp 4,.tmp 5]) (nt:=35) Tryz.func180 rfl rfl rfl (by simp) rfl ?_;refine .sr ?_;refine asn ?_;refine asn ?_;refine rn ?_;refine .sr ?_;refine mvd ?_
 refine cl ?_ (Pk h (by omega)) Tryz.call172
 refine aso ?_;refine rn ?_;refine .sr ?_;refine asd ?_;refine rn ?_
 generalize hds:Ao (val a)=ds at *
 have hok:Ok ds:=by rw [← hds];exact BI _
 have hv:val ds=val a:=by rw [← hds,A8]
 refine .mid (fun e H'=>∃ qs r,e=[(4,.own 118 (L qs)),(6,.d (.i .u32 ((r:Nat):Int)))]∧H'=[]∧Ok qs∧qs.length=ds.length∧r<d∧val a=val qs * d+r) ?_ ?_
 ·refine .sr ?_
  refine mvo ?_
  refine lnr ?_ l32
  refine su ((ds.length:Int)-1) ?_ ?_
  ·simp [Ab];omega
  refine asd ?_;refine rn ?_;refine .block ?_
  refine .loop (.gh (Gh.keep [1,4,6,7] rfl) ?_)
  refine AL.cast (env':=[(1,.d (.i .u32 d)),(4,.own 118 (L (ds.take ds.length++[]))),(6,.d (.i .u32 ((0:Nat):Int))),(7,.d (.i .i64 ((ds.length:Int)-1)))]) (by simp [Ju,get,EA]) ?_
  refine AL.ind (σ:=Nat×List Nat×Nat) (m:=fun s=>s.1) (e:=fun s=>[(1,.d (.i .u32 d)),(4,.own 118 (L (ds.take s.1++s.2.1))),(6,.d (.i .u32 (s.2.2:Int))),(7,.d (.i .i64 ((s.1:Int)-1)))]) (h:=fun _=>[])
   (I:=fun s=>s.1≤ds.length∧Ok s.2.1∧s.2.1.length+s.1=ds.length∧s.2.2<d∧val (ds.drop s.1)=val s.2.1 * d+s.2.2) ?_ (ds.length,[],0) ?_
  rotate_left
  ·exact ⟨Nat.le_refl _,.nil,by simp,hd0,by simp [val]⟩
  rintro ⟨k,qs,r⟩ ⟨h1,h2,h3,h4,h5⟩ ih
  dsimp only at h1 h2 h3 h4 h5 ih ⊢
  refine .seq ?_;refine .sr ?_;refine mvd ?_;refine bi ?_;refine rn ?_
  rcases Nat.eq_zero_or_pos k with rfl|hk
  ·rw [dF (show ¬(0:Int)≤((0:Nat):Int)-1 by omega)]
   refine BZ ?_;refine .gh (Gh.keep [4,6] rfl) ?_;refine .exit ?_
   refine ⟨qs,r,rfl,rfl,h2,by omega,h4,?_⟩
   rw [← hv,← h5,List.drop_zero]
  ·obtain ⟨k,rfl⟩:∃ j,k=j+1:=⟨k-1,by omega⟩
   have hx:ds[k]?=some ds[k]:=lG (by omega)
   generalize ds[k]=x at hx
   have hx':(ds.take (k+1)++qs)[k]?=some x:=by
    rw [List.getElem?_append_left (by simp;omega),List.getElem?_take_of_lt (by omega)];exact hx
   rw [dT (show (0:Int)≤((k+1:Nat):Int)-1 by omega)]
   refine B1 ?_;refine .skip ?_;refine aw ?_;refine .seq ?_;refine .block ?_;refine .region ?_;refine mvo ?_;refine mvd ?_;refine mvd ?_;refine mvo ?_;refine mvd ?_
   refine ixr k ?_ ?_ ?_ s32 (by decide)
   ·omega
   ·simp [Ab];omega
   refine lde (U x) ?_ ?_ a32
   ·rw [Nat.zero_add];exact Ja hx'
   refine mvd ?_
   refine cl (xs:=[.i .u32 r,.i .u32 x,.i .u32 d]) ?_ (UQ h4 (hok.at hx) hd) Tryz.call187
   refine mvt ?_;refine ex ?_;refine ex ?_
   refine ixr k ?_ ?_ ?_ s32 (by decide)
   ·omega
   ·simp [Ab];omega
   refine ste ?_ ?_ z32
   ·rw [Nat.zero_add];exact HJ hx'
   refine asd ?_;refine .nil ?_;refine aw ?_;refine .region ?_;refine mvd ?_;refine su ((k:Int)-1) ?_ ?_
   ·omega
   refine asd ?_;refine .nil ?_
   have hq:(r * 4294967296+x) / d<4294967296:=by
    rw [Nat.div_lt_iff_lt_mul (by omega)]
    have:r * 4294967296+4294967296≤d * 4294967296:=by rw [← Nat.succ_mul];exact Nat.mul_le_mul_right _ h4
    have:=hok.at hx
    omega
   have e1:(L (ds.take (k+1)++qs)).set (0+k) (U ((r * 4294967296+x) / d))=L (ds.take k++((r * 4294967296+x) / d::qs)):=by
    rw [QV,Nat.zero_add,List.take_add_one,hx]
    congr 1
    rw [List.append_assoc,List.set_append_right _ _ (by simp;omega)]
    simp [Nat.min_eq_left (show k≤ds.length by omega)]
   refine AL.gh (Gh.keep [1,4,6,7] rfl) ?_
   have:=ih (k,(r * 4294967296+x) / d::qs,(r * 4294967296+x) % d) ⟨by omega,.cons hq h2,by simp;omega,Nat.mod_lt _ hd0,Qu hx h5⟩ (by simp)
   dsimp only at this
   rw [← e1] at this
   exact this
 ·rintro _ _ ⟨qs,r,rfl,rfl,h1,h2,h3,h4⟩
  obtain ⟨e1,e2⟩:=TL h4 h3
  rw [e1,e2]
  refine .sr ?_;refine fz (p:=.t 4) ?_;refine mvd ?_
  refine cl (xs:=[.sl (L qs)]) ?_ (F8 h1 (by omega)) Tryz.call143
  refine mvd ?_
  refine cve (r:Int) (Cb (by omega)) ?_ u32 u64
  refine cl ?_ (Xx (n:=r) (by omega)) Tryz.call104
  refine asd ?_;refine asd ?_;refine rn ?_;refine .ret ?_
  exact ⟨by decide,rfl,rfl,rfl⟩
theorem z8 : AN Tryz.prog 5=1:=by kernel_rfl
def Dig (xs:List Nat) : Prop:=∀ x∈xs,48≤x∧x≤57
theorem Dig.snoc {xs:List Nat} {x:Nat} (h:Dig xs) (h1:48≤x) (h2:x≤57) : Dig (xs++[x]):=by
 intro y hy
 rcases List.mem_append.1 hy with hy|hy
 ·exact h y hy
 ·simp at hy;subst hy;exact ⟨h1,h2⟩
theorem S2 {m:Nat} (h:0<m) : 0<(Ao m).length:=by rw [Er (by omega)];simp
def Jx (m n:Nat) : Int:=if m<n then -1 else if m=n then 0 else 1
theorem Pr {m n:Nat} (h:(Ao m).length<(Ao n).length) : m<n:=by
 rcases Nat.lt_or_ge m n with h1|h1
 ·exact h1
 ·have h2:=Es (BI m)
  rw [A8] at h2
  have:=EE (n:=n) (k:=(Ao m).length) (by omega)
  omega
theorem VF {xs ys:List Nat} (hx:Ok xs) (hy:Ok ys) {i:Nat} (h:xs.drop (i+1)=ys.drop (i+1)) {x y:Nat} (h1:xs[i]?=some x) (h2:ys[i]?=some y) (hxy:x<y) : val xs<val ys:=by
 have hxl:i<xs.length:=(lS.1 h1).1
 have hyl:i<ys.length:=(lS.1 h2).1
 have ex:xs=xs.take i++x::xs.drop (i+1):=by
  have:=lS.1 h1
  rw [← this.2,← lC hxl,List.take_append_drop]
 have ey:ys=ys.take i++y::ys.drop (i+1):=by
  have:=lS.1 h2
  rw [← this.2,← lC hyl,List.take_append_drop]
 have lx:(xs.take i).length=i:=by rw [List.length_take];omega
 have ly:(ys.take i).length=i:=by rw [List.length_take];omega
 have vx:=Es (hx.take i)
 rw [ex,ey,Fp,Fp,lx,ly,h]
 rw [lx] at vx
 simp only [val]
 have h3:4294967296 ^ i * (x+4294967296 * val (ys.drop (i+1)))+4294967296 ^ i≤4294967296 ^ i * (y+4294967296 * val (ys.drop (i+1))):=by
  rw [← Nat.mul_succ]
  exact Nat.mul_le_mul_left _ (by omega)
 omega
theorem MM {n:Nat} (h0:0<n) (h:n<4294967296) : Ao n=[n]:=by
 rw [Er (by omega),Nat.mod_eq_of_lt h,Nat.div_eq_of_lt h,AU]
theorem WW : ∀ {xs:List Nat} {i x y:Nat},xs[i]?=some x→val (xs.set i y)+x * 4294967296 ^ i=val xs+y * 4294967296 ^ i:=by
 intro xs
 induction xs with
 | nil=>intro i x y h;simp at h
 | cons z zs ih =>
  intro i x y h
  cases i with
  | zero=>simp at h;subst h;simp only [List.set_cons_zero,val,Nat.pow_zero,Nat.mul_one];omega
  | succ i =>
   have:=ih (y:=y) (by simpa using h)
   simp only [List.set_cons_succ,val,Nat.pow_succ]
   have e1:x * (4294967296 ^ i * 4294967296)=4294967296 * (x * 4294967296 ^ i):=by rw [← Nat.mul_assoc,Nat.mul_comm]
   have e2:y * (4294967296 ^ i * 4294967296)=4294967296 * (y * 4294967296 ^ i):=by rw [← Nat.mul_assoc,Nat.mul_comm]
   rw [e1,e2];omega
abbrev hb (H:Ad) (id off:Nat) (cs:List AV) (xs:List Nat) : Ad:=H.set id (.box (cs.set off (.own 118 (L xs))))
theorem s2 : D9 Tryz.prog 144=some (22,1,24):=by kernel_rfl
theorem l2 : Tryz.prog.underlying 144=some (.slice (Tryz.prog.elem 144)):=by kernel_rfl
theorem a2 : C0 Tryz.prog 22=some false:=by kernel_rfl
def LL (ls:List (List Nat)) : List DV:=ls.map fun a=>.sl (L a)
theorem Jd (ls:List (List Nat)) : (LL ls).length=ls.length:=by simp [LL]
theorem XG (ls:List (List Nat)) : ∃ sz,∀ x∈LL ls,x.cells.length=sz:=⟨1,fun x hx=>by
 simp only [LL,List.mem_map] at hx
 obtain ⟨n,_,rfl⟩:=hx;rfl⟩
theorem XA {ls:List (List Nat)} {i:Nat} {a:List Nat} (h:ls[i]?=some a) : (LL ls)[i]?=some (.sl (L a)):=by simp [LL,h]
theorem e2 : C1 Tryz.prog 144=some (22,1,24,.slice none 0 0):=by kernel_rfl
theorem Rb : ∀ zs : List Int,(∀ z∈zs,(Lit.int .u32 z).wf=true)→∃ a : List Nat,Ok a∧zs.map (DV.i .u32)=L a
 | [],_=>⟨[],.nil,rfl⟩
 | z::zs,h=>by
  obtain ⟨a,h1,h2⟩:=Rb zs fun y hy=>h y (by simp [hy])
  have hz:=h z (by simp)
  have hz2:0≤z∧z≤4294967295:=by simpa [Lit.wf,IntKind.min,IntKind.max,IntKind.signed,IntKind.bits] using hz
  refine ⟨z.toNat::a,h1.cons (by omega),?_⟩
  rw [List.map_cons,h2]
  show _=U z.toNat::L a
  rw [U,Int.toNat_of_nonneg hz2.1]
theorem RQ {b:List Nat} {x:Nat} (h:Ok (b++[x])) : (Ao (val (b++[x]))=b++[x])↔x≠0:=by
 constructor
 ·intro he h0
  subst h0
  rw [← Gg h,Hg] at he
  have hb:Ok b:=fun y hy=>h y (by simp [hy])
  rw [Gg hb] at he
  have h1:=Cv hb
  rw [he] at h1
  simp at h1
  omega
 ·intro h0
  rw [← Gg h,I9 _ h0]
theorem LI {a:List Nat} (h:Ok a) (hl:a.length≤35184372087808) : Fn Tryz.prog 149 [.sl (L a)] (.d (.b (decide (Ao (val a)=a)))):=by
 refine Fn.o1 2 15 Tryz.func149 ?_;refine .sr ?_;refine asd ?_;refine rn ?_;refine .sr ?_;refine mvd ?_
 refine ln ?_ (BP _) l32
 refine bi ?_;refine mvd ?_
 rcases List.eq_nil_or_concat a with rfl|⟨b,x,rfl⟩
 ·refine gf ?_
  refine gf4 ?_;refine gf2 ?_;refine pkd ?_;refine asd ?_;refine rn ?_;refine .ret ?_
  exact ⟨by rw [dT (show Ao (val [])=[] by rw [val,AU])];rfl,rfl⟩
 ·rw [List.concat_eq_append] at *
  have hll:(b++[x]).length=b.length+1:=by simp
  rw [dF (show ¬((L (b++[x])).length:Int)=0 by rw [Ab];omega)]
  refine mvd ?_;refine mvd ?_
  refine ln ?_ (BP _) l32
  refine su (b.length:Int) ?_ ?_
  ·rw [Ab];omega
  refine ix b.length ?_ rfl (EW (xs:=b++[x]) (n:=x) (by simp)) rfl s32
  refine ldp ?_ a32
  refine bi ?_;refine pkd ?_;refine asd ?_;refine rn ?_;refine .ret ?_
  refine ⟨?_,rfl⟩
  show AV.d (.b (!decide ((x:Int)=0)))=_
  congr 2
  rw [decide_eq_decide.2 (RQ h)]
  by_cases h0:x=0
  ·subst h0;rfl
  ·rw [dT h0,dF (by omega)];rfl
theorem Ei {b:List Nat} (k:Nat) : val (b.drop k)=b.getD k 0+4294967296 * val (b.drop (k+1)):=by
 by_cases h:k<b.length
 ·rw [lC h,List.getD_eq_getElem?_getD,lG h];simp only [val,Option.getD_some]
 ·rw [List.drop_eq_nil_of_le (by omega),List.drop_eq_nil_of_le (by omega),List.getD_eq_getElem?_getD,List.getElem?_eq_none (by omega)];simp [val]
theorem De {b:List Nat} (h:Ok b) (k:Nat) : b.getD k 0<4294967296:=by
 rw [lD]
 cases hk:b[k]? with
 | none=>decide
 | some y=>exact h.at hk
theorem KP {xs:List Nat} {j o y:Nat} (h:xs[j]?=some o) : val (xs.set j y)+o * 4294967296 ^ j=val xs+y * 4294967296 ^ j:=WW h
theorem Tl : ∀ n,val (List.replicate n 0)=0
 | 0=>rfl
 | n+1=>by rw [List.replicate_succ,val,Tl n]
theorem YP (n:Nat) : Ok (List.replicate n 0):=fun x hx=>by rw [List.eq_of_mem_replicate hx];decide
theorem Wj {V P x y c A A' B B' s q r:Nat} (hs:s=x+y+c) (hq:s=4294967296 * q+r) (hA:A=x+4294967296 * A') (hB:B=y+4294967296 * B') : (V+P * r)+(A'+B'+q) * (P * 4294967296)=V+(A+B+c) * P:=by
 grind
theorem Kd (xs:List Nat) (y:Nat) : val (xs++[y])=val xs+4294967296 ^ xs.length * y:=by rw [Fp];simp [val]
theorem Ok.snoc {xs:List Nat} {y:Nat} (h:Ok xs) (hy:y<4294967296) : Ok (xs++[y]):=h.append (by intro x hx;simp at hx;subst hx;exact hy)
theorem ND (xs:List Nat) (y:Nat) : (L xs).take (L xs).length++[DV.i .u32 (y:Int)]=L (xs++[y]):=by rw [List.take_length,QL];rfl
theorem XM {a b:List Nat} (ha:Ok a) (hb:Ok b) (hla:a.length≤500000) (hlb:b.length≤500000) : Fn Tryz.prog 176 [.sl (L a),.sl (L b)] (.own 118 (L (Ao (val a+val b)))):=by
 refine Fn.o1 4 43 Tryz.func176 ?_;refine .sr ?_;refine asn ?_;refine rn ?_;refine .sr ?_;refine asn ?_;refine rn ?_;refine .sr ?_;refine asd ?_;refine rn ?_;refine .mid (fun e H'=>∃ out,e=[(5,.own 118 (L out))]∧H'=[]∧Ok out∧out.length≤a.length+b.length+1∧val out=val a+val b) ?_ ?_
 ·refine .sr ?_
  refine asd ?_;refine rn ?_;refine .block ?_;refine .gh (Gh.nlOwn (t:=5) 118 Vu rfl) ?_
  refine .loop (.gh (Gh.keep [0,1,5,6,7] rfl) ?_)
  refine AL.ind (σ:=List Nat×Nat) (m:=fun s=>(a.length+b.length-s.1.length) * 2+s.2) (e:=fun s=>[(0,.d (.sl (L a))),(1,.d (.sl (L b))),(5,.own 118 (L s.1)),(6,.d (.i .u64 (s.2:Int))),(7,.d (.i .i64 (s.1.length:Int)))]) (h:=fun _=>[])
   (I:=fun s=>Ok s.1∧s.2≤1∧s.1.length+s.2≤a.length+b.length+1∧val s.1+(val (a.drop s.1.length)+val (b.drop s.1.length)+s.2) * 4294967296 ^ s.1.length=val a+val b) ?_ ([],0) ⟨.nil,by simp,by simp,by simp [val]⟩
  rintro ⟨out,c⟩ ⟨h1,h2,h3,h4⟩ ih
  dsimp only at h1 h2 h3 h4 ih ⊢
  refine .mid (fun e H'=>H'=[]∧(out.length<a.length∨out.length<b.length∨c=1)∧e=[(0,.d (.sl (L a))),(1,.d (.sl (L b))),(5,.own 118 (L out)),(6,.d (.i .u64 (c:Int))),(7,.d (.i .i64 (out.length:Int)))]) ?_ ?_
  ·refine .sr ?_
   refine mvd ?_;refine mvd ?_
   refine ln ?_ (BP _) l32
   refine bi ?_;refine mvd ?_
   by_cases hA:out.length<a.length
   ·rw [dT (show (out.length:Int)<((L a).length:Nat) by rw [Ab];omega)]
    refine gf4 ?_;refine pkd ?_;refine mvd ?_;refine gf2 ?_;refine pkd ?_;refine rn ?_;refine B1 ?_;refine .gh (Gh.keep [0,1,5,6,7] rfl) ?_;refine .skip ?_
    exact ⟨rfl,.inl hA,rfl⟩
   ·rw [dF (show ¬(out.length:Int)<((L a).length:Nat) by rw [Ab];omega)]
    refine mvd ?_;refine mvd ?_
    refine ln ?_ (BP _) l32
    refine bi ?_;refine pkd ?_;refine mvd ?_
    by_cases hB:out.length<b.length
    ·rw [dT (show (out.length:Int)<((L b).length:Nat) by rw [Ab];omega)]
     refine gf2 ?_;refine pkd ?_;refine rn ?_;refine B1 ?_;refine .gh (Gh.keep [0,1,5,6,7] rfl) ?_;refine .skip ?_
     exact ⟨rfl,.inr (.inl hB),rfl⟩
    ·rw [dF (show ¬(out.length:Int)<((L b).length:Nat) by rw [Ab];omega)]
     refine mvd ?_;refine bi ?_;refine pkd ?_;refine rn ?_
     by_cases hc:c=0
     ·subst hc
      refine BZ ?_;refine .gh (Gh.keep [5] rfl) ?_;refine .exit ?_
      refine ⟨out,rfl,rfl,h1,by omega,?_⟩
      rw [List.drop_eq_nil_of_le (by omega),List.drop_eq_nil_of_le (by omega)] at h4
      simpa [val] using h4
     ·rw [dT (show (0:Int)<(c:Int) by omega)]
      refine B1 ?_;refine .gh (Gh.keep [0,1,5,6,7] rfl) ?_;refine .skip ?_
      exact ⟨rfl,.inr (.inr (by omega)),rfl⟩
  rintro _ _ ⟨rfl,hgo,rfl⟩
  have hxl:=De ha out.length
  have hyl:=De hb out.length
  have hdx:=Ei (b:=a) out.length
  have hdy:=Ei (b:=b) out.length
  have f1:=KG (a:=a) ha (i:=out.length) (by omega)
  have f2:=KG (a:=b) hb (i:=out.length) (by omega)
  have hz:¬out.length<a.length→¬out.length<b.length→a.getD out.length 0=0∧b.getD out.length 0=0:=fun h5 h6=>by
   rw [List.getD_eq_getElem?_getD,List.getD_eq_getElem?_getD,List.getElem?_eq_none (by omega),List.getElem?_eq_none (by omega)];simp
  generalize a.getD out.length 0=x at *
  generalize b.getD out.length 0=y at *
  have hstep:=Wj (V:=val out) (P:=4294967296 ^ out.length) (x:=x) (y:=y) (c:=c) (s:=x+y+c) (q:=(x+y+c) / 4294967296) (r:=(x+y+c) % 4294967296) rfl (Nat.div_add_mod _ _).symm hdx hdy
  refine .seq ?_;refine .block ?_;refine .sr ?_;refine mvd ?_;refine mvd ?_
  refine cl (xs:=[.sl (L a),.i .i64 (out.length:Int)]) ?_ f1 Tryz.call186
  refine mvd ?_;refine mvd ?_
  refine cl (xs:=[.sl (L b),.i .i64 (out.length:Int)]) ?_ f2 Tryz.call186
  refine bie (.i .u64 ((x+y:Nat):Int)) ?_ ?_
  ·exact ⟨trivial,by rw [← Int.natCast_add,Cb (by omega)]⟩
  refine mvd ?_;refine bie (.i .u64 ((x+y+c:Nat):Int)) ?_ ?_
  ·exact ⟨trivial,by rw [← Int.natCast_add,Cb (by omega)]⟩
  refine asd ?_;refine rn ?_
  have hs2:x+y+c<8589934592:=by omega
  have hcz:¬out.length<a.length→¬out.length<b.length→(x+y+c) / 4294967296=0:=fun h5 h6=>by
   obtain ⟨e1,e2⟩:=hz h5 h6
   omega
  generalize x+y+c=s at *
  refine .sr ?_;refine mvo ?_;refine mvd ?_
  refine cve ((s % 4294967296:Nat):Int) (EF _) ?_ u64 u32
  refine bsl ?_ ?_ e32
  ·simp [DV.flat,DV.cells,DV.leaf]
  refine apr ?_ ?_ (Gs [s % 4294967296]) e32
  ·simp [Ab];omega
  refine aso ?_;refine rn ?_;refine .region ?_;refine mvd ?_;refine bie (.i .u64 ((s / 4294967296:Nat):Int)) ?_ ?_
  ·simp [IntKind.bits]
  refine asd ?_;refine .nil ?_;refine aw ?_;refine .region ?_;refine mvd ?_;refine ad ((out.length+1:Nat):Int) ?_ ?_
  ·omega
  refine asd ?_;refine rn ?_;refine .gh (Gh.keep [0,1,5,6,7] rfl) ?_
  have:=ih (out++[s % 4294967296],s / 4294967296) ⟨h1.snoc (Nat.mod_lt _ (by decide)),by dsimp only;omega,?_,?_⟩ ?_
  ·rw [← ND] at this
   dsimp only at this
   rw [List.length_append] at this
   exact this
  ·dsimp only
   rw [List.length_append,List.length_singleton]
   by_cases h5:out.length<a.length∨out.length<b.length
   ·omega
   ·have:=hcz (fun h=>h5 (.inl h)) (fun h=>h5 (.inr h));omega
  ·dsimp only
   rw [Kd,List.length_append,List.length_singleton,Nat.pow_succ,hstep,h4]
  ·dsimp only
   rw [List.length_append,List.length_singleton]
   by_cases h5:out.length<a.length∨out.length<b.length
   ·omega
   ·have:=hcz (fun h=>h5 (.inl h)) (fun h=>h5 (.inr h));omega
 rintro _ _ ⟨out,rfl,rfl,h1,h2,h3⟩
 refine .sr ?_;refine fz (p:=.t 5) ?_;refine mvd ?_
 refine cl (xs:=[.sl (L out)]) ?_ (DW h1 (by omega)) Tryz.call152
 rw [h3]
 refine aso ?_;refine rn ?_;refine .ret ?_
 exact ⟨rfl,rfl⟩
theorem G5 {a b:List Nat} (ha:Ok a) (hb:Ok b) (hla:a.length≤35184372087808) (hlb:b.length≤35184372087808) : Fn Tryz.prog 150 [.sl (L a),.sl (L b)] (.d (.i .i64 (Jx (val a) (val b)))):=by
 have dla:=nT (Cv ha) hla
 have dlb:=nT (Cv hb) hlb
 have va:=A8 (val a)
 have vb:=A8 (val b)
 have oa:=BI (val a)
 have ob:=BI (val b)
 have lt1:=@Pr (val a) (val b)
 have lt2:=@Pr (val b) (val a)
 refine Fn.o1 4 47 Tryz.func150 ?_;refine .sr ?_;refine asd ?_;refine rn ?_;refine .sr ?_;refine mvd ?_
 refine cl (xs:=[.sl (L a)]) ?_ (DW ha (by omega)) Tryz.call152
 refine mvd ?_
 refine cl (xs:=[.sl (L b)]) ?_ (DW hb (by omega)) Tryz.call152
 refine aso ?_;refine aso ?_;refine rn ?_;refine .gh (Gh.frz (p:=.t 5) rfl (fun _ _ h=>by cases h)) ?_;refine .gh (Gh.frz (p:=.t 6) rfl (fun _ _ h=>by cases h)) ?_;refine .gh (Gh.keep [5,6] rfl) ?_
 generalize Ao (val a)=xs at *
 generalize Ao (val b)=ys at *
 refine .seq ?_;refine .sr ?_;refine mvd ?_
 refine ln ?_ (BP _) l32
 refine mvd ?_
 refine ln ?_ (BP _) l32
 refine bi ?_;refine rn ?_
 by_cases hlen:xs.length=ys.length
 ·have e1:(!decide (((L xs).length:Int)=((L ys).length:Int)))=false:=by simp [Ab];omega
  rw [e1]
  refine BZ ?_;refine .skip ?_;refine aw ?_;refine .seq ?_;refine .sr ?_;refine mvd ?_
  refine ln ?_ (BP _) l32
  refine su ((xs.length:Int)-1) ?_ ?_
  ·rw [Ab];omega
  refine asd ?_;refine rn ?_;refine .block ?_
  refine .loop (.gh (Gh.keep [5,6,7] rfl) ?_)
  refine AL.ind (σ:=Nat) (m:=fun i=>i) (e:=fun i=>[(5,.d (.sl (L xs))),(6,.d (.sl (L ys))),(7,.d (.i .i64 ((i:Int)-1)))]) (h:=fun _=>[])
   (I:=fun i=>i≤xs.length∧xs.drop i=ys.drop i) ?_ xs.length ⟨Nat.le_refl _,by rw [List.drop_of_length_le (Nat.le_refl _),List.drop_of_length_le (by omega)]⟩
  rintro i ⟨h1,h2⟩ ih
  refine .seq ?_;refine .sr ?_;refine mvd ?_;refine bi ?_;refine rn ?_
  cases i with
  | zero =>
   rw [dF (show ¬(0:Int)≤((0:Nat):Int)-1 by omega)]
   refine BZ ?_;refine .exit ?_;refine aw ?_;refine .sr ?_;refine asd ?_;refine rn ?_;refine .ret ?_
   simp only [List.drop_zero] at h2
   subst h2
   exact ⟨by rw [← va,← vb];unfold Jx;rw [if_neg (by omega),if_pos rfl];rfl,rfl⟩
  | succ i =>
   have hx:xs[i]?=some xs[i]:=lG (by omega)
   have hy:ys[i]?=some ys[i]:=lG (by omega)
   have hdx:xs.drop i=xs[i]::xs.drop (i+1):=lC (by omega)
   have hdy:ys.drop i=ys[i]::ys.drop (i+1):=lC (by omega)
   generalize xs[i]=x at hx hdx
   generalize ys[i]=y at hy hdy
   rw [dT (show (0:Int)≤((i+1:Nat):Int)-1 by omega)]
   refine B1 ?_;refine .skip ?_;refine aw ?_;refine .gh (Gh.keep [5,6,7] rfl) ?_;refine .seq ?_;refine .block ?_;refine .seq ?_;refine .seq ?_;refine .drawn 9 Bw (by kernel_rfl) ?_;refine dv Ah ?_;refine dv Ah ?_;refine dv (vix (z:=((i+1:Nat):Int)-1) i (by omega) (EW hx) rfl s32) ?_;refine dv (Ai a32) ?_;refine dv Ah ?_;refine dv Ah ?_;refine dv (vix (z:=((i+1:Nat):Int)-1) i (by omega) (EW hy) rfl s32) ?_;refine dv (Ai a32) ?_;refine dv vbi ?_;refine dz ?_;refine rn ?_
   by_cases hlt:x<y
   ·rw [dT (show (x:Int)<(y:Int) by omega)]
    refine B1 ?_;refine .sr ?_;refine asd ?_;refine rn ?_;refine .ret ?_
    have:=VF oa ob h2 hx hy hlt
    exact ⟨by unfold Jx;rw [if_pos (by omega)];rfl,rfl⟩
   ·rw [dF (show ¬(x:Int)<(y:Int) by omega)]
    refine BZ ?_;refine .skip ?_;refine aw ?_;refine .gh (Gh.keep [5,6,7] rfl) ?_;refine .seq ?_;refine .drawn 9 Bw (by kernel_rfl) ?_;refine dv Ah ?_;refine dv Ah ?_;refine dv (vix (z:=((i+1:Nat):Int)-1) i (by omega) (EW hx) rfl s32) ?_;refine dv (Ai a32) ?_;refine dv Ah ?_;refine dv Ah ?_;refine dv (vix (z:=((i+1:Nat):Int)-1) i (by omega) (EW hy) rfl s32) ?_;refine dv (Ai a32) ?_;refine dv vbi ?_;refine dz ?_;refine rn ?_
    by_cases hgt:y<x
    ·rw [dT (show (y:Int)<(x:Int) by omega)]
     refine B1 ?_;refine .sr ?_;refine asd ?_;refine rn ?_;refine .ret ?_
     have:=VF ob oa h2.symm hy hx hgt
     exact ⟨by unfold Jx;rw [if_neg (by omega),if_neg (by omega)];rfl,rfl⟩
    ·have hxy:x=y:=by omega
     subst hxy
     rw [dF (show ¬(x:Int)<(x:Int) by omega)]
     refine BZ ?_;refine .skip ?_;refine aw ?_;refine .gh (Gh.keep [5,6,7] rfl) ?_;refine .region ?_;refine mvd ?_;refine su ((i:Int)-1) ?_ ?_
     ·omega
     refine asd ?_;refine rn ?_;refine .gh (Gh.keep [5,6,7] rfl) ?_
     exact ih i ⟨by omega,by rw [hdx,hdy,h2]⟩ (by omega)
 ·have e1:(!decide (((L xs).length:Int)=((L ys).length:Int)))=true:=by simp [Ab];omega
  rw [e1]
  refine B1 ?_;refine .seq ?_;refine .sr ?_;refine mvd ?_
  refine ln ?_ (BP _) l32
  refine mvd ?_
  refine ln ?_ (BP _) l32
  refine bi ?_;refine rn ?_
  by_cases hl:xs.length<ys.length
  ·have h1:=lt1 hl
   rw [dT (show (((L xs).length:Nat):Int)<((L ys).length:Nat) by rw [Ab,Ab];omega)]
   refine B1 ?_;refine .sr ?_;refine asd ?_;refine rn ?_;refine .ret ?_
   exact ⟨by unfold Jx;rw [if_pos (by omega)];rfl,rfl⟩
  ·have h1:=lt2 (by omega)
   rw [dF (show ¬(((L xs).length:Nat):Int)<((L ys).length:Nat) by rw [Ab,Ab];omega)]
   refine BZ ?_;refine .skip ?_;refine aw ?_;refine .sr ?_;refine asd ?_;refine rn ?_;refine .ret ?_
   exact ⟨by unfold Jx;rw [if_neg (by omega),if_neg (by omega)];rfl,rfl⟩
theorem U5 {O P x y c A A' B B' q r:Nat} (hq:x+4294967296 * q=y+c+r) (hA:A=x+4294967296 * A') (hB:B=y+4294967296 * B') {T U:Nat} (h:T+(B+c) * P=U+O+A * P) : T+(B'+q) * (P * 4294967296)=U+(O+P * r)+A' * (P * 4294967296):=by
 grind
def UM (m n:Nat) : Nat:=if n≤m then m-n else 0
theorem LX {a b:List Nat} (ha:Ok a) (hb:Ok b) (hla:a.length≤500000) (hlb:b.length≤500000) : Fn Tryz.prog 175 [.sl (L a),.sl (L b)] (.tup [.d (.sl (L (Ao (UM (val a) (val b))))),.d (.b (decide (val b≤val a)))]):=by
 refine Fn.of (rs:=[.tmp 4,.tmp 5]) (nt:=43) Tryz.func175 rfl rfl rfl (by simp) rfl ?_;refine .sr ?_;refine asn ?_;refine asd ?_;refine rn ?_;refine .seq ?_;refine .sr ?_;refine mvd ?_;refine mvd ?_
 refine cl (xs:=[.sl (L a),.sl (L b)]) ?_ (G5 ha hb (by omega) (by omega)) Tryz.call150
 refine bi ?_;refine rn ?_
 by_cases hlt:val a<val b
 ·rw [dT (show Jx (val a) (val b)<0 by unfold Jx;rw [if_pos hlt];decide)]
  refine B1 ?_;refine .sr ?_;refine asn ?_;refine asd ?_;refine rn ?_;refine .gh (Gh.nlD (t:=4) rfl) ?_;refine .ret ?_
  exact ⟨by decide,by rw [dF (show ¬val b≤val a by omega),UM,if_neg (by omega),AU];rfl,rfl,rfl⟩
 ·have hle:val b≤val a:=by omega
  rw [dF (show ¬Jx (val a) (val b)<0 by unfold Jx;rw [if_neg hlt];split<;>decide)]
  refine BZ ?_;refine .skip ?_;refine aw ?_;refine .sr ?_;refine asn ?_;refine rn ?_;refine .sr ?_;refine asd ?_;refine rn ?_;refine .mid (fun e H'=>∃ out,e=[(6,.own 118 (L out))]∧H'=[]∧Ok out∧out.length=a.length∧val out=val a-val b) ?_ ?_
  ·refine .sr ?_
   refine asd ?_;refine rn ?_;refine .block ?_;refine .gh (Gh.nlOwn (t:=6) 118 Vu rfl) ?_
   refine .loop (.gh (Gh.keep [0,1,6,7,8] rfl) ?_)
   refine AL.ind (σ:=List Nat×Nat) (m:=fun s=>a.length-s.1.length) (e:=fun s=>[(0,.d (.sl (L a))),(1,.d (.sl (L b))),(6,.own 118 (L s.1)),(7,.d (.i .u64 (s.2:Int))),(8,.d (.i .i64 (s.1.length:Int)))]) (h:=fun _=>[])
    (I:=fun s=>Ok s.1∧s.2≤1∧s.1.length≤a.length∧val a+(val (b.drop s.1.length)+s.2) * 4294967296 ^ s.1.length=val b+val s.1+val (a.drop s.1.length) * 4294967296 ^ s.1.length) ?_ ([],0) ⟨.nil,by simp,by simp,by simp [val];omega⟩
   rintro ⟨out,c⟩ ⟨h1,h2,h3,h4⟩ ih
   dsimp only at h1 h2 h3 h4 ih ⊢
   refine .seq ?_;refine .sr ?_;refine mvd ?_;refine mvd ?_
   refine ln ?_ (BP _) l32
   refine bi ?_;refine rn ?_
   by_cases hA:out.length<a.length
   ·rw [dT (show (out.length:Int)<((L a).length:Nat) by rw [Ab];omega)]
    refine B1 ?_;refine .skip ?_;refine aw ?_
    have hxl:=De ha out.length
    have hyl:=De hb out.length
    have hdx:=Ei (b:=a) out.length
    have hdy:=Ei (b:=b) out.length
    have f1:=KG (a:=a) ha (i:=out.length) (by omega)
    have f2:=KG (a:=b) hb (i:=out.length) (by omega)
    generalize a.getD out.length 0=x at *
    generalize b.getD out.length 0=y at *
    refine .seq ?_;refine .block ?_;refine .sr ?_;refine mvd ?_;refine mvd ?_
    refine cl (xs:=[.sl (L a),.i .i64 (out.length:Int)]) ?_ f1 Tryz.call186
    refine mvd ?_;refine mvd ?_
    refine cl (xs:=[.sl (L b),.i .i64 (out.length:Int)]) ?_ f2 Tryz.call186
    refine mvd ?_;refine bie (.i .u64 ((y+c:Nat):Int)) ?_ ?_
    ·exact ⟨trivial,by rw [← Int.natCast_add,Cb (by omega)]⟩
    refine asd ?_;refine asd ?_;refine rn ?_;refine .sr ?_;refine asd ?_;refine rn ?_;refine .mid (fun e H'=>H'=[]∧∃ q r,x+4294967296 * q=y+c+r∧r<4294967296∧q≤1∧e=[(0,.d (.sl (L a))),(1,.d (.sl (L b))),(6,.own 118 (L out)),(7,.d (.i .u64 (q:Int))),(8,.d (.i .i64 (out.length:Int))),(9,.d (.i .u64 ((x+4294967296 * q:Nat):Int))),(10,.d (.i .u64 ((y+c:Nat):Int)))]) ?_ ?_
    ·refine .sr ?_
     refine mvd ?_;refine mvd ?_;refine bi ?_;refine rn ?_
     by_cases hxy:x<y+c
     ·rw [dT (show (x:Int)<((y+c:Nat):Int) by omega)]
      refine B1 ?_;refine .sr ?_;refine mvd ?_;refine bie (.i .u64 ((x+4294967296:Nat):Int)) ?_ ?_
      ·refine ⟨trivial,?_⟩
       rw [← Cb (show x+4294967296<18446744073709551616 by omega)];rfl
      refine asd ?_;refine rn ?_;refine .region ?_;refine asd ?_;refine RL.gh (Gh.keep [0,1,6,7,8,9,10] rfl) ?_;refine .nil ?_
      exact ⟨rfl,1,x+4294967296-(y+c),by omega,by omega,by omega,rfl⟩
     ·rw [dF (show ¬(x:Int)<((y+c:Nat):Int) by omega)]
      refine BZ ?_;refine .gh (Gh.keep [0,1,6,7,8,9,10] rfl) ?_;refine .skip ?_
      exact ⟨rfl,0,x-(y+c),by omega,by omega,by omega,rfl⟩
    rintro _ _ ⟨rfl,q,r,w1,w2,w3,rfl⟩
    have hstep:=U5 w1 hdx hdy h4
    refine .region ?_;refine mvo ?_;refine mvd ?_;refine mvd ?_;refine bie (.i .u64 (r:Int)) ?_ ?_
    ·refine ⟨trivial,?_⟩
     rw [show ((x+4294967296 * q:Nat):Int)-((y+c:Nat):Int)=(r:Int) by omega,Cb (by omega)]
    refine cve (r:Int) (Ka w2) ?_ u64 u32
    refine bsl ?_ ?_ e32
    ·simp [DV.flat,DV.cells,DV.leaf]
    refine apr ?_ ?_ (Gs [r]) e32
    ·simp [Ab];omega
    refine aso ?_;refine .nil ?_;refine aw ?_;refine .region ?_;refine mvd ?_;refine ad ((out.length+1:Nat):Int) ?_ ?_
    ·omega
    refine asd ?_;refine rn ?_;refine .gh (Gh.keep [0,1,6,7,8] rfl) ?_
    have:=ih (out++[r],q) ⟨h1.snoc w2,w3,by simp;omega,?_⟩ (by simp;omega)
    ·rw [← ND] at this
     dsimp only at this
     rw [List.length_append] at this
     exact this
    ·dsimp only
     rw [Kd,List.length_append,List.length_singleton,Nat.pow_succ]
     exact hstep
   ·rw [dF (show ¬(out.length:Int)<((L a).length:Nat) by rw [Ab];omega)]
    refine BZ ?_;refine .gh (Gh.keep [6] rfl) ?_;refine .exit ?_
    have hlen:out.length=a.length:=by omega
    refine ⟨out,rfl,rfl,h1,hlen,?_⟩
    rw [List.drop_eq_nil_of_le (show a.length≤out.length by omega),hlen] at h4
    simp only [val,Nat.zero_mul,Nat.add_zero] at h4
    have hvo:=Es h1
    rw [hlen] at hvo
    have hz:val (b.drop a.length)+c=0:=by
     apply Classical.byContradiction
     intro hne
     have:1 * 4294967296 ^ a.length≤(val (b.drop a.length)+c) * 4294967296 ^ a.length:=Nat.mul_le_mul_right _ (by omega)
     omega
    rw [hz] at h4
    omega
  rintro _ _ ⟨out,rfl,rfl,h1,h2,h3⟩
  refine .sr ?_;refine fz (p:=.t 6) ?_;refine mvd ?_
  refine cl (xs:=[.sl (L out)]) ?_ (DW h1 (by omega)) Tryz.call152
  rw [h3]
  refine aso ?_;refine asd ?_;refine rn ?_;refine .gh (Gh.frz (p:=.t 4) rfl (fun _ _ h=>by cases h)) ?_;refine .ret ?_
  exact ⟨by decide,by rw [dT hle,UM,if_pos hle];rfl,rfl,rfl⟩
theorem w32 (X:BitVec 32) : IntKind.u32.wrap (X.toNat:Int)=X.toNat:=HH _ (by omega) (by have:=X.isLt;omega)
theorem o32 (X:BitVec 32) : BitVec.ofInt IntKind.u32.bits (X.toNat:Int)=X:=by
 show BitVec.ofInt 32 (X.toNat:Int)=X
 rw [BitVec.ofInt_natCast,BitVec.ofNat_toNat];simp
theorem SX (X Y:BitVec 32) : bits .and .u32 (X.toNat:Int) (Y.toNat:Int)=((X &&& Y).toNat : Int):=by
 unfold bits;simp only [o32];exact w32 _
theorem Yf (X Y:BitVec 32) : bits .or .u32 (X.toNat:Int) (Y.toNat:Int)=((X ||| Y).toNat : Int):=by
 unfold bits;simp only [o32];exact w32 _
theorem S9 (X Y:BitVec 32) : bits .xor .u32 (X.toNat:Int) (Y.toNat:Int)=((X ^^^ Y).toNat : Int):=by
 unfold bits;simp only [o32];exact w32 _
theorem S6 (X:BitVec 32) : bits .xor .u32 (if IntKind.u32.signed then -1 else IntKind.u32.max) (X.toNat:Int)=((~~~X).toNat : Int):=by
 have:=S9 (BitVec.allOnes 32) X
 rw [BitVec.allOnes_xor] at this
 exact this
theorem Sx (X Y:BitVec 32) : IntKind.u32.wrap ((X.toNat:Int)-(Y.toNat:Int))=((X-Y).toNat : Int):=by
 simp only [IntKind.wrap,IntKind.bits,IntKind.signed,BitVec.toNat_sub];simp
 have:=X.isLt;have:=Y.isLt;omega
theorem Wu (X:BitVec 32) : (X.toNat:Int) / 2 ^ 31=if X.msb then 1 else 0:=by
 rw [BitVec.msb_eq_decide]
 have:=X.isLt
 by_cases h:2 ^ (32-1)≤X.toNat
 ·simp [h];omega
 ·simp [h];omega
theorem WO (X Y B:BitVec 32) (hB:B.toNat≤1) : ((~~~X &&& Y) ||| (~~~(X ^^^ Y) &&& (X-Y-B))).msb=decide (X.toNat<Y.toNat+B.toNat):=by
 have hx:=X.isLt;have hy:=Y.isLt
 simp only [BitVec.msb_or,BitVec.msb_and,BitVec.msb_not,BitVec.msb_xor]
 rw [BitVec.msb_eq_decide X,BitVec.msb_eq_decide Y,BitVec.msb_eq_decide (X-Y-B)]
 simp only [BitVec.toNat_sub]
 by_cases h1:2 ^ (32-1)≤X.toNat<;>by_cases h2:2 ^ (32-1)≤Y.toNat<;>simp [h1,h2]<;>omega
theorem TX (X Y B:BitVec 32) (hB:B.toNat≤1) : Fn Tryz.prog 188 [.i .u32 X.toNat,.i .u32 Y.toNat,.i .u32 B.toNat]
  (.tup [.d (.i .u32 (X-Y-B).toNat),.d (.i .u32 (if decide (X.toNat<Y.toNat+B.toNat)=true then 1 else 0))]):=by
 refine Fn.of (rs:=[.tmp 6,.tmp 7]) (nt:=25) Tryz.func188 rfl rfl rfl (by simp) rfl ?_;refine .sr ?_;refine asd ?_;refine asd ?_;refine rn ?_;refine .sr ?_;refine mvd ?_;refine mvd ?_;refine bi ?_
 rw [Sx]
 refine mvd ?_;refine bi ?_
 rw [Sx]
 refine asd ?_;refine rn ?_;refine .sr ?_;refine mvd ?_;refine xr ?_
 rw [S6]
 refine mvd ?_;refine bi ?_
 rw [SX]
 refine mvd ?_;refine mvd ?_;refine bi ?_
 rw [S9]
 refine xr ?_
 rw [S6]
 refine mvd ?_;refine bi ?_
 rw [SX]
 refine bi ?_
 rw [Yf]
 refine bic ?_ ?_
 ·decide
 refine asd ?_;refine rn ?_;refine .ret ?_
 rw [← WO X Y B hB,← Wu]
 exact ⟨by decide,rfl,rfl,rfl⟩
theorem Qb {x y b:Nat} (hx:x<4294967296) (hy:y<4294967296) (hb:b≤1) : Fn Tryz.prog 188 [U x,U y,U b]
  (.tup [.d (U ((x+8589934592-y-b) % 4294967296)),.d (U (if x<y+b then 1 else 0))]):=by
 have:=TX (BitVec.ofNat 32 x) (BitVec.ofNat 32 y) (BitVec.ofNat 32 b) (by simp only [BitVec.toNat_ofNat];omega)
 have e1:x % 2 ^ 32=x:=Nat.mod_eq_of_lt hx
 have e2:y % 2 ^ 32=y:=Nat.mod_eq_of_lt hy
 have e3:b % 2 ^ 32=b:=Nat.mod_eq_of_lt (by omega)
 simp only [BitVec.toNat_ofNat,BitVec.toNat_sub,e1,e2,e3] at this
 rw [show (2 ^ 32-b+(2 ^ 32-y+x) % 2 ^ 32) % 2 ^ 32=(x+8589934592-y-b) % 4294967296 by omega] at this
 by_cases h:x<y+b
 ·simp only [h,decide_true,if_true] at this ⊢;exact this
 ·simp only [h,decide_false,if_false,Bool.false_eq_true] at this ⊢;exact this
theorem VB {x y b:Nat} (hx:x<4294967296) (hy:y<4294967296) (hb:b<4294967296) : Fn Tryz.prog 184 [U x,U y,U b]
  (.tup [.d (U ((x+y+b) % 4294967296)),.d (U ((x+y+b) / 4294967296))]):=by
 refine Fn.of (rs:=[.tmp 6,.tmp 7]) (nt:=22) Tryz.func184 rfl rfl rfl (by simp) rfl ?_;refine .sr ?_;refine asd ?_;refine asd ?_;refine rn ?_;refine .sr ?_;refine mvd ?_
 refine cve (x:Int) (Cb (by omega)) ?_ u32 u64
 refine mvd ?_
 refine cve (y:Int) (Cb (by omega)) ?_ u32 u64
 refine bie (.i .u64 ((x+y:Nat):Int)) ?_ ?_
 ·exact ⟨trivial,by rw [← Int.natCast_add,Cb (by omega)]⟩
 refine mvd ?_
 refine cve (b:Int) (Cb (by omega)) ?_ u32 u64
 refine bie (.i .u64 ((x+y+b:Nat):Int)) ?_ ?_
 ·exact ⟨trivial,by rw [← Int.natCast_add,Cb (by omega)]⟩
 refine asd ?_;refine rn ?_;refine .sr ?_;refine mvd ?_
 refine cve (((x+y+b) % 4294967296:Nat):Int) (EF _) ?_ u64 u32
 refine asd ?_;refine rn ?_;refine .sr ?_;refine mvd ?_;refine bie (.i .u64 (((x+y+b) / 4294967296:Nat):Int)) ?_ ?_
 ·simp [IntKind.bits]
 refine cve (((x+y+b) / 4294967296:Nat):Int) (Ka (by omega)) ?_ u64 u32
 refine asd ?_;refine rn ?_;refine .ret ?_
 exact ⟨by decide,rfl,rfl,rfl⟩
theorem Qn {x y c:Nat} (hx:x<4294967296) (hy:y<4294967296) (hc:c≤1) : x+4294967296 * (if x<y+c then 1 else 0)=y+c+(x+8589934592-y-c) % 4294967296:=by
 split<;>omega
theorem Uu {V' V P x r b b' c c' lo q y R:Nat} (hs:V'+x * P=V+r * P) (hl:x+4294967296 * b'=lo+b+r) (hc:c+q * y=4294967296 * c'+lo) {F Z:Nat} (ih:F+(q * R+c'+b') * (P * 4294967296)=V'+Z) : F+(q * (y+4294967296 * R)+c+b) * P=V+Z:=by
 grind
theorem TW {V' V P x r b b' c:Nat} (hs:V'+x * P=V+r * P) (hl:x+4294967296 * b'=c+b+r) : V'+(0+c+b) * P=V+b' * (P * 4294967296):=by
 grind
def BY (q:Nat) : List Nat→List Nat→Nat→Nat→Nat→List Nat×Nat
 | [],u,c,b,j=>(u.set j ((u.getD j 0+8589934592-c % 4294967296-b) % 4294967296),if u.getD j 0<c % 4294967296+b then 1 else 0)
 | y::r,u,c,b,j=>BY q r (u.set j ((u.getD j 0+8589934592-(c+q * y) % 4294967296-b) % 4294967296)) ((c+q * y) / 4294967296) (if u.getD j 0<(c+q * y) % 4294967296+b then 1 else 0) (j+1)
theorem CV {u:List Nat} {j:Nat} (h:j<u.length) : u[j]?=some (u.getD j 0):=by
 rw [lD,lG h];rfl
theorem XE {q y c:Nat} (hq:q<4294967296) (hy:y<4294967296) (hc:c<4294967296) : c+q * y<18446744073709551616:=by
 have:q * y≤4294967295 * 4294967295:=Nat.mul_le_mul (by omega) (by omega)
 omega
theorem Xw {s:Nat} (h:s<18446744073709551616) : s / 4294967296<4294967296:=by omega
theorem MZ {q:Nat} (hq:q<4294967296) : ∀ (v u:List Nat) (c b j:Nat),Ok v→Ok u→c<4294967296→b≤1→j+v.length<u.length →
  val (BY q v u c b j).1+(q * val v+c+b) * 4294967296 ^ j=val u+(BY q v u c b j).2 * 4294967296 ^ (j+v.length+1)∧Ok (BY q v u c b j).1∧(BY q v u c b j).2≤1 ∧
  (BY q v u c b j).1.length=u.length∧(BY q v u c b j).1.take j=u.take j∧(BY q v u c b j).1.drop (j+v.length+1)=u.drop (j+v.length+1)
 | [],u,c,b,j,hv,hu,hc,hb,hj=>by
  simp only [BY]
  have hx:=CV (u:=u) (j:=j) (by simpa using hj)
  have hxl:=De hu j
  rw [Nat.mod_eq_of_lt hc]
  have hl:=Qn hxl hc hb
  have hset:=KP hx (y:=(u.getD j 0+8589934592-c-b) % 4294967296)
  have h1:=TW hset hl
  refine ⟨?_,hu.set _ (Nat.mod_lt _ (by decide)),by split<;>omega,by simp,?_,?_⟩
  ·simp only [val,Nat.mul_zero,List.length_nil,Nat.add_zero]
   rw [h1,Nat.pow_succ]
  ·rw [List.take_set_of_le (Nat.le_refl _)]
  ·rw [List.drop_set_of_lt (by simp)]
 | y::r,u,c,b,j,hv,hu,hc,hb,hj=>by
  simp only [BY]
  have hj':j+r.length+1<u.length:=by simpa [Nat.add_assoc] using hj
  have hx:=CV (u:=u) (j:=j) (by omega)
  have hxl:=De hu j
  have hlo:(c+q * y) % 4294967296<4294967296:=Nat.mod_lt _ (by decide)
  have hl:=Qn hxl hlo hb
  have hq1:(if u.getD j 0<(c+q * y) % 4294967296+b then 1 else 0)≤1:=by split<;>omega
  have hset:=KP hx (y:=(u.getD j 0+8589934592-(c+q * y) % 4294967296-b) % 4294967296)
  have hcy:c+q * y=4294967296 * ((c+q * y) / 4294967296)+(c+q * y) % 4294967296:=(Nat.div_add_mod _ _).symm
  have hok:=hu.set j (x:=(u.getD j 0+8589934592-(c+q * y) % 4294967296-b) % 4294967296) (Nat.mod_lt _ (by decide))
  have hc':=Xw (XE hq hv.head hc)
  generalize (u.getD j 0+8589934592-(c+q * y) % 4294967296-b) % 4294967296=rr at *
  generalize (if u.getD j 0<(c+q * y) % 4294967296+b then 1 else 0)=b' at *
  generalize u.getD j 0=x at *
  obtain ⟨i1,i2,i3,i4,i5,i6⟩:=MZ hq r (u.set j rr) ((c+q * y) / 4294967296) b' (j+1) hv.tail hok hc' hq1 (by rw [List.length_set];omega)
  generalize BY q r (u.set j rr) ((c+q * y) / 4294967296) b' (j+1)=res at *
  rw [Nat.pow_succ] at i1
  refine ⟨?_,i2,i3,by rw [i4,List.length_set],?_,?_⟩
  ·rw [val,show j+(y::r).length+1=j+1+r.length+1 by simp;omega]
   exact Uu hset hl hcy i1
  ·have:=congrArg (List.take j) i5
   rw [List.take_take,List.take_take,Nat.min_eq_left (by omega),List.take_set_of_le (Nat.le_refl _)] at this
   exact this
  ·rw [show j+(y::r).length+1=j+1+r.length+1 by simp;omega,i6,List.drop_set_of_lt (by omega)]
theorem St (q:Nat) (u:List Nat) (c b j:Nat) : BY q [] u c b j=(u.set j ((u.getD j 0+8589934592-c % 4294967296-b) % 4294967296),if u.getD j 0<c % 4294967296+b then 1 else 0):=rfl
theorem Rg (q y:Nat) (r u:List Nat) (c b j:Nat) : BY q (y::r) u c b j=BY q r (u.set j ((u.getD j 0+8589934592-(c+q * y) % 4294967296-b) % 4294967296)) ((c+q * y) / 4294967296) (if u.getD j 0<(c+q * y) % 4294967296+b then 1 else 0) (j+1):=rfl
theorem MT (xs:List Nat) (j x:Nat) : (L xs).set (0+j) (U x)=L (xs.set j x):=by rw [Nat.zero_add,QV]
theorem W8 {H:Ad} {u0 v:List Nat} {q at0:Nat} (hu:Ok u0) (hv:Ok v) (hq:q<4294967296) (hj:at0+v.length<u0.length) (hl:u0.length≤1048576) :
  FnG Tryz.prog 183 [.own 118 (L u0),.d (.sl (L v)),.d (.i .u64 (q:Int)),.d (.i .i64 (at0:Int))] H (.d (U (BY q v u0 0 0 at0).2)) [.own 118 (L (BY q v u0 0 0 at0).1)] H:=by
 refine FnG.of (rs:=[.tmp 8]) 1 68 Tryz.func183 rfl rfl rfl (by simp) (by simp) (by simp) ?_;refine .sr ?_;refine asd ?_;refine rn ?_;refine .sr ?_;refine asd ?_;refine asd ?_;refine rn ?_;refine .mid (fun e H'=>H'=H∧∃ u c b,Ok u∧u.length=u0.length∧c<4294967296∧b≤1∧BY q v u0 0 0 at0=BY q [] u c b (at0+v.length)∧e=[(0,.own 118 (L u)),(1,.d (.sl (L v))),(3,.d (.i .i64 (at0:Int))),(9,.d (.i .u64 (c:Int))),(10,.d (.i .u32 (b:Int)))]) ?_ ?_
 ·refine .sr ?_
  refine mvd ?_
  refine ln ?_ (BP _) l32
  refine mvd ?_;refine rn ?_;refine .block ?_
  refine .loop (.gh (Gh.keep [0,1,2,3,9,10,13,14,15] rfl) ?_)
  refine AL.ind (σ:=Nat×List Nat×Nat×Nat) (m:=fun s=>v.length-s.1) (e:=fun s=>[(0,.own 118 (L s.2.1)),(1,.d (.sl (L v))),(2,.d (.i .u64 (q:Int))),(3,.d (.i .i64 (at0:Int))),(9,.d (.i .u64 (s.2.2.1:Int))),(10,.d (.i .u32 (s.2.2.2:Int))),(13,.d (.sl (L v))),(14,.d (.i .i64 ((L v).length:Nat))),(15,.d (.i .i64 (s.1:Int)))]) (h:=fun _=>H)
   (I:=fun s=>s.1≤v.length∧Ok s.2.1∧s.2.1.length=u0.length∧s.2.2.1<4294967296∧s.2.2.2≤1∧BY q v u0 0 0 at0=BY q (v.drop s.1) s.2.1 s.2.2.1 s.2.2.2 (at0+s.1)) ?_ (0,u0,0,0) ⟨Nat.zero_le _,hu,rfl,by simp,by simp,rfl⟩
  rintro ⟨i,u,c,b⟩ ⟨h1,h2,h3,h4,h5,h6⟩ ih
  dsimp only at h1 h2 h3 h4 h5 h6 ih ⊢
  refine .sr ?_;refine bi ?_;refine rn ?_;refine .seq ?_
  by_cases hi:i<v.length
  ·rw [dT (show (i:Int)<((L v).length:Nat) by rw [Ab];omega)]
   have hy:v[i]?=some v[i]:=lG hi
   have hdr:v.drop i=v[i]::v.drop (i+1):=lC hi
   generalize v[i]=y at hy hdr
   rw [hdr,Rg] at h6
   have hyl:=hv.at hy
   have hx:=CV (u:=u) (j:=at0+i) (by omega)
   have hxl:=De h2 (at0+i)
   have hlo:(c+q * y) % 4294967296<4294967296:=Nat.mod_lt _ (by decide)
   have f1:=Qb hxl hlo h5
   have hq1:(if u.getD (at0+i) 0<(c+q * y) % 4294967296+b then 1 else 0)≤1:=by split<;>omega
   have hrr:(u.getD (at0+i) 0+8589934592-(c+q * y) % 4294967296-b) % 4294967296<4294967296:=Nat.mod_lt _ (by decide)
   have hcs:=XE hq hyl h4
   have hc':=Xw hcs
   have hqy:q * y<18446744073709551616:=by omega
   generalize (u.getD (at0+i) 0+8589934592-(c+q * y) % 4294967296-b) % 4294967296=rr at *
   generalize (if u.getD (at0+i) 0<(c+q * y) % 4294967296+b then 1 else 0)=b' at *
   generalize u.getD (at0+i) 0=x at *
   refine B1 ?_;refine .skip ?_;refine aw ?_;refine .seq ?_;refine .block ?_;refine .sr ?_;refine mvd ?_
   refine ix i ?_ rfl (EW hy) rfl s32
   refine ldp ?_ a32
   refine asd ?_;refine asd ?_;refine rn ?_;refine .sr ?_;refine mvd ?_;refine mvd ?_;refine mvd ?_
   refine cve (y:Int) (Cb (by omega)) ?_ u32 u64
   refine bie (.i .u64 ((q * y:Nat):Int)) ?_ ?_
   ·exact ⟨trivial,by rw [← Int.natCast_mul,Cb hqy]⟩
   refine bie (.i .u64 ((c+q * y:Nat):Int)) ?_ ?_
   ·exact ⟨trivial,by rw [← Int.natCast_add,Cb hcs]⟩
   refine asd ?_;refine rn ?_;refine .gh (Gh.keep [0,1,2,3,9,10,11,13,14,15] rfl) ?_
   generalize c+q * y=s at *
   refine .sr ?_;refine mvo ?_;refine mvd ?_;refine mvd ?_;refine ad ((at0+i:Nat):Int) ?_ ?_
   ·omega
   refine mvo ?_;refine mvd ?_;refine mvd ?_;refine ad ((at0+i:Nat):Int) ?_ ?_
   ·omega
   refine ixr (at0+i) ?_ ?_ ?_ s32 (by decide)
   ·rfl
   ·rw [Ab,h3];omega
   refine lde (U x) ?_ ?_ a32
   ·rw [Nat.zero_add];exact Ja hx
   refine mvd ?_
   refine cve ((s % 4294967296:Nat):Int) (EF _) ?_ u64 u32
   refine mvd ?_
   refine cl (xs:=[U x,U (s % 4294967296),U b]) ?_ f1 Tryz.call188
   refine mvt ?_;refine ex ?_;refine ex ?_
   refine ixr (at0+i) ?_ ?_ ?_ s32 (by decide)
   ·rfl
   ·rw [Ab,h3];omega
   refine ste ?_ ?_ z32
   ·rw [Nat.zero_add];exact HJ hx
   refine asd ?_;refine rn ?_;refine .region ?_;refine mvd ?_;refine bie (.i .u64 ((s / 4294967296:Nat):Int)) ?_ ?_
   ·simp [IntKind.bits]
   refine asd ?_;refine .nil ?_;refine aw ?_;refine .region ?_;refine ad ((i+1:Nat):Int) ?_ ?_
   ·omega
   refine mvd ?_;refine rn ?_;refine .gh (Gh.keep [0,1,2,3,9,10,13,14,15] rfl) ?_
   have:=ih (i+1,u.set (at0+i) rr,s / 4294967296,b') ⟨by dsimp only;omega,h2.set _ hrr,by dsimp only;rw [List.length_set];exact h3,hc',hq1,h6⟩ (by dsimp only;omega)
   dsimp only at this
   rw [← MT] at this
   exact this
  ·rw [dF (show ¬(i:Int)<((L v).length:Nat) by rw [Ab];omega)]
   refine BZ ?_;refine .gh (Gh.keep [0,1,3,9,10] rfl) ?_;refine .exit ?_
   have hie:i=v.length:=by omega
   subst hie
   rw [List.drop_eq_nil_of_le (Nat.le_refl _)] at h6
   exact ⟨rfl,u,c,b,h2,h3,h4,h5,h6,rfl⟩
 rintro _ _ ⟨rfl,u,c,b,h2,h3,h4,h5,h6,rfl⟩
 rw [h6,St,Nat.mod_eq_of_lt h4]
 have hx:=CV (u:=u) (j:=at0+v.length) (by omega)
 have hxl:=De h2 (at0+v.length)
 have f1:=Qb hxl h4 h5
 generalize (u.getD (at0+v.length) 0+8589934592-c-b) % 4294967296=rr at *
 generalize (if u.getD (at0+v.length) 0<c+b then 1 else 0)=b' at *
 generalize u.getD (at0+v.length) 0=x at *
 refine .sr ?_;refine mvo ?_;refine mvd ?_;refine mvd ?_
 refine ln ?_ (BP _) l32
 refine ad ((at0+v.length:Nat):Int) ?_ ?_
 ·rw [Ab];omega
 refine mvo ?_;refine mvd ?_;refine mvd ?_
 refine ln ?_ (BP _) l32
 refine ad ((at0+v.length:Nat):Int) ?_ ?_
 ·rw [Ab];omega
 refine ixr (at0+v.length) ?_ ?_ ?_ s32 (by decide)
 ·rfl
 ·rw [Ab,h3];omega
 refine lde (U x) ?_ ?_ a32
 ·rw [Nat.zero_add];exact Ja hx
 refine mvd ?_
 refine cve (c:Int) (Ka h4) ?_ u64 u32
 refine mvd ?_
 refine cl (xs:=[U x,U c,U b]) ?_ f1 Tryz.call188
 refine mvt ?_;refine ex ?_;refine ex ?_
 refine ixr (at0+v.length) ?_ ?_ ?_ s32 (by decide)
 ·rfl
 ·rw [Ab,h3];omega
 refine ste ?_ ?_ z32
 ·rw [Nat.zero_add];exact HJ hx
 refine asd ?_;refine rn ?_;refine .sr ?_;refine mvd ?_;refine asd ?_;refine rn ?_;refine .ret ?_
 refine ⟨⟨[],by simp;rfl⟩,⟨rfl,rfl⟩,?_⟩
 intro k cc hk
 cases k with
 | zero =>
  simp at hk;subst hk
  exact ⟨by rw [← MT];rfl,rfl,by simp⟩
 | succ k=>simp at hk
def shL (n:Nat) : Nat→List Nat→List Nat
 | c,[]=>[c]
 | c,x::r=>(c+x * 2 ^ n % 4294967296)::shL n (x * 2 ^ n / 4294967296) r
theorem JM (n:Nat) : ∀ (a:List Nat) (c:Nat),(shL n c a).length=a.length+1
 | [],c=>rfl
 | x::r,c=>by simp [shL,JM n r]
theorem RD {n:Nat} (h:n<32) : 2 ^ n * 2 ^ (32-n)=4294967296:=by
 rw [← Nat.pow_add,show n+(32-n)=32 by omega]
theorem SQ {n x:Nat} (h:n<32) : x * 2 ^ n % 4294967296=x % 2 ^ (32-n) * 2 ^ n:=by
 rw [← RD h,Nat.mul_comm (2 ^ n),Nat.mul_mod_mul_right]
theorem QG {n x c:Nat} (h:n<32) (hc:c<2 ^ n) : c+x * 2 ^ n % 4294967296<4294967296:=by
 rw [SQ h]
 have h1:x % 2 ^ (32-n)<2 ^ (32-n):=Nat.mod_lt _ (Nat.two_pow_pos _)
 have h2:(x % 2 ^ (32-n)+1) * 2 ^ n≤2 ^ (32-n) * 2 ^ n:=Nat.mul_le_mul_right _ h1
 have h3:(2:Nat) ^ (32-n) * 2 ^ n=4294967296:=by rw [Nat.mul_comm];exact RD h
 rw [Nat.add_mul] at h2
 omega
theorem Rl {n x:Nat} (hx:x<4294967296) : x * 2 ^ n / 4294967296<2 ^ n:=by
 rw [Nat.div_lt_iff_lt_mul (by decide),Nat.mul_comm]
 exact Nat.mul_lt_mul_of_pos_left hx (Nat.two_pow_pos n)
theorem PK {n:Nat} (hn:n<32) : ∀ (a:List Nat) (c:Nat),Ok a→c<2 ^ n→val (shL n c a)=c+val a * 2 ^ n∧Ok (shL n c a)
 | [],c,h,hc=>by
  have:(2:Nat) ^ n≤2 ^ 32:=Nat.pow_le_pow_right (by decide) (by omega)
  exact ⟨by simp [shL,val],.cons (by omega) .nil⟩
 | x::r,c,h,hc=>by
  obtain ⟨a1,a2⟩:=PK hn r _ h.tail (Rl (n:=n) h.head)
  refine ⟨?_,.cons (QG hn hc) a2⟩
  show (c+x * 2 ^ n % 4294967296)+4294967296 * val (shL n (x * 2 ^ n / 4294967296) r)=c+(x+4294967296 * val r) * 2 ^ n
  rw [a1,Nat.add_mul,Nat.mul_add,Nat.mul_assoc]
  omega
theorem VO {n x c:Nat} (hn:n<32) (hc:c<2 ^ n) : bits .or .u32 (c:Int) ((x * 2 ^ n % 4294967296:Nat) : Int)=((c+x * 2 ^ n % 4294967296:Nat) : Int):=by
 have h1:=QG (x:=x) hn hc
 rw [bits_join_low .u32 32 (by decide) HH n (c:Int) ((x * 2 ^ n % 4294967296:Nat):Int) (by omega) (by exact_mod_cast hc) (by omega) (by omega) ?_ (by omega)]
 ·omega
 ·rw [SQ hn];exact_mod_cast Nat.mul_mod_left _ _
theorem Nd {a:List Nat} {n:Nat} (ha:Ok a) (hl:a.length≤1048576) (hn:n<32) : Fn Tryz.prog 181 [.sl (L a),.i .i64 n] (.own 118 (L (shL n 0 a))):=by
 refine Fn.o1 4 41 Tryz.func181 ?_;refine .sr ?_;refine asn ?_;refine rn ?_;refine .sr ?_;refine mvd ?_
 refine ln ?_ (BP _) l32
 refine ad ((a.length+1:Nat):Int) ?_ ?_
 ·rw [Ab];omega
 refine mk (a.length+1) ⟨rfl,rfl⟩ ?_ ?_ e32 rfl
 ·omega
 refine aso ?_;refine rn ?_;refine .mid (fun e H'=>e=[(5,.own 118 (L (shL n 0 a)))]∧H'=[]) ?_ ?_
 ·refine .sr ?_
  refine mvd ?_
  refine ln ?_ (BP _) l32
  refine mvd ?_;refine rn ?_;refine .block ?_
  refine .loop (.gh (Gh.keep [1,5,13,14,15] rfl) ?_)
  refine AL.cast (env':=[(1,.d (.i .i64 n)),(5,.own 118 (L ([]++0::List.replicate (a.length-0) 0))),(13,.d (.sl (L a))),(14,.d (.i .i64 ((L a).length:Nat))),(15,.d (.i .i64 ((0:Nat):Int)))]) (by
   have e1:L ([]++0::List.replicate (a.length-0) 0)=List.replicate (a.length+1) (U 0):=by simp [L,List.replicate_succ]
   rw [e1];rfl) ?_
  refine AL.ind (σ:=List Nat×Nat×Nat) (m:=fun s=>a.length-s.2.2) (e:=fun s=>[(1,.d (.i .i64 n)),(5,.own 118 (L (s.1++s.2.1::List.replicate (a.length-s.2.2) 0))),(13,.d (.sl (L a))),(14,.d (.i .i64 ((L a).length:Nat))),(15,.d (.i .i64 (s.2.2:Int)))]) (h:=fun _=>[])
   (I:=fun s=>s.2.2≤a.length∧s.1.length=s.2.2∧s.2.1<2 ^ n∧s.1++shL n s.2.1 (a.drop s.2.2)=shL n 0 a) ?_ ([],0,0) ⟨by simp,rfl,Nat.two_pow_pos n,rfl⟩
  rintro ⟨ps,c,i⟩ ⟨h1,h2,h3,h4⟩ ih
  dsimp only at h1 h2 h3 h4 ih ⊢
  refine .sr ?_;refine bi ?_;refine rn ?_;refine .seq ?_
  by_cases hi:i<a.length
  ·rw [dT (show (i:Int)<((L a).length:Nat) by rw [Ab];omega)]
   have hx:a[i]?=some a[i]:=lG hi
   have hdr:a.drop i=a[i]::a.drop (i+1):=lC hi
   generalize a[i]=x at hx hdr
   have hxl:=ha.at hx
   rw [hdr] at h4
   obtain ⟨m,hm⟩:∃ m,a.length-i=m+1:=⟨a.length-i-1,by omega⟩
   rw [hm,List.replicate_succ]
   have hz0:(ps++c::0::List.replicate m 0)[i]?=some c:=by
    rw [List.getElem?_append_right (by omega),h2,Nat.sub_self];rfl
   have hw:x * 2 ^ n<18446744073709551616:=by
    have:(2:Nat) ^ n≤2 ^ 31:=Nat.pow_le_pow_right (by decide) (by omega)
    have:=Nat.mul_le_mul (show x≤4294967295 by omega) this
    omega
   refine B1 ?_;refine .skip ?_;refine aw ?_;refine .seq ?_;refine .block ?_;refine .sr ?_;refine mvd ?_
   refine ix i ?_ rfl (EW hx) rfl s32
   refine ldp ?_ a32
   refine asd ?_;refine asd ?_;refine rn ?_;refine .sr ?_;refine mvd ?_
   refine cve (x:Int) (Cb (by omega)) ?_ u32 u64
   refine mvd ?_;refine bie (.i .u64 ((x * 2 ^ n:Nat):Int)) ?_ ?_
   ·refine ⟨by omega,?_⟩
    have e1:min ((n:Int).toNat) IntKind.u64.bits=n:=by simp [IntKind.bits];omega
    rw [e1,← Cb hw]
    simp
   refine asd ?_;refine rn ?_;refine .sr ?_;refine mvo ?_;refine mvd ?_
   refine ixr i ?_ ?_ ?_ s32 (by decide)
   ·omega
   ·rw [Ab];simp;omega
   refine lde (U c) ?_ ?_ a32
   ·rw [Nat.zero_add];exact Ja hz0
   refine mvd ?_
   refine cve ((x * 2 ^ n % 4294967296:Nat):Int) (EF _) ?_ u64 u32
   refine bie (U (c+x * 2 ^ n % 4294967296)) ?_ ?_
   ·exact ⟨trivial,by rw [VO hn h3];rfl⟩
   refine ixr i ?_ ?_ ?_ s32 (by decide)
   ·omega
   ·rw [Ab];simp;omega
   refine ste ?_ ?_ z32
   ·rw [Nat.zero_add];exact HJ hz0
   refine rn ?_
   have hs1:(L (ps++c::0::List.replicate m 0)).set (0+i) (U (c+x * 2 ^ n % 4294967296))=L (ps++(c+x * 2 ^ n % 4294967296)::0::List.replicate m 0):=by
    rw [QV,Nat.zero_add,List.set_append_right _ _ (by omega),h2,Nat.sub_self];rfl
   have hs2:(L (ps++(c+x * 2 ^ n % 4294967296)::0::List.replicate m 0)).set (0+(i+1)) (U (x * 2 ^ n / 4294967296))=L ((ps++[c+x * 2 ^ n % 4294967296])++(x * 2 ^ n / 4294967296)::List.replicate m 0):=by
    rw [QV,Nat.zero_add,List.set_append_right _ _ (by omega),h2,show i+1-i=1 by omega,List.append_assoc];rfl
   have hz1:(ps++(c+x * 2 ^ n % 4294967296)::0::List.replicate m 0)[i+1]?=some 0:=by
    rw [List.getElem?_append_right (by omega),h2,show i+1-i=1 by omega];rfl
   rw [hs1]
   refine .region ?_;refine mvo ?_;refine mvd ?_;refine ad ((i+1:Nat):Int) ?_ ?_
   ·omega
   refine mvd ?_;refine bie (.i .u64 ((x * 2 ^ n / 4294967296:Nat):Int)) ?_ ?_
   ·simp [IntKind.bits]
   refine cve ((x * 2 ^ n / 4294967296:Nat):Int) (Ka (by omega)) ?_ u64 u32
   refine ixr (i+1) ?_ ?_ ?_ s32 (by decide)
   ·omega
   ·rw [Ab];simp;omega
   refine ste ?_ ?_ z32
   ·rw [Nat.zero_add];exact HJ hz1
   refine .nil ?_;refine aw ?_;refine .region ?_;refine ad ((i+1:Nat):Int) ?_ ?_
   ·omega
   refine mvd ?_;refine .nil ?_;refine AL.gh (Gh.keep [1,5,13,14,15] rfl) ?_;refine AL.cast (env':=[(1,.d (.i .i64 n)),(5,.own 118 (L ((ps++[c+x * 2 ^ n % 4294967296])++(x * 2 ^ n / 4294967296)::List.replicate (a.length-(i+1)) 0))),(13,.d (.sl (L a))),(14,.d (.i .i64 ((L a).length:Nat))),(15,.d (.i .i64 ((i+1:Nat):Int)))]) (by rw [show a.length-(i+1)=m by omega,← hs2];rfl) ?_
   refine ih (ps++[c+x * 2 ^ n % 4294967296],x * 2 ^ n / 4294967296,i+1) ⟨by show i+1≤a.length;omega,by simp [h2],Rl hxl,?_⟩ (by show a.length-(i+1)<a.length-i;omega)
   rw [← h4,List.append_assoc];rfl
  ·rw [dF (show ¬(i:Int)<((L a).length:Nat) by rw [Ab];omega)]
   have e1:a.drop i=[]:=List.drop_eq_nil_of_le (by omega)
   rw [e1] at h4
   replace h4:ps++[c]=shL n 0 a:=h4
   rw [show a.length-i=0 by omega]
   refine BZ ?_;refine .gh (Gh.keep [5] rfl) ?_;refine .exit ?_
   exact ⟨by rw [← h4];rfl,rfl⟩
 ·rintro _ _ ⟨rfl,rfl⟩
  refine .sr ?_;refine Y7 ?_;refine aso ?_;refine rn ?_;refine .ret ?_
  exact ⟨rfl,rfl⟩
def shR (n:Nat) : List Nat→List Nat
 | []=>[]
 | x::r=>((x+r.headD 0 * 4294967296) / 2 ^ n % 4294967296)::shR n r
theorem Xt : ∀ (r:List Nat),∃ k,val r=r.headD 0+4294967296 * k
 | []=>⟨0,rfl⟩
 | _::r=>⟨val r,rfl⟩
theorem Pz {n:Nat} (hn:n<32) : ∀ (a:List Nat),Ok a→val (shR n a)=val a / 2 ^ n∧Ok (shR n a)
 | [],_=>⟨by simp [shR,val],.nil⟩
 | x::r,h=>by
  obtain ⟨a1,a2⟩:=Pz hn r h.tail
  refine ⟨?_,.cons (Nat.mod_lt _ (by decide)) a2⟩
  show (x+r.headD 0 * 4294967296) / 2 ^ n % 4294967296+4294967296 * val (shR n r)=(x+4294967296 * val r) / 2 ^ n
  rw [a1]
  obtain ⟨k,hk⟩:=Xt r
  have hx:=h.head
  have hp:=RD hn
  have h2:0<2 ^ n:=Nat.two_pow_pos n
  have e1:(x+4294967296 * val r) / 2 ^ n / 4294967296=val r / 2 ^ n:=by
   rw [Nat.div_div_eq_div_mul,Nat.mul_comm (2 ^ n) 4294967296,← Nat.div_div_eq_div_mul]
   congr 1
   omega
  have e2:(x+4294967296 * val r) / 2 ^ n % 4294967296=(x+r.headD 0 * 4294967296) / 2 ^ n % 4294967296:=by
   have:x+4294967296 * val r=x+r.headD 0 * 4294967296+2 ^ n * (2 ^ (32-n) * k * 4294967296):=by
    rw [hk,← Nat.mul_assoc,← Nat.mul_assoc,hp];omega
   rw [this,Nat.add_mul_div_left _ _ h2,Nat.add_mul_mod_self_right]
  have:=Nat.mod_add_div ((x+4294967296 * val r) / 2 ^ n) 4294967296
  rw [e1,e2] at this
  exact this
theorem PL {x y:Nat} (hx:x<4294967296) (hy:y<4294967296) : bits .or .u64 (x:Int) ((y * 4294967296:Nat) : Int)=((x+y * 4294967296:Nat) : Int):=by
 rw [bits_join_low .u64 64 (by decide) Gc 32 (x:Int) ((y * 4294967296:Nat):Int) (by omega) (by omega) (by omega) (by omega) (by omega) (by omega)]
 omega
theorem Gf (n:Nat) : ∀ (a:List Nat),(shR n a).length=a.length
 | []=>rfl
 | x::r=>by simp [shR,Gf n r]
theorem Si (n:Nat) : ∀ (a:List Nat) (i x:Nat),a[i]?=some x→(shR n a)[i]?=some ((x+(a.drop (i+1)).headD 0 * 4294967296) / 2 ^ n % 4294967296)
 | [],i,x,h=>by simp at h
 | y::r,0,x,h=>by simp at h;subst h;rfl
 | y::r,i+1,x,h=>by
  have:=Si n r i x (by simpa using h)
  simpa [shR] using this
theorem Wx {a:List Nat} {n:Nat} (ha:Ok a) (hl:a.length≤1048576) (hn:n<32) : Fn Tryz.prog 185 [.sl (L a),.i .i64 n] (.d (.sl (L (Ao (val a / 2 ^ n))))):=by
 have hv:=Pz hn a ha
 refine Fn.o1 4 44 Tryz.func185 ?_;refine .sr ?_;refine asn ?_;refine rn ?_;refine .sr ?_;refine mvd ?_
 refine cl (xs:=[.sl (L a)]) ?_ (Na a (by omega)) Tryz.call142
 refine aso ?_;refine rn ?_;refine .mid (fun e H'=>e=[(5,.own 118 (L (shR n a)))]∧H'=[]) ?_ ?_
 ·refine .sr ?_
  refine mvo ?_
  refine lnr ?_ l32
  refine mvd ?_;refine rn ?_;refine .block ?_
  refine .loop (.gh (Gh.keep [1,5,11,12] rfl) ?_)
  refine AL.ind (σ:=Nat) (m:=fun i=>a.length-i) (e:=fun i=>[(1,.d (.i .i64 n)),(5,.own 118 (L ((shR n a).take i++a.drop i))),(11,.d (.i .i64 ((L a).length:Nat))),(12,.d (.i .i64 (i:Int)))]) (h:=fun _=>[])
   (I:=fun i=>i≤a.length) ?_ 0 (Nat.zero_le _)
  intro i h1 ih
  refine .sr ?_;refine bi ?_;refine rn ?_;refine .seq ?_
  by_cases hi:i<a.length
  ·rw [dT (show (i:Int)<((L a).length:Nat) by rw [Ab];omega)]
   have hx:a[i]?=some a[i]:=lG hi
   have hdr:a.drop i=a[i]::a.drop (i+1):=lC hi
   generalize a[i]=x at hx hdr
   have hxl:=ha.at hx
   have hsr:=Si n a i x hx
   have hrl:=Gf n a
   have htl:((shR n a).take i).length=i:=by rw [List.length_take,hrl];omega
   have hzl:((shR n a).take i++a.drop i).length=a.length:=by rw [List.length_append,htl,List.length_drop];omega
   have hz0:((shR n a).take i++a.drop i)[i]?=some x:=by
    rw [List.getElem?_append_right (by omega),htl,Nat.sub_self,hdr];rfl
   refine B1 ?_;refine .skip ?_;refine aw ?_;refine .seq ?_;refine .block ?_;refine .sr ?_;refine mvd ?_;refine asd ?_;refine rn ?_;refine .sr ?_;refine mvo ?_;refine mvd ?_
   refine ixr i ?_ ?_ ?_ s32 (by decide)
   ·omega
   ·rw [Ab,hzl];omega
   refine lde (U x) ?_ ?_ a32
   ·rw [Nat.zero_add];exact Ja hz0
   refine cve (x:Int) (Cb (by omega)) ?_ u32 u64
   refine asd ?_;refine rn ?_;refine .mid (fun e H'=>H'=[]∧e=[(1,.d (.i .i64 n)),(5,.own 118 (L ((shR n a).take i++a.drop i))),(6,.d (.i .i64 (i:Int))),(7,.d (.i .u64 ((x+(a.drop (i+1)).headD 0 * 4294967296:Nat):Int))),(11,.d (.i .i64 ((L a).length:Nat))),(12,.d (.i .i64 (i:Int)))]) ?_ ?_
   ·refine .sr ?_
    refine mvd ?_;refine ad ((i+1:Nat):Int) ?_ ?_
    ·omega
    refine mvo ?_
    refine lnr ?_ l32
    refine bi ?_;refine rn ?_
    by_cases hj:i+1<a.length
    ·have hy:a[i+1]?=some a[i+1]:=lG hj
     have hdr2:a.drop (i+1)=a[i+1]::a.drop (i+1+1):=lC hj
     generalize a[i+1]=y at hy hdr2
     have hyl:=ha.at hy
     have hz1:((shR n a).take i++a.drop i)[i+1]?=some y:=by
      rw [List.getElem?_append_right (by omega),htl,show i+1-i=1 by omega,hdr,hdr2];rfl
     rw [dT (show ((i+1:Nat):Int)<((L ((shR n a).take i++a.drop i)).length:Nat) by rw [Ab,hzl];omega)]
     refine B1 ?_;refine .region ?_;refine mvd ?_;refine mvo ?_;refine mvd ?_;refine ad ((i+1:Nat):Int) ?_ ?_
     ·omega
     refine ixr (i+1) ?_ ?_ ?_ s32 (by decide)
     ·omega
     ·rw [Ab,hzl];omega
     refine lde (U y) ?_ ?_ a32
     ·rw [Nat.zero_add];exact Ja hz1
     refine cve (y:Int) (Cb (by omega)) ?_ u32 u64
     refine bie (.i .u64 ((y * 4294967296:Nat):Int)) ?_ ?_
     ·refine ⟨by decide,?_⟩
      rw [← Cb (show y * 4294967296<18446744073709551616 by omega)];simp [IntKind.bits]
     refine bie (.i .u64 ((x+y * 4294967296:Nat):Int)) ?_ ?_
     ·exact ⟨trivial,by rw [PL hxl hyl]⟩
     refine asd ?_;refine .gh (Gh.keep [1,5,6,7,11,12] rfl) ?_;refine rn ?_
     refine ⟨rfl,?_⟩
     rw [hdr2];rfl
    ·have e1:a.drop (i+1)=[]:=List.drop_eq_nil_of_le (by omega)
     rw [dF (show ¬((i+1:Nat):Int)<((L ((shR n a).take i++a.drop i)).length:Nat) by rw [Ab,hzl];omega)]
     refine BZ ?_;refine .gh (Gh.keep [1,5,6,7,11,12] rfl) ?_;refine .skip ?_
     refine ⟨rfl,?_⟩
     rw [e1];simp;rfl
   ·rintro _ _ ⟨rfl,rfl⟩
    have hw:x+(a.drop (i+1)).headD 0 * 4294967296<18446744073709551616:=by
     have h3:(a.drop (i+1)).headD 0<4294967296:=by
      cases h4:a.drop (i+1) with
      | nil=>decide
      | cons y r=>exact (ha.drop (i+1)) y (by rw [h4];simp)
     omega
    generalize x+(a.drop (i+1)).headD 0 * 4294967296=w at hsr hw
    refine .region ?_;refine mvo ?_;refine mvd ?_;refine mvd ?_;refine mvd ?_;refine bie (.i .u64 ((w / 2 ^ n:Nat):Int)) ?_ ?_
    ·refine ⟨by omega,?_⟩
     have e1:min ((n:Int).toNat) IntKind.u64.bits=n:=by simp [IntKind.bits];omega
     rw [e1];simp
    refine cve ((w / 2 ^ n % 4294967296:Nat):Int) (EF _) ?_ u64 u32
    refine ixr i ?_ ?_ ?_ s32 (by decide)
    ·omega
    ·rw [Ab,hzl];omega
    refine ste ?_ ?_ z32
    ·rw [Nat.zero_add];exact HJ hz0
    refine .nil ?_;refine aw ?_
    have hset:(L ((shR n a).take i++a.drop i)).set (0+i) (U (w / 2 ^ n % 4294967296))=L ((shR n a).take (i+1)++a.drop (i+1)):=by
     rw [QV,Nat.zero_add,List.set_append_right _ _ (by omega),htl,Nat.sub_self,hdr,List.take_add_one,hsr,List.append_assoc];rfl
    refine .region ?_;refine ad ((i+1:Nat):Int) ?_ ?_
    ·omega
    refine mvd ?_;refine .nil ?_;refine AL.gh (Gh.keep [1,5,11,12] rfl) ?_;refine AL.cast (env':=[(1,.d (.i .i64 n)),(5,.own 118 (L ((shR n a).take (i+1)++a.drop (i+1)))),(11,.d (.i .i64 ((L a).length:Nat))),(12,.d (.i .i64 ((i+1:Nat):Int)))]) (by rw [← hset];rfl) ?_
    exact ih (i+1) (by show i+1≤a.length;omega) (by show a.length-(i+1)<a.length-i;omega)
  ·rw [dF (show ¬(i:Int)<((L a).length:Nat) by rw [Ab];omega)]
   have e1:a.drop i=[]:=List.drop_eq_nil_of_le (by omega)
   have e2:(shR n a).take i=shR n a:=List.take_of_length_le (by rw [Gf];omega)
   rw [e1,e2,List.append_nil]
   refine BZ ?_;refine .gh (Gh.keep [5] rfl) ?_;refine .exit ?_
   exact ⟨rfl,rfl⟩
 ·rintro _ _ ⟨rfl,rfl⟩
  refine .sr ?_;refine fz (p:=.t 5) ?_;refine mvd ?_
  refine cl (xs:=[.sl (L (shR n a))]) ?_ (F8 hv.2 (by rw [Gf];omega)) Tryz.call143
  refine asd ?_;refine rn ?_;refine .ret ?_
  exact ⟨by rw [hv.1];rfl,rfl⟩
def Ph (u2 u1 u0 v1 v0:Nat) : Nat:=min (((u2 * 4294967296+u1) * 4294967296+u0) / (v1 * 4294967296+v0)) 4294967295
theorem Yh {u v:Nat} (hu:u<4294967296) (hv:v<4294967296) : u * 4294967296+v<18446744073709551616:=by omega
theorem X1 {N v1 u2 u1:Nat} (hN:N=u2 * 4294967296+u1) (h2:u2≤v1) (h1:u1<4294967296) : N<v1 * 4294967296+4294967296:=by omega
theorem Ty {N v1:Nat} (hN:N<v1 * 4294967296+4294967296) (g1:v1<4294967296) (hv:0<v1) :
  ∃ r,min (N / v1) 4294967295 * v1+r=N∧r<8589934592:=by
 have hdm:=Nat.div_add_mod N v1
 have hml:=Nat.mod_lt N hv
 by_cases h:N / v1≤4294967295
 ·rw [Nat.min_eq_left h]
  exact ⟨N % v1,by rw [Nat.mul_comm];exact hdm,by omega⟩
 ·rw [Nat.min_eq_right (by omega)]
  have h3:v1 * 4294967296≤v1 * (N / v1):=Nat.mul_le_mul_left _ (by omega)
  exact ⟨N-4294967295 * v1,by omega,by omega⟩
theorem Zt {N M v1 D u0 v0:Nat} (hM:M=N * 4294967296+u0) (hD:D=v1 * 4294967296+v0) (h0:u0<4294967296) (hv:0<v1) : M / D≤N / v1:=by
 subst hM hD
 have h1:(N * 4294967296+u0) / (v1 * 4294967296+v0)≤(N * 4294967296+u0) / (v1 * 4294967296):=Nat.div_le_div_left (by omega) (by omega)
 have h2:(N * 4294967296+u0) / (v1 * 4294967296)=N / v1:=by
  rw [Nat.mul_comm v1,← Nat.div_div_eq_div_mul]
  congr 1
  omega
 omega
theorem g1_ {q v0 r u0:Nat} (hq:q≤4294967295) (g0:v0<4294967296) (h:4294967296≤r) : q * v0≤r * 4294967296+u0:=by
 have a1:q * v0≤4294967295 * 4294967295:=Nat.mul_le_mul hq (by omega)
 omega
theorem g2_ {q v1 r B N u0 v0:Nat} (hr:q * v1+r=N) (h1:q * v0≤r * B+u0) : q * (v1 * B+v0)≤N * B+u0:=by
 have e1:q * (v1 * B+v0)=q * v1 * B+q * v0:=by grind
 have e2:N * B=q * v1 * B+r * B:=by grind
 omega
theorem g3_ {p v1 r B N u0 v0:Nat} (hr:(p+1) * v1+r=N) (h1:r * B+u0<(p+1) * v0) : N * B+u0<(p+1) * (v1 * B+v0):=by
 have e1:(p+1) * (v1 * B+v0)=(p+1) * v1 * B+(p+1) * v0:=by grind
 have e2:N * B=(p+1) * v1 * B+r * B:=by grind
 omega
theorem TG {N M D v1 v0 u0 q r:Nat} (hM:M=N * 4294967296+u0) (hD:D=v1 * 4294967296+v0) (hq:q≤4294967295) (hg:min (M / D) 4294967295≤q) (hr:q * v1+r=N) (g0:v0<4294967296) (hv:0<v1) (h:4294967296≤r∨q * v0≤r * 4294967296+u0) : q=min (M / D) 4294967295:=by
 have h1:q * v0≤r * 4294967296+u0:=by
  rcases h with h|h
  ·exact g1_ hq g0 h
  ·exact h
 have h2:=g2_ (B:=4294967296) hr h1
 rw [← hM,← hD] at h2
 have h3:q≤M / D:=(Nat.le_div_iff_mul_le (by omega)).2 h2
 clear h2 h1 hM hD hr
 omega
theorem R8 {N M D v1 v0 u0 q r:Nat} (hM:M=N * 4294967296+u0) (hD:D=v1 * 4294967296+v0) (hr:q * v1+r=N) (h:r * 4294967296+u0<q * v0) (hv:0<v1) : ∃ p,q=p+1∧min (M / D) 4294967295≤p∧p * v1+(r+v1)=N:=by
 cases q with
 | zero=>simp at h
 | succ p =>
  have h2:=g3_ (B:=4294967296) hr h
  rw [← hM,← hD] at h2
  have h3:M / D<p+1:=(Nat.div_lt_iff_lt_mul (by omega)).2 h2
  refine ⟨p,rfl,?_,by grind⟩
  clear h2 hM hD hr h
  omega
theorem Oo {r:Nat} (h:r<4294967296) : IntKind.u64.wrap ((r:Int) * 2 ^ (min ((32:Int).toNat) IntKind.u64.bits))=((r * 4294967296:Nat) : Int):=by
 rw [← Cb (n:=r * 4294967296) (by omega)];simp [IntKind.bits]
theorem Zv {q v0:Nat} (hq:q≤4294967295) (g0:v0<4294967296) : q * v0<18446744073709551616:=by
 have a1:q * v0≤4294967295 * 4294967295:=Nat.mul_le_mul hq (by omega)
 omega
theorem Wi {u2 u1 u0 v1 v0:Nat} (h2:u2≤v1) (h1:u1<4294967296) (h0:u0<4294967296) (g1:v1<4294967296) (g0:v0<4294967296) (hv:0<v1) :
  Fn Tryz.prog 182 [U u2,U u1,U u0,U v1,U v0] (.d (.i .u64 (Ph u2 u1 u0 v1 v0:Nat))):=by
 have hu2:u2<4294967296:=Nat.lt_of_le_of_lt h2 g1
 have ht:=Yh hu2 h1
 have htl:=X1 (N:=u2 * 4294967296+u1) rfl h2 h1
 have hj:=KH hu2 h1
 have hs:=Oo hu2
 have hgq:Ph u2 u1 u0 v1 v0=min (((u2 * 4294967296+u1) * 4294967296+u0) / (v1 * 4294967296+v0)) 4294967295:=rfl
 obtain ⟨N,hN⟩:∃ N,N=u2 * 4294967296+u1:=⟨_,rfl⟩
 rw [← hN] at ht htl hj hgq
 obtain ⟨M,hM⟩:∃ M,M=N * 4294967296+u0:=⟨_,rfl⟩
 obtain ⟨D,hD⟩:∃ D,D=v1 * 4294967296+v0:=⟨_,rfl⟩
 rw [← hM,← hD] at hgq
 rw [hgq]
 obtain ⟨u2B,hu2B⟩:∃ z,z=u2 * 4294967296:=⟨_,rfl⟩
 rw [← hu2B] at hj hs
 have w1:IntKind.u64.wrap (u2:Int)=(u2:Int):=Cb (Nat.lt_trans hu2 (by decide))
 have w2:IntKind.u64.wrap (u1:Int)=(u1:Int):=Cb (Nat.lt_trans h1 (by decide))
 have w3:IntKind.u64.wrap (v1:Int)=(v1:Int):=Cb (Nat.lt_trans g1 (by decide))
 have w4:IntKind.u64.wrap (v0:Int)=(v0:Int):=Cb (Nat.lt_trans g0 (by decide))
 have w5:IntKind.u64.wrap (u0:Int)=(u0:Int):=Cb (Nat.lt_trans h0 (by decide))
 have w6:IntKind.u64.wrap ((N / v1:Nat):Int)=((N / v1:Nat):Int):=Cb (Nat.lt_of_le_of_lt (Nat.div_le_self _ _) ht)
 obtain ⟨r0,hr0,hr1⟩:=Ty htl g1 hv
 have hup:=Zt hM hD h0 hv
 clear hN hu2B htl
 refine Fn.o1 10 52 Tryz.func182 ?_;refine .sr ?_;refine asd ?_;refine rn ?_;refine .sr ?_;refine mvd ?_
 refine cve (u2:Int) w1 ?_ u32 u64
 refine bie (.i .u64 (u2B:Int)) ?_ ?_
 ·exact ⟨by decide,by rw [hs]⟩
 refine mvd ?_
 refine cve (u1:Int) w2 ?_ u32 u64
 refine bie (.i .u64 (N:Int)) ?_ ?_
 ·exact ⟨trivial,by rw [hj]⟩
 refine asd ?_;refine rn ?_;refine .gh (Gh.keep [2,3,4,11] rfl) ?_;refine .sr ?_;refine mvd ?_;refine mvd ?_
 refine cve (v1:Int) w3 ?_ u32 u64
 refine bie (.i .u64 ((N / v1:Nat):Int)) ?_ ?_
 ·exact ⟨by omega,by rw [Rr,w6]⟩
 refine mn ?_
 rw [show (if (4294967295:Int)<((N / v1:Nat):Int) then (4294967295:Int) else ((N / v1:Nat):Int))=((min (N / v1) 4294967295:Nat):Int) by
  by_cases h:4294967295<N / v1
  ·rw [if_pos (by omega),Nat.min_eq_right (by omega)];rfl
  ·rw [if_neg (by omega),Nat.min_eq_left (by omega)]]
 refine asd ?_;refine rn ?_
 have hq0:min (N / v1) 4294967295≤4294967295:=Nat.min_le_right _ _
 have hgq0:min (M / D) 4294967295≤min (N / v1) 4294967295:=by omega
 generalize min (N / v1) 4294967295=q0 at *
 have hqv:q0 * v1≤N:=by omega
 have hw7:IntKind.u64.wrap ((q0:Int) * (v1:Int))=((q0 * v1:Nat):Int):=by rw [← Int.natCast_mul,Cb (Nat.lt_of_le_of_lt hqv ht)]
 have hw8:IntKind.u64.wrap ((N:Int)-((q0 * v1:Nat):Int))=(r0:Int):=by
  rw [show (N:Int)-((q0 * v1:Nat):Int)=(r0:Int) by omega,Cb (by omega)]
 refine .sr ?_;refine mvd ?_;refine mvd ?_;refine mvd ?_
 refine cve (v1:Int) w3 ?_ u32 u64
 refine bie (.i .u64 ((q0 * v1:Nat):Int)) ?_ ?_
 ·exact ⟨trivial,by rw [hw7]⟩
 refine bie (.i .u64 (r0:Int)) ?_ ?_
 ·exact ⟨trivial,by rw [hw8]⟩
 refine asd ?_;refine rn ?_;refine .mid (fun e H'=>e=[(12,.d (.i .u64 ((min (M / D) 4294967295:Nat):Int)))]) ?_ ?_
 ·refine .block ?_
  refine .loop (.gh (Gh.keep [2,3,4,12,13] rfl) ?_)
  refine AL.ind (σ:=Nat×Nat) (m:=fun s=>s.1) (e:=fun s=>[(2,.d (U u0)),(3,.d (U v1)),(4,.d (U v0)),(12,.d (.i .u64 (s.1:Int))),(13,.d (.i .u64 (s.2:Int)))]) (h:=fun _=>[])
   (I:=fun s=>min (M / D) 4294967295≤s.1∧s.1≤4294967295∧s.1 * v1+s.2=N∧s.2<8589934592) ?_ (q0,r0) ⟨hgq0,hq0,hr0,hr1⟩
  clear hq0 hgq0 hqv hw7 hw8 hr0 hr1 hup w6
  clear q0 r0
  rintro ⟨q,r⟩ ⟨i1,i2,i3,i4⟩ ih
  dsimp only at i1 i2 i3 i4 ih ⊢
  have fin:(4294967296≤r∨q * v0≤r * 4294967296+u0)→q=min (M / D) 4294967295:=fun h=>TG hM hD i2 i1 i3 g0 hv h
  refine .seq ?_;refine .sr ?_;refine mvd ?_;refine bi ?_;refine mvd ?_
  by_cases hr:r<4294967296
  ·rw [dT (show (r:Int)<4294967296 by omega)]
   have hqv0:=Zv i2 g0
   have hsr:=Oo hr
   have hjr:=KH hr h0
   have hst:r * 4294967296+u0<q * v0→∃ p,q=p+1∧min (M / D) 4294967295≤p∧p * v1+(r+v1)=N:=fun h=>R8 hM hD i3 h hv
   obtain ⟨rB,hrB⟩:∃ z,z=r * 4294967296:=⟨_,rfl⟩
   rw [← hrB] at hsr hjr fin hst
   clear hM hD
   refine mvd ?_;refine mvd ?_
   refine cve (v0:Int) w4 ?_ u32 u64
   refine bie (.i .u64 ((q * v0:Nat):Int)) ?_ ?_
   ·exact ⟨trivial,by rw [← Int.natCast_mul,Cb hqv0]⟩
   refine mvd ?_;refine bie (.i .u64 (rB:Int)) ?_ ?_
   ·exact ⟨by decide,by rw [hsr]⟩
   refine mvd ?_
   refine cve (u0:Int) w5 ?_ u32 u64
   refine bie (.i .u64 ((rB+u0:Nat):Int)) ?_ ?_
   ·exact ⟨trivial,by rw [hjr]⟩
   refine bi ?_;refine pkd ?_;refine rn ?_
   by_cases hc:rB+u0<q * v0
   ·rw [dT (show ((rB+u0:Nat):Int)<((q * v0:Nat):Int) by omega)]
    obtain ⟨p,rfl,j1,j2⟩:=hst hc
    refine B1 ?_;refine .skip ?_;refine aw ?_;refine .gh (Gh.keep [2,3,4,12,13] rfl) ?_;refine .block ?_;refine .sr ?_;refine mvd ?_;refine bie (.i .u64 (p:Int)) ?_ ?_
    ·refine ⟨trivial,?_⟩
     rw [show ((p+1:Nat):Int)-1=(p:Int) by omega,Cb (by omega)]
    refine asd ?_;refine rn ?_;refine .region ?_;refine mvd ?_;refine mvd ?_
    refine cve (v1:Int) w3 ?_ u32 u64
    refine bie (.i .u64 ((r+v1:Nat):Int)) ?_ ?_
    ·exact ⟨trivial,by rw [← Int.natCast_add,Cb (by omega)]⟩
    refine asd ?_;refine .nil ?_
    show AL _ _ _ _ _ _
    refine .gh (Gh.keep [2,3,4,12,13] rfl) ?_
    exact ih (p,r+v1) ⟨j1,by dsimp only;omega,j2,by dsimp only;omega⟩ (by dsimp only;omega)
   ·rw [dF (show ¬((rB+u0:Nat):Int)<((q * v0:Nat):Int) by omega)]
    refine BZ ?_;refine .gh (Gh.keep [12] rfl) ?_;refine .exit ?_
    show _=_
    rw [← fin (.inr (by omega))];rfl
  ·rw [dF (show ¬(r:Int)<4294967296 by omega)]
   refine gf4 ?_;refine gf4 ?_;refine gf2 ?_;refine pkd ?_;refine rn ?_;refine BZ ?_;refine .gh (Gh.keep [12] rfl) ?_;refine .exit ?_
   show _=_
   rw [← fin (.inl (by omega))];rfl
 rintro _ _ rfl
 refine .sr ?_;refine mvd ?_;refine asd ?_;refine rn ?_;refine .ret ?_
 exact ⟨rfl,rfl⟩
end Go.FL
