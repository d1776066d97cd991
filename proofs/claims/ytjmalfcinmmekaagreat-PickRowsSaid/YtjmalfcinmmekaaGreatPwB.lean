/-
  Part 2 of the base of the proofs: a logic of our own over the calculus, the contracts of the functions
-/
import Derived.Test.YtjmalfcinmmekaaGreatPwA
set_option linter.unusedVariables false
namespace Go.FL
open Go Go.RowKit
section
variable {P:Program} {C:Cx} {X:Snap} {o:Oper} {ops:Array Oper} {Q:Exit→Env→Ad→Prop} {env env0 vals fin:Env} {H H':Ad} {a:Act} {w w':World} {I I':Nat→Prop} {μ μ':List Nat} {O O':Nat→Option Loc}
 {k:Nat} {l:List Oper} {v:AV} {t:Nat}
def DK (P:Program) (C:Cx) (ops:Array Oper) (H:Ad) (env0 vals:Env) (l:List Oper) (K:Env→Prop) : Prop:=∃ fin,DL P C ops H env0 vals l fin∧K fin
theorem AW.drawn {id:Nat} (m:Nat) (hm:P.follows .mixedOrders=true) (hok:JK ops m=true) (h:DK P C ops H env0 [] (ops.toList.take m) fun fin=>RL P C ops Q m (ops.toList.drop m) (fin++env0) H) : AW P C (.region id ops true) Q env0 H :=
 let ⟨_,h1,h2⟩:=h;.draws hm hok rfl h1 h2
theorem dv {K:Env→Prop} (hv:VOK P C o (Bz (o.looksAt ops) vals++env0) H v) (h:DK P C ops H env0 ((t,v)::vals) l K) (hd:o.dst=some t:=by rfl) (hg:grd ops (Bz (o.looksAt ops) vals++env0) o true=true:=by rfl) (h0:Re (get env0 t)=true:=by rfl)
  (hn:(vals.map (·.1)).contains t=false:=by rfl) (hs:HR t v=true:=by rfl) (hr:Dd (Bz (o.looksAt ops) vals++env0)=true:=by rfl) (ht:okT C.nt t:=by rfl):DK P C ops H env0 vals (o::l) K :=
 let ⟨fin,h1,h2⟩:=h;⟨fin,.run hd ht h0 hn hs hg hv hr h1,h2⟩
theorem dgf {K:Env→Prop} (h:DK P C ops H env0 ((t,.un)::vals) l K) (hg:grd ops (Bz (o.looksAt ops) vals++env0) o false=true:=by rfl) (hd:o.dst=some t:=by rfl) (h0:Re (get env0 t)=true:=by rfl)
  (hn:(vals.map (·.1)).contains t=false:=by rfl) (hr:Dd (Bz (o.looksAt ops) vals++env0)=true:=by rfl) (ht:okT C.nt t:=by rfl):DK P C ops H env0 vals (o::l) K :=
 let ⟨fin,h1,h2⟩:=h;⟨fin,.skip hd ht h0 hn hg hr (.inl rfl) h1,h2⟩
theorem dz {K:Env→Prop} (h:K vals) : DK P C ops H env0 vals [] K:=⟨vals,.nil vals,h⟩
theorem Ac {x:Operand} {d:DV} (ho:o.op=.move x:=by rfl) (hv:lk env x=.d d:=by rfl) : VOK P C o env H (.d d):=by
 obtain ⟨h1,h2⟩:=Av hv (by simp)
 have:=JL (P:=P) (C:=C) (env:=env) (H:=H) (.inl ho) h1 (by rw [h2];rfl) (by rw [h2];rfl)
 rw [h2] at this;exact .pv this
theorem Ya {x:Operand} {d:DV} (ho:o.op=.assign x:=by rfl) (hv:lk env x=.d d:=by rfl) : VOK P C o env H (.d d):=by
 obtain ⟨h1,h2⟩:=Av hv (by simp)
 have:=JL (P:=P) (C:=C) (env:=env) (H:=H) (.inr ho) h1 (by rw [h2];rfl) (by rw [h2];rfl)
 rw [h2] at this;exact .pv this
theorem Ej {s:Nat} {e:TypeId} {xs:List DV} (ho:o.op=.move (.tmp s):=by rfl) (hv:get env s=.own e xs:=by rfl) : VOK P C o env H (.ref (.t s) 0 xs.length) :=
 .rel (by simp [ho]) fun X a w I μ O _ hs=>⟨a.tmps.getD s undef,by simp [execOp,ho,Act.eval],rfl,RefRel.self (p:=.t s) hs hv rfl⟩
theorem Aq {c x y:Operand} {b:Bool} {d:DV} (ho:o.op=.pick c x y:=by rfl) (hc:lk env c=.d (.b b):=by rfl) (hv:lk env (if b then x else y)=.d d:=by rfl) : VOK P C o env H (.d d):=by
 obtain ⟨h1,h2⟩:=Av hv (by simp)
 obtain ⟨h3,h4⟩:=Av hc (by simp)
 have:=V9 (P:=P) (C:=C) (env:=env) (H:=H) ho h3 h4 h1 (by rw [h2];rfl) (by rw [h2];rfl)
 rw [h2] at this;exact .pv this
theorem Ip {op:BinOp} {xt yt:TypeId} {x y:Operand} {q q':IntKind} {m n:Int} {c:Prop} {d:DV} (hc:c) (ho:o.op=.binOp op xt x y yt:=by rfl)
  (hx:lk env x=.d (.i q m):=by rfl) (hy:lk env y=.d (.i q' n):=by rfl) (hb:Np op q m n=some (c,d):=by rfl) (hk:(decide (q'=q)||E8 op)=true:=by rfl):VOK P C o env H (.d d):=by
 obtain ⟨h1,h2⟩:=Av hx (by simp)
 obtain ⟨h3,h4⟩:=Av hy (by simp)
 exact .pv (VZ ho h1 h3 h2 h4 (by simpa using hk) hb hc)
theorem vbi {op:BinOp} {xt yt:TypeId} {x y:Operand} {q q':IntKind} {m n:Int} {d:DV} (ho:o.op=.binOp op xt x y yt:=by rfl)
  (hx:lk env x=.d (.i q m):=by rfl) (hy:lk env y=.d (.i q' n):=by rfl) (hb:Np op q m n=some (True,d):=by rfl) (hk:(decide (q'=q)||E8 op)=true:=by rfl):VOK P C o env H (.d d):=Ip trivial ho hx hy hb hk
theorem Th {op:BinOp} {xt yt:TypeId} {x y:Operand} {q q':IntKind} {m n:Int} {c:Prop} {d:DV} (d':DV) (hc:c∧d=d') (ho:o.op=.binOp op xt x y yt:=by rfl)
  (hx:lk env x=.d (.i q m):=by rfl) (hy:lk env y=.d (.i q' n):=by rfl) (hb:Np op q m n=some (c,d):=by rfl) (hk:(decide (q'=q)||E8 op)=true:=by rfl):VOK P C o env H (.d d'):=by
 obtain ⟨hc,rfl⟩:=hc;exact Ip hc ho hx hy hb hk
theorem vad {xt yt:TypeId} {x y:Operand} {q':IntKind} {m n:Int} (z:Int) (hz:m+n=z∧-9223372036854775808≤z∧z≤9223372036854775807) (ho:o.op=.binOp .add xt x y yt:=by rfl)
  (hx:lk env x=.d (.i .i64 m):=by rfl) (hy:lk env y=.d (.i q' n):=by rfl) (hk:q'=.i64:=by rfl):VOK P C o env H (.d (.i .i64 z)):=by
 obtain ⟨rfl,h1,h2⟩:=hz
 exact Th (.i .i64 (m+n)) ⟨trivial,by rw [HV h1 h2]⟩ ho hx hy rfl (by simp [hk])
theorem vsu {xt yt:TypeId} {x y:Operand} {q':IntKind} {m n:Int} (z:Int) (hz:m-n=z∧-9223372036854775808≤z∧z≤9223372036854775807) (ho:o.op=.binOp .sub xt x y yt:=by rfl)
  (hx:lk env x=.d (.i .i64 m):=by rfl) (hy:lk env y=.d (.i q' n):=by rfl) (hk:q'=.i64:=by rfl):VOK P C o env H (.d (.i .i64 z)):=by
 obtain ⟨rfl,h1,h2⟩:=hz
 exact Th (.i .i64 (m-n)) ⟨trivial,by rw [HV h1 h2]⟩ ho hx hy rfl (by simp [hk])
theorem YG {op:BinOp} {xt yt:TypeId} {x y:Operand} {b c:Bool} (hop:op=.eql∨op=.neq) (hu:P.underlying xt=some .bool) (ho:o.op=.binOp op xt x y yt:=by rfl)
  (hx:lk env x=.d (.b b):=by rfl) (hy:lk env y=.d (.b c):=by rfl):VOK P C o env H (.d (.b (if op=.eql then b == c else b != c))):=by
 obtain ⟨h1,h2⟩:=Av hx (by simp)
 obtain ⟨h3,h4⟩:=Av hy (by simp)
 exact .pv (Wr ho hop hu h1 h3 h2 h4)
theorem vnt {xt:TypeId} {x:Operand} {b:Bool} (ho:o.op=.unOp .not xt x:=by rfl) (hx:lk env x=.d (.b b):=by rfl) : VOK P C o env H (.d (.b (!b))):=by
 obtain ⟨h1,h2⟩:=Av hx (by simp)
 exact .pv (Yt ho h1 h2)
theorem vcv {src dst:Nat} {x:Operand} {q q1 q':IntKind} {n:Int} (hs:P.underlying src=some (.int q1)) (hd':P.underlying dst=some (.int q')) (ho:o.op=.convert src dst x:=by rfl) (hx:lk env x=.d (.i q n):=by rfl) :
  VOK P C o env H (.d (.i q' (q'.wrap n))):=.pv (Yi ho ⟨q1,hs⟩ hd' hx)
theorem Mp {src dst:Nat} {x:Operand} {q q1 q':IntKind} {n:Int} (n':Int) (hn:q'.wrap n=n') (hs:P.underlying src=some (.int q1)) (hd':P.underlying dst=some (.int q')) (ho:o.op=.convert src dst x:=by rfl) (hx:lk env x=.d (.i q n):=by rfl) :
  VOK P C o env H (.d (.i q' n')):=by subst hn;exact vcv hs hd' ho hx
theorem vln {c:Call} {x:Operand} {ty:Nat} {xs:List DV} (hsz:∃ sz,∀ x∈xs,x.cells.length=sz) (hu:P.underlying ty=some (.slice (P.elem ty))) (ho:o.op=.call c:=by rfl) (hc:c.callee=.builtin .len:=by rfl) (hx:c.args=#[x]:=by rfl)
  (hty:c.argTypes=#[ty]:=by rfl) (hv:rd env H (lk env x)=some xs:=by rfl):VOK P C o env H (.d (.i .i64 xs.length)):=.pv (Xw ho hc hx hty hu hv hsz)
theorem Xq {c:Call} {r ty off len:Nat} {p:Pl} (hu:P.underlying ty=some (.slice (P.elem ty))) (ho:o.op=.call c:=by rfl) (hc:c.callee=.builtin .len:=by rfl) (hx:c.args=#[.tmp r]:=by rfl) (hty:c.argTypes=#[ty]:=by rfl)
  (hv:get env r=.ref p off len:=by rfl):VOK P C o env H (.d (.i .i64 len)):=.pv ⟨by simp [ho],fun X a w I μ O _ hs=>⟨_,Sd ho hc hx hty hu hv hs,.of_rep (.i _ _)⟩⟩
theorem U8 {c:Call} {x:Operand} {ty:Nat} {s:ByteArray} (hu:P.underlying ty=some .string) (ho:o.op=.call c:=by rfl) (hc:c.callee=.builtin .len:=by rfl) (hx:c.args=#[x]:=by rfl)
  (hty:c.argTypes=#[ty]:=by rfl) (hv:lk env x=.d (.s s):=by rfl):VOK P C o env H (.d (.i .i64 s.size)):=.pv (Vk ho hc hx hty hu hv)
theorem vix {x i:Operand} {ty e sz by_:Nat} {xs:List DV} {q:IntKind} {z:Int} {d:DV} (n:Nat) (hn:z=n) (hx:xs[n]?=some d) (hsz:d.cells.length=sz) (hty:CB P ty=some (e,sz,by_)) (ho:o.op=.indexAddr ty x i:=by rfl)
  (hv:lk env x=.d (.sl xs):=by rfl) (hi:lk env i=.d (.i q z):=by rfl):VOK P C o env H (.d (.ptr d.cells)):=by
 subst hn
 have hl:n<xs.length:=(lS.1 hx).1
 have hg':xs.getD (n:Int).toNat default=d:=by simp [List.getD_eq_getElem?_getD,hx]
 obtain ⟨h1,h2⟩:=Av hv (by simp)
 obtain ⟨h3,h4⟩:=Av hi (by simp)
 have:=Vb (P:=P) (C:=C) (env:=env) (H:=H) ho h1 h3 hty h2 h4 (by omega) (by omega) (by rw [hg'];exact hsz)
 rw [hg'] at this;exact .pv this
theorem Aj {x:Operand} {ty:Nat} {d:DV} {cs:List DV} (hag:B1 P ty=some false) (ho:o.op=.load ty x:=by rfl) (hv:lk env x=.d (.ptr (d::cs)):=by rfl) : VOK P C o env H (.d d):=by
 obtain ⟨h1,h2⟩:=Av hv (by simp)
 exact .pv (Tu ho h1 hag h2 (by simp))
theorem G7 {s ty i j e:Nat} {p:Pl} {xs:List DV} (d:DV) (hx:∃ x,xs[i]?=some x∧x.cells[j]?=some d) (hag:B1 P ty=some false) (ho:o.op=.load ty (.tmp s):=by rfl) (hv:get env s=.ep p i j:=by rfl) (hp:AH env H p=.own e xs:=by rfl) :
  VOK P C o env H (.d d):=by
 obtain ⟨x,hx,hj⟩:=hx
 have:=Up (P:=P) (C:=C) (env:=env) (H:=H) ho (by simp [AD]) hag hv hp
 simp only [List.getD_eq_getElem?_getD,hx,hj,Option.getD_some] at this
 exact .pv this
theorem vsl {x:Operand} {ty e sz by_:Nat} {lo hi mx:Option Operand} {xs:List DV} {zl zh zm:Int} (l' h':Nat) (hb:zl=l'∧zh=h'∧l'≤h'∧zh≤zm∧zm≤xs.length) (hsz:∀ x∈xs,x.cells.length=sz) (hty:CB P ty=some (e,sz,by_))
  (ho:o.op=.slice ty x lo hi mx:=by rfl) (hv:lk env x=.d (.sl xs):=by rfl) (hl:FT env 0 (lo.map DW)=some zl:=by rfl) (hh:FT env xs.length (hi.map DW)=some zh:=by rfl) (hm:FT env zh (mx.map DW)=some zm:=by rfl)
  (hfl:CS lo (lo.map DW)=true:=by rfl) (hfh:CS hi (hi.map DW)=true:=by rfl) (hfm:CS mx (mx.map DW)=true:=by rfl) (hmh:(mx.isNone||hi.isSome)=true:=by rfl):VOK P C o env H (.d (.sl ((xs.drop l').take (h'-l')))):=by
 obtain ⟨rfl,rfl,h1,h2,h3⟩:=hb
 obtain ⟨k1,k2⟩:=Av hv (by simp)
 have:=UR (P:=P) (C:=C) (env:=env) (H:=H) ho k1 hfl hfh hfm hty k2 hl hh hm (by cases mx<;>cases hi<;>simp at hmh ⊢) (by omega) (by omega) h2 h3 hsz
 simp only [Int.toNat_natCast] at this
 exact .pv this
theorem vmx {c:Call} {x y:Operand} {q q':IntKind} {m n:Int} (ho:o.op=.call c:=by rfl) (hc:c.callee=.builtin .max:=by rfl) (hx:c.args=#[x,y]:=by rfl) (hxv:lk env x=.d (.i q m):=by rfl) (hyv:lk env y=.d (.i q' n):=by rfl) :
  VOK P C o env H (.d (.i q (if m<n then n else m))):=.pv (XS ho hc hx hxv hyv)
theorem FK {r:Nat} {i:Operand} {ty e sz by_ off len:Nat} {p:Pl} {xs:List DV} {q:IntKind} {z:Int} (n:Nat) (hn:z=n) (hl:n<len) (hty:CB P ty=some (e,sz,by_)) (hz:0<sz) (ho:o.op=.indexAddr ty (.tmp r) i:=by rfl)
  (hv:get env r=.ref p off len:=by rfl) (hp:AH env H p=.own e xs:=by rfl) (hi:lk env i=.d (.i q z):=by rfl):VOK P C o env H (.ep p (off+n) 0):=by
 subst hn
 obtain ⟨k3,k4⟩:=Av hi (by simp)
 refine .rel (by simp [ho]) fun X a w I μ O _ hs=>?_
 obtain ⟨inf,s1,s2,s3,_,s5⟩:=EJ hty
 have hni:=hs.look_i k3 k4
 have hrr:=hs.envr r
 rw [hv] at hrr
 obtain ⟨e',ys,A,m,c,g1,g2,g3,g4⟩:=hrr
 rw [hp] at g1;cases g1
 obtain ⟨v0,bs,f1,f2,_,_⟩:=hs.at_place hp
 rw [g2] at f1;cases f1
 obtain ⟨c1,c2,c3⟩:=Es f2
 obtain ⟨b,rfl⟩:=c3 (by omega)
 obtain ⟨A',c',q1,q2,q3,q4⟩:=g4
 have hA:(some (⟨b,0,none⟩:Addr)).map (·.add (off * Ay P e))=some ⟨b,off * Ay P e,none⟩:=by simp [CP]
 rw [q4 (by omega),hA] at q1
 have hc1:(n:Int)<(len:Int):=by omega
 refine ⟨.pointer (some ⟨b,(off+n) * Ay P e+0,none⟩),?_,rfl,e,xs,b,m,c,hp,g2,by omega,by omega,rfl⟩
 have he:a.eval (.tmp r)=.slice (some ⟨b,off * Ay P e,none⟩) len c':=q1
 simp [execOp,ho,he,hni,Instr.indexAt,asIntOf,run_underlying s1,hl,D6 s2,s3,CP,Nat.add_mul,s5]
theorem vcl {c:Call} {fo:Operand} {f:Nat} {first xs caps:List DV} {r:AV} (hfn:Fn P f (first++xs++caps) r) (hcall:∀ args w,(callFunc f args).run P w=.ok (.enter f args) w) (ho:o.op=.call c:=by rfl) (hc:c.callee=.value fo:=by rfl)
  (hfo:lk env fo=.d (.fn f first caps):=by rfl) (ha:argsD env c.args.toList=some xs:=by rfl) (hr:A5 r=false:=by rfl):VOK P C o env H r:=by
 intro X a w I μ O next Q h1 h2 h3 hs hn
 have hfr:=hs.deep (x:=fo) (v:=.fn f first caps) (by rw [hfo];rfl)
 generalize hev:a.eval fo=u at hfr
 cases hfr with
 | fn _ _ _ fs cs hfs hcs =>
  refine ⟨fun _ _=>trivial,?_⟩
  have hres:=Cp (P:=P) (w:=w) (ρ:=a.eval) (ty:=o.type) hc hev
  have hex:(execOp a.eval o).run P w=.ok (.enter f (fs.toArray++c.args.map a.eval++cs.toArray)) w:=by
   simp only [execOp,ho,Sem.run_bind,hres,Result.andThen_ok,invoke,hcall]
  rw [Oper.semAt_eq _ _ _ (by simp [ho]),hex,Oper.uponIn_enter]
  refine ⟨fun h=>(by simp [om] at h),?_⟩
  have hcl:=hfn w I _ hs.ilt ((hfs.append (hs.argsD ha)).append hcs)
  have e:(fs++c.args.toList.map a.eval++cs).toArray=fs.toArray++c.args.map a.eval++cs.toArray:=by
   apply Array.ext';simp
  rw [e] at hcl
  refine ⟨trivial,fun csF hroom=>?_⟩
  obtain ⟨e,w',fr,⟨v,I',bs,rfl,q1,q2,q3,q4,q5,q6⟩,s,x⟩:=hcl.2 csF (room_wide _)
  exact ⟨.returned v,w',fr,hn v w' I' bs q1 q2 q3 (OD (q4.keep (fun _ h=>h) (fun _ _=>rfl) (fun i b h=>by simp at h) fun _ _=>rfl) hr) q5 q6,s,x⟩
theorem FE {ty e sz by_ len:Nat} {z:Value} {parts:Array (Nat×Operand)} {xs:List Operand} {ds:List DV} (hsz:∀ d∈ds,d.flat=true∧d.cells.length=sz) (hT:Cz P ty=some (e,sz,by_,z))
  (ho:o.op=.buildSlice ty len parts:=by rfl) (hp:Iw 0 parts.toList=some xs:=by rfl) (hlen:xs.length=len:=by rfl) (ha:argsD env xs=some ds:=by rfl) (hsmall:len * sz≤16777216:=by decide):VOK P C o env H (.own e ds):=by
 intro X a w I μ O next Q h1 h2 h3 hs hn
 obtain ⟨i,i1,i2,i3,i4,i5,i6,i7,i8⟩:=Ds hT
 have hr:=hs.argsD ha
 obtain ⟨k1,k2⟩:=Se hr hsz
 have hdl:ds.length=len:=by rw [hr.length];simpa using hlen
 have hm:ds.length≤maxLen:=by
  rw [hdl]
  have:len≤16777216:=nT (Nat.le_mul_of_pos_right _ i7) hsmall
  simp only [maxLen];omega
 have hl:(xs.map a.eval).length=len:=by simpa using hlen
 have hrun:=FZ (P:=P) (w:=w) hT (vs:=xs.map a.eval) (by rw [hl];exact hsmall) k2
 have hparts:parts.map (fun (x:Nat×Operand)=>(x.1,a.eval x.2))=(((xs.map a.eval).zipIdx 0).map fun x=>(x.2,x.1)).toArray:=by
  apply Array.ext'
  rw [Array.toList_map,LF hp]
  simp [List.zipIdx_map]
 have hex:(execOp a.eval o).run P w=.ok (.value (.slice (some ⟨w.heap.size,0,none⟩) ds.length ds.length)) (w.alloc (.cells ((xs.map a.eval).flatMap (·.cells.toList)).toArray e)):=by
  simp only [execOp,ho,Sem.run_bind]
  rw [show (parts.map fun x=>match x with|(i,x)=>(i,a.eval x))=parts.map (fun (x:Nat×Operand)=>(x.1,a.eval x.2)) from rfl,hparts,hdl,← hl,hrun]
  simp only [Result.andThen_ok,Sem.run_pure]
 refine ⟨fun _ _=>trivial,?_⟩
 rw [Oper.semAt_eq _ _ _ (by simp [ho]),hex,Oper.uponIn_value]
 have hbel:Below w.heap.size w (w.alloc (.cells ((xs.map a.eval).flatMap (·.cells.toList)).toArray e)):=(Below.refl _ _).alloc (Nat.le_refl _) _
 have hl2:((xs.map a.eval).flatMap (·.cells.toList)).toArray.size=ds.length * Ay P e:=by rw [i8];simpa using k1.length
 have hbs:∀ b∈BA (.slice (some ⟨w.heap.size,0,none⟩) ds.length ds.length),b=w.heap.size:=fun b hb=>by
  simp only [BA] at hb
  split at hb<;>simp at hb
  exact hb
 refine hn _ _ I (BA (.slice (some ⟨w.heap.size,0,none⟩) ds.length ds.length)) hbel (fun _ h=>h) (fun b hi=>⟨by have:=hs.ilt b hi;simp;omega,fun _=>hi⟩) ?_ (GU _) fun b hb=>?_
 ·have:=ARep.own (P:=P) (μ:=μ) (I:=I) e ds (.slice (some ⟨w.heap.size,0,none⟩) ds.length ds.length) ((xs.map a.eval).flatMap (·.cells.toList)).toArray.toList (by omega)
   (.of <| World.ownsRow_lit w _ ds.length (base:=0) (e:=e) (Nat.zero_le _) hm hl2) (by
    rw [i8];simpa using k1.keep (fun b hi=>hbel.block b (hs.ilt b hi)) fun _ h=>h)
  exact this
 ·rw [hbs b hb]
  exact ⟨Nat.le_refl _,by simp,fun hi=>by have:=hs.ilt _ hi;omega⟩
end
end Go.FL
namespace Go.FL
open Go Go.RowKit Go.ChangeShapes Go.WideShapes Go.ChangeAt
section
variable {H:Type} {enc:TypeId×Value→H} {P:Program} {W W':World}
theorem NL (hl:laidOutB P=true) (hb:Below W.heap.size W W') {sp:Nat→Bool} : ∀ {ts:List TypeId} {vs:List Value} {ds:List (DataW H)} {ps:List MemPlace},(∀ t∈ts,P.readableRec t=true∧t<P.types.size) →
  DataW.TrodAll enc P W 0 (fun _=>true) true ts vs ds ps→(∀ x∈ps,x.block<W.heap.size)→(∀ x∈ps,sp x.block=true)→DataW.TrodAll enc P W' 0 sp true ts vs ds ps:=by
 intro ts
 induction ts with
 | nil =>
  intro vs ds ps _ h _ _
  obtain ⟨rfl,rfl,rfl⟩:=trodAll_nil h
  exact trodAll_mk0
 | cons t ts ih =>
  intro vs ds ps ht h hlt hsp
  obtain ⟨v,vs',d,ds',p,q,rfl,rfl,rfl,h1,h2⟩:=trodAll_cons h
  obtain ⟨hr,hrow⟩:=ht t (by simp)
  exact trodAll_cons_mk (WideElems.Trod_stays hl hr hrow h1 (fun x hx=>hb.same (hlt x (by simp [hx]))) fun x hx=>hsp x (by simp [hx]))
   (ih (fun t' ht'=>ht t' (by simp [ht'])) h2 (fun x hx=>hlt x (by simp [hx])) fun x hx=>hsp x (by simp [hx]))
theorem UW {f:Func} {s:ChangeSpec} {args:Array Value} {ds gs:List (DataW H)} {before:List MemPlace} {t:TypeId} (hW:DataW.Whole enc P f.params.toList s.vars false W args.toList ds gs before) (hv:s.vars=[])
  (hs:gs=[]→s.fn H (ds++gs)={results:=[.lit (.bool true)],args:=ds}) (hr:f.resultTypes=#[t]) (ht:P.underlying t=some .bool) (hl:laidOutB P=true) (hts:∀ t∈f.params.toList,P.readableRec t=true∧t<P.types.size) (hb:Below W.heap.size W W') :
  s.post enc P f false true false false W args (.bool true) W':=by
 have hold:∀ p∈before,p.block<W.heap.size:=hW.lt
 have hW0:=hW
 obtain ⟨p,q,hA,hV,rfl,hfz,_⟩:=hW
 rw [hv] at hV
 obtain ⟨rfl,rfl⟩:=trodVars_none hV
 have hs:=hs rfl
 have hbo:(fun b=>decide (b<W.heap.size))=(fun b=>decide (b<W.heap.size)):=rfl
 refine ⟨ds,[],p++[],[],p,[],hW0,?_,?_,?_,hb.frame _,fun h=>(by cases h)⟩
 ·rw [hs,hr]
  exact trodAll_cons_mk (shut_bool ht true) trodAll_mk0
 ·rw [hs]
  exact NL hl hb hts hA (fun x hx=>hold x (by simp [hx])) fun x hx=>by simpa using hold x (by simp [hx])
 ·rw [hs,hv];rfl
theorem WZ {t:TypeId} {k:IntKind} {v:Value} {d:DataW H} {ps:List MemPlace} (ht:P.underlying t=some (.int k)) (hval:Value.okWide P W .any 0 t v) (hd:DataW.Trod enc P W 0 (fun _=>true) true t v d ps) :
  ∃ n,(Lit.int k n).wf=true∧Rep W (fun b=>b<W.heap.size) (.i k n) v:=by
 obtain ⟨n,rfl,_,_,hw⟩:=open_int ht hval hd
 exact ⟨n,hw,.i k n⟩
theorem Tq {f:FuncId} {dvs:List DV} {vs:List Value} (h:Fn P f dvs (.d (.b true))) (hr:RepAll W (fun b=>b<W.heap.size) dvs vs) :
  Calls P f vs.toArray W fun e W'=>e=.returned (.bool true)∧Below W.heap.size W W':=by
 have:=h W _ vs (fun b hb=>hb) hr
 refine CallsIn.calls (this.mono fun e w' ⟨v,I',bs,h1,h2,_,_,h5,_⟩=>⟨?_,h2⟩) room_wide
 cases h5 with
 | d h5=>cases h5;exact h1
end
end Go.FL
namespace Go.FL
open Go Go.RowKit
def FnG (P:Program) (f:FuncId) (args:List AV) (H:Ad) (r:AV) (args':List AV) (H':Ad) : Prop :=
 ∀ (X:Snap) (w:World) (I:Nat→Prop) (μ:List Nat) (O:Nat→Option Loc) (vs:List Value) (bs:List Nat),X.w=w→X.I=I→X.n0=0→X.ne=H.length→X.μ=μ→Mem P X H w I μ O→ARepAll P w I μ args vs bs→bs.Nodup→(∀ b∈bs,O b=some .r) →
  CallsIn (om none) 0 P f vs.toArray w fun e w'=>∃ v I' μ' O' G rs bs',e=.returned v∧Mem P X (H'++G) w' I' μ' O'∧ARep P w' I' μ' r v rs∧ARepAll P w' I' μ' args' (vs.take args'.length) bs'∧(rs++bs').Nodup∧∀ b∈rs++bs',∃ n,O' b=some (.t n)
def QW : Nat→List AV→Env→Env
 | _,[],e=>e
 | k,a::r,e=>QW (k+1) r ((k,a)::e)
section
variable {P:Program} {C:Cx} {X:Snap} {o:Oper} {ops:Array Oper} {Q:Exit→Env→Ad→Prop} {env env':Env} {H H':Ad} {a:Act} {w w':World} {I I':Nat→Prop} {μ μ':List Nat} {O O':Nat→Option Loc}
 {K:Env→Ad→Prop} {k:Nat} {l:List Oper}
theorem Mem.cast {Y:Snap} (h:Mem P X H w I μ O) (e1:Y.w=X.w) (e2:Y.I=X.I) (e3:Y.K=X.K) (e4:Y.n0=X.n0) (e5:Y.ne=X.ne) (e6:Y.μ=X.μ) : Mem P Y H w I μ O:=by
 cases X;cases Y;simp only at e1 e2 e3 e4 e5 e6
 subst e1 e2 e3 e4 e5 e6
 exact ⟨h.prot,h.kO,h.kI,h.mono,h.os,h.tape,h.output,h.size,h.own,h.ilt,h.μlen,h.μpre,h.nle,h.heap,h.klt,h.n0le⟩
theorem Mem.lab (h:Mem P X H w I μ O) (hlt:∀ b l,O' b=some l→b<w.heap.size∧¬I b) (hK:∀ b,X.K b→O' b=none) (ho:∀ b id,O b=some (.o id)→O' b=some (.o id)) : Mem P X H w I μ O' where
 prot:=h.prot
 kO:=hK
 kI:=h.kI
 mono:=h.mono
 os:=h.os
 tape:=h.tape
 output:=h.output
 size:=h.size
 own:=hlt
 ilt:=h.ilt
 μlen:=h.μlen
 μpre:=h.μpre
 nle:=h.nle
 heap id o' ho':=by
  obtain ⟨blk,bs,h1,h2,h3,h4⟩:=h.heap id o' ho'
  exact ⟨blk,bs,h1,h2,fun hn=>⟨(h3 hn).1,fun b hb=>ho b id ((h3 hn).2 b hb)⟩,h4⟩
 klt:=h.klt
 n0le:=h.n0le
theorem Sim.adopt (hs:Sim P X env H a w I μ O) {t:Nat} {av:AV} {bs:List Nat} (hr:ARep P w I μ av (a.tmps.getD t undef) bs) (hn:bs.Nodup) (hb:∀ b∈bs,O b=some .r) (h0:Am (get env t)=false) :
  Sim P X ((t,av)::env) H a w I μ (fun b=>if b∈bs then some (.t t) else O b):=by
 have hO:∀ b l,O b=some l→l≠.r→(if b∈bs then some (Loc.t t) else O b)=some l:=fun b l h hl=>by
  rw [if_neg fun hm=>hl (by have:=hb b hm;rw [h] at this;exact oI this)];exact h
 refine ⟨hs.toMem.lab (fun b l h=>?_) (fun b hk=>?_) fun b id h=>hO b _ h (by simp),fun s=>?_,hs.nt,hs.dfs⟩
 ·by_cases hm:b∈bs
  ·exact hs.own b _ (hb b hm)
  ·rw [if_neg hm] at h;exact hs.own b l h
 ·rw [if_neg fun hm=>by have:=hs.kO b hk;rw [hb b hm] at this;cases this];exact hs.kO b hk
 ·by_cases hst:t=s
  ·subst hst
   have:get ((t,av)::env) t=av:=by simp [get]
   rw [this]
   exact .of hr hn fun b hm=>by simp [hm]
  ·have hg:get ((t,av)::env) s=get env s:=by simp [get,hst]
   rw [hg]
   have hpl:∀ p e xs,AH env H p=.own e xs→AH ((t,av)::env) H p=.own e xs:=by
    intro p e xs hx
    cases p with
    | t r =>
     show get _ r=_
     by_cases hr:t=r
     ·subst hr;rw [show AH env H (.t t)=get env t from rfl] at hx;rw [hx] at h0;cases h0
     ·simp only [get,if_neg hr];exact hx
    | c id off=>exact hx
   have h:=hs.envr s
   cases hgs:get env s with
   | ref p off len =>
    rw [hgs] at h
    obtain ⟨e,xs,A,n,c,h1,h2⟩:=h
    exact ⟨e,xs,A,n,c,hpl p e xs h1,h2⟩
   | ep p i k =>
    rw [hgs] at h
    obtain ⟨e,xs,b,n,c,h1,h2⟩:=h
    exact ⟨e,xs,b,n,c,hpl p e xs h1,h2⟩
   | _ =>
    rw [hgs] at h
    obtain ⟨bs',h1,h2,h3⟩:=h.plain rfl
    exact .of h1 h2 fun b hm=>hO b _ (h3 b hm) (by simp)
theorem Sim.adoptAll : ∀ {args:List AV} {vs:List Value} {bs:List Nat} {k:Nat} {env:Env} {O:Nat→Option Loc},Sim P X env H a w I μ O→ARepAll P w I μ args vs bs→bs.Nodup→(∀ b∈bs,O b=some .r) →
  (∀ t,k≤t→get env t=.un)→(∀ j v,vs[j]?=some v→a.tmps.getD (k+j) undef=v)→∃ O',Sim P X (QW k args env) H a w I μ O':=by
 intro args
 induction args with
 | nil=>intro vs bs k env O hs _ _ _ _ _;exact ⟨O,hs⟩
 | cons c cs ih =>
  intro vs bs k env O hs h hn hb he hv
  cases h with
  | @cons _ v _ vs b1 b2 h t =>
   have hnd:=List.nodup_append.1 hn
   have e0:a.tmps.getD k undef=v:=by have:=hv 0 v rfl;simpa using this
   have h1:=hs.adopt (t:=k) (by rw [e0];exact h) hnd.1 (fun b hm=>hb b (by simp [hm])) (by rw [he k (Nat.le_refl _)];rfl)
   refine ih h1 t hnd.2.1 (fun b hm=>?_) (fun s hs'=>?_) fun j u hj=>?_
   ·rw [if_neg fun hm'=>hnd.2.2 b hm' b hm rfl];exact hb b (by simp [hm])
   ·simp only [get]
    rw [if_neg (by omega)];exact he s (by omega)
   ·have:=hv (j+1) u (by simpa using hj)
    rw [← this];congr 1;omega
def Yk (rs:List ResultVar) (r:AV) (args':List AV) (H':Ad) : Exit→Env→Ad→Prop
 | .normal,env,H=>(∃ G,H=H'++G)∧Gy env r rs∧(∀ (i:Nat) c,args'[i]?=some c→get env i=c∧A5 c=false∧.tmp i∉rs)
 | .ret,env,H=>(∃ G,H=H'++G)∧Gy env r rs∧(∀ (i:Nat) c,args'[i]?=some c→get env i=c∧A5 c=false∧.tmp i∉rs)
 | _,_,_=>False
theorem Sim.gives (hs:Sim P X env H a w I μ O) {fn:Func} {rs:List ResultVar} (hrs:fn.results=rs.toArray) {r:AV} (h:Gy env r rs) :
  ∃ v bs,(Go.results fn a.tmps).run P w=.ok v w∧ARep P w I μ r v bs∧bs.Nodup∧∀ b∈bs,∃ t,O b=some (.t t)∧.tmp t∈rs:=by
 have one:∀ t,A5 (get env t)=false→∃ bs,ARep P w I μ (get env t) (a.tmps.getD t undef) bs∧bs.Nodup∧∀ b∈bs,O b=some (.t t):=fun t ht=>(hs.envr t).plain ht
 have dis:∀ {t u:Nat} {b1 b2:List Nat},t≠u→(∀ b∈b1,O b=some (.t t))→(∀ b∈b2,O b=some (.t u))→∀ x∈b1,∀ y∈b2,x≠y:=by
  intro t u b1 b2 h h1 h2 x hx y hy e
  have:=h1 x hx;rw [e,h2 y hy] at this;simp at this;exact h this.symm
 unfold Gy at h
 split at h
 ·subst h
  exact ⟨_,[],results_none (by rw [hrs]) _ _ _,.tup .nil,nN,by simp⟩
 ·obtain ⟨rfl,h2⟩:=h
  obtain ⟨bs,k1,k2,k3⟩:=one _ h2
  exact ⟨_,bs,results_tmp (by rw [hrs]) _ _ _,k1,k2,fun b hb=>⟨_,k3 b hb,by simp⟩⟩
 ·obtain ⟨hne,rfl,h2,h3⟩:=h
  obtain ⟨b1,k1,k2,k3⟩:=one _ h2
  obtain ⟨b2,m1,m2,m3⟩:=one _ h3
  refine ⟨_,_,results_tmp2 (by rw [hrs]) _ _ _,.tup (.cons k1 (.cons m1 .nil)),?_,?_⟩
  ·simp only [List.append_nil]
   exact List.nodup_append.2 ⟨k2,m2,dis hne k3 m3⟩
  ·intro b hb
   simp only [List.append_nil,List.mem_append] at hb
   rcases hb with hb|hb
   ·exact ⟨_,k3 b hb,by simp⟩
   ·exact ⟨_,m3 b hb,by simp⟩
 ·obtain ⟨⟨n1,n2,n3⟩,rfl,h2,h3,h4⟩:=h
  obtain ⟨b1,k1,k2,k3⟩:=one _ h2
  obtain ⟨b2,m1,m2,m3⟩:=one _ h3
  obtain ⟨b3,p1,p2,p3⟩:=one _ h4
  refine ⟨_,_,results_tmp3 (by rw [hrs]) _ _ _,.tup (.cons k1 (.cons m1 (.cons p1 .nil))),?_,?_⟩
  ·simp only [List.append_nil]
   refine List.nodup_append.2 ⟨k2,List.nodup_append.2 ⟨m2,p2,dis n3 m3 p3⟩,fun x hx y hy=>?_⟩
   rcases List.mem_append.1 hy with hy|hy
   ·exact dis n1 k3 m3 x hx y hy
   ·exact dis n2 k3 p3 x hx y hy
  ·intro b hb
   simp only [List.append_nil,List.mem_append] at hb
   rcases hb with hb|hb|hb
   ·exact ⟨_,k3 b hb,by simp⟩
   ·exact ⟨_,m3 b hb,by simp⟩
   ·exact ⟨_,p3 b hb,by simp⟩
 ·exact h.elim
theorem Sim.firsts (hs:Sim P X env H a w I μ O) (rs:List ResultVar) : ∀ {cs:List AV} {vs:List Value} (k:Nat),(∀ (i:Nat) c,cs[i]?=some c→get env (k+i)=c∧A5 c=false∧.tmp (k+i)∉rs)→(∀ (i:Nat),i<cs.length→vs[i]?=some (a.tmps.getD (k+i) undef)) →
  ∃ bs,ARepAll P w I μ cs (vs.take cs.length) bs∧bs.Nodup∧∀ b∈bs,∃ t,k≤t∧O b=some (.t t)∧.tmp t∉rs:=by
 intro cs
 induction cs with
 | nil=>intro vs k _ _;exact ⟨[],by simpa using ARepAll.nil,nN,by simp⟩
 | cons c cs ih =>
  intro vs k hc hv
  cases vs with
  | nil=>have:=hv 0 (by simp);simp at this
  | cons v vs =>
   have h0:=hv 0 (by simp)
   simp only [List.getElem?_cons_zero,Option.some.injEq,Nat.add_zero] at h0
   obtain ⟨q1,q2,q3⟩:=hc 0 c rfl
   simp only [Nat.add_zero] at q1 q3
   obtain ⟨b1,k1,k2,k3⟩:=(hs.envr k).plain (by rw [q1];exact q2)
   rw [q1] at k1
   obtain ⟨b2,m1,m2,m3⟩:=ih (vs:=vs) (k+1) (fun i c' hi=>by have:=hc (i+1) c' (by simpa using hi);rwa [show k+(i+1)=k+1+i by omega] at this)
    (fun i hi=>by have:=hv (i+1) (by simp;omega);rw [show k+(i+1)=k+1+i by omega] at this;simpa using this)
   refine ⟨b1++b2,?_,?_,fun b hb=>?_⟩
   ·simp only [List.length_cons,List.take_succ_cons]
    rw [h0];exact .cons k1 m1
   ·refine List.nodup_append.2 ⟨k2,m2,fun x hx y hy e=>?_⟩
    subst e
    obtain ⟨t,h1,h2,_⟩:=m3 x hy
    have:=k3 x hx
    rw [h2] at this;simp at this;omega
   ·rcases List.mem_append.1 hb with hb|hb
    ·exact ⟨k,Nat.le_refl _,k3 b hb,q3⟩
    ·obtain ⟨t,h1,h2⟩:=m3 b hb
     exact ⟨t,by omega,h2⟩
theorem FnG.of {f:FuncId} {fn:Func} {c:Code} {args args':List AV} {r:AV} {rs:List ResultVar} (lo nt:Nat) (hf:P.funcs[f]?=some fn) (hb:fn.body=some c) (hrs:fn.results=rs.toArray) (hnt:fn.ntmps=nt) (hn:args.length≤nt) (hlo:args'.length≤lo)
  (hlo':lo≤args.length) (h:AW P {nt:=(lo,nt),n0:=0,ne:=H.length} c (Yk rs r args' H') (QW 0 args []) H):FnG P f args H r args' H':=by
 intro X w I μ O vs bs e1 e2 e3 e4 e5 hm ha hnd hbO
 refine callsIn_of_wp hf hb trivial ?_
 have hlen:=ha.length
 let a:Act:={tmps:=vs.toArray++Array.replicate (fn.ntmps-vs.toArray.size) undef,defers:=[]}
 let Y:Snap:={X with nt:=(lo,nt),dfs:=[],args:=vs}
 have hat:∀ (j:Nat) (v:Value),vs[j]?=some v→a.tmps.getD j undef=v:=fun j v hj=>by
  have hjl:j<vs.length:=(lS.1 hj).1
  have e2:(vs.toArray++Array.replicate (fn.ntmps-vs.length) undef)[j]?=some v:=by
   rw [Array.getElem?_append_left (by simpa using hjl)];simpa using hj
  simp [a,e2]
 have hs0:Sim P Y [] H a w I μ O:=by
  refine ⟨hm.cast rfl rfl rfl rfl rfl rfl,fun t=>.un,by simp [a,Y,hnt];omega,rfl,fun t ht=>?_⟩
  have htl:t<vs.length:=by simp only [Y] at ht;omega
  rw [hat t vs[t] (lG htl)]
  simp [Y,List.getD_eq_getElem?_getD,htl]
 obtain ⟨O1,hs⟩:=hs0.adoptAll (k:=0) ha hnd hbO (fun _ _=>rfl) fun j v hj=>by rw [Nat.zero_add];exact hat j v hj
 have hw:=h Y a w I μ O1 rfl e3 e4 hs
 refine wpIn_mono hw fun e a' w' hp=>?_
 obtain ⟨env',He,I',μ',O',s,q⟩:=hp
 have fin:((∃ G,He=H'++G)∧Gy env' r rs∧(∀ (i:Nat) c,args'[i]?=some c→get env' i=c∧A5 c=false∧.tmp i∉rs))→a'.defers=[]∧∃ v,(results fn a'.tmps).run P w'=.ok v w' ∧
   ∃ v' I' μ' O' G rs bs',Ending.returned v=.returned v'∧Mem P X (H'++G) w' I' μ' O'∧ARep P w' I' μ' r v' rs∧ARepAll P w' I' μ' args' (vs.take args'.length) bs'∧(rs++bs').Nodup∧∀ b∈rs++bs',∃ n,O' b=some (.t n):=by
  rintro ⟨⟨G,rfl⟩,hres,hargs⟩
  obtain ⟨v,b1,h1,h2,h3,h4⟩:=s.gives hrs hres
  obtain ⟨b2,k1,k2,k3⟩:=s.firsts rs (cs:=args') (vs:=vs) 0 (fun i c hi=>by rw [Nat.zero_add];exact hargs i c hi) fun i hi=>by
   have htl:i<vs.length:=by omega
   rw [Nat.zero_add,s.dfs.2 i (by simp only [Y];omega)]
   simp [Y,List.getD_eq_getElem?_getD,htl]
  refine ⟨s.dfs.1,v,h1,v,I',μ',O',G,b1,b2,rfl,s.toMem.cast rfl rfl rfl rfl rfl rfl,h2,k1,?_,fun b hb=>?_⟩
  ·refine List.nodup_append.2 ⟨h3,k2,fun x hx y hy e=>?_⟩
   subst e
   obtain ⟨t,g1,g2⟩:=h4 x hx
   obtain ⟨t',_,g3,g4⟩:=k3 x hy
   rw [g1] at g3;simp at g3;subst g3
   exact g4 g2
  ·rcases List.mem_append.1 hb with hb|hb
   ·obtain ⟨t,g1,_⟩:=h4 b hb;exact ⟨t,g1⟩
   ·obtain ⟨t,_,g1,_⟩:=k3 b hb;exact ⟨t,g1⟩
 cases e with
 | normal=>exact fin q
 | ret=>exact fin q
 | _=>exact q.elim
end
end Go.FL
namespace Go.FL
open Go Go.RowKit
def Lo : AV→Bool
 | .ref (.c _ _) _ _=>true
 | .ep (.c _ _) _ _=>true
 | _=>false
def BQ (env:Env) : Bool:=env.any fun x=>Lo x.2
def argsA (env:Env) : List Operand→Option (List AV)
 | []=>some []
 | x::xs=>match argsA env xs with
  | some vs=>if noOwn (lk env x)&&!A5 (lk env x) then some (lk env x::vs) else none
  | none=>none
section
variable {P:Program} {C:Cx} {X:Snap} {o:Oper} {ops:Array Oper} {Q:Exit→Env→Ad→Prop} {env env':Env} {H H':Ad} {a:Act} {w w':World} {I I':Nat→Prop} {μ μ':List Nat} {O O':Nat→Option Loc}
 {K:Env→Ad→Prop} {k:Nat} {l:List Oper}
theorem H7 (h:BQ env=false) (t:Nat) : (∀ id off x y,get env t≠.ref (.c id off) x y)∧∀ id off x y,get env t≠.ep (.c id off) x y:=by
 constructor<;>intro id off x y hg
 ·have:=Fu hg (by simp)
  have h2:BQ env=true:=List.any_eq_true.2 ⟨_,this,rfl⟩
  rw [h] at h2;cases h2
 ·have:=Fu hg (by simp)
  have h2:BQ env=true:=List.any_eq_true.2 ⟨_,this,rfl⟩
  rw [h] at h2;cases h2
theorem Sim.over (hs:Sim P X env H a w I μ O) (hn0:X.n0=0) (hc:BQ env=false) (bs:List Nat) (hb:∀ b∈bs,O b=some .r) :
  ∃ (Y:Snap) (O2:Nat→Option Loc),Y.w=w∧Y.I=I∧Y.n0=0∧Y.ne=H.length∧Y.μ=μ∧Mem P Y H w I μ O2∧(∀ b∈bs,O2 b=some .r) ∧
   ∀ {w':World} {I':Nat→Prop} {μ':List Nat} {O':Nat→Option Loc} {Hn:Ad} {rs:List Nat},Mem P Y Hn w' I' μ' O'→(∀ b∈rs,∃ n,O' b=some (.t n))→∃ On,Sim P X env Hn a w' I' μ' On∧∀ b∈rs,On b=some .r:=by
 let Y:Snap:={X with w:=w,I:=I,n0:=0,ne:=H.length,μ:=μ,K:=fun b=>X.K b∨I b∨∃ t,O b=some (.t t)}
 let O2:Nat→Option Loc:=fun b=>if b∈bs then some .r else match O b with
  | some (.o id)=>some (.o id)
  | _=>none
 have hO2o:∀ b id,O b=some (.o id)→O2 b=some (.o id):=fun b id h=>by
  show (if b∈bs then _ else _)=_
  rw [if_neg fun hm=>by rw [hb b hm] at h;cases h];simp only [h]
 have hO2n:∀ b,b∉bs→(∀ id,O b≠some (.o id))→O2 b=none:=fun b h1 h2=>by
  show (if b∈bs then _ else _)=_
  rw [if_neg h1]
  split
  ·rename_i id hx;exact absurd hx (h2 id)
  ·rfl
 have hO2:∀ b l,O2 b=some l→∃ l',O b=some l':=fun b l h=>by
  by_cases hm:b∈bs
  ·exact ⟨_,hb b hm⟩
  ·cases hx:O b with
   | some l'=>exact ⟨l',rfl⟩
   | none=>rw [hO2n b hm (by rw [hx];simp)] at h;cases h
 have hKO:∀ b,Y.K b→(∀ id,O b≠some (.o id))∧b∉bs:=fun b hk=>by
  rcases hk with hk|hk|⟨t,hk⟩
  ·exact ⟨fun id h=>(by rw [hs.kO b hk] at h;cases h),fun hm=>by have:=hb b hm;rw [hs.kO b hk] at this;cases this⟩
  ·exact ⟨fun id h=>(hs.own b _ h).2 hk,fun hm=>(hs.own b _ (hb b hm)).2 hk⟩
  ·exact ⟨fun id h=>(by rw [hk] at h;simp at h),fun hm=>by have:=hb b hm;rw [hk] at this;simp at this⟩
 have hmem:Mem P Y H w I μ O2:={
  prot:=fun _ _=>rfl
  kO:=fun b hk=>hO2n b (hKO b hk).2 (hKO b hk).1
  kI:=fun _ _ h=>h
  mono:=fun _ h=>h
  os:=rfl,tape:=rfl,output:=rfl,size:=Nat.le_refl _
  own:=fun b l h=>by obtain ⟨l',h'⟩:=hO2 b l h;exact hs.own b l' h'
  ilt:=hs.ilt,μlen:=hs.μlen,μpre:=fun _ _ _ h=>h,nle:=Nat.le_refl _
  heap:=fun id o' ho'=>by
   obtain ⟨blk,ds,h1,h2,h3,_⟩:=hs.heap id o' ho'
   exact ⟨blk,ds,h1,h2,fun _=>⟨(h3 (by omega)).1,fun b hb'=>hO2o b id ((h3 (by omega)).2 b hb')⟩,fun h=>absurd h (by simp [Y])⟩
  klt:=fun b hk=>by
   rcases hk with hk|hk|⟨t,hk⟩
   ·exact nL (hs.klt b hk) hs.size
   ·exact hs.ilt b hk
   ·exact (hs.own b _ hk).1
  n0le:=Nat.zero_le _}
 refine ⟨Y,O2,rfl,rfl,rfl,rfl,rfl,hmem,fun b hm=>by show (if b∈bs then _ else _)=_;rw [if_pos hm],?_⟩
 intro w' I' μ' O' Hn rs hm hrs
 let On:Nat→Option Loc:=fun b=>if b∈rs then some .r else match O' b with
  | some (.o id)=>some (.o id)
  | _=>match O b with
   | some (.t t)=>some (.t t)
   | _=>none
 have hOt:∀ b t,O b=some (.t t)→On b=some (.t t)∧w'.heap[b]?=w.heap[b]?:=fun b t h=>by
  have hk:Y.K b:=.inr (.inr ⟨t,h⟩)
  have h0:=hm.kO b hk
  refine ⟨?_,hm.prot b hk⟩
  show (if b∈rs then _ else _)=_
  rw [if_neg fun hx=>by obtain ⟨n,hn⟩:=hrs b hx;rw [h0] at hn;cases hn]
  simp only [h0,h]
 have hOo:∀ b id,O' b=some (.o id)→On b=some (.o id):=fun b id h=>by
  show (if b∈rs then _ else _)=_
  rw [if_neg fun hx=>by obtain ⟨n,hn⟩:=hrs b hx;rw [h] at hn;simp at hn]
  simp only [h]
 have hII:∀ b,I b→w'.heap[b]?=w.heap[b]?:=fun b hi=>hm.prot b (.inr (.inl hi))
 have hμ:∀ (i b:Nat),μ[i]?=some b→μ'[i]?=some b:=fun i b h=>hm.μpre i b (by have:=(lS.1 h).1;have:=hs.μlen;simp only [Y];omega) h
 refine ⟨On,⟨{
  prot:=fun b hk=>(hm.prot b (.inl hk)).trans (hs.prot b hk)
  kO:=fun b hk=>by
   have h0:=hm.kO b (.inl hk)
   show (if b∈rs then _ else _)=_
   rw [if_neg fun hx=>by obtain ⟨n,hn⟩:=hrs b hx;rw [h0] at hn;cases hn]
   simp only [h0,hs.kO b hk]
  kI:=fun b hk hi=>hs.kI b hk (hm.kI b (.inl hk) hi)
  mono:=fun b hi=>hm.mono b (hs.mono b hi)
  os:=hm.os.trans hs.os,tape:=hm.tape.trans hs.tape,output:=hm.output.trans hs.output,size:=nT hs.size hm.size
  own:=fun b l hl=>by
   by_cases hx:b∈rs
   ·obtain ⟨n,hn⟩:=hrs b hx
    exact hm.own b _ hn
   ·have hl':(match O' b with
     | some (.o id)=>some (Loc.o id)
     | _=>match O b with
      | some (.t t)=>some (.t t)
      | _=>none)=some l:=by
     have:(if b∈rs then some Loc.r else _)=some l:=hl
     rwa [if_neg hx] at this
    split at hl'
    ·rename_i id h;exact hm.own b _ h
    ·split at hl'
     ·rename_i t h
      refine ⟨nL (hs.own b _ h).1 hm.size,fun hi=>(hs.own b _ h).2 (hm.kI b (.inr (.inr ⟨t,h⟩)) hi)⟩
     ·cases hl'
  ilt:=hm.ilt,μlen:=hm.μlen
  μpre:=fun i b hi h=>hμ i b (hs.μpre i b hi h)
  nle:=nT hs.nle hm.nle
  heap:=fun id o' ho'=>by
   obtain ⟨blk,ds,h1,h2,h3,_⟩:=hm.heap id o' ho'
   exact ⟨blk,ds,h1,h2,fun _=>⟨(h3 (Nat.zero_le _)).1,fun b hb'=>hOo b id ((h3 (Nat.zero_le _)).2 b hb')⟩,fun h=>by omega⟩
  klt:=hs.klt,n0le:=hs.n0le},fun t=>?_,hs.nt,hs.dfs⟩,fun b hx=>by show (if b∈rs then _ else _)=_;rw [if_pos hx]⟩
 have ht:=hs.envr t
 obtain ⟨c1,c2⟩:=H7 hc t
 cases hg:get env t with
 | ref p off len =>
  rw [hg] at ht
  obtain ⟨e,xs,A,n,c,g1,g2,g3⟩:=ht
  cases p with
  | t q=>exact ⟨e,xs,A,n,c,g1,g2,g3⟩
  | c id off'=>exact absurd hg (c1 _ _ _ _)
 | ep p i j =>
  rw [hg] at ht
  obtain ⟨e,xs,b,n,c,g1,g2,g3⟩:=ht
  cases p with
  | t q=>exact ⟨e,xs,b,n,c,g1,g2,g3⟩
  | c id off'=>exact absurd hg (c2 _ _ _ _)
 | _ =>
  rw [hg] at ht
  obtain ⟨ds,g1,g2,g3⟩:=ht.plain rfl
  exact .of (g1.keep hm.mono hII hμ fun b hb'=>(hOt b t (g3 b hb')).2) g2 fun b hb'=>(hOt b t (g3 b hb')).1
theorem Sim.argsA (hs:Sim P X env H a w I μ O) : ∀ {xs:List Operand} {avs:List AV},Go.FL.argsA env xs=some avs→ARepAll P w I μ avs (xs.map a.eval) []:=by
 intro xs
 induction xs with
 | nil=>intro avs h;simp [Go.FL.argsA] at h;subst h;exact .nil
 | cons x xs ih =>
  intro avs h
  simp only [Go.FL.argsA] at h
  split at h
  ·rename_i vs h1
   split at h
   ·rename_i h2
    simp only [Bool.and_eq_true,Bool.not_eq_true'] at h2
    simp only [Option.some.injEq] at h
    subst h
    obtain ⟨b1,hb1⟩:=hs.lk h2.2
    have:=noOwn_bs hb1 h2.1
    subst this
    exact .cons hb1 (ih h1)
   ·cases h
  ·cases h
theorem Ob {c:Call} {f:FuncId} (ho:o.op=.call c) (hc:c.callee=.value (.func f)) (hcall:∀ args w,(callFunc f args).run P w=.ok (.enter f args) w) :
  (execOp a.eval o).run P w=.ok (.enter f (c.args.toList.map a.eval).toArray) w:=by
 have hres:(resolve a.eval c o.type).run P w=.ok {target:=.fn (.func f) #[],args:=#[]++c.args.map a.eval} w:=Cp hc rfl
 simp only [execOp,ho,Sem.run_bind,hres,Result.andThen_ok,invoke,hcall]
 congr 2
 apply Array.ext';simp
theorem OpOK.callG {c:Call} {f:FuncId} {avs:List AV} {r:AV} (ho:o.op=.call c) (hc:c.callee=.value (.func f)) (ha:argsA env c.args.toList=some avs) (hcr:BQ env=false) (hn0:C.n0=0)
  (hcall:∀ args w,(callFunc f args).run P w=.ok (.enter f args) w) (hfn:FnG P f avs H r [] H') (hd:∀ t,o.dst=some t→okT C.nt t)
  (hK:∀ G,K (match o.dst with|some t=>put env t r|none=>env) (H'++G)):OpOK P C o env H K:=by
 intro X a w I μ O next Q h1 h2 h3 hs hn
 refine ⟨fun _ _=>trivial,?_⟩
 rw [Oper.semAt_eq _ _ _ (by simp [ho]),Ob ho hc hcall,Oper.uponIn_enter]
 refine ⟨fun h=>(by simp [om] at h),?_⟩
 obtain ⟨Y,O2,y1,y2,y3,y4,y5,ym,_,yk⟩:=hs.over (by omega) hcr [] (by simp)
 have hcl:=hfn Y w I μ O2 _ [] y1 y2 y3 y4 y5 ym (hs.argsA ha) nN (by simp)
 refine ⟨trivial,fun csF hroom=>?_⟩
 obtain ⟨e,w',fr,⟨v,I',μ',O',G,rs,bs',rfl,q1,q2,_,q4,q5⟩,s,x⟩:=hcl.2 csF (room_wide _)
 refine ⟨.returned v,w',fr,?_,s,x⟩
 obtain ⟨On,k1,k2⟩:=yk q1 (rs:=rs) fun b hb=>q5 b (by simp [hb])
 have hh:Hand P w' I' μ' On r v:=⟨rs,q2,(List.nodup_append.1 q4).1,k2⟩
 show next (a.put o.dst v) w'
 have hK:=hK G
 cases hdst:o.dst with
 | none=>exact hn _ _ _ _ _ _ _ k1 (by rw [hdst] at hK;exact hK)
 | some t=>exact hn _ _ _ _ _ _ _ (k1.put_hand (by rw [h1];exact hd t hdst) hh) (by rw [hdst] at hK;exact hK)
theorem OpOK.callG1 {c:Call} {f:FuncId} {avs:List AV} {r:AV} {s t0:Nat} {xa:List Operand} {e:TypeId} {xs xs':List DV} (ho:o.op=.call c) (hc:c.callee=.value (.func f)) (hx:c.args.toList=.tmp s::xa) (hv:get env s=.ref (.t t0) 0 xs.length) (hp:get env t0=.own e xs)
  (ha:argsA (put env t0 .un) xa=some avs) (hcr:BQ (put env t0 .un)=false) (hn0:C.n0=0)
  (hcall:∀ args w,(callFunc f args).run P w=.ok (.enter f args) w) (hfn:FnG P f (.own e xs::avs) H r [.own e xs'] H') (hd:∀ t,o.dst=some t→okT C.nt t)
  (hK:∀ G,K (match o.dst with|some t=>put ((t0,.own e xs')::put env t0 .un) t r|none=>(t0,.own e xs')::put env t0 .un) (H'++G)):OpOK P C o env H K:=by
 intro X a w I μ O next Q h1 h2 h3 hs hn
 refine ⟨fun _ _=>trivial,?_⟩
 rw [Oper.semAt_eq _ _ _ (by simp [ho]),Ob ho hc hcall,Oper.uponIn_enter]
 refine ⟨fun h=>(by simp [om] at h),?_⟩
 have hrs:=hs.envr s
 rw [hv] at hrs
 obtain ⟨e',ys,A,n,cc,g1,g2,g3,A',c',p1,p2,p3,p4⟩:=hrs
 have hee:AV.own e xs=.own e' ys:=hp.symm.trans g1
 cases hee
 obtain ⟨rfl,rfl⟩:=p3 rfl
 simp only [Bd,Option.some.injEq] at g2
 obtain ⟨k1,bs,k2,k3,k4⟩:=hs.take t0 (by rw [hp];rfl)
 rw [hp,g2] at k2
 have hnl:n=xs.length:=(Es k2).1
 subst hnl
 have hval:a.eval (.tmp s)=a.tmps.getD t0 undef:=by rw [g2];exact p1
 obtain ⟨Y,O2,y1,y2,y3,y4,y5,ym,yb,yk⟩:=k1.over (by omega) hcr bs k4
 have hargs:ARepAll P w I μ (.own e xs::avs) (c.args.toList.map a.eval) bs:=by
  rw [hx,List.map_cons,hval,g2]
  have:=ARepAll.cons k2 (k1.argsA ha)
  simpa using this
 have hcl:=hfn Y w I μ O2 _ bs y1 y2 y3 y4 y5 ym hargs k3 yb
 refine ⟨trivial,fun csF hroom=>?_⟩
 obtain ⟨e',w',fr,⟨v,I',μ',O',G,rs,bs',rfl,q1,q2,q3,q4,q5⟩,s',x⟩:=hcl.2 csF (room_wide _)
 refine ⟨.returned v,w',fr,?_,s',x⟩
 obtain ⟨On,m1,m2⟩:=yk q1 (rs:=rs++bs') q5
 obtain ⟨n1,n2,n3⟩:=List.nodup_append.1 q4
 have hq3:ARep P w' I' μ' (.own e xs') (a.tmps.getD t0 undef) bs':=by
  rw [hx,List.map_cons,hval] at q3
  simp only [List.length_cons,List.length_nil,Nat.zero_add,List.take_succ_cons,List.take_zero] at q3
  cases q3 with
  | cons h t=>cases t;simpa using h
 have j1:=m1.adopt hq3 n2 (fun b hb=>m2 b (by simp [hb])) (by simp [put,get,Am])
 have hh:Hand P w' I' μ' (fun b=>if b∈bs' then some (.t t0) else On b) r v:=⟨rs,q2,n1,fun b hb=>by show (if b∈bs' then _ else _)=_;rw [if_neg fun hm=>n3 b hb b hm rfl];exact m2 b (by simp [hb])⟩
 show next (a.put o.dst v) w'
 have hK:=hK G
 cases hdst:o.dst with
 | none=>exact hn _ _ _ _ _ _ _ j1 (by rw [hdst] at hK;exact hK)
 | some t=>exact hn _ _ _ _ _ _ _ (j1.put_hand (by rw [h1];exact hd t hdst) hh) (by rw [hdst] at hK;exact hK)
end
end Go.FL
namespace Go.FL
open Go Go.RowKit
section
variable {P:Program} {C:Cx} {X:Snap} {o:Oper} {ops:Array Oper} {Q:Exit→Env→Ad→Prop} {env env' envi:Env} {H H' H1:Ad} {a:Act} {w w':World} {I I':Nat→Prop} {μ μ':List Nat} {O O':Nat→Option Loc}
 {K:Env→Ad→Prop} {k:Nat} {l:List Oper} {av:AV}
theorem QN {m:Nat} {env0:Env} {tv:List (Nat×AV)} (hdr:∀ (i:Nat) o,i<m→ops[i]?=some o→∀ j,j<m→∃ oj t,ops[j]?=some oj∧oj.dst=some t∧(t∈o.looksAt ops→j<i∧EU ops i j=true)) (hlen:tv.length=m) (hle:m≤ops.size)
  (hone:∀ i,i<m→∃ o t v,ops[i]?=some o∧tv[i]?=some (t,v)∧NB P C ops H env0 (tv.take i).reverse o t v) (hdist:∀ (i j t:Nat) v u,tv[i]?=some (t,v)→tv[j]?=some (t,u)→i=j)
  (n1:X.nt=C.nt) (n2:X.n0=C.n0) (n3:X.ne=C.ne) {L:Array Bool} (hL:L.size=ops.size) {i:Nat} (him:i<m) (hi:i∈Region.ready .any ops L) {QQ:Exit→Act→World→Prop} {N:Act→World→Prop}
  (hs:Sim P X (Dl tv env0 L) H a w I μ O) (hN:∀ a' w' I' O',Sim P X (Dl tv env0 (L.setIfInBounds i true)) H a' w' I' μ O'→N a' w'):wpOpIn (om C.ro) 0 P ops QQ i N a w:=by
 obtain ⟨h1,o,ho,h2⟩:=mem_ready.1 hi
 have hlt:=(Array.getElem?_eq_some_iff.1 ho).1
 rw [B7 (by omega)] at h1
 obtain ⟨o',t,v,ho',htv,hd,htn,h0t,hnt,hself,hrk,hrun⟩:=hone i him
 rw [ho] at ho';cases ho'
 -- what it looks at is known
 have hdir:∀ (j s:Nat) u,tv[j]?=some (s,u)→s∈o.looksAt ops→L.getD j false=true:=fun j s u hj hm=>by
  have hjm:j<m:=by have:=(lS.1 hj).1;omega
  obtain ⟨oj,tj,q1,q2,q3⟩:=hdr i o him ho j hjm
  obtain ⟨oj',tj',vj',r1,r2,r3⟩:=hone j hjm
  rw [q1] at r1;cases r1
  rw [hj] at r2;cases r2
  have:tj=s:=by have:=r3.1;rw [q2] at this;exact oI this
  subst this
  obtain ⟨o2,ho2,e,he,hb,rfl⟩:=FP (q3 hm).2
  rw [ho] at ho2;cases ho2
  exact h2 e he hb
 have hle1:∀ s,get (Bz (o.looksAt ops) (tv.take i).reverse++env0) s=.un∨get (Bz (o.looksAt ops) (tv.take i).reverse++env0) s=get (Dl tv env0 L) s:=fun s=>by
  rw [Bk]
  split
  ·rename_i hc
   obtain ⟨x,hx,rfl⟩:=List.mem_map.1 (List.contains_iff_mem.1 hc)
   have hx':=List.mem_filter.1 hx
   have hin:=List.mem_reverse.1 hx'.1
   obtain ⟨j,hj⟩:=List.getElem?_of_mem (List.mem_of_mem_take hin)
   have hlk:x.1∈o.looksAt ops:=List.contains_iff_mem.1 hx'.2
   refine .inr ?_
   rw [BK hdist (hdir j x.1 x.2 hj hlk) hj]
   refine D5 hx fun u hu=>?_
   have hu':=List.mem_reverse.1 (List.mem_filter.1 hu).1
   obtain ⟨j',hj'⟩:=List.getElem?_of_mem (List.mem_of_mem_take hu')
   have:=hdist j j' x.1 x.2 u hj hj'
   subst this
   rw [hj] at hj'
   simp only [Option.some.injEq] at hj'
   rw [hj']
  ·by_cases hex:∃ (j:Nat) (u:AV),tv[j]?=some (s,u)
   ·obtain ⟨j,u,hj⟩:=hex
    have hjm:j<m:=by have:=(lS.1 hj).1;omega
    obtain ⟨oj,tj,vj,_,r2,r3⟩:=hone j hjm
    rw [hj] at r2;cases r2
    exact .inl r3.2.2.1
   ·exact .inr (Bt fun j u _ hj=>hex ⟨j,u,hj⟩).symm
 have hkn:∀ s,Am (get (Bz (o.looksAt ops) (tv.take i).reverse++env0) s)=true→get (Bz (o.looksAt ops) (tv.take i).reverse++env0) s=get (Dl tv env0 L) s:=fun s hs=>by
  rcases hle1 s with h|h
  ·rw [h] at hs;cases hs
  ·exact h
 have hle2:∀ s q off len,get (Bz (o.looksAt ops) (tv.take i).reverse++env0) s=.ref (.t q) off len→get (Bz (o.looksAt ops) (tv.take i).reverse++env0) q=get (Dl tv env0 L) q:=fun s q off len h=>by
  have:=List.all_eq_true.1 hrk _ (Fu h (by simp))
  exact hkn q (by simpa using this)
 have hle3:∀ s q x y,get (Bz (o.looksAt ops) (tv.take i).reverse++env0) s=.ep (.t q) x y→get (Bz (o.looksAt ops) (tv.take i).reverse++env0) q=get (Dl tv env0 L) q:=fun s q x y h=>by
  have:=List.all_eq_true.1 hrk _ (Fu h (by simp))
  exact hkn q (by simpa using this)
 have htL:get (Dl tv env0 L) t=.un:=by
  rw [Bt fun j u hl hj=>by
   have:=hdist i j t v u htv hj
   subst this;rw [h1] at hl;cases hl]
  exact h0t
 have hsi:=hs.less hle1 hle2 hle3
 have hnext:∀ a' w' I' O',Sim P X ((t,v)::Dl tv env0 L) H a' w' I' μ O'→N a' w':=fun a' w' I' O' hs'=>by
  refine hN a' w' I' O' (hs'.same fun s=>?_)
  ·simp only [get]
   split
   ·rename_i hts;subst hts
    exact BK hdist (by rw [AB (by omega),if_pos rfl]) htv
   ·rename_i hts
    by_cases hex:∃ (j:Nat) (u:AV),L.getD j false=true∧tv[j]?=some (s,u)
    ·obtain ⟨j,u,hj1,hj2⟩:=hex
     rw [BK hdist hj1 hj2]
     exact BK hdist (by rw [AB (by omega)];split<;>first|rfl|exact hj1) hj2
    ·rw [Bt fun j u hl hj=>hex ⟨j,u,hl,hj⟩]
     refine Bt fun j u hl hj=>?_
     rw [AB (by omega)] at hl
     split at hl
     ·rename_i hij;subst hij
      rw [htv] at hj;cases hj;exact hts rfl
     ·exact hex ⟨j,u,hl,hj⟩
 unfold wpOpIn
 simp only [ho]
 rcases hrun with ⟨hg,hv⟩|⟨hg,hv⟩
 ·rw [if_pos (HE hsi hg)]
  refine hv.step hd htn hle1 hle2 hle3 (by rw [htL];rfl) (fun p hp e=>?_) n1 n2 n3 hs hnext
  subst e
  rcases hp with ⟨off,len,rfl⟩|⟨x,y,rfl⟩<;>simp [HR] at hself
 ·have:=HE hsi hg
  rw [if_neg (by rw [this];simp)]
  refine ⟨fun _ _=>trivial,?_⟩
  rw [hd]
  rcases hv with rfl|rfl
  ·have hp:=hs.put_un t (by rw [n1];exact htn) undef
   rw [Al (by rw [htL];rfl)] at hp
   exact hnext _ _ _ _ hp
  ·have hp:=hs.put_hand (t:=t) (by rw [n1];exact htn) (av:=.tup []) (v:=undef) ⟨[],.tup .nil,nN,by simp⟩
   rw [Al (by rw [htL];rfl)] at hp
   exact hnext _ _ _ _ hp
def Jh (ops:Array Oper) (m:Nat) (F:List Nat) : Bool :=
 ((List.range ops.size).all fun i=>match ops[i]? with
  | some o=>o.after.all (fun e=>!Region.binds .any e||decide (e.on<i))&&(match o.op with|.select ..=>false|_=>true) &&
   (if i<m then (List.range m).all fun j=>match ops[j]? with
     | some oj=>match oj.dst with
      | some t=>!(o.looksAt ops).contains t||(decide (j<i)&&EU ops i j)
      | none=>false
     | none=>false
    else if i=m then (List.range m).all fun j=>F.contains j||Ja ops i i j
    else (List.range i).all fun j=>Ja ops i i j)
  | none=>false)&&decide (m<ops.size)&&o_guardNone ops m
where o_guardNone (ops:Array Oper) (m:Nat) : Bool:=match ops[m]? with
 | some o=>o.guard.isNone
 | none=>false
theorem JD {m:Nat} {F:List Nat} (h:Jh ops m F=true) : m<ops.size∧(∃ o,ops[m]?=some o∧o.guard=none)∧∀ (i:Nat) o,ops[i]?=some o →
  (∀ e∈o.after,Region.binds .any e=true→e.on<i) ∧
  (i<m→∀ j,j<m→∃ oj t,ops[j]?=some oj∧oj.dst=some t∧(t∈o.looksAt ops→j<i∧EU ops i j=true))∧(i=m→∀ j,j<i→j∈F∨Ja ops i i j=true)∧(m<i→∀ j,j<i→Ja ops i i j=true):=by
 unfold Jh at h
 simp only [Bool.and_eq_true,decide_eq_true_eq] at h
 obtain ⟨⟨h,hm⟩,hg⟩:=h
 refine ⟨hm,?_,fun i o ho=>?_⟩
 ·unfold Jh.o_guardNone at hg
  split at hg
  ·rename_i o ho;exact ⟨o,ho,by simpa using hg⟩
  ·cases hg
 have hi:i<ops.size:=(Array.getElem?_eq_some_iff.1 ho).1
 have:=List.all_eq_true.1 h i (List.mem_range.2 hi)
 rw [ho] at this
 simp only [Bool.and_eq_true] at this
 obtain ⟨⟨h1,_⟩,h3⟩:=this
 refine ⟨fun e he hb=>?_,fun him j hj=>?_,fun him j hj=>?_,fun him j hj=>?_⟩
 ·obtain ⟨k,hk,rfl⟩:=Array.mem_iff_getElem.1 he
  have:=Array.all_eq_true.1 h1 k hk
  rw [hb] at this
  simpa using this
 ·rw [if_pos him] at h3
  have:=List.all_eq_true.1 h3 j (List.mem_range.2 hj)
  split at this
  ·rename_i oj hoj
   split at this
   ·rename_i t ht
    refine ⟨oj,t,hoj,ht,fun hm=>?_⟩
    have hc:(o.looksAt ops).contains t=true:=List.contains_iff_mem.2 hm
    rw [hc] at this
    simpa using this
   ·cases this
  ·cases this
 ·rw [if_neg (by omega),if_pos him] at h3
  have:=List.all_eq_true.1 h3 j (List.mem_range.2 (by omega))
  simpa using this
 ·rw [if_neg (by omega),if_neg (by omega)] at h3
  exact List.all_eq_true.1 h3 j (List.mem_range.2 hj)
def Xp (P:Program) (C:Cx) (ops:Array Oper) (H1:Ad) (env0 upd:Env) (tv:List (Nat×AV)) (i:Nat) : Prop :=
 ∃ o t v,ops[i]?=some o∧tv[i]?=some (t,v)∧o.guard=none∧o.dst=some t∧(upd.map (·.1)).contains t=false∧Dd (upd++(Bz (o.looksAt ops) (tv.take i).reverse++env0))=true∧VOK P C o (upd++(Bz (o.looksAt ops) (tv.take i).reverse++env0)) H1 v
theorem V3 (upd e e':Env) (h:∀ t,get e t=get e' t) (t:Nat) : get (upd++e) t=get (upd++e') t:=by
 rw [Bk,Bk,h]
theorem X8 {m:Nat} {F:List Nat} {env0 upd:Env} {tv:List (Nat×AV)} (hok:Jh ops m F=true) (hlen:tv.length=m) (hone:∀ i,i<m→∃ o t v,ops[i]?=some o∧tv[i]?=some (t,v)∧NB P C ops H env0 (tv.take i).reverse o t v)
  (hdist:∀ (i j t:Nat) v u,tv[i]?=some (t,v)→tv[j]?=some (t,u)→i=j) (hF:∀ i∈F,Xp P C ops H1 env0 upd tv i) (hrk:Dd (upd++env0)=true) (hsuf:RL P C ops Q (m+1) (ops.toList.drop (m+1)) (upd++(tv.reverse++env0)) H1)
  (n1:X.nt=C.nt) (n2:X.n0=C.n0) (n3:X.ne=C.ne):∀ (fuel:Nat) (L:Array Bool) (a:Act) (w:World) (I:Nat→Prop) (O:Nat→Option Loc),L.size=ops.size→Rc ops L→L.getD m false=true→(∀ j,m<j→L.getD j false=false)→(∀ j,j<m→j∉F→L.getD j false=true) →
   (List.range m).countP (fun i=>!L.getD i false)+(ops.size-(m+1))≤fuel→Sim P X (upd++Dl tv env0 L) H1 a w I μ O→wpAnyIn (om C.ro) 0 P .any ops (Post P X Q) fuel L a w:=by
 obtain ⟨hm,_,hat⟩:=JD hok
 have fin:∀ (fuel:Nat) (L:Array Bool) (a:Act) (w:World) (I:Nat→Prop) (O:Nat→Option Loc),L.size=ops.size→L.getD m false=true→(∀ j,m<j→L.getD j false=false)→(∀ j,j<m→L.getD j false=true)→ops.size-(m+1)≤fuel →
   Sim P X (upd++Dl tv env0 L) H1 a w I μ O→wpAnyIn (om C.ro) 0 P .any ops (Post P X Q) fuel L a w:=by
  intro fuel L a w I O hL hmL hup hall hf hs
  refine Xc (m:=m+1) (fun i o ho=>(hat i o ho).1) (fun i o ho hi=>(hat i o ho).2.2.2 (by omega)) (ops.size-(m+1)) (m+1) fuel L a w (Nat.le_refl _) (by omega) hf hL (fun j hj=>⟨fun h=>?_,fun h=>?_⟩) ?_
  ·rcases Nat.lt_or_ge m j with hx|hx
   ·rw [hup j hx] at h;cases h
   ·omega
  ·rcases Nat.lt_or_ge j m with hx|hx
   ·exact hall j hx
   ·have:j=m:=by omega
    subst this;exact hmL
  have hs':=hs.same (env':=upd++(tv.reverse++env0)) fun t=>V3 upd _ _ (fun t=>by
   by_cases hex:∃ (i:Nat) (v:AV),tv[i]?=some (t,v)
   ·obtain ⟨i,v,hi⟩:=hex
    rw [BK hdist (hall i (by have:=(lS.1 hi).1;omega)) hi]
    have hmem:(t,v)∈tv.reverse:=List.mem_reverse.2 (List.mem_of_getElem? hi)
    rw [Bk,if_pos (List.contains_iff_mem.2 (List.mem_map_of_mem (f:=(·.1)) hmem))]
    refine D5 hmem fun u hu=>?_
    obtain ⟨j,hj⟩:=List.getElem?_of_mem (List.mem_reverse.1 hu)
    have:=hdist i j t v u hi hj
    subst this
    rw [hi] at hj;simp only [Option.some.injEq,Prod.mk.injEq,true_and] at hj;exact hj.symm
   ·rw [Bt fun i v _ hi=>hex ⟨i,v,hi⟩,Bk,if_neg]
    intro hc
    obtain ⟨x,hx,rfl⟩:=List.mem_map.1 (List.contains_iff_mem.1 hc)
    obtain ⟨i,hi⟩:=List.getElem?_of_mem (List.mem_reverse.1 hx)
    exact hex ⟨i,x.2,hi⟩) t
  have:=hsuf rfl X a w I μ O n1 n2 n3 hs'
  rw [List.length_drop,Array.length_toList] at this
  exact this
 intro fuel
 induction fuel with
 | zero =>
  intro L a w I O hL hD hmL hup hA hf hs
  refine fin 0 L a w I O hL hmL hup (fun j hj=>?_) (by omega) hs
  cases hv:L.getD j false with
  | true=>rfl
  | false =>
   have:0<(List.range m).countP (fun i=>!L.getD i false):=List.countP_pos_iff.2 ⟨j,List.mem_range.2 hj,by rw [hv];rfl⟩
   omega
 | succ fuel ih =>
  intro L a w I O hL hD hmL hup hA hf hs
  by_cases hall:∀ j,j<m→L.getD j false=true
  ·exact fin _ L a w I O hL hmL hup hall (by omega) hs
  obtain ⟨j0,⟨hj0,hj1⟩,hmin⟩:∃ j,(j<m∧L.getD j false=false)∧∀ k,k<j→L.getD k false=true:=by
   have hex:∃ j,j<m∧L.getD j false=false:=by
    apply Classical.byContradiction
    intro hno
    refine hall fun j hj=>?_
    cases hv:L.getD j false with
    | true=>rfl
    | false=>exact absurd ⟨j,hj,hv⟩ hno
   obtain ⟨j,hj⟩:=hex
   induction j using Nat.strongRecOn with
   | ind j ihj =>
    by_cases hk:∃ k,k<j∧L.getD k false=false
    ·obtain ⟨k,hk1,hk2⟩:=hk
     exact ihj k hk1 ⟨by omega,hk2⟩
    ·refine ⟨j,hj,fun k hk1=>?_⟩
     cases hv:L.getD k false with
     | true=>rfl
     | false=>exact absurd ⟨k,hk1,hv⟩ hk
  have hr0:j0∈Region.ready .any ops L:=mem_ready.2 ⟨by rw [B7 (by omega)];exact hj1,_,Array.getElem?_eq_getElem (by omega),fun e he hb=>hmin _ ((hat j0 _ (Array.getElem?_eq_getElem (by omega))).1 e he hb)⟩
  refine ⟨fun h0=>(by rw [h0] at hr0;cases hr0),fun i hi=>?_⟩
  obtain ⟨h1,o,ho,h2⟩:=mem_ready.1 hi
  have hlt:=(Array.getElem?_eq_some_iff.1 ho).1
  rw [B7 (by omega)] at h1
  have him:i<m:=by
   rcases Nat.lt_or_ge i m with hx|hx
   ·exact hx
   ·have hne:i≠m:=fun e=>by rw [e,hmL] at h1;cases h1
    have:=GD hD _ _ _ ((hat i o ho).2.2.2 (by omega) j0 (by omega)) fun o' ho' e he hb=>by rw [ho] at ho';cases ho';exact h2 e he hb
    rw [hj1] at this;cases this
  have hiF:i∈F:=by
   apply Classical.byContradiction
   intro h;rw [hA i him h] at h1;cases h1
  obtain ⟨o',t,v,ho',htv,hg,hd,hnu,hrk3,hv⟩:=hF i hiF
  rw [ho] at ho';cases ho'
  obtain ⟨o2,t2,v2,ho2,htv2,hd2,htn,h0t,hnt,hself,hrk2,hrun⟩:=hone i him
  rw [ho] at ho2;cases ho2
  rw [htv] at htv2
  simp only [Option.some.injEq,Prod.mk.injEq] at htv2
  obtain ⟨rfl,rfl⟩:=htv2
  have hdir:∀ (j s:Nat) u,tv[j]?=some (s,u)→s∈o.looksAt ops→L.getD j false=true:=fun j s u hj hmm=>by
   have hjm:j<m:=by have:=(lS.1 hj).1;omega
   obtain ⟨oj,tj,q1,q2,q3⟩:=(hat i o ho).2.1 him j hjm
   obtain ⟨oj',tj',vj',r1,r2,r3⟩:=hone j hjm
   rw [q1] at r1;cases r1
   rw [hj] at r2;cases r2
   have:tj=s:=by have:=r3.1;rw [q2] at this;exact oI this
   subst this
   obtain ⟨o2,ho2,e,he,hb,rfl⟩:=FP (q3 hmm).2
   rw [ho] at ho2;cases ho2
   exact h2 e he hb
  have hle1:∀ s,get (upd++(Bz (o.looksAt ops) (tv.take i).reverse++env0)) s=.un∨get (upd++(Bz (o.looksAt ops) (tv.take i).reverse++env0)) s=get (upd++Dl tv env0 L) s:=fun s=>by
   rw [Bk,Bk (e:=upd)]
   split
   ·exact .inr rfl
   ·rw [Bk]
    split
    ·rename_i hc
     obtain ⟨x,hx,rfl⟩:=List.mem_map.1 (List.contains_iff_mem.1 hc)
     have hx':=List.mem_filter.1 hx
     have hin:=List.mem_reverse.1 hx'.1
     obtain ⟨j,hj⟩:=List.getElem?_of_mem (List.mem_of_mem_take hin)
     have hlk:x.1∈o.looksAt ops:=List.contains_iff_mem.1 hx'.2
     refine .inr ?_
     rw [BK hdist (hdir j x.1 x.2 hj hlk) hj]
     refine D5 hx fun u hu=>?_
     have hu':=List.mem_reverse.1 (List.mem_filter.1 hu).1
     obtain ⟨j',hj'⟩:=List.getElem?_of_mem (List.mem_of_mem_take hu')
     have:=hdist j j' x.1 x.2 u hj hj'
     subst this
     rw [hj] at hj'
     simp only [Option.some.injEq] at hj'
     rw [hj']
    ·by_cases hex:∃ (j:Nat) (u:AV),tv[j]?=some (s,u)
     ·obtain ⟨j,u,hj⟩:=hex
      obtain ⟨oj,tj,vj,_,r2,r3⟩:=hone j (by have:=(lS.1 hj).1;omega)
      rw [hj] at r2;cases r2
      exact .inl r3.2.2.1
     ·exact .inr (Bt fun j u _ hj=>hex ⟨j,u,hj⟩).symm
  have hkn:∀ s,Am (get (upd++(Bz (o.looksAt ops) (tv.take i).reverse++env0)) s)=true→get (upd++(Bz (o.looksAt ops) (tv.take i).reverse++env0)) s=get (upd++Dl tv env0 L) s:=fun s hs=>by
   rcases hle1 s with h|h
   ·rw [h] at hs;cases hs
   ·exact h
  have htL:get (Dl tv env0 L) t=.un:=by
   rw [Bt fun j u hl hj=>by
    have:=hdist i j t v u htv hj
    subst this;rw [h1] at hl;cases hl]
   exact h0t
  have htL2:get (upd++Dl tv env0 L) t=.un:=by rw [Bk,if_neg (by rw [hnu];simp)];exact htL
  unfold wpOpIn
  simp only [ho]
  rw [if_pos (by simp [Region.wanted,hg])]
  refine hv.step hd htn hle1 (fun s q off len h=>?_) (fun s q x y h=>?_) (by rw [htL2];rfl) (fun p hp e=>?_) n1 n2 n3 hs fun a' w' I' O' hs'=>?_
  ·have:=List.all_eq_true.1 hrk3 _ (Fu h (by simp))
   exact hkn q (by simpa using this)
  ·have:=List.all_eq_true.1 hrk3 _ (Fu h (by simp))
   exact hkn q (by simpa using this)
  ·subst e
   rcases hp with ⟨off,len,rfl⟩|⟨x,y,rfl⟩<;>simp [HR] at hself
  refine ih _ a' w' I' O' (by simpa using hL) (fun k ok hk hok' e he hb=>?_) (by rw [AB (by omega)];split<;>first|rfl|exact hmL) (fun j hj=>?_) (fun j hj hjF=>?_) ?_ (hs'.same fun s=>?_)
  ·rw [AB (by omega)] at hk ⊢
   split at hk
   ·rename_i hik;subst hik
    rw [ho] at hok';cases hok'
    split
    ·rfl
    ·exact h2 e he hb
   ·split
    ·rfl
    ·exact hD k ok hk hok' e he hb
  ·rw [AB (by omega),if_neg (by omega)];exact hup j hj
  ·rw [AB (by omega)]
   split
   ·rfl
   ·exact hA j hj hjF
  ·have:=H9 (fun i=>!L.getD i false) (fun k=>!(L.setIfInBounds i true).getD k false) i (by simp only [h1];rfl) (by simp only [AB (by omega:i<L.size),if_true];rfl)
    (fun j hj=>by simp only [AB (by omega:i<L.size)];rw [if_neg (Ne.symm hj)]) (List.range m) (List.mem_range.2 him) List.nodup_range
   omega
  ·simp only [get]
   rw [Bk,Bk]
   by_cases hts:t=s
   ·subst hts
    rw [if_pos rfl,if_neg (by rw [hnu];simp)]
    exact BK hdist (by rw [AB (by omega),if_pos rfl]) htv
   ·rw [if_neg hts]
    split
    ·rfl
    ·by_cases hex:∃ (j:Nat) (u:AV),L.getD j false=true∧tv[j]?=some (s,u)
     ·obtain ⟨j,u,hj1,hj2⟩:=hex
      rw [BK hdist hj1 hj2]
      exact BK hdist (by rw [AB (by omega)];split<;>first|rfl|exact hj1) hj2
     ·rw [Bt fun j u hl hj=>hex ⟨j,u,hl,hj⟩]
      refine Bt fun j u hl hj=>?_
      rw [AB (by omega)] at hl
      split at hl
      ·rename_i hij;subst hij
       rw [htv] at hj;cases hj;exact hts rfl
      ·exact hex ⟨j,u,hl,hj⟩
theorem XP {m:Nat} {F:List Nat} {env0 upd:Env} {tv:List (Nat×AV)} (hok:Jh ops m F=true) (hlen:tv.length=m) (hone:∀ i,i<m→∃ o t v,ops[i]?=some o∧tv[i]?=some (t,v)∧NB P C ops H env0 (tv.take i).reverse o t v)
  (hdist:∀ (i j t:Nat) v u,tv[i]?=some (t,v)→tv[j]?=some (t,u)→i=j) (hF:∀ i∈F,Xp P C ops H1 env0 upd tv i) (hrk:Dd (upd++env0)=true)
  (hst:∀ om e,ops[m]?=some om→(∀ t,(∀ i∈F,∀ v,tv[i]?≠some (t,v))→get e t=get (tv.reverse++env0) t)→OpOK P C om e H fun e' H'=>e'=upd++e∧H'=H1)
  (hsuf:RL P C ops Q (m+1) (ops.toList.drop (m+1)) (upd++(tv.reverse++env0)) H1)
  (n1:X.nt=C.nt) (n2:X.n0=C.n0) (n3:X.ne=C.ne):∀ (fuel:Nat) (L:Array Bool) (a:Act) (w:World) (I:Nat→Prop) (O:Nat→Option Loc),L.size=ops.size→Rc ops L→(∀ j,m≤j→L.getD j false=false) →
   (List.range m).countP (fun i=>!L.getD i false)+(ops.size-m)≤fuel→Sim P X (Dl tv env0 L) H a w I μ O→wpAnyIn (om C.ro) 0 P .any ops (Post P X Q) fuel L a w:=by
 obtain ⟨hm,⟨om',hom,hog⟩,hat⟩:=JD hok
 intro fuel
 induction fuel with
 | zero=>intro L a w I O hL hD hup hf hs;omega
 | succ fuel ih =>
  intro L a w I O hL hD hup hf hs
  -- the least that is not listed, up to the store
  obtain ⟨j0,⟨hj0,hj1⟩,hmin⟩:∃ j,(j≤m∧L.getD j false=false)∧∀ k,k<j→L.getD k false=true:=by
   have hex:∃ j,j≤m∧L.getD j false=false:=⟨m,Nat.le_refl _,hup m (Nat.le_refl _)⟩
   obtain ⟨j,hj⟩:=hex
   induction j using Nat.strongRecOn with
   | ind j ihj =>
    by_cases hk:∃ k,k<j∧L.getD k false=false
    ·obtain ⟨k,hk1,hk2⟩:=hk
     exact ihj k hk1 ⟨by omega,hk2⟩
    ·refine ⟨j,hj,fun k hk1=>?_⟩
     cases hv:L.getD k false with
     | true=>rfl
     | false=>exact absurd ⟨k,hk1,hv⟩ hk
  have hr0:j0∈Region.ready .any ops L:=mem_ready.2 ⟨by rw [B7 (by omega)];exact hj1,_,Array.getElem?_eq_getElem (by omega),fun e he hb=>hmin _ ((hat j0 _ (Array.getElem?_eq_getElem (by omega))).1 e he hb)⟩
  refine ⟨fun h0=>(by rw [h0] at hr0;cases hr0),fun i hi=>?_⟩
  obtain ⟨h1,o,ho,h2⟩:=mem_ready.1 hi
  have hlt:=(Array.getElem?_eq_some_iff.1 ho).1
  rw [B7 (by omega)] at h1
  have hpred:∀ o',ops[i]?=some o'→∀ e∈o'.after,Region.binds .any e=true→L.getD e.on false=true:=fun o' ho' e he hb=>by rw [ho] at ho';cases ho';exact h2 e he hb
  rcases Nat.lt_trichotomy i m with him|him|him
  ·refine QN (fun i o hi ho=>(hat i o ho).2.1 hi) hlen (by omega) hone hdist n1 n2 n3 hL him hi hs fun a' w' I' O' hs'=>?_
   refine ih _ a' w' I' O' (by simpa using hL) (fun k ok hk hok' e he hb=>?_) (fun j hj=>?_) ?_ hs'
   ·rw [AB (by omega)] at hk ⊢
    split at hk
    ·rename_i hik;subst hik
     rw [ho] at hok';cases hok'
     split
     ·rfl
     ·exact h2 e he hb
    ·split
     ·rfl
     ·exact hD k ok hk hok' e he hb
   ·rw [AB (by omega),if_neg (by omega)];exact hup j hj
   ·have:=H9 (fun i=>!L.getD i false) (fun k=>!(L.setIfInBounds i true).getD k false) i (by simp only [h1];rfl) (by simp only [AB (by omega:i<L.size),if_true];rfl)
     (fun j hj=>by simp only [AB (by omega:i<L.size)];rw [if_neg (Ne.symm hj)]) (List.range m) (List.mem_range.2 him) List.nodup_range
    omega
  ·subst him
   have hA:∀ j,j<i→j∉F→L.getD j false=true:=fun j hj hjF=>by
    rcases (hat i o ho).2.2.1 rfl j hj with h|h
    ·exact absurd h hjF
    ·exact GD hD _ _ _ h hpred
   have hev:∀ t,(∀ i∈F,∀ v,tv[i]?≠some (t,v))→get (Dl tv env0 L) t=get (tv.reverse++env0) t:=fun t ht=>by
    by_cases hex:∃ (j:Nat) (v:AV),tv[j]?=some (t,v)
    ·obtain ⟨j,v,hj⟩:=hex
     have hjF:j∉F:=fun h=>ht j h v hj
     rw [BK hdist (hA j (by have:=(lS.1 hj).1;omega) hjF) hj]
     have hmem:(t,v)∈tv.reverse:=List.mem_reverse.2 (List.mem_of_getElem? hj)
     rw [Bk,if_pos (List.contains_iff_mem.2 (List.mem_map_of_mem (f:=(·.1)) hmem))]
     refine (D5 hmem fun u hu=>?_).symm
     obtain ⟨j',hj'⟩:=List.getElem?_of_mem (List.mem_reverse.1 hu)
     have:=hdist j j' t v u hj hj'
     subst this
     rw [hj] at hj';simp only [Option.some.injEq,Prod.mk.injEq,true_and] at hj';exact hj'.symm
    ·rw [Bt fun j v _ hj=>hex ⟨j,v,hj⟩,Bk,if_neg]
     intro hc
     obtain ⟨x,hx,rfl⟩:=List.mem_map.1 (List.contains_iff_mem.1 hc)
     obtain ⟨j,hj⟩:=List.getElem?_of_mem (List.mem_reverse.1 hx)
     exact hex ⟨j,x.2,hj⟩
   rw [hom] at ho;cases ho
   unfold wpOpIn
   simp only [hom]
   rw [if_pos (by simp [Region.wanted,hog])]
   refine hst om' _ hom hev X a w I μ O _ _ n1 n2 n3 hs fun env' H' a' w' I' μ' O' hs' hK=>?_
   obtain ⟨rfl,rfl⟩:=hK
   have heL:Dl tv env0 (L.setIfInBounds i true)=Dl tv env0 L:=by
    have hfm:∀ (l:List Nat),(∀ j∈l,j<i)→l.filterMap (fun j=>if (L.setIfInBounds i true).getD j false=true then tv[j]? else none)=l.filterMap fun j=>if L.getD j false=true then tv[j]? else none:=by
     intro l
     induction l with
     | nil=>intro _;rfl
     | cons x l ihl =>
      intro hx
      have:=hx x (by simp)
      have e1:=AB (L:=L) (i:=i) (j:=x) (by omega)
      rw [if_neg (by omega)] at e1
      simp only [List.filterMap_cons,e1,ihl fun j hj=>hx j (by simp [hj])]
    unfold Dl
    rw [hfm _ fun j hj=>by have:=List.mem_range.1 hj;omega]
   rw [← heL] at hs'
   refine X8 hok hlen hone hdist hF hrk hsuf n1 n2 n3 fuel _ a' w' I' O' (by simpa using hL) (fun k ok hk hok' e he hb=>?_) (by rw [AB (by omega),if_pos rfl]) (fun j hj=>?_) (fun j hj hjF=>?_) ?_ hs'
   ·rw [AB (by omega)] at hk ⊢
    split at hk
    ·rename_i hik;subst hik
     rw [hom] at hok';cases hok'
     split
     ·rfl
     ·exact h2 e he hb
    ·split
     ·rfl
     ·exact hD k ok hk hok' e he hb
   ·rw [AB (by omega),if_neg (by omega)];exact hup j (by omega)
   ·rw [AB (by omega),if_neg (by omega)];exact hA j hj hjF
   ·have:(List.range i).countP (fun k=>!(L.setIfInBounds i true).getD k false)=(List.range i).countP (fun k=>!L.getD k false):=List.countP_congr fun j hj=>by
     have:=List.mem_range.1 hj
     rw [AB (by omega),if_neg (by omega)]
    omega
  ·exfalso
   have:=GD hD _ _ _ ((hat i o ho).2.2.2 him m him) hpred
   rw [hup m (Nat.le_refl _)] at this;cases this
theorem AW.drawnF {id:Nat} (m:Nat) (F:List Nat) {env0:Env} (upd:Env) (H1:Ad) (hm:P.follows .mixedOrders=true) (hok:Jh ops m F=true) (hrk:Dd (upd++env0)=true)
  (h:DK P C ops H env0 [] (ops.toList.take m) fun fin=>(∀ i∈F,Xp P C ops H1 env0 upd fin.reverse i) ∧
   (∀ om e,ops[m]?=some om→(∀ t,(∀ i∈F,∀ v,fin.reverse[i]?≠some (t,v))→get e t=get (fin++env0) t)→OpOK P C om e H fun e' H'=>e'=upd++e∧H'=H1) ∧
   RL P C ops Q (m+1) (ops.toList.drop (m+1)) (upd++(fin++env0)) H1):AW P C (.region id ops true) Q env0 H:=fun X a w I μ O n1 n2 n3 hs=>by
 obtain ⟨fin,hDL,hF,hst,hsuf⟩:=h
 obtain ⟨tv,k1,k2,k3⟩:=hDL.table
 rw [List.append_nil] at k2
 subst k2
 rw [List.reverse_reverse] at hF hst
 obtain ⟨hle,_,_⟩:=JD hok
 have hlen:tv.length=m:=by rw [k1];simp;omega
 refine wpIn_region_any hm ?_
 have hz:∀ j,(Array.replicate ops.size false).getD j false=false:=fun j=>by
  simp only [Array.getD_eq_getD_getElem?,Array.getElem?_replicate]
  split<;>rfl
 have hs':Sim P X (Dl tv env0 (Array.replicate ops.size false)) H a {w with drawn:=w.drawn+1} I μ O :=
  (hs.grow (w':={w with drawn:=w.drawn+1}) ⟨rfl,rfl,rfl,Nat.le_refl _,fun _ _=>rfl⟩).same fun t=>Bt fun i v h=>by
   rw [hz] at h;cases h
 have hone:∀ i,i<m→∃ o t v,ops[i]?=some o∧tv[i]?=some (t,v)∧NB P C ops H env0 (tv.take i).reverse o t v:=fun i hi=>by
  have ho:ops[i]?=some ops[i]:=Array.getElem?_eq_getElem (by omega)
  obtain ⟨t,v,m1,m2⟩:=k3 i ops[i] (by rw [List.getElem?_take_of_lt hi];simp)
  exact ⟨_,t,v,ho,m1,by simpa using m2⟩
 have hdist:∀ (i j t:Nat) v u,tv[i]?=some (t,v)→tv[j]?=some (t,u)→i=j:=by
  have lt:∀ (i j t:Nat) v u,tv[i]?=some (t,v)→tv[j]?=some (t,u)→¬i<j:=fun i j t v u hi hj hij=>by
   have hjm:j<m:=by have:=(lS.1 hj).1;omega
   obtain ⟨o,t',v',_,k1,k2⟩:=hone j hjm
   rw [hj] at k1;cases k1
   refine k2.2.2.2.1 (t,v) ?_ rfl
   rw [List.mem_reverse]
   exact List.mem_of_getElem? (by rw [List.getElem?_take_of_lt hij];exact hi)
  intro i j t v u hi hj
  have h1:=lt i j t v u hi hj
  have h2:=lt j i t u v hj hi
  omega
 refine XP hok hlen hone hdist hF hrk hst hsuf n1 n2 n3 ops.size _ a _ I O (by simp) (fun i o h=>by rw [hz] at h;cases h) (fun j _=>hz j) ?_ hs'
 have h1:=List.countP_le_length (p:=fun i=>!(Array.replicate ops.size false).getD i false) (l:=List.range m)
 rw [List.length_range] at h1
 omega
end
end Go.FL
namespace Go.FL
open Go Go.RowKit
def MP (id off:Nat) (env:Env) : Bool:=env.all fun x=>match x.2 with
 | .ref (.c i o) _ _=>!(i == id&&o == off)
 | .ep (.c i o) _ _=>!(i == id&&o == off)
 | _=>true
section
variable {P:Program} {C:Cx} {X:Snap} {o:Oper} {ops:Array Oper} {Q:Exit→Env→Ad→Prop} {env env':Env} {H H':Ad} {a:Act} {w w':World} {I I':Nat→Prop} {μ μ':List Nat} {O O':Nat→Option Loc}
 {K:Env→Ad→Prop} {k:Nat} {l:List Oper}
theorem Mj {id off:Nat} (h:MP id off env=true) (t:Nat) : clr (.c id off) (get env t)=get env t:=by
 cases hg:get env t with
 | ref p x y =>
  cases p with
  | t q=>rfl
  | c i o' =>
   have:=List.all_eq_true.1 h _ (Fu hg (by simp))
   simp only [Bool.not_eq_true',Bool.and_eq_false_iff,beq_eq_false_iff_ne,ne_eq] at this
   simp only [clr]
   rw [if_neg]
   intro e;cases e
   rcases this with h|h<;>exact h rfl
 | ep p x y =>
  cases p with
  | t q=>rfl
  | c i o' =>
   have:=List.all_eq_true.1 h _ (Fu hg (by simp))
   simp only [Bool.not_eq_true',Bool.and_eq_false_iff,beq_eq_false_iff_ne,ne_eq] at this
   simp only [clr]
   rw [if_neg]
   intro e;cases e
   rcases this with h|h<;>exact h rfl
 | _=>rfl
theorem UA {x:Operand} (h:∀ q,x≠.tmp q) (e e':Env) : lk e x=lk e' x:=by
 have h1:∀ s,DW x≠.t s:=by
  intro s hs
  unfold DW at hs
  split at hs<;>first|(cases hs;done)|(rename_i q;exact h q rfl)
 have h2:look e (DW x)=look e' (DW x):=by
  cases hx:DW x with
  | t s=>exact absurd hx (h1 s)
  | _=>rfl
 unfold lk
 split
 ·rename_i q;exact absurd rfl (h q)
 ·rfl
 ·rw [h2]
theorem Qx {e e':Env} (h:∀ q,A5 (get e q)=false→get e' q=get e q) : ∀ {xs:List Operand} {avs:List AV},argsA e xs=some avs→argsA e' xs=some avs:=by
 intro xs
 induction xs with
 | nil=>intro avs h;exact h
 | cons x xs ih =>
  intro avs ha
  simp only [argsA] at ha ⊢
  split at ha
  ·rename_i vs h1
   rw [ih h1]
   split at ha
   ·rename_i h2
    have hl:lk e' x=lk e x:=by
     cases x with
     | tmp q =>
      simp only [Bool.and_eq_true,Bool.not_eq_true'] at h2
      exact h _ h2.2
     | _=>exact UA (by simp) _ _
    simp only [hl,h2,if_true];exact ha
   ·cases ha
  ·cases ha
theorem ldb {x:Operand} {ty t id off:Nat} {cs:List AV} {c:AV} (hH:H[id]?=some (.box cs)) (hc:cs[off]?=some c) (h:RL P C ops Q (k+1) l ((t,c)::env) H) (hag:B1 P ty=some false) (hg:grd ops env o true=true:=by rfl) (ho:o.op=.load ty x:=by rfl)
  (hv:lk env x=.bp id off:=by rfl) (hn:noOwn c=true:=by rfl) (hd:o.dst=some t:=by rfl) (hf:Am (get env t)=false:=by rfl) (ht:okT C.nt t:=by rfl):RL P C ops Q k (o::l) env H:=by
 obtain ⟨h1,h2⟩:=Av hv (by simp)
 rw [← Al hf] at h
 exact .go hg (SV ho h1 hd ht hag h2 hH hc hn h)
theorem L2 {x:Operand} {ty t id off:Nat} {cs:List AV} {e:TypeId} {xs:List DV} (hH:H[id]?=some (.box cs)) (hc:cs[off]?=some (.own e xs)) (h:RL P C ops Q (k+1) l ((t,.ref (.c id off) 0 xs.length)::env) H) (hag:B1 P ty=some false)
  (hg:grd ops env o true=true:=by rfl) (ho:o.op=.load ty x:=by rfl) (hv:lk env x=.bp id off:=by rfl) (hd:o.dst=some t:=by rfl) (hf:Am (get env t)=false:=by rfl) (ht:okT C.nt t:=by rfl):RL P C ops Q k (o::l) env H:=by
 obtain ⟨h1,h2⟩:=Av hv (by simp)
 rw [← Al hf] at h
 exact .go hg (NC ho h1 hd ht hag h2 hH hc h)
theorem stb {x y:Operand} {ty id off:Nat} {cs:List AV} {c:AV} {v:DV} (hH:H[id]?=some (.box cs)) (hc:cs[off]?=some c) (h:RL P C ops Q (k+1) l env (H.set id (.box (cs.set off (.d v))))) (hsz:Ay P ty=1) (hg:grd ops env o true=true:=by rfl)
  (ho:o.op=.store ty x y:=by rfl) (hv:lk env x=.bp id off:=by rfl) (hy:lk env y=.d v:=by rfl) (hl:v.leaf=true:=by rfl) (hn:Am c=false:=by rfl) (hd:o.dst=none:=by rfl) (h0:C.n0=0:=by rfl):RL P C ops Q k (o::l) env H:=by
 obtain ⟨h1,h2⟩:=Av hv (by simp)
 obtain ⟨h3,h4⟩:=Av hy (by simp)
 refine .go hg (Oa ho h1 h3 hd hsz h2 hH hc (by omega) (by rw [h4];exact hl) (.inl (by rw [h4];rfl)) ?_)
 have e1:ML env (DW y)=env:=by
  cases hx:DW y with
  | t s=>rw [hx] at h4;simp only [ML];rw [show get env s=_ from h4];rfl
  | _=>rfl
 rw [hn,h4,e1]
 simpa [Fj,Ei,hH] using h
theorem Ny {x:Operand} {r ty id off:Nat} {cs:List AV} {c:AV} {e:TypeId} {xs:List DV} (hH:H[id]?=some (.box cs)) (hc:cs[off]?=some c) (h:RL P C ops Q (k+1) l ((r,.un)::env) (H.set id (.box (cs.set off (.own e xs))))) (hsz:Ay P ty=1) (hg:grd ops env o true=true:=by rfl)
  (ho:o.op=.store ty x (.tmp r):=by rfl) (hv:lk env x=.bp id off:=by rfl) (hy:get env r=.own e xs:=by rfl) (hnc:MP id off env=true:=by rfl) (hr:Dr r env=false:=by rfl) (hd:o.dst=none:=by rfl) (h0:C.n0=0:=by rfl):RL P C ops Q k (o::l) env H:=by
 obtain ⟨h1,h2⟩:=Av hv (by simp)
 refine .go hg (Oa (ay:=.t r) ho h1 (by simp [AD]) hd hsz h2 hH hc (by omega) (by show one (get env r)=true;rw [hy];rfl) (.inr ⟨r,rfl⟩) ?_)
 have e2:Ei H id off (look env (.t r))=H.set id (.box (cs.set off (.own e xs))):=by
  show Ei H id off (get env r)=_
  rw [hy];simp [Ei,hH]
 rw [e2]
 refine RL.gh (Gh.same fun t=>?_) h
 have e3:ML env (.t r)=put env r .un:=by simp [ML,hy,noOwn]
 rw [JS,e3,Du hr]
 split
 ·simp only [get]
  split
  ·rfl
  ·exact (Mj hnc t).symm
 ·rfl
theorem fab {x:Operand} {s f t off n id p:Nat} (h:RL P C ops Q (k+1) l ((t,.bp id (p+off))::env) H) (hf':Bs P s f=some (off,n)) (hn:0<n) (hg:grd ops env o true=true:=by rfl) (ho:o.op=.fieldAddr s x f:=by rfl)
  (hv:lk env x=.bp id p:=by rfl) (hd:o.dst=some t:=by rfl) (hf:Am (get env t)=false:=by rfl) (ht:okT C.nt t:=by rfl):RL P C ops Q k (o::l) env H:=by
 obtain ⟨h1,h2⟩:=Av hv (by simp)
 rw [← Al hf] at h
 exact .go hg (S2 ho h1 hd ht hf' hn h2 h)
theorem ncb {x:Operand} {t id p:Nat} (h:RL P C ops Q (k+1) l ((t,.bp id p)::env) H) (hg:grd ops env o true=true:=by rfl) (ho:o.op=.nilCheck x:=by rfl)
  (hv:lk env x=.bp id p:=by rfl) (hd:o.dst=some t:=by rfl) (hf:Am (get env t)=false:=by rfl) (ht:okT C.nt t:=by rfl):RL P C ops Q k (o::l) env H:=by
 obtain ⟨h1,h2⟩:=Av hv (by simp)
 rw [← Al hf] at h
 exact .go hg (YM ho h1 hd ht (.inl ⟨id,p,h2⟩) (by rw [h2];exact h))
theorem al {ty t:Nat} {z:Value} {cs:List AV} (h:RL P C ops Q (k+1) l ((t,.bp H.length 0)::env) (H++[.box cs])) (hz:∀ w,(zeroValue ty).run P w=.ok z w) (hcs:∀ w I μ,ARepAll P w I μ cs z.cells.toList [])
  (hg:grd ops env o true=true:=by rfl) (ho:o.op=.alloc ty:=by rfl) (hd:o.dst=some t:=by rfl) (hf:Am (get env t)=false:=by rfl) (ht:okT C.nt t:=by rfl):RL P C ops Q k (o::l) env H:=by
 rw [← Al hf] at h
 refine .go hg (.val (env':=env) (H':=H++[.box cs]) (by simp [ho]) hd ht (fun X a w I μ O _ _ _ hs=>?_) h)
 obtain ⟨μ',O',q1,q2⟩:=hs.box (cs:=cs) (vs:=z.cells.toList) ⟨[],hcs w I μ,nN,by simp⟩ ty
 refine ⟨.pointer (some ⟨w.heap.size,0,none⟩),_,I,μ',O',?_,q1,q2⟩
 simp only [execOp,ho,Instr.alloc,Sem.run_bind,hz,Result.andThen_ok,Ez,Sem.run_pure,Array.toArray_toList]
theorem apc {c:Call} {y:Operand} {r t id off ty e sz by_ len:Nat} {z:Value} {cs:List AV} {xs ys:List DV} (hH:H[id]?=some (.box cs)) (hcs:cs[off]?=some (.own e xs)) (hb:len+ys.length≤9223372036854775807∧(len+ys.length) * by_≤140737488355328)
  (h:RL P C ops Q (k+1) l ((t,.own e (xs.take len++ys))::(r,.un)::env) (H.set id (.box (cs.set off .un)))) (hsz:∀ x∈ys,x.cells.length=sz) (hT:Cz P ty=some (e,sz,by_,z)) (hg:grd ops env o true=true:=by rfl) (ho:o.op=.call c:=by rfl)
  (hc:c.callee=.builtin .append:=by rfl) (hx:c.args=#[.tmp r,y]:=by rfl) (hty:c.argTypes=#[ty,ty]:=by rfl) (hv:get env r=.ref (.c id off) 0 len:=by rfl) (hy:rd env H (lk env y)=some ys:=by rfl) (hd:o.dst=some t:=by rfl)
  (hf:Am (get env t)=false:=by rfl) (hnc:MP id off ((r,.un)::env.filter fun x=>x.1 != r)=true:=by rfl) (ht:okT C.nt t:=by rfl) (h0:C.n0=0:=by rfl):RL P C ops Q k (o::l) env H:=by
 refine .go hg (Qy ho hc hx hty hd ht (by simp [AD]) hT hv hH hcs (by omega) hy hsz (by simpa [maxLen] using hb.1) hb.2 ?_)
 have h1:Am (get (Ju (.c id off) env) t)=false:=by rw [EM,N9];exact hf
 rw [Al h1,show Ei H id off .un=H.set id (.box (cs.set off .un)) by simp [Ei,hH]]
 refine RL.gh (Gh.same fun q=>?_) h
 simp only [get,EM]
 split
 ·rfl
 ·split
  ·rename_i hq;subst hq;rw [hv];simp [clr]
  ·rename_i hq
   have hfl:∀ env:Env,get (env.filter fun x=>x.1 != r) q=get env q:=fun env=>by
    induction env with
    | nil=>rfl
    | cons x xs ih =>
     obtain ⟨u,v⟩:=x
     by_cases hu:u=r
     ·subst hu;simp [get,ih,hq]
     ·have hu':(u != r)=true:=by simpa using hu
      rw [List.filter_cons_of_pos (by exact hu')]
      simp only [get,ih]
   have:=Mj hnc q
   simpa [get,hq,hfl] using this.symm
theorem clg {c:Call} {f t:Nat} {avs:List AV} {r:AV} (h:∀ G,RL P C ops Q (k+1) l ((t,r)::env) (H'++G)) (hfn:FnG P f avs H r [] H') (hcall:∀ args w,(callFunc f args).run P w=.ok (.enter f args) w)
  (hg:grd ops env o true=true:=by rfl) (ho:o.op=.call c:=by rfl) (hc:c.callee=.value (.func f):=by rfl) (ha:argsA env c.args.toList=some avs:=by rfl) (hcr:BQ env=false:=by rfl) (hd:o.dst=some t:=by rfl)
  (hf:Am (get env t)=false:=by rfl) (ht:okT C.nt t:=by rfl) (h0:C.n0=0:=by rfl):RL P C ops Q k (o::l) env H:=by
 refine .go hg (OpOK.callG ho hc ha hcr h0 hcall hfn (fun t' h'=>by rw [hd] at h';cases h';exact ht) fun G=>?_)
 rw [hd]
 show RL P C ops Q (k+1) l (put env t r) (H'++G)
 rw [Al hf];exact h G
theorem YO {c:Call} {f t s t0:Nat} {avs:List AV} {r:AV} {xa:List Operand} {e:TypeId} {xs:List DV} (xs':List DV) (h:∀ G,RL P C ops Q (k+1) l ((t,r)::(t0,.own e xs')::(s,.un)::env) (H'++G)) (hfn:FnG P f (.own e xs::avs) H r [.own e xs'] H')
  (hcall:∀ args w,(callFunc f args).run P w=.ok (.enter f args) w) (hg:grd ops env o true=true:=by rfl) (ho:o.op=.call c:=by rfl) (hc:c.callee=.value (.func f):=by rfl) (hx:c.args.toList=.tmp s::xa:=by rfl)
  (hv:get env s=.ref (.t t0) 0 xs.length:=by rfl) (hp:get env t0=.own e xs:=by rfl) (ha:argsA ((t0,.un)::env) xa=some avs:=by rfl) (hcr:BQ env=false:=by rfl) (hr:Dr t0 ((s,.un)::env.filter fun x=>x.1 != s)=false:=by rfl) (hd:o.dst=some t:=by rfl)
  (hf:Am (get env t)=false:=by rfl) (hst:s≠t0:=by decide) (htt:t≠t0:=by decide) (ht:okT C.nt t:=by rfl) (h0:C.n0=0:=by rfl):RL P C ops Q k (o::l) env H:=by
 have hput:put env t0 .un=(t0,.un)::Ju (.t t0) env:=by simp [put,hp,Am]
 have hget:∀ q,get (put env t0 .un) q=get ((t0,.un)::(s,.un)::env) q:=fun q=>by
  rw [hput]
  simp only [get,EM]
  split
  ·rfl
  ·split
   ·rename_i hq;subst hq;rw [hv];simp [clr]
   ·rename_i hq;exact Ml hr q (Ne.symm hq)
 have hcr':BQ (put env t0 .un)=false:=by
  rw [hput]
  cases hx:BQ ((t0,AV.un)::Ju (.t t0) env) with
  | false=>rfl
  | true =>
   obtain ⟨y,hy,hy2⟩:=List.any_eq_true.1 hx
   rcases List.mem_cons.1 hy with rfl|hy
   ·cases hy2
   ·obtain ⟨z,hz,rfl⟩:=List.mem_map.1 hy
    have hcl:∀ v,Lo (clr (.t t0) v)=true→Lo v=true:=fun v hv=>by
     cases v<;>first|exact hv|(simp only [clr] at hv;split at hv<;>first|(cases hv;done)|exact hv)
    have:BQ env=true:=List.any_eq_true.2 ⟨z,hz,hcl _ hy2⟩
    rw [hcr] at this;cases this
 have ha':argsA (put env t0 .un) xa=some avs:=Qx (fun q hq=>by
  rw [hget]
  simp only [get] at hq ⊢
  split
  ·rfl
  ·rename_i h1
   rw [if_neg h1] at hq
   split
   ·rename_i h2;subst h2;rw [hv] at hq;cases hq
   ·rfl) ha
 refine .go hg (OpOK.callG1 ho hc hx hv hp ha' hcr' h0 hcall hfn (fun t' h'=>by rw [hd] at h';cases h';exact ht) fun G=>?_)
 rw [hd]
 show RL P C ops Q (k+1) l (put ((t0,.own e xs')::put env t0 .un) t r) (H'++G)
 have h1:Am (get ((t0,.own e xs')::put env t0 .un) t)=false:=by
  simp only [get]
  rw [if_neg (Ne.symm htt),hget]
  simp only [get]
  rw [if_neg (Ne.symm htt)]
  split
  ·rfl
  ·exact hf
 rw [Al h1]
 refine RL.gh (Gh.same fun q=>?_) (h G)
 simp only [get]
 split
 ·rfl
 ·split
  ·rfl
  ·rw [hget]
   simp only [get]
   rename_i h2
   rw [if_neg h2]
end
end Go.FL
namespace Go.FL
open Go Go.RowKit
def It (P:Program) (f:FuncId) (caps:List DV) (ys:List (List DV)) : Prop :=
 ∀ (l:Nat) (W:World) (I:Nat→Prop) (cv:List Value) (J:Nat→World→Prop),(∀ k W',J k W'→∀ b,I b→W'.heap[b]?=W.heap[b]?)→RepAll W I caps cv →
  (∀ k W1 ds vs,J k W1→ys[k]?=some ds→RepAll W1 I ds vs→YieldAt (om none) 0 P l vs.toArray W1 fun e W'=>e=.returned (.bool true)∧J (k+1) W')→J 0 W →
  CallsIn (om none) 0 P f (#[.func (.yield l) #[] #[]]++cv.toArray) W fun e W'=>(∃ v,e=.returned v)∧J ys.length W'
def Marks (K:Nat→Prop) (w:World) (I:Nat→Prop) (O:Nat→Option Loc) (ms:List Deferred) : Prop :=
 ms.Nodup∧∀ m∈ms,∃ D,m={target:=.collected D,args:=#[]}∧w.heap[D]?=some (.deferred (some []))∧O D=none∧¬I D∧¬K D
theorem Marks.nil {K:Nat→Prop} {w:World} {I:Nat→Prop} {O:Nat→Option Loc} : Marks K w I O []:=⟨nN,fun m hm=>by simp at hm⟩
def PostM (P:Program) (X:Snap) (Q:Exit→Env→Ad→Prop) : Exit→Act→World→Prop:=fun e a w =>
 ∃ env H I μ O ms,Sim P {X with dfs:=ms++X.dfs} env H a w I μ O∧Q e env H∧Marks X.K w I O ms
def AWM (P:Program) (C:Cx) (c:Code) (Q:Exit→Env→Ad→Prop) (env:Env) (H:Ad) : Prop :=
 ∀ X a w I μ O,X.nt=C.nt→X.n0=C.n0→X.ne=C.ne→Sim P X env H a w I μ O→c.wpIn (om C.ro) 0 P (PostM P X Q) a w
section
variable {P:Program} {C:Cx} {X:Snap} {Q:Exit→Env→Ad→Prop} {env env':Env} {H H':Ad} {a:Act} {w w':World} {I I':Nat→Prop} {μ μ':List Nat} {O O':Nat→Option Loc}
theorem Sim.recast {Y:Snap} (hs:Sim P X env H a w I μ O) (hm:Mem P Y H w I μ O) (h1:Y.nt=X.nt) (h2:Y.dfs=X.dfs) (h3:Y.args=X.args) : Sim P Y env H a w I μ O :=
 ⟨hm,hs.envr,by rw [h1];exact hs.nt,by rw [h1,h2,h3];exact hs.dfs⟩
theorem Post.toM {e:Exit} (h:Post P X Q e a w) : PostM P X Q e a w:=by
 obtain ⟨env,H,I,μ,O,s,q⟩:=h
 exact ⟨env,H,I,μ,O,[],s,q,.nil⟩
theorem AWM.lift {c:Code} (h:AW P C c Q env H) : AWM P C c Q env H:=fun X a w I μ O h1 h2 h3 hs =>
 wpIn_mono (h X a w I μ O h1 h2 h3 hs) fun _ _ _ hp=>hp.toM
theorem AWM.seqA {x y:Code} (h:AW P C x (FU (AWM P C y Q) Q) env H) : AWM P C (.seq x y) Q env H:=fun X a w I μ O h1 h2 h3 hs =>
 wpIn_seq (wpIn_mono (h X a w I μ O h1 h2 h3 hs) fun e _ _ ⟨env',H',I',μ',O',s,q⟩=>by
  cases e with
  | normal=>exact q X _ _ I' μ' O' h1 h2 h3 s
  | _=>exact ⟨env',H',I',μ',O',[],s,q,.nil⟩)
theorem Mem.reroot {K':Nat→Prop} (h:Mem P X H w I μ O) (h0:X.n0=0) (hK:∀ b,K' b→O b=none∧b<w.heap.size) : Mem P {X with w:=w,I:=I,μ:=μ,K:=K'} H w I μ O where
 prot:=fun _ _=>rfl
 kO:=fun b hb=>(hK b hb).1
 kI:=fun _ _ h=>h
 mono:=fun _ h=>h
 os:=rfl
 tape:=rfl
 output:=rfl
 size:=Nat.le_refl _
 own:=h.own
 ilt:=h.ilt
 μlen:=h.μlen
 μpre:=fun _ _ _ h=>h
 nle:=h.nle
 heap:=fun id o ho=>by
  obtain ⟨blk,bs,g1,g2,g3,_⟩:=h.heap id o ho
  exact ⟨blk,bs,g1,g2,g3,fun hlt=>absurd hlt (by simp [h0])⟩
 klt:=fun b hb=>(hK b hb).2
 n0le:=h.n0le
theorem Mem.unroot {K':Nat→Prop} (h:Mem P X H w I μ O) (h0:X.n0=0) (hK:∀ b,X.K b→K' b) {w2:World} {H2:Ad} {I2:Nat→Prop} {μ2:List Nat} {O2:Nat→Option Loc}
  (h2:Mem P {X with w:=w,I:=I,μ:=μ,K:=K'} H2 w2 I2 μ2 O2):Mem P X H2 w2 I2 μ2 O2 where
 prot:=fun b hb=>(h2.prot b (hK b hb)).trans (h.prot b hb)
 kO:=fun b hb=>h2.kO b (hK b hb)
 kI:=fun b hb hi=>h.kI b hb (h2.kI b (hK b hb) hi)
 mono:=fun b hb=>h2.mono b (h.mono b hb)
 os:=h2.os.trans h.os
 tape:=h2.tape.trans h.tape
 output:=h2.output.trans h.output
 size:=nT h.size h2.size
 own:=h2.own
 ilt:=h2.ilt
 μlen:=h2.μlen
 μpre:=fun i b hi hb=>h2.μpre i b hi (h.μpre i b hi hb)
 nle:=h2.nle
 heap:=fun id o ho=>by
  obtain ⟨blk,bs,g1,g2,g3,_⟩:=h2.heap id o ho
  exact ⟨blk,bs,g1,g2,g3,fun hlt=>absurd hlt (by simp [h0])⟩
 klt:=h.klt
 n0le:=h.n0le
theorem AWM.seq (h0:C.n0=0) {x y:Code} (h:AWM P C x (FU (AWM P C y Q) Q) env H) : AWM P C (.seq x y) Q env H:=fun X a w I μ O h1 h2 h3 hs =>
 wpIn_seq (wpIn_mono (h X a w I μ O h1 h2 h3 hs) fun e a1 w1 ⟨env',H',I',μ',O',ms,s,q,hm⟩=>by
  cases e with
  | normal =>
   have hX0:X.n0=0:=by omega
   obtain ⟨K',hKd⟩:∃ K':Nat→Prop,K'=fun b=>X.K b∨∃ m∈ms,m={target:=.collected b,args:=#[]}:=⟨_,rfl⟩
   have hK':∀ b,K' b→O' b=none∧b<w1.heap.size:=fun b hb=>by
    rw [hKd] at hb
    rcases hb with hb|⟨m,hm1,hm2⟩
    ·exact ⟨s.kO b hb,nL (s.klt b hb) s.size⟩
    ·obtain ⟨D,e1,e2,e3,e4,_⟩:=hm.2 m hm1
     rw [hm2] at e1;simp at e1;subst e1
     exact ⟨e3,(Array.getElem?_eq_some_iff.1 e2).1⟩
   have hr:=s.recast (s.toMem.reroot hX0 hK') rfl rfl rfl
   refine wpIn_mono (q {X with w:=w1,I:=I',K:=K',μ:=μ',dfs:=ms++X.dfs} a1 w1 I' μ' O' h1 h2 h3 hr) fun e a2 w2 ⟨env2,H2,I2,μ2,O2,ms2,s2,q2,hm2⟩=>?_
   refine ⟨env2,H2,I2,μ2,O2,ms2++ms,?_,q2,?_⟩
   ·have hu:Mem P X H2 w2 I2 μ2 O2:=(s.toMem.cast (Y:=X) rfl rfl rfl rfl rfl rfl).unroot hX0 (K':=K') (fun b hb=>by rw [hKd];exact .inl hb) (s2.toMem.cast rfl rfl rfl rfl rfl rfl)
    exact ⟨hu.cast rfl rfl rfl rfl rfl rfl,s2.envr,s2.nt,by rw [s2.dfs.1];simp,s2.dfs.2⟩
   ·refine ⟨List.nodup_append.2 ⟨hm2.1,hm.1,fun x hx y hy e=>?_⟩,fun m hmm=>?_⟩
    ·subst e
     obtain ⟨D,rfl,_,_,_,hk⟩:=hm2.2 x hx
     exact hk (by show K' D;rw [hKd];exact .inr ⟨_,hy,rfl⟩)
    rcases List.mem_append.1 hmm with hmm|hmm
    ·obtain ⟨D,e1,e2,e3,e4,e5⟩:=hm2.2 m hmm
     exact ⟨D,e1,e2,e3,e4,fun hk=>e5 (by show K' D;rw [hKd];exact .inl hk)⟩
    ·obtain ⟨D,rfl,e2,e3,e4,e5⟩:=hm.2 m hmm
     have hkD:K' D:=by rw [hKd];exact .inr ⟨_,hmm,rfl⟩
     exact ⟨D,rfl,(s2.prot D hkD).trans e2,s2.kO D hkD,fun hi=>e4 (s2.kI D hkD hi),e5⟩
  | _=>exact ⟨env',H',I',μ',O',ms,s,q,hm⟩)
theorem AWM.block {id:Nat} {c:Code} (h:AWM P C c (SC id Q) env H) : AWM P C (.block id c) Q env H:=fun X a w I μ O h1 h2 h3 hs =>
 wpIn_block (wpIn_mono (h X a w I μ O h1 h2 h3 hs) fun e _ _ ⟨env',H',I',μ',O',ms,s,q,hm⟩=>by
  cases e with
  | exit id' =>
   simp only [Exit.inBlock]
   simp only [SC] at q
   split
   ·rename_i hid;subst hid;rw [if_pos rfl] at q;exact ⟨env',H',I',μ',O',ms,s,q,hm⟩
   ·rename_i hid;rw [if_neg hid] at q;exact ⟨env',H',I',μ',O',ms,s,q,hm⟩
  | _=>exact ⟨env',H',I',μ',O',ms,s,q,hm⟩)
theorem AWM.gh {c:Code} (g:Gh P C env H env' H') (h:AWM P C c Q env' H') : AWM P C c Q env H:=fun X a w I μ O h1 h2 h3 hs =>
 let ⟨I',O',hs'⟩:=g X a w I μ O h1 h2 h3 hs;h X a w I' μ O' h1 h2 h3 hs'
theorem Sim.lab (hs:Sim P X env H a w I μ O) (hlt:∀ b l,O' b=some l→b<w.heap.size∧¬I b) (hK:∀ b,X.K b→O' b=none) (ho:∀ b id,O b=some (.o id)→O' b=some (.o id)) (ht:∀ b t,O b=some (.t t)→O' b=some (.t t)) :
  Sim P X env H a w I μ O':=by
 refine ⟨hs.toMem.lab hlt hK ho,fun t=>?_,hs.nt,hs.dfs⟩
 exact (hs.envr t).keepG (fun _ h=>h) (fun _ _=>rfl) (fun _ _ h=>h) (fun b hb=>⟨rfl,ht b t hb⟩) fun p e xs hp=>⟨hp,fun v hv=>hv⟩
theorem Sim.busy {l:Nat} {w2:World} (hs:Sim P X env H a w I μ O) (h0:X.n0=0) (hg:w.grownBy w2 (some l)) (hl:X.K l) (hIl:¬X.I l) : Sim P {X with w:=w2,I:=I,μ:=μ} env H a w2 I μ O:=by
 have hlI:¬I l:=fun hi=>hIl (hs.kI l hl hi)
 have hlt:l<w.heap.size:=nL (hs.klt l hl) hs.size
 have s1:=hs.recast (hs.toMem.reroot (K':=fun b=>X.K b∧b≠l) h0 fun b hb=>⟨hs.kO b hb.1,nL (hs.klt b hb.1) hs.size⟩) rfl rfl rfl
 have s2:=s1.newR [l] fun b hb=>by simp at hb;subst hb;exact ⟨hlt,.inl (hs.kO b hl),hlI,fun h=>h.2 rfl⟩
 have s3:=s2.grownR hg fun b hb=>by cases hb;simp
 have s4:Sim P _ env H a w2 I μ O:=s3.lab (fun b l' hb=>⟨nL (hs.own b l' hb).1 hg.size,(hs.own b l' hb).2⟩) (fun b hb=>hs.kO b hb.1)
  (fun b id hb=>by
   by_cases e:b=l
   ·subst e;simp at hb
   ·simpa [e] using hb) (fun b t hb=>by
   by_cases e:b=l
   ·subst e;simp at hb
   ·simpa [e] using hb)
 exact s4.recast (s4.toMem.reroot (K':=X.K) h0 fun b hb=>⟨hs.kO b hb,nL (hs.klt b hb) (nT hs.size hg.size)⟩) rfl rfl rfl
theorem Mem.ready {l:Nat} {w2 w3 w4:World} {H3:Ad} {I3:Nat→Prop} {μ3:List Nat} {O3:Nat→Option Loc} (h:Mem P X H w I μ O) (h0:X.n0=0) (hl:X.K l) (hIl:¬X.I l) (hg:w.grownBy w2 (some l))
  (h3:Mem P {X with w:=w2,I:=I,μ:=μ} H3 w3 I3 μ3 O3) (hg3:w3.grownBy w4 (some l)) (h4:w4.heap[l]?=X.w.heap[l]?):Mem P X H3 w4 I3 μ3 O3 where
 prot:=fun b hb=>by
  by_cases e:b=l
  ·subst e;exact h4
  ·exact (hg3.block b (nL (h3.klt b hb) h3.size) (by simpa using e)).trans ((h3.prot b hb).trans ((hg.block b (nL (h.klt b hb) h.size) (by simpa using e)).trans (h.prot b hb)))
 kO:=h3.kO
 kI:=fun b hb hi=>h.kI b hb (h3.kI b hb hi)
 mono:=fun b hb=>h3.mono b (h.mono b hb)
 os:=hg3.os.trans (h3.os.trans (hg.os.trans h.os))
 tape:=hg3.tape.trans (h3.tape.trans (hg.tape.trans h.tape))
 output:=hg3.output.trans (h3.output.trans (hg.output.trans h.output))
 size:=nT h.size (nT hg.size (nT h3.size hg3.size))
 own:=fun b l' hb=>⟨nL (h3.own b l' hb).1 hg3.size,(h3.own b l' hb).2⟩
 ilt:=fun b hb=>nL (h3.ilt b hb) hg3.size
 μlen:=h3.μlen
 μpre:=fun i b hi hb=>h3.μpre i b hi (h.μpre i b hi hb)
 nle:=h3.nle
 heap:=fun id o ho=>by
  obtain ⟨blk,bs,g1,g2,g3,_⟩:=h3.heap id o ho
  have hO:=(g3 (by simp [h0])).2
  have hne:∀ b∈blk::bs,w4.heap[b]?=w3.heap[b]?:=fun b hb=>hg3.block b (h3.own b _ (hO b hb)).1 (by
   simp only [ne_eq,Option.some.injEq]
   intro e;subst e
   have:=h3.kO _ hl;rw [hO _ hb] at this;cases this)
  refine ⟨blk,bs,g1,?_,g3,fun hlt=>absurd hlt (by simp [h0])⟩
  cases o with
  | box cs =>
   obtain ⟨cells,e,k1,k2⟩:=g2
   refine ⟨cells,e,(hne blk (by simp)).trans k1,k2.keep (fun _ h=>h) (fun b hb=>hg3.block b (h3.ilt b hb) ?_) (fun _ _ h=>h) fun b hb=>hne b (by simp [hb])⟩
   simp only [ne_eq,Option.some.injEq]
   intro e';subst e'
   exact hIl (h.kI _ hl (h3.kI _ hl hb))
 klt:=h.klt
 n0le:=h.n0le
end
end Go.FL
namespace Go.FL
open Go Go.RowKit
def J0 (env:Env) : Env:=env.map fun x=>(x.1,if noOwn x.2&&!A5 x.2 then x.2 else .un)
theorem JV (env:Env) (t:Nat) : get (J0 env) t=if noOwn (get env t)&&!A5 (get env t) then get env t else .un:=by
 induction env with
 | nil=>rfl
 | cons x r ih =>
  obtain ⟨s,v⟩:=x
  simp only [J0,List.map_cons,get]
  split
  ·rfl
  ·exact ih
section
variable {P:Program} {C:Cx} {X:Snap} {Q:Exit→Env→Ad→Prop} {env env':Env} {H H':Ad} {a:Act} {w w':World} {I I':Nat→Prop} {μ μ':List Nat} {O O':Nat→Option Loc}
theorem Sim.overL (hs:Sim P X env H a w I μ O) (hn0:X.n0=0) (hc:BQ env=false) (ls:List Nat) (hl:∀ b∈ls,O b=some .r) :
  ∃ (Y:Snap) (O2:Nat→Option Loc),Y.w=w∧Y.I=I∧Y.n0=0∧Y.ne=H.length∧Y.μ=μ∧(∀ b∈ls,Y.K b)∧(∀ b,I b→Y.K b)∧Mem P Y H w I μ O2 ∧
   ∀ {w':World} {I':Nat→Prop} {μ':List Nat} {O':Nat→Option Loc} {Hn:Ad},Mem P Y Hn w' I' μ' O'→∃ On,Sim P X env Hn a w' I' μ' On∧∀ b∈ls,On b=some .r:=by
 let Y:Snap:={X with w:=w,I:=I,n0:=0,ne:=H.length,μ:=μ,K:=fun b=>X.K b∨I b∨(∃ t,O b=some (.t t))∨b∈ls}
 let O2:Nat→Option Loc:=fun b=>match O b with
  | some (.o id)=>some (.o id)
  | _=>none
 have hO2o:∀ b id,O b=some (.o id)→O2 b=some (.o id):=fun b id h=>by simp only [O2,h]
 have hO2n:∀ b,(∀ id,O b≠some (.o id))→O2 b=none:=fun b h2=>by
  cases hx:O b with
  | none=>simp only [O2,hx]
  | some l=>cases l with
   | o id=>exact absurd hx (h2 id)
   | _=>simp only [O2,hx]
 have hO2:∀ b l,O2 b=some l→∃ l',O b=some l':=fun b l h=>by
  cases hx:O b with
  | some l'=>exact ⟨l',rfl⟩
  | none=>rw [hO2n b (by rw [hx];simp)] at h;cases h
 have hKO:∀ b,Y.K b→∀ id,O b≠some (.o id):=fun b hk=>by
  rcases hk with hk|hk|⟨t,hk⟩|hk
  ·exact fun id h=>(by rw [hs.kO b hk] at h;cases h)
  ·exact fun id h=>(hs.own b _ h).2 hk
  ·exact fun id h=>(by rw [hk] at h;simp at h)
  ·exact fun id h=>(by rw [hl b hk] at h;simp at h)
 have hmem:Mem P Y H w I μ O2:={
  prot:=fun _ _=>rfl
  kO:=fun b hk=>hO2n b (hKO b hk)
  kI:=fun _ _ h=>h
  mono:=fun _ h=>h
  os:=rfl,tape:=rfl,output:=rfl,size:=Nat.le_refl _
  own:=fun b l h=>by obtain ⟨l',h'⟩:=hO2 b l h;exact hs.own b l' h'
  ilt:=hs.ilt,μlen:=hs.μlen,μpre:=fun _ _ _ h=>h,nle:=Nat.le_refl _
  heap:=fun id o' ho'=>by
   obtain ⟨blk,ds,h1,h2,h3,_⟩:=hs.heap id o' ho'
   exact ⟨blk,ds,h1,h2,fun _=>⟨(h3 (by omega)).1,fun b hb'=>hO2o b id ((h3 (by omega)).2 b hb')⟩,fun h=>absurd h (by simp [Y])⟩
  klt:=fun b hk=>by
   rcases hk with hk|hk|⟨t,hk⟩|hk
   ·exact nL (hs.klt b hk) hs.size
   ·exact hs.ilt b hk
   ·exact (hs.own b _ hk).1
   ·exact (hs.own b _ (hl b hk)).1
  n0le:=Nat.zero_le _}
 refine ⟨Y,O2,rfl,rfl,rfl,rfl,rfl,fun b hb=>.inr (.inr (.inr hb)),fun b hb=>.inr (.inl hb),hmem,?_⟩
 intro w' I' μ' O' Hn hm
 let On:Nat→Option Loc:=fun b=>if b∈ls then some .r else match O' b with
  | some (.o id)=>some (.o id)
  | _=>match O b with
   | some (.t t)=>some (.t t)
   | _=>none
 have hOl:∀ b,b∈ls→On b=some .r:=fun b hb=>by show (if b∈ls then _ else _)=_;rw [if_pos hb]
 have hOe:∀ b,b∉ls→On b=match O' b with
   | some (.o id)=>some (.o id)
   | _=>match O b with
    | some (.t t)=>some (.t t)
    | _=>none:=fun b hb=>by show (if b∈ls then _ else _)=_;rw [if_neg hb]
 have hOt:∀ b t,O b=some (.t t)→On b=some (.t t)∧w'.heap[b]?=w.heap[b]?:=fun b t h=>by
  have hk:Y.K b:=.inr (.inr (.inl ⟨t,h⟩))
  have h0:=hm.kO b hk
  refine ⟨?_,hm.prot b hk⟩
  rw [hOe b fun hb=>by rw [hl b hb] at h;simp at h]
  simp only [h0,h]
 have hOo:∀ b id,O' b=some (.o id)→On b=some (.o id):=fun b id h=>by
  rw [hOe b fun hb=>by have:=hm.kO b (.inr (.inr (.inr hb)));rw [h] at this;cases this]
  simp only [h]
 have hII:∀ b,I b→w'.heap[b]?=w.heap[b]?:=fun b hi=>hm.prot b (.inr (.inl hi))
 have hμ:∀ (i b:Nat),μ[i]?=some b→μ'[i]?=some b:=fun i b h=>hm.μpre i b (by have:=(lS.1 h).1;have:=hs.μlen;simp only [Y];omega) h
 refine ⟨On,⟨{
  prot:=fun b hk=>(hm.prot b (.inl hk)).trans (hs.prot b hk)
  kO:=fun b hk=>by
   have h0:=hm.kO b (.inl hk)
   rw [hOe b fun hb=>by have:=hl b hb;rw [hs.kO b hk] at this;cases this]
   simp only [h0,hs.kO b hk]
  kI:=fun b hk hi=>hs.kI b hk (hm.kI b (.inl hk) hi)
  mono:=fun b hi=>hm.mono b (hs.mono b hi)
  os:=hm.os.trans hs.os,tape:=hm.tape.trans hs.tape,output:=hm.output.trans hs.output,size:=nT hs.size hm.size
  own:=fun b l hl'=>by
   by_cases hx:b∈ls
   ·exact ⟨nL (hs.own b _ (hl b hx)).1 hm.size,fun hi=>(hs.own b _ (hl b hx)).2 (hm.kI b (.inr (.inr (.inr hx))) hi)⟩
   ·rw [hOe b hx] at hl'
    split at hl'
    ·rename_i id h;exact hm.own b _ h
    ·split at hl'
     ·rename_i t h
      refine ⟨nL (hs.own b _ h).1 hm.size,fun hi=>(hs.own b _ h).2 (hm.kI b (.inr (.inr (.inl ⟨t,h⟩))) hi)⟩
     ·cases hl'
  ilt:=hm.ilt,μlen:=hm.μlen
  μpre:=fun i b hi h=>hμ i b (hs.μpre i b hi h)
  nle:=nT hs.nle hm.nle
  heap:=fun id o' ho'=>by
   obtain ⟨blk,ds,h1,h2,h3,_⟩:=hm.heap id o' ho'
   exact ⟨blk,ds,h1,h2,fun _=>⟨(h3 (Nat.zero_le _)).1,fun b hb'=>hOo b id ((h3 (Nat.zero_le _)).2 b hb')⟩,fun h=>by omega⟩
  klt:=hs.klt,n0le:=hs.n0le},fun t=>?_,hs.nt,hs.dfs⟩,hOl⟩
 have ht:=hs.envr t
 obtain ⟨c1,c2⟩:=H7 hc t
 cases hg:get env t with
 | ref p off len =>
  rw [hg] at ht
  obtain ⟨e,xs,A,n,c,g1,g2,g3⟩:=ht
  cases p with
  | t q=>exact ⟨e,xs,A,n,c,g1,g2,g3⟩
  | c id off'=>exact absurd hg (c1 _ _ _ _)
 | ep p i j =>
  rw [hg] at ht
  obtain ⟨e,xs,b,n,c,g1,g2,g3⟩:=ht
  cases p with
  | t q=>exact ⟨e,xs,b,n,c,g1,g2,g3⟩
  | c id off'=>exact absurd hg (c2 _ _ _ _)
 | _ =>
  rw [hg] at ht
  obtain ⟨ds,g1,g2,g3⟩:=ht.plain rfl
  exact .of (g1.keep hm.mono hII hμ fun b hb'=>(hOt b t (g3 b hb')).2) g2 fun b hb'=>(hOt b t (g3 b hb')).1
theorem Sim.round {Y:Snap} {O2:Nat→Option Loc} (hs:Sim P X env H a w I μ O) (hm:Mem P Y H w I μ O2) (p1 p2:Nat) (hp1:p1<X.nt.2) (hp2:p2<X.nt.2) {d1 d2:DV} {v1 v2:Value} (h1:Rep w I d1 v1) (h2:Rep w I d2 v2) :
  Sim P {Y with nt:=(0,X.nt.2),dfs:=[],args:=[]} ((p2,.d d2)::(p1,.d d1)::J0 env) H {tmps:=((#[p1,p2]:Array Tmp).zip #[v1,v2]).foldl (fun t (p,v)=>t.setIfInBounds p v) a.tmps,defers:=[]} w I μ O2:=by
 have e0:((#[p1,p2]:Array Tmp).zip #[v1,v2]).foldl (fun (t:Array Value) (p,v)=>t.setIfInBounds p v) a.tmps=(a.tmps.setIfInBounds p1 v1).setIfInBounds p2 v2:=by
  rw [← Array.foldl_toList,Array.toList_zip]
  rfl
 have hsz:p1<a.tmps.size∧p2<a.tmps.size:=by rw [hs.nt];exact ⟨hp1,hp2⟩
 refine ⟨hm.cast rfl rfl rfl rfl rfl rfl,fun t=>?_,?_,rfl,fun t ht=>absurd ht (by simp)⟩
 ·simp only [get]
  by_cases e2:p2=t
  ·subst e2
   rw [if_pos rfl]
   refine .of (bs:=[]) (.d ?_) nN (by simp)
   rw [e0]
   have:((a.tmps.setIfInBounds p1 v1).setIfInBounds p2 v2).getD p2 undef=v2:=by simp [hsz.2]
   show Rep w I d2 (((a.tmps.setIfInBounds p1 v1).setIfInBounds p2 v2).getD p2 undef)
   rw [this];exact h2
  ·rw [if_neg e2]
   by_cases e1:p1=t
   ·subst e1
    rw [if_pos rfl]
    refine .of (bs:=[]) (.d ?_) nN (by simp)
    rw [e0]
    have:((a.tmps.setIfInBounds p1 v1).setIfInBounds p2 v2).getD p1 undef=v1:=by simp [hsz.1,e2]
    show Rep w I d1 (((a.tmps.setIfInBounds p1 v1).setIfInBounds p2 v2).getD p1 undef)
    rw [this];exact h1
   ·rw [if_neg e1,JV]
    split
    ·rename_i hpl
     simp only [Bool.and_eq_true,Bool.not_eq_true'] at hpl
     obtain ⟨bs,g1,g2,g3⟩:=(hs.envr t).plain hpl.2
     have:=noOwn_bs g1 hpl.1
     subst this
     refine .of (bs:=[]) ?_ nN (by simp)
     rw [e0]
     have:((a.tmps.setIfInBounds p1 v1).setIfInBounds p2 v2).getD t undef=a.tmps.getD t undef:=by simp [e1,e2,Array.getElem?_setIfInBounds_ne]
     show ARep P w I μ (get env t) (((a.tmps.setIfInBounds p1 v1).setIfInBounds p2 v2).getD t undef) []
     rw [this];exact g1
    ·exact .un
 ·rw [e0];simp;exact hs.nt
theorem Ce {w:World} {l:Nat} (o:Obj) : w.grownBy (w.putObj l o) (some l) :=
 ⟨rfl,rfl,rfl,by simp,fun k _ hk=>World.putObj_heap_other (fun e=>hk (by rw [e]))⟩
theorem Bn {w:World} (o:Obj) : Below w.heap.size w (w.alloc o) :=
 ⟨rfl,rfl,rfl,by simp,fun k hk=>Below.heap_alloc w o k hk⟩
theorem AWM.rangeFunc {g p1 p2:Nat} {assign body:Code} {f:FuncId} {caps:List DV} {ys:List (List DV)} (hro:C.ro=none) (hn0:C.n0=0) (hg:get env g=.d (.fn f [] caps)) (hcall:∀ args w,(callFunc f args).run P w=.ok (.enter f args) w)
  (hit:It P f caps ys) (hys:∀ ds∈ys,ds.length=2) (hp1:p1<C.nt.2) (hp2:p2<C.nt.2) (hc:BQ env=false) (Hs:Nat→Ad) (h0:Hs 0=H)
  (hround:∀ (l k:Nat) (d1 d2:DV),ys[k]?=some [d1,d2]→AW P {nt:=(0,C.nt.2),n0:=0,ne:=(Hs k).length,ro:=some l} assign
   (FU (AW P {nt:=(0,C.nt.2),n0:=0,ne:=(Hs k).length,ro:=some l} body fun e _ H'=>e=.normal∧H'=Hs (k+1)) fun _ _ _=>False) ((p2,.d d2)::(p1,.d d1)::J0 env) (Hs k))
  (hdone:Q .normal env (Hs ys.length)):AWM P C (.rangeFunc (.tmp g) #[p1,p2] assign body) Q env H:=by
 intro X a w I μ O h1 h2 h3 hs
 have hX0:X.n0=0:=by omega
 refine wpIn_rangeFunc ?_
 intro fn _
 rw [hro]
 have hfr:=hs.deep (x:=.tmp g) (v:=.fn f [] caps) (by show Bo (get env g)=_;rw [hg];rfl)
 generalize hev:a.eval (.tmp g)=u at hfr
 cases hfr with
 | fn _ _ _ fs cv hfs hcv =>
 cases hfs
 obtain ⟨rec,hrec⟩:∃ rec:LoopState→Option Code→Loop,rec=fun st pe=>{state:=st,pending:=pe,fn,tmps:=a.tmps,params:=#[p1,p2],assign,body,defers:=w.heap.size}:=⟨_,rfl⟩
 obtain ⟨W1,hW1⟩:∃ W1,(w.alloc (.deferred (some []))).alloc (.loop (rec .ready none))=W1:=⟨_,rfl⟩
 have hL1:W1.heap[w.heap.size+1]?=some (.loop (rec .ready none)):=by
  rw [← hW1];have:=World.alloc_heap_new (w.alloc (.deferred (some []))) (.loop (rec .ready none));rwa [World.size_alloc] at this
 have hK1:W1.heap[w.heap.size]?=some (.deferred (some [])):=by
  rw [← hW1];exact (Below.heap_alloc _ _ _ (by simp)).trans (World.alloc_heap_new w _)
 have hb1:Below w.heap.size w W1:=by
  rw [← hW1];exact (Bn _).trans ((Bn _).mono (by simp))
 have hsz1:W1.heap.size=w.heap.size+2:=by rw [← hW1];simp
 have hs1:=(hs.grow hb1).newR [w.heap.size,w.heap.size+1] fun b hb=>by
  have hge:w.heap.size≤b∧b<W1.heap.size:=by simp at hb;omega
  refine ⟨hge.2,.inl ?_,fun hi=>?_,fun hk=>?_⟩
  ·cases hO:O b with
   | none=>rfl
   | some l=>have:=(hs.own b l hO).1;omega
  ·have:=hs.ilt b hi;omega
  ·have:=hs.klt b hk;have:=hs.size;omega
 refine ⟨w.heap.size+1,[{target:=.collected w.heap.size,args:=#[]}],W1,{target:=.fn (.func f) cv.toArray,args:=#[.func (.yield (w.heap.size+1)) #[] #[]]},W1,f,
  #[.func (.yield (w.heap.size+1)) #[] #[]]++cv.toArray,W1,?_,?_,?_,?_,fun h=>(by simp [om] at h),?_⟩
 ·rw [← hW1,hrec];exact run_enterLoop_outer _ _ _ _ _
 ·simp only [resolve,hev]
  simp [go_sem]
 ·intro f' hf';exact trivial
 ·simp [invoke,go_sem,hcall]
 let J:Nat→World→Prop:=fun k W=>∃ I' μ' O',Sim P X env (Hs k) a W I' μ' O'∧O' w.heap.size=some .r∧O' (w.heap.size+1)=some .r∧W.heap[w.heap.size+1]?=some (.loop (rec .ready none)) ∧
  W.heap[w.heap.size]?=some (.deferred (some []))∧(∀ b,I b→I' b)∧∀ b,I b→W.heap[b]?=W1.heap[b]?
 have hcv1:RepAll W1 I [] []:=.nil
 have hcvW:RepAll W1 I caps cv:=hcv.keep (fun b hi=>hb1.block b (hs.ilt b hi)) fun _ h=>h
 refine (hit (w.heap.size+1) W1 I cv J (fun k W' hJ=>by obtain ⟨_,_,_,_,_,_,_,_,_,h⟩:=hJ;exact h) hcvW ?_ ⟨I,μ,_,by rw [h0];exact hs1,by simp,by simp,hL1,hK1,fun _ h=>h,fun _ _=>rfl⟩).mono ?_
 ·-- a round
  rintro k W ds vs ⟨I1,μ1,O1,s1,oD,ol,hl,hD,hI,hIw⟩ hk hr
  have hlen:=hys ds (List.mem_of_getElem? hk)
  obtain ⟨d1,d2,rfl⟩:∃ d1 d2,ds=[d1,d2]:=by
   match ds,hlen with
   | [d1,d2],_=>exact ⟨d1,d2,rfl⟩
  obtain ⟨v1,v2,rfl,hr1,hr2⟩:∃ v1 v2,vs=[v1,v2]∧Rep W I d1 v1∧Rep W I d2 v2:=by
   cases hr with
   | cons x1 t=>cases t with
    | cons x2 t=>cases t;exact ⟨_,_,rfl,x1,x2⟩
  have hy:=run_yield (P:=P) (args:=#[v1,v2]) hl (by rw [hrec];rfl)
  rw [hrec] at hy
  refine ⟨fn,_,assign,body,hy,roundIn_of_wpIn trivial ?_⟩
  obtain ⟨Y,O2,y1,y2,y3,y4,y5,yl,yI,ym,yk⟩:=s1.overL hX0 hc [w.heap.size,w.heap.size+1] (by simp [oD,ol])
  have sr:=s1.round ym p1 p2 (by rw [h1];exact hp1) (by rw [h1];exact hp2) (hr1.keep (fun _ _=>rfl) hI) (hr2.keep (fun _ _=>rfl) hI)
  have hnl:¬I1 (w.heap.size+1):=(s1.own _ _ ol).2
  refine wpIn_mono (hround (w.heap.size+1) k d1 d2 hk {Y with nt:=(0,X.nt.2),dfs:=[],args:=[]} _ _ _ _ _ (by show (0,X.nt.2)=(0,C.nt.2);rw [h1]) y3 y4 sr) ?_
  rintro e a1 w1 ⟨env1,H1,I2,μ2,O3,q1,q2⟩
  cases e with
  | normal =>
   have hl1:w1.heap[w.heap.size+1]?=some (.loop (rec .ready none)):=(q1.prot _ (yl _ (by simp))).trans (by rw [y1];exact hl)
   refine ⟨_,run_beginRound hl1 (by rw [hrec]),?_⟩
   have sb:=q1.busy y3 (Ce (.loop {rec .ready none with state:=.busy})) (yl (w.heap.size+1) (by simp)) (by show ¬Y.I _;rw [y2];exact hnl)
   refine wpIn_mono (q2 {Y with nt:=(0,X.nt.2),dfs:=[],args:=[],w:=w1.putObj (w.heap.size+1) (.loop {rec .ready none with state:=.busy}),I:=I2,μ:=μ2} _ _ _ _ _ (by show (0,X.nt.2)=(0,C.nt.2);rw [h1]) y3 y4 sb) ?_
   rintro e a2 w2 ⟨env2,H2,I3,μ3,O4,t1,t2,rfl⟩
   subst t2
   have hl2:w2.heap[w.heap.size+1]?=some (.loop {rec .ready none with state:=.busy}):=(t1.prot _ (yl _ (by simp))).trans (World.putObj_heap_same (Array.getElem?_eq_some_iff.1 hl1).1)
   have hend:=run_endRound (P:=P) none hl2
   refine ⟨_,_,hend,rfl,?_⟩
   have hme:({({rec .ready none with state:=.busy}:Loop) with state:=if (none:Option Code).isNone then LoopState.ready else .done,pending:=none}:Loop)=rec .ready none:=by rw [hrec];rfl
   rw [hme]
   have hl4:(w2.putObj (w.heap.size+1) (.loop (rec .ready none))).heap[w.heap.size+1]?=some (.loop (rec .ready none)):=World.putObj_heap_same (Array.getElem?_eq_some_iff.1 hl2).1
   have hm4:Mem P Y (Hs (k+1)) (w2.putObj (w.heap.size+1) (.loop (rec .ready none))) I3 μ3 O4 :=
    Mem.ready (X:=Y) (l:=w.heap.size+1) (q1.toMem.cast rfl rfl rfl rfl rfl rfl) y3 (yl _ (by simp)) (by rw [y2];exact hnl) (Ce _) (t1.toMem.cast rfl rfl rfl rfl rfl rfl) (Ce _) (by rw [hl4,y1,hl])
   obtain ⟨On,k1,k2⟩:=yk hm4
   refine ⟨I3,μ3,On,k1,k2 _ (by simp),k2 _ (by simp),hl4,?_,fun b hb=>hm4.mono b (by rw [y2];exact hI b hb),fun b hb=>?_⟩
   ·exact (hm4.prot _ (yl _ (by simp))).trans (by rw [y1];exact hD)
   ·exact (hm4.prot b (yI b (hI b hb))).trans (by rw [y1];exact hIw b hb)
  | _=>exact q2.elim
 ·-- behind the iterator
  rintro e W2 ⟨⟨v,rfl⟩,I1,μ1,O1,s1,oD,ol,hl,hD,hI,hIw⟩
  refine ⟨none,_,by have:=run_endLoop (P:=P) hl (by rw [hrec];simp);rw [hrec] at this;exact this,?_⟩
  have s2:=s1.grownR (Ce (l:=w.heap.size+1) (.loop {state:=.exhausted,pending:=none,fn,tmps:=a.tmps,params:=#[p1,p2],assign,body,defers:=w.heap.size})) fun b hb=>by cases hb;exact ol
  have s3:=s2.lab (O':=fun b=>if b=w.heap.size then none else O1 b) (fun b l hb=>by
    split at hb
    ·cases hb
    ·exact s2.own b l hb) (fun b hb=>by
    split
    ·rfl
    ·exact s2.kO b hb) (fun b id hb=>by rw [if_neg (fun e=>by subst e;rw [oD] at hb;simp at hb)];exact hb) (fun b t hb=>by rw [if_neg (fun e=>by subst e;rw [oD] at hb;simp at hb)];exact hb)
  refine ⟨env,_,I1,μ1,_,[{target:=.collected w.heap.size,args:=#[]}],⟨s3.toMem.cast rfl rfl rfl rfl rfl rfl,s3.envr,s3.nt,by rw [s3.dfs.1],s3.dfs.2⟩,hdone,?_⟩
  refine ⟨by simp,fun m hm=>?_⟩
  simp at hm
  refine ⟨_,hm,?_,by simp,(s1.own _ _ oD).2,fun hk=>by have:=hs.klt _ hk;have:=hs.size;omega⟩
  exact (World.putObj_heap_other (by omega)).trans hD
theorem H6 {fn:Func} {R:Ending→World→Prop} (hfin:∀ w,Sim P X env H a w I μ O→LeavesInM (om none) 0 P fn a.tmps R [] .returning w) :
  ∀ (ms:List Deferred) (w:World),Sim P X env H a w I μ O→Marks X.K w I O ms→LeavesInM (om none) 0 P fn a.tmps R ms .returning w:=by
 intro ms
 induction ms with
 | nil=>intro w hw _;exact hfin w hw
 | cons m ms ih =>
  intro w hw hm
  obtain ⟨hn,hm⟩:=hm
  obtain ⟨D,rfl,hD,hO,hI,hK⟩:=hm m (by simp)
  refine ⟨by simp,.inl ⟨D,_,rfl,run_takeDeferred hD,ih _ ?_ ⟨(List.nodup_cons.1 hn).2,fun m' hm'=>?_⟩⟩⟩
  ·have s1:=hw.newR [D] fun b hb=>by simp at hb;subst hb;exact ⟨(Array.getElem?_eq_some_iff.1 hD).1,.inl hO,hI,hK⟩
   have s2:=s1.grownR (Ce (l:=D) (.deferred none)) fun b hb=>by cases hb;simp
   exact s2.lab (fun b l' hb=>⟨by rw [World.putObj_size];exact (hw.own b l' hb).1,(hw.own b l' hb).2⟩) hw.kO
    (fun b id hb=>by
     by_cases e:b=D
     ·subst e;simp at hb
     ·simpa [e] using hb) (fun b t hb=>by
     by_cases e:b=D
     ·subst e;simp at hb
     ·simpa [e] using hb)
  ·obtain ⟨D',rfl,hD',h3,h4,h5⟩:=hm m' (by simp [hm'])
   refine ⟨D',rfl,(World.putObj_heap_other fun e=>?_).trans hD',h3,h4,h5⟩
   subst e
   exact (List.nodup_cons.1 hn).1 hm'
theorem Fn.ofM {f:FuncId} {fn:Func} {c:Code} {args:List DV} {r:AV} {rs:List ResultVar} {nt:Nat} (hf:P.funcs[f]?=some fn) (hb:fn.body=some c) (hrs:fn.results=rs.toArray) (hnt:fn.ntmps=nt) (hn:args.length≤nt) (hbp:noBp r=true)
  (h:AWM P {nt:=(0,nt),n0:=0,ne:=0} c (Yx rs r) (Dm 0 args) []):Fn P f args r:=by
 intro w I vs hI ha
 refine callsIn_of_wp_marks hf hb trivial ?_
 have hlen:=ha.length
 let X:Snap:={w:=w,I:=I,K:=fun b=>b<w.heap.size,n0:=0,ne:=0,μ:=[],nt:=(0,nt),dfs:=[]}
 let a:Act:={tmps:=vs.toArray++Array.replicate (fn.ntmps-vs.toArray.size) undef,defers:=[]}
 have hs:Sim P X (Dm 0 args) [] a w I [] (fun _=>none):=by
  refine ⟨{prot:=fun _ _=>rfl,kO:=fun _ _=>rfl,kI:=fun _ _ h=>h,mono:=fun _ h=>h,os:=rfl,tape:=rfl,output:=rfl,size:=Nat.le_refl _,own:=(fun b l h=>by simp at h),ilt:=hI,μlen:=rfl,μpre:=(fun i b hi _=>by simp [X] at hi),nle:=(by simp [X]),heap:=(fun id o h=>by simp at h),klt:=fun b hb=>hb,n0le:=(by simp [X])},fun t=>?_,?_,rfl,fun t h=>absurd h (by simp [X])⟩
  ·rcases EC (tmps:=a.tmps) (k:=0) ha (fun j v hj=>by
    have hjl:j<vs.length:=(lS.1 hj).1
    have e2:(vs.toArray++Array.replicate (fn.ntmps-vs.length) undef)[j]?=some v:=by
     rw [Array.getElem?_append_left (by simpa using hjl)];simpa using hj
    simp [a,e2]) t with h0|⟨d,h0,h1⟩
   ·rw [h0];exact .un
   ·rw [h0];exact .of (bs:=[]) (.d h1) nN (by simp)
  ·simp [a,X,hnt];omega
 have hw:=h X a w I [] (fun _=>none) rfl rfl rfl hs
 refine wpIn_mono hw fun e a' w' hp=>?_
 obtain ⟨env',H',I',μ',O',ms,s,q,hm⟩:=hp
 have hdf:a'.defers=ms:=by rw [s.dfs.1];simp [X]
 have fin:Gy env' r rs→LeavesInM (om none) 0 P fn a'.tmps (fun e w'=>∃ v I' bs,e=.returned v∧Below w.heap.size w w'∧(∀ b,I b→I' b) ∧
   (∀ b,I' b→b<w'.heap.size∧(b<w.heap.size→I b))∧ARep P w' I' [] r v bs∧bs.Nodup∧∀ b∈bs,w.heap.size≤b∧b<w'.heap.size∧¬I' b) a'.defers .returning w':=by
  intro hres
  rw [hdf]
  refine H6 (fun w4 s4=>?_) ms w' s hm
  obtain ⟨v,bs,h1,h2,h3,h4⟩:=s4.results hrs hres
  refine ⟨v,h1,v,I',bs,rfl,⟨s4.os,s4.tape,s4.output,s4.size,fun b hb=>s4.prot b hb⟩,s4.mono,fun b hi=>⟨s4.ilt b hi,fun hb=>s4.kI b hb hi⟩,h2.noBp hbp,h3,fun b hm=>?_⟩
  obtain ⟨l,hl⟩:=h4 b hm
  refine ⟨?_,(s4.own b l hl).1,(s4.own b l hl).2⟩
  rcases Nat.lt_or_ge b w.heap.size with hlt|hge
  ·have:=s4.kO b hlt;rw [this] at hl;cases hl
  ·exact hge
 cases e with
 | normal=>exact fin q
 | ret=>exact fin q
 | _=>exact q.elim
end
end Go.FL
namespace Go.FL
open Go Go.RowKit
def B (ns:List Nat) : List DV:=ns.map fun n : Nat=>.i .u8 (n:Int)
section
variable {P:Program} {C:Cx} {X:Snap} {o:Oper} {ops:Array Oper} {Q:Exit→Env→Ad→Prop} {env env':Env} {H H':Ad} {a:Act} {w w':World} {I I':Nat→Prop} {μ μ':List Nat} {O O':Nat→Option Loc}
 {K:Env→Ad→Prop} {k:Nat} {l:List Oper}
theorem bxd {x:Operand} {ty t:Nat} {v:DV} (h:RL P C ops Q (k+1) l ((t,.d (.ptr [v]))::env) H) (hg:grd ops env o true=true:=by rfl) (ho:o.op=.box ty x:=by rfl) (hv:Bo (lk env x)=some v:=by rfl)
  (hl:v.leaf=true:=by rfl) (hd:o.dst=some t:=by rfl) (hf:Am (get env t)=false:=by rfl) (ht:okT C.nt t:=by rfl):RL P C ops Q k (o::l) env H:=by
 rw [← Al hf] at h
 refine .go hg (.val (by simp [ho]) hd ht (fun X a w I μ O _ _ _ hs=>?_) h)
 have hr:=hs.deep (x:=x) hv
 have hone:=hr.one hl
 have hcells:(a.eval x).cells=#[a.eval x]:=by
  generalize a.eval x=u at hone
  cases u<;>first|rfl|simp [Value.oneCell'] at hone
 have hb:Below w.heap.size w (w.alloc (.cells #[a.eval x] ty)):=Bn _
 let I':Nat→Prop:=fun b=>I b∨b=w.heap.size
 have s1:=hs.called (I':=I') hb (fun b hi=>.inl hi) fun b hi=>by
  rcases hi with hi|rfl
  ·exact ⟨nL (hs.ilt b hi) hb.size,fun _=>hi⟩
  ·exact ⟨by simp,fun hlt=>absurd hlt (Nat.lt_irrefl _)⟩
 refine ⟨.pointer (some ⟨w.heap.size,0,none⟩),_,I',μ,O,?_,s1,[],.d (.ptr [v] w.heap.size 0 [a.eval x] (.inr rfl) ?_ (.cons (hr.keep (fun b hi=>hb.block b (hs.ilt b hi)) fun b hi=>.inl hi) .nil)),nN,by simp⟩
 ·simp only [execOp,ho,Instr.box,Sem.run_bind,Ez,Result.andThen_ok,Sem.run_pure,hcells]
 ·intro j u hj
  have hnew:(w.alloc (.cells #[a.eval x] ty)).heap[w.heap.size]?=some (.cells #[a.eval x] ty):=World.alloc_heap_new w _
  have hj0:j<1:=by simpa using (lS.1 hj).1
  have:j=0:=by omega
  subst this
  simp at hj;subst hj
  show World.cell? _ ⟨w.heap.size,0+0,none⟩=_
  unfold World.cell?
  show (match (w.alloc (.cells #[a.eval x] ty)).heap[w.heap.size]? with|some (.cells c _ _)=>_|_=>_)=_
  rw [hnew];rfl
theorem mkf {f:FuncId} {cap:Array Operand} {t:Nat} {ds:List DV} (h:RL P C ops Q (k+1) l ((t,.d (.fn f [] ds))::env) H) (hg:grd ops env o true=true:=by rfl) (ho:o.op=.makeFunc (.func f) #[] cap:=by rfl) (ha:argsD env cap.toList=some ds:=by rfl)
  (hd:o.dst=some t:=by rfl) (hf:Am (get env t)=false:=by rfl) (ht:okT C.nt t:=by rfl):RL P C ops Q k (o::l) env H:=by
 rw [← Al hf] at h
 refine .go hg (.pure (by simp [ho]) hd ht (fun X a w I μ O _ hs=>⟨.func (.func f) #[] (cap.map a.eval),?_,.of_rep ?_⟩) h)
 ·simp [execOp,ho,Instr.makeFunc]
 ·have:=Rep.fn f [] ds [] (cap.toList.map a.eval) (.nil (w:=w) (I:=I)) (hs.argsD ha)
  have e:(cap.toList.map a.eval).toArray=cap.map a.eval:=by apply Array.ext';simp
  rw [e] at this
  exact this
end
end Go.FL
namespace Go.FL
open Go Go.RowKit
def Ha (s:ByteArray) : List Nat:=s.data.toList.map UInt8.toNat
theorem FH (s:ByteArray) : (Ha s).length=s.size:=by simp [Ha]
section
variable {P:Program} {C:Cx} {X:Snap} {o:Oper} {ops:Array Oper} {Q:Exit→Env→Ad→Prop} {env env':Env} {H H':Ad} {a:Act} {w w':World} {I I':Nat→Prop} {μ μ':List Nat} {O O':Nat→Option Loc}
 {K:Env→Ad→Prop} {k:Nat} {l:List Oper}
theorem VOK.deep {e:TypeId} {xs:List DV} (h:VOK P C o env H (.own e xs)) : VOK P C o env H (.d (.sl xs)):=by
 intro X a w I μ O next Q h1 h2 h3 hs hn
 refine h X a w I μ O next Q h1 h2 h3 hs fun v w' I' bs k1 k2 k3 k4 _ k6=>?_
 have hr:Rep w' (fun b=>I' b∨b∈bs) (.sl xs) v:=by
  obtain ⟨A,c,rfl,_,hsub⟩:=Gs (I':=fun b=>I' b∨b∈bs) k4 (fun b hb=>.inl hb) (fun b hb=>.inr hb) 0 xs.length (by omega)
  have:=hsub (.slice A xs.length c) ⟨A,c,rfl,(Es k4).2.1,fun _=>⟨rfl,rfl⟩,fun _=>by cases A<;>simp [Addr.add]⟩
  simpa using this
 exact hn v w' (fun b=>I' b∨b∈bs) [] k1 (fun b hb=>.inl (k2 b hb)) (fun b hb=>by
  rcases hb with hb|hb
  ·exact k3 b hb
  ·exact ⟨(k6 b hb).2.1,fun hlt=>absurd hlt (by have:=(k6 b hb).1;omega)⟩) (.d hr) nN (by simp)
theorem PN {x i:Operand} {ty:Nat} {s:ByteArray} {q:IntKind} {z:Int} (n y:Nat) (hn:z=n) (hb:(Ha s)[n]?=some y) (hty:P.underlying ty=some .string)
  (ho:o.op=.index ty x i:=by rfl) (hv:lk env x=.d (.s s):=by rfl) (hi:lk env i=.d (.i q z):=by rfl):VOK P C o env H (.d (.i .u8 (y:Int))):=by
 subst hn
 obtain ⟨h1,h2⟩:=Av hv (by simp)
 obtain ⟨h3,h4⟩:=Av hi (by simp)
 have hl:n<s.size:=by have:=(lS.1 hb).1;rwa [FH] at this
 have:=Xk (P:=P) (C:=C) (env:=env) (H:=H) ho h1 h3 hty h2 h4 (by omega) (by omega)
 have hy:(s.data.toList.getD (n:Int).toNat 0).toNat=y:=by
  have hl2:n<s.data.toList.length:=by simpa using hl
  simp only [Ha,List.getElem?_map,lG hl2,Option.map_some,Option.some.injEq] at hb
  rw [lD,Int.toNat_natCast,lG hl2];exact hb
 rw [hy] at this
 exact .pv this
end
end Go.FL
namespace Go.FL
open Go Go.RowKit
section
variable {P:Program} {C:Cx} {X:Snap} {o:Oper} {ops:Array Oper} {Q:Exit→Env→Ad→Prop} {env env':Env} {H H':Ad} {a:Act} {w w':World} {I I':Nat→Prop} {μ μ':List Nat} {O O':Nat→Option Loc}
theorem Y8 {s:Nat} {e:TypeId} {xs:List DV} (ho:o.op=.assign (.tmp s):=by rfl) (hv:get env s=.own e xs:=by rfl) : VOK P C o env H (.ref (.t s) 0 xs.length) :=
 .rel (by simp [ho]) fun X a w I μ O _ hs=>⟨a.tmps.getD s undef,by simp [execOp,ho,Act.eval],rfl,RefRel.self (p:=.t s) hs hv rfl⟩
theorem Gh.swap {s t:Nat} {e:TypeId} {xs:List DV} (h:get env t=.ref (.t s) 0 xs.length) (hp:get env s=.own e xs) (h0:Am (get (put env s .un) t)=false) : Gh P C env H ((t,.own e xs)::put env s .un) H:=fun X a w I μ O _ _ _ hs=>by
 have ht:=hs.envr t
 rw [h] at ht
 obtain ⟨e',ys,A,n,c,q1,q2,q3,A',c',p1,p2,p3,p4⟩:=ht
 have:AV.own e xs=.own e' ys:=hp.symm.trans q1
 cases this
 obtain ⟨rfl,rfl⟩:=p3 rfl
 simp only [Bd,Option.some.injEq] at q2
 obtain ⟨k1,bs,k2,k3,k4⟩:=hs.take s (by rw [hp];rfl)
 rw [hp,q2] at k2
 have hn:n=xs.length:=(Es k2).1
 subst hn
 rw [← p1] at k2
 exact ⟨I,_,k1.adopt k2 k3 k4 h0⟩
end
end Go.FL
namespace Go.FL
open Go Go.RowKit
section
variable {P:Program} {C:Cx} {X:Snap} {o:Oper} {ops:Array Oper} {Q:Exit→Env→Ad→Prop} {env env':Env} {H H':Ad} {k:Nat} {l:List Oper} {a:Act} {w w':World} {I I':Nat→Prop} {μ μ':List Nat} {O O':Nat→Option Loc}
theorem gfu {t:Nat} (h:RL P C ops Q (k+1) l ((t,.tup [])::env) H) (hg:grd ops env o false=true:=by rfl) (hd:o.dst=some t:=by rfl) (hf:Am (get env t)=false:=by rfl) (ht:okT C.nt t:=by rfl) : RL P C ops Q k (o::l) env H:=by
 rw [← Al hf] at h
 unfold grd at hg
 split at hg
 ·cases hg
 ·rename_i j want h1
  split at hg
  ·cases hg
  ·rename_i oj h2
   split at hg
   ·cases hg
   ·rename_i d h3
    split at hg
    ·rename_i x h4
     simp at hg
     exact .guard_fu h1 h2 h3 h4 hg hd ht h
    ·rename_i h4;exact .guard_n h1 h2 h3 h4 hd ht h
    ·cases hg
def YV (ops:Array Oper) (env:Env) (o:Oper) : Bool :=
 match o.guard with
 | none=>false
 | some (j,_)=>match ops[j]? with
  | none=>false
  | some oj=>match oj.dst with
   | none=>false
   | some d=>match get env d with
    | .tup []=>true
    | _=>false
theorem gfn {t:Nat} (h:RL P C ops Q (k+1) l ((t,.tup [])::env) H) (hg:YV ops env o=true:=by rfl) (hd:o.dst=some t:=by rfl) (hf:Am (get env t)=false:=by rfl) (ht:okT C.nt t:=by rfl) : RL P C ops Q k (o::l) env H:=by
 rw [← Al hf] at h
 unfold YV at hg
 split at hg
 ·cases hg
 ·rename_i j want h1
  split at hg
  ·cases hg
  ·rename_i oj h2
   split at hg
   ·cases hg
   ·rename_i d h3
    split at hg
    ·rename_i h4
     exact .guard_n h1 h2 h3 h4 hd ht h
    ·cases hg
end
end Go.FL
namespace Go.FL
open Go Go.RowKit
section
variable {P:Program} {C:Cx} {X:Snap} {o:Oper} {ops:Array Oper} {Q:Exit→Env→Ad→Prop} {env env':Env} {H H':Ad} {a:Act} {w w':World} {I I':Nat→Prop} {μ μ':List Nat} {O O':Nat→Option Loc}
 {K:Env→Ad→Prop} {k:Nat} {l:List Oper}
theorem Sim.given2 (hs:Sim P X env H a w I μ O) (hb:Below w.heap.size w w') (hI:∀ b,I b→I' b) (hI':∀ b,I' b→b<w'.heap.size∧(b<w.heap.size→I b)) {r:AV} {v:Value} {bs:List Nat}
  (hr:ARep P w' I' μ r v bs) (hn:bs.Nodup) (hbs:∀ b∈bs,w.heap.size≤b∧b<w'.heap.size∧¬I' b):∃ O',Sim P X env H a w' I' μ O'∧Hand P w' I' μ O' r v:=by
 have h:=(hs.called hb hI hI').newR bs fun b hm=>by
  obtain ⟨h1,h2,h3⟩:=hbs b hm
  refine ⟨h2,.inl ?_,h3,fun hk=>by have:=hs.klt b hk;have:=hs.size;omega⟩
  cases hO:O b with
  | none=>rfl
  | some l=>have:=(hs.own b l hO).1;omega
 exact ⟨_,h,bs,hr,hn,fun b hm=>by simp [hm]⟩
theorem OpOK.vok {av:AV} {t:Nat} (hv:VOK P C o env H av) (hr:A5 av=false) (hd:o.dst=some t) (ht:okT C.nt t) (hK:K (put env t av) H) : OpOK P C o env H K:=by
 intro X a w I μ O next Q h1 h2 h3 hs hn
 refine hv X a w I μ O next Q h1 h2 h3 hs fun v w' I' bs hb hI hI' hvr hnd hbs=>?_
 have har:ARep P w' I' μ av v bs:=by cases av<;>first|exact hvr|simp [A5] at hr
 obtain ⟨O',k1,k2⟩:=hs.given2 hb hI hI' har hnd hbs
 rw [hd]
 exact hn _ _ _ _ _ _ _ (k1.put_hand (by rw [h1];exact ht) k2) hK
theorem vk {av:AV} {t:Nat} (hv:VOK P C o env H av) (h:RL P C ops Q (k+1) l ((t,av)::env) H) (hg:grd ops env o true=true:=by rfl) (hd:o.dst=some t:=by rfl) (hr:A5 av=false:=by rfl)
  (hf:Am (get env t)=false:=by rfl) (ht:okT C.nt t:=by rfl):RL P C ops Q k (o::l) env H:=by
 rw [← Al hf] at h
 exact .go hg (.vok hv hr hd ht h)
theorem VOK.val {av:AV} (hdef:∀ c,o.op≠.defer c) (h:∀ X a w I μ O,X.nt=C.nt→X.n0=C.n0→X.ne=C.ne→Sim P X env H a w I μ O →
  ∃ v w' I' bs,(execOp a.eval o).run P w=.ok (.value v) w'∧Below w.heap.size w w'∧(∀ b,I b→I' b)∧(∀ b,I' b→b<w'.heap.size∧(b<w.heap.size→I b))∧U9 P env H a w' I' μ av v bs∧bs.Nodup∧∀ b∈bs,w.heap.size≤b∧b<w'.heap.size∧¬I' b):VOK P C o env H av:=by
 intro X a w I μ O next Q h1 h2 h3 hs hn
 obtain ⟨v,w',I',bs,hr,q1,q2,q3,q4,q5,q6⟩:=h X a w I μ O h1 h2 h3 hs
 refine ⟨fun _ _=>trivial,?_⟩
 rw [Oper.semAt_eq _ _ _ hdef,hr,Oper.uponIn_value]
 exact hn v w' I' bs q1 q2 q3 q4 q5 q6
theorem vbx {x:Operand} {ty:Nat} {cs:List DV} (ho:o.op=.box ty x:=by rfl) (hv:Bo (lk env x)=some (.ag cs):=by rfl) : VOK P C o env H (.d (.ptr cs)) :=
 .val (by simp [ho]) fun X a w I μ O _ _ _ hs=>by
  have hr:=hs.deep (x:=x) hv
  generalize hev:a.eval x=u at hr
  cases hr with
  | ag _ vs hr =>
   refine ⟨.pointer (some ⟨w.heap.size,0,none⟩),w.alloc (.cells vs.toArray ty),fun b=>I b∨b=w.heap.size,[],?_,Bn _,fun b hi=>.inl hi,fun b hi=>?_,.d (.ptr cs w.heap.size 0 vs (.inr rfl) ?_ ?_),nN,by simp⟩
   ·simp only [execOp,ho,hev,Instr.box,Sem.run_bind,Ez,Result.andThen_ok,Sem.run_pure,Value.cells]
   ·rcases hi with hi|rfl
    ·exact ⟨nL (hs.ilt b hi) (Bn _).size,fun _=>hi⟩
    ·exact ⟨by simp,fun hlt=>absurd hlt (Nat.lt_irrefl _)⟩
   ·intro j u hj
    have hnew:(w.alloc (.cells vs.toArray ty)).heap[w.heap.size]?=some (.cells vs.toArray ty):=heap_alloc_new w _
    simp only [World.cell?,hnew]
    simpa using hj
   ·exact hr.keep (fun b hi=>(Bn _).block b (hs.ilt b hi)) fun b hi=>.inl hi
theorem vbn {x:Operand} {ty:Nat} {cs:List DV} (ho:o.op=.box ty x:=by rfl) (hv:Bo (lk env x)=some (.ag cs):=by rfl) : VOK P C o env H (.nb cs) :=
 .val (by simp [ho]) fun X a w I μ O _ _ _ hs=>by
  have hr:=hs.deep (x:=x) hv
  generalize hev:a.eval x=u at hr
  cases hr with
  | ag _ vs hr =>
   refine ⟨.pointer (some ⟨w.heap.size,0,none⟩),w.alloc (.cells vs.toArray ty),I,[w.heap.size],?_,Bn _,fun b hi=>hi,fun b hi=>⟨nL (hs.ilt b hi) (Bn _).size,fun _=>hi⟩,
    ARep.nb cs w.heap.size vs.toArray ty (heap_alloc_new w _) (hr.keep (fun b hi=>(Bn _).block b (hs.ilt b hi)) fun b hi=>hi),by simp,fun b hb=>?_⟩
   ·simp only [execOp,ho,hev,Instr.box,Sem.run_bind,Ez,Result.andThen_ok,Sem.run_pure,Value.cells]
   ·simp at hb;subst hb
    exact ⟨Nat.le_refl _,by simp,fun hi=>by have:=hs.ilt _ hi;omega⟩
theorem van {ty:Nat} {z:Value} {cs:List DV} (hz:∀ w,(zeroValue ty).run P w=.ok z w) (hcs:∀ w I,RepAll w I cs z.cells.toList) (ho:o.op=.alloc ty:=by rfl) : VOK P C o env H (.nb cs) :=
 .val (by simp [ho]) fun X a w I μ O _ _ _ hs=>by
  refine ⟨.pointer (some ⟨w.heap.size,0,none⟩),w.alloc (.cells z.cells ty),I,[w.heap.size],?_,Bn _,fun b hi=>hi,fun b hi=>⟨nL (hs.ilt b hi) (Bn _).size,fun _=>hi⟩,
   ARep.nb cs w.heap.size z.cells ty (heap_alloc_new w _) (hcs _ _),by simp,fun b hb=>?_⟩
  ·simp only [execOp,ho,Instr.alloc,Sem.run_bind,hz,Result.andThen_ok,Ez,Sem.run_pure]
  ·simp at hb;subst hb
   exact ⟨Nat.le_refl _,by simp,fun hi=>by have:=hs.ilt _ hi;omega⟩
theorem Sim.nb_inv (hs:Sim P X env H a w I μ O) {t:Nat} {cs:List DV} (hg:get env t=.nb cs) :
  ∃ blk cells e,a.tmps.getD t undef=.pointer (some ⟨blk,0,none⟩)∧w.heap[blk]?=some (.cells cells e (0,0))∧RepAll w I cs cells.toList∧O blk=some (.t t):=by
 have:=hs.envr t
 rw [hg] at this
 obtain ⟨bs,h1,h2,h3⟩:=this.plain rfl
 generalize a.tmps.getD t undef=v at h1
 cases h1 with
 | nb _ blk cells e hh hr=>exact ⟨blk,cells,e,rfl,hh,hr,h3 blk (by simp)⟩
theorem Sim.other_blk (hs:Sim P X env H a w I μ O) {t blk:Nat} (hO:O blk=some (.t t)) : (∀ b,I b→b≠blk)∧(∀ b,X.K b→b≠blk)∧∀ id ob bb bs,H[id]?=some ob→μ[id]?=some bb →
  (X.n0≤id→(bb::bs).Nodup∧∀ b∈bb::bs,O b=some (.o id))→(id<X.n0→∀ b∈bb::bs,X.K b)→∀ b∈bb::bs,b≠blk:=by
 refine ⟨fun b hi e=>?_,fun b hk e=>?_,fun id ob bb bs _ _ h3 h4 b hb e=>?_⟩
 ·subst e;exact (hs.own b _ hO).2 hi
 ·subst e;have:=hs.kO b hk;rw [hO] at this;cases this
 ·subst e
  rcases Nat.lt_or_ge id X.n0 with h|h
  ·have:=hs.kO b (h4 h b hb);rw [hO] at this;cases this
  ·have:=(h3 h).2 b hb;rw [hO] at this;cases this
theorem Sim.nbSet (hs:Sim P X env H a w I μ O) {t:Nat} {cs cs':List DV} (hg:get env t=.nb cs) {vs:List Value} (hr:RepAll w I cs' vs) :
  ∃ blk cells e,a.tmps.getD t undef=.pointer (some ⟨blk,0,none⟩)∧w.heap[blk]?=some (.cells cells e (0,0))∧RepAll w I cs cells.toList∧Sim P X ((t,.nb cs')::env) H a (w.setRow blk vs.toArray) I μ O:=by
 obtain ⟨blk,cells,e,h1,h2,h3,hO⟩:=hs.nb_inv hg
 obtain ⟨n1,n2,n3⟩:=hs.other_blk hO
 have hoth:∀ b,b≠blk→(w.setRow blk vs.toArray).heap[b]?=w.heap[b]?:=fun b hb=>setRow_other w blk b _ hb
 have hnew:=setRow_heap w blk cells vs.toArray e (0,0) h2
 refine ⟨blk,cells,e,h1,h2,h3,{hs.toMem with
  prot:=fun b hk=>(hoth b (n2 b hk)).trans (hs.prot b hk)
  os:=hs.os
  tape:=hs.tape
  output:=hs.output
  size:=by rw [setRow_size];exact hs.size
  own:=fun b l hl=>by rw [setRow_size];exact hs.own b l hl
  ilt:=fun b hi=>by rw [setRow_size];exact hs.ilt b hi
  heap:=fun id ob ho=>?_
  envr:=fun s=>?_
  nt:=hs.nt
  dfs:=hs.dfs}⟩
 ·obtain ⟨bb,bs,k1,k2,k3,k4⟩:=hs.heap id ob ho
  have hne:=n3 id ob bb bs ho k1 k3 k4
  refine ⟨bb,bs,k1,?_,k3,k4⟩
  cases ob with
  | box c =>
   obtain ⟨cl,et,m1,m2⟩:=k2
   exact ⟨cl,et,(hoth bb (hne bb (by simp))).trans m1,m2.keep (fun _ h=>h) (fun b hi=>hoth b (n1 b hi)) (fun _ _ h=>h) fun b hb=>hoth b (hne b (by simp [hb]))⟩
 ·by_cases hst:t=s
  ·subst hst
   rw [show get ((t,.nb cs')::env) t=.nb cs' by simp [get]]
   refine .of (bs:=[blk]) ?_ (by simp) (by simpa using hO)
   rw [h1]
   exact .nb cs' blk vs.toArray e hnew (hr.keep (fun b hi=>hoth b (n1 b hi)) fun _ h=>h)
  ·rw [show get ((t,.nb cs')::env) s=get env s by simp [get,hst]]
   have key:∀ p e xs,AH env H p=.own e xs→AH ((t,AV.nb cs')::env) H p=.own e xs∧∀ v,Bd a w μ p=some v→Bd a (w.setRow blk vs.toArray) μ p=some v:=by
    intro p e' xs hp
    cases p with
    | t r =>
     have hr':t≠r:=fun h=>by subst h;simp only [AH] at hp;rw [hg] at hp;cases hp
     exact ⟨by simp only [AH,get,if_neg hr'];exact hp,fun v hv=>hv⟩
    | c id off =>
     refine ⟨hp,fun v hv=>?_⟩
     simp only [Bd,Option.bind_eq_some_iff] at hv ⊢
     obtain ⟨bb,hb1,hb2⟩:=hv
     refine ⟨bb,hb1,?_⟩
     simp only [AH] at hp
     cases hH:H[id]? with
     | none=>rw [hH] at hp;cases hp
     | some ob =>
      obtain ⟨bb',bs,k1,k2,k3,k4⟩:=hs.heap id ob hH
      rw [hb1] at k1;cases k1
      rw [World.cell?_of_block (w:=w) (a:=⟨bb,off,none⟩) (hoth bb (n3 id ob bb bs hH hb1 k3 k4 bb (by simp)))]
      exact hb2
   have ht:=hs.envr s
   cases hgs:get env s with
   | ref p off len =>
    rw [hgs] at ht
    obtain ⟨e',xs,A,n,c,g1,g2,g3,g4⟩:=ht
    exact ⟨e',xs,A,n,c,(key p e' xs g1).1,(key p e' xs g1).2 _ g2,g3,g4⟩
   | ep p i k =>
    rw [hgs] at ht
    obtain ⟨e',xs,b,n,c,g1,g2,g3,g4,g5⟩:=ht
    exact ⟨e',xs,b,n,c,(key p e' xs g1).1,(key p e' xs g1).2 _ g2,g3,g4,g5⟩
   | _ =>
    rw [hgs] at ht
    obtain ⟨bs,g1,g2,g3⟩:=ht.plain rfl
    exact .of (g1.keep (fun _ h=>h) (fun b hi=>hoth b (n1 b hi)) (fun _ _ h=>h) fun b hb=>hoth b fun e=>by
     subst e
     have:=g3 b hb;rw [hO] at this;simp at this;exact hst this) g2 g3
theorem Hy {y:Operand} {t ty n:Nat} {cs cs':List DV} (hsz:Ay P ty=n) (hn:0<n) (ho:o.op=.store ty (.tmp t) y) (hv:get env t=.nb cs) (hy:Bo (lk env y)=some (.ag cs')) (hl:cs.length=n) (hl':cs'.length=n)
  (h1:cs'.all DV.leaf=true) (hd:o.dst=none) (hK:K ((t,.nb cs')::env) H):OpOK P C o env H K:=by
 refine .done (by simp [ho]) hd (fun X a w I μ O _ _ _ hs=>?_) hK
 have hr:=hs.deep (x:=y) hy
 generalize hev:a.eval y=u at hr
 cases hr with
 | ag _ vs hr =>
  obtain ⟨blk,cells,e,q1,q2,q3,q4⟩:=hs.nbSet hv hr
  refine ⟨_,I,μ,O,?_,q4⟩
  have hone:=hr.one h1
  have hvl:vs.length=n:=by rw [← hr.length];exact hl'
  have hcl:cells.size=n:=by rw [← Array.length_toList,← q3.length];exact hl
  obtain ⟨i,i1,i2⟩:=Hp (P:=P) (t:=ty) (by omega)
  have hx:a.eval (.tmp t)=.pointer (some ⟨blk,0,none⟩):=q1
  have hsi:(P.info? ty).map (·.size)=some vs.toArray.size:=by rw [i1];simp;omega
  simp only [execOp,ho,hx,hev,Instr.storeAt,Instr.sureAddr,Sem.run_bind,Sem.run_pure,Result.andThen_ok,run_storeVar_row w blk e ty cells vs.toArray q2 hsi (by simp;omega) (by
   rw [Array.all_eq_true_iff_forall_mem];intro v hv;exact hone v (by simpa using hv))]
theorem stn {y:Operand} {t ty n:Nat} {cs cs':List DV} (h:RL P C ops Q (k+1) l ((t,.nb cs')::env) H) (hsz:Ay P ty=n) (hn:0<n) (hg:grd ops env o true=true:=by rfl) (ho:o.op=.store ty (.tmp t) y:=by rfl)
  (hv:get env t=.nb cs:=by rfl) (hy:Bo (lk env y)=some (.ag cs'):=by rfl) (hl:cs.length=n:=by rfl) (hl':cs'.length=n:=by rfl) (h1:cs'.all DV.leaf=true:=by rfl) (hd:o.dst=none:=by rfl):RL P C ops Q k (o::l) env H :=
 .go hg (Hy hsz hn ho hv hy hl hl' h1 hd h)
theorem Gh.nbp {t:Nat} {cs:List DV} (hg:get env t=.nb cs) : Gh P C env H ((t,.d (.ptr cs))::env) H:=fun X a w I μ O _ _ _ hs=>by
 obtain ⟨blk,cells,e,h1,h2,h3,hO⟩:=hs.nb_inv hg
 obtain ⟨n1,n2,n3⟩:=hs.other_blk hO
 refine ⟨_,_,⟨hs.toMem.frz [blk] (fun b hm=>by simp at hm;subst hm;exact (hs.own b _ hO).1) (fun b hm hk=>by simp at hm;exact n2 b hk hm) H rfl ?_,fun s=>?_,hs.nt,hs.dfs⟩⟩
 ·intro id ob ho
  obtain ⟨bb,bs,k1,k2,k3,k4⟩:=hs.heap id ob ho
  refine ⟨bb,bs,k1,k2.mono fun _ h=>.inl h,fun hn=>⟨(k3 hn).1,fun b hb=>?_⟩,k4⟩
  have:b∉[blk]:=by simpa using n3 id ob bb bs ho k1 k3 k4 b hb
  simp only [this,if_false]
  exact (k3 hn).2 b hb
 ·by_cases hst:t=s
  ·subst hst
   rw [show get ((t,.d (.ptr cs))::env) t=.d (.ptr cs) by simp [get]]
   refine .of (bs:=[]) ?_ nN (by simp)
   rw [h1]
   refine .d (.ptr cs blk 0 cells.toList (.inr (by simp)) ?_ (h3.keep (fun _ _=>rfl) fun _ h=>.inl h))
   intro j u hj
   simp [World.cell?,h2]
   simpa using hj
  ·rw [show get ((t,.d (.ptr cs))::env) s=get env s by simp [get,hst]]
   have key:∀ p e xs,AH env H p=.own e xs→AH ((t,AV.d (.ptr cs))::env) H p=.own e xs:=by
    intro p e' xs hp
    cases p with
    | t r =>
     have hr':t≠r:=fun h=>by subst h;simp only [AH] at hp;rw [hg] at hp;cases hp
     simp only [AH,get,if_neg hr'];exact hp
    | c id off=>exact hp
   have ht:=hs.envr s
   cases hgs:get env s with
   | ref p off len =>
    rw [hgs] at ht
    obtain ⟨e',xs,A,n,c,g1,g2,g3,g4⟩:=ht
    exact ⟨e',xs,A,n,c,key p e' xs g1,g2,g3,g4⟩
   | ep p i k =>
    rw [hgs] at ht
    obtain ⟨e',xs,b,n,c,g1,g2,g3,g4,g5⟩:=ht
    exact ⟨e',xs,b,n,c,key p e' xs g1,g2,g3,g4,g5⟩
   | _ =>
    rw [hgs] at ht
    obtain ⟨bs,g1,g2,g3⟩:=ht.plain rfl
    refine .of (g1.keep (fun _ h=>.inl h) (fun _ _=>rfl) (fun _ _ h=>h) fun _ _=>rfl) g2 fun b hb=>?_
    have:b∉[blk]:=fun hm=>by
     simp at hm;subst hm
     have:=g3 b hb;rw [hO] at this;simp at this;exact hst this
    simp only [this,if_false]
    exact g3 b hb
theorem RepAll.toA : ∀ {cs:List DV} {vs:List Value},RepAll w I cs vs→ARepAll P w I μ (cs.map .d) vs []
 | _,_,.nil=>.nil
 | _,_,.cons h t=>ARepAll.cons (b1:=[]) (.d h) t.toA
def Gh2 (P:Program) (C:Cx) (env:Env) (H:Ad) (env':Env) (H':Ad) : Prop :=
 ∀ X a w I μ O,X.nt=C.nt→X.n0=C.n0→X.ne=C.ne→Sim P X env H a w I μ O→∃ I' μ' O',Sim P X env' H' a w I' μ' O'
theorem AW.gh2 {c:Code} (g:Gh2 P C env H env' H') (h:AW P C c Q env' H') : AW P C c Q env H:=fun X a w I μ O h1 h2 h3 hs =>
 let ⟨I',μ',O',hs'⟩:=g X a w I μ O h1 h2 h3 hs;h X a w I' μ' O' h1 h2 h3 hs'
theorem RL.gh2 (g:Gh2 P C env H env' H') (h:RL P C ops Q k l env' H') : RL P C ops Q k l env H:=fun hl X a w I μ O h1 h2 h3 hs =>
 let ⟨I',μ',O',hs'⟩:=g X a w I μ O h1 h2 h3 hs;h hl X a w I' μ' O' h1 h2 h3 hs'
theorem Gh.nbb {t:Nat} {cs:List DV} (hg:get env t=.nb cs) : Gh2 P C env H ((t,.bp H.length 0)::env) (H++[.box (cs.map .d)]):=fun X a w I μ O _ _ _ hs=>by
 obtain ⟨blk,cells,e,h1,h2,h3,hO⟩:=hs.nb_inv hg
 obtain ⟨n1,n2,n3⟩:=hs.other_blk hO
 have hμ:∀ (i b:Nat),μ[i]?=some b→(μ++[blk])[i]?=some b:=fun i b h=>by
  rw [List.getElem?_append_left (lS.1 h).1];exact h
 have hlast:(μ++[blk])[H.length]?=some blk:=by rw [← hs.μlen];simp
 have hO':∀ b l,O b=some l→b≠blk→(if b=blk then some (Loc.o H.length) else O b)=some l:=fun b l h hb=>by rw [if_neg hb];exact h
 have hOt:∀ b s,O b=some (.t s)→s≠t→b≠blk:=fun b s h hst e=>by subst e;rw [hO] at h;simp at h;exact hst h.symm
 refine ⟨I,μ++[blk],fun b=>if b=blk then some (.o H.length) else O b,{hs.toMem with
  kO:=fun b hk=>by rw [if_neg (n2 b hk)];exact hs.kO b hk
  own:=fun b l hl=>by
   by_cases hb:b=blk
   ·subst hb;exact hs.own b _ hO
   ·rw [if_neg hb] at hl;exact hs.own b l hl
  μlen:=by simp [hs.μlen]
  μpre:=fun i b hi hb=>hμ i b (hs.μpre i b hi hb)
  nle:=by simp;have:=hs.nle;omega
  heap:=fun id ob ho=>?_
  envr:=fun s=>?_
  nt:=hs.nt
  dfs:=hs.dfs}⟩
 ·rcases Nat.lt_or_ge id H.length with hlt|hge
  ·rw [List.getElem?_append_left hlt] at ho
   obtain ⟨bb,bs,k1,k2,k3,k4⟩:=hs.heap id ob ho
   have hne:=n3 id ob bb bs ho k1 k3 k4
   refine ⟨bb,bs,hμ _ _ k1,?_,fun hn=>⟨(k3 hn).1,fun b hb=>hO' b _ ((k3 hn).2 b hb) (hne b hb)⟩,k4⟩
   cases ob with
   | box c =>
    obtain ⟨cl,et,m1,m2⟩:=k2
    exact ⟨cl,et,m1,m2.keep (fun _ h=>h) (fun _ _=>rfl) hμ fun _ _=>rfl⟩
  ·rw [List.getElem?_append_right hge] at ho
   have hid:id=H.length:=by
    have:=(lS.1 ho).1;simp at this;omega
   subst hid
   simp at ho;subst ho
   refine ⟨blk,[],hlast,⟨cells,e,h2,h3.toA⟩,fun _=>⟨by simp,fun b hb=>?_⟩,fun hn=>?_⟩
   ·simp at hb;subst hb;rw [if_pos rfl]
   ·have:=hs.nle;have:=hs.n0le;omega
 ·by_cases hst:t=s
  ·subst hst
   rw [show get ((t,.bp H.length 0)::env) t=.bp H.length 0 by simp [get]]
   refine .of (bs:=[]) ?_ nN (by simp)
   rw [h1]
   exact .bp _ _ _ hlast
  ·rw [show get ((t,.bp H.length 0)::env) s=get env s by simp [get,hst]]
   have key:∀ p e xs,AH env H p=.own e xs→AH ((t,AV.bp H.length 0)::env) (H++[.box (cs.map .d)]) p=.own e xs∧∀ v,Bd a w μ p=some v→Bd a w (μ++[blk]) p=some v:=by
    intro p e' xs hp
    cases p with
    | t r =>
     have hr':t≠r:=fun h=>by subst h;simp only [AH] at hp;rw [hg] at hp;cases hp
     exact ⟨by simp only [AH,get,if_neg hr'];exact hp,fun v hv=>hv⟩
    | c id off =>
     refine ⟨?_,fun v hv=>?_⟩
     ·simp only [AH] at hp ⊢
      cases hH:H[id]? with
      | none=>rw [hH] at hp;cases hp
      | some ob=>rw [List.getElem?_append_left (lS.1 hH).1,hH];rw [hH] at hp;exact hp
     ·simp only [Bd,Option.bind_eq_some_iff] at hv ⊢
      obtain ⟨bb,hb1,hb2⟩:=hv
      exact ⟨bb,hμ _ _ hb1,hb2⟩
   have ht:=hs.envr s
   cases hgs:get env s with
   | ref p off len =>
    rw [hgs] at ht
    obtain ⟨e',xs,A,n,c,g1,g2,g3,g4⟩:=ht
    exact ⟨e',xs,A,n,c,(key p e' xs g1).1,(key p e' xs g1).2 _ g2,g3,g4⟩
   | ep p i k =>
    rw [hgs] at ht
    obtain ⟨e',xs,b,n,c,g1,g2,g3,g4,g5⟩:=ht
    exact ⟨e',xs,b,n,c,(key p e' xs g1).1,(key p e' xs g1).2 _ g2,g3,g4,g5⟩
   | _ =>
    rw [hgs] at ht
    obtain ⟨bs,g1,g2,g3⟩:=ht.plain rfl
    exact .of (g1.keep (fun _ h=>h) (fun _ _=>rfl) hμ fun _ _=>rfl) g2 fun b hb=>hO' b _ (g3 b hb) (hOt b s (g3 b hb) fun e=>hst e.symm)
end
end Go.FL
namespace Go.FL
open Go Go.RowKit
def Sb : List DV→Nat→List DV→List DV
 | zs,_,[]=>zs
 | zs,off,c::cs=>Sb (zs.set off c) (off+1) cs
def PL (places:List (Nat×Nat)) : List DV→List (Nat×DV)→Option (List DV)
 | zs,[]=>some zs
 | zs,(i,d)::r=>match places[i]? with
  | none=>none
  | some (off,n)=>if d.flat&&Nat.beq d.cells.length n&&Nat.ble (off+n) zs.length then PL places (Sb zs off d.cells) r else none
def Da (P:Program) (t:Nat) : Option (List (Nat×Nat)) :=
 match P.underlying t with
 | some (.struct fields)=>fields.toList.mapM (fun f=>(P.info? f.type).map fun i=>(f.offset,i.size))
 | _=>none
def GB (env:Env) : List (Nat×Operand)→Option (List (Nat×DV))
 | []=>some []
 | (i,x)::r=>match Bo (lk env x),GB env r with
  | some v,some vs=>some ((i,v)::vs)
  | _,_=>none
def Pp : List AV→Option (List DV)
 | []=>some []
 | .d v::r=>(Pp r).map (v::·)
 | .nl::r=>(Pp r).map (.sl []::·)
 | _::_=>none
section
variable {P:Program} {C:Cx} {X:Snap} {o:Oper} {ops:Array Oper} {Q:Exit→Env→Ad→Prop} {env env':Env} {H H':Ad} {a:Act} {w w':World} {I I':Nat→Prop} {μ μ':List Nat} {O O':Nat→Option Loc}
 {K:Env→Ad→Prop} {k:Nat} {l:List Oper}
theorem N6 (off:Nat) : ∀ {cs:List DV} {us:List Value} (k:Nat) {zs:List DV} {cells:Array Value},RepAll w I cs us→RepAll w I zs cells.toList →
  RepAll w I (Sb zs (off+k) cs) ((us.zipIdx k).foldl (fun (cs:Array Value) x=>cs.setIfInBounds (off+x.2) x.1) cells).toList
 | _,_,k,zs,cells,.nil,hz=>hz
 | _,_,k,zs,cells,.cons (c:=c) (v:=v) h t,hz=>by
  rw [List.zipIdx_cons,List.foldl_cons,Sb]
  exact N6 off (k+1) t (by rw [Array.toList_setIfInBounds];exact hz.set _ h)
theorem QS {places:List (Nat×Nat)} : ∀ {ps:List (Nat×DV)} {vs:List (Nat×Value)} {zs cs:List DV} {cells:Array Value},PL places zs ps=some cs→RepAll w I zs cells.toList →
  vs.map (·.1)=ps.map (·.1)→RepAll w I (ps.map (·.2)) (vs.map (·.2))→∃ cells',Instr.fill (places.toArray[·]?) cells vs=some cells'∧RepAll w I cs cells'.toList
 | [],vs,zs,cs,cells,h,hz,h1,h2=>by
  have:vs=[]:=by simpa using h1
  subst this
  simp only [PL,Option.some.injEq] at h;subst h
  exact ⟨cells,rfl,hz⟩
 | (i,d)::ps,[],zs,cs,cells,h,hz,h1,h2=>by simp at h1
 | (i,d)::ps,(j,v)::vs,zs,cs,cells,h,hz,h1,h2=>by
  simp only [List.map_cons,List.cons.injEq] at h1
  obtain ⟨rfl,h1⟩:=h1
  simp only [List.map_cons] at h2
  cases h2 with
  | cons hd ht =>
   simp only [PL] at h
   cases hp:places[j]? with
   | none=>rw [hp] at h;cases h
   | some on =>
    obtain ⟨off,n⟩:=on
    rw [hp] at h
    simp only at h
    split at h
    ·rename_i hc
     simp only [Bool.and_eq_true,Nat.ble_eq] at hc
     obtain ⟨⟨c1,c2⟩,c3⟩:=hc
     obtain ⟨k1,k2⟩:=hd.vcells c1
     have hvl:v.cells.size=n:=by rw [← Array.length_toList,← k1.length];exact Nat.eq_of_beq_eq_true c2
     have hzl:cells.size=zs.length:=by rw [← Array.length_toList,← hz.length]
     have hs:=N6 (w:=w) (I:=I) off 0 (zs:=zs) (cells:=cells) k1 hz
     obtain ⟨cells',f1,f2⟩:=QS h hs h1 ht
     refine ⟨cells',?_,f2⟩
     have hp':places.toArray[j]?=some (off,n):=by simpa using hp
     simp only [Instr.fill,hp']
     rw [if_neg (by simp;omega)]
     rw [← f1]
     congr 1
     rw [← Array.foldl_toList]
     simp
    ·cases h
theorem vbd {ty:Nat} {parts:Array (Nat×Operand)} {places:List (Nat×Nat)} {z:Value} {zs cs:List DV} {ps:List (Nat×DV)} (hp:Da P ty=some places) (hz:(P.info? ty).bind (·.zero)=some z) (hzr:∀ w I,RepAll w I zs z.cells.toList)
  (ho:o.op=.build ty parts:=by rfl) (hps:GB env parts.toList=some ps:=by rfl) (hf:PL places zs ps=some cs:=by rfl):VOK P C o env H (.d (.ag cs)) :=
 .val (by simp [ho]) fun X a w I μ O _ _ _ hs=>by
  have key:∀ {xs:List (Nat×Operand)} {ps:List (Nat×DV)},GB env xs=some ps→(xs.map fun x=>(x.1,a.eval x.2)).map (·.1)=ps.map (·.1)∧RepAll w I (ps.map (·.2)) ((xs.map fun x=>(x.1,a.eval x.2)).map (·.2)):=by
   intro xs
   induction xs with
   | nil=>intro ps h;simp only [GB,Option.some.injEq] at h;subst h;exact ⟨rfl,.nil⟩
   | cons x xs ih =>
    intro ps h
    obtain ⟨i,x⟩:=x
    simp only [GB] at h
    cases h1:Bo (lk env x) with
    | none=>rw [h1] at h;cases h
    | some v =>
     cases h2:GB env xs with
     | none=>rw [h1,h2] at h;cases h
     | some vs =>
      rw [h1,h2] at h
      simp only [Option.some.injEq] at h;subst h
      obtain ⟨q1,q2⟩:=ih h2
      exact ⟨by simp only [List.map_cons];rw [q1],.cons (hs.deep h1) q2⟩
  obtain ⟨k1,k2⟩:=key hps
  obtain ⟨cells,f1,f2⟩:=QS hf (hzr w I) k1 k2
  have hb:P.built ty (parts.map fun x=>(x.1,a.eval x.2)).toList=some cells:=by
   unfold Da at hp
   unfold Program.built
   cases hi:P.info? ty with
   | none=>rw [hi] at hz;cases hz
   | some it =>
    rw [hi] at hz
    simp only [oB] at hz
    split at hp
    ·rename_i fields hu
     simp only [hu,hz,hp]
     rw [Array.toList_map];exact f1
    ·cases hp
  refine ⟨.agg cells,w,I,[],?_,Below.refl _ _,fun _ h=>h,fun b hi=>⟨hs.ilt b hi,fun _=>hi⟩,.d ?_,nN,by simp⟩
  ·simp only [execOp,ho,Sem.run_bind]
   have:=run_build (P:=P) w ty (parts.map fun x=>(x.1,a.eval x.2)) cells hb
   rw [show (parts.map fun x=>match x with|(i,x)=>(i,a.eval x))=parts.map (fun (x:Nat×Operand)=>(x.1,a.eval x.2)) from rfl,this]
   simp only [Result.andThen_ok,Sem.run_pure]
  ·have:=Rep.ag cs cells.toList f2
   simpa using this
theorem Ao {x:Operand} {ty n:Nat} {cs:List DV} (hag:B1 P ty=some true) (hn:Ay P ty=n) (hn0:0<n:=by decide) (ho:o.op=.load ty x:=by rfl) (hv:lk env x=.d (.ptr cs):=by rfl) (hc:Nat.ble n cs.length=true:=by rfl) :
  VOK P C o env H (.d (.ag (cs.take n))):=by
 obtain ⟨h1,h2⟩:=Av hv (by simp)
 exact .pv (Q7 ho h1 hag hn hn0 h2 (Nat.le_of_ble_eq_true hc))
theorem GL {x:Operand} {ty id off:Nat} {cs:List AV} {c:DV} (hH:H[id]?=some (.box cs)) (hc:cs[off]?=some (.d c)) (hag:B1 P ty=some false) (ho:o.op=.load ty x:=by rfl) (hv:lk env x=.bp id off:=by rfl) : VOK P C o env H (.d c):=by
 obtain ⟨h1,h2⟩:=Av hv (by simp)
 exact .pv (Oe ho h1 hag h2 hH hc rfl)
theorem Ko : ∀ {cs:List AV} {ds:List DV} {vs:List Value} {bs:List Nat},Pp cs=some ds→ARepAll P w I μ cs vs bs→RepAll w I ds vs
 | [],_,_,_,h,.nil=>by simp only [Pp,Option.some.injEq] at h;subst h;exact .nil
 | c::cs,ds,_,_,h,.cons hh ht=>by
  cases c with
  | d v =>
   simp only [Pp,Option.map_eq_some_iff] at h
   obtain ⟨r,h1,rfl⟩:=h
   cases hh with
   | d hh=>exact .cons hh (Ko h1 ht)
  | nl =>
   simp only [Pp,Option.map_eq_some_iff] at h
   obtain ⟨r,h1,rfl⟩:=h
   cases hh with
   | nl=>exact .cons (.sl0 _ _) (Ko h1 ht)
  | _=>simp [Pp] at h
theorem IC {x:Operand} {ty id n:Nat} {cs:List AV} {ds:List DV} (hH:H[id]?=some (.box cs)) (hag:B1 P ty=some true) (hn:Ay P ty=n) (hn0:0<n:=by decide) (ho:o.op=.load ty x:=by rfl) (hv:lk env x=.bp id 0:=by rfl)
  (hd:Pp cs=some ds:=by rfl) (hl:ds.length=n:=by rfl):VOK P C o env H (.d (.ag ds)):=by
 obtain ⟨h1,h2⟩:=Av hv (by simp)
 refine .val (by simp [ho]) fun X a w I μ O _ _ _ hs=>?_
 obtain ⟨blk,hm,he⟩:=hs.bp h1 h2
 obtain ⟨blk',bs,k1,⟨cells,et,m1,m2⟩,_,_⟩:=hs.heap id _ hH
 rw [hm] at k1;cases k1
 have hr:=Ko hd m2
 have hh:Has w blk 0 cells.toList:=fun j u hj=>by simp only [World.cell?,m1,Nat.zero_add];simpa using hj
 refine ⟨.agg cells.toList.toArray,w,I,[],?_,Below.refl _ _,fun _ h=>h,fun b hi=>⟨hs.ilt b hi,fun _=>hi⟩,.d (.ag ds cells.toList hr),nN,by simp⟩
 simp only [execOp,ho,Instr.loadAt,he,Instr.sureAddr,Sem.run_bind,Sem.run_pure,Result.andThen_ok,CW hag hn hn0 hh (by rw [← hr.length];exact hl)]
theorem DF {t ty n:Nat} {cs:List DV} (hag:B1 P ty=some true) (hn:Ay P ty=n) (hn0:0<n:=by decide) (ho:o.op=.load ty (.tmp t):=by rfl) (hv:get env t=.nb cs:=by rfl) (hl:cs.length=n:=by rfl) : VOK P C o env H (.d (.ag cs)):=by
 refine .val (by simp [ho]) fun X a w I μ O _ _ _ hs=>?_
 obtain ⟨blk,cells,e,h1,h2,h3,_⟩:=hs.nb_inv hv
 have he:a.eval (.tmp t)=.pointer (some ⟨blk,0,none⟩):=h1
 have hh:Has w blk 0 cells.toList:=fun j u hj=>by simp only [World.cell?,h2,Nat.zero_add];simpa using hj
 refine ⟨.agg cells.toList.toArray,w,I,[],?_,Below.refl _ _,fun _ h=>h,fun b hi=>⟨hs.ilt b hi,fun _=>hi⟩,.d (.ag cs cells.toList h3),nN,by simp⟩
 simp only [execOp,ho,Instr.loadAt,he,Instr.sureAddr,Sem.run_bind,Sem.run_pure,Result.andThen_ok,CW hag hn hn0 hh (by rw [← h3.length];exact hl)]
theorem vfa {x:Operand} {s f off n:Nat} {cs:List DV} (hf:Bs P s f=some (off,n)) (hn:0<n:=by decide) (ho:o.op=.fieldAddr s x f:=by rfl) (hv:lk env x=.d (.ptr cs):=by rfl) : VOK P C o env H (.d (.ptr (cs.drop off))):=by
 obtain ⟨h1,h2⟩:=Av hv (by simp)
 exact .pv (Q8 ho h1 hf hn h2)
theorem GK {x:Operand} {s f off n id p:Nat} (hf:Bs P s f=some (off,n)) (hn:0<n:=by decide) (ho:o.op=.fieldAddr s x f:=by rfl) (hv:lk env x=.bp id p:=by rfl) : VOK P C o env H (.bp id (p+off)):=by
 obtain ⟨h1,h2⟩:=Av hv (by simp)
 exact .pv (SS ho h1 hf hn h2)
theorem vfd {x:Operand} {s f off:Nat} {c:DV} {cs:List DV} {ft:TypeId} (hf:Bs P s f=some (off,1)) (hft:∃ fs fl,P.underlying s=some (.struct fs)∧fs[f]?=some fl∧fl.type=ft) (hag:B1 P ft=some false)
  (hv:lk env x=.d (.ag cs)) (hc:cs[off]?=some c) (ho:o.op=.field s x f:=by rfl):VOK P C o env H (.d c):=by
 refine .val (by simp [ho]) fun X a w I μ O _ _ _ hs=>?_
 have hr:=hs.deep (x:=x) (v:=.ag cs) (by rw [hv];rfl)
 obtain ⟨fs,fl,i,g1,g2,g3,g4,g5⟩:=I5 hf
 obtain ⟨fs',fl',e1,e2,e3⟩:=hft
 rw [g1] at e1;cases e1
 rw [g2] at e2;cases e2
 subst e3
 generalize hev:a.eval x=u at hr
 cases hr with
 | ag _ vs hr =>
  obtain ⟨v,k1,k2⟩:=hr.get off c hc
  refine ⟨v,w,I,[],?_,Below.refl _ _,fun _ h=>h,fun b hi=>⟨hs.ilt b hi,fun _=>hi⟩,.d k2,nN,by simp⟩
  have hoff:vs[fl.offset]?=some v:=by rw [g3];exact k1
  simp [execOp,ho,hev,Instr.field,run_underlying g1,g2,part,Jk hag,asAgg,hoff]
theorem VOK.tupd {vs:List DV} (h:VOK P C o env H (.tup (vs.map .d))) : VOK P C o env H (.d (.tup vs)):=by
 intro X a w I μ O next Q h1 h2 h3 hs hn
 refine h X a w I μ O next Q h1 h2 h3 hs fun v w' I' bs k1 k2 k3 k4 k5 k6=>hn v w' I' bs k1 k2 k3 ?_ k5 k6
 have key:∀ {vs:List DV} {us:List Value} {bs:List Nat},ARepAll P w' I' μ (vs.map .d) us bs→RepAll w' I' vs us∧bs=[]:=by
  intro vs
  induction vs with
  | nil=>intro us bs h;cases h;exact ⟨.nil,rfl⟩
  | cons v vs ih =>
   intro us bs h
   cases h with
   | cons hh ht =>
    obtain ⟨q1,rfl⟩:=ih ht
    cases hh with
    | d hh=>exact ⟨.cons hh q1,rfl⟩
 replace k4:ARep P w' I' μ (.tup (vs.map .d)) v bs:=k4
 cases k4 with
 | tup k4 =>
  obtain ⟨q1,rfl⟩:=key k4
  exact .d (.tup vs _ q1)
theorem vex {x:Operand} {i:Nat} {vs:List DV} {c:DV} (ho:o.op=.extract x i:=by rfl) (hv:lk env x=.d (.tup vs):=by rfl) (hc:vs[i]?=some c:=by rfl) : VOK P C o env H (.d c):=by
 refine .val (by simp [ho]) fun X a w I μ O _ _ _ hs=>?_
 have hr:=hs.deep (x:=x) (v:=.tup vs) (by rw [hv];rfl)
 generalize hev:a.eval x=u at hr
 cases hr with
 | tup _ us hr =>
  obtain ⟨v,k1,k2⟩:=hr.get i c hc
  refine ⟨v,w,I,[],?_,Below.refl _ _,fun _ h=>h,fun b hi=>⟨hs.ilt b hi,fun _=>hi⟩,.d k2,nN,by simp⟩
  have:us.toArray[i]?=some v:=by simpa using k1
  simp [execOp,ho,hev,Instr.extract,this]
end
end Go.FL
namespace Go.FL
open Go Go.RowKit
def cellD (P:Program) (env:Env) (t ty:Nat) (cs:List DV) : Prop:=(get env t=.d (.ptr cs)∨get env t=.nb cs)∧B1 P ty=some true∧Ay P ty=cs.length∧0<cs.length
def TI (P:Program) (env:Env) (r:AV) : List ResultVar→Prop
 | [.cell t ty]=>∃ cs,cellD P env t ty cs∧r=.d (.ag cs)
 | [.cell t ty,.tmp u]=>∃ cs v,cellD P env t ty cs∧Bo (get env u)=some v∧r=.tup [.d (.ag cs),.d v]
 | _=>False
def Y9 (P:Program) (rs:List ResultVar) (r:AV) : Exit→Env→Ad→Prop
 | .normal,env,_=>TI P env r rs
 | .ret,env,_=>TI P env r rs
 | _,_,_=>False
section
variable {P:Program} {X:Snap} {env:Env} {H:Ad} {a:Act} {w:World} {I:Nat→Prop} {μ:List Nat} {O:Nat→Option Loc}
theorem Sim.cellD (hs:Sim P X env H a w I μ O) {t ty:Nat} {cs:List DV} (h:Go.FL.cellD P env t ty cs) : ∃ p v,a.tmps.getD t undef=.pointer (some p)∧(loadVar ty p).run P w=.ok v w∧Rep w I (.ag cs) v:=by
 obtain ⟨h1,h2,h3,h4⟩:=h
 rcases h1 with h1|h1
 ·have:=hs.envr t
  rw [h1] at this
  obtain ⟨bs,g1,_⟩:=this.plain rfl
  generalize a.tmps.getD t undef=u at g1
  cases g1 with
  | d g1 =>
   cases g1 with
   | ptr _ b off vs k1 k2 k3=>exact ⟨_,_,rfl,CW h2 h3 h4 k2 k3.length.symm,.ag _ _ k3⟩
 ·obtain ⟨blk,cells,e,g1,g2,g3,_⟩:=hs.nb_inv h1
  have hh:Has w blk 0 cells.toList:=fun j u hj=>by simp only [World.cell?,g2,Nat.zero_add];simpa using hj
  exact ⟨_,_,g1,CW h2 h3 h4 hh g3.length.symm,.ag _ _ g3⟩
theorem Sim.deepT (hs:Sim P X env H a w I μ O) {t:Nat} {v:DV} (h:Bo (get env t)=some v) : Rep w I v (a.tmps.getD t undef):=hs.deep (x:=.tmp t) h
theorem Sim.resultsC (hs:Sim P X env H a w I μ O) {fn:Func} {rs:List ResultVar} (hrs:fn.results=rs.toArray) {r:AV} (h:TI P env r rs) :
  ∃ v bs,(Go.results fn a.tmps).run P w=.ok v w∧ARep P w I μ r v bs∧bs.Nodup∧∀ b∈bs,∃ l,O b=some l:=by
 unfold TI at h
 split at h
 ·rename_i t ty
  obtain ⟨cs,h1,rfl⟩:=h
  obtain ⟨p,v,k1,k2,k3⟩:=hs.cellD h1
  refine ⟨v,[],?_,.d k3,nN,by simp⟩
  have hx:(do let x ← (do loadVar ty (← asAddr (a.tmps.getD t undef)));pure x).run P w=.ok v w:=by rw [k1];simp [asAddr,k2]
  simp only [Go.results,hrs]
  simpa using hx
 ·obtain ⟨cs,u,h1,h2,rfl⟩:=h
  obtain ⟨p,v,k1,k2,k3⟩:=hs.cellD h1
  refine ⟨_,[],(results_cell_tmp (by rw [hrs]) _ _ _).trans (by rw [k1];simp [asAddr,k2]),.tup (us:=[v,_]) (ARepAll.cons (b1:=[]) (.d k3) (ARepAll.cons (b1:=[]) (.d (hs.deepT h2)) .nil)),nN,by simp⟩
 ·exact h.elim
theorem Fn.ofC {f:FuncId} {fn:Func} {c:Code} {args:List DV} {r:AV} {rs:List ResultVar} {nt:Nat} (hf:P.funcs[f]?=some fn) (hb:fn.body=some c) (hrs:fn.results=rs.toArray) (hnt:fn.ntmps=nt) (hn:args.length≤nt) (hbp:noBp r=true)
  (h:AW P {nt:=(0,nt),n0:=0,ne:=0} c (Y9 P rs r) (Dm 0 args) []):Fn P f args r:=by
 intro w I vs hI ha
 refine callsIn_of_wp hf hb trivial ?_
 have hlen:=ha.length
 let X:Snap:={w:=w,I:=I,K:=fun b=>b<w.heap.size,n0:=0,ne:=0,μ:=[],nt:=(0,nt),dfs:=[]}
 let a:Act:={tmps:=vs.toArray++Array.replicate (fn.ntmps-vs.toArray.size) undef,defers:=[]}
 have hs:Sim P X (Dm 0 args) [] a w I [] (fun _=>none):=by
  refine ⟨{prot:=fun _ _=>rfl,kO:=fun _ _=>rfl,kI:=fun _ _ h=>h,mono:=fun _ h=>h,os:=rfl,tape:=rfl,output:=rfl,size:=Nat.le_refl _,own:=(fun b l h=>by simp at h),ilt:=hI,μlen:=rfl,μpre:=(fun i b hi _=>by simp [X] at hi),nle:=(by simp [X]),heap:=(fun id o h=>by simp at h),klt:=fun b hb=>hb,n0le:=(by simp [X])},fun t=>?_,?_,rfl,fun t h=>absurd h (by simp [X])⟩
  ·rcases EC (tmps:=a.tmps) (k:=0) ha (fun j v hj=>by
    have hjl:j<vs.length:=(lS.1 hj).1
    have e2:(vs.toArray++Array.replicate (fn.ntmps-vs.length) undef)[j]?=some v:=by
     rw [Array.getElem?_append_left (by simpa using hjl)];simpa using hj
    simp [a,e2]) t with h0|⟨d,h0,h1⟩
   ·rw [h0];exact .un
   ·rw [h0];exact .of (bs:=[]) (.d h1) nN (by simp)
  ·simp [a,X,hnt];omega
 have hw:=h X a w I [] (fun _=>none) rfl rfl rfl hs
 refine wpIn_mono hw fun e a' w' hp=>?_
 obtain ⟨env',H',I',μ',O',s,q⟩:=hp
 have fin:TI P env' r rs→a'.defers=[]∧∃ v,(Go.results fn a'.tmps).run P w'=.ok v w'∧∃ v' I' bs,Ending.returned v=.returned v'∧Below w.heap.size w w'∧(∀ b,I b→I' b) ∧
   (∀ b,I' b→b<w'.heap.size∧(b<w.heap.size→I b))∧ARep P w' I' [] r v' bs∧bs.Nodup∧∀ b∈bs,w.heap.size≤b∧b<w'.heap.size∧¬I' b:=by
  intro hres
  obtain ⟨v,bs,h1,h2,h3,h4⟩:=s.resultsC hrs hres
  refine ⟨s.dfs.1,v,h1,v,I',bs,rfl,⟨s.os,s.tape,s.output,s.size,fun b hb=>s.prot b hb⟩,s.mono,fun b hi=>⟨s.ilt b hi,fun hb=>s.kI b hb hi⟩,h2.noBp hbp,h3,fun b hm=>?_⟩
  obtain ⟨l,hl⟩:=h4 b hm
  refine ⟨?_,(s.own b l hl).1,(s.own b l hl).2⟩
  rcases Nat.lt_or_ge b w.heap.size with hlt|hge
  ·have:=s.kO b hlt;rw [this] at hl;cases hl
  ·exact hge
 cases e with
 | normal=>exact fin q
 | ret=>exact fin q
 | _=>exact q.elim
theorem U4 {C:Cx} {o:Oper} {K:Env→Ad→Prop} {x:Operand} {t:Nat} {v:DV} (ho:o.op=.assign x) (hv:lk env x=.d v) (hd:o.dst=some t) (hf:Am (get env t)=false) (ht:okT C.nt t) (hK:K ((t,.d v)::env) H) : OpOK P C o env H K :=
 .vok (Ya ho hv) rfl hd ht (by rw [Al hf];exact hK)
end
end Go.FL
namespace Go.FL
open Go Go.RowKit
section
variable {P:Program} {C:Cx} {X:Snap} {o:Oper} {ops:Array Oper} {Q:Exit→Env→Ad→Prop} {env env':Env} {H H':Ad} {a:Act} {w w':World} {I I':Nat→Prop} {μ μ':List Nat} {O O':Nat→Option Loc}
 {K:Env→Ad→Prop} {k:Nat} {l:List Oper}
theorem Sim.blkSet (hs:Sim P X env H a w I μ O) {t blk:Nat} {av:AV} (hO:O blk=some (.t t)) (hno:Am (get env t)=false) (hr:A5 av=false) (hoth:∀ b,b≠blk→w'.heap[b]?=w.heap[b]?) (hsz:w'.heap.size=w.heap.size)
  (hos:w'.os=w.os) (htp:w'.tape=w.tape) (hout:w'.output=w.output) (hnew:ARep P w' I μ av (a.tmps.getD t undef) [blk]):Sim P X ((t,av)::env) H a w' I μ O:=by
 obtain ⟨n1,n2,n3⟩:=hs.other_blk hO
 refine {hs.toMem with
  prot:=fun b hk=>(hoth b (n2 b hk)).trans (hs.prot b hk)
  os:=hos.trans hs.os
  tape:=htp.trans hs.tape
  output:=hout.trans hs.output
  size:=by rw [hsz];exact hs.size
  own:=fun b l hl=>by rw [hsz];exact hs.own b l hl
  ilt:=fun b hi=>by rw [hsz];exact hs.ilt b hi
  heap:=fun id ob ho=>?_
  envr:=fun s=>?_
  nt:=hs.nt
  dfs:=hs.dfs}
 ·obtain ⟨bb,bs,k1,k2,k3,k4⟩:=hs.heap id ob ho
  have hne:=n3 id ob bb bs ho k1 k3 k4
  refine ⟨bb,bs,k1,?_,k3,k4⟩
  cases ob with
  | box c =>
   obtain ⟨cl,et,m1,m2⟩:=k2
   exact ⟨cl,et,(hoth bb (hne bb (by simp))).trans m1,m2.keep (fun _ h=>h) (fun b hi=>hoth b (n1 b hi)) (fun _ _ h=>h) fun b hb=>hoth b (hne b (by simp [hb]))⟩
 ·by_cases hst:t=s
  ·subst hst
   rw [show get ((t,av)::env) t=av by simp [get]]
   exact .of hnew (by simp) (by simpa using hO)
  ·rw [show get ((t,av)::env) s=get env s by simp [get,hst]]
   have key:∀ p e xs,AH env H p=.own e xs→AH ((t,av)::env) H p=.own e xs∧∀ v,Bd a w μ p=some v→Bd a w' μ p=some v:=by
    intro p e' xs hp
    cases p with
    | t r =>
     have hr':t≠r:=fun h=>by subst h;simp only [AH] at hp;rw [hp] at hno;cases hno
     exact ⟨by simp only [AH,get,if_neg hr'];exact hp,fun v hv=>hv⟩
    | c id off =>
     refine ⟨hp,fun v hv=>?_⟩
     simp only [Bd,Option.bind_eq_some_iff] at hv ⊢
     obtain ⟨bb,hb1,hb2⟩:=hv
     refine ⟨bb,hb1,?_⟩
     simp only [AH] at hp
     cases hH:H[id]? with
     | none=>rw [hH] at hp;cases hp
     | some ob =>
      obtain ⟨bb',bs,k1,k2,k3,k4⟩:=hs.heap id ob hH
      rw [hb1] at k1;cases k1
      rw [World.cell?_of_block (w:=w) (a:=⟨bb,off,none⟩) (hoth bb (n3 id ob bb bs hH hb1 k3 k4 bb (by simp)))]
      exact hb2
   have ht:=hs.envr s
   cases hgs:get env s with
   | ref p off len =>
    rw [hgs] at ht
    obtain ⟨e',xs,A,n,c,g1,g2,g3,g4⟩:=ht
    exact ⟨e',xs,A,n,c,(key p e' xs g1).1,(key p e' xs g1).2 _ g2,g3,g4⟩
   | ep p i k =>
    rw [hgs] at ht
    obtain ⟨e',xs,b,n,c,g1,g2,g3,g4,g5⟩:=ht
    exact ⟨e',xs,b,n,c,(key p e' xs g1).1,(key p e' xs g1).2 _ g2,g3,g4,g5⟩
   | _ =>
    rw [hgs] at ht
    obtain ⟨bs,g1,g2,g3⟩:=ht.plain rfl
    exact .of (g1.keep (fun _ h=>h) (fun b hi=>hoth b (n1 b hi)) (fun _ _ h=>h) fun b hb=>hoth b fun e=>by
     subst e
     have:=g3 b hb;rw [hO] at this;simp at this;exact hst this) g2 g3
end
end Go.FL
namespace Go.FL
open Go Go.Proofs
theorem A3 : Tryz.prog.follows .mixedOrders=true:=by kernel_rfl
theorem s32 : CB Tryz.prog 32=some (23,1,4):=by kernel_rfl
theorem e32 : Cz Tryz.prog 32=some (23,1,4,.int .u32 0):=by kernel_rfl
theorem l32 : Tryz.prog.underlying 32=some (.slice (Tryz.prog.elem 32)):=by kernel_rfl
theorem a32 : B1 Tryz.prog 23=some false:=by kernel_rfl
theorem z32 : Ay Tryz.prog 23=1:=by kernel_rfl
theorem slm : CB Tryz.prog 235=some (23,1,4):=by kernel_rfl
theorem elm : Cz Tryz.prog 235=some (23,1,4,.int .u32 0):=by kernel_rfl
theorem llm : Tryz.prog.underlying 235=some (.slice (Tryz.prog.elem 235)):=by kernel_rfl
theorem alm : B1 Tryz.prog 235=some false:=by kernel_rfl
theorem zlm : Ay Tryz.prog 235=1:=by kernel_rfl
theorem u32 : Tryz.prog.underlying 23=some (.int .u32):=by kernel_rfl
theorem u64 : Tryz.prog.underlying 96=some (.int .u64):=by kernel_rfl
theorem i64 : Tryz.prog.underlying 3=some (.int .i64):=by kernel_rfl
theorem u8 : Tryz.prog.underlying 5=some (.int .u8):=by kernel_rfl
theorem bo : Tryz.prog.underlying 4=some .bool:=by kernel_rfl
theorem st : Tryz.prog.underlying 9=some .string:=by kernel_rfl
def U (n:Nat) : DV:=.i .u32 n
def L (xs:List Nat) : List DV:=xs.map U
theorem Ab (xs:List Nat) : (L xs).length=xs.length:=by simp [L]
theorem BZ (xs:List Nat) : ∃ sz,∀ x∈L xs,x.cells.length=sz:=⟨1,fun x hx=>by
 simp only [L,List.mem_map] at hx
 obtain ⟨n,_,rfl⟩:=hx;rfl⟩
theorem Sr (xs:List Nat) : ∀ x∈L xs,x.cells.length=1:=fun x hx=>by
 simp only [L,List.mem_map] at hx
 obtain ⟨n,_,rfl⟩:=hx;rfl
theorem F6 {xs:List Nat} {i n:Nat} (h:xs[i]?=some n) : (L xs)[i]?=some (U n):=by simp [L,h]
theorem Ug (xs ys:List Nat) : L (xs++ys)=L xs++L ys:=by simp [L]
theorem UU (xs:List Nat) (n:Nat) : (L xs).take n=L (xs.take n):=by simp [L,List.map_take]
def ND (xs:List Nat) : List Nat:=(xs.reverse.dropWhile (· == 0)).reverse
theorem K7 (xs:List Nat) : ND (xs++[0])=ND xs:=by simp [ND]
theorem MT (xs:List Nat) {x:Nat} (h:x≠0) : ND (xs++[x])=xs++[x]:=by simp [ND,h]
end Go.FL
namespace Go.FL
open Go Go.RowKit
def AC : Nat:=1000000000000000
def rd? {α:Type} (xs:List α) (i:Int) : Option α:=if 0≤i then xs[i.toNat]? else none
def ap? {α:Type} (m:Nat) (xs ys:List α) : Option (List α):=if xs.length+ys.length≤m then some (xs++ys) else none
def jn {α β:Type} (k:α) (b:α→β) : β:=b k
abbrev w64 : Int→Int:=IntKind.i64.wrap
section
variable {α β:Type}
theorem bnd {x:Option α} {f:α→Option β} {r:β} (h:x.bind f=some r) : ∃ a,x=some a∧f a=some r:=Option.bind_eq_some_iff.1 h
theorem LG {c:Prop} [Decidable c] {a b r:α} (hc:c) (h:(if c then a else b)=r) : a=r:=by rwa [if_pos hc] at h
theorem Lx {c:Prop} [Decidable c] {a b r:α} (hc:¬c) (h:(if c then a else b)=r) : b=r:=by rwa [if_neg hc] at h
theorem En {c:Prop} [Decidable c] {a:Option α} {r:α} (h:(if c then a else none)=some r) : c∧a=some r:=by
 split at h
 ·exact ⟨by assumption,h⟩
 ·cases h
theorem AE {k:α} {b:α→Option β} {r:β} (h:jn k b=some r) : ∃ K,K=k∧b K=some r:=⟨k,rfl,h⟩
theorem Ag {xs:List α} {i:Int} {x:α} (h:rd? xs i=some x) : ∃ n : Nat,i=n∧xs[n]?=some x:=by
 unfold rd? at h
 split at h
 ·exact ⟨i.toNat,by omega,h⟩
 ·cases h
theorem Me {m:Nat} {xs ys zs:List α} (h:ap? m xs ys=some zs) : xs.length+ys.length≤m∧zs=xs++ys:=by
 unfold ap? at h
 split at h
 ·exact ⟨by assumption,(oI h).symm⟩
 ·cases h
def Fp (p:Prop) [Decidable p] : Option Unit:=if p then some () else none
theorem Ey {p:Prop} [Decidable p] {u:Unit} (h:Fp p=some u) : p:=by
 unfold Fp at h
 split at h
 ·assumption
 ·cases h
theorem bf {b:Bool} (h:¬b=true) : b=false:=by cases b<;>simp at h ⊢
theorem ntt {b:Bool} (h:b=false) : (!b)=true:=by rw [h];rfl
theorem ntf {b:Bool} (h:b=true) : (!b)=false:=by rw [h];rfl
end
section
variable {P:Program} {C:Cx} {X:Snap} {o:Oper} {ops:Array Oper} {Q:Exit→Env→Ad→Prop} {env env':Env} {H H':Ad} {a:Act} {w w':World} {I I':Nat→Prop} {μ μ':List Nat} {O O':Nat→Option Loc}
 {K:Env→Ad→Prop} {k:Nat} {l:List Oper}
def JR {σ:Type} (I:σ→Prop) (e:σ→Env) (g:σ→Ad) : Env→Ad→Prop:=fun env H=>∃ s,I s∧env=e s∧H=g s
theorem AW.mj {x y:Code} {σ:Type} (I:σ→Prop) (e:σ→Env) (g:σ→Ad) (h1:AW P C x (FU (JR I e g) Q) env H) (h2:∀ s,I s→AW P C y Q (e s) (g s)) : AW P C (.seq x y) Q env H :=
 .mid (JR I e g) h1 fun _ _ ⟨s,hi,he,hg⟩=>by subst he;subst hg;exact h2 s hi
theorem AW.mr {x:Code} {K:Env→Ad→Prop} {σ:Type} (I:σ→Prop) (e:σ→Env) (g:σ→Ad) (h1:AW P C x (FU (JR I e g) Q) env H) (h2:∀ s,I s→K (e s) (g s)) : AW P C x (FU K Q) env H :=
 h1.mono fun ex env' H' h=>by
  cases ex with
  | normal=>obtain ⟨s,hi,he,hg⟩:=h;subst he;subst hg;exact h2 s hi
  | _=>exact h
theorem jr {σ:Type} {I:σ→Prop} {e:σ→Env} {g:σ→Ad} (s:σ) (hi:I s) (he:env=e s:=by rfl) (hg:H=g s:=by rfl) : JR I e g env H:=⟨s,hi,he,hg⟩
theorem cnt {t:Nat} {x:Bool} {c1 c2:Code} (hb:x=true) (h1:AW P C c1 Q env H) (hx:get env t=.d (.b x):=by rfl) : AW P C (.cond (.tmp t) c1 c2) Q env H:=.cond hx (fun _=>h1) (fun h=>by rw [hb] at h;cases h)
theorem cnf {t:Nat} {x:Bool} {c1 c2:Code} (hb:x=false) (h2:AW P C c2 Q env H) (hx:get env t=.d (.b x):=by rfl) : AW P C (.cond (.tmp t) c1 c2) Q env H:=.cond hx (fun h=>by rw [hb] at h;cases h) (fun _=>h2)
theorem VOK.cast {v v':AV} (h:VOK P C o env H v) (e:v=v') : VOK P C o env H v':=e▸h
theorem VOK.lit {x b:Bool} (h:VOK P C o env H (.d (.b x))) (e:x=b) : VOK P C o env H (.d (.b b)):=e▸h
theorem Ai {c:Call} {fo:Operand} {f:Nat} {xs:List DV} {r:AV} (hfn:Fn P f xs r) (hcall:∀ args w,(callFunc f args).run P w=.ok (.enter f args) w) (ho:o.op=.call c:=by rfl) (hc:c.callee=.value fo:=by rfl)
  (hfo:lk env fo=.d (.fn f [] []):=by rfl) (ha:argsD env c.args.toList=some xs:=by rfl) (hr:A5 r=false:=by rfl):VOK P C o env H r :=
 vcl (first:=[]) (caps:=[]) (by rw [List.nil_append,List.append_nil];exact hfn) hcall ho hc hfo ha hr
theorem A0 {c:Call} {x:Operand} {ty n:Nat} {xs:List DV} (hl:xs.length=n) (hsz:∃ sz,∀ x∈xs,x.cells.length=sz) (hu:P.underlying ty=some (.slice (P.elem ty))) (ho:o.op=.call c:=by rfl) (hc:c.callee=.builtin .len:=by rfl) (hx:c.args=#[x]:=by rfl)
  (hty:c.argTypes=#[ty]:=by rfl) (hv:rd env H (lk env x)=some xs:=by rfl):VOK P C o env H (.d (.i .i64 n)):=by
 subst hl;exact vln hsz hu ho hc hx hty hv
theorem VOK.same {d:DV} (hdef:∀ c,o.op≠.defer c) (h:∀ X a w I μ O,X.n0=C.n0→Sim P X env H a w I μ O→∃ v,(execOp a.eval o).run P w=.ok (.value v) w∧Rep w I d v) : VOK P C o env H (.d d) :=
 .val hdef fun X a w I μ O _ h2 _ hs =>
  let ⟨v,h1,h3⟩:=h X a w I μ O h2 hs
  ⟨v,w,I,[],h1,Below.refl _ _,fun _ h=>h,fun b hi=>⟨hs.ilt b hi,fun _=>hi⟩,.d h3,nN,by simp⟩
theorem vng {xt:TypeId} {x:Operand} {q:IntKind} {n:Int} (ho:o.op=.unOp .neg xt x:=by rfl) (hx:lk env x=.d (.i q n):=by rfl) : VOK P C o env H (.d (.i q (q.wrap (0-n)))):=by
 obtain ⟨h1,h2⟩:=Av hx (by simp)
 exact .pv (XM ho h1 h2)
theorem O7 {a b m by_:Nat} (h:a+b≤m) (hby:m * by_≤140737488355328∧m≤9223372036854775807) : a+b≤9223372036854775807∧(a+b) * by_≤140737488355328 :=
 ⟨nT h hby.2,nT (Nat.mul_le_mul_right _ h) hby.1⟩
theorem OO {α:Type} {F:List α→List DV} (hF:∀ xs ys,F (xs++ys)=F xs++F ys) {us ws zs:List α} {m:Nat} (hz:ap? m us ws=some zs) {c:Call} {y:Operand} {r s ty t e sz by_:Nat} {z:Value} (hby:m * by_≤140737488355328∧m≤9223372036854775807)
  (h:RL P C ops Q (k+1) l ((t,.own e (F zs))::(s,.un)::(r,.un)::env) H) (hsz:∀ xs,∀ x∈F xs,x.cells.length=sz) (hlen:∀ xs,(F xs).length=xs.length)
  (hT:Cz P ty=some (e,sz,by_,z)) (hg:grd ops env o true=true:=by rfl) (ho:o.op=.call c:=by rfl) (hc:c.callee=.builtin .append:=by rfl)
  (hx:c.args=#[.tmp r,y]:=by rfl) (hty:c.argTypes=#[ty,ty]:=by rfl) (hv:get env r=.ref (.t s) 0 (F us).length:=by rfl) (hp:get env s=.own e (F us):=by rfl) (hy:rd env H (lk env y)=some (F ws):=by rfl) (hd:o.dst=some t:=by rfl)
  (hf:Am (get env t)=false:=by rfl) (hr:Dr s ((r,.un)::env.filter fun x=>x.1 != r)=false:=by rfl) (ht:okT C.nt t:=by rfl):RL P C ops Q k (o::l) env H:=by
 obtain ⟨hle,rfl⟩:=Me hz
 exact apr (xs:=F us) (ys:=F ws) (len:=(F us).length) (by rw [hlen,hlen];exact O7 hle hby) (by rw [List.take_length,← hF];exact h) (hsz ws) hT hg ho hc hx hty hv hp hy hd hf hr ht
theorem Zk {α:Type} {F:List α→List DV} (hF:∀ xs ys,F (xs++ys)=F xs++F ys) {us ws zs:List α} {m:Nat} (hz:ap? m us ws=some zs) {c:Call} {y:Operand} {r ty t e sz by_:Nat} {z:Value} (hby:m * by_≤140737488355328∧m≤9223372036854775807)
  (h:RL P C ops Q (k+1) l ((t,.own e (F zs))::(r,.un)::env) H) (hsz:∀ xs,∀ x∈F xs,x.cells.length=sz) (hlen:∀ xs,(F xs).length=xs.length)
  (hT:Cz P ty=some (e,sz,by_,z)) (hg:grd ops env o true=true:=by rfl) (ho:o.op=.call c:=by rfl) (hc:c.callee=.builtin .append:=by rfl)
  (hx:c.args=#[.tmp r,y]:=by rfl) (hty:c.argTypes=#[ty,ty]:=by rfl) (hv:get env r=.own e (F us):=by rfl) (hy:rd env H (lk env y)=some (F ws):=by rfl) (hd:o.dst=some t:=by rfl)
  (hf:Am (get env t)=false:=by rfl) (hr:Dr r env=false:=by rfl) (ht:okT C.nt t:=by rfl):RL P C ops Q k (o::l) env H:=by
 obtain ⟨hle,rfl⟩:=Me hz
 exact apo (xs:=F us) (ys:=F ws) (by rw [hlen,hlen];exact O7 hle hby) (by rw [← hF];exact h) (hsz ws) hT hg ho hc hx hty hv hy hd hf hr ht
end
end Go.FL
namespace Go.FL
open Go
section
variable {P:Program} {C:Cx} {o:Oper} {ops:Array Oper} {Q Q':Exit→Env→Ad→Prop} {env env':Env} {H H':Ad} {k:Nat} {l:List Oper}
theorem va {x:Operand} {d:DV} {t:Nat} (h:RL P C ops Q (k+1) l ((t,.d d)::env) H) (ho:o.op=.move x:=by rfl) (hv:lk env x=.d d:=by rfl) (hg:grd ops env o true=true:=by rfl) (hd:o.dst=some t:=by rfl)
  (hf:Am (get env t)=false:=by rfl) (ht:okT C.nt t:=by rfl):RL P C ops Q k (o::l) env H:=vk (Ac ho hv) h hg hd rfl hf ht
theorem vL {x:Operand} {c b:Bool} {t:Nat} (e:c=b) (h:RL P C ops Q (k+1) l ((t,.d (.b b))::env) H) (ho:o.op=.move x:=by rfl) (hv:lk env x=.d (.b c):=by rfl) (hg:grd ops env o true=true:=by rfl) (hd:o.dst=some t:=by rfl)
  (hf:Am (get env t)=false:=by rfl) (ht:okT C.nt t:=by rfl):RL P C ops Q k (o::l) env H:=vk (VOK.lit (Ac ho hv) e) h hg hd rfl hf ht
theorem vb {op:BinOp} {xt yt:TypeId} {x y:Operand} {q q':IntKind} {m n:Int} {d:DV} {t:Nat} (h:RL P C ops Q (k+1) l ((t,.d d)::env) H) (ho:o.op=.binOp op xt x y yt:=by rfl)
  (hx:lk env x=.d (.i q m):=by rfl) (hy:lk env y=.d (.i q' n):=by rfl) (hb:Np op q m n=some (True,d):=by rfl) (hk:(decide (q'=q)||E8 op)=true:=by rfl) (hg:grd ops env o true=true:=by rfl) (hd:o.dst=some t:=by rfl)
  (hf:Am (get env t)=false:=by rfl) (ht:okT C.nt t:=by rfl):RL P C ops Q k (o::l) env H:=vk (vbi ho hx hy hb hk) h hg hd rfl hf ht
theorem AW.sk {c:Code} (h:AW P C c Q' env H) (hq:Q .normal env H=AW P C c Q' env H:=by rfl) : AW P C .skip Q env H:=.skip (hq▸h)
end
end Go.FL
namespace Go.FL
open Go Go.RowKit
section
variable {P:Program} {C:Cx} {X:Snap} {o:Oper} {ops:Array Oper} {Q:Exit→Env→Ad→Prop} {env env':Env} {H H':Ad} {a:Act} {w w':World} {I I':Nat→Prop} {μ μ':List Nat} {O O':Nat→Option Loc}
 {K:Env→Ad→Prop} {k:Nat} {l:List Oper}
theorem Sim.nbbA (hs:Sim P X env H a w I μ O) {t:Nat} {cs:List DV} (hg:get env t=.nb cs) {cs':List AV} (hA:∀ blk cells e,a.tmps.getD t undef=.pointer (some ⟨blk,0,none⟩)→w.heap[blk]?=some (.cells cells e (0,0))→ARepAll P w I μ cs' cells.toList []) :
  ∃ I' μ' O',Sim P X ((t,.bp H.length 0)::env) (H++[.box cs']) a w I' μ' O':=by
 obtain ⟨blk,cells,e,h1,h2,h3,hO⟩:=hs.nb_inv hg
 obtain ⟨n1,n2,n3⟩:=hs.other_blk hO
 have hμ:∀ (i b:Nat),μ[i]?=some b→(μ++[blk])[i]?=some b:=fun i b h=>by
  rw [List.getElem?_append_left (lS.1 h).1];exact h
 have hlast:(μ++[blk])[H.length]?=some blk:=by rw [← hs.μlen];simp
 have hO':∀ b l,O b=some l→b≠blk→(if b=blk then some (Loc.o H.length) else O b)=some l:=fun b l h hb=>by rw [if_neg hb];exact h
 have hOt:∀ b s,O b=some (.t s)→s≠t→b≠blk:=fun b s h hst e=>by subst e;rw [hO] at h;simp at h;exact hst h.symm
 refine ⟨I,μ++[blk],fun b=>if b=blk then some (.o H.length) else O b,{hs.toMem with
  kO:=fun b hk=>by rw [if_neg (n2 b hk)];exact hs.kO b hk
  own:=fun b l hl=>by
   by_cases hb:b=blk
   ·subst hb;exact hs.own b _ hO
   ·rw [if_neg hb] at hl;exact hs.own b l hl
  μlen:=by simp [hs.μlen]
  μpre:=fun i b hi hb=>hμ i b (hs.μpre i b hi hb)
  nle:=by simp;have:=hs.nle;omega
  heap:=fun id ob ho=>?_
  envr:=fun s=>?_
  nt:=hs.nt
  dfs:=hs.dfs}⟩
 ·rcases Nat.lt_or_ge id H.length with hlt|hge
  ·rw [List.getElem?_append_left hlt] at ho
   obtain ⟨bb,bs,k1,k2,k3,k4⟩:=hs.heap id ob ho
   have hne:=n3 id ob bb bs ho k1 k3 k4
   refine ⟨bb,bs,hμ _ _ k1,?_,fun hn=>⟨(k3 hn).1,fun b hb=>hO' b _ ((k3 hn).2 b hb) (hne b hb)⟩,k4⟩
   cases ob with
   | box c =>
    obtain ⟨cl,et,m1,m2⟩:=k2
    exact ⟨cl,et,m1,m2.keep (fun _ h=>h) (fun _ _=>rfl) hμ fun _ _=>rfl⟩
  ·rw [List.getElem?_append_right hge] at ho
   have hid:id=H.length:=by
    have:=(lS.1 ho).1;simp at this;omega
   subst hid
   simp at ho;subst ho
   refine ⟨blk,[],hlast,⟨cells,e,h2,(hA blk cells e h1 h2).keep (fun _ h=>h) (fun _ _=>rfl) hμ (by simp)⟩,fun _=>⟨by simp,fun b hb=>?_⟩,fun hn=>?_⟩
   ·simp at hb;subst hb;rw [if_pos rfl]
   ·have:=hs.nle;have:=hs.n0le;omega
 ·by_cases hst:t=s
  ·subst hst
   rw [show get ((t,.bp H.length 0)::env) t=.bp H.length 0 by simp [get]]
   refine .of (bs:=[]) ?_ nN (by simp)
   rw [h1]
   exact .bp _ _ _ hlast
  ·rw [show get ((t,.bp H.length 0)::env) s=get env s by simp [get,hst]]
   have key:∀ p e xs,AH env H p=.own e xs→AH ((t,AV.bp H.length 0)::env) (H++[.box cs']) p=.own e xs∧∀ v,Bd a w μ p=some v→Bd a w (μ++[blk]) p=some v:=by
    intro p e' xs hp
    cases p with
    | t r =>
     have hr':t≠r:=fun h=>by subst h;simp only [AH] at hp;rw [hg] at hp;cases hp
     exact ⟨by simp only [AH,get,if_neg hr'];exact hp,fun v hv=>hv⟩
    | c id off =>
     refine ⟨?_,fun v hv=>?_⟩
     ·simp only [AH] at hp ⊢
      cases hH:H[id]? with
      | none=>rw [hH] at hp;cases hp
      | some ob=>rw [List.getElem?_append_left (lS.1 hH).1,hH];rw [hH] at hp;exact hp
     ·simp only [Bd,Option.bind_eq_some_iff] at hv ⊢
      obtain ⟨bb,hb1,hb2⟩:=hv
      exact ⟨bb,hμ _ _ hb1,hb2⟩
   have ht:=hs.envr s
   cases hgs:get env s with
   | ref p off len =>
    rw [hgs] at ht
    obtain ⟨e',xs,A,n,c,g1,g2,g3,g4⟩:=ht
    exact ⟨e',xs,A,n,c,(key p e' xs g1).1,(key p e' xs g1).2 _ g2,g3,g4⟩
   | ep p i k =>
    rw [hgs] at ht
    obtain ⟨e',xs,b,n,c,g1,g2,g3,g4,g5⟩:=ht
    exact ⟨e',xs,b,n,c,(key p e' xs g1).1,(key p e' xs g1).2 _ g2,g3,g4,g5⟩
   | _ =>
    rw [hgs] at ht
    obtain ⟨bs,g1,g2,g3⟩:=ht.plain rfl
    exact .of (g1.keep (fun _ h=>h) (fun _ _=>rfl) hμ fun _ _=>rfl) g2 fun b hb=>hO' b _ (g3 b hb) (hOt b s (g3 b hb) fun e=>hst e.symm)
theorem ARepAll.setD : ∀ {cs:List AV} {vs:List Value} {bs:List Nat} (j:Nat) {c:DV} {v:Value},ARepAll P w I μ cs vs bs→bs=[]→Rep w I c v→ARepAll P w I μ (cs.set j (.d c)) (vs.set j v) []
 | _,_,_,j,c,v,.nil,_,hr=>by simp;exact .nil
 | _,_,_,0,c,v,.cons h t,hb,hr=>by
  obtain ⟨rfl,rfl⟩:=List.append_eq_nil_iff.1 hb
  exact ARepAll.cons (b1:=[]) (b2:=[]) (.d hr) t
 | _,_,_,j+1,c,v,.cons h t,hb,hr=>by
  obtain ⟨rfl,rfl⟩:=List.append_eq_nil_iff.1 hb
  exact ARepAll.cons (b1:=[]) (b2:=[]) h (t.setD j rfl hr)
def WH : List AV→Nat→List DV→List AV
 | zs,_,[]=>zs
 | zs,off,c::cs=>WH (zs.set off (.d c)) (off+1) cs
def Qr (places:List (Nat×Nat)) : List AV→List (Nat×DV)→Option (List AV)
 | zs,[]=>some zs
 | zs,(i,d)::r=>match places[i]? with
  | none=>none
  | some (off,n)=>if d.flat&&Nat.beq d.cells.length n&&Nat.ble (off+n) zs.length then Qr places (WH zs off d.cells) r else none
theorem QZ (off:Nat) : ∀ {cs:List DV} {us:List Value} (k:Nat) {zs:List AV} {cells:Array Value},RepAll w I cs us→ARepAll P w I μ zs cells.toList [] →
  ARepAll P w I μ (WH zs (off+k) cs) ((us.zipIdx k).foldl (fun (cs:Array Value) x=>cs.setIfInBounds (off+x.2) x.1) cells).toList []
 | _,_,k,zs,cells,.nil,hz=>hz
 | _,_,k,zs,cells,.cons (c:=c) (v:=v) h t,hz=>by
  rw [List.zipIdx_cons,List.foldl_cons,WH]
  exact QZ off (k+1) t (by rw [Array.toList_setIfInBounds];exact hz.setD _ rfl h)
theorem NR {places:List (Nat×Nat)} : ∀ {ps:List (Nat×DV)} {vs:List (Nat×Value)} {zs cs:List AV} {cells:Array Value},Qr places zs ps=some cs→ARepAll P w I μ zs cells.toList [] →
  vs.map (·.1)=ps.map (·.1)→RepAll w I (ps.map (·.2)) (vs.map (·.2))→∃ cells',Instr.fill (places.toArray[·]?) cells vs=some cells'∧ARepAll P w I μ cs cells'.toList []
 | [],vs,zs,cs,cells,h,hz,h1,h2=>by
  have:vs=[]:=by simpa using h1
  subst this
  simp only [Qr,Option.some.injEq] at h;subst h
  exact ⟨cells,rfl,hz⟩
 | (i,d)::ps,[],zs,cs,cells,h,hz,h1,h2=>by simp at h1
 | (i,d)::ps,(j,v)::vs,zs,cs,cells,h,hz,h1,h2=>by
  simp only [List.map_cons,List.cons.injEq] at h1
  obtain ⟨rfl,h1⟩:=h1
  simp only [List.map_cons] at h2
  cases h2 with
  | cons hd ht =>
   simp only [Qr] at h
   cases hp:places[j]? with
   | none=>rw [hp] at h;cases h
   | some on =>
    obtain ⟨off,n⟩:=on
    rw [hp] at h
    simp only at h
    split at h
    ·rename_i hc
     simp only [Bool.and_eq_true,Nat.ble_eq] at hc
     obtain ⟨⟨c1,c2⟩,c3⟩:=hc
     obtain ⟨k1,k2⟩:=hd.vcells c1
     have hvl:v.cells.size=n:=by rw [← Array.length_toList,← k1.length];exact Nat.eq_of_beq_eq_true c2
     have hzl:cells.size=zs.length:=by rw [← Array.length_toList,← hz.length]
     have hs:=QZ (w:=w) (I:=I) off 0 (zs:=zs) (cells:=cells) k1 hz
     obtain ⟨cells',f1,f2⟩:=NR h hs h1 ht
     refine ⟨cells',?_,f2⟩
     have hp':places.toArray[j]?=some (off,n):=by simpa using hp
     simp only [Instr.fill,hp']
     rw [if_neg (by simp;omega)]
     rw [← f1]
     congr 1
     rw [← Array.foldl_toList]
     simp
    ·cases h
theorem XT {ty:Nat} {parts:Array (Nat×Operand)} {places:List (Nat×Nat)} {z:Value} {zs cs:List AV} {ps:List (Nat×DV)} (hp:Da P ty=some places) (hz:(P.info? ty).bind (·.zero)=some z) (hzr:∀ w I μ,ARepAll P w I μ zs z.cells.toList [])
  (ho:o.op=.build ty parts:=by rfl) (hps:GB env parts.toList=some ps:=by rfl) (hf:Qr places zs ps=some cs:=by rfl):VOK P C o env H (.ag cs) :=
 .val (by simp [ho]) fun X a w I μ O _ _ _ hs=>by
  have key:∀ {xs:List (Nat×Operand)} {ps:List (Nat×DV)},GB env xs=some ps→(xs.map fun x=>(x.1,a.eval x.2)).map (·.1)=ps.map (·.1)∧RepAll w I (ps.map (·.2)) ((xs.map fun x=>(x.1,a.eval x.2)).map (·.2)):=by
   intro xs
   induction xs with
   | nil=>intro ps h;simp only [GB,Option.some.injEq] at h;subst h;exact ⟨rfl,.nil⟩
   | cons x xs ih =>
    intro ps h
    obtain ⟨i,x⟩:=x
    simp only [GB] at h
    cases h1:Bo (lk env x) with
    | none=>rw [h1] at h;cases h
    | some v =>
     cases h2:GB env xs with
     | none=>rw [h1,h2] at h;cases h
     | some vs =>
      rw [h1,h2] at h
      simp only [Option.some.injEq] at h;subst h
      obtain ⟨q1,q2⟩:=ih h2
      exact ⟨by simp only [List.map_cons];rw [q1],.cons (hs.deep h1) q2⟩
  obtain ⟨k1,k2⟩:=key hps
  obtain ⟨cells,f1,f2⟩:=NR (P:=P) (μ:=μ) hf (hzr w I μ) k1 k2
  have hb:P.built ty (parts.map fun x=>(x.1,a.eval x.2)).toList=some cells:=by
   unfold Da at hp
   unfold Program.built
   cases hi:P.info? ty with
   | none=>rw [hi] at hz;cases hz
   | some it =>
    rw [hi] at hz
    simp only [oB] at hz
    split at hp
    ·rename_i fields hu
     simp only [hu,hz,hp]
     rw [Array.toList_map];exact f1
    ·cases hp
  refine ⟨.agg cells,w,I,[],?_,Below.refl _ _,fun _ h=>h,fun b hi=>⟨hs.ilt b hi,fun _=>hi⟩,?_,nN,by simp⟩
  ·simp only [execOp,ho,Sem.run_bind]
   have:=run_build (P:=P) w ty (parts.map fun x=>(x.1,a.eval x.2)) cells hb
   rw [show (parts.map fun x=>match x with|(i,x)=>(i,a.eval x))=parts.map (fun (x:Nat×Operand)=>(x.1,a.eval x.2)) from rfl,this]
   simp only [Result.andThen_ok,Sem.run_pure]
  ·have:=ARep.ag f2
   simpa [U9] using this
theorem Xs {y:Operand} {t ty n:Nat} {cs ds:List DV} {cs':List AV} (h:RL P C ops Q (k+1) l ((t,.bp H.length 0)::env) (H++[.box cs'])) (hsz:Ay P ty=n) (hn:0<n) (hg:grd ops env o true=true:=by rfl) (ho:o.op=.store ty (.tmp t) y:=by rfl)
  (hv:get env t=.nb cs:=by rfl) (hy:lk env y=.ag cs':=by rfl) (hno:noOwnL cs'=true:=by rfl) (hds:Pp cs'=some ds:=by rfl) (hl:cs.length=n:=by rfl) (hl':ds.length=n:=by rfl) (h1:ds.all DV.leaf=true:=by rfl) (hd:o.dst=none:=by rfl):RL P C ops Q k (o::l) env H:=by
 refine .go hg (.done (by simp [ho]) hd (fun X a w I μ O _ _ _ hs=>?_) h)
 obtain ⟨bs,hr⟩:=hs.lk (x:=y) (by rw [hy];rfl)
 rw [hy] at hr
 generalize hev:a.eval y=u at hr
 cases hr with
 | @ag _ vs _ hr =>
  have hb0:=noOwnL_bs hr hno
  subst hb0
  have hrd:=Ko hds hr
  obtain ⟨blk,cells,e,q1,q2,q3,q4⟩:=hs.nbSet hv hrd
  obtain ⟨n1,_,_⟩:=hs.other_blk (t:=t) (blk:=blk) (by
   obtain ⟨blk',_,_,g1,_,_,g4⟩:=hs.nb_inv hv
   rw [q1] at g1;cases g1;exact g4)
  have hnew:=setRow_heap w blk cells vs.toArray e (0,0) q2
  obtain ⟨I',μ',O',fin⟩:=q4.nbbA (t:=t) (cs:=ds) (cs':=cs') (by simp [get]) (fun blk' cells' e' p1 p2=>by
   rw [q1] at p1;cases p1
   rw [hnew] at p2;cases p2
   exact hr.keep (fun _ h=>h) (fun b hi=>setRow_other w blk b _ (n1 b hi)) (fun _ _ h=>h) (by simp))
  refine ⟨_,I',μ',O',?_,fin.same fun s=>?_⟩
  ·have hone:=hrd.one h1
   have hvl:vs.length=n:=by rw [← hrd.length];exact hl'
   have hcl:cells.size=n:=by rw [← Array.length_toList,← q3.length];exact hl
   obtain ⟨i,i1,i2⟩:=Hp (P:=P) (t:=ty) (by omega)
   have hx:a.eval (.tmp t)=.pointer (some ⟨blk,0,none⟩):=q1
   have hsi:(P.info? ty).map (·.size)=some vs.toArray.size:=by rw [i1];simp;omega
   simp only [execOp,ho,hx,hev,Instr.storeAt,Instr.sureAddr,Sem.run_bind,Sem.run_pure,Result.andThen_ok,run_storeVar_row w blk e ty cells vs.toArray q2 hsi (by simp;omega) (by
    rw [Array.all_eq_true_iff_forall_mem];intro v hv;exact hone v (by simpa using hv))]
  ·simp only [get]
   split<;>rfl
def Tt (P:Program) (s f:Nat) : Option Bool:=match P.underlying s with
 | some (.struct fs)=>(fs[f]?).bind fun fl=>B1 P fl.type
 | _=>none
theorem Of {s f:Nat} {b:Bool} (h:Tt P s f=some b) : ∃ fs fl,P.underlying s=some (.struct fs)∧fs[f]?=some fl∧B1 P fl.type=some b:=by
 unfold Tt at h
 split at h
 ·rename_i fs hu
  obtain ⟨fl,h1,h2⟩:=Option.bind_eq_some_iff.1 h
  exact ⟨fs,fl,hu,h1,h2⟩
 ·cases h
theorem Zf {x:Operand} {s f off:Nat} {c:DV} {cs:List DV} (hf:Bs P s f=some (off,1)) (hg:Tt P s f=some false) (ho:o.op=.field s x f:=by rfl) (hv:lk env x=.d (.ag cs):=by rfl) (hc:cs[off]?=some c:=by rfl) : VOK P C o env H (.d c):=by
 obtain ⟨fs,fl,h1,h2,h3⟩:=Of hg
 exact vfd hf ⟨fs,fl,h1,h2,rfl⟩ h3 hv hc ho
theorem Wm {x:Operand} {s f off n:Nat} {cs:List DV} (hf:Bs P s f=some (off,n)) (hg:Tt P s f=some true) (ho:o.op=.field s x f:=by rfl) (hv:lk env x=.d (.ag cs):=by rfl) : VOK P C o env H (.d (.ag ((cs.drop off).take n))):=by
 refine .same (by simp [ho]) fun X a w I μ O _ hs=>?_
 have hr:=hs.deep (x:=x) (v:=.ag cs) (by rw [hv];rfl)
 obtain ⟨fs,fl,i,g1,g2,g3,g4,g5⟩:=I5 hf
 obtain ⟨fs',fl',e1,e2,e3⟩:=Of hg
 rw [g1] at e1;cases e1
 rw [g2] at e2;cases e2
 generalize hev:a.eval x=u at hr
 cases hr with
 | ag _ vs hr =>
  refine ⟨.agg (vs.toArray.extract off (off+n)),?_,?_⟩
  ·simp [execOp,ho,hev,Instr.field,run_underlying g1,g2,part,Jk e3,asAgg,D6 g4,g3,g5]
  ·have:=Rep.ag _ _ ((hr.drop off).take n)
   have e:((vs.drop off).take n).toArray=vs.toArray.extract off (off+n):=by
    apply Array.ext'
    simp [List.take_drop]
   rwa [e] at this
theorem VA {α:Type} {F:List α→List DV} (hF:∀ xs ys,F (xs++ys)=F xs++F ys) {us ws zs:List α} {m:Nat} (hz:ap? m us ws=some zs) {c:Call} {y:Operand} {r t id off ty e sz by_:Nat} {z:Value} {cs:List AV} (hH:H[id]?=some (.box cs)) (hcs:cs[off]?=some (.own e (F us))) (hby:m * by_≤140737488355328∧m≤9223372036854775807)
  (h:RL P C ops Q (k+1) l ((t,.own e (F zs))::(r,.un)::env) (H.set id (.box (cs.set off .un)))) (hsz:∀ xs,∀ x∈F xs,x.cells.length=sz) (hlen:∀ xs,(F xs).length=xs.length) (hT:Cz P ty=some (e,sz,by_,z)) (hg:grd ops env o true=true:=by rfl) (ho:o.op=.call c:=by rfl)
  (hc:c.callee=.builtin .append:=by rfl) (hx:c.args=#[.tmp r,y]:=by rfl) (hty:c.argTypes=#[ty,ty]:=by rfl) (hv:get env r=.ref (.c id off) 0 (F us).length:=by rfl) (hy:rd env H (lk env y)=some (F ws):=by rfl) (hd:o.dst=some t:=by rfl)
  (hf:Am (get env t)=false:=by rfl) (hnc:MP id off ((r,.un)::env.filter fun x=>x.1 != r)=true:=by rfl) (ht:okT C.nt t:=by rfl) (h0:C.n0=0:=by rfl):RL P C ops Q k (o::l) env H:=by
 obtain ⟨hle,rfl⟩:=Me hz
 exact apc (xs:=F us) (ys:=F ws) (len:=(F us).length) hH hcs (by rw [hlen,hlen];exact O7 hle hby) (by rw [List.take_length,← hF];exact h) (hsz ws) hT hg ho hc hx hty hv hy hd hf hnc ht h0
theorem Sg {c:Call} {r ty off len n:Nat} {p:Pl} (hl:len=n) (hu:P.underlying ty=some (.slice (P.elem ty))) (ho:o.op=.call c:=by rfl) (hc:c.callee=.builtin .len:=by rfl) (hx:c.args=#[.tmp r]:=by rfl) (hty:c.argTypes=#[ty]:=by rfl)
  (hv:get env r=.ref p off len:=by rfl):VOK P C o env H (.d (.i .i64 n)):=by
 subst hl;exact Xq hu ho hc hx hty hv
end
end Go.FL
namespace Go.FL
open Go Go.RowKit
def sl? {α:Type} (xs:List α) (lo hi:Int) : Option (List α):=if 0≤lo∧lo≤hi∧hi≤xs.length then some ((xs.drop lo.toNat).take (hi.toNat-lo.toNat)) else none
theorem Wv {α:Type} {xs z:List α} {lo hi:Int} (h:sl? xs lo hi=some z) : (0≤lo∧lo≤hi∧hi≤xs.length)∧z=(xs.drop lo.toNat).take (hi.toNat-lo.toNat):=by
 unfold sl? at h
 split at h
 ·exact ⟨by assumption,(oI h).symm⟩
 ·cases h
section
variable {P:Program} {C:Cx} {X:Snap} {o:Oper} {ops:Array Oper} {Q:Exit→Env→Ad→Prop} {env env':Env} {H H':Ad} {a:Act} {w w':World} {I I':Nat→Prop} {μ μ':List Nat} {O O':Nat→Option Loc}
 {K:Env→Ad→Prop} {k:Nat} {l:List Oper}
theorem Zg {α:Type} {F:List α→List DV} (hd:∀ xs n,(F xs).drop n=F (xs.drop n)) (ht:∀ xs n,(F xs).take n=F (xs.take n)) (hlen:∀ xs,(F xs).length=xs.length) {us zs:List α} {zl zh:Int} (hz:sl? us zl zh=some zs)
  {x:Operand} {ty e sz by_:Nat} {lo hi:Option Operand} (hsz:∀ xs,∀ x∈F xs,x.cells.length=sz) (hty:CB P ty=some (e,sz,by_)) (ho:o.op=.slice ty x lo hi none:=by rfl) (hv:lk env x=.d (.sl (F us)):=by rfl)
  (hl:FT env 0 (lo.map DW)=some zl:=by rfl) (hh:FT env (F us).length (hi.map DW)=some zh:=by rfl) (hfl:CS lo (lo.map DW)=true:=by rfl) (hfh:CS hi (hi.map DW)=true:=by rfl):VOK P C o env H (.d (.sl (F zs))):=by
 obtain ⟨⟨h0,h1,h2⟩,rfl⟩:=Wv hz
 have:=vsl (P:=P) (C:=C) (H:=H) (o:=o) (env:=env) (zl:=zl) (zh:=zh) (zm:=zh) zl.toNat zh.toNat (xs:=F us) (by refine ⟨by omega,by omega,by omega,by omega,?_⟩;rw [hlen];exact h2) (hsz us) hty ho hv hl hh rfl hfl hfh rfl rfl
 rwa [hd,ht] at this
end
end Go.FL
namespace Go.FL
open Go Go.RowKit
def HW (tmps:Array Value) : ResultVar→Sem Value
 | .tmp t=>pure (tmps.getD t undef)
 | .cell a t=>do loadVar t (← asAddr (tmps.getD a undef))
def resOne (P:Program) (env:Env) : ResultVar→DV→Prop
 | .tmp t,d=>Bo (get env t)=some d
 | .cell t ty,d=>∃ cs,cellD P env t ty cs∧d=.ag cs
def Tf (P:Program) (env:Env) (r:AV) : List ResultVar→Prop
 | [x,y]=>∃ dx dy,resOne P env x dx∧resOne P env y dy∧r=.tup [.d dx,.d dy]
 | [x,y,z]=>∃ dx dy dz,resOne P env x dx∧resOne P env y dy∧resOne P env z dz∧r=.tup [.d dx,.d dy,.d dz]
 | [x,y,z,u]=>∃ dx dy dz du,resOne P env x dx∧resOne P env y dy∧resOne P env z dz∧resOne P env u du∧r=.tup [.d dx,.d dy,.d dz,.d du]
 | [x,y,z,u,v]=>∃ dx dy dz du dv,resOne P env x dx∧resOne P env y dy∧resOne P env z dz∧resOne P env u du∧resOne P env v dv∧r=.tup [.d dx,.d dy,.d dz,.d du,.d dv]
 | _=>False
def Ze (P:Program) (rs:List ResultVar) (r:AV) : Exit→Env→Ad→Prop
 | .normal,env,_=>Tf P env r rs
 | .ret,env,_=>Tf P env r rs
 | _,_,_=>False
theorem HJ (fn:Func) (tmps:Array Value) : results fn tmps=(do
  let vs ← fn.results.mapM (HW tmps)
  pure (if h:vs.size=1 then vs[0] else .tuple vs)):=by
 unfold results
 congr 2
theorem N0 {fn:Func} {x y:ResultVar} {wx wy:Value} (h:fn.results=#[x,y]) {tmps:Array Value} {P:Program} {w:World} (hx:(HW tmps x).run P w=.ok wx w) (hy:(HW tmps y).run P w=.ok wy w) : (results fn tmps).run P w=.ok (.tuple #[wx,wy]) w:=by
 rw [HJ,h]
 simp [Sem.run_bind,hx,hy]
theorem SZ {fn:Func} {x y z:ResultVar} {wx wy wz:Value} (h:fn.results=#[x,y,z]) {tmps:Array Value} {P:Program} {w:World} (hx:(HW tmps x).run P w=.ok wx w) (hy:(HW tmps y).run P w=.ok wy w) (hz:(HW tmps z).run P w=.ok wz w) : (results fn tmps).run P w=.ok (.tuple #[wx,wy,wz]) w:=by
 rw [HJ,h]
 simp [Sem.run_bind,hx,hy,hz]
theorem TC {fn:Func} {x y z u:ResultVar} {wx wy wz wu:Value} (h:fn.results=#[x,y,z,u]) {tmps:Array Value} {P:Program} {w:World} (hx:(HW tmps x).run P w=.ok wx w) (hy:(HW tmps y).run P w=.ok wy w) (hz:(HW tmps z).run P w=.ok wz w) (hu:(HW tmps u).run P w=.ok wu w) : (results fn tmps).run P w=.ok (.tuple #[wx,wy,wz,wu]) w:=by
 rw [HJ,h]
 simp [Sem.run_bind,hx,hy,hz,hu]
theorem SR {fn:Func} {x y z u v:ResultVar} {wx wy wz wu wv:Value} (h:fn.results=#[x,y,z,u,v]) {tmps:Array Value} {P:Program} {w:World} (hx:(HW tmps x).run P w=.ok wx w) (hy:(HW tmps y).run P w=.ok wy w) (hz:(HW tmps z).run P w=.ok wz w) (hu:(HW tmps u).run P w=.ok wu w) (hv:(HW tmps v).run P w=.ok wv w) : (results fn tmps).run P w=.ok (.tuple #[wx,wy,wz,wu,wv]) w:=by
 rw [HJ,h]
 simp [Sem.run_bind,hx,hy,hz,hu,hv]
section
variable {P:Program} {X:Snap} {env:Env} {H:Ad} {a:Act} {w:World} {I:Nat→Prop} {μ:List Nat} {O:Nat→Option Loc}
theorem Sim.resOne (hs:Sim P X env H a w I μ O) {x:ResultVar} {d:DV} (h:Go.FL.resOne P env x d) : ∃ v,(HW a.tmps x).run P w=.ok v w∧Rep w I d v:=by
 cases x with
 | tmp t=>exact ⟨_,rfl,hs.deepT h⟩
 | cell t ty =>
  obtain ⟨cs,h1,rfl⟩:=h
  obtain ⟨p,v,k1,k2,k3⟩:=hs.cellD h1
  exact ⟨v,by simp [HW,k1,asAddr,k2],k3⟩
theorem Sim.resultsA (hs:Sim P X env H a w I μ O) {fn:Func} {rs:List ResultVar} (hrs:fn.results=rs.toArray) {r:AV} (h:Tf P env r rs) :
  ∃ v bs,(Go.results fn a.tmps).run P w=.ok v w∧ARep P w I μ r v bs∧bs.Nodup∧∀ b∈bs,∃ l,O b=some l:=by
 unfold Tf at h
 split at h
 ·obtain ⟨dx,dy,kx,ky,rfl⟩:=h
  obtain ⟨wx,ex,rx⟩:=hs.resOne kx
  obtain ⟨wy,ey,ry⟩:=hs.resOne ky
  exact ⟨_,[],N0 (by rw [hrs]) ex ey,.tup (ARepAll.cons (b1:=[]) (b2:=[]) (.d rx) (ARepAll.cons (b1:=[]) (b2:=[]) (.d ry) .nil)),nN,by simp⟩
 ·obtain ⟨dx,dy,dz,kx,ky,kz,rfl⟩:=h
  obtain ⟨wx,ex,rx⟩:=hs.resOne kx
  obtain ⟨wy,ey,ry⟩:=hs.resOne ky
  obtain ⟨wz,ez,rz⟩:=hs.resOne kz
  exact ⟨_,[],SZ (by rw [hrs]) ex ey ez,.tup (ARepAll.cons (b1:=[]) (b2:=[]) (.d rx) (ARepAll.cons (b1:=[]) (b2:=[]) (.d ry) (ARepAll.cons (b1:=[]) (b2:=[]) (.d rz) .nil))),nN,by simp⟩
 ·obtain ⟨dx,dy,dz,du,kx,ky,kz,ku,rfl⟩:=h
  obtain ⟨wx,ex,rx⟩:=hs.resOne kx
  obtain ⟨wy,ey,ry⟩:=hs.resOne ky
  obtain ⟨wz,ez,rz⟩:=hs.resOne kz
  obtain ⟨wu,eu,ru⟩:=hs.resOne ku
  exact ⟨_,[],TC (by rw [hrs]) ex ey ez eu,.tup (ARepAll.cons (b1:=[]) (b2:=[]) (.d rx) (ARepAll.cons (b1:=[]) (b2:=[]) (.d ry) (ARepAll.cons (b1:=[]) (b2:=[]) (.d rz) (ARepAll.cons (b1:=[]) (b2:=[]) (.d ru) .nil)))),nN,by simp⟩
 ·obtain ⟨dx,dy,dz,du,dv,kx,ky,kz,ku,kv,rfl⟩:=h
  obtain ⟨wx,ex,rx⟩:=hs.resOne kx
  obtain ⟨wy,ey,ry⟩:=hs.resOne ky
  obtain ⟨wz,ez,rz⟩:=hs.resOne kz
  obtain ⟨wu,eu,ru⟩:=hs.resOne ku
  obtain ⟨wv,ev,rv⟩:=hs.resOne kv
  exact ⟨_,[],SR (by rw [hrs]) ex ey ez eu ev,.tup (ARepAll.cons (b1:=[]) (b2:=[]) (.d rx) (ARepAll.cons (b1:=[]) (b2:=[]) (.d ry) (ARepAll.cons (b1:=[]) (b2:=[]) (.d rz) (ARepAll.cons (b1:=[]) (b2:=[]) (.d ru) (ARepAll.cons (b1:=[]) (b2:=[]) (.d rv) .nil))))),nN,by simp⟩
 ·exact h.elim
theorem Fn.ofA {f:FuncId} {fn:Func} {c:Code} {args:List DV} {r:AV} {rs:List ResultVar} {nt:Nat} (hf:P.funcs[f]?=some fn) (hb:fn.body=some c) (hrs:fn.results=rs.toArray) (hnt:fn.ntmps=nt) (hn:args.length≤nt) (hbp:noBp r=true)
  (h:AW P {nt:=(0,nt),n0:=0,ne:=0} c (Ze P rs r) (Dm 0 args) []):Fn P f args r:=by
 intro w I vs hI ha
 refine callsIn_of_wp hf hb trivial ?_
 have hlen:=ha.length
 let X:Snap:={w:=w,I:=I,K:=fun b=>b<w.heap.size,n0:=0,ne:=0,μ:=[],nt:=(0,nt),dfs:=[]}
 let a:Act:={tmps:=vs.toArray++Array.replicate (fn.ntmps-vs.toArray.size) undef,defers:=[]}
 have hs:Sim P X (Dm 0 args) [] a w I [] (fun _=>none):=by
  refine ⟨{prot:=fun _ _=>rfl,kO:=fun _ _=>rfl,kI:=fun _ _ h=>h,mono:=fun _ h=>h,os:=rfl,tape:=rfl,output:=rfl,size:=Nat.le_refl _,own:=(fun b l h=>by simp at h),ilt:=hI,μlen:=rfl,μpre:=(fun i b hi _=>by simp [X] at hi),nle:=(by simp [X]),heap:=(fun id o h=>by simp at h),klt:=fun b hb=>hb,n0le:=(by simp [X])},fun t=>?_,?_,rfl,fun t h=>absurd h (by simp [X])⟩
  ·rcases EC (tmps:=a.tmps) (k:=0) ha (fun j v hj=>by
    have hjl:j<vs.length:=(lS.1 hj).1
    have e2:(vs.toArray++Array.replicate (fn.ntmps-vs.length) undef)[j]?=some v:=by
     rw [Array.getElem?_append_left (by simpa using hjl)];simpa using hj
    simp [a,e2]) t with h0|⟨d,h0,h1⟩
   ·rw [h0];exact .un
   ·rw [h0];exact .of (bs:=[]) (.d h1) nN (by simp)
  ·simp [a,X,hnt];omega
 have hw:=h X a w I [] (fun _=>none) rfl rfl rfl hs
 refine wpIn_mono hw fun e a' w' hp=>?_
 obtain ⟨env',H',I',μ',O',s,q⟩:=hp
 have fin:Tf P env' r rs→a'.defers=[]∧∃ v,(Go.results fn a'.tmps).run P w'=.ok v w'∧∃ v' I' bs,Ending.returned v=.returned v'∧Below w.heap.size w w'∧(∀ b,I b→I' b) ∧
   (∀ b,I' b→b<w'.heap.size∧(b<w.heap.size→I b))∧ARep P w' I' [] r v' bs∧bs.Nodup∧∀ b∈bs,w.heap.size≤b∧b<w'.heap.size∧¬I' b:=by
  intro hres
  obtain ⟨v,bs,h1,h2,h3,h4⟩:=s.resultsA hrs hres
  refine ⟨s.dfs.1,v,h1,v,I',bs,rfl,⟨s.os,s.tape,s.output,s.size,fun b hb=>s.prot b hb⟩,s.mono,fun b hi=>⟨s.ilt b hi,fun hb=>s.kI b hb hi⟩,h2.noBp hbp,h3,fun b hm=>?_⟩
  obtain ⟨l,hl⟩:=h4 b hm
  refine ⟨?_,(s.own b l hl).1,(s.own b l hl).2⟩
  rcases Nat.lt_or_ge b w.heap.size with hlt|hge
  ·have:=s.kO b hlt;rw [this] at hl;cases hl
  ·exact hge
 cases e with
 | normal=>exact fin q
 | ret=>exact fin q
 | _=>exact q.elim
end
end Go.FL
namespace Go.FL
open Go
def val : List Nat→Nat
 | []=>0
 | x::xs=>x+4294967296 * val xs
def Ok (a:List Nat) : Prop:=∀ x∈a,x<4294967296
def Ak (n:Nat) : List Nat:=if h : n=0 then [] else n % 4294967296::Ak (n / 4294967296)
termination_by n
decreasing_by exact Nat.div_lt_self (by omega) (by decide)
theorem Bg : Ak 0=[]:=by unfold Ak;simp
theorem Ek {n:Nat} (h:n≠0) : Ak n=n % 4294967296::Ak (n / 4294967296):=by
 conv=>lhs;unfold Ak
 simp [h]
theorem Ok.nil : Ok []:=by simp [Ok]
theorem Ok.cons {x:Nat} {a:List Nat} (h:x<4294967296) (ha:Ok a) : Ok (x::a):=by
 intro y hy
 rcases List.mem_cons.1 hy with rfl|hy
 ·exact h
 ·exact ha y hy
theorem Ok.head {x:Nat} {a:List Nat} (h:Ok (x::a)) : x<4294967296:=h x (by simp)
theorem Ok.tail {x:Nat} {a:List Nat} (h:Ok (x::a)) : Ok a:=fun y hy=>h y (by simp [hy])
theorem Ok.append {a b:List Nat} (ha:Ok a) (hb:Ok b) : Ok (a++b):=by
 intro y hy
 rcases List.mem_append.1 hy with hy|hy
 ·exact ha y hy
 ·exact hb y hy
theorem Ok.left {a b:List Nat} (h:Ok (a++b)) : Ok a:=fun y hy=>h y (by simp [hy])
theorem Ok.right {a b:List Nat} (h:Ok (a++b)) : Ok b:=fun y hy=>h y (by simp [hy])
theorem Ok.take {a:List Nat} (h:Ok a) (n:Nat) : Ok (a.take n):=fun y hy=>h y (List.mem_of_mem_take hy)
theorem Ok.drop {a:List Nat} (h:Ok a) (n:Nat) : Ok (a.drop n):=fun y hy=>h y (List.mem_of_mem_drop hy)
theorem Ok.set {a:List Nat} (h:Ok a) (n:Nat) {x:Nat} (hx:x<4294967296) : Ok (a.set n x):=fun y hy=>by
 rcases List.mem_or_eq_of_mem_set hy with hy|rfl
 ·exact h y hy
 ·exact hx
theorem Ok.at {a:List Nat} (h:Ok a) {n x:Nat} (hx:a[n]?=some x) : x<4294967296:=h x (List.mem_of_getElem? hx)
theorem BC (n:Nat) : Ok (Ak n):=by
 induction n using Nat.strongRecOn with
 | ind n ih =>
  by_cases h:n=0
  ·subst h;rw [Bg];exact .nil
  ·rw [Ek h]
   exact .cons (Nat.mod_lt _ (by decide)) (ih _ (Nat.div_lt_self (by omega) (by decide)))
theorem Bi (n:Nat) : val (Ak n)=n:=by
 induction n using Nat.strongRecOn with
 | ind n ih =>
  by_cases h:n=0
  ·subst h;rw [Bg];rfl
  ·rw [Ek h,val,ih _ (Nat.div_lt_self (by omega) (by decide))]
   exact Nat.mod_add_div n 4294967296
theorem Fr (a b:List Nat) : val (a++b)=val a+4294967296 ^ a.length * val b:=by
 induction a with
 | nil=>simp [val]
 | cons x a ih =>
  simp only [List.cons_append,val,ih,List.length_cons,Nat.pow_succ]
  rw [Nat.mul_add,← Nat.mul_assoc,Nat.mul_comm 4294967296 (4294967296 ^ a.length),Nat.add_assoc]
theorem CR {a:List Nat} (h:Ok a) : val a<4294967296 ^ a.length:=by
 induction a with
 | nil=>simp [val]
 | cons x a ih =>
  have h1:=h.head
  have h2:=ih h.tail
  simp only [val,List.length_cons,Nat.pow_succ]
  have:4294967296 * val a+4294967296≤4294967296 * 4294967296 ^ a.length:=by
   rw [← Nat.mul_succ];exact Nat.mul_le_mul_left _ h2
  rw [Nat.mul_comm (4294967296 ^ a.length)]
  omega
def Top (a:List Nat) : Prop:=∀ x,a.getLast?=some x→x≠0
theorem UQ {a:List Nat} (h:Ok a) (ht:Top a) : Ak (val a)=a:=by
 induction a with
 | nil=>rw [val,Bg]
 | cons x a ih =>
  have hx:=h.head
  have hne:val (x::a)≠0:=by
   intro h0
   simp only [val] at h0
   have h1:x=0:=by omega
   have h2:val a=0:=by
    rcases Nat.eq_zero_or_pos (val a) with h|h
    ·exact h
    ·have:4294967296 * 1≤4294967296 * val a:=Nat.mul_le_mul_left _ h
     omega
   cases a with
   | nil=>exact ht x (by simp) h1
   | cons y b =>
    have:=ih h.tail (fun z hz=>ht z (by simpa [List.getLast?_cons_cons] using hz))
    rw [h2,Bg] at this;cases this
  rw [Ek hne]
  have h1:val (x::a) % 4294967296=x:=by simp only [val];rw [Nat.add_mul_mod_self_left];exact Nat.mod_eq_of_lt hx
  have h2:val (x::a) / 4294967296=val a:=by simp only [val];rw [Nat.add_mul_div_left _ _ (by decide),Nat.div_eq_of_lt hx];omega
  rw [h1,h2]
  congr 1
  cases a with
  | nil=>rw [val,Bg]
  | cons y b=>exact ih h.tail (fun z hz=>ht z (by simpa [List.getLast?_cons_cons] using hz))
theorem TX (n:Nat) : Top (Ak n):=by
 induction n using Nat.strongRecOn with
 | ind n ih =>
  intro x hx
  by_cases h:n=0
  ·subst h;rw [Bg] at hx;cases hx
  ·rw [Ek h] at hx
   by_cases h2:n / 4294967296=0
   ·rw [h2,Bg] at hx
    simp at hx
    have:n<4294967296:=by
     rcases Nat.lt_or_ge n 4294967296 with h|h
     ·exact h
     ·have:=Nat.div_pos h (by decide);omega
    rw [Nat.mod_eq_of_lt this] at hx;omega
   ·have:=ih (n / 4294967296) (Nat.div_lt_self (by omega) (by decide))
    rw [Ek h2] at hx this
    exact this x (by simpa [List.getLast?_cons_cons] using hx)
theorem Vr (a:List Nat) : val (a++[0])=val a:=by rw [Fr];simp [val]
theorem Kc {a:List Nat} (h:Ok a) : ND a=Ak (val a):=by
 generalize hn:a.length=n
 induction n generalizing a with
 | zero =>
  have:a=[]:=by cases a<;>simp_all
  subst this;rw [val,Bg];rfl
 | succ n ih =>
  rcases List.eq_nil_or_concat a with rfl|⟨b,x,rfl⟩
  ·rw [val,Bg];rfl
  ·rw [List.concat_eq_append] at *
   by_cases hx:x=0
   ·subst hx
    rw [K7,Vr]
    exact ih h.left (by simpa using hn)
   ·rw [MT _ hx,UQ h]
    intro y hy
    simp at hy;omega
theorem UT (a:List Nat) : ∃ k,a=ND a++List.replicate k 0:=by
 generalize hn:a.length=n
 induction n generalizing a with
 | zero =>
  have:a=[]:=by cases a<;>simp_all
  subst this;exact ⟨0,rfl⟩
 | succ n ih =>
  rcases List.eq_nil_or_concat a with rfl|⟨b,x,rfl⟩
  ·exact ⟨0,rfl⟩
  ·rw [List.concat_eq_append] at *
   by_cases hx:x=0
   ·subst hx
    obtain ⟨k,hk⟩:=ih b (by simpa using hn)
    refine ⟨k+1,?_⟩
    rw [K7,List.replicate_succ',← List.append_assoc,← hk]
   ·rw [MT _ hx];exact ⟨0,by simp⟩
theorem PT {a:List Nat} (h:Ok a) : a.length=(Ak (val a)).length↔Ak (val a)=a:=by
 obtain ⟨k,hk⟩:=UT a
 rw [Kc h] at hk
 constructor
 ·intro hl
  have:k=0:=by
   have:=congrArg List.length hk
   simp at this;omega
  subst this;simpa using hk.symm
 ·intro h;rw [h]
theorem DI {n k:Nat} (h:n<4294967296 ^ k) : (Ak n).length≤k:=by
 induction k generalizing n with
 | zero =>
  have:n=0:=by simpa using h
  subst this;rw [Bg];simp
 | succ k ih =>
  by_cases h0:n=0
  ·subst h0;rw [Bg];simp
  ·rw [Ek h0,List.length_cons]
   have:n / 4294967296<4294967296 ^ k:=by
    rw [Nat.div_lt_iff_lt_mul (by decide)];rwa [Nat.pow_succ] at h
   have:=ih this;omega
theorem CG {a:List Nat} (h:Ok a) : (Ak (val a)).length≤a.length:=DI (CR h)
end Go.FL
namespace Go.FL
open Go Go.Proofs
theorem Rg (xs:List Nat) (hx:xs.length≤35184372087808) : Fn Tryz.prog 152 [.sl (L xs)] (.d (.sl (L (ND xs)))):=by
 refine Fn.o1 2 24 Tryz.func152 ?_
 refine .seq (.region ?_)
 refine asn ?_;refine rn ?_
 refine .seq (.block (.loop (.gh (Gh.keep [0] rfl) ?_)))
 refine AL.ind (σ:=List Nat) (m:=List.length) (e:=fun ys=>[(0,.d (.sl (L ys)))]) (h:=fun _=>[]) (I:=fun ys=>ND ys=ND xs∧ys.length≤xs.length) ?_ xs ⟨rfl,Nat.le_refl _⟩
 intro ys ⟨hI,hl⟩ ih
 refine .seq (.seq (.region ?_))
 refine mvd ?_
 refine ln ?_ (BZ _) l32
 refine bi ?_;refine mvd ?_
 rcases List.eq_nil_or_concat ys with rfl|⟨zs,z,rfl⟩
 ·refine gf ?_
  refine gf4 ?_;refine gf2 ?_;refine pkd ?_;refine rn ?_;refine Cd ?_;refine .exit ?_;refine aw ?_
  refine .seq (.region ?_)
  refine mvd ?_;refine asd ?_;refine rn ?_;refine .ret ?_
  exact ⟨by rw [← hI];rfl,rfl⟩
 ·simp only [List.concat_eq_append,List.length_append,List.length_singleton] at *
  have e1:decide ((0:Int)<((L (zs++[z])).length:Int))=true:=by simp [Ab]
  rw [e1]
  refine mvd ?_;refine mvd ?_
  refine ln ?_ (BZ _) l32
  refine su zs.length ?_ ?_
  ·simp [Ab];omega
  refine ix zs.length ?_ rfl (F6 (xs:=zs++[z]) (n:=z) (by simp)) rfl s32
  refine ldp ?_ a32
  refine bi ?_;refine pkd ?_;refine rn ?_
  by_cases hz:z=0
  ·subst hz
   refine Cm ?_;refine .skip ?_;refine aw ?_
   refine .block (.region ?_)
   refine mvd ?_;refine mvd ?_
   refine ln ?_ (BZ _) l32
   refine su zs.length ?_ ?_
   ·simp [Ab];omega
   refine mvd ?_
   refine ln ?_ (BZ _) l32
   refine su zs.length ?_ ?_
   ·simp [Ab];omega
   refine sl 0 zs.length ?_ ?_ (Sr _) s32
   ·simp [Ab];omega
   refine asd ?_;refine .nil ?_;refine AL.gh (Gh.keep [0] rfl) ?_
   have:=ih zs ⟨by rw [← hI,K7],by omega⟩ (by omega)
   have e2:((L (zs++[0])).drop 0).take (zs.length-0)=L zs:=by simp [Ug,← Ab zs]
   rw [e2]
   exact this
  ·have e2:decide ((z:Int)=0)=false:=by simp;omega
   rw [e2]
   refine Cd ?_;refine .exit ?_;refine aw ?_
   refine .seq (.region ?_)
   refine mvd ?_;refine asd ?_;refine rn ?_;refine .ret ?_
   exact ⟨by rw [← hI,MT _ hz];rfl,rfl⟩
theorem YT : 0<Ay Tryz.prog 23:=by rw [z32];decide
theorem Eb {a:List Nat} (h:Ok a) (hl:a.length≤35184372087808) : Fn Tryz.prog 152 [.sl (L a)] (.d (.sl (L (Ak (val a))))):=by
 have:=Rg a (by omega)
 rwa [Kc h] at this
theorem M0 (a:List Nat) (hl:a.length≤35184372087808) : Fn Tryz.prog 151 [.sl (L a)] (.own 23 (L a)):=by
 refine Fn.o1 2 8 Tryz.func151 ?_;refine .sr ?_;refine asn ?_;refine rn ?_;refine .seq ?_;refine .sr ?_;refine mvd ?_
 refine nq (fun b hb=>?_) (BZ _) l32
 refine rn ?_
 refine cnd (fun hc=>?_) (fun hc=>?_)
 ·simp only [if_true] at hc
  have h0:L a=[]:=by
   apply Classical.byContradiction
   intro h;rw [hb h] at hc;cases hc
  refine .sr ?_;refine asn ?_;refine rn ?_;refine .gh (Gh.nlOwn (t:=2) 23 YT rfl) ?_;refine .ret ?_
  exact ⟨by rw [h0];rfl,rfl⟩
 ·refine .skip ?_
  refine aw ?_;refine .sr ?_
  refine bsl ?_ ?_ e32
  ·simp
  refine mvd ?_
  refine apo ?_ ?_ (Sr _) e32
  ·simp [Ab];omega
  refine aso ?_;refine rn ?_;refine .ret ?_
  exact ⟨rfl,rfl⟩
theorem L9 {a:List Nat} (h:Ok a) (hl:a.length≤35184372087808) : Fn Tryz.prog 245 [.sl (L a)] (.own 23 (L (Ak (val a)))):=by
 have hd:=CG h
 refine Fn.o1 2 6 Tryz.func245 ?_;refine .sr ?_;refine asn ?_;refine rn ?_;refine .sr ?_;refine mvd ?_
 refine cl ?_ (Eb h hl) Tryz.call152
 refine cl ?_ (M0 (Ak (val a)) (by omega)) Tryz.call151
 refine aso ?_;refine rn ?_;refine .ret ?_
 exact ⟨rfl,rfl⟩
theorem P6 {a:List Nat} (h:Ok a) (hl:a.length≤35184372087808) : Fn Tryz.prog 213 [.sl (L a)] (.d (.b (decide (Ak (val a)=a)))):=by
 have hd:=CG h
 refine Fn.o1 2 9 Tryz.func213 ?_;refine .sr ?_;refine asd ?_;refine rn ?_;refine .sr ?_;refine mvd ?_
 refine ln ?_ (BZ _) l32
 refine mvd ?_
 refine cl ?_ (Eb h hl) Tryz.call152
 refine ln ?_ (BZ _) l32
 refine bi ?_;refine asd ?_;refine rn ?_;refine .ret ?_
 refine ⟨?_,rfl⟩
 show AV.d (.b (decide (((L a).length:Int)=((L (Ak (val a))).length:Int))))=_
 congr 2
 simp only [Ab,decide_eq_decide]
 rw [← PT h];omega
theorem S6 {n:Nat} (h:n<18446744073709551616) : val [n % 4294967296,n / 4294967296]=n∧Ok [n % 4294967296,n / 4294967296]:=by
 refine ⟨by simp only [val];omega,?_⟩
 exact .cons (Nat.mod_lt _ (by decide)) (.cons (by omega) .nil)
theorem Gc (n:Nat) : IntKind.u32.wrap (n:Int)=((n % 4294967296:Nat) : Int):=by
 simp only [IntKind.wrap,IntKind.bits,IntKind.signed]
 simp
theorem Xd {n:Nat} (h:n<18446744073709551616) : Fn Tryz.prog 92 [.i .u64 n] (.d (.sl (L (Ak n)))):=by
 obtain ⟨h1,h2⟩:=S6 h
 refine Fn.o1 2 10 Tryz.func92 ?_;refine .sr ?_;refine asn ?_;refine rn ?_;refine .sr ?_;refine mvd ?_
 refine cve ((n % 4294967296:Nat):Int) (Gc n) ?_ u64 u32
 refine mvd ?_;refine bie (.i .u64 ((n / 4294967296:Nat):Int)) ?_ ?_
 ·simp [IntKind.bits]
 refine cve ((n / 4294967296:Nat):Int) (by rw [Gc,Nat.mod_eq_of_lt];omega) ?_ u64 u32
 refine bsl ?_ ?_ e32
 ·simp [DV.flat,DV.cells,DV.leaf]
 refine fz (p:=.t 8) ?_
 refine cl (xs:=[.sl (L [n % 4294967296,n / 4294967296])]) ?_ (Eb h2 (by simp)) Tryz.call152
 refine asd ?_;refine rn ?_;refine .ret ?_
 exact ⟨by rw [h1];rfl,rfl⟩
theorem BU {n:Nat} (h:n<18446744073709551616) : IntKind.u64.wrap (n:Int)=n:=by
 simp only [IntKind.wrap,IntKind.bits,IntKind.signed]
 simp;omega
theorem Om {n:Nat} (h:n<4294967296) : IntKind.u32.wrap (n:Int)=n:=by
 rw [Gc,Nat.mod_eq_of_lt h]
theorem SN (a b:List Nat) (hl:a.length≤35184372087808) : Fn Tryz.prog 76 [.sl (L a),.sl (L b)] (.d (.b (decide (a=b)))):=by
 refine Fn.o1 4 26 Tryz.func76 ?_;refine .sr ?_;refine asd ?_;refine rn ?_;refine .seq ?_;refine .sr ?_;refine mvd ?_
 refine ln ?_ (BZ _) l32
 refine mvd ?_
 refine ln ?_ (BZ _) l32
 refine bi ?_;refine rn ?_
 by_cases hlen:a.length=b.length
 ·have e1:(!decide (((L a).length:Int)=((L b).length:Int)))=false:=by simp [Ab];omega
  rw [e1]
  refine Cd ?_;refine .skip ?_;refine aw ?_;refine .mid (fun e H'=>e=[(0,.d (.sl (L a))),(1,.d (.sl (L b)))]∧a=b) ?_ ?_
  ·refine .sr ?_
   refine asd ?_;refine rn ?_;refine .block ?_
   refine .loop (.gh (Gh.keep [0,1,5] rfl) ?_)
   refine AL.ind (σ:=Nat) (m:=fun i=>a.length-i) (e:=fun i=>[(0,.d (.sl (L a))),(1,.d (.sl (L b))),(5,.d (.i .i64 i))]) (h:=fun _=>[]) (I:=fun i=>i≤a.length∧a.take i=b.take i) ?_ 0 ⟨by omega,by simp⟩
   intro i ⟨hi,hc⟩ ih
   refine .seq ?_;refine .sr ?_;refine mvd ?_;refine mvd ?_
   refine ln ?_ (BZ _) l32
   refine bi ?_;refine rn ?_
   by_cases hil:i<a.length
   ·rw [dT (show (i:Int)<((L a).length:Int) by rw [Ab];omega)]
    have hx:a[i]?=some a[i]:=lG hil
    have hy:b[i]?=some b[i]:=lG (by omega)
    refine Cm ?_;refine .skip ?_;refine aw ?_;refine .gh (Gh.keep [0,1,5] rfl) ?_;refine .seq ?_;refine .block ?_;refine .seq ?_;refine .drawn 9 A3 (by kernel_rfl) ?_;refine dv Ac ?_;refine dv Ac ?_;refine dv (vix i rfl (F6 hx) rfl s32) ?_;refine dv (Aj a32) ?_;refine dv Ac ?_;refine dv Ac ?_;refine dv (vix i rfl (F6 hy) rfl s32) ?_;refine dv (Aj a32) ?_;refine dv vbi ?_;refine dz ?_;refine rn ?_
    by_cases hxy:a[i]=b[i]
    ·have e2:(!decide (((a[i]:Nat):Int)=((b[i]:Nat):Int)))=false:=by simp;omega
     rw [e2]
     refine Cd ?_;refine .skip ?_;refine aw ?_;refine .region ?_;refine mvd ?_;refine ad ((i+1:Nat):Int) ?_ ?_
     ·omega
     refine asd ?_;refine .nil ?_
     refine AL.gh (Gh.keep [0,1,5] rfl) (ih (i+1) ⟨by omega,?_⟩ (by omega))
     rw [List.take_add_one,List.take_add_one,hc,hx,hy,hxy]
    ·have e2:(!decide (((a[i]:Nat):Int)=((b[i]:Nat):Int)))=true:=by simp;omega
     rw [e2]
     refine Cm ?_;refine .sr ?_;refine asd ?_;refine rn ?_;refine .ret ?_
     have:a≠b:=fun e=>hxy (by subst e;rfl)
     exact ⟨by rw [dF this];rfl,rfl⟩
   ·rw [dF (show ¬(i:Int)<((L a).length:Int) by rw [Ab];omega)]
    refine Cd ?_;refine .gh (Gh.keep [0,1] rfl) ?_;refine .exit ?_
    refine ⟨rfl,?_⟩
    rwa [List.take_of_length_le (by omega),List.take_of_length_le (by omega)] at hc
  ·rintro _ _ ⟨rfl,rfl⟩
   refine .sr ?_;refine asd ?_;refine rn ?_;refine .ret ?_
   exact ⟨by rw [dT rfl];rfl,rfl⟩
 ·have e1:(!decide (((L a).length:Int)=((L b).length:Int)))=true:=by simp [Ab];omega
  rw [e1]
  refine Cm ?_;refine .sr ?_;refine asd ?_;refine rn ?_;refine .ret ?_
  have:a≠b:=fun e=>hlen (by rw [e])
  exact ⟨by rw [dF this];rfl,rfl⟩
end Go.FL
namespace Go.FL
open Go Go.Proofs Go.RowKit
attribute [local go_sem] Oper.semAt_some
set_option maxRecDepth 100000 in
set_option maxHeartbeats 2000000 in
theorem Xf (F:Fence) (n:Nat) (hF:F.fn 187) (hro:F.round=none) (hn:1≤n) (l:Nat) (bx:Nat) (ox:Nat) (A:Option Addr) (b off cap:Nat) (vs:List Value) (J:Nat→World→Prop) (hr:vs.length≤1048576) (hA:0<vs.length→A=some ⟨b,off,none⟩)
  (hbx:∀ k W',J k W'→W'.cell? ⟨bx,ox,none⟩=some (.slice A vs.length cap)) (hc:∀ k W',J k W'→∀ j u,vs[j]?=some u→W'.cell? ⟨b,off+j,none⟩=some u)
  (hY:∀ k W1 u,J k W1→k<vs.length→vs[vs.length-1-k]?=some u→YieldAt F (n-1) Tryz.prog l #[.int .i64 ((vs.length-1-k:Nat):Int),u] W1 fun e W'=>e=.returned (.bool true)∧J (k+1) W')
  (W:World) (h0:J 0 W) :
  CallsIn F n Tryz.prog 187 #[.func (.yield l) #[] #[],.pointer (some ⟨bx,ox,none⟩)] W fun e W'=>(∃ v,e=.returned v)∧J vs.length W':=by
 refine callsIn_of_wp Tryz.func187 rfl hF ?_ hro
 simp only [Tryz.ntmps187,List.size_toArray,List.length_cons,List.length_nil,Nat.reduceAdd,Nat.reduceSub,Array.replicate_succ,Array.replicate_zero,List.push_toArray,List.append_toArray,List.nil_append,List.cons_append]
 have hbx0:=hbx 0 W h0
 gi_wp2
 gi_loopw [3] (fun i wr=>∃ k:Nat,k≤vs.length∧i=.int .i64 ((vs.length:Int)-1-k)∧J k wr) (fun i _=>((intOf i)+1).toNat)
 case atStart=>exact ⟨0,Nat.zero_le _,by simp,h0⟩
 case round =>
  obtain ⟨k,hk,rfl,hJs⟩:=hrel
  have hbx':=hbx k wr hJs
  by_cases hlt:k<vs.length
  ·have hvk:vs[vs.length-1-k]?=some vs[vs.length-1-k]:=lG (by omega)
   obtain ⟨fn,tmps,assign,body,hy,hR⟩:=hY k wr _ hJs hlt hvk
   rw [show ((vs.length-1-k:Nat):Int)=(vs.length:Int)-1-k by omega] at hy
   have hcx':=hc k wr hJs _ _ hvk
   have hAA:=hA (by omega)
   subst hAA
   gi_wp2
   refine hR.mono ?_
   rintro e W3 ⟨rfl,hJ3⟩
   gi_wp2
   go_roundw
   case rel=>exact ⟨k+1,by omega,by simp;omega,hJ3⟩
   case measure=>simp [intOf];omega
  ·obtain rfl:k=vs.length:=by omega
   gi_wp2
   go_end0
   exact ⟨⟨_,rfl⟩,hJs⟩
def J7 (xs:List DV) : List (List DV):=(List.range xs.length).map fun k=>[.i .i64 ((xs.length-1-k:Nat) : Int),xs.getD (xs.length-1-k) .np]
theorem HY (xs:List DV) : (J7 xs).length=xs.length:=by simp [J7]
theorem P9 {xs:List DV} {k:Nat} {ds:List DV} (h:(J7 xs)[k]?=some ds) : k<xs.length∧ds=[.i .i64 ((xs.length-1-k:Nat) : Int),xs.getD (xs.length-1-k) .np]:=by
 have h1:k<(J7 xs).length:=(lS.1 h).1
 rw [HY] at h1
 refine ⟨h1,?_⟩
 simp [J7,h1] at h
 rw [← h];simp
theorem Ov {P:Program} {n m:Nat} {f:FuncId} {args:Array Value} {w:World} {R:Ending→World→Prop} (h:CallsIn (om none) n P f args w R) : CallsIn (om none) m P f args w R:=⟨h.1,fun cs _=>h.2 cs (room_wide _)⟩
theorem RepRows.leaf1 {w:World} {I:Nat→Prop} : ∀ {xs:List DV} {vs:List Value},RepRows w I 1 xs vs→(∀ x∈xs,x.leaf=true)→RepAll w I xs vs:=by
 intro xs
 induction xs with
 | nil=>intro vs h _;cases h;exact .nil
 | cons x xs ih =>
  intro vs h hx
  cases h with
  | cons hl h1 h t =>
   rename_i us vs'
   rw [DV.leaf_cells (hx x (by simp))] at h
   cases h with
   | cons hh tt=>cases tt;exact .cons hh (ih t fun y hy=>hx y (by simp [hy]))
theorem RepRows.size1 {w:World} {I:Nat→Prop} {sz:Nat} {xs:List DV} {vs:List Value} (h:RepRows w I sz xs vs) (hx:∀ x∈xs,x.leaf=true) (hne:xs≠[]) : sz=1:=by
 cases h with
 | nil=>exact absurd rfl hne
 | cons hl h1 h t =>
  rename_i x xs' us vs'
  rw [DV.leaf_cells (hx x (by simp))] at h
  have:=h.length
  rw [← hl,← this];rfl
theorem Y1 (xs:List DV) (hx:∀ x∈xs,x.leaf=true) (hl:xs.length≤1048576) : It Tryz.prog 187 [.ptr [.sl xs]] (J7 xs):=by
 intro l W I cv J hJ hcv hY h0
 cases hcv with
 | cons hp ht =>
 cases ht
 cases hp with
 | ptr _ bk o us hI hh hr =>
 cases hr with
 | cons hs hn =>
 cases hn
 rename_i u
 have hbx:∀ k W',J k W'→W'.cell? ⟨bk,o,none⟩=some u:=fun k W' hj=>by
  have:=hh 0 u rfl
  rw [World.cell?_of_block (w:=W) (w':=W') (a:=⟨bk,o,none⟩) (hJ k W' hj bk hI)]
  simpa using this
 cases hs with
 | sl0 A c =>
  exact Ov (Xf (om none) 1 trivial rfl (Nat.le_refl _) l bk o A 0 0 c [] J (by simp) (by simp) hbx (by simp) (by simp) W h0)
 | sl xs bk' o' sz c vs hne hc hI' hsz hh' hr =>
  have hs1:=hr.size1 hx hne
  subst hs1
  have hra:=hr.leaf1 hx
  have hlv:xs.length=vs.length:=hra.length
  have hcell:∀ k W',J k W'→∀ j v,vs[j]?=some v→W'.cell? ⟨bk',o'+j,none⟩=some v:=fun k W' hj j v hv=>by
   rw [World.cell?_of_block (w:=W) (w':=W') (a:=⟨bk',o'+j,none⟩) (hJ k W' hj bk' hI')]
   exact hh' j v hv
  have:=Xf (om none) 1 trivial rfl (Nat.le_refl _) l bk o (some ⟨bk',o',none⟩) bk' o' c vs J (by omega) (fun _=>rfl) (by rw [← hlv];exact hbx) hcell (fun k W1 v hj hk hv=>?_) W h0
  ·rw [HY,hlv];exact Ov this
  ·have hk':k<xs.length:=by omega
   have hx1:xs[xs.length-1-k]?=some xs[xs.length-1-k]:=lG (by omega)
   obtain ⟨v',hv1,hv2⟩:=hra.get _ _ hx1
   rw [hlv,hv] at hv1
   cases hv1
   have hyk:(J7 xs)[k]?=some [.i .i64 ((xs.length-1-k:Nat):Int),xs.getD (xs.length-1-k) .np]:=by
    simp [J7,hk']
   rw [← hlv]
   refine hY k W1 _ [.int .i64 ((xs.length-1-k:Nat):Int),v] hj hyk (.cons (.i _ _) (.cons ?_ .nil))
   rw [lD,hx1]
   exact hv2.keep (hJ k W1 hj) fun _ h=>h
end Go.FL
namespace Go.FL
open Go Go.Proofs
theorem Pz (xs:List DV) : Fn Tryz.prog 138 [.sl xs] (.d (.fn 187 [] [.ptr [.sl xs]])):=by
 refine Fn.o1 2 4 Tryz.func138 ?_;refine .sr ?_;refine bxd ?_;refine asd ?_;refine rn ?_;refine .sr ?_;refine mkf ?_;refine asd ?_;refine rn ?_;refine .ret ?_
 exact ⟨rfl,rfl⟩
def BE (n:Nat) : Nat:=if n=0 then 0 else n.log2+1
theorem EL {n k:Nat} : BE n≤k↔n<2 ^ k:=by
 unfold BE;split
 ·rename_i h;subst h;simp [Nat.two_pow_pos]
 ·rename_i h;rw [← Nat.log2_lt h];omega
theorem PD {n k:Nat} (h1:2 ^ k≤n) (h2:n<2 ^ (k+1)) : BE n=k+1:=by
 have a:=EL.2 h2
 have b:¬BE n≤k:=fun h=>by have:=EL.1 h;omega
 omega
theorem Jl {n:Nat} (h:n≠0) : ∃ k,BE n=k+1∧2 ^ k≤n∧n<2 ^ (k+1):=by
 refine ⟨n.log2,by simp [BE,h],Nat.log2_self_le h,Nat.lt_log2_self⟩
theorem LJ {n m:Nat} (h:2 ^ m≤n) : BE n=m+BE (n / 2 ^ m):=by
 have hp:0<2 ^ m:=Nat.two_pow_pos m
 have h0:n / 2 ^ m≠0:=by have:=Nat.div_pos h hp;omega
 obtain ⟨k,h1,h2,h3⟩:=Jl h0
 rw [h1]
 rw [show m+(k+1)=(m+k)+1 by omega]
 refine PD ?_ ?_
 ·rw [Nat.pow_add,Nat.mul_comm]
  exact (Nat.le_div_iff_mul_le hp).1 h2
 ·rw [show m+k+1=(k+1)+m by omega,Nat.pow_add]
  exact (Nat.div_lt_iff_lt_mul hp).1 h3
theorem XU {l:List UInt8} (n:Nat) (h:n<256) (hl:(List.range 256).map (fun n=>(BE n).toUInt8)=l) : l[n]?=some (BE n).toUInt8:=by
 subst hl;simp [h]
theorem Yq {n:Nat} (h:n<256) : IntKind.u8.wrap (n:Int)=n:=by
 simp only [IntKind.wrap,IntKind.bits,IntKind.signed]
 simp;omega
theorem TN {n:Nat} (h:n<4294967296) : Fn Tryz.prog 233 [.i .u32 n] (.d (.i .i64 (BE n))):=by
 refine Fn.o1 2 19 Tryz.func233 ?_;refine .sr ?_;refine asd ?_;refine rn ?_;refine .mid (fun e H'=>∃ y k:Nat,e=[(0,.d (.i .u32 y)),(2,.d (.i .i64 k))]∧y<65536∧k≤16∧BE n=k+BE y) ?_ ?_
 ·refine .sr ?_
  refine mvd ?_;refine bi ?_;refine rn ?_
  by_cases hc:65536≤n
  ·rw [dT (show (65536:Int)≤(n:Int) by omega)]
   refine Cm ?_;refine .sr ?_;refine mvd ?_;refine bie (.i .u32 ((n / 65536:Nat):Int)) ?_ ?_
   ·simp [IntKind.bits]
   refine asd ?_;refine rn ?_;refine .region ?_;refine asd ?_;refine RL.gh (Gh.keep [0,2] rfl) ?_;refine rn ?_
   exact ⟨n / 65536,16,rfl,by omega,by omega,LJ (m:=16) (by omega)⟩
  ·rw [dF (show ¬(65536:Int)≤(n:Int) by omega)]
   refine Cd ?_;refine .gh (Gh.keep [0,2] rfl) ?_;refine .skip ?_
   exact ⟨n,0,rfl,by omega,by omega,by omega⟩
 rintro _ _ ⟨y,k,rfl,hy,hk,e1⟩
 refine .mid (fun e H'=>∃ z j:Nat,e=[(0,.d (.i .u32 z)),(2,.d (.i .i64 j))]∧z<256∧j≤24∧BE n=j+BE z) ?_ ?_
 ·refine .sr ?_
  refine mvd ?_;refine bi ?_;refine rn ?_
  by_cases hc:256≤y
  ·rw [dT (show (256:Int)≤(y:Int) by omega)]
   refine Cm ?_;refine .sr ?_;refine mvd ?_;refine bie (.i .u32 ((y / 256:Nat):Int)) ?_ ?_
   ·simp [IntKind.bits]
   refine asd ?_;refine rn ?_;refine .region ?_;refine mvd ?_;refine ad ((k+8:Nat):Int) ?_ ?_
   ·omega
   refine asd ?_;refine RL.gh (Gh.keep [0,2] rfl) ?_;refine rn ?_
   exact ⟨y / 256,k+8,rfl,by omega,by omega,by rw [e1,LJ (m:=8) (by omega)];simp;omega⟩
  ·rw [dF (show ¬(256:Int)≤(y:Int) by omega)]
   refine Cd ?_;refine .gh (Gh.keep [0,2] rfl) ?_;refine .skip ?_
   exact ⟨y,k,rfl,by omega,by omega,e1⟩
 rintro _ _ ⟨z,j,rfl,hz,hj,e2⟩
 have hb:BE z≤8:=EL.2 (by omega)
 refine .sr ?_;refine mvd ?_;refine mvd ?_
 refine cve (z:Int) (Yq hz) ?_ u32 u8
 refine ids (b:=(BE z).toUInt8) z rfl ?_ ?_ st
 ·exact XU z hz (by kernel_rfl)
 have e3:((BE z).toUInt8).toNat=BE z:=by simp;omega
 rw [e3]
 refine cve ((BE z:Nat):Int) (HV (by omega) (by omega)) ?_ u8 i64
 refine ad ((BE n:Nat):Int) ?_ ?_
 ·omega
 refine asd ?_;refine rn ?_;refine .ret ?_
 exact ⟨rfl,rfl⟩
theorem GX {n:Nat} (h:n<4294967296) : Fn Tryz.prog 186 [.i .u32 n] (.d (.i .i64 ((32-BE n:Nat) : Int))):=by
 have hb:BE n≤32:=EL.2 (by omega)
 refine Fn.o1 2 6 Tryz.func186 ?_;refine .sr ?_;refine asd ?_;refine rn ?_;refine .sr ?_;refine mvd ?_
 refine cl ?_ (TN h) Tryz.call233
 refine su ((32-BE n:Nat):Int) ?_ ?_
 ·omega
 refine asd ?_;refine rn ?_;refine .ret ?_
 exact ⟨rfl,rfl⟩
theorem YN (n:Nat) : 4294967296 ^ n=2 ^ (32 * n):=by rw [Nat.pow_mul]
theorem Oq {b:List Nat} {x:Nat} (h:Ok b) (hx:x≠0) : BE (val (b++[x]))=32 * b.length+BE x:=by
 obtain ⟨k,h1,h2,h3⟩:=Jl hx
 have hv:=CR h
 rw [h1,Fr,← Nat.add_assoc]
 simp only [val]
 rw [YN] at hv ⊢
 have hp:=Nat.two_pow_pos (32 * b.length)
 refine PD ?_ ?_
 ·rw [Nat.pow_add]
  have:=Nat.mul_le_mul_left (2 ^ (32 * b.length)) h2
  simp only [Nat.mul_zero,Nat.add_zero];omega
 ·rw [show 32 * b.length+k+1=32 * b.length+(k+1) by omega,Nat.pow_add]
  have:=Nat.mul_le_mul_left (2 ^ (32 * b.length)) (Nat.succ_le_of_lt h3)
  rw [Nat.mul_succ] at this
  simp only [Nat.mul_zero,Nat.add_zero];omega
theorem M5 {n:Nat} (h:n≠0) : ∃ b x,Ak n=b++[x]∧x≠0∧Ok b∧x<4294967296:=by
 rcases List.eq_nil_or_concat (Ak n) with h0|⟨b,x,h0⟩
 ·rw [Ek h] at h0;cases h0
 ·rw [List.concat_eq_append] at h0
  have ho:=BC n
  rw [h0] at ho
  exact ⟨b,x,h0,TX n x (by rw [h0];simp),ho.left,ho.right x (by simp)⟩
theorem HB {n:Nat} : Ak n=[]↔n=0:=by
 constructor
 ·intro h
  apply Classical.byContradiction
  intro h0;rw [Ek h0] at h;cases h
 ·rintro rfl;exact Bg
theorem WY {a:List Nat} (h:Ok a) (hl:a.length≤1048576) : Fn Tryz.prog 137 [.sl (L a)] (.d (.i .i64 (BE (val a)))):=by
 have hd:=CG h
 refine Fn.o1 2 19 Tryz.func137 ?_;refine .sr ?_;refine asd ?_;refine rn ?_;refine .sr ?_;refine mvd ?_
 refine cl ?_ (Eb h (by omega)) Tryz.call152
 refine asd ?_;refine rn ?_;refine .seq ?_;refine .sr ?_;refine mvd ?_
 refine ln ?_ (BZ _) l32
 refine bi ?_;refine rn ?_
 by_cases hz:val a=0
 ·rw [hz,Bg]
  refine Cm ?_;refine .sr ?_;refine asd ?_;refine rn ?_;refine .ret ?_
  exact ⟨rfl,rfl⟩
 ·obtain ⟨b,x,e1,hx,hb,hxl⟩:=M5 hz
  have hval:BE (val a)=32 * b.length+BE x:=by rw [← Oq hb hx,← e1,Bi]
  have hlx:BE x≤32:=EL.2 (by omega)
  rw [e1] at hd ⊢
  simp only [List.length_append,List.length_singleton] at hd
  rw [dF (show ¬((L (b++[x])).length:Int)=0 by simp [Ab];omega)]
  refine Cd ?_;refine .skip ?_;refine aw ?_;refine .sr ?_;refine mvd ?_
  refine ln ?_ (BZ _) l32
  refine ml ((32 * (b.length+1):Nat):Int) ?_ ?_
  ·simp [Ab];omega
  refine mvd ?_;refine mvd ?_
  refine ln ?_ (BZ _) l32
  refine su (b.length:Int) ?_ ?_
  ·simp [Ab];omega
  refine ix b.length ?_ rfl (F6 (xs:=b++[x]) (n:=x) (by simp)) rfl s32
  refine ldp ?_ a32
  refine cl ?_ (GX hxl) Tryz.call186
  refine su ((BE (val a):Nat):Int) ?_ ?_
  ·omega
  refine asd ?_;refine rn ?_;refine .ret ?_
  exact ⟨rfl,rfl⟩
theorem G8 (n:Int) (h₀:0≤n) (h₁:n<2 ^ 64) : IntKind.u64.wrap n=n:=by
 simp only [IntKind.wrap,IntKind.bits,IntKind.signed];simp;omega
theorem NU (n:Int) (h₀:0≤n) (h₁:n<2 ^ 32) : IntKind.u32.wrap n=n:=by
 simp only [IntKind.wrap,IntKind.bits,IntKind.signed];simp;omega
theorem Km {x y:Nat} (hx:x<4294967296) (hy:y<4294967296) : bits .or .u64 ((x * 4294967296:Nat) : Int) (y:Int)=((x * 4294967296+y:Nat) : Int):=by
 rw [bits_join .u64 64 (by decide) G8 32 ((x * 4294967296:Nat):Int) (y:Int) (by omega) (by omega) (by omega) (by omega) (by omega) (by omega)]
 omega
theorem QM (n m:Nat) : Int.tdiv (n:Int) (m:Int)=((n / m:Nat) : Int):=rfl
theorem TP (n m:Nat) : Int.tmod (n:Int) (m:Int)=((n % m:Nat) : Int):=rfl
theorem TV {hi lo y:Nat} (h1:hi<y) (h2:lo<4294967296) (h3:y<4294967296) : Fn Tryz.prog 270 [.i .u32 hi,.i .u32 lo,.i .u32 y]
  (.tup [.d (.i .u32 (((hi * 4294967296+lo) / y:Nat):Int)),.d (.i .u32 (((hi * 4294967296+lo) % y:Nat):Int))]):=by
 have hq:(hi * 4294967296+lo) / y<4294967296:=by
  rw [Nat.div_lt_iff_lt_mul (by omega)]
  have:hi * 4294967296+4294967296≤y * 4294967296:=by rw [← Nat.succ_mul];exact Nat.mul_le_mul_right _ h1
  omega
 have hr:(hi * 4294967296+lo) % y<4294967296:=by have:=Nat.mod_lt (hi * 4294967296+lo) (show 0<y by omega);omega
 refine Fn.of (rs:=[.tmp 6,.tmp 7]) (nt:=33) Tryz.func270 rfl rfl rfl (by simp) rfl ?_;refine .sr ?_;refine asd ?_;refine asd ?_;refine rn ?_;refine .seq ?_;refine .sr ?_;refine mvd ?_;refine bi ?_;refine mvd ?_
 have e1:(!decide ((y:Int)=0))=true:=by simp;omega
 rw [e1]
 refine mvd ?_;refine mvd ?_;refine bi ?_
 rw [dF (show ¬((y:Int)≤(hi:Int)) by omega)]
 refine pkd ?_;refine rn ?_;refine Cd ?_;refine .skip ?_;refine aw ?_;refine .sr ?_;refine mvd ?_
 refine cve (hi:Int) (BU (by omega)) ?_ u32 u64
 refine bie (.i .u64 ((hi * 4294967296:Nat):Int)) ?_ ?_
 ·refine ⟨by decide,?_⟩
  rw [show min (32:Int).toNat IntKind.u64.bits=32 from rfl,G8 _ (by omega) (by omega)]
  simp
 refine mvd ?_
 refine cve (lo:Int) (BU (by omega)) ?_ u32 u64
 refine bie (.i .u64 ((hi * 4294967296+lo:Nat):Int)) ?_ ?_
 ·exact ⟨trivial,by rw [Km (by omega) h2]⟩
 refine asd ?_;refine rn ?_;refine .seq ?_;refine .gh (Gh.keep [2,8] rfl) ?_;refine .drawn 12 A3 (by kernel_rfl) ?_;refine dv Ac ?_;refine dv Ac ?_;refine dv (Mp (y:Int) (BU (by omega)) u32 u64) ?_;refine dv (Th (.i .u64 (((hi * 4294967296+lo) / y:Nat):Int)) ?_) ?_
 ·refine ⟨by omega,?_⟩
  rw [QM,BU (by omega)]
 refine dv (Mp (((hi * 4294967296+lo) / y:Nat):Int) (Om hq) u64 u32) ?_;refine dv Ac ?_;refine dv Ac ?_;refine dv (Mp (y:Int) (BU (by omega)) u32 u64) ?_;refine dv (Th (.i .u64 (((hi * 4294967296+lo) % y:Nat):Int)) ?_) ?_
 ·refine ⟨by omega,?_⟩
  rw [TP]
 refine dv (Mp (((hi * 4294967296+lo) % y:Nat):Int) (Om hr) u64 u32) ?_;refine dv Ya ?_;refine dv Ya ?_;refine dz ?_;refine rn ?_;refine .ret ?_
 exact ⟨by decide,rfl,rfl,rfl⟩
theorem TJ (n:Int) (h₀:0≤n) (h₁:n<2 ^ 63) : IntKind.i64.wrap n=n:=by
 simp only [IntKind.wrap,IntKind.bits,IntKind.signed];simp;omega
theorem XY {xs:List Nat} {j:Nat} (h:j<xs.length) : val (xs.drop j)=xs[j]+4294967296 * val (xs.drop (j+1)):=by
 rw [lC h];simp [val]
theorem Mv (xs:List Nat) (i n:Nat) : (L xs).set i (U n)=L (xs.set i n):=by simp [L,List.map_set]
theorem Hb {xs:List Nat} {i n:Nat} (h:xs[i]?=some n) : ∃ x,(L xs)[i]?=some x∧x.cells[0]?=some (U n):=⟨U n,F6 h,rfl⟩
theorem Gu {xs:List Nat} {i n:Nat} (h:xs[i]?=some n) : ∃ x,(L xs)[i]?=some x∧x.leaf=true:=⟨U n,F6 h,rfl⟩
theorem P3 {ds qs:List Nat} {k x r d:Nat} (hx:ds[k]?=some x) (h:val (ds.drop (k+1))=val qs * d+r) :
  val (ds.drop k)=val ((r * 4294967296+x) / d::qs) * d+(r * 4294967296+x) % d:=by
 have hk:k<ds.length:=(lS.1 hx).1
 have e:ds.drop k=x::ds.drop (k+1):=by
  rw [lC hk]
  rw [lG hk] at hx;cases hx;rfl
 rw [e,val,h,val]
 have:=Nat.div_add_mod (r * 4294967296+x) d
 generalize (r * 4294967296+x) / d=q at *
 generalize (r * 4294967296+x) % d=s at *
 rw [Nat.add_mul,Nat.mul_add,Nat.mul_comm q d]
 have e2:4294967296 * (val qs * d)=4294967296 * val qs * d:=by rw [Nat.mul_assoc]
 omega
theorem Tb {n q r d:Nat} (h:n=q * d+r) (hr:r<d) : n / d=q∧n % d=r:=by
 subst h
 have hd:0<d:=by omega
 constructor
 ·rw [Nat.mul_comm,Nat.mul_add_div hd,Nat.div_eq_of_lt hr];omega
 ·rw [Nat.mul_comm,Nat.mul_add_mod,Nat.mod_eq_of_lt hr]
theorem VG {a:List Nat} (h:Ok a) (hl:a.length≤1048576) {d:Nat} (hd0:0<d) (hd:d<4294967296) : Fn Tryz.prog 247 [.sl (L a),.i .u32 d]
  (.tup [.d (.sl (L (Ak (val a / d)))),.d (.sl (L (Ak (val a % d))))]):=by
 have hdl:=CG h
 refine Fn.of (rs:=[.tmp 4,.tmp 5]) (nt:=35) Tryz.func247 rfl rfl rfl (by simp) rfl ?_;refine .sr ?_;refine asn ?_;refine asn ?_;refine rn ?_;refine .sr ?_;refine mvd ?_
 refine cl ?_ (L9 h (by omega)) Tryz.call245
 refine aso ?_;refine rn ?_;refine .sr ?_;refine asd ?_;refine rn ?_
 generalize hds:Ak (val a)=ds at *
 have hok:Ok ds:=by rw [← hds];exact BC _
 have hv:val ds=val a:=by rw [← hds,Bi]
 refine .mid (fun e H'=>∃ qs r,e=[(4,.own 23 (L qs)),(6,.d (.i .u32 ((r:Nat):Int)))]∧H'=[]∧Ok qs∧qs.length=ds.length∧r<d∧val a=val qs * d+r) ?_ ?_
 ·refine .sr ?_
  refine mvo ?_
  refine lnr ?_ l32
  refine su ((ds.length:Int)-1) ?_ ?_
  ·simp [Ab];omega
  refine asd ?_;refine rn ?_;refine .block ?_
  refine .loop (.gh (Gh.keep [1,4,6,7] rfl) ?_)
  refine AL.cast (env':=[(1,.d (.i .u32 d)),(4,.own 23 (L (ds.take ds.length++[]))),(6,.d (.i .u32 ((0:Nat):Int))),(7,.d (.i .i64 ((ds.length:Int)-1)))]) (by simp [Jp,get,Dm]) ?_
  refine AL.ind (σ:=Nat×List Nat×Nat) (m:=fun s=>s.1) (e:=fun s=>[(1,.d (.i .u32 d)),(4,.own 23 (L (ds.take s.1++s.2.1))),(6,.d (.i .u32 (s.2.2:Int))),(7,.d (.i .i64 ((s.1:Int)-1)))]) (h:=fun _=>[])
   (I:=fun s=>s.1≤ds.length∧Ok s.2.1∧s.2.1.length+s.1=ds.length∧s.2.2<d∧val (ds.drop s.1)=val s.2.1 * d+s.2.2) ?_ (ds.length,[],0) ?_
  rotate_left
  ·exact ⟨Nat.le_refl _,.nil,by simp,hd0,by simp [val]⟩
  rintro ⟨k,qs,r⟩ ⟨h1,h2,h3,h4,h5⟩ ih
  dsimp only at h1 h2 h3 h4 h5 ih ⊢
  refine .seq ?_;refine .sr ?_;refine mvd ?_;refine bi ?_;refine rn ?_
  rcases Nat.eq_zero_or_pos k with rfl|hk
  ·rw [dF (show ¬(0:Int)≤((0:Nat):Int)-1 by omega)]
   refine Cd ?_;refine .gh (Gh.keep [4,6] rfl) ?_;refine .exit ?_
   refine ⟨qs,r,rfl,rfl,h2,by omega,h4,?_⟩
   rw [← hv,← h5,List.drop_zero]
  ·obtain ⟨k,rfl⟩:∃ j,k=j+1:=⟨k-1,by omega⟩
   have hx:ds[k]?=some ds[k]:=lG (by omega)
   generalize ds[k]=x at hx
   have hx':(ds.take (k+1)++qs)[k]?=some x:=by
    rw [List.getElem?_append_left (by simp;omega),List.getElem?_take_of_lt (by omega)];exact hx
   rw [dT (show (0:Int)≤((k+1:Nat):Int)-1 by omega)]
   refine Cm ?_;refine .skip ?_;refine aw ?_;refine .seq ?_;refine .block ?_;refine .region ?_;refine mvo ?_;refine mvd ?_;refine mvd ?_;refine mvo ?_;refine mvd ?_
   refine ixr k ?_ ?_ ?_ s32 (by decide)
   ·omega
   ·simp [Ab];omega
   refine lde (U x) ?_ ?_ a32
   ·rw [Nat.zero_add];exact Hb hx'
   refine mvd ?_
   refine cl (xs:=[.i .u32 r,.i .u32 x,.i .u32 d]) ?_ (TV h4 (hok.at hx) hd) Tryz.call270
   refine mvt ?_;refine ex ?_;refine ex ?_
   refine ixr k ?_ ?_ ?_ s32 (by decide)
   ·omega
   ·simp [Ab];omega
   refine ste ?_ ?_ z32
   ·rw [Nat.zero_add];exact Gu hx'
   refine asd ?_;refine .nil ?_;refine aw ?_;refine .region ?_;refine mvd ?_;refine su ((k:Int)-1) ?_ ?_
   ·omega
   refine asd ?_;refine .nil ?_
   have hq:(r * 4294967296+x) / d<4294967296:=by
    rw [Nat.div_lt_iff_lt_mul (by omega)]
    have:r * 4294967296+4294967296≤d * 4294967296:=by rw [← Nat.succ_mul];exact Nat.mul_le_mul_right _ h4
    have:=hok.at hx
    omega
   have e1:(L (ds.take (k+1)++qs)).set (0+k) (U ((r * 4294967296+x) / d))=L (ds.take k++((r * 4294967296+x) / d::qs)):=by
    rw [Mv,Nat.zero_add,List.take_add_one,hx]
    congr 1
    rw [List.append_assoc,List.set_append_right _ _ (by simp;omega)]
    simp [Nat.min_eq_left (show k≤ds.length by omega)]
   refine AL.gh (Gh.keep [1,4,6,7] rfl) ?_
   have:=ih (k,(r * 4294967296+x) / d::qs,(r * 4294967296+x) % d) ⟨by omega,.cons hq h2,by simp;omega,Nat.mod_lt _ hd0,P3 hx h5⟩ (by simp)
   dsimp only at this
   rw [← e1] at this
   exact this
 ·rintro _ _ ⟨qs,r,rfl,rfl,h1,h2,h3,h4⟩
  obtain ⟨e1,e2⟩:=Tb h4 h3
  rw [e1,e2]
  refine .sr ?_;refine fz (p:=.t 4) ?_;refine mvd ?_
  refine cl (xs:=[.sl (L qs)]) ?_ (Eb h1 (by omega)) Tryz.call152
  refine mvd ?_
  refine cve (r:Int) (BU (by omega)) ?_ u32 u64
  refine cl ?_ (Xd (n:=r) (by omega)) Tryz.call92
  refine asd ?_;refine asd ?_;refine rn ?_;refine .ret ?_
  exact ⟨by decide,rfl,rfl,rfl⟩
theorem s8 : CB Tryz.prog 22=some (5,1,1):=by kernel_rfl
theorem z8 : Ay Tryz.prog 5=1:=by kernel_rfl
def Dig (xs:List Nat) : Prop:=∀ x∈xs,48≤x∧x≤57
theorem Dig.snoc {xs:List Nat} {x:Nat} (h:Dig xs) (h1:48≤x) (h2:x≤57) : Dig (xs++[x]):=by
 intro y hy
 rcases List.mem_append.1 hy with hy|hy
 ·exact h y hy
 ·simp at hy;subst hy;exact ⟨h1,h2⟩
theorem SD {m:Nat} (h:0<m) : 0<(Ak m).length:=by rw [Ek (by omega)];simp
def Ns (m n:Nat) : Int:=if m<n then -1 else if m=n then 0 else 1
theorem OG {m n:Nat} (h:(Ak m).length<(Ak n).length) : m<n:=by
 rcases Nat.lt_or_ge m n with h1|h1
 ·exact h1
 ·have h2:=CR (BC m)
  rw [Bi] at h2
  have:=DI (n:=n) (k:=(Ak m).length) (by omega)
  omega
theorem Vf {xs ys:List Nat} (hx:Ok xs) (hy:Ok ys) {i:Nat} (h:xs.drop (i+1)=ys.drop (i+1)) {x y:Nat} (h1:xs[i]?=some x) (h2:ys[i]?=some y) (hxy:x<y) : val xs<val ys:=by
 have hxl:i<xs.length:=(lS.1 h1).1
 have hyl:i<ys.length:=(lS.1 h2).1
 have ex:xs=xs.take i++x::xs.drop (i+1):=by
  have:=lS.1 h1
  rw [← this.2,← lC hxl,List.take_append_drop]
 have ey:ys=ys.take i++y::ys.drop (i+1):=by
  have:=lS.1 h2
  rw [← this.2,← lC hyl,List.take_append_drop]
 have lx:(xs.take i).length=i:=by rw [List.length_take];omega
 have ly:(ys.take i).length=i:=by rw [List.length_take];omega
 have vx:=CR (hx.take i)
 rw [ex,ey,Fr,Fr,lx,ly,h]
 rw [lx] at vx
 simp only [val]
 have h3:4294967296 ^ i * (x+4294967296 * val (ys.drop (i+1)))+4294967296 ^ i≤4294967296 ^ i * (y+4294967296 * val (ys.drop (i+1))):=by
  rw [← Nat.mul_succ]
  exact Nat.mul_le_mul_left _ (by omega)
 omega
theorem Mx {a b:List Nat} (ha:Ok a) (hb:Ok b) (hla:a.length≤35184372087808) (hlb:b.length≤35184372087808) : Fn Tryz.prog 191 [.sl (L a),.sl (L b)] (.d (.i .i64 (Ns (val a) (val b)))):=by
 have dla:=nT (CG ha) hla
 have dlb:=nT (CG hb) hlb
 have va:=Bi (val a)
 have vb:=Bi (val b)
 have oa:=BC (val a)
 have ob:=BC (val b)
 have lt1:=@OG (val a) (val b)
 have lt2:=@OG (val b) (val a)
 refine Fn.o1 4 47 Tryz.func191 ?_;refine .sr ?_;refine asd ?_;refine rn ?_;refine .sr ?_;refine mvd ?_
 refine cl (xs:=[.sl (L a)]) ?_ (Rg a (by omega)) Tryz.call152
 refine mvd ?_
 refine cl (xs:=[.sl (L b)]) ?_ (Rg b (by omega)) Tryz.call152
 refine asd ?_;refine asd ?_;refine rn ?_
 rw [Kc ha,Kc hb]
 generalize Ak (val a)=xs at *
 generalize Ak (val b)=ys at *
 refine .seq ?_;refine .sr ?_;refine mvd ?_
 refine ln ?_ (BZ _) l32
 refine mvd ?_
 refine ln ?_ (BZ _) l32
 refine bi ?_;refine rn ?_
 by_cases hlen:xs.length=ys.length
 ·have e1:(!decide (((L xs).length:Int)=((L ys).length:Int)))=false:=by simp [Ab];omega
  rw [e1]
  refine Cd ?_;refine .skip ?_;refine aw ?_;refine .seq ?_;refine .sr ?_;refine mvd ?_
  refine ln ?_ (BZ _) l32
  refine su ((xs.length:Int)-1) ?_ ?_
  ·rw [Ab];omega
  refine asd ?_;refine rn ?_;refine .block ?_
  refine .loop (.gh (Gh.keep [0,1,5] rfl) ?_)
  refine AL.ind (σ:=Nat) (m:=fun i=>i) (e:=fun i=>[(0,.d (.sl (L xs))),(1,.d (.sl (L ys))),(5,.d (.i .i64 ((i:Int)-1)))]) (h:=fun _=>[])
   (I:=fun i=>i≤xs.length∧xs.drop i=ys.drop i) ?_ xs.length ⟨Nat.le_refl _,by rw [List.drop_of_length_le (Nat.le_refl _),List.drop_of_length_le (by omega)]⟩
  rintro i ⟨h1,h2⟩ ih
  refine .seq ?_;refine .sr ?_;refine mvd ?_;refine bi ?_;refine rn ?_
  cases i with
  | zero =>
   rw [dF (show ¬(0:Int)≤((0:Nat):Int)-1 by omega)]
   refine Cd ?_;refine .exit ?_;refine aw ?_;refine .sr ?_;refine asd ?_;refine rn ?_;refine .ret ?_
   simp only [List.drop_zero] at h2
   subst h2
   exact ⟨by rw [← va,← vb];unfold Ns;rw [if_neg (by omega),if_pos rfl];rfl,rfl⟩
  | succ i =>
   have hx:xs[i]?=some xs[i]:=lG (by omega)
   have hy:ys[i]?=some ys[i]:=lG (by omega)
   have hdx:xs.drop i=xs[i]::xs.drop (i+1):=lC (by omega)
   have hdy:ys.drop i=ys[i]::ys.drop (i+1):=lC (by omega)
   generalize xs[i]=x at hx hdx
   generalize ys[i]=y at hy hdy
   rw [dT (show (0:Int)≤((i+1:Nat):Int)-1 by omega)]
   refine Cm ?_;refine .skip ?_;refine aw ?_;refine .gh (Gh.keep [0,1,5] rfl) ?_;refine .seq ?_;refine .block ?_;refine .seq ?_;refine .drawn 9 A3 (by kernel_rfl) ?_;refine dv Ac ?_;refine dv Ac ?_;refine dv (vix (z:=((i+1:Nat):Int)-1) i (by omega) (F6 hx) rfl s32) ?_;refine dv (Aj a32) ?_;refine dv Ac ?_;refine dv Ac ?_;refine dv (vix (z:=((i+1:Nat):Int)-1) i (by omega) (F6 hy) rfl s32) ?_;refine dv (Aj a32) ?_;refine dv vbi ?_;refine dz ?_;refine rn ?_
   by_cases hxy:x=y
   ·subst hxy
    have e1:(!decide ((x:Int)=(x:Int)))=false:=by simp
    rw [e1]
    refine Cd ?_;refine .skip ?_;refine aw ?_;refine .gh (Gh.keep [0,1,5] rfl) ?_;refine .region ?_;refine mvd ?_;refine su ((i:Int)-1) ?_ ?_
    ·omega
    refine asd ?_;refine rn ?_;refine .gh (Gh.keep [0,1,5] rfl) ?_
    exact ih i ⟨by omega,by rw [hdx,hdy,h2]⟩ (by omega)
   ·have e1:(!decide ((x:Int)=(y:Int)))=true:=by simp;omega
    rw [e1]
    refine Cm ?_;refine .seq ?_;refine .seq ?_;refine .gh (Gh.keep [0,1,5] rfl) ?_;refine .drawn 9 A3 (by kernel_rfl) ?_;refine dv Ac ?_;refine dv Ac ?_;refine dv (vix (z:=((i+1:Nat):Int)-1) i (by omega) (F6 hx) rfl s32) ?_;refine dv (Aj a32) ?_;refine dv Ac ?_;refine dv Ac ?_;refine dv (vix (z:=((i+1:Nat):Int)-1) i (by omega) (F6 hy) rfl s32) ?_;refine dv (Aj a32) ?_;refine dv vbi ?_;refine dz ?_;refine rn ?_
    by_cases hlt:x<y
    ·rw [dT (show (x:Int)<(y:Int) by omega)]
     refine Cm ?_;refine .sr ?_;refine asd ?_;refine rn ?_;refine .ret ?_
     have:=Vf oa ob h2 hx hy hlt
     exact ⟨by unfold Ns;rw [if_pos (by omega)];rfl,rfl⟩
    ·rw [dF (show ¬(x:Int)<(y:Int) by omega)]
     refine Cd ?_;refine .skip ?_;refine aw ?_;refine .sr ?_;refine asd ?_;refine rn ?_;refine .ret ?_
     have:=Vf ob oa h2.symm hy hx (by omega)
     exact ⟨by unfold Ns;rw [if_neg (by omega),if_neg (by omega)];rfl,rfl⟩
 ·have e1:(!decide (((L xs).length:Int)=((L ys).length:Int)))=true:=by simp [Ab];omega
  rw [e1]
  refine Cm ?_;refine .sr ?_;refine mvd ?_
  refine ln ?_ (BZ _) l32
  refine mvd ?_
  refine ln ?_ (BZ _) l32
  refine su ((xs.length:Int)-ys.length) ?_ ?_
  ·rw [Ab,Ab];omega
  refine mx ?_;refine mn ?_;refine asd ?_;refine rn ?_;refine .ret ?_
  refine ⟨?_,rfl⟩
  show AV.d (.i .i64 _)=_
  congr 2
  unfold Ns
  by_cases hl:xs.length<ys.length
  ·have h1:=lt1 hl
   rw [if_pos h1]
   have hd:(xs.length:Int)-ys.length≤-1:=by omega
   generalize (xs.length:Int)-ys.length=d at hd
   have e2:(if d < -1 then (-1:Int) else d)=-1:=by split<;>omega
   rw [e2];rfl
  ·have h1:=lt2 (by omega)
   rw [if_neg (show ¬val a<val b by omega),if_neg (show ¬val a=val b by omega)]
   have hd:1≤(xs.length:Int)-ys.length:=by omega
   generalize (xs.length:Int)-ys.length=d at hd
   have e2:(if d < -1 then (-1:Int) else d)=d:=if_neg (by omega)
   rw [e2]
   split<;>omega
theorem Kp {n:Nat} (h0:0<n) (h:n<4294967296) : Ak n=[n]:=by
 rw [Ek (by omega),Nat.mod_eq_of_lt h,Nat.div_eq_of_lt h,Bg]
def DQ (xs:List Nat) (at_:Nat) : List Nat:=xs++List.replicate (at_+1-xs.length) 0
theorem I4 (xs:List Nat) (at_:Nat) : at_<(DQ xs at_).length∧(at_<xs.length→DQ xs at_=xs):=by
 constructor
 ·simp [DQ];omega
 ·intro h;simp [DQ,show at_+1-xs.length=0 by omega]
theorem KV {xs:List Nat} {at_:Nat} (h:¬at_<xs.length) : (DQ xs at_).getD at_ 0=0:=by
 simp only [DQ,List.getD_eq_getElem?_getD]
 rw [List.getElem?_append_right (by omega)]
 simp only [List.getElem?_replicate]
 split<;>rfl
theorem EN (xs:List Nat) (at_:Nat) : (DQ xs at_).length=max xs.length (at_+1):=by simp [DQ];omega
def DY (xs:List Nat) (n at_:Nat) : List Nat :=
 if h:n=0 then xs
 else DY ((DQ xs at_).set at_ ((n+(DQ xs at_).getD at_ 0) % 4294967296)) ((n+(DQ xs at_).getD at_ 0) / 4294967296) (at_+1)
termination_by (xs.length-at_,n)
decreasing_by
 by_cases hl:at_<xs.length
 ·apply Prod.Lex.left
  rw [List.length_set,(I4 xs at_).2 hl];omega
 ·rw [KV hl,Nat.add_zero,List.length_set,EN]
  rw [show max xs.length (at_+1)-(at_+1)=xs.length-at_ by omega]
  apply Prod.Lex.right
  exact Nat.div_lt_self (by omega) (by decide)
theorem Gp (xs:List Nat) (at_:Nat) : DY xs 0 at_=xs:=by unfold DY;simp
theorem IR {xs:List Nat} {n at_:Nat} (h:n≠0) : DY xs n at_=DY ((DQ xs at_).set at_ ((n+(DQ xs at_).getD at_ 0) % 4294967296)) ((n+(DQ xs at_).getD at_ 0) / 4294967296) (at_+1):=by
 conv=>lhs;unfold DY
 simp [h]
theorem NE (k:Nat) : val (List.replicate k 0)=0:=by
 induction k with
 | zero=>rfl
 | succ k ih=>simp [List.replicate_succ,val,ih]
theorem UJ (xs:List Nat) (at_:Nat) : val (DQ xs at_)=val xs:=by simp [DQ,Fr,NE]
theorem Mb {xs:List Nat} (h:Ok xs) (at_:Nat) : Ok (DQ xs at_):=h.append fun x hx=>by
 rw [List.eq_of_mem_replicate hx];decide
theorem R7 : ∀ {xs:List Nat} {i x y:Nat},xs[i]?=some x→val (xs.set i y)+x * 4294967296 ^ i=val xs+y * 4294967296 ^ i:=by
 intro xs
 induction xs with
 | nil=>intro i x y h;simp at h
 | cons z zs ih =>
  intro i x y h
  cases i with
  | zero=>simp at h;subst h;simp only [List.set_cons_zero,val,Nat.pow_zero,Nat.mul_one];omega
  | succ i =>
   have:=ih (y:=y) (by simpa using h)
   simp only [List.set_cons_succ,val,Nat.pow_succ]
   have e1:x * (4294967296 ^ i * 4294967296)=4294967296 * (x * 4294967296 ^ i):=by rw [← Nat.mul_assoc,Nat.mul_comm]
   have e2:y * (4294967296 ^ i * 4294967296)=4294967296 * (y * 4294967296 ^ i):=by rw [← Nat.mul_assoc,Nat.mul_comm]
   rw [e1,e2];omega
theorem FR (xs:List Nat) (n at_:Nat) (h:Ok xs) : val (DY xs n at_)=val xs+n * 4294967296 ^ at_∧Ok (DY xs n at_):=by
 induction xs,n,at_ using DY.induct with
 | case1 xs at_=>rw [Gp];exact ⟨by simp,h⟩
 | case2 xs n at_ hn ih =>
  rw [IR hn]
  have hlt:=(I4 xs at_).1
  have hx:(DQ xs at_)[at_]?=some ((DQ xs at_).getD at_ 0):=by rw [lD,lG hlt];rfl
  generalize (DQ xs at_).getD at_ 0=x at *
  have hp:=Mb h at_
  obtain ⟨i1,i2⟩:=ih (hp.set _ (Nat.mod_lt _ (by decide)))
  refine ⟨?_,i2⟩
  rw [i1]
  have hs:=R7 (y:=(n+x) % 4294967296) hx
  rw [UJ] at hs
  have e1:(n+x) / 4294967296 * 4294967296 ^ (at_+1)=(n+x) / 4294967296 * 4294967296 * 4294967296 ^ at_:=by rw [Nat.pow_succ,Nat.mul_comm (4294967296 ^ at_),Nat.mul_assoc]
  have e2:(n+x) % 4294967296 * 4294967296 ^ at_+(n+x) / 4294967296 * 4294967296 * 4294967296 ^ at_=(n+x) * 4294967296 ^ at_:=by
   rw [← Nat.add_mul];congr 1;omega
  have e3:(n+x) * 4294967296 ^ at_=n * 4294967296 ^ at_+x * 4294967296 ^ at_:=Nat.add_mul _ _ _
  omega
theorem T7 (xs:List Nat) (n at_:Nat) (h:Ok xs) : ∀ j,n≤4294967296 ^ j→(DY xs n at_).length≤max xs.length (at_+j)+1:=by
 induction xs,n,at_ using DY.induct with
 | case1 xs at_=>intro j _;rw [Gp];omega
 | case2 xs n at_ hn0 ih =>
  intro j hj
  rw [IR hn0]
  have hlt:=(I4 xs at_).1
  have hx:(DQ xs at_)[at_]?=some ((DQ xs at_).getD at_ 0):=by rw [lD,lG hlt];rfl
  have hp:=Mb h at_
  have hxl:=hp.at hx
  have ih:=ih (hp.set _ (Nat.mod_lt _ (by decide)))
  rw [List.length_set,EN] at ih
  by_cases hl:at_<xs.length
  ·cases j with
   | zero =>
    have:=ih 0 (by rw [Nat.pow_zero] at hj ⊢;omega)
    omega
   | succ j =>
    have:=ih j (by
     rw [Nat.pow_succ] at hj
     have:(n+(DQ xs at_).getD at_ 0) / 4294967296<4294967296 ^ j+1:=by
      rw [Nat.div_lt_iff_lt_mul (by decide),Nat.add_mul];omega
     omega)
    omega
  ·have h0:=KV hl
   rw [h0] at ih ⊢
   cases j with
   | zero =>
    simp at hj
    have e:(n+0) / 4294967296=0:=by omega
    rw [e,Gp,List.length_set,EN];omega
   | succ j =>
    have:=ih j (by
     rw [Nat.pow_succ] at hj
     rw [Nat.add_zero]
     exact (Nat.div_le_iff_le_mul_add_pred (by decide)).2 (by omega))
    omega
theorem KB (xs:List Nat) (n at_:Nat) : xs.length≤(DY xs n at_).length∧(n≠0→at_<(DY xs n at_).length):=by
 induction xs,n,at_ using DY.induct with
 | case1 xs at_=>rw [Gp];exact ⟨Nat.le_refl _,fun h=>absurd rfl h⟩
 | case2 xs n at_ hn0 ih =>
  rw [IR hn0]
  have h1:=ih.1
  rw [List.length_set,EN] at h1
  exact ⟨by omega,fun _=>by omega⟩
abbrev hb (H:Ad) (id off:Nat) (cs:List AV) (xs:List Nat) : Ad:=H.set id (.box (cs.set off (.own 23 (L xs))))
theorem KP {H:Ad} {id off:Nat} {cs:List AV} {xs:List Nat} (h:id<H.length) : (hb H id off cs xs)[id]?=some (.box (cs.set off (.own 23 (L xs)))):=by simp [hb,h]
theorem Jc {off:Nat} {cs:List AV} {v:AV} (h:off<cs.length) : (cs.set off v)[off]?=some v:=by simp [h]
theorem Md (H:Ad) {id off:Nat} {cs:List AV} {xs:List Nat} (env:Env) (h:id<H.length) (ho:off<cs.length) : AH env (hb H id off cs xs) (.c id off)=.own 23 (L xs):=by
 simp [AH,hb,h,List.getD_eq_getElem?_getD,ho]
theorem WV (H:Ad) {id off:Nat} {cs:List AV} {xs ys:List Nat} (h:id<H.length) : Hm (.c id off) (.own 23 (L ys)) (hb H id off cs xs)=hb H id off cs ys:=by
 simp [Hm,Ei,hb,h]
theorem Vj {H:Ad} {id off:Nat} {cs:List AV} {xs0:List Nat} (hH:H[id]?=some (.box cs)) (hc:cs[off]?=some (.own 23 (L xs0))) (hx0:Ok xs0) (hl0:xs0.length≤1048576) {n0 at0:Nat} (hn0:n0<18446744069414584320) (hat0:at0≤1048576) :
  FnG Tryz.prog 269 [.bp id off,.d (.i .u64 n0),.d (.i .i64 at0)] H (.tup []) [] (hb H id off cs (DY xs0 n0 at0)):=by
 have hid:id<H.length:=(lS.1 hH).1
 have hoff:off<cs.length:=(lS.1 hc).1
 have hHe:H=hb H id off cs xs0:=by
  unfold hb
  rw [List.set_same _ _ hc,List.set_same _ _ hH]
 have hlen:(DY xs0 n0 at0).length≤1048580:=by
  have:=T7 xs0 n0 at0 hx0 2 (by simp;omega);omega
 refine FnG.of (rs:=[]) 0 41 Tryz.func269 rfl rfl rfl (by simp) (by simp) (by simp) ?_;refine .block ?_
 refine .loop (.gh (Gh.keep [0,1,2] rfl) ?_)
 refine AL.castH hHe ?_
 refine AL.ind (σ:=List Nat×Nat×Nat) (m:=fun s=>(s.1.length-s.2.2) * 36893488147419103232+s.2.1) (e:=fun s=>[(0,.bp id off),(1,.d (.i .u64 (s.2.1:Int))),(2,.d (.i .i64 (s.2.2:Int)))]) (h:=fun s=>hb H id off cs s.1)
  (I:=fun s=>DY s.1 s.2.1 s.2.2=DY xs0 n0 at0∧Ok s.1∧s.2.1<18446744069414584320) ?_ (xs0,n0,at0) ⟨rfl,hx0,hn0⟩
 rintro ⟨xs,n,at_⟩ ⟨h1,h2,h3⟩ ih
 dsimp only at h1 h2 h3 ih ⊢
 have hge:=KB xs n at_
 rw [h1] at hge
 refine .seq ?_;refine .sr ?_;refine mvd ?_;refine bi ?_;refine rn ?_
 by_cases hn:n=0
 ·subst hn
  refine Cd ?_;refine .exit ?_
  rw [Gp] at h1
  subst h1
  exact ⟨⟨[],by simp⟩,rfl,by simp⟩
 ·rw [dT (show (0:Int)<(n:Int) by omega)]
  have hat:=hge.2 hn
  refine Cm ?_;refine .skip ?_;refine aw ?_;refine .seq ?_;refine .block ?_;refine .mid (fun e H'=>e=[(0,.bp id off),(1,.d (.i .u64 (n:Int))),(2,.d (.i .i64 (at_:Int)))]∧H'=hb H id off cs (DQ xs at_)) ?_ ?_
  ·refine .block ?_
   refine .loop (.gh (Gh.keep [0,1,2] rfl) ?_)
   refine AL.ind (σ:=List Nat) (m:=fun ys=>at_+1-ys.length) (e:=fun _=>[(0,.bp id off),(1,.d (.i .u64 (n:Int))),(2,.d (.i .i64 (at_:Int)))]) (h:=fun ys=>hb H id off cs ys)
    (I:=fun ys=>DQ ys at_=DQ xs at_∧ys.length≤1048580) ?_ xs ⟨rfl,by omega⟩
   rintro ys ⟨g1,g2⟩ ih2
   refine .seq ?_;refine .sr ?_;refine mvd ?_;refine mvb ?_;refine ncb ?_
   refine L2 (KP hid) (Jc hoff) ?_ alm
   refine lnr ?_ llm
   refine bi ?_;refine rn ?_
   by_cases hl:at_<ys.length
   ·rw [dF (show ¬(((L ys).length:Nat):Int)≤(at_:Int) by rw [Ab];omega)]
    refine Cd ?_;refine .gh (Gh.keep [0,1,2] rfl) ?_;refine .exit ?_
    refine ⟨rfl,?_⟩
    rw [← g1,(I4 ys at_).2 hl]
   ·rw [dT (show (((L ys).length:Nat):Int)≤(at_:Int) by rw [Ab];omega)]
    refine Cm ?_;refine .skip ?_;refine aw ?_;refine .gh (Gh.keep [0,1,2] rfl) ?_;refine .block ?_;refine .region ?_;refine mvb ?_;refine mvb ?_;refine ncb ?_
    refine L2 (KP hid) (Jc hoff) ?_ alm
    refine bsl ?_ ?_ elm
    ·simp [DV.flat,DV.cells,DV.leaf]
    refine apc (ys:=[.i .u32 0]) (KP hid) (Jc hoff) ?_ ?_ (by simp [DV.cells]) elm
    ·simp [Ab];omega
    refine ncb ?_;refine RL.gh (Gh.keep [0,1,2,21,22] rfl) ?_
    refine Ny (id:=id) (off:=off) (cs:=(cs.set off (.own 23 (L ys))).set off .un) (c:=.un) ?_ ?_ ?_ zlm
    ·simp [hb,hid]
    ·simp [hoff]
    refine .nil ?_;refine AL.gh (Gh.keep [0,1,2] rfl) ?_
    have e1:DQ (ys++[0]) at_=DQ xs at_:=by
     rw [← g1]
     simp only [DQ,List.length_append,List.length_singleton,List.append_assoc]
     rw [show at_+1-ys.length=(at_+1-(ys.length+1))+1 by omega,List.replicate_succ];rfl
    have:=ih2 (ys++[0]) ⟨e1,by simp;omega⟩ (by simp;omega)
    have e2:(L ys).take (L ys).length++[DV.i .u32 0]=L (ys++[0]):=by rw [List.take_length];simp [L,U]
    refine AL.castH ?_ this
    rw [e2]
    simp [hb]
  ·rintro _ _ ⟨rfl,rfl⟩
   have hpl:=I4 xs at_
   have hx:(DQ xs at_)[at_]?=some ((DQ xs at_).getD at_ 0):=by rw [lD,lG hpl.1];rfl
   have hpo:=Mb h2 at_
   have hstep:=IR (xs:=xs) (at_:=at_) hn
   rw [h1] at hstep
   have hxb:=hpo.at hx
   have hm1:¬at_<xs.length→(DQ xs at_).getD at_ 0=0:=fun h=>KV h
   have hpll:=EN xs at_
   generalize (DQ xs at_).getD at_ 0=x at hx hstep hxb hm1
   generalize DQ xs at_=ys at hx hstep hpo hpl hpll
   have hylen:ys.length≤1048580:=by omega
   refine .sr ?_;refine mvd ?_;refine mvb ?_;refine ncb ?_
   refine L2 (KP hid) (Jc hoff) ?_ alm
   refine mvd ?_
   refine ixr (p:=.c id off) (xs:=L ys) at_ rfl ?_ ?_ slm (by decide) (hp:=Md H _ hid hoff)
   ·rw [Ab];exact hpl.1
   refine lde (p:=.c id off) (xs:=L ys) (U x) ?_ ?_ a32 (hp:=Md H _ hid hoff)
   ·rw [Nat.zero_add];exact Hb hx
   refine cve (x:Int) (BU (by omega)) ?_ u32 u64
   refine bie (.i .u64 ((n+x:Nat):Int)) ?_ ?_
   ·exact ⟨trivial,by rw [← Int.natCast_add,BU (by omega)]⟩
   refine asd ?_;refine rn ?_;refine .sr ?_;refine mvb ?_;refine ncb ?_
   refine L2 (KP hid) (Jc hoff) ?_ alm
   refine mvd ?_;refine mvd ?_
   refine cve (((n+x) % 4294967296:Nat):Int) (Gc _) ?_ u64 u32
   refine ixr (p:=.c id off) (xs:=L ys) at_ rfl ?_ ?_ slm (by decide) (hp:=Md H _ hid hoff)
   ·rw [Ab];exact hpl.1
   refine ste (p:=.c id off) (xs:=L ys) ?_ ?_ z32 (hp:=Md H _ hid hoff) (hn:=fun _ _ _=>Nat.zero_le _)
   ·rw [Nat.zero_add];exact Gu hx
   rw [show 0+at_=at_ from Nat.zero_add _,show DV.i .u32 (((n+x) % 4294967296:Nat):Int)=U ((n+x) % 4294967296) from rfl,Mv,WV H hid]
   refine rn ?_;refine .region ?_;refine mvd ?_;refine bie (.i .u64 (((n+x) / 4294967296:Nat):Int)) ?_ ?_
   ·simp [IntKind.bits]
   refine asd ?_;refine .nil ?_;refine aw ?_;refine .region ?_;refine mvd ?_;refine ad ((at_+1:Nat):Int) ?_ ?_
   ·omega
   refine asd ?_;refine .nil ?_;refine AL.gh (Gh.keep [0,1,2] rfl) ?_;refine AL.cast (env':=[(0,.bp id off),(1,.d (.i .u64 (((n+x) / 4294967296:Nat):Int))),(2,.d (.i .i64 ((at_+1:Nat):Int)))]) ?_ ?_
   ·rfl
   refine (ih (ys.set at_ ((n+x) % 4294967296),(n+x) / 4294967296,at_+1) ⟨hstep.symm,hpo.set _ (Nat.mod_lt _ (by decide)),by show (n+x) / 4294967296<18446744069414584320;omega⟩ ?_)
   simp only [List.length_set]
   by_cases hl:at_<xs.length
   ·have:ys.length=xs.length:=by omega
    rw [this]
    have e:xs.length-at_=(xs.length-(at_+1))+1:=by omega
    rw [e,Nat.add_mul];omega
   ·have:=hm1 hl
    subst this
    have e1:ys.length-(at_+1)=0:=by omega
    have e2:xs.length-at_=0:=by omega
    rw [e1,e2];omega
theorem fad : Bs Tryz.prog 237 0=some (0,1):=by kernel_rfl
def C3 : List Nat→List Nat→Nat→List Nat
 | xs,[],_=>xs
 | xs,y::ys,i=>C3 (DY xs y i) ys (i+1)
theorem Fc : ∀ (ys xs:List Nat) (i:Nat),Ok xs→val (C3 xs ys i)=val xs+val ys * 4294967296 ^ i∧Ok (C3 xs ys i)
 | [],xs,i,h=>⟨by simp [C3,val],h⟩
 | y::ys,xs,i,h=>by
  obtain ⟨a1,a2⟩:=FR xs y i h
  obtain ⟨b1,b2⟩:=Fc ys (DY xs y i) (i+1) a2
  refine ⟨?_,b2⟩
  show val (C3 (DY xs y i) ys (i+1))=_
  rw [b1,a1,val,Nat.add_mul,Nat.pow_succ,Nat.add_assoc]
  congr 2
  rw [← Nat.mul_assoc,Nat.mul_comm (val ys * _),← Nat.mul_assoc]
theorem KY : ∀ (ys xs:List Nat) (i:Nat),xs.length≤(C3 xs ys i).length
 | [],xs,i=>Nat.le_refl _
 | y::ys,xs,i=>nT (KB xs y i).1 (KY ys (DY xs y i) (i+1))
theorem Xx {H G:Ad} {id off:Nat} {cs:List AV} {xs ys:List Nat} (h:id<H.length) : hb (hb H id off cs xs++G) id off (cs.set off (.own 23 (L xs))) ys=hb H id off cs ys++G:=by
 simp [hb,h]
theorem Wd {H G:Ad} {id off:Nat} {cs:List AV} {xs:List Nat} (h:id<H.length) : (hb H id off cs xs++G)[id]?=some (.box (cs.set off (.own 23 (L xs)))):=by
 rw [List.getElem?_append_left (by simpa using h)];exact KP h
theorem Ti {H:Ad} {id off:Nat} {cs:List AV} {xs0 b:List Nat} (hH:H[id]?=some (.box cs)) (hc:cs[off]?=some (.own 23 (L xs0))) (hx0:Ok xs0) (hb0:Ok b) (hl:b.length≤1048576) (hl0:(C3 xs0 b 0).length≤1048576) :
  FnG Tryz.prog 244 [.bp id off,.d (.sl (L b))] H (.tup []) [] (hb H id off cs (C3 xs0 b 0)):=by
 have hid:id<H.length:=(lS.1 hH).1
 have hoff:off<cs.length:=(lS.1 hc).1
 have hHe:H=hb H id off cs xs0++[]:=by
  unfold hb
  rw [List.set_same _ _ hc,List.set_same _ _ hH,List.append_nil]
 refine FnG.of (rs:=[]) 0 21 Tryz.func244 rfl rfl rfl (by simp) (by simp) (by simp) ?_;refine .sr ?_;refine mvd ?_
 refine ln ?_ (BZ _) l32
 refine mvd ?_;refine rn ?_;refine .block ?_
 refine .loop (.gh (Gh.keep [0,6,7,8] rfl) ?_)
 refine AL.castH hHe ?_
 refine AL.ind (σ:=List Nat×Nat×Ad) (m:=fun s=>b.length-s.2.1) (e:=fun s=>[(0,.bp id off),(6,.d (.sl (L b))),(7,.d (.i .i64 ((L b).length:Nat))),(8,.d (.i .i64 (s.2.1:Int)))]) (h:=fun s=>hb H id off cs s.1++s.2.2)
  (I:=fun s=>s.2.1≤b.length∧Ok s.1∧C3 s.1 (b.drop s.2.1) s.2.1=C3 xs0 b 0) ?_ (xs0,0,[]) ⟨by simp,hx0,rfl⟩
 rintro ⟨xs,i,G⟩ ⟨h1,h2,h3⟩ ih
 dsimp only at h1 h2 h3 ih ⊢
 refine .sr ?_;refine bi ?_;refine rn ?_;refine .seq ?_
 by_cases hi:i<b.length
 ·rw [dT (show (i:Int)<((L b).length:Nat) by rw [Ab];omega)]
  have hy:b[i]?=some b[i]:=lG hi
  have hdr:b.drop i=b[i]::b.drop (i+1):=lC hi
  generalize b[i]=y at hy hdr
  have hyl:=hb0.at hy
  rw [hdr] at h3
  have hge:=KY (b.drop (i+1)) (DY xs y i) (i+1)
  replace h3:C3 (DY xs y i) (b.drop (i+1)) (i+1)=C3 xs0 b 0:=h3
  rw [h3] at hge
  have hge2:=(KB xs y i).1
  refine Cm ?_;refine .skip ?_;refine aw ?_;refine .seq ?_;refine .block ?_;refine .sr ?_;refine mvd ?_
  refine ix i ?_ rfl (F6 hy) rfl s32
  refine ldp ?_ a32
  refine asd ?_;refine asd ?_;refine rn ?_;refine .region ?_;refine mvb ?_;refine ncb ?_
  refine fab ?_ fad (by decide)
  refine mvd ?_
  refine cve (y:Int) (BU (by omega)) ?_ u32 u64
  refine mvd ?_
  refine clg (fun G2=>?_) (Vj (n0:=y) (at0:=i) (Wd hid) (Jc hoff) h2 (by omega) (by omega) (by omega)) Tryz.call269
  refine .nil ?_;refine aw ?_;refine .region ?_;refine ad ((i+1:Nat):Int) ?_ ?_
  ·omega
  refine mvd ?_;refine .nil ?_;refine AL.gh (Gh.keep [0,6,7,8] rfl) ?_;refine AL.castH (H':=hb H id off cs (DY xs y i)++(G++G2)) (by rw [Xx hid,List.append_assoc]) ?_
  exact ih (DY xs y i,i+1,G++G2) ⟨by show i+1≤b.length;omega,(FR xs y i h2).2,h3⟩ (by show b.length-(i+1)<b.length-i;omega)
 ·rw [dF (show ¬(i:Int)<((L b).length:Nat) by rw [Ab];omega)]
  have:b.drop i=[]:=List.drop_eq_nil_of_le (by omega)
  rw [this] at h3
  replace h3:xs=C3 xs0 b 0:=h3
  refine Cd ?_;refine .exit ?_
  rw [h3]
  exact ⟨⟨G,rfl⟩,rfl,by simp⟩
theorem s2 : CB Tryz.prog 230=some (32,1,24):=by kernel_rfl
theorem l2 : Tryz.prog.underlying 230=some (.slice (Tryz.prog.elem 230)):=by kernel_rfl
theorem a2 : B1 Tryz.prog 32=some false:=by kernel_rfl
def LL (ls:List (List Nat)) : List DV:=ls.map fun a=>.sl (L a)
theorem Gm (ls:List (List Nat)) : (LL ls).length=ls.length:=by simp [LL]
theorem U1 (ls:List (List Nat)) : ∃ sz,∀ x∈LL ls,x.cells.length=sz:=⟨1,fun x hx=>by
 simp only [LL,List.mem_map] at hx
 obtain ⟨n,_,rfl⟩:=hx;rfl⟩
theorem UF {ls:List (List Nat)} {i:Nat} {a:List Nat} (h:ls[i]?=some a) : (LL ls)[i]?=some (.sl (L a)):=by simp [LL,h]
def DZ : List (List Nat)→List Nat→List Nat
 | [],xs=>xs
 | a::r,xs=>DZ r (C3 xs a 0)
theorem ME : ∀ (ls:List (List Nat)) (xs:List Nat),Ok xs→val (DZ ls xs)=val xs+(ls.map val).sum∧Ok (DZ ls xs)
 | [],xs,h=>⟨by simp [DZ],h⟩
 | a::r,xs,h=>by
  obtain ⟨a1,a2⟩:=Fc a xs 0 h
  obtain ⟨b1,b2⟩:=ME r _ a2
  refine ⟨?_,b2⟩
  show val (DZ r (C3 xs a 0))=_
  rw [b1,a1];simp;omega
theorem NS : ∀ (ls:List (List Nat)) (xs:List Nat),xs.length≤(DZ ls xs).length
 | [],xs=>Nat.le_refl _
 | a::r,xs=>nT (KY a xs 0) (NS r _)
theorem T6 (w:World) : (zeroValue 237).run Tryz.prog w=.ok (.agg #[.slice none 0 0]) w:=by simp
theorem Lt (w:World) (I:Nat→Prop) (μ:List Nat) : ARepAll Tryz.prog w I μ [.own 23 (L [])] (Value.agg #[.slice none 0 0]).cells.toList []:=by
 have:=ARepAll.cons (ARep.own (P:=Tryz.prog) (w:=w) (I:=I) (μ:=μ) 23 [] (.slice none 0 0) [] YT (.inl ⟨none,rfl,rfl,rfl⟩) (.nil _)) .nil
 exact this
theorem XD {ls:List (List Nat)} (h:∀ a∈ls,Ok a) (hl:ls.length≤1048576) (hla:∀ a∈ls,a.length≤1048576) (hs:(DZ ls []).length≤1048576) : Fn Tryz.prog 211 [.sl (LL ls)] (.d (.sl (L (Ak (ls.map val).sum)))):=by
 have hv:=ME ls [] .nil
 refine Fn.o1 2 18 Tryz.func211 ?_;refine .sr ?_;refine asn ?_;refine rn ?_;refine .sr ?_
 refine al ?_ T6 Lt
 refine rn ?_;refine .mid (fun e H'=>∃ G,e=[(3,.bp 0 0)]∧H'=[.box [.own 23 (L (DZ ls []))]]++G) ?_ ?_
 ·refine .sr ?_
  refine mvd ?_
  refine ln ?_ (U1 _) l2
  refine mvd ?_;refine rn ?_;refine .block ?_
  refine .loop (.gh (Gh.keep [3,6,7,8] rfl) ?_)
  refine AL.ind (σ:=List Nat×Nat×Ad) (m:=fun s=>ls.length-s.2.1) (e:=fun s=>[(3,.bp 0 0),(6,.d (.sl (LL ls))),(7,.d (.i .i64 ((LL ls).length:Nat))),(8,.d (.i .i64 (s.2.1:Int)))]) (h:=fun s=>[.box [.own 23 (L s.1)]]++s.2.2)
   (I:=fun s=>s.2.1≤ls.length∧Ok s.1∧DZ (ls.drop s.2.1) s.1=DZ ls []) ?_ ([],0,[]) ⟨by simp,.nil,rfl⟩
  rintro ⟨xs,i,G⟩ ⟨h1,h2,h3⟩ ih
  dsimp only at h1 h2 h3 ih ⊢
  refine .sr ?_;refine bi ?_;refine rn ?_;refine .seq ?_
  by_cases hi:i<ls.length
  ·rw [dT (show (i:Int)<((LL ls).length:Nat) by rw [Gm];omega)]
   have hy:ls[i]?=some ls[i]:=lG hi
   have hdr:ls.drop i=ls[i]::ls.drop (i+1):=lC hi
   generalize ls[i]=y at hy hdr
   have hyo:=h y (List.mem_of_getElem? hy)
   have hyl:=hla y (List.mem_of_getElem? hy)
   rw [hdr] at h3
   replace h3:DZ (ls.drop (i+1)) (C3 xs y 0)=DZ ls []:=h3
   have hge:=NS (ls.drop (i+1)) (C3 xs y 0)
   rw [h3] at hge
   refine Cm ?_;refine .skip ?_;refine aw ?_;refine .seq ?_;refine .block ?_;refine .sr ?_
   refine ix i ?_ rfl (UF hy) rfl s2
   refine ldp ?_ a2
   refine asd ?_;refine rn ?_;refine .region ?_;refine mvd ?_
   refine clg (fun G2=>?_) (Ti (cs:=[.own 23 (L xs)]) (b:=y) rfl rfl h2 hyo hyl (by omega)) Tryz.call244
   refine .nil ?_;refine aw ?_;refine .region ?_;refine ad ((i+1:Nat):Int) ?_ ?_
   ·omega
   refine mvd ?_;refine .nil ?_;refine AL.gh (Gh.keep [3,6,7,8] rfl) ?_;refine AL.castH (H':=[.box [.own 23 (L (C3 xs y 0))]]++(G++G2)) (by rw [← List.append_assoc];rfl) ?_
   exact ih (C3 xs y 0,i+1,G++G2) ⟨by show i+1≤ls.length;omega,(Fc y xs 0 h2).2,h3⟩ (by show ls.length-(i+1)<ls.length-i;omega)
  ·rw [dF (show ¬(i:Int)<((LL ls).length:Nat) by rw [Gm];omega)]
   have:ls.drop i=[]:=List.drop_eq_nil_of_le (by omega)
   rw [this] at h3
   replace h3:xs=DZ ls []:=h3
   refine Cd ?_;refine .gh (Gh.keep [3] rfl) ?_;refine .exit ?_
   rw [h3]
   exact ⟨G,rfl,rfl⟩
 ·rintro _ _ ⟨G,rfl,rfl⟩
  refine .sr ?_;refine fz (p:=.c 0 0) ?_
  refine fab ?_ fad (by decide)
  refine ldb (cs:=[.d (.sl (L (DZ ls [])))]) (c:=.d (.sl (L (DZ ls [])))) rfl rfl ?_ alm
  refine cl (xs:=[.sl (L (DZ ls []))]) ?_ (Eb hv.2 (by omega)) Tryz.call152
  refine asd ?_;refine rn ?_;refine .ret ?_
  exact ⟨by rw [hv.1];simp [val];rfl,rfl⟩
def DS (i x:Nat) : List Nat→Nat→List Nat→List Nat
 | [],_,xs=>xs
 | y::r,k,xs=>DS i x r (k+1) (DY xs (x * y) (i+k))
def CQ (b:List Nat) : List Nat→Nat→List Nat→List Nat
 | [],_,xs=>xs
 | x::r,i,xs=>CQ b r (i+1) (DS i x b 0 xs)
theorem Fh (i x:Nat) : ∀ (ys:List Nat) (k:Nat) (xs:List Nat),Ok xs→val (DS i x ys k xs)=val xs+x * val ys * 4294967296 ^ (i+k)∧Ok (DS i x ys k xs)
 | [],k,xs,h=>⟨by simp [DS,val],h⟩
 | y::r,k,xs,h=>by
  obtain ⟨a1,a2⟩:=FR xs (x * y) (i+k) h
  obtain ⟨b1,b2⟩:=Fh i x r (k+1) _ a2
  refine ⟨?_,b2⟩
  show val (DS i x r (k+1) (DY xs (x * y) (i+k)))=_
  rw [b1,a1,val,← Nat.add_assoc i k 1,Nat.pow_succ,Nat.mul_add,Nat.add_mul,Nat.add_assoc]
  congr 2
  simp only [Nat.mul_assoc,Nat.mul_comm,Nat.mul_left_comm]
theorem GS (b:List Nat) : ∀ (a:List Nat) (i:Nat) (xs:List Nat),Ok xs→val (CQ b a i xs)=val xs+val a * val b * 4294967296 ^ i∧Ok (CQ b a i xs)
 | [],i,xs,h=>⟨by simp [CQ,val],h⟩
 | x::r,i,xs,h=>by
  obtain ⟨a1,a2⟩:=Fh i x b 0 xs h
  obtain ⟨b1,b2⟩:=GS b r (i+1) _ a2
  refine ⟨?_,b2⟩
  show val (CQ b r (i+1) (DS i x b 0 xs))=_
  rw [b1,a1,val,Nat.pow_succ,Nat.add_zero,Nat.add_mul,Nat.add_mul,Nat.add_assoc]
  congr 2
  simp only [Nat.mul_assoc,Nat.mul_comm,Nat.mul_left_comm]
theorem Lp (i x:Nat) : ∀ (ys:List Nat) (k:Nat) (xs:List Nat),xs.length≤(DS i x ys k xs).length
 | [],k,xs=>Nat.le_refl _
 | y::r,k,xs=>nT (KB xs (x * y) (i+k)).1 (Lp i x r (k+1) _)
theorem Mi (b:List Nat) : ∀ (a:List Nat) (i:Nat) (xs:List Nat),xs.length≤(CQ b a i xs).length
 | [],i,xs=>Nat.le_refl _
 | x::r,i,xs=>nT (Lp i x b 0 xs) (Mi b r (i+1) _)
theorem YR {x y:Nat} (hx:x<4294967296) (hy:y<4294967296) : x * y<18446744069414584320:=by
 have:x * y≤4294967295 * 4294967295:=Nat.mul_le_mul (by omega) (by omega)
 omega
theorem RE {a b:List Nat} (ha:Ok a) (hb:Ok b) (hla:a.length≤524288) (hlb:b.length≤524288) (hs:(CQ b a 0 []).length≤1048576) : Fn Tryz.prog 243 [.sl (L a),.sl (L b)] (.d (.sl (L (Ak (val a * val b))))):=by
 have hv:=GS b a 0 [] .nil
 refine Fn.o1 4 39 Tryz.func243 ?_;refine .sr ?_;refine asn ?_;refine rn ?_;refine .sr ?_
 refine al ?_ T6 Lt
 refine rn ?_;refine .mid (fun e H'=>∃ G,e=[(5,.bp 0 0)]∧H'=[.box [.own 23 (L (CQ b a 0 []))]]++G) ?_ ?_
 ·refine .sr ?_
  refine mvd ?_
  refine ln ?_ (BZ _) l32
  refine mvd ?_;refine rn ?_;refine .block ?_
  refine .loop (.gh (Gh.keep [1,5,10,11,12] rfl) ?_)
  refine AL.ind (σ:=List Nat×Nat×Ad) (m:=fun s=>a.length-s.2.1) (e:=fun s=>[(1,.d (.sl (L b))),(5,.bp 0 0),(10,.d (.sl (L a))),(11,.d (.i .i64 ((L a).length:Nat))),(12,.d (.i .i64 (s.2.1:Int)))]) (h:=fun s=>[.box [.own 23 (L s.1)]]++s.2.2)
   (I:=fun s=>s.2.1≤a.length∧Ok s.1∧CQ b (a.drop s.2.1) s.2.1 s.1=CQ b a 0 []) ?_ ([],0,[]) ⟨by simp,.nil,rfl⟩
  rintro ⟨xs,i,G⟩ ⟨h1,h2,h3⟩ ih
  dsimp only at h1 h2 h3 ih ⊢
  refine .sr ?_;refine bi ?_;refine rn ?_;refine .seq ?_
  by_cases hi:i<a.length
  ·rw [dT (show (i:Int)<((L a).length:Nat) by rw [Ab];omega)]
   have hx:a[i]?=some a[i]:=lG hi
   have hdr:a.drop i=a[i]::a.drop (i+1):=lC hi
   generalize a[i]=x at hx hdr
   have hxl:=ha.at hx
   rw [hdr] at h3
   replace h3:CQ b (a.drop (i+1)) (i+1) (DS i x b 0 xs)=CQ b a 0 []:=h3
   have hge:=Mi b (a.drop (i+1)) (i+1) (DS i x b 0 xs)
   rw [h3] at hge
   refine Cm ?_;refine .skip ?_;refine aw ?_;refine .seq ?_;refine .block ?_;refine .sr ?_;refine mvd ?_
   refine ix i ?_ rfl (F6 hx) rfl s32
   refine ldp ?_ a32
   refine asd ?_;refine asd ?_;refine rn ?_;refine .sr ?_;refine mvd ?_
   refine ln ?_ (BZ _) l32
   refine mvd ?_;refine rn ?_;refine .block ?_
   refine .loop (.gh (Gh.keep [1,5,10,11,12,6,7,17,18,19] rfl) ?_)
   refine AL.ind (σ:=List Nat×Nat×Ad) (m:=fun s=>b.length-s.2.1) (e:=fun s=>[(1,.d (.sl (L b))),(5,.bp 0 0),(10,.d (.sl (L a))),(11,.d (.i .i64 ((L a).length:Nat))),(12,.d (.i .i64 (i:Int))),(6,.d (.i .i64 (i:Int))),(7,.d (U x)),(17,.d (.sl (L b))),(18,.d (.i .i64 ((L b).length:Nat))),(19,.d (.i .i64 (s.2.1:Int)))]) (h:=fun s=>[.box [.own 23 (L s.1)]]++s.2.2)
    (I:=fun s=>s.2.1≤b.length∧Ok s.1∧DS i x (b.drop s.2.1) s.2.1 s.1=DS i x b 0 xs) ?_ (xs,0,G) ⟨by simp,h2,rfl⟩
   rintro ⟨zs,k,G1⟩ ⟨g1,g2,g3⟩ ih2
   dsimp only at g1 g2 g3 ih2 ⊢
   refine .sr ?_;refine bi ?_;refine rn ?_;refine .seq ?_
   by_cases hk:k<b.length
   ·rw [dT (show (k:Int)<((L b).length:Nat) by rw [Ab];omega)]
    have hy:b[k]?=some b[k]:=lG hk
    have hdr2:b.drop k=b[k]::b.drop (k+1):=lC hk
    generalize b[k]=y at hy hdr2
    have hyl:=hb.at hy
    rw [hdr2] at g3
    replace g3:DS i x (b.drop (k+1)) (k+1) (DY zs (x * y) (i+k))=DS i x b 0 xs:=g3
    have hge2:=Lp i x (b.drop (k+1)) (k+1) (DY zs (x * y) (i+k))
    rw [g3] at hge2
    have hge3:=(KB zs (x * y) (i+k)).1
    have hxy:=YR hxl hyl
    refine Cm ?_;refine .skip ?_;refine aw ?_;refine .seq ?_;refine .block ?_;refine .sr ?_;refine mvd ?_
    refine ix k ?_ rfl (F6 hy) rfl s32
    refine ldp ?_ a32
    refine asd ?_;refine asd ?_;refine rn ?_;refine .region ?_
    refine fab ?_ fad (by decide)
    refine mvd ?_
    refine cve (x:Int) (BU (by omega)) ?_ u32 u64
    refine mvd ?_
    refine cve (y:Int) (BU (by omega)) ?_ u32 u64
    refine bie (.i .u64 ((x * y:Nat):Int)) ?_ ?_
    ·exact ⟨trivial,by rw [← Int.natCast_mul,BU (by omega)]⟩
    refine mvd ?_;refine mvd ?_;refine ad ((i+k:Nat):Int) ?_ ?_
    ·omega
    refine clg (fun G2=>?_) (Vj (cs:=[.own 23 (L zs)]) (n0:=x * y) (at0:=i+k) rfl rfl g2 (by omega) (by omega) (by omega)) Tryz.call269
    refine .nil ?_;refine aw ?_;refine .region ?_;refine ad ((k+1:Nat):Int) ?_ ?_
    ·omega
    refine mvd ?_;refine .nil ?_;refine AL.gh (Gh.keep [1,5,10,11,12,6,7,17,18,19] rfl) ?_;refine AL.castH (H':=[.box [.own 23 (L (DY zs (x * y) (i+k)))]]++(G1++G2)) (by rw [← List.append_assoc];rfl) ?_
    exact ih2 (DY zs (x * y) (i+k),k+1,G1++G2) ⟨by show k+1≤b.length;omega,(FR zs (x * y) (i+k) g2).2,g3⟩ (by show b.length-(k+1)<b.length-k;omega)
   ·rw [dF (show ¬(k:Int)<((L b).length:Nat) by rw [Ab];omega)]
    have:b.drop k=[]:=List.drop_eq_nil_of_le (by omega)
    rw [this] at g3
    replace g3:zs=DS i x b 0 xs:=g3
    refine Cd ?_;refine .exit ?_;refine aw ?_;refine .region ?_;refine ad ((i+1:Nat):Int) ?_ ?_
    ·omega
    refine mvd ?_;refine .nil ?_;refine AL.gh (Gh.keep [1,5,10,11,12] rfl) ?_
    rw [g3]
    exact ih (DS i x b 0 xs,i+1,G1) ⟨by show i+1≤a.length;omega,(Fh i x b 0 xs h2).2,h3⟩ (by show a.length-(i+1)<a.length-i;omega)
  ·rw [dF (show ¬(i:Int)<((L a).length:Nat) by rw [Ab];omega)]
   have:a.drop i=[]:=List.drop_eq_nil_of_le (by omega)
   rw [this] at h3
   replace h3:xs=CQ b a 0 []:=h3
   refine Cd ?_;refine .gh (Gh.keep [5] rfl) ?_;refine .exit ?_
   rw [h3]
   exact ⟨G,rfl,rfl⟩
 ·rintro _ _ ⟨G,rfl,rfl⟩
  refine .sr ?_;refine fz (p:=.c 0 0) ?_
  refine fab ?_ fad (by decide)
  refine ldb (cs:=[.d (.sl (L (CQ b a 0 [])))]) (c:=.d (.sl (L (CQ b a 0 [])))) rfl rfl ?_ alm
  refine cl (xs:=[.sl (L (CQ b a 0 []))]) ?_ (Eb hv.2 (by omega)) Tryz.call152
  refine asd ?_;refine rn ?_;refine .ret ?_
  exact ⟨by rw [hv.1];simp [val];rfl,rfl⟩
theorem Q6 {a N:Nat} {n:Nat} (hn:n≠0) (h:n * 4294967296 ^ a<4294967296 ^ N) : a<N:=by
 apply Classical.byContradiction
 intro hc
 have h1:4294967296 ^ N≤4294967296 ^ a:=Nat.pow_le_pow_right (by decide) (by omega)
 have h2:1 * 4294967296 ^ a≤n * 4294967296 ^ a:=Nat.mul_le_mul_right _ (by omega)
 omega
theorem Ps {N:Nat} (xs:List Nat) (n at_:Nat) (h:Ok xs) (hN:xs.length≤N) (hv:val xs+n * 4294967296 ^ at_<4294967296 ^ N) : (DY xs n at_).length≤N:=by
 induction xs,n,at_ using DY.induct with
 | case1 xs at_=>rw [Gp];exact hN
 | case2 xs n at_ hn ih =>
  have e1:=(FR xs n at_ h).1
  have hat:at_<N:=Q6 hn (by omega)
  have hlen:=EN xs at_
  have hok:Ok ((DQ xs at_).set at_ ((n+(DQ xs at_).getD at_ 0) % 4294967296)):=(Mb h at_).set _ (Nat.mod_lt _ (by decide))
  rw [IR hn] at e1 ⊢
  have e2:=(FR _ ((n+(DQ xs at_).getD at_ 0) / 4294967296) (at_+1) hok).1
  refine ih hok ?_ ?_
  ·rw [List.length_set,hlen];omega
  ·rw [← e2,e1];exact hv
theorem MX {N:Nat} (i x:Nat) : ∀ (ys:List Nat) (k:Nat) (xs:List Nat),Ok xs→xs.length≤N→val xs+x * val ys * 4294967296 ^ (i+k)<4294967296 ^ N→(DS i x ys k xs).length≤N
 | [],k,xs,h,hN,_=>hN
 | y::r,k,xs,h,hN,hv=>by
  obtain ⟨a1,a2⟩:=FR xs (x * y) (i+k) h
  have e1:=(Fh i x (y::r) k xs h).1
  have e2:=(Fh i x r (k+1) _ a2).1
  have hv2:val (DY xs (x * y) (i+k))+x * val r * 4294967296 ^ (i+(k+1))<4294967296 ^ N:=by
   rw [← e2];rw [← e1] at hv;exact hv
  exact MX i x r (k+1) _ a2 (Ps xs (x * y) (i+k) h hN (by omega)) hv2
theorem Ls {N:Nat} (b:List Nat) : ∀ (a:List Nat) (i:Nat) (xs:List Nat),Ok xs→xs.length≤N→val xs+val a * val b * 4294967296 ^ i<4294967296 ^ N→(CQ b a i xs).length≤N
 | [],i,xs,h,hN,_=>hN
 | x::r,i,xs,h,hN,hv=>by
  obtain ⟨a1,a2⟩:=Fh i x b 0 xs h
  have e1:=(GS b (x::r) i xs h).1
  have e2:=(GS b r (i+1) _ a2).1
  have hv2:val (DS i x b 0 xs)+val r * val b * 4294967296 ^ (i+1)<4294967296 ^ N:=by
   rw [← e2];rw [← e1] at hv;exact hv
  exact Ls b r (i+1) _ a2 (MX i x b 0 xs h hN (by omega)) hv2
theorem QT {a b:List Nat} (ha:Ok a) (hb:Ok b) : (CQ b a 0 []).length≤a.length+b.length:=by
 refine Ls b a 0 [] .nil (Nat.zero_le _) ?_
 have h1:=CR ha
 have h2:=CR hb
 rw [Nat.pow_add]
 simp only [val,Nat.pow_zero,Nat.mul_one,Nat.zero_add]
 exact Nat.mul_lt_mul'' h1 h2
theorem V7 {a b:List Nat} (ha:Ok a) (hb:Ok b) (hla:a.length≤524288) (hlb:b.length≤524288) : Fn Tryz.prog 243 [.sl (L a),.sl (L b)] (.d (.sl (L (Ak (val a * val b))))) :=
 RE ha hb hla hlb (by have:=QT ha hb;omega)
def E9 (ls:List (List Nat)) (p:Nat) : Nat:=ls.foldl (fun q a=>q * val a) p
theorem Rf {ls:List (List Nat)} (h:∀ a∈ls,Ok a) (hl:ls.length≤1048576) (hla:∀ a∈ls,a.length≤524288) (hs:∀ k,(Ak (E9 (ls.take k) 1)).length≤524288) :
  Fn Tryz.prog 210 [.sl (LL ls)] (.d (.sl (L (Ak (E9 ls 1))))):=by
 refine Fn.o1 2 18 Tryz.func210 ?_;refine .sr ?_;refine asn ?_;refine rn ?_;refine .sr ?_
 refine bsl ?_ ?_ e32
 ·simp [DV.flat,DV.cells,DV.leaf]
 refine fz (p:=.t 6) ?_;refine asd ?_;refine rn ?_;refine .mid (fun e H'=>e=[(3,.d (.sl (L (Ak (E9 ls 1)))))]∧H'=[]) ?_ ?_
 ·refine .sr ?_
  refine mvd ?_
  refine ln ?_ (U1 _) l2
  refine mvd ?_;refine rn ?_;refine .block ?_
  refine .loop (.gh (Gh.keep [3,7,8,9] rfl) ?_)
  refine AL.cast (env':=[(3,.d (.sl (L (Ak (E9 (ls.take 0) 1))))),(7,.d (.sl (LL ls))),(8,.d (.i .i64 ((LL ls).length:Nat))),(9,.d (.i .i64 ((0:Nat):Int)))]) (by
   have e1:Ak (E9 (ls.take 0) 1)=[1]:=by
    rw [List.take_zero];show Ak 1=[1];rw [Ak];simp;rw [Ak];simp
   rw [e1];rfl) ?_
  refine AL.ind (σ:=Nat) (m:=fun i=>ls.length-i) (e:=fun i=>[(3,.d (.sl (L (Ak (E9 (ls.take i) 1))))),(7,.d (.sl (LL ls))),(8,.d (.i .i64 ((LL ls).length:Nat))),(9,.d (.i .i64 (i:Int)))]) (h:=fun _=>[])
   (I:=fun i=>i≤ls.length) ?_ 0 (Nat.zero_le _)
  intro i h1 ih
  refine .sr ?_;refine bi ?_;refine rn ?_;refine .seq ?_
  by_cases hi:i<ls.length
  ·rw [dT (show (i:Int)<((LL ls).length:Nat) by rw [Gm];omega)]
   have hy:ls[i]?=some ls[i]:=lG hi
   have htk:ls.take (i+1)=ls.take i++[ls[i]]:=List.take_succ_eq_append_getElem hi
   generalize ls[i]=y at hy htk
   have hyo:=h y (List.mem_of_getElem? hy)
   have hyl:=hla y (List.mem_of_getElem? hy)
   have hst:E9 (ls.take (i+1)) 1=E9 (ls.take i) 1 * val y:=by rw [htk,E9,E9,List.foldl_append];rfl
   refine Cm ?_;refine .skip ?_;refine aw ?_;refine .seq ?_;refine .block ?_;refine .sr ?_
   refine ix i ?_ rfl (UF hy) rfl s2
   refine ldp ?_ a2
   refine asd ?_;refine rn ?_;refine .region ?_;refine mvd ?_;refine mvd ?_
   refine cl (xs:=[.sl (L (Ak (E9 (ls.take i) 1))),.sl (L y)]) ?_ (V7 (BC _) hyo (hs i) hyl) Tryz.call243
   refine asd ?_;refine .nil ?_;refine aw ?_;refine .region ?_;refine ad ((i+1:Nat):Int) ?_ ?_
   ·omega
   refine mvd ?_;refine .nil ?_;refine AL.gh (Gh.keep [3,7,8,9] rfl) ?_
   rw [Bi,← hst]
   exact ih (i+1) (by show i+1≤ls.length;omega) (by show ls.length-(i+1)<ls.length-i;omega)
  ·rw [dF (show ¬(i:Int)<((LL ls).length:Nat) by rw [Gm];omega)]
   rw [List.take_of_length_le (by omega)]
   refine Cd ?_;refine .gh (Gh.keep [3] rfl) ?_;refine .exit ?_
   exact ⟨rfl,rfl⟩
 ·rintro _ _ ⟨rfl,rfl⟩
  refine .sr ?_;refine mvd ?_;refine asd ?_;refine rn ?_;refine .ret ?_
  exact ⟨rfl,rfl⟩
theorem e2 : Cz Tryz.prog 230=some (32,1,24,.slice none 0 0):=by kernel_rfl
theorem MH {N:Nat} : ∀ (ys xs:List Nat) (i:Nat),Ok xs→xs.length≤N→val xs+val ys * 4294967296 ^ i<4294967296 ^ N→(C3 xs ys i).length≤N
 | [],xs,i,h,hN,_=>hN
 | y::ys,xs,i,h,hN,hv=>by
  obtain ⟨a1,a2⟩:=FR xs y i h
  have e1:=(Fc (y::ys) xs i h).1
  have e2:=(Fc ys _ (i+1) a2).1
  have hv2:val (DY xs y i)+val ys * 4294967296 ^ (i+1)<4294967296 ^ N:=by
   rw [← e2];rw [← e1] at hv;exact hv
  exact MH ys _ (i+1) a2 (Ps xs y i h hN (by omega)) hv2
theorem Mr {N:Nat} : ∀ (ls:List (List Nat)) (xs:List Nat),Ok xs→xs.length≤N→val xs+(ls.map val).sum<4294967296 ^ N→(DZ ls xs).length≤N
 | [],xs,h,hN,_=>hN
 | a::r,xs,h,hN,hv=>by
  obtain ⟨a1,a2⟩:=Fc a xs 0 h
  have hv2:val (C3 xs a 0)+(r.map val).sum<4294967296 ^ N:=by
   rw [a1];simp at hv ⊢;omega
  exact Mr r _ a2 (MH a xs 0 h hN (by omega)) hv2
theorem ST (M:Nat) : 4294967296 ^ (M+1)=4294967296 ^ M * 4294967296:=Nat.pow_succ ..
theorem UX {M:Nat} : ∀ {ls:List (List Nat)},(∀ a∈ls,val a<4294967296 ^ M)→(ls.map val).sum≤ls.length * 4294967296 ^ M
 | [],_=>by simp
 | a::r,h=>by
  have h1:=h a (by simp)
  have h2:=UX (ls:=r) fun b hb=>h b (by simp [hb])
  simp only [List.map_cons,List.sum_cons,List.length_cons,Nat.add_mul,Nat.one_mul]
  omega
theorem Vg {M:Nat} {ls:List (List Nat)} (h:∀ a∈ls,Ok a) (hM:∀ a∈ls,a.length≤M) (hl:ls.length≤1000) (hM2:M≤100000) : Fn Tryz.prog 211 [.sl (LL ls)] (.d (.sl (L (Ak (ls.map val).sum)))):=by
 have hv:∀ a∈ls,val a<4294967296 ^ M:=fun a ha=>nL (CR (h a ha)) (Nat.pow_le_pow_right (by decide) (hM a ha))
 refine XD h (by omega) (fun a ha=>nT (hM a ha) (by omega)) ?_
 have h1:=UX hv
 have h2:ls.length * 4294967296 ^ M<4294967296 ^ (M+1):=by
  rw [ST,Nat.mul_comm]
  exact Nat.mul_lt_mul_of_pos_left (by omega) (Nat.pow_pos (by decide))
 have:=Mr (N:=M+1) ls [] .nil (Nat.zero_le _) (by simp only [val,Nat.zero_add];omega)
 omega
theorem PH {M:Nat} : ∀ (ls:List (List Nat)) (p j:Nat),(∀ a∈ls,val a<4294967296 ^ M)→p<4294967296 ^ j→E9 ls p<4294967296 ^ (j+M * ls.length)
 | [],p,j,_,hp=>by simpa [E9] using hp
 | a::r,p,j,h,hp=>by
  have h1:p * val a<4294967296 ^ (j+M):=by rw [Nat.pow_add];exact Nat.mul_lt_mul'' hp (h a (by simp))
  have:=PH r (p * val a) (j+M) (fun b hb=>h b (by simp [hb])) h1
  rw [show j+M * (a::r).length=j+M+M * r.length by simp [Nat.mul_add];omega]
  exact this
theorem Ka {M:Nat} {ls:List (List Nat)} (h:∀ a∈ls,Ok a) (hM:∀ a∈ls,a.length≤M) (hl:ls.length≤10) (hM2:M≤40000) : Fn Tryz.prog 210 [.sl (LL ls)] (.d (.sl (L (Ak (E9 ls 1))))):=by
 have hv:∀ a∈ls,val a<4294967296 ^ M:=fun a ha=>nL (CR (h a ha)) (Nat.pow_le_pow_right (by decide) (hM a ha))
 refine Rf h (by omega) (fun a ha=>nT (hM a ha) (by omega)) fun k=>?_
 have h1:=PH (ls.take k) 1 1 (fun a ha=>hv a (List.mem_of_mem_take ha)) (by decide)
 have h2:=DI h1
 have h3:M * (ls.take k).length≤40000 * 10:=Nat.mul_le_mul hM2 (by rw [List.length_take];omega)
 omega
theorem QA : ∀ zs : List Int,(∀ z∈zs,(Lit.int .u32 z).wf=true)→∃ a : List Nat,Ok a∧zs.map (DV.i .u32)=L a
 | [],_=>⟨[],.nil,rfl⟩
 | z::zs,h=>by
  obtain ⟨a,h1,h2⟩:=QA zs fun y hy=>h y (by simp [hy])
  have hz:=h z (by simp)
  have hz2:0≤z∧z≤4294967295:=by simpa [Lit.wf,IntKind.min,IntKind.max,IntKind.signed,IntKind.bits] using hz
  refine ⟨z.toNat::a,h1.cons (by omega),?_⟩
  rw [List.map_cons,h2]
  show _=U z.toNat::L a
  rw [U,Int.toNat_of_nonneg hz2.1]
theorem FJ {b:List Nat} (k:Nat) : val (b.drop k)=b.getD k 0+4294967296 * val (b.drop (k+1)):=by
 by_cases h:k<b.length
 ·rw [lC h,List.getD_eq_getElem?_getD,lG h];simp only [val,Option.getD_some]
 ·rw [List.drop_eq_nil_of_le (by omega),List.drop_eq_nil_of_le (by omega),List.getD_eq_getElem?_getD,List.getElem?_eq_none (by omega)];simp [val]
theorem Eg {b:List Nat} (h:Ok b) (k:Nat) : b.getD k 0<4294967296:=by
 rw [lD]
 cases hk:b[k]? with
 | none=>decide
 | some y=>exact h.at hk
theorem Jn {xs:List Nat} {j o y:Nat} (h:xs[j]?=some o) : val (xs.set j y)+o * 4294967296 ^ j=val xs+y * 4294967296 ^ j:=R7 h
theorem R1 : ∀ n,val (List.replicate n 0)=0
 | 0=>rfl
 | n+1=>by rw [List.replicate_succ,val,R1 n]
theorem Xz (n:Nat) : Ok (List.replicate n 0):=fun x hx=>by rw [List.eq_of_mem_replicate hx];decide
theorem Ok.snoc {xs:List Nat} {y:Nat} (h:Ok xs) (hy:y<4294967296) : Ok (xs++[y]):=h.append (by intro x hx;simp at hx;subst hx;exact hy)
def Vx (m n:Nat) : Nat:=if n≤m then m-n else 0
theorem w32 (X:BitVec 32) : IntKind.u32.wrap (X.toNat:Int)=X.toNat:=NU _ (by omega) (by have:=X.isLt;omega)
theorem o32 (X:BitVec 32) : BitVec.ofInt IntKind.u32.bits (X.toNat:Int)=X:=by
 show BitVec.ofInt 32 (X.toNat:Int)=X
 rw [BitVec.ofInt_natCast,BitVec.ofNat_toNat];simp
theorem Sa (X Y:BitVec 32) : bits .and .u32 (X.toNat:Int) (Y.toNat:Int)=((X &&& Y).toNat : Int):=by
 unfold bits;simp only [o32];exact w32 _
theorem XG (X Y:BitVec 32) : bits .or .u32 (X.toNat:Int) (Y.toNat:Int)=((X ||| Y).toNat : Int):=by
 unfold bits;simp only [o32];exact w32 _
theorem SG (X Y:BitVec 32) : bits .xor .u32 (X.toNat:Int) (Y.toNat:Int)=((X ^^^ Y).toNat : Int):=by
 unfold bits;simp only [o32];exact w32 _
theorem Su (X:BitVec 32) : bits .xor .u32 (if IntKind.u32.signed then -1 else IntKind.u32.max) (X.toNat:Int)=((~~~X).toNat : Int):=by
 have:=SG (BitVec.allOnes 32) X
 rw [BitVec.allOnes_xor] at this
 exact this
theorem SO (X Y:BitVec 32) : IntKind.u32.wrap ((X.toNat:Int)-(Y.toNat:Int))=((X-Y).toNat : Int):=by
 simp only [IntKind.wrap,IntKind.bits,IntKind.signed,BitVec.toNat_sub];simp
 have:=X.isLt;have:=Y.isLt;omega
theorem Wj (X:BitVec 32) : (X.toNat:Int) / 2 ^ 31=if X.msb then 1 else 0:=by
 rw [BitVec.msb_eq_decide]
 have:=X.isLt
 by_cases h:2 ^ (32-1)≤X.toNat
 ·simp [h];omega
 ·simp [h];omega
theorem WW (X Y B:BitVec 32) (hB:B.toNat≤1) : ((~~~X &&& Y) ||| (~~~(X ^^^ Y) &&& (X-Y-B))).msb=decide (X.toNat<Y.toNat+B.toNat):=by
 have hx:=X.isLt;have hy:=Y.isLt
 simp only [BitVec.msb_or,BitVec.msb_and,BitVec.msb_not,BitVec.msb_xor]
 rw [BitVec.msb_eq_decide X,BitVec.msb_eq_decide Y,BitVec.msb_eq_decide (X-Y-B)]
 simp only [BitVec.toNat_sub]
 by_cases h1:2 ^ (32-1)≤X.toNat<;>by_cases h2:2 ^ (32-1)≤Y.toNat<;>simp [h1,h2]<;>omega
theorem Tk (X Y B:BitVec 32) (hB:B.toNat≤1) : Fn Tryz.prog 246 [.i .u32 X.toNat,.i .u32 Y.toNat,.i .u32 B.toNat]
  (.tup [.d (.i .u32 (X-Y-B).toNat),.d (.i .u32 (if decide (X.toNat<Y.toNat+B.toNat)=true then 1 else 0))]):=by
 refine Fn.of (rs:=[.tmp 6,.tmp 7]) (nt:=25) Tryz.func246 rfl rfl rfl (by simp) rfl ?_;refine .sr ?_;refine asd ?_;refine asd ?_;refine rn ?_;refine .sr ?_;refine mvd ?_;refine mvd ?_;refine bi ?_
 rw [SO]
 refine mvd ?_;refine bi ?_
 rw [SO]
 refine asd ?_;refine rn ?_;refine .sr ?_;refine mvd ?_;refine xr ?_
 rw [Su]
 refine mvd ?_;refine bi ?_
 rw [Sa]
 refine mvd ?_;refine mvd ?_;refine bi ?_
 rw [SG]
 refine xr ?_
 rw [Su]
 refine mvd ?_;refine bi ?_
 rw [Sa]
 refine bi ?_
 rw [XG]
 refine bic ?_ ?_
 ·decide
 refine asd ?_;refine rn ?_;refine .ret ?_
 rw [← WW X Y B hB,← Wj]
 exact ⟨by decide,rfl,rfl,rfl⟩
theorem Mw {x y b:Nat} (hx:x<4294967296) (hy:y<4294967296) (hb:b≤1) : Fn Tryz.prog 246 [U x,U y,U b]
  (.tup [.d (U ((x+8589934592-y-b) % 4294967296)),.d (U (if x<y+b then 1 else 0))]):=by
 have:=Tk (BitVec.ofNat 32 x) (BitVec.ofNat 32 y) (BitVec.ofNat 32 b) (by simp only [BitVec.toNat_ofNat];omega)
 have e1:x % 2 ^ 32=x:=Nat.mod_eq_of_lt hx
 have e2:y % 2 ^ 32=y:=Nat.mod_eq_of_lt hy
 have e3:b % 2 ^ 32=b:=Nat.mod_eq_of_lt (by omega)
 simp only [BitVec.toNat_ofNat,BitVec.toNat_sub,e1,e2,e3] at this
 rw [show (2 ^ 32-b+(2 ^ 32-y+x) % 2 ^ 32) % 2 ^ 32=(x+8589934592-y-b) % 4294967296 by omega] at this
 by_cases h:x<y+b
 ·simp only [h,decide_true,if_true] at this ⊢;exact this
 ·simp only [h,decide_false,if_false,Bool.false_eq_true] at this ⊢;exact this
theorem Uo {x y b:Nat} (hx:x<4294967296) (hy:y<4294967296) (hb:b<4294967296) : Fn Tryz.prog 267 [U x,U y,U b]
  (.tup [.d (U ((x+y+b) % 4294967296)),.d (U ((x+y+b) / 4294967296))]):=by
 refine Fn.of (rs:=[.tmp 6,.tmp 7]) (nt:=22) Tryz.func267 rfl rfl rfl (by simp) rfl ?_;refine .sr ?_;refine asd ?_;refine asd ?_;refine rn ?_;refine .sr ?_;refine mvd ?_
 refine cve (x:Int) (BU (by omega)) ?_ u32 u64
 refine mvd ?_
 refine cve (y:Int) (BU (by omega)) ?_ u32 u64
 refine bie (.i .u64 ((x+y:Nat):Int)) ?_ ?_
 ·exact ⟨trivial,by rw [← Int.natCast_add,BU (by omega)]⟩
 refine mvd ?_
 refine cve (b:Int) (BU (by omega)) ?_ u32 u64
 refine bie (.i .u64 ((x+y+b:Nat):Int)) ?_ ?_
 ·exact ⟨trivial,by rw [← Int.natCast_add,BU (by omega)]⟩
 refine asd ?_;refine rn ?_;refine .sr ?_;refine mvd ?_
 refine cve (((x+y+b) % 4294967296:Nat):Int) (Gc _) ?_ u64 u32
 refine asd ?_;refine rn ?_;refine .sr ?_;refine mvd ?_;refine bie (.i .u64 (((x+y+b) / 4294967296:Nat):Int)) ?_ ?_
 ·simp [IntKind.bits]
 refine cve (((x+y+b) / 4294967296:Nat):Int) (Om (by omega)) ?_ u64 u32
 refine asd ?_;refine rn ?_;refine .ret ?_
 exact ⟨by decide,rfl,rfl,rfl⟩
theorem Nm {x y c:Nat} (hx:x<4294967296) (hy:y<4294967296) (hc:c≤1) : x+4294967296 * (if x<y+c then 1 else 0)=y+c+(x+8589934592-y-c) % 4294967296:=by
 split<;>omega
theorem PS {O O' P x y c A A' B B' q r T U:Nat} (hq:x+4294967296 * q=y+c+r) (hA:A=x+4294967296 * A') (hB:B=y+4294967296 * B') (h:T+(B+c) * P=U+O) (hs:O'+x * P=O+r * P) : T+(B'+q) * (P * 4294967296)=U+O':=by
 grind
theorem Qf {a b:List Nat} (ha:Ok a) (hb:Ok b) (hla:a.length≤500000) (hlb:b.length≤500000) : Fn Tryz.prog 212 [.sl (L a),.sl (L b)] (.tup [.d (.sl (L (Ak (Vx (val a) (val b))))),.d (.b (decide (val b≤val a)))]):=by
 refine Fn.of (rs:=[.tmp 4,.tmp 5]) (nt:=47) Tryz.func212 rfl rfl rfl (by simp) rfl ?_;refine .sr ?_;refine asn ?_;refine asd ?_;refine rn ?_;refine .seq ?_;refine .sr ?_;refine mvd ?_;refine mvd ?_
 refine cl (xs:=[.sl (L a),.sl (L b)]) ?_ (Mx ha hb (by omega) (by omega)) Tryz.call191
 refine bi ?_;refine rn ?_
 by_cases hlt:val a<val b
 ·rw [dT (show Ns (val a) (val b)<0 by unfold Ns;rw [if_pos hlt];decide)]
  refine Cm ?_;refine .sr ?_;refine asn ?_;refine asd ?_;refine rn ?_;refine .gh (Gh.nlD (t:=4) rfl) ?_;refine .ret ?_
  exact ⟨by decide,by rw [dF (show ¬val b≤val a by omega),Vx,if_neg (by omega),Bg];rfl,rfl,rfl⟩
 ·have hle:val b≤val a:=by omega
  rw [dF (show ¬Ns (val a) (val b)<0 by unfold Ns;rw [if_neg hlt];split<;>decide)]
  refine Cd ?_;refine .skip ?_;refine aw ?_;refine .gh (Gh.keep [0,1,4,5] rfl) ?_
  have oa:=BC (val a)
  have ob:=BC (val b)
  have va:=Bi (val a)
  have vb:=Bi (val b)
  have la:=nT (CG ha) hla
  have lb:=nT (CG hb) hlb
  refine .sr ?_;refine mvd ?_
  refine cl (xs:=[.sl (L a)]) ?_ (L9 ha (by omega)) Tryz.call245
  refine aso ?_;refine rn ?_;refine .sr ?_;refine mvd ?_
  refine cl (xs:=[.sl (L b)]) ?_ (Eb hb (by omega)) Tryz.call152
  refine asd ?_;refine rn ?_
  generalize Ak (val a)=xs at *
  generalize Ak (val b)=ys at *
  refine .sr ?_;refine asd ?_;refine rn ?_;refine .mid (fun e H'=>∃ out,e=[(6,.own 23 (L out))]∧H'=[]∧Ok out∧out.length=xs.length∧val out=val a-val b) ?_ ?_
  ·refine .sr ?_
   refine mvo ?_
   refine lnr ?_ l32
   refine mvd ?_;refine rn ?_;refine .block ?_
   refine .loop (.gh (Gh.keep [1,6,7,19,20] rfl) ?_)
   refine AL.ind (σ:=List Nat×Nat×Nat) (m:=fun s=>xs.length-s.2.1) (e:=fun s=>[(1,.d (.sl (L ys))),(6,.own 23 (L s.1)),(7,.d (.i .u32 (s.2.2:Int))),(19,.d (.i .i64 ((L xs).length:Nat))),(20,.d (.i .i64 (s.2.1:Int)))]) (h:=fun _=>[])
    (I:=fun s=>Ok s.1∧s.1.length=xs.length∧s.2.1≤xs.length∧s.2.2≤1∧s.1.drop s.2.1=xs.drop s.2.1∧val a+(val (ys.drop s.2.1)+s.2.2) * 4294967296 ^ s.2.1=val b+val s.1) ?_ (xs,0,0) ⟨oa,rfl,Nat.zero_le _,by simp,rfl,by simp [va,vb];omega⟩
   rintro ⟨out,i,c⟩ ⟨h1,h2,h3,h4,h5,h6⟩ ih
   dsimp only at h1 h2 h3 h4 h5 h6 ih ⊢
   refine .sr ?_;refine bi ?_;refine rn ?_;refine .seq ?_
   by_cases hi:i<xs.length
   ·rw [dT (show (i:Int)<((L xs).length:Nat) by rw [Ab];omega)]
    have hx:out[i]?=some out[i]:=lG (by omega)
    have hdr:out.drop i=out[i]::out.drop (i+1):=lC (by omega)
    have hdx:val (out.drop i)=out[i]+4294967296 * val (out.drop (i+1)):=by rw [hdr,val]
    have hxl:=h1.at hx
    have hyl:=Eg ob i
    have hdy:=FJ (b:=ys) i
    have hy:∀ h:i<ys.length,ys[i]?=some (ys.getD i 0):=fun h=>by rw [lD,lG h];rfl
    have hy0:¬i<ys.length→ys.getD i 0=0:=fun h=>by rw [lD,List.getElem?_eq_none (by omega)];rfl
    generalize out[i]=x at *
    generalize ys.getD i 0=y at *
    have f1:=Mw hxl hyl h4
    have hq:=Nm hxl hyl h4
    have hq1:(if x<y+c then 1 else 0)≤1:=by split<;>omega
    have hr1:(x+8589934592-y-c) % 4294967296<4294967296:=Nat.mod_lt _ (by decide)
    generalize (if x<y+c then 1 else 0)=q at *
    generalize (x+8589934592-y-c) % 4294967296=r at *
    have hset:=Jn hx (y:=r)
    have hstep:=PS hq hdx hdy h6 hset
    refine Cm ?_;refine .skip ?_;refine aw ?_;refine .seq ?_;refine .block ?_;refine .sr ?_;refine mvd ?_;refine asd ?_;refine rn ?_;refine .sr ?_;refine asd ?_;refine rn ?_;refine .mid (fun e H'=>H'=[]∧e=[(1,.d (.sl (L ys))),(6,.own 23 (L out)),(7,.d (.i .u32 (c:Int))),(8,.d (.i .i64 (i:Int))),(9,.d (.i .u32 (y:Int))),(19,.d (.i .i64 ((L xs).length:Nat))),(20,.d (.i .i64 (i:Int)))]) ?_ ?_
    ·refine .sr ?_
     refine mvd ?_;refine mvd ?_
     refine ln ?_ (BZ _) l32
     refine bi ?_;refine rn ?_
     by_cases hiy:i<ys.length
     ·rw [dT (show (i:Int)<((L ys).length:Nat) by rw [Ab];omega)]
      refine Cm ?_;refine .region ?_;refine mvd ?_;refine mvd ?_
      refine ix i ?_ rfl (F6 (hy hiy)) rfl s32
      refine ldp ?_ a32
      refine asd ?_;refine RL.gh (Gh.keep [1,6,7,8,9,19,20] rfl) ?_;refine .nil ?_
      exact ⟨rfl,rfl⟩
     ·rw [dF (show ¬(i:Int)<((L ys).length:Nat) by rw [Ab];omega)]
      have:=hy0 hiy
      subst this
      refine Cd ?_;refine .gh (Gh.keep [1,6,7,8,9,19,20] rfl) ?_;refine .skip ?_
      exact ⟨rfl,rfl⟩
    rintro _ _ ⟨rfl,rfl⟩
    refine .region ?_;refine mvo ?_;refine mvd ?_;refine mvo ?_;refine mvd ?_
    refine ixr i ?_ ?_ ?_ s32 (by decide)
    ·rfl
    ·rw [Ab,h2];omega
    refine lde (U x) ?_ ?_ a32
    ·rw [Nat.zero_add];exact Hb hx
    refine mvd ?_;refine mvd ?_
    refine cl (xs:=[U x,U y,U c]) ?_ f1 Tryz.call246
    refine mvt ?_;refine ex ?_;refine ex ?_
    refine ixr i ?_ ?_ ?_ s32 (by decide)
    ·rfl
    ·rw [Ab,h2];omega
    refine ste ?_ ?_ z32
    ·rw [Nat.zero_add];exact Gu hx
    refine asd ?_;refine .nil ?_;refine aw ?_;refine .region ?_;refine ad ((i+1:Nat):Int) ?_ ?_
    ·omega
    refine mvd ?_;refine rn ?_;refine .gh (Gh.keep [1,6,7,19,20] rfl) ?_
    have:=ih (out.set i r,i+1,q) ⟨h1.set _ hr1,by dsimp only;rw [List.length_set];exact h2,by dsimp only;omega,hq1,?_,?_⟩ (by dsimp only;omega)
    ·dsimp only at this
     have e0:(L out).set (0+i) (U r)=L (out.set i r):=by rw [Nat.zero_add,Mv]
     rw [← e0] at this
     exact this
    ·dsimp only
     rw [List.drop_set_of_lt (by omega)]
     have e1:xs.drop (i+1)=(xs.drop i).drop 1:=by rw [List.drop_drop]
     have e2:out.drop (i+1)=(out.drop i).drop 1:=by rw [List.drop_drop]
     rw [e1,e2,h5]
    ·dsimp only
     rw [Nat.pow_succ];exact hstep
   ·rw [dF (show ¬(i:Int)<((L xs).length:Nat) by rw [Ab];omega)]
    refine Cd ?_;refine .gh (Gh.keep [6] rfl) ?_;refine .exit ?_
    have hie:i=xs.length:=by omega
    refine ⟨out,rfl,rfl,h1,h2,?_⟩
    have hvo:=CR h1
    rw [h2] at hvo
    rw [hie] at h6
    have hz:val (ys.drop xs.length)+c=0:=by
     apply Classical.byContradiction
     intro hne
     have:1 * 4294967296 ^ xs.length≤(val (ys.drop xs.length)+c) * 4294967296 ^ xs.length:=Nat.mul_le_mul_right _ (by omega)
     omega
    rw [hz] at h6
    omega
  rintro _ _ ⟨out,rfl,rfl,h1,h2,h3⟩
  refine .sr ?_;refine fz (p:=.t 6) ?_;refine mvd ?_
  refine cl (xs:=[.sl (L out)]) ?_ (Eb h1 (by omega)) Tryz.call152
  rw [h3]
  refine asd ?_;refine asd ?_;refine rn ?_;refine .ret ?_
  exact ⟨by decide,by rw [dT hle,Vx,if_pos hle];rfl,rfl,rfl⟩
end Go.FL
