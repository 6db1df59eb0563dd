/- Lemmas. -/
import Derived.Test.YtjcimanddakkaaaGreatDoorQ1
import Derived.Sort.Grow
import Derived.Deep.AppendSrc
import Derived.Deep.AppendLies
set_option maxRecDepth 100000
set_option maxHeartbeats 8000000
namespace Go.Proofs.YtjcimanddakkaaaGreatDoor
open Go.Value renaming int→J,bool→a7,slice→a8
open Go.IntKind renaming i64→U
open Go.Ending renaming returned→a6
open _root_.Option renaming some→X,none→Y
open Go.Obj renaming cells→a9
open Go.Lib renaming hid→Z
open Tryz
open _root_.List renaming eq_nil_of_length_eq_zero→ad,length_append→au,map_toArray→bc,length_drop→bk,map_cons→bt,map_nil→bB
open Go.Builtin renaming append_→al
open Go.Value renaming ownBlock→ao
open Go renaming World→av,Value→ay,TypeId→bw
open _root_.Nat renaming le_refl→ax,zero_mul→bb
open _root_.Option.some renaming injEq→aC
open Go.Result renaming andThen_ok→aS
open _root_.Option renaming map_some→aT
open Go.World.ownsRow renaming form→bp
open _root_.Prod.mk renaming injEq→bs
open Go.Sort renaming grow→bA
open Go.Sem renaming run_pure→bD,run_bind→bO
open Go.Addr renaming add→bT
section
open Go.RowKit Go.Maps Go.Shelf
def fq (a b:Int):Int:=if a<b then -1 else if b<a then 1 else 0
def br (a b:RK):Int:=if fq a.1 b.1≠0 then fq a.1 b.1 else fq a.2 b.2
def oG (x y:PK):Int:=if br x.1 y.1≠0 then br x.1 y.1 else br x.2 y.2
theorem sO {a b:Int}:fq a b<0↔a<b:=by
 unfold fq;split
 · simp [*]
 · split<;>omega
theorem fM {a b:Int}:fq a b=0↔a=b:=by
 unfold fq;split
 · omega
 · split<;>omega
theorem eP (a b:RK):br a b<0↔ltRK a b=true:=by
 rw [fF];unfold br;by_cases h:fq a.1 b.1=0
 · rw [if_neg (by simpa using h),sO];rw [fM] at h;omega
 · rw [if_pos h,sO];rw [fM] at h;omega
theorem mF (a b:RK):br a b=0↔a=b:=by
 unfold br;by_cases h:fq a.1 b.1=0
 · rw [if_neg (by simpa using h),fM];rw [fM] at h;rw [Prod.ext_iff];exact ⟨λc=>⟨h,c⟩,λc=>c.2⟩
 · rw [if_pos h];rw [fM] at *;exact ⟨λc=>absurd c h,λc=>absurd (by rw [c]) h⟩
theorem xI (x y:PK):oG x y<0↔ltPK x y=true:=by
 unfold oG ltPK;by_cases h:br x.1 y.1=0
 · rw [if_neg (by simpa using h),if_pos ((mF _ _).1 h),eP]
 · rw [if_pos h,if_neg (λa=>h ((mF _ _).2 a)),eP]
theorem j8 (a:Int) (w:av):Calls prog 141 #[J U a] w λe w'=>e=a6 (a7 false)/\w=w':=by
 go_enter func141,ntmps141;go_wp2;go_ret;exact ⟨an (by simp),rfl⟩
theorem jh (a b:Int) (w:av):Calls prog 91 #[J U a,J U b] w λe w'=>e=a6 (J U (fq a b))/\w=w':=by
 unfold fq;by_cases h:a<b
 · rw [if_pos h];go_enter func91,ntmps91;go_wp2_with (go_at_call 141;refine (j8 _ _).mono ?_;rintro e w' ⟨rfl,rfl⟩)
   go_ret;exact ⟨rfl,rfl⟩
 · rw [if_neg h];by_cases h2:b<a
   · rw [if_pos h2];go_enter func91,ntmps91;go_wp2_with (go_at_call 141;refine (j8 _ _).mono ?_;rintro e w' ⟨rfl,rfl⟩)
     go_ret;exact ⟨rfl,rfl⟩
   · rw [if_neg h2];go_enter func91,ntmps91;go_wp2_with (go_at_call 141;refine (j8 _ _).mono ?_;rintro e w' ⟨rfl,rfl⟩)
     go_ret;exact ⟨rfl,rfl⟩
theorem gU (t q:Bool) (a b:Int) (m:Nat) (w:av):Calls prog 56 #[a7 t,a7 q,J U a,J U b,J U m] w λe w'=>e=a6 (J U (aJ t q a b m))/\w=w':=by
 have d:Hid (aJ t q a b m=if t&&q then 22 else if t&&decide (b<=a) then 30 else if !t&&decide (5000<=m) then 2 else 0):=rfl;generalize aJ t q a b m=R at *;cases t
 · by_cases h:5000<=m
   · have f:decide ((5000:Int)<=(m:Int))=true:=decide_eq_true (by omega);have c:Hid (R=2):=by unfold Hid;rw [d.o];simp [h]
     clear h;go_enter func56,ntmps56;go_wp2;go_ret;exact ⟨aH c.symm,rfl⟩
   · have f:decide ((5000:Int)<=(m:Int))=false:=decide_eq_false (by omega);have c:Hid (R=0):=by unfold Hid;rw [d.o];simp [h]
     clear h;go_enter func56,ntmps56;go_wp2;go_ret;exact ⟨aH c.symm,rfl⟩
 · cases q
   · by_cases h:b<=a
     · have c:Hid (R=30):=by unfold Hid;rw [d.o];simp [h]
       go_enter func56,ntmps56;go_wp2;go_ret;exact ⟨aH c.symm,rfl⟩
     · have c:Hid (R=0):=by unfold Hid;rw [d.o];simp [h]
       go_enter func56,ntmps56;go_wp2;go_ret;exact ⟨aH c.symm,rfl⟩
   · have c:Hid (R=22):=by unfold Hid;rw [d.o];simp
     go_enter func56,ntmps56;go_wp2;go_ret;exact ⟨aH c.symm,rfl⟩
end
section
open Go.RowKit
def bo (w w':av):Prop:=∃(q:Nat) (os:Array Obj),w'=bA (w.drewN q) os
theorem bo.refl (w:av):bo w w:=⟨0, #[],by rw [Sort.grow_empty];rfl⟩
theorem bo.alloc {w w':av} (h:bo w w') (o:Obj):bo w (w'.alloc o):=by
 obtain ⟨q,a,rfl⟩:=h;exact ⟨q,a++ #[o],by rw [Sort.alloc_eq_grow,Sort.grow_grow]⟩
theorem bo.drew {w w':av} (h:bo w w'):bo w w'.drew:=by
 obtain ⟨q,a,rfl⟩:=h;exact ⟨q+1,a,rfl⟩
theorem bo.trans {x y z:av} (h:bo x y) (k:bo y z):bo x z:=by
 obtain ⟨q,a,rfl⟩:=h;obtain ⟨c,b,rfl⟩:=k;refine ⟨q+c,a++b,?_⟩;rw [<- Sort.grow_grow];show bA (bA ((x.drewN q).drewN c) a) b=_;rw [World.drewN_drewN]
theorem bo.below {w w':av} (h:bo w w'):Bw w w':=by
 obtain ⟨q,b,rfl⟩:=h;refine ⟨rfl,rfl,rfl,by simp [bA],λk a=>?_⟩;show (w.heap++b)[k]? =_;rw [Array.getElem?_append_left a]
end
section
open Go.RowKit
section
variable {P:Program} (w:av)
theorem bj (base:Nat) (t D e:bw) (i:TypeInfo) (z:ay) (size v:Nat) (s:P.underlying t=X (.slice e)) (G:P.info? e=X i) (hz:i.zero=X z)
 (a0:i.size=size) (M:i.bytes=v) (a2:z.cells.size=size) (H:0<size)
 (b n k:Nat) (E:List ay) (y:w.ownsRow base e size (a8 (X ⟨b,0,Y⟩) n k) n E)
 (R:Nat) (d:ay) (m:Nat) (f:List ay) (Q:aB 0 R w d m f) (o:f.length=m * size) (h1:∀u∈f,u.oneCell'=true)
 (K:n+m<=maxLen) (N:(n+m) * v<=140737488355328) (L:base<=w.heap.size):
 ∃q r w',(al #[t,t] D #[a8 (X ⟨b,0,Y⟩) n k,d]).run P w= .ok (a8 (X ⟨q,0,Y⟩) (n+m) r) w'/\w'.ownsRow base e size (a8 (X ⟨q,0,Y⟩) (n+m) r) (n+m) (E++f)/\w.grownBy w' (X b)/\
  (q=b∨q=w.heap.size):=by
 obtain ⟨a,c,rfl,h⟩:=Q;by_cases h0:m=0
 · subst h0;rw [bb] at o;have W:f=[]:=ad o;subst W;have a1:Src P i.size t (a8 a 0 c) 0 [] w:=by
    cases a with
    |none=>exact Src.ofNil w s c
    |some a=>exact Src.ofSlice w s a 0 c [] (by simp) (by simp) (by simp)
   have O:n+0<=k:=by
    rcases y.2 with ⟨p,_⟩|⟨g,cp,a3,p,_,_,x,_⟩
    · cases p
    · injection p with _ _ p;subst p;simpa using x
   have A:=run_append_room_src (P:=P) w t t D e i s G b 0 n k (a8 a 0 c) 0 [] a1 O (by simp) (by simp);refine ⟨b,k,w,?_,by simpa using y,⟨rfl,rfl,rfl,ax _,λ_ _ _=>rfl⟩, .inl rfl⟩;rw [A];rfl
 · have V:f≠[]:=λe=>by rw [e] at o;have:0<m * size:=Nat.mul_pos (by omega) H;simp at o;omega
   obtain ⟨C,B,rfl,_,_,x⟩:=h V
   obtain ⟨v',w',A,F,I,_,l⟩:=run_append_own_at (P:=P) w base t D e i z size v s G hz a0 M a2 H (a8 (X ⟨b,0,Y⟩) n k) n E y ⟨C,B,Y⟩ m c f o
    (λj u T=>by
     have:(⟨C,B,Y⟩:Addr).add j=⟨C,B+j,Y⟩:=by unfold bT;split<;>simp_all
     rw [this];exact x j u T) h1 K N L
   obtain ⟨g,r,rfl,_⟩:=bp F (by omega);refine ⟨g,r,w',A,F,I,?_⟩;rcases l with l|l
   · left;simpa [ao] using l
   · right;simpa [ao] using l
theorem aF {q:Array Oper} {r:List Oper} {o:Oper} {a:Act} {Q:Exit->Act->av->Prop} (H:o.guard=Y) (s x:Operand) (t:bw)
 (M:o.op= .call {callee:= .builtin .append,args:= #[s,x],argTypes:= #[t,t]})
 (base:Nat) (e:bw) (i:TypeInfo) (z:ay) (size j:Nat) (W:P.underlying t=X (.slice e)) (I:P.info? e=X i) (hz:i.zero=X z)
 (T:i.size=size) (E:i.bytes=j) (a0:z.cells.size=size) (V:0<size)
 (b n k:Nat) (l:List ay) (R:a.eval s=a8 (X ⟨b,0,Y⟩) n k) (N:w.ownsRow base e size (a8 (X ⟨b,0,Y⟩) n k) n l)
 (p:Nat) (d:ay) (m:Nat) (f:List ay) (hx:a.eval x=d) (G:aB 0 p w d m f) (L:f.length=m * size) (h1:∀u∈f,u.oneCell'=true)
 (B:n+m<=maxLen) (F:(n+m) * j<=140737488355328) (D:base<=w.heap.size)
 (h:∀c g w',w'.ownsRow base e size (a8 (X ⟨c,0,Y⟩) (n+m) g) (n+m) (l++f)->w.grownBy w' (X b)->(c=b∨c=w.heap.size)->wpList P q Q r (a.put o.dst (a8 (X ⟨c,0,Y⟩) (n+m) g)) w'):
 wpList P q Q (o::r) a w:=by
 refine wpList_plain H λK C=>?_;obtain ⟨c,g,w',O,v,y,A⟩:=bj (P:=P) w base t o.type e i z size j W I hz T E a0 V b n k l N p d m f G L h1 B F D;unfold Oper.wp execOp;simp only [M,resolve,invoke,builtin,bO,bD,aS,bc,bt,bB,R,hx,O];exact C _ _ (h c g w' v y A)
end
theorem aP {w:av} {B e k n:Nat} {v:ay} {c:List ay} (h:w.ownsRow B e k v n c):aB B w.heap.size w v n c:=by
 rcases h.2 with ⟨rfl,a⟩|⟨g,m,o,rfl,f,p,q⟩
 · refine ⟨Y,0,by rw [a],λl=>absurd (ad (by rw [h.1,a,bb])) l⟩
 · have i:=h.lt g (by simp [ao]);refine ⟨_,_,rfl,λ_=>⟨g,0,rfl,f,i.2,λj x b=>?_⟩⟩;have d:=h.cellAt j (by have:=(List.getElem?_eq_some_iff.1 b).1;rw [h.1] at this;exact this);rw [Nat.zero_add,d];exact b
theorem dj {w:av} {B e k:Nat} {D:Nat} (b:w.heap[D]? =X (a9 #[] e (0,0))) (a:B<=D):w.ownsRow B e k (a8 (X ⟨D,0,Y⟩) 0 0) 0 []:=
 ⟨by simp, .inr ⟨D,0, #[],rfl,a,b,ax _,by unfold maxLen;omega,by simp,by simp⟩⟩
end
section
open Go.RowKit Go.Maps
theorem CF {w:av} {p:Array Oper} {q:List Oper} {o:Oper} {a:Act} {Q:Exit->Act->av->Prop} {s x:Operand} {t e:bw} {base size g n m c:Nat} {z v:ay} {l:List ay} {k:Addr} (f:List ay)
 (M:w.ownsRow base e size v n l) (K:∀j u,f[j]? =X u->w.cell? (k.add j)=X u) (R:prog.underlying t=X (.slice e)) (d:(prog.info? e).map (λi=>(i.zero,i.size,i.bytes))=X (X z,size,g)) (E:base<=w.heap.size)
 (h:∀b w',w'.ownsRow base e size b (n+m) (l++f)->w.grownBy w' v.ownBlock->(b.ownBlock=v.ownBlock∨b.ownBlock=X w.heap.size)->wpList prog p Q q (a.put o.dst b) w')
 (G:o.guard=Y:=by rfl) (L:o.op= .call {callee:= .builtin .append,args:= #[s,x],argTypes:= #[t,t]}:=by rfl) (N:a.eval s=v:=by rfl) (T:a.eval x=a8 (X k) m c:=by rfl) (H:f.length=m * size:=by rfl)
 (h1:∀u∈f,u.oneCell'=true:=by simp [Value.oneCell']) (V:z.cells.size=size:=by rfl) (O:0<size:=by decide) (F:g<=1000:=by decide) (I:n+m<=1000000:=by omega):wpList prog p Q (o::q) a w:=by
 cases hi:prog.info? e with
 |none=>rw [hi] at d;cases d
 |some i=> rw [hi] at d;simp only [aT,aC,bs] at d;obtain ⟨B,C,D⟩:=d;have:(n+m) * g<=1000000 * 1000:=Nat.mul_le_mul I F;exact wpList_append_own_at w G s x t L base e i z size g R hi B C D V O v n l N M k m c f T H K h1 (by unfold maxLen;omega) (by omega) E λb w' r y _ A=>h b w' r y A
theorem xM (w:av) (a:List ay) (t:bw):∀j u,a[j]? =X u->(w.alloc (a9 a.toArray t)).cell? ((⟨w.heap.size,0,Y⟩:Addr).add j)=X u:=by
 intro j u b;have:(⟨w.heap.size,0,Y⟩:Addr).add j=⟨w.heap.size,j,Y⟩:=by unfold bT;split<;>simp_all
 rw [this,World.cell?_alloc_new];simpa using b
theorem CE {w w':av} {b:Array Oper} {c:List Oper} {o:Oper} {a:Act} {Q:Exit->Act->av->Prop} {s x:Operand} {t:bw} {d e v:ay} (j:(al #[t,t] o.type #[d,e]).run prog w= .ok v w')
 (h:wpList prog b Q c (a.put o.dst v) w') (g:o.guard=Y:=by rfl) (i:o.op= .call {callee:= .builtin .append,args:= #[s,x],argTypes:= #[t,t]}:=by rfl) (k:a.eval s=d:=by rfl) (l:a.eval x=e:=by rfl):wpList prog b Q (o::c) a w:=by
 refine wpList_plain g λK f=>?_;unfold Oper.wp execOp;simp only [i,resolve,invoke,builtin,bO,bD,aS,bc,bt,bB,k,l,j];exact f _ _ h
theorem CZ {w w':av} {o:Oper} {a:Act} {K:Act->av->Prop} {Q:Exit->Act->av->Prop} {s x:Operand} {t b:bw} {c d v:ay} (f:(al #[t,t] b #[c,d]).run prog w= .ok v w')
 (h:K (a.put o.dst v) w') (i:o.type=b:=by rfl) (e:o.op= .call {callee:= .builtin .append,args:= #[s,x],argTypes:= #[t,t]}:=by rfl) (g:a.eval s=c:=by rfl) (j:a.eval x=d:=by rfl):o.wp prog a w K Q:=by
 unfold Oper.wp execOp;simp only [e,i,resolve,invoke,builtin,bO,bD,aS,bc,bt,bB,g,j,f];exact h
theorem zO {t e:bw} {size m:Nat} {z:ay} (o:prog.underlying t=X (.slice e)) (l:(prog.info? e).map (λi=>(i.zero,i.size,i.bytes))=X (X z,size,m)) (W:av) (D n:Nat) (d:ay) (cs:List ay)
 (v:W.heap[D]? =X (a9 #[] e (0,0))) (G:aB 0 W.heap.size W d n cs) (q:cs.length=n * size) (x:n<=1000000) (h1:∀u∈cs,u.oneCell'=true) (O:z.cells.size=size:=by rfl) (M:0<size:=by decide) (E:m<=1000:=by decide):
 ∃(a:Addr) (c:Nat) (f:av),(al #[t,t] t #[a8 (X ⟨D,0,Y⟩) 0 0,d]).run prog W= .ok (a8 (X a) n c) f/\f.ownsRow D e size (a8 (X a) n c) n cs/\W.grownBy f (X D)/\(a.block=D∨a.block=W.heap.size):=by
 cases hi:prog.info? e with
 |none=>rw [hi] at l;cases l
 |some i=>
  rw [hi] at l;simp only [aT,aC,bs] at l;obtain ⟨N,K,C⟩:=l;subst K;have Q:D<W.heap.size:=(Array.getElem?_eq_some_iff.1 v).1;have y:W.ownsRow D e i.size (a8 (X ⟨D,0,Y⟩) 0 0) 0 []:=⟨by simp, .inr ⟨D,0, #[],rfl,ax _,v,ax _,by unfold maxLen;omega,by simp,by simp⟩⟩;obtain ⟨a,c,rfl,h⟩:=G;by_cases h0:cs=[]
  · subst h0;have I:n=0:=by
     rcases Nat.mul_eq_zero.1 (show n * i.size=0 by rw [<- q];rfl) with h|h
     · exact h
     · omega
    subst I;have L:Src prog i.size t (a8 a 0 c) 0 [] W:=by
     cases a with
     |none=>exact Src.ofNil W o c
     |some a=>exact Src.ofSlice W o a 0 c [] (by simp) (by simp) (by simp)
    have r:=run_append_room_src (P:=prog) W t t t e i o hi D 0 0 0 (a8 a 0 c) 0 [] L (by omega) (by simp) (by simp);exact ⟨_,_,_,r,y,⟨rfl,rfl,rfl,ax _,λ_ _ _=>rfl⟩, .inl rfl⟩
  · obtain ⟨b,s,rfl,_,_,F⟩:=h h0;have R:(0+n) * m<=1000000 * 1000:=Nat.mul_le_mul (by omega) E
    obtain ⟨T,f,r,p,B,_,k⟩:=run_append_own_at (P:=prog) W D t t e i z i.size m o hi N rfl C O M (a8 (X ⟨D,0,Y⟩) 0 0) 0 [] y ⟨b,s,Y⟩ n c cs q
     (λj u H=>by
      have:(⟨b,s,Y⟩:Addr).add j=⟨b,s+j,Y⟩:=by unfold bT;split<;>simp_all
      rw [this];exact F j u H) h1 (by unfold maxLen;omega) (by omega) (by omega)
    rw [Nat.zero_add,List.nil_append] at p;have x:0<n:=Nat.pos_of_ne_zero λe=>h0 (ad (by rw [q,e,bb]));obtain ⟨g,A,rfl,_⟩:=bp p x;refine ⟨⟨g,0,Y⟩,A,f,r,p,B,?_⟩;rcases k with k|k
    · left;simpa [ao] using k
    · right;simpa [ao] using k
theorem BA {t e:bw} {size:Nat} {W:av} {B k n b g:Nat} {x z:ay} {L:Nat} {ys zs:List ay} (f:prog.underlying t=X (.slice e)) (m:(prog.info? e).map (λi=>(i.zero,i.size,i.bytes))=X (X z,size,L))
 (v:W.ownsRow B e size (a8 (X ⟨g,0,Y⟩) n b) n (ys++zs)) (hk:k<n) (l:ys.length=k * size)
 (K:x=a8 (X ⟨g,(k+1) * size,Y⟩) (n - (k+1)) (b - (k+1))∨(n - (k+1)=0/\∃a c,x=a8 a 0 c)) (h1:∀u∈ys++zs,u.oneCell'=true):
 ∃r,(al #[t,t] t #[a8 (X ⟨g,0,Y⟩) k b,x]).run prog W= .ok (a8 (X ⟨g,0,Y⟩) (n - 1) b) r/\r.ownsRow B e size (a8 (X ⟨g,0,Y⟩) (n - 1) b) (n - 1) (ys++zs.drop size)/\W.grownBy r (X g):=by
 cases hi:prog.info? e with
 |none=>rw [hi] at m;cases m
 |some i=>
  rw [hi] at m;simp only [aT,aC,bs] at m;obtain ⟨_,V,_⟩:=m;subst V;have O:=v.1;rw [au,l] at O;have a5:n * i.size=k * i.size+(i.size+(n - (k+1)) * i.size):=by
   have:n=k+(1+(n - (k+1))):=by omega
   conv=>lhs;rw [this,Nat.add_mul,Nat.add_mul,Nat.one_mul]
  have d:(zs.drop i.size).length=(n - (k+1)) * i.size:=by rw [bk];omega
  rcases v.2 with ⟨_,h0⟩|⟨g',a2,o,hv,D,s,Q,E,F,a1⟩
  · omega
  · injection hv with hv1 hv2 hv3
    injection hv1 with hv1
    injection hv1 with hv1
    subst hv1;subst hv3;have A:=Z E;clear E;have a3:n * i.size<=b * i.size:=Nat.mul_le_mul_right _ Q;have I:o.toList.take (k * i.size)=ys:=by have C:=congrArg (List.take (k * i.size)) a1;rw [List.take_take,Nat.min_eq_left (by omega), <- l,List.take_left,l] at C;exact C
    have H:(n - 1) * i.size=k * i.size+(n - (k+1)) * i.size:=by rw [<- Nat.add_mul,show k+(n - (k+1))=n - 1 by omega]
    by_cases hm:n - (k+1)=0
    · have R:zs.drop i.size=[]:=ad (by rw [d,hm,bb]);have y:∃a c,x=a8 a 0 c:=by
       rcases K with h|⟨_,h⟩
       · exact ⟨_,_,by rw [h,hm]⟩
       · exact h
      obtain ⟨a,c,rfl⟩:=y;have a0:Src prog i.size t (a8 a 0 c) 0 [] W:=by
       cases a with
       |none=>exact Src.ofNil W f c
       |some a=>exact Src.ofSlice W f a 0 c [] (by simp) (by simp) (by simp)
      have p:=run_append_room_src (P:=prog) W t t t e i f hi g 0 k b (a8 a 0 c) 0 [] a0 (by omega) (by simp) (by simp);rw [show n - 1=k+0 by omega,R,List.append_nil];refine ⟨W,p,⟨by rw [Nat.add_zero];exact l, .inr ⟨g,b,o,rfl,D,s,by omega,A.o,F,by rw [Nat.add_zero];exact I⟩⟩,⟨rfl,rfl,rfl,ax _,λ_ _ _=>rfl⟩⟩
    · have y:x=a8 (X ⟨g,(k+1) * i.size,Y⟩) (n - (k+1)) (b - (k+1)):=by
       rcases K with h|⟨h,_⟩
       · exact h
       · exact absurd h hm
      subst y
      have p:=run_append_room (P:=prog) W t t e i f hi g k b o s ⟨g,(k+1) * i.size,Y⟩ (n - (k+1)) (b - (k+1)) (zs.drop i.size) d
       (λj u G=>by
        have M:(⟨g,(k+1) * i.size,Y⟩:Addr).add j=⟨g,(k+1) * i.size+j,Y⟩:=by unfold bT;split<;>simp_all
        have N:=(List.getElem?_eq_some_iff.1 G).1
        rw [d] at N
        have a4:(k+1) * i.size=k * i.size+i.size:=by rw [Nat.add_mul,Nat.one_mul]
        rw [M,v.cellAt _ (by omega),List.getElem?_append_right (by omega), <- G,List.getElem?_drop,show (k+1) * i.size+j - ys.length=i.size+j by omega])
       (λu f=>h1 u (List.mem_append_right _ (List.mem_of_mem_drop f))) (by omega) (by rw [d,F];omega)
      rw [show k+(n - (k+1))=n - 1 by omega] at p;refine ⟨_,p,⟨by rw [au,l,d,H], .inr ⟨g,b,_,rfl,D,setRow_heap W g o _ e _ s,by omega,A.o,?_,?_⟩⟩,⟨rfl,rfl,rfl,by simp,λq _ T=>setRow_other W g q _ (λe=>T (by rw [e]))⟩⟩
      · simp only [List.size_toArray,au,List.length_take,bk,Array.length_toList];have:=d;rw [bk] at this;omega
      · rw [I];exact List.take_left' (by rw [au,l,d,H])
end
end Go.Proofs.YtjcimanddakkaaaGreatDoor
