/- Lemmas. -/
import Derived.Test.YtjcimanddakkaaaGreatDoorCT4
import Derived.Deep.AppendSrc
import Derived.Deep.AppendLies
import Derived.Sort.Grow
set_option maxRecDepth 100000
set_option maxHeartbeats 8000000
namespace Go.Proofs.YtjcimanddakkaaaGreatDoor
open _root_.Option renaming some→X,none→Y
open Go.Value renaming slice→a5,bool→a8
open Go.Obj renaming cells→a6
open Go.Ending renaming returned→a7
open Tryz
open Go renaming World→aa,Value→ao
open _root_.List renaming eq_nil_of_length_eq_zero→ad
open Go.Value renaming ownBlock→al
open Go.Sort renaming grow→au
open Go.Result renaming andThen_ok→av
open Go.Builtin renaming append_→ax
section
open Go.RowKit Go.Maps
theorem uY{w:aa}{p:Array Oper}{q:List Oper}{o:Oper}{a:Act}{Q:Exit->Act->aa->Prop}{s x:Operand}{t e:TypeId}{base size g n m c:Nat}{z v:ao}{l:List ao}{k:Addr}(f:List ao)
 (M:w.ownsRow base e size v n l)(K:∀j u,f[j]?=X u->w.cell? (k.add j)=X u)(R:prog.underlying t=X (.slice e))(d:(prog.info? e).map (λi=>(i.zero,i.size,i.bytes))=X (X z,size,g))(F:base<=w)
 (h:∀b w',w'.ownsRow base e size b (n+m) (l++f)->w.grownBy w' v.ownBlock->(b.ownBlock=v.ownBlock∨b.ownBlock=X w.heap.size)->wpList prog p Q q (a.put o.dst b) w')
 (H:o.guard=Y:=by rfl)(L:o.op=.call {callee:=.builtin .append,args:= #[s,x],argTypes:= #[t,t]}:=by rfl)(N:a.eval s=v:=by rfl)(T:a.eval x=a5 (X k) m c:=by rfl)(I:f=m*size:=by rfl)
 (C:∀u∈f,u.oneCell'=true:=by simp[Value.oneCell'])(V:z.cells.size=size:=by rfl)(O:0<size:=by decide)(G:g<=1000:=by decide)(hn:n+m<=1000000:=by omega):wpList prog p Q (o::q) a w:=by
 cases hi:prog.info? e with
 |none=>rw[hi]at d;cases d
 |some i=> rw[hi]at d;simp only[Option.map_some,Option.some.injEq,Prod.mk.injEq]at d;obtain⟨B,D,E⟩:=d;have:(n+m)*g<=1000000*1000:=Nat.mul_le_mul hn G;exact wpList_append_own_at w H s x t L base e i z size g R hi B D E V O v n l N M k m c f T I K C (by unfold maxLen;omega) (by omega) F λb w' r y _ A=>h b w' r y A
theorem fT(w:aa)(a:List ao)(t:TypeId):∀j u,a[j]?=X u->(w.alloc (a6 a.toArray t)).cell? ((w:Addr).add j)=X u:=by
 intro j u b;have:(w:Addr).add j=⟨w,j,Y⟩:=by unfold Addr.add;split<;>simp_all
 rw[this,World.cell?_alloc_new];simpa using b
theorem Dm{w w':aa}{o:Oper}{a:Act}{K:Act->aa->Prop}{Q:Exit->Act->aa->Prop}{s x:Operand}{t b:TypeId}{c d v:ao}(f:(ax #[t,t] b #[c,d]).run prog w=.ok v w')
 (h:K (a.put o.dst v) w')(i:o.type=b:=by rfl)(e:o.op=.call {callee:=.builtin .append,args:= #[s,x],argTypes:= #[t,t]}:=by rfl)(g:a.eval s=c:=by rfl)(j:a.eval x=d:=by rfl):o.wp prog a w K Q:=by
 unfold Oper.wp execOp;simp only[e,i,resolve,invoke,builtin,Sem.run_bind,Sem.run_pure,av,List.map_toArray,List.map_cons,List.map_nil,g,j,f];exact h
end
section
open Go.RowKit
section
variable {P:Program} (w:aa)
theorem bz(base:Nat)(t D e:TypeId)(i:TypeInfo)(z:ao)(size v:Nat)(s:P.underlying t=X (.slice e))(G:P.info? e=X i)(hz:i.zero=X z)
 (a1:i.size=size)(N:i.bytes=v)(a3:z.cells.size=size)(H:0<size)
 (b n k:Nat)(E:List ao)(y:w.ownsRow base e size (a5 b n k) n E)
 (T:Nat)(d:ao)(m:Nat)(f:List ao)(R:aL 0 T w d m f)(o:f=m*size)(I:∀u∈f,u.oneCell'=true)
 (L:n+m<=maxLen)(O:(n+m)*v<=140737488355328)(M:base<=w):
 ∃q r w',(ax #[t,t] D #[a5 b n k,d]).run P w=.ok (a5 (X ⟨q,0,Y⟩) (n+m) r) w'/\w'.ownsRow base e size (a5 (X ⟨q,0,Y⟩) (n+m) r) (n+m) (E++f)/\w.grownBy w' (X b)/\
  (q=b∨q=w):=by
 obtain⟨a,c,rfl,h⟩:=R;by_cases h0:m=0
 .subst h0;rw[Nat.zero_mul]at o;have a0:f=[]:=ad o;subst a0;have a2:Src P i.size t (a5 a 0 c) 0 [] w:=by
   cases a with
   |none=>exact Src.ofNil w s c
   |some a=>exact Src.ofSlice w s a 0 c [] (by simp) (by simp) (by simp)
  have Q:n+0<=k:=by
   rcases y.2 with⟨p,_⟩|⟨g,cp,a4,p,_,_,x,_⟩
   .cases p
   injection p with _ _ p;subst p;simpa using x
  have A:=run_append_room_src (P:=P) w t t D e i s G b 0 n k (a5 a 0 c) 0 [] a2 Q (by simp) (by simp);refine⟨b,k,w,?_,by simpa using y,⟨rfl,rfl,rfl,Nat.le_refl _,λ_ _ _=>rfl⟩,.inl rfl⟩;rw[A];rfl
 have W:f≠[]:=λe=>by rw[e]at o;have:0<m*size:=Nat.mul_pos (by omega) H;simp at o;omega
 obtain⟨C,B,rfl,_,_,x⟩:=h W
 obtain⟨v',w',A,F,K,_,l⟩:=run_append_own_at (P:=P) w base t D e i z size v s G hz a1 N a3 H (a5 b n k) n E y ⟨C,B,Y⟩ m c f o
  (λj u V=>by
   have:(⟨C,B,Y⟩:Addr).add j=⟨C,B+j,Y⟩:=by unfold Addr.add;split<;>simp_all
   rw[this];exact x j u V) I L O M
 obtain⟨g,r,rfl,_⟩:=World.ownsRow.form F (by omega);refine⟨g,r,w',A,F,K,?_⟩;rcases l with l|l
 .left;simpa[al]using l
 right;simpa[al]using l
theorem aJ{q:Array Oper}{r:List Oper}{o:Oper}{a:Act}{Q:Exit->Act->aa->Prop}(I:o.guard=Y)(s x:Operand)(t:TypeId)
 (N:o.op=.call {callee:=.builtin .append,args:= #[s,x],argTypes:= #[t,t]})
 (base:Nat)(e:TypeId)(i:TypeInfo)(z:ao)(size j:Nat)(ht:P.underlying t=X (.slice e))(L:P.info? e=X i)(hz:i.zero=X z)
 (V:i.size=size)(F:i.bytes=j)(a0:z.cells.size=size)(W:0<size)
 (b n k:Nat)(l:List ao)(T:a.eval s=a5 (X ⟨b,0,Y⟩) n k)(O:w.ownsRow base e size (a5 (X ⟨b,0,Y⟩) n k) n l)
 (p:Nat)(d:ao)(m:Nat)(f:List ao)(hx:a.eval x=d)(H:aL 0 p w d m f)(M:f.length=m*size)(v:∀u∈f,u.oneCell'=true)
 (C:n+m<=maxLen)(G:(n+m)*j<=140737488355328)(E:base<=w.heap.size)
 (h:∀c g w',w'.ownsRow base e size (a5 (X ⟨c,0,Y⟩) (n+m) g) (n+m) (l++f)->w.grownBy w' (X b)->(c=b∨c=w.heap.size)->wpList P q Q r (a.put o.dst (a5 (X ⟨c,0,Y⟩) (n+m) g)) w'):
 wpList P q Q (o::r) a w:=by
 refine wpList_plain I λK D=>?_;obtain⟨c,g,w',R,y,A,B⟩:=bz (P:=P) w base t o.type e i z size j ht L hz V F a0 W b n k l O p d m f H M v C G E;unfold Oper.wp execOp;simp only[N,resolve,invoke,builtin,Sem.run_bind,Sem.run_pure,av,List.map_toArray,List.map_cons,List.map_nil,T,hx,R];exact D _ _ (h c g w' y A B)
end
theorem aM{w:aa}{B e k n:Nat}{v:ao}{c:List ao}(h:w.ownsRow B e k v n c):aL B w w v n c:=by
 rcases h.2 with⟨rfl,a⟩|⟨g,m,o,rfl,f,p,q⟩
 .refine⟨Y,0,by rw[a],λl=>absurd (ad (by rw[h.1,a,Nat.zero_mul])) l⟩
 have i:=h.lt g (by simp[al]);refine⟨_,_,rfl,λ_=>⟨g,0,rfl,f,i.2,λj x b=>?_⟩⟩;have d:=h.cellAt j (by have:=(List.getElem?_eq_some_iff.1 b).1;rw[h.1]at this;exact this);rw[Nat.zero_add,d];exact b
theorem dA{w:aa}{B e k:Nat}{D:Nat}(b:w.heap[D]?=X (a6 #[] e (0,0)))(a:B<=D):w.ownsRow B e k (a5 D 0 0) 0 []:=
 ⟨by simp,.inr ⟨D,0, #[],rfl,a,b,Nat.le_refl _,by unfold maxLen;omega,by simp,by simp⟩⟩
end
section
open Go.RowKit
def bF(w w':aa):Prop:=∃(q:Nat)(os:Array Obj),w'=au (w.drewN q) os
theorem bF.refl(w:aa):bF w w:=⟨0, #[],by rw[Sort.grow_empty];rfl⟩
theorem bF.alloc{w w':aa}(h:bF w w')(o:Obj):bF w (w'.alloc o):=by
 obtain⟨q,a,rfl⟩:=h;exact⟨q,a++ #[o],by rw[Sort.alloc_eq_grow,Sort.grow_grow]⟩
theorem bF.drew{w w':aa}(h:bF w w'):bF w w'.drew:=by
 obtain⟨q,a,rfl⟩:=h;exact⟨q+1,a,rfl⟩
theorem bF.trans{x y z:aa}(h:bF x y)(k:bF y z):bF x z:=by
 obtain⟨q,a,rfl⟩:=h;obtain⟨c,b,rfl⟩:=k;refine⟨q+c,a++b,?_⟩;rw[<- Sort.grow_grow];show au (au ((x.drewN q).drewN c) a) b=_;rw[World.drewN_drewN]
theorem bF.below{w w':aa}(h:bF w w'):Bw w w':=by
 obtain⟨q,b,rfl⟩:=h;refine⟨rfl,rfl,rfl,by simp[au],λk a=>?_⟩;show(w.heap++b)[k]?=_;rw[Array.getElem?_append_left a]
end
section
open Go.RowKit Go.Maps Go.Shelf
def fC(a b:Int):Int:=if a<b then -1 else if b<a then 1 else 0
def bI(a b:RK):Int:=if fC a.1 b.1≠0 then fC a.1 b.1 else fC a.2 b.2
def oU(x y:PK):Int:=if bI x.1 y.1≠0 then bI x.1 y.1 else bI x.2 y.2
theorem sX{a b:Int}:fC a b<0↔a<b:=by
 unfold fC;split
 .simp[*]
 split<;>omega
theorem fS{a b:Int}:fC a b=0↔a=b:=by
 unfold fC;split
 .omega
 split<;>omega
theorem eZ(a b:RK):bI a b<0↔ltRK a b=true:=by
 rw[fM];unfold bI;by_cases h:fC a.1 b.1=0
 .rw[if_neg (by simpa using h),sX];rw[fS]at h;omega
 rw[if_pos h,sX];rw[fS]at h;omega
theorem mT(a b:RK):bI a b=0↔a=b:=by
 unfold bI;by_cases h:fC a.1 b.1=0
 .rw[if_neg (by simpa using h),fS];rw[fS]at h;rw[Prod.ext_iff];exact⟨λc=>⟨h,c⟩,λc=>c.2⟩
 rw[if_pos h];rw[fS]at*;exact⟨λc=>absurd c h,λc=>absurd (by rw[c]) h⟩
theorem xR(x y:PK):oU x y<0↔ltPK x y=true:=by
 unfold oU ltPK;by_cases h:bI x.1 y.1=0
 .rw[if_neg (by simpa using h),if_pos ((mT _ _).1 h),eZ]
 rw[if_pos h,if_neg (λa=>h ((mT _ _).2 a)),eZ]
theorem kw(a:Int)(w:aa):Calls prog 141 #[a] w λe w'=>e=a7 (a8 false)/\w=w':=by
 go_enter func141,ntmps141;go_wp2;go_ret;exact⟨am (by simp),rfl⟩
theorem jj(a b:Int)(w:aa):Calls prog 91 #[a,b] w λe w'=>e=a7 (fC a b)/\w=w':=by
 unfold fC;by_cases h:a<b
 .rw[if_pos h];go_enter func91,ntmps91;go_wp2_with (go_at_call 141;refine(kw _ _).mono ?_;rintro e w'⟨rfl,rfl⟩)
  go_ret;exact⟨rfl,rfl⟩
 rw[if_neg h];by_cases h2:b<a
 .rw[if_pos h2];go_enter func91,ntmps91;go_wp2_with (go_at_call 141;refine(kw _ _).mono ?_;rintro e w'⟨rfl,rfl⟩)
  go_ret;exact⟨rfl,rfl⟩
 rw[if_neg h2];go_enter func91,ntmps91;go_wp2_with (go_at_call 141;refine(kw _ _).mono ?_;rintro e w'⟨rfl,rfl⟩)
 go_ret;exact⟨rfl,rfl⟩
theorem gZ(t q:Bool)(a b:Int)(m:Nat)(w:aa):Calls prog 56 #[a8 t,a8 q,a,b,m] w λe w'=>e=a7 (bh t q a b m)/\w=w':=by
 have d:Hid (bh t q a b m=if t&&q then 22 else if t&&decide (b<=a)then 30 else if !t&&decide (5000<=m)then 2 else 0):=rfl;generalize bh t q a b m=R at*;cases t
 .by_cases h:5000<=m
  .have f:decide ((5000:Int)<=(m:Int))=true:=decide_eq_true (by omega);have c:Hid (R=2):=by unfold Hid;rw[d.o];simp[h]
   clear h;go_enter func56,ntmps56;go_wp2;go_ret;exact⟨aI c.symm,rfl⟩
  have f:decide ((5000:Int)<=(m:Int))=false:=decide_eq_false (by omega);have c:Hid (R=0):=by unfold Hid;rw[d.o];simp[h]
  clear h;go_enter func56,ntmps56;go_wp2;go_ret;exact⟨aI c.symm,rfl⟩
 cases q
 .by_cases h:b<=a
  .have c:Hid (R=30):=by unfold Hid;rw[d.o];simp[h]
   go_enter func56,ntmps56;go_wp2;go_ret;exact⟨aI c.symm,rfl⟩
  have c:Hid (R=0):=by unfold Hid;rw[d.o];simp[h]
  go_enter func56,ntmps56;go_wp2;go_ret;exact⟨aI c.symm,rfl⟩
 have c:Hid (R=22):=by unfold Hid;rw[d.o];simp
 go_enter func56,ntmps56;go_wp2;go_ret;exact⟨aI c.symm,rfl⟩
end
end Go.Proofs.YtjcimanddakkaaaGreatDoor
