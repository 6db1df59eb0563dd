/- Lemmas. -/
import Derived.Test.YtjcimanddakkaaaGreatDoorY1
import Derived.Sort.Grow
import Derived.Deep.AppendSrc
import Derived.Deep.AppendLies
set_option maxRecDepth 100000
set_option maxHeartbeats 8000000
namespace Go.Proofs.YtjcimanddakkaaaGreatDoor
open Go.Value renaming int→J,bool→a6,slice→a7
open Go.IntKind renaming i64→U
open Go.Ending renaming returned→a5
open _root_.Option renaming some→X,none→Y
open Go.Obj renaming cells→a8
open Tryz
open _root_.List renaming eq_nil_of_length_eq_zero→ad
open Go.Value renaming ownBlock→al
open Go renaming World→ao
open Go.Sort renaming grow→au
section
open Go.RowKit Go.Maps Go.Shelf
def eT (a b:Int):Int:=if a<b then -1 else if b<a then 1 else 0
def bp (a b:RK):Int:=if eT a.1 b.1≠0 then eT a.1 b.1 else eT a.2 b.2
def nv (x y:PK):Int:=if bp x.1 y.1≠0 then bp x.1 y.1 else bp x.2 y.2
theorem rm {a b:Int}:eT a b<0↔a<b:=by
 unfold eT;split
 · simp [*]
 · split<;>omega
theorem fj {a b:Int}:eT a b=0↔a=b:=by
 unfold eT;split
 · omega
 · split<;>omega
theorem eC (a b:RK):bp a b<0↔ltRK a b=true:=by
 rw [fd];unfold bp;by_cases h:eT a.1 b.1=0
 · rw [if_neg (by simpa using h),rm];rw [fj] at h;omega
 · rw [if_pos h,rm];rw [fj] at h;omega
theorem lO (a b:RK):bp a b=0↔a=b:=by
 unfold bp;by_cases h:eT a.1 b.1=0
 · rw [if_neg (by simpa using h),fj];rw [fj] at h;rw [Prod.ext_iff];exact ⟨λc=>⟨h,c⟩,λc=>c.2⟩
 · rw [if_pos h];rw [fj] at *;exact ⟨λc=>absurd c h,λc=>absurd (by rw [c]) h⟩
theorem vI (x y:PK):nv x y<0↔ltPK x y=true:=by
 unfold nv ltPK;by_cases h:bp x.1 y.1=0
 · rw [if_neg (by simpa using h),if_pos ((lO _ _).1 h),eC]
 · rw [if_pos h,if_neg (λa=>h ((lO _ _).2 a)),eC]
theorem jD (a:Int) (w:ao):Calls prog 141 #[J U a] w λe w'=>e=a5 (a6 false)/\w=w':=by
 go_enter func141,ntmps141;go_wp2;go_ret;exact ⟨ap (by simp),rfl⟩
theorem iz (a b:Int) (w:ao):Calls prog 91 #[J U a,J U b] w λe w'=>e=a5 (J U (eT a b))/\w=w':=by
 unfold eT;by_cases h:a<b
 · rw [if_pos h];go_enter func91,ntmps91;go_wp2_with (go_at_call 141;refine (jD _ _).mono ?_;rintro e w' ⟨rfl,rfl⟩)
   go_ret;exact ⟨rfl,rfl⟩
 · rw [if_neg h];by_cases h2:b<a
   · rw [if_pos h2];go_enter func91,ntmps91;go_wp2_with (go_at_call 141;refine (jD _ _).mono ?_;rintro e w' ⟨rfl,rfl⟩)
     go_ret;exact ⟨rfl,rfl⟩
   · rw [if_neg h2];go_enter func91,ntmps91;go_wp2_with (go_at_call 141;refine (jD _ _).mono ?_;rintro e w' ⟨rfl,rfl⟩)
     go_ret;exact ⟨rfl,rfl⟩
theorem gA (t q:Bool) (a b:Int) (m:Nat) (w:ao):Calls prog 56 #[a6 t,a6 q,J U a,J U b,J U m] w λe w'=>e=a5 (J U (aL t q a b m))/\w=w':=by
 have d:Hid (aL t q a b m=if t&&q then 22 else if t&&decide (b<=a) then 30 else if !t&&decide (5000<=m) then 2 else 0):=rfl;generalize aL t q a b m=R at *;cases t
 · by_cases h:5000<=m
   · have f:decide ((5000:Int)<=(m:Int))=true:=decide_eq_true (by omega);have c:Hid (R=2):=by unfold Hid;rw [d.o];simp [h]
     clear h;go_enter func56,ntmps56;go_wp2;go_ret;exact ⟨aH c.symm,rfl⟩
   · have f:decide ((5000:Int)<=(m:Int))=false:=decide_eq_false (by omega);have c:Hid (R=0):=by unfold Hid;rw [d.o];simp [h]
     clear h;go_enter func56,ntmps56;go_wp2;go_ret;exact ⟨aH c.symm,rfl⟩
 · cases q
   · by_cases h:b<=a
     · have c:Hid (R=30):=by unfold Hid;rw [d.o];simp [h]
       go_enter func56,ntmps56;go_wp2;go_ret;exact ⟨aH c.symm,rfl⟩
     · have c:Hid (R=0):=by unfold Hid;rw [d.o];simp [h]
       go_enter func56,ntmps56;go_wp2;go_ret;exact ⟨aH c.symm,rfl⟩
   · have c:Hid (R=22):=by unfold Hid;rw [d.o];simp
     go_enter func56,ntmps56;go_wp2;go_ret;exact ⟨aH c.symm,rfl⟩
end
section
open Go.RowKit
def bn (w w':ao):Prop:=∃(q:Nat) (os:Array Obj),w'=au (w.drewN q) os
theorem bn.refl (w:ao):bn w w:=⟨0, #[],by rw [Sort.grow_empty];rfl⟩
theorem bn.alloc {w w':ao} (h:bn w w') (o:Obj):bn w (w'.alloc o):=by
 obtain ⟨q,a,rfl⟩:=h;exact ⟨q,a++ #[o],by rw [Sort.alloc_eq_grow,Sort.grow_grow]⟩
theorem bn.drew {w w':ao} (h:bn w w'):bn w w'.drew:=by
 obtain ⟨q,a,rfl⟩:=h;exact ⟨q+1,a,rfl⟩
theorem bn.trans {x y z:ao} (h:bn x y) (k:bn y z):bn x z:=by
 obtain ⟨q,a,rfl⟩:=h;obtain ⟨c,b,rfl⟩:=k;refine ⟨q+c,a++b,?_⟩;rw [<- Sort.grow_grow];show au (au ((x.drewN q).drewN c) a) b=_;rw [World.drewN_drewN]
theorem bn.below {w w':ao} (h:bn w w'):Bw w w':=by
 obtain ⟨q,b,rfl⟩:=h;refine ⟨rfl,rfl,rfl,by simp [au],λk a=>?_⟩;show (w.heap++b)[k]? =_;rw [Array.getElem?_append_left a]
end
section
open Go.RowKit
section
variable {P:Program} (w:ao)
theorem bh (base:Nat) (t D e:TypeId) (i:TypeInfo) (z:Value) (size v:Nat) (s:P.underlying t=X (.slice e)) (G:P.info? e=X i) (hz:i.zero=X z)
 (a1:i.size=size) (N:i.bytes=v) (a3:z.cells.size=size) (H:0<size)
 (b n k:Nat) (E:List Value) (y:w.ownsRow base e size (a7 (X ⟨b,0,Y⟩) n k) n E)
 (T:Nat) (d:Value) (m:Nat) (f:List Value) (R:aF 0 T w d m f) (o:f.length=m * size) (I:∀u∈f,u.oneCell'=true)
 (L:n+m<=maxLen) (O:(n+m) * v<=140737488355328) (M:base<=w.heap.size):
 ∃q r w',(Builtin.append_ #[t,t] D #[a7 (X ⟨b,0,Y⟩) n k,d]).run P w= .ok (a7 (X ⟨q,0,Y⟩) (n+m) r) w'/\w'.ownsRow base e size (a7 (X ⟨q,0,Y⟩) (n+m) r) (n+m) (E++f)/\w.grownBy w' (X b)/\
  (q=b∨q=w.heap.size):=by
 obtain ⟨a,c,rfl,h⟩:=R;by_cases h0:m=0
 · subst h0;rw [Nat.zero_mul] at o;have a0:f=[]:=ad o;subst a0;have a2:Src P i.size t (a7 a 0 c) 0 [] w:=by
    cases a with
    |none=>exact Src.ofNil w s c
    |some a=>exact Src.ofSlice w s a 0 c [] (by simp) (by simp) (by simp)
   have Q:n+0<=k:=by
    rcases y.2 with ⟨p,_⟩|⟨g,cp,a4,p,_,_,x,_⟩
    · cases p
    · injection p with _ _ p;subst p;simpa using x
   have A:=run_append_room_src (P:=P) w t t D e i s G b 0 n k (a7 a 0 c) 0 [] a2 Q (by simp) (by simp);refine ⟨b,k,w,?_,by simpa using y,⟨rfl,rfl,rfl,Nat.le_refl _,λ_ _ _=>rfl⟩, .inl rfl⟩;rw [A];rfl
 · have W:f≠[]:=λe=>by rw [e] at o;have:0<m * size:=Nat.mul_pos (by omega) H;simp at o;omega
   obtain ⟨C,B,rfl,_,_,x⟩:=h W
   obtain ⟨v',w',A,F,K,_,l⟩:=run_append_own_at (P:=P) w base t D e i z size v s G hz a1 N a3 H (a7 (X ⟨b,0,Y⟩) n k) n E y ⟨C,B,Y⟩ m c f o
    (λj u V=>by
     have:(⟨C,B,Y⟩:Addr).add j=⟨C,B+j,Y⟩:=by unfold Addr.add;split<;>simp_all
     rw [this];exact x j u V) I L O M
   obtain ⟨g,r,rfl,_⟩:=World.ownsRow.form F (by omega);refine ⟨g,r,w',A,F,K,?_⟩;rcases l with l|l
   · left;simpa [al] using l
   · right;simpa [al] using l
theorem aB {q:Array Oper} {r:List Oper} {o:Oper} {a:Act} {Q:Exit->Act->ao->Prop} (I:o.guard=Y) (s x:Operand) (t:TypeId)
 (N:o.op= .call {callee:= .builtin .append,args:= #[s,x],argTypes:= #[t,t]})
 (base:Nat) (e:TypeId) (i:TypeInfo) (z:Value) (size j:Nat) (ht:P.underlying t=X (.slice e)) (L:P.info? e=X i) (hz:i.zero=X z)
 (V:i.size=size) (F:i.bytes=j) (a0:z.cells.size=size) (W:0<size)
 (b n k:Nat) (l:List Value) (T:a.eval s=a7 (X ⟨b,0,Y⟩) n k) (O:w.ownsRow base e size (a7 (X ⟨b,0,Y⟩) n k) n l)
 (p:Nat) (d:Value) (m:Nat) (f:List Value) (hx:a.eval x=d) (H:aF 0 p w d m f) (M:f.length=m * size) (v:∀u∈f,u.oneCell'=true)
 (C:n+m<=maxLen) (G:(n+m) * j<=140737488355328) (E:base<=w.heap.size)
 (h:∀c g w',w'.ownsRow base e size (a7 (X ⟨c,0,Y⟩) (n+m) g) (n+m) (l++f)->w.grownBy w' (X b)->(c=b∨c=w.heap.size)->wpList P q Q r (a.put o.dst (a7 (X ⟨c,0,Y⟩) (n+m) g)) w'):
 wpList P q Q (o::r) a w:=by
 refine wpList_plain I λK D=>?_;obtain ⟨c,g,w',R,y,A,B⟩:=bh (P:=P) w base t o.type e i z size j ht L hz V F a0 W b n k l O p d m f H M v C G E;unfold Oper.wp execOp;simp only [N,resolve,invoke,builtin,Sem.run_bind,Sem.run_pure,Result.andThen_ok,List.map_toArray,List.map_cons,List.map_nil,T,hx,R];exact D _ _ (h c g w' y A B)
end
theorem bf {w:ao} {B e k n:Nat} {v:Value} {c:List Value} (h:w.ownsRow B e k v n c):aF B w.heap.size w v n c:=by
 rcases h.2 with ⟨rfl,a⟩|⟨g,m,o,rfl,f,p,q⟩
 · refine ⟨Y,0,by rw [a],λl=>absurd (ad (by rw [h.1,a,Nat.zero_mul])) l⟩
 · have i:=h.lt g (by simp [al]);refine ⟨_,_,rfl,λ_=>⟨g,0,rfl,f,i.2,λj x b=>?_⟩⟩;have d:=h.cellAt j (by have:=(List.getElem?_eq_some_iff.1 b).1;rw [h.1] at this;exact this);rw [Nat.zero_add,d];exact b
theorem df {w:ao} {B e k:Nat} {D:Nat} (b:w.heap[D]? =X (a8 #[] e (0,0))) (a:B<=D):w.ownsRow B e k (a7 (X ⟨D,0,Y⟩) 0 0) 0 []:=
 ⟨by simp, .inr ⟨D,0, #[],rfl,a,b,Nat.le_refl _,by unfold maxLen;omega,by simp,by simp⟩⟩
end
end Go.Proofs.YtjcimanddakkaaaGreatDoor
