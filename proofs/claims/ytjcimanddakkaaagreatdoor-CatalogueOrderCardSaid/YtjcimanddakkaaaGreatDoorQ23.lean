/- Lemmas. -/
import Derived.Test.YtjcimanddakkaaaGreatDoorQ14
import Derived.Test.YtjcimanddakkaaaGreatDoorQ19
import Derived.Test.YtjcimanddakkaaaGreatDoorQ22
set_option maxRecDepth 100000
set_option maxHeartbeats 8000000
namespace Go.Proofs.YtjcimanddakkaaaGreatDoor
open Go.Value renaming bool→fn,map→fs,slice→h2,int→J
open _root_.Option renaming some→X,none→Y
open Go.IntKind renaming i64→U,u8→hg
open Go.Obj renaming cells→hi
open Go.Ending renaming returned→ih
open Go.Lib renaming hid→Z
open Tryz
open _root_.Nat renaming le_refl→ka,le_trans→kc,lt_of_lt_of_le→lk,zero_le→lB,mul_le_mul→lQ
open _root_.List renaming length_map→kb,getD_eq_getElem?_getD→kd,mem_singleton→kk,replicate→kl,getElem?_eq_getElem→kq,mem_append→ks,length_append→kt,getElem_set_self→k9,getElem_mem→lb,range→lf,take_succ_eq_append_getElem→lm,pairwise_map→lp,nodup_append→ls,getElem?_map→lv,take_of_length_le→lT,getElem?_eq_none→l2,length_flatMap→l3
open Go renaming Value→ko,World→la
open Go.RowKit.Below renaming refl→kv
open Go.Obj renaming cells→lc,noConfusion→lx
open Go.World.ownsRow renaming form→ld
open Go.Value renaming bool→lE
open Go.Calls renaming mono→lP
open Go.World renaming alloc_heap_new→l1,ownsRow_nil→l4
section
open Go.RowKit Go.Maps Go.Shelf
def hU (l:List az) (q:Nat) (a:List Bs) (s:Bs) (i:Nat):Prop:=i<q/\s∈rawR (l.getD i rec0).fields∨i=q/\s∈a
theorem km (l:List az) (p:Nat×Nat):cameR l 0 [] p=false:=by unfold cameR;simp
theorem xP {l:List az} {q:Nat} {c:List Bs} {s:Bs} (e:s∉c) (p:Nat×Nat):cameR l q (c++[s]) p=true↔cameR l q c p=true∨p.2=q/\hU l q c s p.1:=by
 unfold cameR hU;simp only [Bool.and_eq_true,Bool.or_eq_true,decide_eq_true_eq,List.any_append,List.any_cons,List.any_nil,Bool.or_false,List.contains_iff_mem];constructor
 · rintro ⟨h1,⟨a,b⟩|⟨a,b|b⟩⟩
   · exact .inl ⟨h1, .inl ⟨a,b⟩⟩
   · exact .inl ⟨h1, .inr ⟨a,b⟩⟩
   · exact .inr ⟨a, .inl ⟨by omega,b⟩⟩
 · rintro (⟨h1,a|⟨a,b⟩⟩|⟨a,⟨b,d⟩|⟨_,d⟩⟩)
   · exact ⟨h1, .inl a⟩
   · exact ⟨h1, .inr ⟨a, .inl b⟩⟩
   · exact ⟨by omega, .inr ⟨a, .inr d⟩⟩
   · exact absurd d e
theorem oI (l:List az) (q:Nat) (p:Nat×Nat):cameR l (q+1) [] p=true↔cameR l q (keysR (l.getD q rec0).fields) p=true:=by
 unfold cameR;have d:=(iu (l.getD q rec0).fields).2;simp only [Bool.and_eq_true,Bool.or_eq_true,decide_eq_true_eq,List.any_nil,Bool.false_eq_true,and_false,or_false,List.any_eq_true,List.contains_iff_mem];constructor
 · rintro ⟨h1,g,x,b,a⟩;by_cases e:p.2<q
   · exact ⟨h1, .inl ⟨e,x,b,a⟩⟩
   · have c:p.2=q:=by omega
     rw [c] at a;exact ⟨h1, .inr ⟨c,x,(d x).2 a,b⟩⟩
 · rintro ⟨h1,⟨e,x,b,a⟩|⟨e,x,b,a⟩⟩
   · exact ⟨h1,by omega,x,b,a⟩
   · refine ⟨h1,by omega,x,a,?_⟩;rw [e];exact (d x).1 b
theorem zm (l:List az) (q:Nat) (s:Bs) (i:Nat):hU l (q+1) [] s i↔hU l q (keysR (l.getD q rec0).fields) s i:=by
 unfold hU;have b:=(iu (l.getD q rec0).fields).2;simp only [List.not_mem_nil,and_false,or_false];constructor
 · rintro ⟨h1,a⟩;by_cases e:i<q
   · exact .inl ⟨e,a⟩
   · have c:i=q:=by omega
     subst c;exact .inr ⟨rfl,(b s).2 a⟩
 · rintro (⟨h1,a⟩|⟨rfl,a⟩)
   · exact ⟨by omega,a⟩
   · exact ⟨by omega,(b s).1 a⟩
theorem zl (l:List az) (q:Nat) (b:List Bs) (s t:Bs) (i:Nat):hU l q (b++[s]) t i↔hU l q b t i∨t=s/\i=q:=by
 unfold hU;simp only [ks,kk];constructor
 · rintro (h|⟨h1,a|a⟩)
   · exact .inl (.inl h)
   · exact .inl (.inr ⟨h1,a⟩)
   · exact .inr ⟨a,h1⟩
 · rintro ((h|⟨h1,a⟩)|⟨h1,a⟩)
   · exact .inl h
   · exact .inr ⟨h1, .inl a⟩
   · exact .inr ⟨a, .inr h1⟩
theorem wK {K:Type} [DecidableEq K] (l:List K) (k:K):∃a:List K,putL (l.map λs=>(s,lE true)) k (fn true)=a.map (λs=>(s,lE true))/\(∀s,s∈a↔s∈l∨s=k)/\a.length<=l.length+1:=by
 refine ⟨l.filter (λs=> !decide (s=k))++[k],?_,λs=>?_,by have:=List.length_filter_le (λs=> !decide (s=k)) l;simp;omega⟩
 · unfold putL cn;rw [List.filter_map,List.map_append];rfl
 · simp only [ks,List.mem_filter,kk,Bool.not_eq_true',decide_eq_false_iff_not];constructor
   · rintro (⟨h,_⟩|h)
     · exact .inl h
     · exact .inr h
   · rintro (h|h)
     · by_cases e:s=k
       · exact .inr e
       · exact .inl ⟨h,e⟩
     · exact .inr h
theorem xU {P:Program} {e:TypeId} {K:Type} [DecidableEq K] {B:ez P e K} {w:la} {b:Nat} {l:List K} (h:ak B w b (l.map λs=>(s,fn true))) (k:K):∃z:Bool,(z=true↔k∈l)/\(lookL (l.map λs=>(s,lE true)) k).getD (fn false)=fn z:=by
 by_cases hm:k∈l
 · exact ⟨true,⟨λ_=>hm,λ_=>rfl⟩,by rw [(bl h.nodup).2 (List.mem_map.2 ⟨k,hm,rfl⟩)];rfl⟩
 · exact ⟨false,⟨λh=>(by cases h),λh=>absurd h hm⟩,by
    rw [ir.2 (λv d=>by
     obtain ⟨s,c,a⟩:=List.mem_map.1 d;injection a with h1 _
     exact hm (h1 ▸ c))]
    rfl⟩
theorem Dg:(prog.info? 208).map (λi=>(i.zero,i.size,i.bytes))=X (X (.agg #[fs Y, .string ⟨#[]⟩,h2 Y 0 0,J U 0,J hg 0]),5,64):=by kernel_rfl
theorem i67:(prog.info? 67).map (λi=>(i.zero,i.size,i.bytes))=X (X (.agg #[J U 0,J U 0]),2,16):=by kernel_rfl
theorem i3:(prog.info? 3).map (λi=>(i.zero,i.size,i.bytes))=X (X (J U 0),1,8):=by kernel_rfl
structure FT where
 a:Option Nat
 b:Bs
 c:Option Addr
 c1:Nat
 c2:Nat
 d:Int
 e:UInt8
def ftCells (t:FT):List ko:=[.map t.a,S t.b,h2 t.c t.c1 t.c2,J U t.d,J hg t.e.toNat]
def ftV (t:FT):ko:= .agg #[.map t.a,S t.b,h2 t.c t.c1 t.c2,J U t.d,J hg t.e.toNat]
def ft0:FT:=⟨Y,[],Y,0,0,0,0⟩
def CL (f:Nat) (w:la) (g:Nat):Prop:=(f<=g/\∃a c,w.heap[g]? =X (.map a c))∨∃c,w.heap[g]? =X (hi c 9 (0,0))
theorem ak.mp {P:Program} {d:TypeId} {K:Type} [DecidableEq K] {B:ez P d K} {w:la} {b:Nat} {l:List (K×ko)} (h:ak B w b l):∃a c,w.heap[b]? =X (.map a c):=by
 obtain ⟨a,⟨e,c,h1,_⟩,_⟩:=h;exact ⟨_,_,h1⟩
theorem cf.kept {f:Nat} {w w':la} {v:ko} {r:az} (h:cf f w v r) (e:∀g,CL f w g->w'.heap[g]? =w.heap[g]?):cf f w' v r:=by
 obtain ⟨b,n,c,a,rfl,d,⟨l,h1,j⟩,i⟩:=h;exact ⟨b,n,c,a,rfl,d,⟨l,h1.block (e b (.inl ⟨d,h1.mp⟩)),j⟩,ah i (λg k=>e g (.inr (aA i k)))⟩
theorem cf.mono {f d:Nat} {w:la} {v:ko} {r:az} (h:cf f w v r) (e:d<=f):cf d w v r:=by
 obtain ⟨b,n,c,a,rfl,g,h1,i⟩:=h;exact ⟨b,n,c,a,rfl,kc e g,h1,bz i e⟩
theorem cf.form {f:Nat} {w:la} {v:ko} {r:az} (h:cf f w v r):∃t,v=ftV t:=by
 obtain ⟨b,n,c,a,rfl,_⟩:=h;exact ⟨⟨X b,aQ r.fields,a,n,c,bH r.fields,r.kind⟩,rfl⟩
theorem cf.below {f:Nat} {w w':la} {v:ko} {r:az} (h:cf f w v r) (a:Bw w w'):cf f w' v r:=
 h.kept λg b=>a.block g (by
  rcases b with ⟨_,d,c,h⟩|⟨c,h⟩
  · exact ae h
  · exact ae h)
def kB (f lo:Nat) (w:la) (KB:Nat) (l:List az) (q:Nat):Prop:=
 ∃a:List FT,a.length=l.length/\w.ownsRow lo 208 5 (h2 (X ⟨KB,0,Y⟩) l.length l.length) l.length (a.flatMap ftCells)/\∀i,i<q->cf f w (ftV (a.getD i ft0)) (l.getD i rec0)
theorem kB.blk {f lo:Nat} {w:la} {KB:Nat} {l:List az} {q:Nat} (h:kB f lo w KB l q):(∃b,w.heap[KB]? =X (hi b 208 (0,0)))/\KB<w.heap.size/\lo<=KB:=by
 obtain ⟨c,_,a,_⟩:=h;have:=a.lt KB rfl;exact ⟨aA a rfl,this.2,this.1⟩
theorem kB.kept {f lo:Nat} {w w':la} {KB:Nat} {l:List az} {q:Nat} (h:kB f lo w KB l q) (h1:w'.heap[KB]? =w.heap[KB]?) (j:∀g,CL f w g->w'.heap[g]? =w.heap[g]?):kB f lo w' KB l q:=by
 obtain ⟨k,a,b,c⟩:=h;exact ⟨k,a,ah b (λg d=>by
  have:KB=g:=by simpa [Value.ownBlock] using d
  exact this ▸ h1),λi e=>(c i e).kept j⟩
theorem kB.get {f lo:Nat} {w:la} {KB:Nat} {l:List az} {q:Nat} (h:kB f lo w KB l q) {i:Nat} (u:i<l.length):∃t:FT,(i<q->cf f w (ftV t) (l.getD i rec0))/\
 w.cell? ⟨KB,i * 5,Y⟩=X (.map t.a)/\w.cell? ⟨KB,i * 5+1,Y⟩=X (S t.b)/\w.cell? ⟨KB,i * 5+2,Y⟩=X (h2 t.c t.c1 t.c2)/\w.cell? ⟨KB,i * 5+3,Y⟩=X (J U t.d)/\w.cell? ⟨KB,i * 5+4,Y⟩=X (J hg t.e.toNat):=by
 obtain ⟨k,s,n,o⟩:=h;have m:i<k.length:=by omega
 refine ⟨k[i],λr=>?_,?_⟩
 · have:=o i r;rwa [kd,kq m] at this
 · have g:∀j,j<5->w.cell? ⟨KB,i * 5+j,Y⟩=(ftCells k[i])[j]? :=λj p=>by rw [n.cellAt (i * 5+j) (by omega),cJ ftCells 5 (λ_=>rfl) k i m j p]
   exact ⟨(g 0 (by omega)).trans rfl,(g 1 (by omega)).trans rfl,(g 2 (by omega)).trans rfl,(g 3 (by omega)).trans rfl,(g 4 (by omega)).trans rfl⟩
theorem kB.frozen {f lo:Nat} {w:la} {KB:Nat} {l:List az} {q:Nat} (h:kB f lo w KB l q) (j:Nat):w.frozen? ⟨KB,j,Y⟩=false:=by
 obtain ⟨⟨b,a⟩,_⟩:=h.blk;exact ab a j
def putKn (W:la) (KB q:Nat) (t:FT):la:=((((W.setCell ⟨KB,q * 5,Y⟩ (.map t.a)).setCell ⟨KB,q * 5+1,Y⟩ (S t.b)).setCell ⟨KB,q * 5+2,Y⟩ (h2 t.c t.c1 t.c2)).setCell ⟨KB,q * 5+3,Y⟩ (J U t.d)).setCell ⟨KB,q * 5+4,Y⟩ (J hg t.e.toNat)
theorem iX (W:la) (KB q:Nat) (t:FT):aw KB W (putKn W KB q t):=(((((aw.refl KB W).setCell _ _).setCell _ _).setCell _ _).setCell _ _).setCell _ _
theorem kB.put {f lo:Nat} {w:la} {KB:Nat} {l:List az} {q:Nat} (h:kB f lo w KB l q) (I:q<l.length) {t:FT} (y:cf f w (ftV t) (l.getD q rec0)):kB f lo (putKn w KB q t) KB l (q+1):=by
 have p:∀g,CL f w g->(putKn w KB q t).heap[g]? =w.heap[g]? :=λg x=>(iX w KB q t).block g (by
  rintro rfl;obtain ⟨⟨E,o⟩,_⟩:=h.blk;rcases x with ⟨_,F,c,h⟩|⟨c,h⟩
  · rw [o] at h;injection h with h;exact lx h
  · rw [o] at h;injection h with h;injection h with _ h;exact absurd h (by decide))
 obtain ⟨j,r,s,u⟩:=h;have k:q<j.length:=by omega
 refine ⟨j.set q t,by simpa using r,?_,λi G=>?_⟩
 · have z:=(s.stored (q * 5) (.map t.a)).1;have A:=(z.stored (q * 5+1) (S t.b)).1;have B:=(A.stored (q * 5+2) (h2 t.c t.c1 t.c2)).1;have D:=(B.stored (q * 5+3) (J U t.d)).1;have m:=(D.stored (q * 5+4) (J hg t.e.toNat)).1;have n:=eX ftCells 5 (λ_=>rfl) j q 0 (.map t.a) {j[q] with a:=t.a} k (by omega) rfl;rw [Nat.add_zero] at n;rw [n] at m
   rw [eX ftCells 5 (λ_=>rfl) _ q 1 (S t.b) ⟨t.a,t.b,j[q].c,j[q].c1,j[q].c2,j[q].d,j[q].e⟩ (by simpa using k) (by omega) (by rw [k9];rfl),List.set_set,
    eX ftCells 5 (λ_=>rfl) _ q 2 (h2 t.c t.c1 t.c2) ⟨t.a,t.b,t.c,t.c1,t.c2,j[q].d,j[q].e⟩ (by simpa using k) (by omega) (by rw [k9];rfl),List.set_set,
    eX ftCells 5 (λ_=>rfl) _ q 3 (J U t.d) ⟨t.a,t.b,t.c,t.c1,t.c2,t.d,j[q].e⟩ (by simpa using k) (by omega) (by rw [k9];rfl),List.set_set,
    eX ftCells 5 (λ_=>rfl) _ q 4 (J hg t.e.toNat) t (by simpa using k) (by omega) (by rw [k9];rfl),List.set_set] at m
   exact m
 · by_cases e:i=q
   · subst e;rw [show (j.set i t).getD i ft0=t by rw [kd,List.getElem?_set_self k];rfl];exact y.kept p
   · rw [show (j.set q t).getD i ft0=j.getD i ft0 by rw [kd,List.getElem?_set_ne (λh=>e h.symm),kd]];exact (u i (by omega)).kept p
def gC (a:List Nat):List ko:=a.map λi:Nat=>Value.int U (i:Int)
def BQ (lo:Nat) (w:la) (BY:Nat) (H:Bs->Nat->Prop) (N:Nat):Prop:=
 ∃m:List (Bs×ko),ak tG w BY m/\m.length<=N/\(∀s,lookL m s=Y->∀i,¬H s i)/\(∀s v,lookL m s=X v->∃a:List Nat,w.ownsRow lo 3 1 v a.length (gC a)/\a.Nodup/\∀i,i∈a↔H s i)/\
  ∀b c d e,lookL m b=X d->lookL m c=X e->b≠c->d.ownBlock≠e.ownBlock
theorem BQ.kept {lo:Nat} {w w':la} {BY:Nat} {H:Bs->Nat->Prop} {N:Nat} (h:BQ lo w BY H N) (h1:w'.heap[BY]? =w.heap[BY]?) (n:∀(g:Nat) (c:Array ko),w.heap[g]? =X (lc c 3 (0,0))->w'.heap[g]? =w.heap[g]?):BQ lo w' BY H N:=by
 obtain ⟨m,b,d,e,i,j⟩:=h;refine ⟨m,b.block h1,d,e,λs v r=>?_,j⟩;obtain ⟨t,a,k⟩:=i s v r;exact ⟨t,ah a (λg p=>by obtain ⟨c,o⟩:=aA a p;exact n g c o),k⟩
def Dk (w:la) (SE:Nat) (C:Nat×Nat->Prop):Prop:=∃m:List RK,ak Cn w SE (m.map λp=>(p,fn true))/\∀p:RK,p∈m↔∃i k:Nat,p=((i:Int),(k:Int))/\C (i,k)
def dM (p:Nat×Nat):List ko:=[J U (p.1:Int),J U (p.2:Int)]
structure PR (lo f KB BY SE:Nat) (w1 W:la) (l:List az) (q:Nat) (H:Bs->Nat->Prop) (C O:Nat×Nat->Prop) (N:Nat) (v:ko):Prop where
 b:Below lo w1 W
 kn:kB f lo W KB l q
 plc:BQ lo W BY H N
 se:Dk W SE C
 o:∃os:List (Nat×Nat),W.ownsRow lo 67 2 v os.length (os.flatMap dM)/\os.Nodup/\∀p,p∈os↔O p
 ne:BY≠SE
 los:lo<=BY/\lo<=SE/\BY<f/\SE<f/\lo<=W.heap.size
 cb:∀p,C p->p.1<p.2/\p.2<l.length
 ob:∀p,O p->C p
section
variable {lo f KB BY SE:Nat} {w1 W:la} {l:List az} {q:Nat} {H:Bs->Nat->Prop} {C O:Nat×Nat->Prop} {N:Nat} {v:ko}
theorem PR.below (h:PR lo f KB BY SE w1 W l q H C O N v) {e:la} (a:Bw W e):PR lo f KB BY SE w1 e l q H C O N v:=by
 obtain ⟨m,i,n⟩:=h.se;obtain ⟨w,j,o⟩:=h.o;obtain ⟨y,c1,_⟩:=id h.plc;obtain ⟨p,r,s,t,k⟩:=h.los;exact ⟨h.b.trans (a.mono k),h.kn.kept (a.block _ h.kn.blk.2.1) (λg d=>a.block g (by
  rcases d with ⟨_,x,c,h⟩|⟨c,h⟩
  · exact ae h
  · exact ae h)),h.plc.kept (a.block _ c1.lt) (λg c u=>a.block g (ae u)),⟨m,i.block (a.block _ i.lt),n⟩,⟨w,ah j (λg d=>a.block g (j.lt g d).2),o⟩,h.ne,⟨p,r,s,t,kc k a.size⟩,h.cb,h.ob⟩
theorem PR.congr (h:PR lo f KB BY SE w1 W l q H C O N v) {c:Bs->Nat->Prop} {a d:Nat×Nat->Prop} {e:Nat} (n:∀s i,c s i↔H s i) (r:∀p,a p↔C p) (u:∀p,d p↔O p) (x:N<=e):PR lo f KB BY SE w1 W l q c a d e v:=by
 have o:c=H:=funext λs=>funext λi=>propext (n s i);have t:a=C:=funext λp=>propext (r p);have w:d=O:=funext λp=>propext (u p);subst o t w;refine ⟨h.b,h.kn,?_,h.se,h.o,h.ne,h.los,h.cb,h.ob⟩;obtain ⟨m,g,j,k⟩:=h.plc;exact ⟨m,g,kc j x,k⟩
theorem PR.known (h:PR lo f KB BY SE w1 W l q H C O N v) (y:q<l.length) {t:FT} (z:cf f W (ftV t) (l.getD q rec0)):PR lo f KB BY SE w1 (putKn W KB q t) l (q+1) H C O N v:=by
 have a:=iX W KB q t;obtain ⟨⟨D,d⟩,E,x⟩:=h.kn.blk;obtain ⟨m,i,k⟩:=h.se;obtain ⟨A,j,n⟩:=h.o;obtain ⟨F,c1,_⟩:=id h.plc;obtain ⟨o,p,r,s,u⟩:=h.los;refine ⟨h.b.trans (a.below x),h.kn.put y z,h.plc.kept (a.block _ (aj c1 d)) (λg c e=>a.block g (df e d (by decide))),⟨m,i.block (a.block _ (aj i d)),k⟩,⟨A,ah j (λg e=>a.block g ?_),n⟩,h.ne,⟨o,p,r,s,by rw [a.size];exact u⟩,h.cb,h.ob⟩;obtain ⟨B,w⟩:=aA j e;exact df w d (by decide)
theorem lY {n:Nat} {m:List RK} (b:m.Nodup) (h:∀p∈m,∃i k:Nat,p=((i:Int),(k:Int))/\i<n/\k<n):m.length<=n * n:=by
 have:=fE m ((lf n).flatMap λi:Nat=>(lf n).map λk:Nat=>(((i:Nat):Int),(k:Int))) b (λp c=>by obtain ⟨i,k,rfl,h1,a⟩:=h p c;exact List.mem_flatMap.2 ⟨i,List.mem_range.2 h1,List.mem_map.2 ⟨k,List.mem_range.2 a,rfl⟩⟩)
 refine kc this ?_;rw [l3];have:((lf n).map λi=>((lf n).map λk=>(((i:Nat):Int),((k:Nat):Int))).length)=kl n n:=by apply List.ext_getElem?;intro j;by_cases hj:j<n<;>simp [hj]
 rw [this];simp
theorem PR.seen (h:PR lo f KB BY SE w1 W l q H C O N v) (G:l.length<=1000) (i k:Nat) (a0:i<k) (hk:k<l.length):
 ∃b:Bool,(b=true↔C (i,k))/\(Instr.lookup 205 (fs (X SE)) (.agg #[J U (i:Int),J U (k:Int)]) false).run prog W= .ok (fn b) W/\
 ∃u,(Instr.mapUpdate 205 (fs (X SE)) (.agg #[J U (i:Int),J U (k:Int)]) (fn true)).run prog W= .ok () u/\PR lo f KB BY SE w1 u l q H (λp=>C p∨p=(i,k)) O N v/\∀(g:Nat) (c:Array ko) (t:TypeId),W.heap[g]? =X (lc c t (0,0))->u.heap[g]? =W.heap[g]? :=by
 obtain ⟨m,d,A⟩:=h.se;have K:rkOk ((i:Int),(k:Int)):=by unfold rkOk i64B;dsimp only;omega
 have h1:=ak.look d underlying205 (z:=fn false) (by kernel_rfl) ((i:Int),(k:Int)) K;obtain ⟨z,hz,a6⟩:=xU d ((i:Int),(k:Int));rw [a6] at h1;refine ⟨z,?_,h1,?_⟩
 · rw [hz,A];constructor
   · rintro ⟨w,y,s,a⟩;injection s with D E
     have D:i=w:=by omega
     have E:k=y:=by omega
     subst D E;exact a
   · exact λa=>⟨i,k,rfl,a⟩
 · have a5:m.Nodup:=by have:=d.nodup;rwa [List.map_map,show ((λx:RK×ko=>x.1) ∘ λp:RK=>(p,lE true))=id from rfl,List.map_id] at this
   have a4:=lY (n:=l.length) a5 (λp r=>by obtain ⟨i,k,rfl,a⟩:=(A p).1 r;have:=h.cb _ a;exact ⟨i,k,rfl,by omega,this.2⟩)
   have ac:m.length<=1000000:=kc a4 (kc (lQ G G) (by omega));obtain ⟨u,hr,I,j⟩:=ak.put_run d underlying205 (by rw [kb];unfold maxLen;omega) ((i:Int),(k:Int)) K (fn true);refine ⟨u,hr,?_,λg c t o=>j.block g (aj d o).symm⟩;obtain ⟨m',e,a3,_⟩:=wK m ((i:Int),(k:Int));rw [e] at I;obtain ⟨⟨a7,a⟩,a8,a9⟩:=h.kn.blk;obtain ⟨os,B,L⟩:=h.o;obtain ⟨mb,c1,_⟩:=id h.plc;obtain ⟨M,F,P,Q,R⟩:=h.los;refine ⟨h.b.trans (j.below F),h.kn.kept (j.block _ (aj d a).symm) (λg o=>j.block g ?_),h.plc.kept (j.block _ h.ne) (λg c o=>j.block g (aj d o).symm),⟨m',I,λp=>?_⟩,⟨os,ah B (λg o=>j.block g ?_),L⟩,h.ne,⟨M,F,P,Q,by rw [j.size];exact R⟩,λp r=>?_,λp r=> .inl (h.ob p r)⟩
   · rcases o with ⟨hf,_⟩|⟨c,T⟩
     · omega
     · exact (aj d T).symm
   · rw [a3,A];constructor
     · rintro (⟨w,y,s,a⟩|rfl)
       · exact ⟨w,y,s, .inl a⟩
       · exact ⟨i,k,rfl, .inr rfl⟩
     · rintro ⟨w,y,s,a|a⟩
       · exact .inl ⟨w,y,s,a⟩
       · injection a with c1 c2
         subst c1 c2;exact .inr s
   · obtain ⟨cu,V⟩:=aA B o;exact (aj d V).symm
   · rcases r with r|rfl
     · exact h.cb p r
     · exact ⟨a0,hk⟩
theorem PR.outs (h:PR lo f KB BY SE w1 W l q H C O N v) {i k:Nat} (y:C (i,k)) (hn:¬O (i,k)) {n u:la} (o:Bw W n) {K:ko} (d:n.grownBy u v.ownBlock) {s:List (Nat×Nat)} (a6:W.ownsRow lo 67 2 v s.length (s.flatMap dM)/\s.Nodup/\∀p,p∈s↔O p) (hr:u.ownsRow lo 67 2 K (s.length+1) (s.flatMap dM++[J U (i:Int),J U (k:Int)])):
 PR lo f KB BY SE w1 u l q H C (λp=>O p∨p=(i,k)) N K:=by
 have r:=h.below o;obtain ⟨w,o2,I⟩:=a6;have w:=ah w (λg d=>o.block g (w.lt g d).2);have a7:∀g,v.ownBlock=X g->∃x,n.heap[g]? =X (hi x 67 (0,0)):=λg d=>aA w d;have a4:∀g,v.ownBlock=X g->lo<=g:=λg d=>(w.lt g d).1;have G:∀g,g<n.heap.size->(∀c,n.heap[g]? ≠X (lc c 67 (0,0)))->u.heap[g]? =n.heap[g]? :=λg hl a5=>d.block g hl (λe=>by obtain ⟨x,a3⟩:=a7 g e.symm;exact a5 x a3);obtain ⟨m,D,L⟩:=r.se;obtain ⟨mb,c1,_⟩:=id r.plc;obtain ⟨⟨a8,a0⟩,ac,a9⟩:=r.kn.blk;obtain ⟨P,Q,R,T,F⟩:=r.los;have z:∀{b:Nat},(∃E c,n.heap[b]? =X (.map E c))->u.heap[b]? =n.heap[b]? :=λ⟨E,c,o⟩=>G _ (ae o) (λM j=>by rw [o] at j;injection j with j;exact lx j);have B:∀{b:Nat} {c:Array ko} {t:TypeId},n.heap[b]? =X (lc c t (0,0))->t≠67->u.heap[b]? =n.heap[b]? :=λo ht=>G _ (ae o) (λM j=>by rw [o] at j;injection j with j;injection j with _ j;exact ht j);refine ⟨r.b.grown d F a4,r.kn.kept (B a0 (by decide)) (λg d=>?_),r.plc.kept (z c1.mp) (λg c d=>B d (by decide)),⟨m,D.block (z D.mp),L⟩,⟨s++[(i,k)],by rw [kt,List.flatMap_append];exact hr,?_,λp=>by rw [ks,kk,I]⟩,r.ne,⟨P,Q,R,T,kc F d.size⟩,r.cb,λp A=>?_⟩
 · rcases d with ⟨_,hm⟩|⟨c,y⟩
   · exact z hm
   · exact B y (by decide)
 · rw [ls];exact ⟨o2,by simp,λa V b o=>by rw [List.mem_singleton.1 o];rintro rfl;exact hn ((I _).1 V)⟩
 · rcases A with A|rfl
   · exact h.ob p A
   · exact y
theorem PR.places (h:PR lo f KB BY SE w1 W l q H C O N v) (hN:N<=100000000000000000) (s:Bs) (hs:s.length<=1000000000) (k:Nat) (hk:¬H s k):
 ∃(x:ko) (n:List Nat),(Instr.lookup 204 (fs (X BY)) (S s) false).run prog W= .ok x W/\W.ownsRow lo 3 1 x n.length (gC n)/\n.Nodup/\(∀i,i∈n↔H s i)/\
 ∀(y:ko) (o E:la),Bw W o->o.grownBy E x.ownBlock->E.ownsRow lo 3 1 y (n.length+1) (gC n++[J U (k:Int)])->(y.ownBlock=x.ownBlock∨y.ownBlock=X o.heap.size)->
  ∃F,(Instr.mapUpdate 204 (fs (X BY)) (S s) y).run prog E= .ok () F/\PR lo f KB BY SE w1 F l q (λt i=>H t i∨t=s/\i=k) C O (N+1) v/\∀(g:Nat) (c:Array ko),o.heap[g]? =X (lc c 9 (0,0))->F.heap[g]? =o.heap[g]? :=by
 obtain ⟨m,a1,a2,a3,a4,a5⟩:=id h.plc;have al:s.length<=maxLen:=by unfold maxLen;omega
 have ad:=ak.look a1 underlying204 (z:=h2 Y 0 0) (by kernel_rfl) s al;have hx:∃(x:ko) (n:List Nat),(lookL m s).getD (h2 Y 0 0)=x/\W.ownsRow lo 3 1 x n.length (gC n)/\n.Nodup/\(∀i,i∈n↔H s i)/\(∀t u,lookL m t=X u->t≠s->x.ownBlock≠u.ownBlock∨x.ownBlock=Y):=by
  cases T:lookL m s with
  |none=>exact ⟨_,[],rfl,l4 _ _ _ _,List.nodup_nil,λi=>⟨λh=>(by cases h),λh=>absurd h (a3 s T i)⟩,λ_ _ _ _=> .inr rfl⟩
  |some x=> obtain ⟨n,Q,b2,R⟩:=a4 s x T;exact ⟨x,n,rfl,Q,b2,R,λt u r p=> .inl (a5 s t x u T r (λe=>p e.symm))⟩
 obtain ⟨x,n,e,Q,b2,R,b4⟩:=hx;rw [e] at ad;refine ⟨x,n,ad,Q,b2,R,λy o E j a6 hr aT=>?_⟩;have B:=h.below j;have o1:=ah Q (λg d=>j.block g (Q.lt g d).2);have b8:∀g,x.ownBlock=X g->∃P,o.heap[g]? =X (hi P 3 (0,0)):=λg d=>aA o1 d;have aS:∀g,x.ownBlock=X g->lo<=g:=λg d=>(o1.lt g d).1;have ac:∀g,g<o.heap.size->(∀c,o.heap[g]? ≠X (lc c 3 (0,0)))->E.heap[g]? =o.heap[g]? :=λg T A=>a6.block g T (λe=>by obtain ⟨P,K⟩:=b8 g e.symm;exact A P K);have a8:∀{b:Nat},(∃es c,o.heap[b]? =X (.map es c))->E.heap[b]? =o.heap[b]? :=λ⟨es,c,j⟩=>ac _ (ae j) (λc' w=>by rw [j] at w;injection w with w;exact lx w);have b7:∀{b:Nat} {c:Array ko} {t:TypeId},o.heap[b]? =X (lc c t (0,0))->t≠3->E.heap[b]? =o.heap[b]? :=λj p=>ac _ (ae j) (λc' w=>by rw [j] at w;injection w with w;injection w with _ w;exact p w);have V:=a1.block (j.block _ a1.lt);have a9:=V.block (a8 V.mp);obtain ⟨F,b6,b0,L⟩:=ak.put_run a9 underlying204 (by unfold maxLen;omega) s al y;refine ⟨F,b6,?_⟩;obtain ⟨ms,s1,s2⟩:=B.se;obtain ⟨⟨bk,ax⟩,bs,bp⟩:=B.kn.blk;obtain ⟨g1,g2,g3,g4,g5⟩:=B.los;obtain ⟨os,q1,q2⟩:=B.o;have bt:=a6.size;have a0:∀{b:Nat} {c:Array ko} {t:TypeId},o.heap[b]? =X (lc c t (0,0))->t≠3->F.heap[b]? =o.heap[b]? :=λj p=>(L.block _ (λe=>by have:=aj V j;exact this e.symm)).trans (b7 j p)
 have av:Below lo w1 F:=(B.b.grown a6 g5 aS).trans (L.below g1);refine ⟨⟨av,B.kn.kept (a0 ax (by decide)) (λg d=>?_),?_,⟨ms,s1.block ((L.block _ (λe=>B.ne e.symm)).trans (a8 s1.mp)),s2⟩,⟨os,ah q1 (λg d=>?_),q2⟩,B.ne,⟨g1,g2,g3,g4,by rw [L.size];omega⟩,B.cb,B.ob⟩,λg c d=>a0 d (by decide)⟩
 · rcases d with ⟨hf,hm⟩|⟨c,hc⟩
   · exact (L.block g (by omega)).trans (a8 hm)
   · exact a0 hc (by decide)
 · have ao:∀t u,lookL m t=X u->t≠s->y.ownBlock≠u.ownBlock:=λt u r p=>by
    have b9:∀g,u.ownBlock=X g->g<o.heap.size:=λg d=>by obtain ⟨_,c1,_⟩:=a4 t u r;exact lk (c1.lt g d).2 j.size
    have bb:y.ownBlock≠Y:=λe0=>by obtain ⟨g,bc,he,_⟩:=ld hr (by omega);rw [he] at e0;cases e0
    intro au;rcases aT with G|G
    · rcases b4 t u r p with I|I
      · exact I (G.symm.trans au)
      · exact bb (G.trans I)
    · have:=b9 _ (au.symm.trans G);omega
   refine ⟨_,b0,kc (AI m s y) (by omega),λt p i=>?_,λt u r=>?_,λt1 t2 u1 u2 M D A=>?_⟩
   · rw [dv] at p;split at p
     · cases p
     · rename_i A;rintro (hh|⟨rfl,_⟩)
       · exact a3 t p i hh
       · exact A rfl
   · rw [dv] at r;split at r
     · rename_i I;injection r with r
       subst r I;refine ⟨n++[k],?_,?_,λi=>?_⟩
       · rw [kt];have:gC (n++[k])=gC n++[J U (k:Int)]:=by unfold gC;rw [List.map_append];rfl
         rw [this];exact ah hr (λg d=>L.block g (λe=>by obtain ⟨P,K⟩:=aA hr d;exact aj a9 K e.symm))
       · rw [ls];exact ⟨b2,by simp,λa ha b j=>by rw [List.mem_singleton.1 j];rintro rfl;exact hk ((R _).1 ha)⟩
       · rw [ks,kk,R];simp
     · rename_i A;obtain ⟨zs,c1,c2,c3⟩:=a4 t u r;refine ⟨zs,ah c1 (λg d=>?_),c2,λi=>?_⟩
       · have aC:=d;have a7:=(c1.lt g aC).2;obtain ⟨P,K⟩:=aA c1 d;have ay:=(j.block g a7).trans K;have b5:g≠BY:=λe=>aj V ay e.symm;rw [L.block g b5,a6.block g (lk a7 j.size) (λe=>?_)]
         · exact j.block g a7
         · rcases b4 t u r A with e3|e3
           · exact e3 (e.symm.trans d.symm)
           · rw [e3] at e;cases e
       · rw [c3];constructor
         · exact .inl
         · rintro (h|⟨rfl,_⟩)
           · exact h
           · exact absurd rfl A
   · rw [dv] at M D;split at M
     · rename_i G;injection M with M
       subst M G;rw [if_neg (λe=>A e.symm)] at D;exact ao t2 u2 D (λe=>A e.symm)
     · split at D
       · rename_i G I;injection D with D
         subst D I;exact λe=>ao t1 u1 M A e.symm
       · exact a5 t1 t2 u1 u2 M D A
 · obtain ⟨P,K⟩:=aA q1 d;exact a0 K (by decide)
end
end
section
open Go.RowKit Go.Maps Go.Shelf
def rdCells (p:az×ko):List ko:=[J hg p.1.kind.toNat,J hg p.1.level.toNat,p.2]
def mT (w:la) (v:ko) (a:List (az×ko)):Prop:=aB 0 w.heap.size w v a.length (a.flatMap rdCells)/\∀p∈a,ai 0 w.heap.size w p.2 p.1.fields
theorem mT.get {w:la} {v:ko} {c:List (az×ko)} (h:mT w v c) (i:Nat) (e:i<c.length):
 ∃b d g,v=h2 (X ⟨b,d,Y⟩) c.length g/\b<w.heap.size/\w.cell? ⟨b,d+i * 3,Y⟩=X (J hg c[i].1.kind.toNat)/\w.cell? ⟨b,d+i * 3+1,Y⟩=X (J hg c[i].1.level.toNat)/\w.cell? ⟨b,d+i * 3+2,Y⟩=X c[i].2:=by
 obtain ⟨a,g,t,h⟩:=h.1;have r:c.flatMap rdCells≠[]:=by
  cases c with
  |nil=>simp at e
  |cons s l=>simp [rdCells]
 obtain ⟨b,d,p,h1,o,j⟩:=h r;subst p;have k:=cJ rdCells 3 (λ_=>rfl) c i e 0 (by omega);have m:=cJ rdCells 3 (λ_=>rfl) c i e 1 (by omega);have n:=cJ rdCells 3 (λ_=>rfl) c i e 2 (by omega);exact ⟨b,d,g,t,o,j _ _ k,by rw [Nat.add_assoc];exact j _ _ m,by rw [Nat.add_assoc];exact j _ _ n⟩
theorem mT.below {w w':la} {v:ko} {a:List (az×ko)} (h:mT w v a) (c:Bw w w'):aB 0 w.heap.size w' v a.length (a.flatMap rdCells)/\∀p∈a,ai 0 w.heap.size w' p.2 p.1.fields:=
 ⟨aB.kept h.1 (λg _ b=>c.block g b),λp d=>(h.2 p d).kept (λg _ b=>c.block g b)⟩
theorem AU (n:Nat):(madeCells (ftV ft0).cells (n * 5)).toList=(kl n ft0).flatMap ftCells:=by
 apply List.ext_getElem?;intro j;by_cases hj:j<n * 5
 · have h1:j / 5<(kl n ft0).length:=by rw [List.length_replicate];omega
   have e:=cJ ftCells 5 (λ_=>rfl) (kl n ft0) (j / 5) h1 (j%5) (by omega);rw [show j / 5 * 5+j%5=j by omega,List.getElem_replicate] at e;rw [e];have a:∀r,r<5->(ftCells ft0)[r]? =X ((ftV ft0).cells[r]!):=by intro r d;rcases r with _|_|_|_|_|r<;>first |rfl|omega
   rw [a _ (by omega)];have c:(ftV ft0).cells.size=5:=rfl;simp [madeCells,hj,c]
 · have b:((kl n ft0).flatMap ftCells).length=n * 5:=by rw [l3,List.map_replicate];simp [ftCells]
   rw [l2 (by rw [Array.length_toList,size_madeCells];omega),l2 (by rw [b];omega)]
theorem uk (w:la) (n:Nat) (k:n<=1000):∃wa,(Instr.makeSlice 203 (J U (n:Int)) (J U (n:Int))).run prog w= .ok (h2 (X ⟨w.heap.size,0,Y⟩) n n) wa/\
 wa.ownsRow w.heap.size 208 5 (h2 (X ⟨w.heap.size,0,Y⟩) n n) n ((kl n ft0).flatMap ftCells)/\Bw w wa:=by
 obtain ⟨i,d,h,g,c⟩:=info_parts Dg;obtain ⟨wa,h1,a,b⟩:=run_makeSlice_full (P:=prog) w w.heap.size 203 208 i (ftV ft0) 5 underlying203 d h g U U n (by omega) (by rw [c];omega) (by unfold maxLen;omega) (ka _);rw [AU] at a;exact ⟨wa,h1,a,(kv _ w).grown b (ka _) (λj e=>by cases e)⟩
theorem PR.new {w wa:la} (l:List az) (h:wa.ownsRow w.heap.size 208 5 (h2 (X ⟨w.heap.size,0,Y⟩) l.length l.length) l.length ((kl l.length ft0).flatMap ftCells)) (c:Bw w wa):
 PR w.heap.size (wa.heap.size+2) w.heap.size wa.heap.size (wa.heap.size+1) ((wa.alloc (.map #[] 0)).alloc (.map #[] 0)) ((wa.alloc (.map #[] 0)).alloc (.map #[] 0)) l 0 (hU l 0 []) (λp=>cameR l 0 [] p=true) (λp=>cameR l 0 [] p=true/\40<=pointsR (l.getD p.1 rec0) (l.getD p.2 rec0)) 0 (h2 Y 0 0):=by
 have n:=c.size;have m:(wa.alloc (.map #[] 0)).heap.size=wa.heap.size+1:=by simp
 have d:Bw wa ((wa.alloc (.map #[] 0)).alloc (.map #[] 0)):=((kv _ wa).alloc (ka _) _).alloc (by simp) _;refine ⟨kv _ _,⟨kl l.length ft0,by simp,ah h (λg e=>d.block g (h.lt g e).2),λi j=>absurd j (by omega)⟩,⟨[],(ak.made wa).alloc _,ka _,λs _ i=>?_,λs v b=>(by cases b),λ_ _ _ _ b=>(by cases b)⟩,⟨[],?_,λp=>⟨λh=>(by cases h),?_⟩⟩,⟨[],l4 _ _ _ _,List.nodup_nil,λp=>⟨λh=>(by cases h),?_⟩⟩,by omega,⟨by omega,by omega,by omega,by omega,by simp;omega⟩,λp a=>?_,λp a=>a.1⟩
 · rintro (⟨h1,_⟩|⟨_,h1⟩)
   · omega
   · cases h1
 · rw [<- m];exact ak.made _
 · rintro ⟨i,k,_,h⟩;rw [km] at h;cases h
 · rintro ⟨h,_⟩;rw [km] at h;cases h
 · rw [km] at a;cases a
theorem rS {a:List (az×ko)} {i:Nat} (b:i<a.length):(a.map (·.1)).getD i rec0=a[i].1:=by
 rw [kd,lv,kq b];rfl
theorem jL {a:List af} (h:bR a):(bx a).length<=1000000000:=by
 have b:=eN h dW [97];have h1:=eL (textF (firstF a dW) [97]);unfold bx;omega
theorem AE {a:List af} (h:bR a):(keysR a).length<=10000000000000:=by
 have h1:=kO ((rawR a).mergeSort leB);rw [List.length_mergeSort] at h1;have b:=gv a a.length h;rw [List.take_length] at b;have c:(rawR a).length<=(booksR a).length+1:=by unfold rawR;rw [kt,kb];split<;>simp
 have d:(keysR a).length<=(rawR a).length:=h1;omega
theorem Bb {a:List af} (h:bR a) {s:Bs} (g:s∈keysR a):s.length<=1000000000:=by
 have h1:=((iu a).2 s).1 g;unfold rawR at h1;rcases List.mem_append.1 h1 with h1|h1
 · obtain ⟨b,c,rfl⟩:=List.mem_map.1 h1;have:b.length<=13:=by
    unfold booksR at c;obtain ⟨f,_,c⟩:=List.mem_flatMap.1 c;unfold qC at c;split at c
    · obtain ⟨u,_,d⟩:=List.mem_filterMap.1 c;split at d
      · exact fk d
      · cases d
    · cases c
   unfold isbnK;rw [kt];have e:([105,115,98,110,32]:Bs).length=5:=rfl;omega
 · split at h1
   · cases h1
   · rw [kk] at h1;subst h1;have i:=nH a h;have j:((bx a).headD []).length<=4000000:=by
      unfold bx;cases hw:be (textF (firstF a dW) [97]) with
      |nil=>simp
      |cons z zs=> have k:=lC (textF (firstF a dW) [97]) z (by rw [hw];simp);have e:=eN h dW [97];simp only [List.headD_cons];omega
     unfold oZ;simp only [kt];have m:([116,105,116,108,101,32]:Bs).length=6:=rfl;have n:([32,47,32]:Bs).length=3:=rfl;omega
theorem nT {C:Nat×Nat->Prop} {i q:Nat} {zs:List Nat} (h:C (i,q)∨(i,q).2=q/\(i,q).1∈zs) (p:Nat×Nat):(C p∨p.2=q/\p.1∈zs)↔(C p∨p.2=q/\p.1∈zs++[i]):=by
 obtain ⟨a,b⟩:=p;dsimp only at h ⊢;rw [ks,kk];constructor
 · rintro (h1|⟨h1,c⟩)
   · exact .inl h1
   · exact .inr ⟨h1, .inl c⟩
 · rintro (h1|⟨h1,c|c⟩)
   · exact .inl h1
   · exact .inr ⟨h1,c⟩
   · subst h1 c;exact h.imp id (λh=>h)
theorem tY {C:Nat×Nat->Prop} {i q:Nat} {zs:List Nat} (p:Nat×Nat):(C p∨p.2=q/\p.1∈zs++[i])↔((C p∨p.2=q/\p.1∈zs)∨p=(i,q)):=by
 obtain ⟨a,b⟩:=p;dsimp only;rw [ks,kk,Prod.mk.injEq];constructor
 · rintro (h1|⟨h1,c|c⟩)
   · exact .inl (.inl h1)
   · exact .inl (.inr ⟨h1,c⟩)
   · exact .inr ⟨c,h1⟩
 · rintro ((h1|⟨h1,c⟩)|⟨h1,c⟩)
   · exact .inl h1
   · exact .inr ⟨h1, .inl c⟩
   · exact .inr ⟨c, .inr h1⟩
def nd (p:Nat×Nat):RK:=((p.1:Int),(p.2:Int))
theorem vP (a:List (Nat×Nat)):a.flatMap dM=(a.map nd).flatMap rkCells:=by
 rw [List.flatMap_map];rfl
theorem yv {l:List az} {c:List (Nat×Nat)} (g:c.Nodup) (h:∀p,p∈c↔p∈pairsR l):cw ltRK (c.map nd)=(pairsR l).map nd:=by
 have d:=pI l;have i:∀a,ltNN a a≠true:=λa h=>by rw [jB] at h;omega
 have j:(pairsR l).Nodup:=d.imp λ{a b} h e=>by rw [e] at h;exact i _ h
 refine bh aN (((List.perm_ext_iff_of_nodup g j).2 h).map _) ?_;rw [lp];refine d.imp λ{a b} h=>?_;rw [jB] at h;rw [fF];unfold nd;dsimp only;omega
theorem yM (w:la) (v:ko) (y:List (az×ko)) (h:mT w v y) (hn:y.length<=1000) (aC:∀p∈y,bR p.1.fields):
 Calls prog 79 #[v] w λe w'=>∃v':ko,e=ih v'/\w'.ownsRow w.heap.size 67 2 v' (pairsR (y.map (·.1))).length ((pairsR (y.map (·.1))).flatMap dM)/\Bw w w':=by
 obtain ⟨wa,iF,gx,cg⟩:=uk w y.length hn;have aT:(y.map (·.1)).length=y.length:=kb _;obtain ⟨a8,fz⟩:∃B:Nat,B=10000000000000:=⟨_,rfl⟩;have ee:=Z fz;clear fz;have b6:=Z (PR.new (w:=w) (wa:=wa) (y.map (·.1)) (by rw [aT];exact gx) cg);obtain ⟨l,hl⟩:=Qe (y.map (·.1));have fl:Hid (∀i (L:i<y.length),y[i].1=l.getD i rec0):=λi L=>by rw [<- hl,rS L]
 have d4:Hid (∀i,i<l.length->bR (l.getD i rec0).fields):=λi L=>by
  have gd:i<y.length:=by rw [<- aT,hl];exact L
  rw [<- hl,rS gd];exact aC _ (lb gd)
 rw [hl] at b6 aT ⊢;have fc:=Z h;obtain ⟨av,cv,rfl,_⟩:=h.1;obtain ⟨w1,cp⟩:=Qe ((wa.alloc (.map #[] 0)).alloc (.map #[] 0));rw [cp] at b6;have g3:Bw w w1:=by rw [<- cp];have hz:=cg.size;exact (cg.alloc hz _).alloc (by simp;omega) _
 have e9:=Z g3;have hR:=Z cp;obtain ⟨BY,c9⟩:=Qe wa.heap.size;have g2:(wa.alloc (.map #[] 0)).heap.size=BY+1:=by rw [<- c9];simp
 rw [c9] at b6;have hf:=Z c9;have jj:=Z g2;obtain ⟨n,ds⟩:=Qe y.length;have c3:=Z ds;rw [ds] at hn aT iF ⊢;have b3:=Z aT;have k4:= @run_makeMap prog;clear h gx cg cp g3 c9 g2 hl ds aT aC;go_enter func79,ntmps79;go_upto_region 6 with fail
 rw [hR.o,hf.o];obtain ⟨KB,ca⟩:=Qe w.heap.size;have er:=Z ca;rw [ca] at b6 ⊢;have fp:Hid (∀W,Below KB w1 W->Bw w W/\aB 0 w.heap.size W (h2 av n cv) n (y.flatMap rdCells)/\∀p∈y,ai 0 w.heap.size W p.2 p.1.fields):=λW hb=>by have b9:Bw w W:=e9.o.trans (hb.mono (by rw [<- ca];exact ka _));have:=fc.below b9;rw [c3.o] at this;exact ⟨b9,this⟩
 clear ca;go_loopw [6,21] (λv i wr=>∃q:Nat,q<=n/\i=J U q/\Hid (PR KB (BY+2) KB BY (BY+1) w1 wr l q (hU l q []) (λp=>cameR l q [] p=true) (λp=>cameR l q [] p=true/\40<=pointsR (l.getD p.1 rec0) (l.getD p.2 rec0)) (q * a8) v)) (λ_ i _=>n - (intOf i).toNat)
 case atStart=>exact ⟨0,lB _,rfl,by rw [Nat.zero_mul];exact b6.o⟩
 case round=>
  obtain ⟨q,hq,rfl,HP⟩:=hrel;by_cases b0:q<n
  · have bw:q<y.length:=by rw [c3.o];exact b0
    have b2:q<l.length:=by rw [b3.o];exact b0
    obtain ⟨di,gO,dn⟩:=fp wr HP.b;have gc:=fl q bw;have al:=dn _ (lb bw);have gt:mT wr (h2 av n cv) y:=⟨by rw [c3.o];exact gO.mono (lB _) di.size,λp hp=>(dn p hp).mono (ka _) di.size⟩;obtain ⟨b,off,hX,hv,k0,e0,e1,e2⟩:=gt.get q bw;have iQ:(Value.slice av n cv)=h2 (X ⟨b,off,Y⟩) n hX:=by rw [hv,c3.o]
    cases iQ;rw [gc] at al e0 e1;have aC:=d4 q b2;obtain ⟨x,hx⟩:=Qe (y[q].2);rw [hx] at al e2;obtain ⟨r,T⟩:=Qe (l.getD q rec0);have HR:=Z T;have hV:=Z hx;rw [T] at al e0 e1 aC;obtain ⟨V,rl,z⟩:=r;dsimp only at al e0 e1 aC;have ja:=Z (al.kept (w:=wr) (w':=wr) (λ_ _ _=>rfl));have ib:=al;obtain ⟨a0,c0,rfl⟩:=al.shape;have c6:=Z aC;clear di gO dn gc gt hv hx T aC ib;obtain ⟨F,bA⟩:=Qe (wr.alloc (hi #[J hg V.toNat,J hg rl.toNat,h2 a0 z.length c0] 62));have g6:Bw wr F:=by rw [<- bA];exact (kv _ wr).alloc (ka _) _
    have hF:F.heap[wr.heap.size]? =X (hi #[J hg V.toNat,J hg rl.toNat,h2 a0 z.length c0] 62 (0,0)):=by rw [<- bA];exact l1 wr _
    obtain ⟨R,cc⟩:=Qe wr.heap.size;rw [cc] at hF;have HF:=Z hF;have d2:=Z (HP.below g6);have em:Hid (∀W,Below KB w1 W->ai 0 W.heap.size W (h2 a0 z.length c0) z):=λW hb=>by obtain ⟨ao,_,h1⟩:=fp W hb;have h1:=h1 _ (lb bw);have gs:=fl q bw;rw [HR.o] at gs;rw [gs,hV.o] at h1;exact h1.mono (ka _) ao.size
    have hE:Hid (Calls prog 129 #[.agg #[J hg V.toNat,J hg rl.toNat,h2 a0 z.length c0]] F λe w'=>∃v,e=ih v/\cf F.heap.size w' v ⟨V,rl,z⟩/\Bw F w'):=Cq V rl _ z F (em F d2.b) c6.o;have g1:F.heap.size=R+1:=by rw [<- bA, <- cc];simp
    have jb:=Z g1;have hS:=Z bA;have hM:=Z cc;obtain ⟨d7,d8,d9⟩:F.cell? ⟨R,0,Y⟩=X (J hg V.toNat)/\F.cell? ⟨R,1,Y⟩=X (J hg rl.toNat)/\F.cell? ⟨R,2,Y⟩=X (h2 a0 z.length c0):=⟨(aa hF 0).trans rfl,(aa hF 1).trans rfl,(aa hF 2).trans rfl⟩;clear bA cc g6 hF g1 al fc;go_upto_region 8 with fail
    rw [hS.o,hM.o];go_upto_region 9 with (go_at_call 129;refine lP hE.o ?_;rintro e w3 ⟨v3,rfl,dp,cd⟩;obtain ⟨⟨ta,tb,tc,h8,h9,td,te⟩,rfl⟩:=dp.form;have a9:=Z (d2.o.below cd);have hh:=Z dp;have ej:=Z ((cd.block _ (ae HF.o)).trans HF.o);have iS:=Z cd;obtain ⟨t',_,z0,z1,z2,z3,z4⟩:=a9.o.kn.get b2;have f0:=a9.o.kn.frozen (q * 5);have f1:=a9.o.kn.frozen (q * 5+1);have f2:=a9.o.kn.frozen (q * 5+2);have f3:=a9.o.kn.frozen (q * 5+3);have f4:=a9.o.kn.frozen (q * 5+4);unfold ftV;dsimp only;clear dp cd)
    obtain ⟨D,cq⟩:=Qe (putKn w3 KB q ⟨ta,tb,tc,h8,h9,td,te⟩);have f6:Hid (PR KB (BY+2) KB BY (BY+1) w1 D l (q+1) (hU l q []) (λp=>cameR l q [] p=true) (λp=>cameR l q [] p=true/\40<=pointsR (l.getD p.1 rec0) (l.getD p.2 rec0)) (q * a8) u6):=by
     rw [<- cq];refine a9.known b2 (cf.mono (f:=F.heap.size) ?_ ?_)
     · rw [HR.o];exact hh.o
     · obtain ⟨m,hm,_⟩:=d2.se;exact hm.lt
    have cy:Hid (D.heap[R]? =X (hi #[J hg V.toNat,J hg rl.toNat,h2 a0 z.length c0] 62 (0,0))):=by
     unfold Hid;rw [<- cq,(iX w3 KB q _).block R (λe=>?_)]
     · exact ej.o
     · obtain ⟨⟨cu,ia⟩,_⟩:=a9.kn.blk;exact df ej.o ia (by decide) e
    rw [show ((((w3.setCell {block:=KB,off:=q * 5} (Value.map ta)).setCell {block:=KB,off:=q * 5+1} (Value.string {data:=List.toArray tb})).setCell {block:=KB,off:=q * 5+2} (Value.slice tc h8 h9)).setCell {block:=KB,off:=q * 5+3} (Value.int IntKind.i64 td)).setCell {block:=KB,off:=q * 5+4} (Value.int IntKind.u8 ↑te.toNat)=D from cq];clear cq z0 z1 z2 z3 z4 f0 f1 f2 f3 f4 d7 d8 d9 e0 e1 e2;obtain ⟨d7,d8,d9⟩:D.cell? ⟨R,0,Y⟩=X (J hg V.toNat)/\D.cell? ⟨R,1,Y⟩=X (J hg rl.toNat)/\D.cell? ⟨R,2,Y⟩=X (h2 a0 z.length c0):=⟨(aa cy.o 0).trans rfl,(aa cy.o 1).trans rfl,(aa cy.o 2).trans rfl⟩;have e8:Hid (Calls prog 130 #[.agg #[J hg V.toNat,J hg rl.toNat,h2 a0 z.length c0]] D λe w'=>∃v,e=ih v/\w'.ownsRow D.heap.size 9 1 v (keysR z).length ((keysR z).map λs=>S s)/\Bw D w'):=BK V rl _ z D (em D f6.b) c6.o;have iD:(keysR z).length<=10000000000000:=AE c6.o;have es:=Z (λs (hs:s∈keysR z)=>Bb c6.o hs);have ex:=Z (iu z);have c1:Hid (keysR (l.getD q rec0).fields=keysR z):=by unfold Hid;rw [HR.o]
    obtain ⟨u,gi⟩:=Qe (keysR z);rw [gi] at e8 iD es ex c1;clear gi;go_upto_region 10 with (go_at_call 130;refine lP e8.o ?_;rintro e w5 ⟨v5,rfl,dz,g4⟩;obtain ⟨a5,k5,rfl⟩:=aK dz;have hB:=Z dz;have ac:=Z (f6.o.below g4);clear dz g4)
    clear d7 d8 d9;go_loopw [6,34] (λv i wr=>∃p:Nat,p<=u.length/\i=J U p/\Hid (PR KB (BY+2) KB BY (BY+1) w1 wr l (q+1) (hU l q (u.take p)) (λd=>cameR l q (u.take p) d=true) (λd=>cameR l q (u.take p) d=true/\40<=pointsR (l.getD d.1 rec0) (l.getD d.2 rec0)) (q * a8+p) v)/\Hid (wr.ownsRow D.heap.size 9 1 (h2 a5 u.length k5) u.length (u.map λs=>S s))) (λ_ i _=>u.length - (intOf i).toNat)
    case atStart=>exact ⟨0,lB _,rfl,by rw [List.take_zero,Nat.add_zero];exact ac.o,hB.o⟩
    case round=>
     obtain ⟨p,hp,rfl,b7,b5⟩:=hrel;by_cases hlp:p<u.length
     · have gP:=lb hlp;have d5:Hid (u.take (p+1)=u.take p++[u[p]]):=lm hlp;have b4:Hid (u[p]∉u.take p):=λhm=>by have h1:=ex.1;rw [<- List.take_append_drop p u,List.drop_eq_getElem_cons hlp,ls] at h1;exact h1.2.2 _ hm _ List.mem_cons_self rfl
       obtain ⟨g5,k8,dk,_⟩:=ld b5.o (by omega);cases dk;have g9:wr.cell? ⟨g5,p,Y⟩=X (S u[p]):=by rw [b5.o.cellAt p (by omega),lv,kq hlp];rfl
       have d3:=Z (es _ gP);obtain ⟨s,hs⟩:=Qe (u[p]);rw [hs] at d5 b4 g9 d3;clear hs gP;have bs:¬hU l q (u.take p) s q:=by
        rintro (⟨h1,_⟩|⟨_,h1⟩)
        · omega
        · exact b4 h1
       have g0:q * a8+p<=100000000000000000:=by have:=Nat.mul_le_mul_right a8 (show q<=1000 by omega);have hb:=ee.o;omega
       obtain ⟨x,zs,cm,e7,e6,e4,_⟩:=b7.places g0 s d3.o q bs;obtain ⟨ax,kx,rfl⟩:=aK e7;have hW:=Z e7;have jn:=Z e6;have fy:=Z e4;have k7:zs.length<=1000:=by
        have:=fE zs (lf n) e6 (λi L=>by rw [List.mem_range];rcases (e4 i).1 L with ⟨h1,_⟩|⟨h1,_⟩<;>omega)
        rw [List.length_range] at this;omega
       clear e7 e6 e4 bs;go_upto_region 13 with fail
       clear cm g9;have hH:=b7;have hD:=b5;clear b7 b5;generalize wr=wB at *;go_loopw [6,42] (λv i wr=>∃j:Nat,j<=zs.length/\i=J U j/\Hid (PR KB (BY+2) KB BY (BY+1) w1 wr l (q+1) (hU l q (u.take p)) (λd=>cameR l q (u.take p) d=true∨d.2=q/\d.1∈zs.take j) (λd=>(cameR l q (u.take p) d=true∨d.2=q/\d.1∈zs.take j)/\40<=pointsR (l.getD d.1 rec0) (l.getD d.2 rec0)) (q * a8+p) v)/\Hid (wr.ownsRow D.heap.size 9 1 (h2 (X ⟨g5,0,Y⟩) u.length k5) u.length (u.map λs=>S s))/\Hid (wr.ownsRow KB 3 1 (h2 ax zs.length kx) zs.length (gC zs))) (λ_ i _=>zs.length - (intOf i).toNat)
       case atStart=>exact ⟨0,lB _,rfl,hH.o.congr (λ_ _=>Iff.rfl) (λd=>by simp) (λd=>by simp) (ka _),hD.o,hW.o⟩
       case round=>
        obtain ⟨j,hj,rfl,c5,c4,b8⟩:=hrel;by_cases hlj:j<zs.length
        · obtain ⟨gz,kz,dk,_⟩:=ld b8.o (by omega);cases dk;have h6:wr.cell? ⟨gz,j,Y⟩=X (J U (zs[j]:Int)):=by rw [b8.o.cellAt j (by omega)];unfold gC;rw [lv,kq hlj];rfl
          have e5:=(fy zs[j]).1 (lb hlj);have c7:Hid (zs.take (j+1)=zs.take j++[zs[j]]):=lm hlj;obtain ⟨i,L⟩:=Qe (zs[j]);rw [L] at h6 e5 c7;have iv:i<q:=by
           rcases e5 with ⟨h1,_⟩|⟨_,h1⟩
           · exact h1
           · exact absurd h1 b4.o
          clear L e5;obtain ⟨wz,cs⟩:=Qe (wr.alloc (hi #[J U (i:Int),J U (q:Int)] 211));have bb:Bw wr wz:=by rw [<- cs];exact (kv _ wr).alloc (ka _) _
          have hZ:wz.heap[wr.heap.size]? =X (hi #[J U (i:Int),J U (q:Int)] 211 (0,0)):=by rw [<- cs];exact l1 wr _
          obtain ⟨sb,gy,cm,W5,gQ,ac,g8⟩:=(c5.o.below bb).seen (by rw [b3.o];exact hn) i q iv b2;have hL:=Z (c5.below bb);have d0:Hid (wz.ownsRow D.heap.size 9 1 (h2 (X ⟨g5,0,Y⟩) u.length k5) u.length (u.map λs=>S s)):=ah c4.o (λg E=>bb.block g (c4.lt g E).2);have d6:Hid (wz.ownsRow KB 3 1 (h2 (X ⟨gz,0,Y⟩) zs.length kx) zs.length (gC zs)):=ah b8.o (λg E=>bb.block g (b8.lt g E).2);obtain ⟨z0,z1⟩:=db hZ;have hT:=Z cs;obtain ⟨Rz,da⟩:=Qe wr.heap.size;rw [da] at z0 z1;have hN:=Z da;have fr:=Z gy;have ac:=Z ac;have hO:=Z gQ;have eg:=Z g8;clear cs bb hZ da gy gQ g8;go_upto_region 16 with fail
          rw [hT.o,hN.o];clear h6;cases sb
          · have hy:=Z (λI=>Bool.false_ne_true (fr.2 I));go_upto_region 18 with (at_mapUpdate;refine wpList_plain rfl λK hK=>?_;refine fU rfl hO.o ?_;refine hK _ _ ?_)
            have i6:=ac.o.kn.get (i:=i) (by omega);have i7:=ac.kn.get (i:=q) b2;obtain ⟨⟨x1,x2,x3,x4,x5,x6,x7⟩,ch,i0,i1,i2,i3,i4⟩:=i6;obtain ⟨⟨y1,y2,y3,y4,y5,y6,y7⟩,cl,j0,j1,j2,j3,j4⟩:=i7;dsimp only at i0 i1 i2 i3 i4 j0 j1 j2 j3 j4;have ch:=ch (by omega);have cl:=cl (by omega);have hY:=ac.kn.blk.2.1
            have hu:Hid (∀W,Bw W5 W->(W.cell? ⟨KB,i * 5,Y⟩=X (.map x1)/\W.cell? ⟨KB,i * 5+1,Y⟩=X (S x2)/\W.cell? ⟨KB,i * 5+2,Y⟩=X (h2 x3 x4 x5)/\W.cell? ⟨KB,i * 5+3,Y⟩=X (J U x6)/\W.cell? ⟨KB,i * 5+4,Y⟩=X (J hg x7.toNat))/\
             (W.cell? ⟨KB,q * 5,Y⟩=X (.map y1)/\W.cell? ⟨KB,q * 5+1,Y⟩=X (S y2)/\W.cell? ⟨KB,q * 5+2,Y⟩=X (h2 y3 y4 y5)/\W.cell? ⟨KB,q * 5+3,Y⟩=X (J U y6)/\W.cell? ⟨KB,q * 5+4,Y⟩=X (J hg y7.toNat))):=λW hb=>by
             have M:∀o,W.cell? ⟨KB,o,Y⟩=W5.cell? ⟨KB,o,Y⟩:=λo=>World.cell?_of_block (a:=⟨KB,o,Y⟩) (hb.block KB hY)
             rw [M,M,M,M,M,M,M,M,M,M]
             exact ⟨⟨i0,i1,i2,i3,i4⟩,j0,j1,j2,j3,j4⟩
            have it:i<l.length:=by omega
            have k1:i<n:=by omega
            have f9:Hid (∀W,Bw W5 W->Calls prog 131 #[.agg #[.map x1,S x2,h2 x3 x4 x5,J U x6,J hg x7.toNat], .agg #[.map y1,S y2,h2 y3 y4 y5,J U y6,J hg y7.toNat]] W λe w'=>e=ih (J U (pointsR (l.getD i rec0) (l.getD q rec0)))/\Bw W w'):=λW hb=>
             tX _ _ _ _ _ _ W (cf.below ch hb) (cf.below cl hb) (jL (d4 i it)) (jL (d4 q b2))
            clear i0 i1 i2 i3 i4 j0 j1 j2 j3 j4 ch cl cm z0 z1;obtain ⟨P,hP⟩:=Qe (pointsR (l.getD i rec0) (l.getD q rec0));have f8:=Z hP;rw [hP] at f9;clear hP;go_simp;have ao:Bw W5 W5.drew:=(kv _ W5).drew;refine Wb W5 999 ?_;refine Qd [0,1,2,3,4,5,6,7] ao hu ?_;refine Dq 8 λK hK=>?_;go_simp;go_at_call 131;refine lP (f9 _ ao) ?_;rintro e Q ⟨rfl,ad⟩;have ad:Bw W5 Q:=ao.trans (ad.mono ao.size);refine hK _ _ (λ_=>ad) ?_;clear hK K;refine Qc [9] ad ?_
            refine dN ?_;have aS:=Z (ac.below ad);have eQ:Hid (Q.ownsRow D.heap.size 9 1 (h2 (X ⟨g5,0,Y⟩) u.length k5) u.length (u.map λs=>S s)):=ah d0.o (λg E=>by obtain ⟨c,I⟩:=aA d0.o E;have h5:=eg g c 9 I;exact (ad.block g (ae (h5.trans I))).trans h5)
            have fx:Hid (Q.ownsRow KB 3 1 (h2 (X ⟨gz,0,Y⟩) zs.length kx) zs.length (gC zs)):=ah d6.o (λg E=>by obtain ⟨c,I⟩:=aA d6.o E;have h5:=eg g c 3 I;exact (ad.block g (ae (h5.trans I))).trans h5)
            clear ad ao;have bY:Hid (∀d,(cameR l q (u.take p) d=true∨d.2=q/\d.1∈zs.take (j+1))↔((cameR l q (u.take p) d=true∨d.2=q/\d.1∈zs.take j)∨d=(i,q))):=λd=>by rw [c7.o];exact tY (C:=λd=>cameR l q (u.take p) d=true) d
            by_cases hP40:40<=P
            · obtain ⟨G,ho⟩:=aS.o.o;obtain ⟨au,cu,rfl⟩:=aK ho.1;have HO:=Z ho;have gp:G.length<=1000000:=by
               have h1:=lY (n:=l.length) (m:=G.map nd) (by
                rw [List.Nodup,lp];refine List.Pairwise.imp ?_ ho.2.1;intro a b dc e;injection e with e1 e2
                exact dc (Prod.ext (by omega) (by omega))) (λp hp=>by
                obtain ⟨o,iP,rfl⟩:=List.mem_map.1 hp;have:=aS.cb _ (aS.ob _ ((ho.2.2 o).1 iP));exact ⟨o.1,o.2,rfl,by omega,this.2⟩)
               rw [kb] at h1;have bp:l.length<=1000:=by rw [b3.o];exact hn
               exact kc h1 (kc (lQ bp bp) (by omega))
              have k3:KB<=Q.heap.size:=aS.los.2.2.2.2;obtain ⟨iN,bk,bB,bD,bO⟩:=info_parts i67;have HI:=Z bk;have cz:=Z bB;have cP:=Z bD;have cQ:=Z bO;clear ho bk bB bD bO;go_wp2_with (at_builtin;(refine wpList_append_own_at _ rfl _ _ 65 rfl KB 67 iN (.agg #[J U 0,J U 0]) 2 16 underlying65 HI.o cz.o cP.o cQ.o rfl (by decide) (h2 au G.length cu) G.length (G.flatMap dM) ?_ ?_ ⟨Q.heap.size,0,Y⟩ 1 1 [J U (i:Int),J U (q:Int)] ?_ ?_ ?_ ?_ ?_ ?_ ?_ ?_);(focus rfl);(focus exact ah HO.o.1 (λg E=>((kv _ Q).alloc (ka _) _).block g (HO.o.1.lt g E).2));(focus rfl);(focus rfl);(focus exact cell_two_new _ _ _ _);(focus simp [Value.oneCell']);(focus (unfold maxLen;omega));(focus omega);(focus (simp;omega));intro v' w7 bt bc _ _;have hC:=Z bt;have eq:=Z bc;clear bt bc)
              have dd:Bw Q (Q.alloc (hi #[J U (i:Int),J U (q:Int)] 67)):=(kv _ Q).alloc (ka _) _;have hG:=aS.outs (i:=i) (k:=q) (.inr rfl) (λh=>hy h.1) dd eq.o HO.o hC.o;have gb:∀{lo e n:Nat} {v:ko} {y:List ko},Q.ownsRow lo e 1 v n y->e≠67->w7.ownsRow lo e 1 v n y:=λ{lo e n v y} T he=>ah T (λg E=>by
               have b0:=(T.lt g E).2;rw [eq.o.block g (lk b0 dd.size) (λe2=>by obtain ⟨c,I⟩:=aA T E;obtain ⟨c2,i8⟩:=aA HO.1 e2.symm;exact df I i8 he rfl)]
               exact dd.block g b0)
              go_roundw
              case rel=>
               refine ⟨j+1,hlj,by go_num,hG.congr (λ_ _=>Iff.rfl) bY.o (λd=>?_) (ka _),gb eQ.o (by decide),gb fx.o (by decide)⟩;rw [bY.o];constructor
               · rintro ⟨h1|h1,A⟩
                 · exact .inl ⟨h1,A⟩
                 · exact .inr h1
               · rintro (⟨h1,A⟩|h1)
                 · exact ⟨.inl h1,A⟩
                 · refine ⟨.inr h1,?_⟩;rw [h1];dsimp only;rw [f8.o];exact hP40
              case measure=>simp [intOf];omega
            · go_wp2_with fail
              go_roundw
              case rel=>
               refine ⟨j+1,hlj,by go_num,aS.congr (λ_ _=>Iff.rfl) bY.o (λd=>?_) (ka _),eQ.o,fx.o⟩;rw [bY.o];constructor
               · rintro ⟨h1|h1,A⟩
                 · exact ⟨h1,A⟩
                 · rw [h1] at A;dsimp only at A;rw [f8.o] at A;exact absurd A hP40
               · rintro ⟨h1,A⟩;exact ⟨.inl h1,A⟩
              case measure=>simp [intOf];omega
          · have HC:=Z (fr.1 rfl);go_wp2_with fail
            go_roundw
            case rel=>
             refine ⟨j+1,hlj,by go_num,hL.congr (λ_ _=>Iff.rfl) (λd=>?_) (λd=>?_) (ka _),d0.o,d6.o⟩
             · rw [c7.o];exact (nT (C:=λd=>cameR l q (u.take p) d=true) HC.o d).symm
             · rw [c7.o];exact and_congr_left' (nT (C:=λd=>cameR l q (u.take p) d=true) HC.o d).symm
            case measure=>simp [intOf];omega
        · have h7:zs.take j=zs:=lT (by omega);have f7:Hid (PR KB (BY+2) KB BY (BY+1) w1 wr l (q+1) (hU l q (u.take p)) (λd=>cameR l q (u.take (p+1)) d=true) (λd=>cameR l q (u.take (p+1)) d=true/\40<=pointsR (l.getD d.1 rec0) (l.getD d.2 rec0)) (q * a8+p) u6):=by
           have h:=c5.o;rw [h7] at h;have e:∀d,cameR l q (u.take (p+1)) d=true↔(cameR l q (u.take p) d=true∨d.2=q/\d.1∈zs):=λd=>by rw [d5.o,xP b4.o,fy.o]
           exact h.congr (λ_ _=>Iff.rfl) e (λd=>by rw [e]) (ka _)
          clear c5 b8 h7;have bs:¬hU l q (u.take p) s q:=by
           rintro (⟨h1,_⟩|⟨_,h1⟩)
           · omega
           · exact b4 h1
          obtain ⟨x,ys,cm,e3,h4,h3,gq⟩:=f7.places g0 s d3.o q bs;obtain ⟨ay,ky,rfl⟩:=aK e3;have k6:ys.length<=1000:=by
           have:=fE ys (lf n) h4 (λi L=>by rw [List.mem_range];rcases (h3 i).1 L with ⟨h1,_⟩|⟨h1,_⟩<;>omega)
           rw [List.length_range] at this;omega
          have ft:=Z e3;have hJ:=Z gq;have k2:=f7.los.2.2.2.2;obtain ⟨iN,bk,bB,bD,bO⟩:=info_parts i3;have HI:=Z bk;have cz:=Z bB;have cP:=Z bD;have cQ:=Z bO;clear e3 h4 h3 gq bs bk bB bD bO;have g7:Bw wr (wr.alloc (hi #[J U (q:Int)] 3)):=(kv _ wr).alloc (ka _) _;have bT:=Z g7;clear g7
          go_wp2_with (first
           |(at_builtin;(refine wpList_append_own_at _ rfl _ _ 84 rfl KB 3 iN (J U 0) 1 8 underlying84 HI.o cz.o cP.o cQ.o rfl (by decide) (h2 ay ys.length ky) ys.length (gC ys) ?_ ?_ ⟨wr.heap.size,0,Y⟩ 1 1 [J U (q:Int)] ?_ ?_ ?_ ?_ ?_ ?_ ?_ ?_);(focus rfl);(focus exact ah ft.o (λg E=>bT.o.block g (ft.o.lt g E).2));(focus rfl);(focus rfl);(focus exact cell_one_new _ _ _);(focus simp [Value.oneCell']);(focus (unfold maxLen;omega));(focus omega);(focus (have:=bT.o.size;omega));intro v' w7 bt bc _ gn;obtain ⟨W8,h0,d1,gf⟩:=hJ.o v' _ w7 bT.o bc bt gn;have hQ:=Z h0;have d1:=Z d1;have ht:=Z gf;clear bt bc gn h0 gf)
           |(at_mapUpdate;refine wpList_plain rfl λK hK=>?_;refine fU rfl hQ.o ?_;refine hK _ _ ?_))
          go_roundw
          case rel=>
           refine ⟨p+1,hlp,by go_num,d1.o.congr (λt i=>?_) (λ_=>Iff.rfl) (λ_=>Iff.rfl) (by omega),ah c4.o (λg E=>?_)⟩
           · rw [d5.o,zl]
           · obtain ⟨c,I⟩:=aA c4.o E;have A:=bT.block g (ae I);exact (ht g c (A.trans I)).trans A
          case measure=>simp [intOf];omega
     · have hI:Hid (PR KB (BY+2) KB BY (BY+1) w1 wr l (q+1) (hU l (q+1) []) (λd=>cameR l (q+1) [] d=true) (λd=>cameR l (q+1) [] d=true/\40<=pointsR (l.getD d.1 rec0) (l.getD d.2 rec0)) ((q+1) * a8) u6):=by
        have h:=b7.o;rw [lT (by omega)] at h;refine h.congr (λs i=>?_) (λd=>?_) (λd=>?_) (by rw [Nat.succ_mul,ee.o];omega)
        · rw [zm,c1.o]
        · rw [oI,c1.o]
        · rw [oI,c1.o]
       clear b7 b5;go_wp2_with fail
       go_roundw
       case rel=>exact ⟨q+1,b0,by go_num,hI⟩
       case measure=>simp [intOf];omega
  · obtain rfl:q=n:=by omega
    obtain ⟨G,dx,b1,dy⟩:=HP.o.o;have gp:G.length<=1000000:=by
     have h1:=lY (n:=l.length) (m:=G.map nd) (by
      rw [List.Nodup,lp];refine List.Pairwise.imp ?_ b1;intro a b dc e;injection e with e1 e2
      exact dc (Prod.ext (by omega) (by omega))) (λp hp=>by
      obtain ⟨o,ho,rfl⟩:=List.mem_map.1 hp;have:=HP.cb _ (HP.ob _ ((dy o).1 ho));exact ⟨o.1,o.2,rfl,by omega,this.2⟩)
     rw [kb] at h1;have bp:l.length<=1000:=by rw [b3.o];exact hn
     exact kc h1 (kc (lQ bp bp) (by omega))
    have f5:Hid (cw ltRK (G.map nd)=(pairsR l).map nd):=yv b1 (λp=>uP l G (λp=>by rw [dy,b3.o]) p);have ha:Hid (Calls prog 132 #[u6, .func (.func 133) #[] #[]] wr λe w'=>e=ih (.tuple #[])/\w'.ownsRow KB 67 2 u6 G.length (((pairsR l).map nd).flatMap rkCells)/\Below KB w1 w'):=by have T:=dx;rw [vP] at T;have A:=wm KB wr u6 (G.map nd) (by rw [kb];exact T) (by rw [kb];exact gp);rw [kb,f5.o] at A;refine A.mono ?_;rintro e w' ⟨a1,a2,a3,a4,a5,a6,a7⟩;refine ⟨a1,a2,HP.o.b.trans ⟨a3,a4,a5,a6,λk M=>a7 k (by have:=HP.o.los.2.2.2.2;omega) (λe=>by have:=(dx.lt k e).1;omega)⟩⟩
    have hw:Hid (G.length=(pairsR l).length):=by have:=congrArg List.length f5.o;rw [(cZ _ _).length_eq,kb,kb] at this;exact this
    clear dx b1 dy;go_wp2_with (go_at_call 132;refine lP ha.o ?_;rintro e w2 ⟨rfl,b1,b9⟩;have hA:=Z b1;have hd:=Z b9;clear b1 b9)
    refine bodyPost_ret (results_tmp rfl _ _ _) rfl ⟨u6,rfl,?_,?_⟩
    · rw [er.o, <- hw.o,vP];exact hA.o
    · exact e9.o.trans (hd.o.mono (by rw [er.o];exact ka _))
end
end Go.Proofs.YtjcimanddakkaaaGreatDoor
