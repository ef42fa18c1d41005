import Derived.Test.YtmfccnnkolegmaaFw36
import Derived.Test.YtmfccnnkolegmaaProg
set_option linter.unusedSimpArgs false
set_option linter.unusedVariables false
namespace Go.Fw
open Go.Proofs
theorem Try.agg1 : tagg Try.prog 1 = some false := by kernel_rfl
theorem Try.sz1 : tsz Try.prog 1 = some 1 := by kernel_rfl
theorem Try.byt1 : tbytes Try.prog 1 = some 8 := by kernel_rfl
theorem Try.zero1 : tzero Try.prog 1 = some .nilFunc := by kernel_rfl
theorem Try.agg2 : tagg Try.prog 2 = some false := by kernel_rfl
theorem Try.sz2 : tsz Try.prog 2 = some 1 := by kernel_rfl
theorem Try.byt2 : tbytes Try.prog 2 = some 8 := by kernel_rfl
theorem Try.zero2 : tzero Try.prog 2 = some (.int .i64 0) := by kernel_rfl
theorem Try.agg3 : tagg Try.prog 3 = some false := by kernel_rfl
theorem Try.sz3 : tsz Try.prog 3 = some 1 := by kernel_rfl
theorem Try.byt3 : tbytes Try.prog 3 = some 8 := by kernel_rfl
theorem Try.zero3 : tzero Try.prog 3 = some (.int .i64 0) := by kernel_rfl
theorem Try.agg4 : tagg Try.prog 4 = some false := by kernel_rfl
theorem Try.sz4 : tsz Try.prog 4 = some 1 := by kernel_rfl
theorem Try.byt4 : tbytes Try.prog 4 = some 1 := by kernel_rfl
theorem Try.zero4 : tzero Try.prog 4 = some (.bool false) := by kernel_rfl
theorem Try.agg5 : tagg Try.prog 5 = some false := by kernel_rfl
theorem Try.sz5 : tsz Try.prog 5 = some 1 := by kernel_rfl
theorem Try.byt5 : tbytes Try.prog 5 = some 1 := by kernel_rfl
theorem Try.zero5 : tzero Try.prog 5 = some (.int .u8 0) := by kernel_rfl
theorem Try.agg6 : tagg Try.prog 6 = some false := by kernel_rfl
theorem Try.sz6 : tsz Try.prog 6 = some 1 := by kernel_rfl
theorem Try.byt6 : tbytes Try.prog 6 = some 1 := by kernel_rfl
theorem Try.zero6 : tzero Try.prog 6 = some (.int .u8 0) := by kernel_rfl
theorem Try.agg7 : tagg Try.prog 7 = some true := by kernel_rfl
theorem Try.sz7 : tsz Try.prog 7 = some 4 := by kernel_rfl
theorem Try.byt7 : tbytes Try.prog 7 = some 24 := by kernel_rfl
theorem Try.zero7 : tzero Try.prog 7 = some (.agg #[(.int .i64 0), (.int .i64 0), (.bool false), (.int .u8 0)]) := by kernel_rfl
theorem Try.agg8 : tagg Try.prog 8 = some true := by kernel_rfl
theorem Try.sz8 : tsz Try.prog 8 = some 4 := by kernel_rfl
theorem Try.byt8 : tbytes Try.prog 8 = some 24 := by kernel_rfl
theorem Try.zero8 : tzero Try.prog 8 = some (.agg #[(.int .i64 0), (.int .i64 0), (.bool false), (.int .u8 0)]) := by kernel_rfl
theorem Try.agg9 : tagg Try.prog 9 = some false := by kernel_rfl
theorem Try.sz9 : tsz Try.prog 9 = some 1 := by kernel_rfl
theorem Try.byt9 : tbytes Try.prog 9 = some 16 := by kernel_rfl
theorem Try.zero9 : tzero Try.prog 9 = some (.string .empty) := by kernel_rfl
theorem Try.agg10 : tagg Try.prog 10 = some false := by kernel_rfl
theorem Try.sz10 : tsz Try.prog 10 = some 1 := by kernel_rfl
theorem Try.byt10 : tbytes Try.prog 10 = some 16 := by kernel_rfl
theorem Try.zero10 : tzero Try.prog 10 = some (.string .empty) := by kernel_rfl
theorem Try.agg11 : tagg Try.prog 11 = some false := by kernel_rfl
theorem Try.sz11 : tsz Try.prog 11 = some 1 := by kernel_rfl
theorem Try.byt11 : tbytes Try.prog 11 = some 16 := by kernel_rfl
theorem Try.zero11 : tzero Try.prog 11 = some (.string .empty) := by kernel_rfl
theorem Try.agg12 : tagg Try.prog 12 = some false := by kernel_rfl
theorem Try.sz12 : tsz Try.prog 12 = some 1 := by kernel_rfl
theorem Try.byt12 : tbytes Try.prog 12 = some 8 := by kernel_rfl
theorem Try.zero12 : tzero Try.prog 12 = some (.int .u64 0) := by kernel_rfl
theorem Try.agg13 : tagg Try.prog 13 = some true := by kernel_rfl
theorem Try.sz13 : tsz Try.prog 13 = some 2 := by kernel_rfl
theorem Try.byt13 : tbytes Try.prog 13 = some 24 := by kernel_rfl
theorem Try.zero13 : tzero Try.prog 13 = some (.agg #[(.string .empty), (.int .u64 0)]) := by kernel_rfl
theorem Try.agg14 : tagg Try.prog 14 = some true := by kernel_rfl
theorem Try.sz14 : tsz Try.prog 14 = some 2 := by kernel_rfl
theorem Try.byt14 : tbytes Try.prog 14 = some 24 := by kernel_rfl
theorem Try.zero14 : tzero Try.prog 14 = some (.agg #[(.string .empty), (.int .u64 0)]) := by kernel_rfl
theorem Try.agg15 : tagg Try.prog 15 = some false := by kernel_rfl
theorem Try.sz15 : tsz Try.prog 15 = some 1 := by kernel_rfl
theorem Try.byt15 : tbytes Try.prog 15 = some 8 := by kernel_rfl
theorem Try.zero15 : tzero Try.prog 15 = some (.pointer none) := by kernel_rfl
theorem Try.agg16 : tagg Try.prog 16 = some false := by kernel_rfl
theorem Try.sz16 : tsz Try.prog 16 = some 1 := by kernel_rfl
theorem Try.byt16 : tbytes Try.prog 16 = some 8 := by kernel_rfl
theorem Try.zero16 : tzero Try.prog 16 = some (.pointer none) := by kernel_rfl
theorem Try.agg17 : tagg Try.prog 17 = some false := by kernel_rfl
theorem Try.sz17 : tsz Try.prog 17 = some 1 := by kernel_rfl
theorem Try.byt17 : tbytes Try.prog 17 = some 8 := by kernel_rfl
theorem Try.zero17 : tzero Try.prog 17 = some (.pointer none) := by kernel_rfl
theorem Try.agg18 : tagg Try.prog 18 = some true := by kernel_rfl
theorem Try.sz18 : tsz Try.prog 18 = some 1 := by kernel_rfl
theorem Try.byt18 : tbytes Try.prog 18 = some 8 := by kernel_rfl
theorem Try.zero18 : tzero Try.prog 18 = some (.agg #[(.pointer none)]) := by kernel_rfl
theorem Try.agg19 : tagg Try.prog 19 = some true := by kernel_rfl
theorem Try.sz19 : tsz Try.prog 19 = some 1 := by kernel_rfl
theorem Try.byt19 : tbytes Try.prog 19 = some 8 := by kernel_rfl
theorem Try.zero19 : tzero Try.prog 19 = some (.agg #[(.pointer none)]) := by kernel_rfl
theorem Try.agg20 : tagg Try.prog 20 = some false := by kernel_rfl
theorem Try.sz20 : tsz Try.prog 20 = some 1 := by kernel_rfl
theorem Try.byt20 : tbytes Try.prog 20 = some 16 := by kernel_rfl
theorem Try.zero20 : tzero Try.prog 20 = some .nilIface := by kernel_rfl
theorem Try.agg21 : tagg Try.prog 21 = some false := by kernel_rfl
theorem Try.sz21 : tsz Try.prog 21 = some 1 := by kernel_rfl
theorem Try.byt21 : tbytes Try.prog 21 = some 4 := by kernel_rfl
theorem Try.zero21 : tzero Try.prog 21 = some (.int .i32 0) := by kernel_rfl
theorem Try.agg22 : tagg Try.prog 22 = some false := by kernel_rfl
theorem Try.sz22 : tsz Try.prog 22 = some 1 := by kernel_rfl
theorem Try.byt22 : tbytes Try.prog 22 = some 8 := by kernel_rfl
theorem Try.zero22 : tzero Try.prog 22 = some .nilFunc := by kernel_rfl
theorem Try.agg23 : tagg Try.prog 23 = some false := by kernel_rfl
theorem Try.sz23 : tsz Try.prog 23 = some 1 := by kernel_rfl
theorem Try.byt23 : tbytes Try.prog 23 = some 8 := by kernel_rfl
theorem Try.zero23 : tzero Try.prog 23 = some (.int .i64 0) := by kernel_rfl
theorem Try.agg25 : tagg Try.prog 25 = some false := by kernel_rfl
theorem Try.sz25 : tsz Try.prog 25 = some 1 := by kernel_rfl
theorem Try.byt25 : tbytes Try.prog 25 = some 8 := by kernel_rfl
theorem Try.zero25 : tzero Try.prog 25 = some .nilFunc := by kernel_rfl
theorem Try.agg26 : tagg Try.prog 26 = some false := by kernel_rfl
theorem Try.sz26 : tsz Try.prog 26 = some 1 := by kernel_rfl
theorem Try.byt26 : tbytes Try.prog 26 = some 8 := by kernel_rfl
theorem Try.zero26 : tzero Try.prog 26 = some .nilFunc := by kernel_rfl
theorem Try.agg27 : tagg Try.prog 27 = some false := by kernel_rfl
theorem Try.sz27 : tsz Try.prog 27 = some 1 := by kernel_rfl
theorem Try.byt27 : tbytes Try.prog 27 = some 2 := by kernel_rfl
theorem Try.zero27 : tzero Try.prog 27 = some (.int .u16 0) := by kernel_rfl
theorem Try.agg28 : tagg Try.prog 28 = some false := by kernel_rfl
theorem Try.sz28 : tsz Try.prog 28 = some 1 := by kernel_rfl
theorem Try.byt28 : tbytes Try.prog 28 = some 8 := by kernel_rfl
theorem Try.zero28 : tzero Try.prog 28 = some .nilFunc := by kernel_rfl
theorem Try.agg29 : tagg Try.prog 29 = some false := by kernel_rfl
theorem Try.sz29 : tsz Try.prog 29 = some 1 := by kernel_rfl
theorem Try.byt29 : tbytes Try.prog 29 = some 8 := by kernel_rfl
theorem Try.zero29 : tzero Try.prog 29 = some .nilFunc := by kernel_rfl
theorem Try.agg30 : tagg Try.prog 30 = some false := by kernel_rfl
theorem Try.sz30 : tsz Try.prog 30 = some 1 := by kernel_rfl
theorem Try.byt30 : tbytes Try.prog 30 = some 24 := by kernel_rfl
theorem Try.el30 : telem Try.prog 30 = some 34 := by kernel_rfl
theorem Try.zero30 : tzero Try.prog 30 = some (.slice none 0 0) := by kernel_rfl
theorem Try.agg31 : tagg Try.prog 31 = some false := by kernel_rfl
theorem Try.sz31 : tsz Try.prog 31 = some 1 := by kernel_rfl
theorem Try.byt31 : tbytes Try.prog 31 = some 24 := by kernel_rfl
theorem Try.el31 : telem Try.prog 31 = some 33 := by kernel_rfl
theorem Try.zero31 : tzero Try.prog 31 = some (.slice none 0 0) := by kernel_rfl
theorem Try.agg32 : tagg Try.prog 32 = some true := by kernel_rfl
theorem Try.sz32 : tsz Try.prog 32 = some 3 := by kernel_rfl
theorem Try.byt32 : tbytes Try.prog 32 = some 24 := by kernel_rfl
theorem Try.zero32 : tzero Try.prog 32 = some (.agg #[(.int .u8 0), (.int .i64 0), (.int .i64 0)]) := by kernel_rfl
theorem Try.agg33 : tagg Try.prog 33 = some true := by kernel_rfl
theorem Try.sz33 : tsz Try.prog 33 = some 3 := by kernel_rfl
theorem Try.byt33 : tbytes Try.prog 33 = some 24 := by kernel_rfl
theorem Try.zero33 : tzero Try.prog 33 = some (.agg #[(.int .u8 0), (.int .i64 0), (.int .i64 0)]) := by kernel_rfl
theorem Try.agg34 : tagg Try.prog 34 = some true := by kernel_rfl
theorem Try.sz34 : tsz Try.prog 34 = some 3 := by kernel_rfl
theorem Try.byt34 : tbytes Try.prog 34 = some 24 := by kernel_rfl
theorem Try.zero34 : tzero Try.prog 34 = some (.agg #[(.int .u8 0), (.int .i64 0), (.int .i64 0)]) := by kernel_rfl
theorem Try.agg35 : tagg Try.prog 35 = some false := by kernel_rfl
theorem Try.sz35 : tsz Try.prog 35 = some 1 := by kernel_rfl
theorem Try.byt35 : tbytes Try.prog 35 = some 24 := by kernel_rfl
theorem Try.el35 : telem Try.prog 35 = some 3 := by kernel_rfl
theorem Try.zero35 : tzero Try.prog 35 = some (.slice none 0 0) := by kernel_rfl
theorem Try.agg36 : tagg Try.prog 36 = some false := by kernel_rfl
theorem Try.sz36 : tsz Try.prog 36 = some 1 := by kernel_rfl
theorem Try.byt36 : tbytes Try.prog 36 = some 8 := by kernel_rfl
theorem Try.zero36 : tzero Try.prog 36 = some .nilFunc := by kernel_rfl
theorem Try.agg37 : tagg Try.prog 37 = some false := by kernel_rfl
theorem Try.sz37 : tsz Try.prog 37 = some 1 := by kernel_rfl
theorem Try.byt37 : tbytes Try.prog 37 = some 8 := by kernel_rfl
theorem Try.zero37 : tzero Try.prog 37 = some .nilFunc := by kernel_rfl
theorem Try.agg38 : tagg Try.prog 38 = some false := by kernel_rfl
theorem Try.sz38 : tsz Try.prog 38 = some 1 := by kernel_rfl
theorem Try.byt38 : tbytes Try.prog 38 = some 8 := by kernel_rfl
theorem Try.zero38 : tzero Try.prog 38 = some .nilFunc := by kernel_rfl
theorem Try.agg39 : tagg Try.prog 39 = some false := by kernel_rfl
theorem Try.sz39 : tsz Try.prog 39 = some 1 := by kernel_rfl
theorem Try.byt39 : tbytes Try.prog 39 = some 8 := by kernel_rfl
theorem Try.zero39 : tzero Try.prog 39 = some .nilFunc := by kernel_rfl
theorem Try.agg40 : tagg Try.prog 40 = some false := by kernel_rfl
theorem Try.sz40 : tsz Try.prog 40 = some 1 := by kernel_rfl
theorem Try.byt40 : tbytes Try.prog 40 = some 24 := by kernel_rfl
theorem Try.el40 : telem Try.prog 40 = some 5 := by kernel_rfl
theorem Try.zero40 : tzero Try.prog 40 = some (.slice none 0 0) := by kernel_rfl
theorem Try.agg41 : tagg Try.prog 41 = some false := by kernel_rfl
theorem Try.sz41 : tsz Try.prog 41 = some 1 := by kernel_rfl
theorem Try.byt41 : tbytes Try.prog 41 = some 8 := by kernel_rfl
theorem Try.zero41 : tzero Try.prog 41 = some .nilFunc := by kernel_rfl
theorem Try.agg42 : tagg Try.prog 42 = some false := by kernel_rfl
theorem Try.sz42 : tsz Try.prog 42 = some 1 := by kernel_rfl
theorem Try.byt42 : tbytes Try.prog 42 = some 8 := by kernel_rfl
theorem Try.zero42 : tzero Try.prog 42 = some .nilFunc := by kernel_rfl
theorem Try.agg43 : tagg Try.prog 43 = some false := by kernel_rfl
theorem Try.sz43 : tsz Try.prog 43 = some 1 := by kernel_rfl
theorem Try.byt43 : tbytes Try.prog 43 = some 8 := by kernel_rfl
theorem Try.zero43 : tzero Try.prog 43 = some .nilFunc := by kernel_rfl
theorem Try.agg45 : tagg Try.prog 45 = some false := by kernel_rfl
theorem Try.sz45 : tsz Try.prog 45 = some 1 := by kernel_rfl
theorem Try.byt45 : tbytes Try.prog 45 = some 8 := by kernel_rfl
theorem Try.zero45 : tzero Try.prog 45 = some .nilFunc := by kernel_rfl
theorem Try.agg46 : tagg Try.prog 46 = some false := by kernel_rfl
theorem Try.sz46 : tsz Try.prog 46 = some 1 := by kernel_rfl
theorem Try.byt46 : tbytes Try.prog 46 = some 24 := by kernel_rfl
theorem Try.el46 : telem Try.prog 46 = some 51 := by kernel_rfl
theorem Try.zero46 : tzero Try.prog 46 = some (.slice none 0 0) := by kernel_rfl
theorem Try.agg48 : tagg Try.prog 48 = some false := by kernel_rfl
theorem Try.sz48 : tsz Try.prog 48 = some 1 := by kernel_rfl
theorem Try.byt48 : tbytes Try.prog 48 = some 8 := by kernel_rfl
theorem Try.zero48 : tzero Try.prog 48 = some .nilFunc := by kernel_rfl
theorem Try.agg49 : tagg Try.prog 49 = some false := by kernel_rfl
theorem Try.sz49 : tsz Try.prog 49 = some 1 := by kernel_rfl
theorem Try.byt49 : tbytes Try.prog 49 = some 4 := by kernel_rfl
theorem Try.zero49 : tzero Try.prog 49 = some (.int .u32 0) := by kernel_rfl
theorem Try.agg50 : tagg Try.prog 50 = some true := by kernel_rfl
theorem Try.sz50 : tsz Try.prog 50 = some 2 := by kernel_rfl
theorem Try.byt50 : tbytes Try.prog 50 = some 16 := by kernel_rfl
theorem Try.zero50 : tzero Try.prog 50 = some (.agg #[(.int .u32 0), (.int .i64 0)]) := by kernel_rfl
theorem Try.agg51 : tagg Try.prog 51 = some true := by kernel_rfl
theorem Try.sz51 : tsz Try.prog 51 = some 2 := by kernel_rfl
theorem Try.byt51 : tbytes Try.prog 51 = some 16 := by kernel_rfl
theorem Try.zero51 : tzero Try.prog 51 = some (.agg #[(.int .u32 0), (.int .i64 0)]) := by kernel_rfl
theorem Try.agg52 : tagg Try.prog 52 = some false := by kernel_rfl
theorem Try.sz52 : tsz Try.prog 52 = some 1 := by kernel_rfl
theorem Try.byt52 : tbytes Try.prog 52 = some 8 := by kernel_rfl
theorem Try.zero52 : tzero Try.prog 52 = some .nilFunc := by kernel_rfl
theorem Try.agg54 : tagg Try.prog 54 = some false := by kernel_rfl
theorem Try.sz54 : tsz Try.prog 54 = some 1 := by kernel_rfl
theorem Try.byt54 : tbytes Try.prog 54 = some 8 := by kernel_rfl
theorem Try.zero54 : tzero Try.prog 54 = some .nilFunc := by kernel_rfl
theorem Try.agg55 : tagg Try.prog 55 = some false := by kernel_rfl
theorem Try.sz55 : tsz Try.prog 55 = some 1 := by kernel_rfl
theorem Try.byt55 : tbytes Try.prog 55 = some 8 := by kernel_rfl
theorem Try.zero55 : tzero Try.prog 55 = some .nilFunc := by kernel_rfl
theorem Try.agg56 : tagg Try.prog 56 = some false := by kernel_rfl
theorem Try.sz56 : tsz Try.prog 56 = some 1 := by kernel_rfl
theorem Try.byt56 : tbytes Try.prog 56 = some 8 := by kernel_rfl
theorem Try.zero56 : tzero Try.prog 56 = some .nilFunc := by kernel_rfl
theorem Try.agg57 : tagg Try.prog 57 = some false := by kernel_rfl
theorem Try.sz57 : tsz Try.prog 57 = some 1 := by kernel_rfl
theorem Try.byt57 : tbytes Try.prog 57 = some 24 := by kernel_rfl
theorem Try.el57 : telem Try.prog 57 = some 60 := by kernel_rfl
theorem Try.zero57 : tzero Try.prog 57 = some (.slice none 0 0) := by kernel_rfl
theorem Try.agg59 : tagg Try.prog 59 = some false := by kernel_rfl
theorem Try.sz59 : tsz Try.prog 59 = some 1 := by kernel_rfl
theorem Try.byt59 : tbytes Try.prog 59 = some 8 := by kernel_rfl
theorem Try.zero59 : tzero Try.prog 59 = some .nilFunc := by kernel_rfl
theorem Try.agg60 : tagg Try.prog 60 = some true := by kernel_rfl
theorem Try.sz60 : tsz Try.prog 60 = some 2 := by kernel_rfl
theorem Try.byt60 : tbytes Try.prog 60 = some 16 := by kernel_rfl
theorem Try.zero60 : tzero Try.prog 60 = some (.agg #[(.int .u32 0), (.int .i64 0)]) := by kernel_rfl
theorem Try.agg61 : tagg Try.prog 61 = some false := by kernel_rfl
theorem Try.sz61 : tsz Try.prog 61 = some 1 := by kernel_rfl
theorem Try.byt61 : tbytes Try.prog 61 = some 8 := by kernel_rfl
theorem Try.zero61 : tzero Try.prog 61 = some .nilFunc := by kernel_rfl
theorem Try.agg62 : tagg Try.prog 62 = some false := by kernel_rfl
theorem Try.sz62 : tsz Try.prog 62 = some 1 := by kernel_rfl
theorem Try.byt62 : tbytes Try.prog 62 = some 8 := by kernel_rfl
theorem Try.zero62 : tzero Try.prog 62 = some (.pointer none) := by kernel_rfl
theorem Try.agg63 : tagg Try.prog 63 = some false := by kernel_rfl
theorem Try.sz63 : tsz Try.prog 63 = some 1 := by kernel_rfl
theorem Try.byt63 : tbytes Try.prog 63 = some 8 := by kernel_rfl
theorem Try.zero63 : tzero Try.prog 63 = some (.pointer none) := by kernel_rfl
theorem Try.agg64 : tagg Try.prog 64 = some false := by kernel_rfl
theorem Try.sz64 : tsz Try.prog 64 = some 1 := by kernel_rfl
theorem Try.byt64 : tbytes Try.prog 64 = some 8 := by kernel_rfl
theorem Try.zero64 : tzero Try.prog 64 = some .nilFunc := by kernel_rfl
theorem Try.agg65 : tagg Try.prog 65 = some true := by kernel_rfl
theorem Try.sz65 : tsz Try.prog 65 = some 289 := by kernel_rfl
theorem Try.byt65 : tbytes Try.prog 65 = some 2312 := by kernel_rfl
theorem Try.zero65 : tzero Try.prog 65 = some (.agg (Array.replicate 289 (.int .i64 0))) := by kernel_rfl
theorem Try.agg66 : tagg Try.prog 66 = some true := by kernel_rfl
theorem Try.sz66 : tsz Try.prog 66 = some 290 := by kernel_rfl
theorem Try.byt66 : tbytes Try.prog 66 = some 2320 := by kernel_rfl
theorem Try.agg67 : tagg Try.prog 67 = some true := by kernel_rfl
theorem Try.sz67 : tsz Try.prog 67 = some 290 := by kernel_rfl
theorem Try.byt67 : tbytes Try.prog 67 = some 2320 := by kernel_rfl
theorem Try.agg69 : tagg Try.prog 69 = some false := by kernel_rfl
theorem Try.sz69 : tsz Try.prog 69 = some 1 := by kernel_rfl
theorem Try.byt69 : tbytes Try.prog 69 = some 8 := by kernel_rfl
theorem Try.zero69 : tzero Try.prog 69 = some .nilFunc := by kernel_rfl
theorem Try.agg70 : tagg Try.prog 70 = some false := by kernel_rfl
theorem Try.sz70 : tsz Try.prog 70 = some 1 := by kernel_rfl
theorem Try.byt70 : tbytes Try.prog 70 = some 8 := by kernel_rfl
theorem Try.zero70 : tzero Try.prog 70 = some .nilFunc := by kernel_rfl
theorem Try.agg71 : tagg Try.prog 71 = some false := by kernel_rfl
theorem Try.sz71 : tsz Try.prog 71 = some 1 := by kernel_rfl
theorem Try.byt71 : tbytes Try.prog 71 = some 8 := by kernel_rfl
theorem Try.zero71 : tzero Try.prog 71 = some .nilFunc := by kernel_rfl
theorem Try.agg72 : tagg Try.prog 72 = some false := by kernel_rfl
theorem Try.sz72 : tsz Try.prog 72 = some 1 := by kernel_rfl
theorem Try.byt72 : tbytes Try.prog 72 = some 8 := by kernel_rfl
theorem Try.zero72 : tzero Try.prog 72 = some .nilFunc := by kernel_rfl
theorem Try.agg73 : tagg Try.prog 73 = some false := by kernel_rfl
theorem Try.sz73 : tsz Try.prog 73 = some 1 := by kernel_rfl
theorem Try.byt73 : tbytes Try.prog 73 = some 8 := by kernel_rfl
theorem Try.zero73 : tzero Try.prog 73 = some (.pointer none) := by kernel_rfl
theorem Try.agg74 : tagg Try.prog 74 = some false := by kernel_rfl
theorem Try.sz74 : tsz Try.prog 74 = some 1 := by kernel_rfl
theorem Try.byt74 : tbytes Try.prog 74 = some 8 := by kernel_rfl
theorem Try.zero74 : tzero Try.prog 74 = some .nilFunc := by kernel_rfl
theorem Try.agg76 : tagg Try.prog 76 = some false := by kernel_rfl
theorem Try.sz76 : tsz Try.prog 76 = some 1 := by kernel_rfl
theorem Try.byt76 : tbytes Try.prog 76 = some 8 := by kernel_rfl
theorem Try.zero76 : tzero Try.prog 76 = some .nilFunc := by kernel_rfl
theorem Try.agg77 : tagg Try.prog 77 = some false := by kernel_rfl
theorem Try.sz77 : tsz Try.prog 77 = some 1 := by kernel_rfl
theorem Try.byt77 : tbytes Try.prog 77 = some 8 := by kernel_rfl
theorem Try.zero77 : tzero Try.prog 77 = some .nilFunc := by kernel_rfl
theorem Try.agg78 : tagg Try.prog 78 = some true := by kernel_rfl
theorem Try.sz78 : tsz Try.prog 78 = some 16 := by kernel_rfl
theorem Try.byt78 : tbytes Try.prog 78 = some 128 := by kernel_rfl
theorem Try.zero78 : tzero Try.prog 78 = some (.agg #[(.int .i64 0), (.int .i64 0), (.int .i64 0), (.int .i64 0), (.int .i64 0), (.int .i64 0), (.int .i64 0), (.int .i64 0), (.int .i64 0), (.int .i64 0), (.int .i64 0), (.int .i64 0), (.int .i64 0), (.int .i64 0), (.int .i64 0), (.int .i64 0)]) := by kernel_rfl
theorem Try.agg80 : tagg Try.prog 80 = some false := by kernel_rfl
theorem Try.sz80 : tsz Try.prog 80 = some 1 := by kernel_rfl
theorem Try.byt80 : tbytes Try.prog 80 = some 8 := by kernel_rfl
theorem Try.zero80 : tzero Try.prog 80 = some .nilFunc := by kernel_rfl
theorem Try.agg81 : tagg Try.prog 81 = some true := by kernel_rfl
theorem Try.sz81 : tsz Try.prog 81 = some 17 := by kernel_rfl
theorem Try.byt81 : tbytes Try.prog 81 = some 68 := by kernel_rfl
theorem Try.zero81 : tzero Try.prog 81 = some (.agg #[(.int .u32 0), (.int .u32 0), (.int .u32 0), (.int .u32 0), (.int .u32 0), (.int .u32 0), (.int .u32 0), (.int .u32 0), (.int .u32 0), (.int .u32 0), (.int .u32 0), (.int .u32 0), (.int .u32 0), (.int .u32 0), (.int .u32 0), (.int .u32 0), (.int .u32 0)]) := by kernel_rfl
theorem Try.agg82 : tagg Try.prog 82 = some false := by kernel_rfl
theorem Try.sz82 : tsz Try.prog 82 = some 1 := by kernel_rfl
theorem Try.byt82 : tbytes Try.prog 82 = some 8 := by kernel_rfl
theorem Try.zero82 : tzero Try.prog 82 = some .nilFunc := by kernel_rfl
theorem Try.agg83 : tagg Try.prog 83 = some false := by kernel_rfl
theorem Try.sz83 : tsz Try.prog 83 = some 1 := by kernel_rfl
theorem Try.byt83 : tbytes Try.prog 83 = some 8 := by kernel_rfl
theorem Try.zero83 : tzero Try.prog 83 = some .nilFunc := by kernel_rfl
theorem Try.agg84 : tagg Try.prog 84 = some false := by kernel_rfl
theorem Try.sz84 : tsz Try.prog 84 = some 1 := by kernel_rfl
theorem Try.byt84 : tbytes Try.prog 84 = some 8 := by kernel_rfl
theorem Try.zero84 : tzero Try.prog 84 = some (.int .u64 0) := by kernel_rfl
theorem Try.agg85 : tagg Try.prog 85 = some false := by kernel_rfl
theorem Try.sz85 : tsz Try.prog 85 = some 1 := by kernel_rfl
theorem Try.byt85 : tbytes Try.prog 85 = some 8 := by kernel_rfl
theorem Try.zero85 : tzero Try.prog 85 = some (.int .u64 0) := by kernel_rfl
theorem Try.agg86 : tagg Try.prog 86 = some false := by kernel_rfl
theorem Try.sz86 : tsz Try.prog 86 = some 1 := by kernel_rfl
theorem Try.byt86 : tbytes Try.prog 86 = some 8 := by kernel_rfl
theorem Try.zero86 : tzero Try.prog 86 = some .nilFunc := by kernel_rfl
theorem Try.agg87 : tagg Try.prog 87 = some false := by kernel_rfl
theorem Try.sz87 : tsz Try.prog 87 = some 1 := by kernel_rfl
theorem Try.byt87 : tbytes Try.prog 87 = some 8 := by kernel_rfl
theorem Try.zero87 : tzero Try.prog 87 = some .nilFunc := by kernel_rfl
theorem Try.agg88 : tagg Try.prog 88 = some false := by kernel_rfl
theorem Try.sz88 : tsz Try.prog 88 = some 1 := by kernel_rfl
theorem Try.byt88 : tbytes Try.prog 88 = some 8 := by kernel_rfl
theorem Try.zero88 : tzero Try.prog 88 = some .nilFunc := by kernel_rfl
theorem Try.agg89 : tagg Try.prog 89 = some false := by kernel_rfl
theorem Try.sz89 : tsz Try.prog 89 = some 1 := by kernel_rfl
theorem Try.byt89 : tbytes Try.prog 89 = some 8 := by kernel_rfl
theorem Try.zero89 : tzero Try.prog 89 = some .nilFunc := by kernel_rfl
theorem Try.agg90 : tagg Try.prog 90 = some false := by kernel_rfl
theorem Try.sz90 : tsz Try.prog 90 = some 1 := by kernel_rfl
theorem Try.byt90 : tbytes Try.prog 90 = some 8 := by kernel_rfl
theorem Try.zero90 : tzero Try.prog 90 = some .nilFunc := by kernel_rfl
theorem Try.agg91 : tagg Try.prog 91 = some false := by kernel_rfl
theorem Try.sz91 : tsz Try.prog 91 = some 1 := by kernel_rfl
theorem Try.byt91 : tbytes Try.prog 91 = some 8 := by kernel_rfl
theorem Try.zero91 : tzero Try.prog 91 = some .nilFunc := by kernel_rfl
theorem Try.agg92 : tagg Try.prog 92 = some false := by kernel_rfl
theorem Try.sz92 : tsz Try.prog 92 = some 1 := by kernel_rfl
theorem Try.byt92 : tbytes Try.prog 92 = some 8 := by kernel_rfl
theorem Try.zero92 : tzero Try.prog 92 = some .nilFunc := by kernel_rfl
theorem Try.agg93 : tagg Try.prog 93 = some false := by kernel_rfl
theorem Try.sz93 : tsz Try.prog 93 = some 1 := by kernel_rfl
theorem Try.byt93 : tbytes Try.prog 93 = some 8 := by kernel_rfl
theorem Try.zero93 : tzero Try.prog 93 = some .nilFunc := by kernel_rfl
theorem Try.agg94 : tagg Try.prog 94 = some false := by kernel_rfl
theorem Try.sz94 : tsz Try.prog 94 = some 1 := by kernel_rfl
theorem Try.byt94 : tbytes Try.prog 94 = some 8 := by kernel_rfl
theorem Try.zero94 : tzero Try.prog 94 = some .nilFunc := by kernel_rfl
theorem Try.agg95 : tagg Try.prog 95 = some false := by kernel_rfl
theorem Try.sz95 : tsz Try.prog 95 = some 1 := by kernel_rfl
theorem Try.byt95 : tbytes Try.prog 95 = some 8 := by kernel_rfl
theorem Try.zero95 : tzero Try.prog 95 = some .nilFunc := by kernel_rfl
theorem Try.agg96 : tagg Try.prog 96 = some true := by kernel_rfl
theorem Try.sz96 : tsz Try.prog 96 = some 2 := by kernel_rfl
theorem Try.byt96 : tbytes Try.prog 96 = some 24 := by kernel_rfl
theorem Try.zero96 : tzero Try.prog 96 = some (.agg #[(.string .empty), (.int .i64 0)]) := by kernel_rfl
theorem Try.agg97 : tagg Try.prog 97 = some true := by kernel_rfl
theorem Try.sz97 : tsz Try.prog 97 = some 2 := by kernel_rfl
theorem Try.byt97 : tbytes Try.prog 97 = some 24 := by kernel_rfl
theorem Try.zero97 : tzero Try.prog 97 = some (.agg #[(.string .empty), (.int .i64 0)]) := by kernel_rfl
theorem Try.agg98 : tagg Try.prog 98 = some false := by kernel_rfl
theorem Try.sz98 : tsz Try.prog 98 = some 1 := by kernel_rfl
theorem Try.byt98 : tbytes Try.prog 98 = some 8 := by kernel_rfl
theorem Try.zero98 : tzero Try.prog 98 = some .nilFunc := by kernel_rfl
theorem Try.agg100 : tagg Try.prog 100 = some false := by kernel_rfl
theorem Try.sz100 : tsz Try.prog 100 = some 1 := by kernel_rfl
theorem Try.byt100 : tbytes Try.prog 100 = some 8 := by kernel_rfl
theorem Try.zero100 : tzero Try.prog 100 = some .nilFunc := by kernel_rfl
theorem Try.agg101 : tagg Try.prog 101 = some false := by kernel_rfl
theorem Try.sz101 : tsz Try.prog 101 = some 1 := by kernel_rfl
theorem Try.byt101 : tbytes Try.prog 101 = some 8 := by kernel_rfl
theorem Try.zero101 : tzero Try.prog 101 = some .nilFunc := by kernel_rfl
theorem Try.agg102 : tagg Try.prog 102 = some false := by kernel_rfl
theorem Try.sz102 : tsz Try.prog 102 = some 1 := by kernel_rfl
theorem Try.byt102 : tbytes Try.prog 102 = some 8 := by kernel_rfl
theorem Try.zero102 : tzero Try.prog 102 = some (.map none) := by kernel_rfl
theorem Try.agg103 : tagg Try.prog 103 = some true := by kernel_rfl
theorem Try.sz103 : tsz Try.prog 103 = some 4 := by kernel_rfl
theorem Try.byt103 : tbytes Try.prog 103 = some 56 := by kernel_rfl
theorem Try.zero103 : tzero Try.prog 103 = some (.agg #[(.string .empty), (.map none), (.slice none 0 0), (.int .i64 0)]) := by kernel_rfl
theorem Try.agg104 : tagg Try.prog 104 = some true := by kernel_rfl
theorem Try.sz104 : tsz Try.prog 104 = some 4 := by kernel_rfl
theorem Try.byt104 : tbytes Try.prog 104 = some 56 := by kernel_rfl
theorem Try.zero104 : tzero Try.prog 104 = some (.agg #[(.string .empty), (.map none), (.slice none 0 0), (.int .i64 0)]) := by kernel_rfl
theorem Try.agg105 : tagg Try.prog 105 = some false := by kernel_rfl
theorem Try.sz105 : tsz Try.prog 105 = some 1 := by kernel_rfl
theorem Try.byt105 : tbytes Try.prog 105 = some 8 := by kernel_rfl
theorem Try.zero105 : tzero Try.prog 105 = some .nilFunc := by kernel_rfl
theorem Try.agg106 : tagg Try.prog 106 = some false := by kernel_rfl
theorem Try.sz106 : tsz Try.prog 106 = some 1 := by kernel_rfl
theorem Try.byt106 : tbytes Try.prog 106 = some 24 := by kernel_rfl
theorem Try.el106 : telem Try.prog 106 = some 107 := by kernel_rfl
theorem Try.zero106 : tzero Try.prog 106 = some (.slice none 0 0) := by kernel_rfl
theorem Try.agg107 : tagg Try.prog 107 = some false := by kernel_rfl
theorem Try.sz107 : tsz Try.prog 107 = some 1 := by kernel_rfl
theorem Try.byt107 : tbytes Try.prog 107 = some 8 := by kernel_rfl
theorem Try.zero107 : tzero Try.prog 107 = some (.pointer none) := by kernel_rfl
theorem Try.agg108 : tagg Try.prog 108 = some true := by kernel_rfl
theorem Try.sz108 : tsz Try.prog 108 = some 4 := by kernel_rfl
theorem Try.byt108 : tbytes Try.prog 108 = some 32 := by kernel_rfl
theorem Try.zero108 : tzero Try.prog 108 = some (.agg #[(.int .i64 0), (.int .i64 0), (.pointer none), (.pointer none)]) := by kernel_rfl
theorem Try.agg109 : tagg Try.prog 109 = some true := by kernel_rfl
theorem Try.sz109 : tsz Try.prog 109 = some 4 := by kernel_rfl
theorem Try.byt109 : tbytes Try.prog 109 = some 32 := by kernel_rfl
theorem Try.zero109 : tzero Try.prog 109 = some (.agg #[(.int .i64 0), (.int .i64 0), (.pointer none), (.pointer none)]) := by kernel_rfl
theorem Try.agg110 : tagg Try.prog 110 = some false := by kernel_rfl
theorem Try.sz110 : tsz Try.prog 110 = some 1 := by kernel_rfl
theorem Try.byt110 : tbytes Try.prog 110 = some 8 := by kernel_rfl
theorem Try.zero110 : tzero Try.prog 110 = some .nilFunc := by kernel_rfl
theorem Try.agg111 : tagg Try.prog 111 = some false := by kernel_rfl
theorem Try.sz111 : tsz Try.prog 111 = some 1 := by kernel_rfl
theorem Try.byt111 : tbytes Try.prog 111 = some 8 := by kernel_rfl
theorem Try.zero111 : tzero Try.prog 111 = some .nilFunc := by kernel_rfl
theorem Try.agg112 : tagg Try.prog 112 = some false := by kernel_rfl
theorem Try.sz112 : tsz Try.prog 112 = some 1 := by kernel_rfl
theorem Try.byt112 : tbytes Try.prog 112 = some 8 := by kernel_rfl
theorem Try.zero112 : tzero Try.prog 112 = some .nilFunc := by kernel_rfl
theorem Try.agg113 : tagg Try.prog 113 = some false := by kernel_rfl
theorem Try.sz113 : tsz Try.prog 113 = some 1 := by kernel_rfl
theorem Try.byt113 : tbytes Try.prog 113 = some 8 := by kernel_rfl
theorem Try.zero113 : tzero Try.prog 113 = some .nilFunc := by kernel_rfl
theorem Try.agg114 : tagg Try.prog 114 = some false := by kernel_rfl
theorem Try.sz114 : tsz Try.prog 114 = some 1 := by kernel_rfl
theorem Try.byt114 : tbytes Try.prog 114 = some 8 := by kernel_rfl
theorem Try.zero114 : tzero Try.prog 114 = some .nilFunc := by kernel_rfl
theorem Try.agg115 : tagg Try.prog 115 = some false := by kernel_rfl
theorem Try.sz115 : tsz Try.prog 115 = some 1 := by kernel_rfl
theorem Try.byt115 : tbytes Try.prog 115 = some 8 := by kernel_rfl
theorem Try.zero115 : tzero Try.prog 115 = some .nilFunc := by kernel_rfl
theorem Try.agg116 : tagg Try.prog 116 = some false := by kernel_rfl
theorem Try.sz116 : tsz Try.prog 116 = some 1 := by kernel_rfl
theorem Try.byt116 : tbytes Try.prog 116 = some 24 := by kernel_rfl
theorem Try.el116 : telem Try.prog 116 = some 118 := by kernel_rfl
theorem Try.zero116 : tzero Try.prog 116 = some (.slice none 0 0) := by kernel_rfl
theorem Try.agg117 : tagg Try.prog 117 = some true := by kernel_rfl
theorem Try.sz117 : tsz Try.prog 117 = some 2 := by kernel_rfl
theorem Try.byt117 : tbytes Try.prog 117 = some 32 := by kernel_rfl
theorem Try.zero117 : tzero Try.prog 117 = some (.agg #[(.int .i64 0), (.slice none 0 0)]) := by kernel_rfl
theorem Try.agg118 : tagg Try.prog 118 = some true := by kernel_rfl
theorem Try.sz118 : tsz Try.prog 118 = some 2 := by kernel_rfl
theorem Try.byt118 : tbytes Try.prog 118 = some 32 := by kernel_rfl
theorem Try.zero118 : tzero Try.prog 118 = some (.agg #[(.int .i64 0), (.slice none 0 0)]) := by kernel_rfl
theorem Try.agg120 : tagg Try.prog 120 = some false := by kernel_rfl
theorem Try.sz120 : tsz Try.prog 120 = some 1 := by kernel_rfl
theorem Try.byt120 : tbytes Try.prog 120 = some 8 := by kernel_rfl
theorem Try.zero120 : tzero Try.prog 120 = some .nilFunc := by kernel_rfl
theorem Try.agg121 : tagg Try.prog 121 = some false := by kernel_rfl
theorem Try.sz121 : tsz Try.prog 121 = some 1 := by kernel_rfl
theorem Try.byt121 : tbytes Try.prog 121 = some 8 := by kernel_rfl
theorem Try.zero121 : tzero Try.prog 121 = some .nilFunc := by kernel_rfl
theorem Try.agg123 : tagg Try.prog 123 = some false := by kernel_rfl
theorem Try.sz123 : tsz Try.prog 123 = some 1 := by kernel_rfl
theorem Try.byt123 : tbytes Try.prog 123 = some 8 := by kernel_rfl
theorem Try.zero123 : tzero Try.prog 123 = some .nilFunc := by kernel_rfl
theorem Try.agg124 : tagg Try.prog 124 = some false := by kernel_rfl
theorem Try.sz124 : tsz Try.prog 124 = some 1 := by kernel_rfl
theorem Try.byt124 : tbytes Try.prog 124 = some 8 := by kernel_rfl
theorem Try.zero124 : tzero Try.prog 124 = some .nilFunc := by kernel_rfl
theorem Try.agg125 : tagg Try.prog 125 = some false := by kernel_rfl
theorem Try.sz125 : tsz Try.prog 125 = some 1 := by kernel_rfl
theorem Try.byt125 : tbytes Try.prog 125 = some 8 := by kernel_rfl
theorem Try.zero125 : tzero Try.prog 125 = some .nilFunc := by kernel_rfl
theorem Try.agg126 : tagg Try.prog 126 = some false := by kernel_rfl
theorem Try.sz126 : tsz Try.prog 126 = some 1 := by kernel_rfl
theorem Try.byt126 : tbytes Try.prog 126 = some 8 := by kernel_rfl
theorem Try.zero126 : tzero Try.prog 126 = some .nilFunc := by kernel_rfl
theorem Try.agg127 : tagg Try.prog 127 = some false := by kernel_rfl
theorem Try.sz127 : tsz Try.prog 127 = some 1 := by kernel_rfl
theorem Try.byt127 : tbytes Try.prog 127 = some 8 := by kernel_rfl
theorem Try.zero127 : tzero Try.prog 127 = some .nilFunc := by kernel_rfl
theorem Try.agg128 : tagg Try.prog 128 = some false := by kernel_rfl
theorem Try.sz128 : tsz Try.prog 128 = some 1 := by kernel_rfl
theorem Try.byt128 : tbytes Try.prog 128 = some 8 := by kernel_rfl
theorem Try.zero128 : tzero Try.prog 128 = some .nilFunc := by kernel_rfl
theorem Try.agg129 : tagg Try.prog 129 = some true := by kernel_rfl
theorem Try.sz129 : tsz Try.prog 129 = some 4 := by kernel_rfl
theorem Try.byt129 : tbytes Try.prog 129 = some 40 := by kernel_rfl
theorem Try.zero129 : tzero Try.prog 129 = some (.agg #[(.pointer none), (.pointer none), (.pointer none), (.string .empty)]) := by kernel_rfl
theorem Try.agg130 : tagg Try.prog 130 = some true := by kernel_rfl
theorem Try.sz130 : tsz Try.prog 130 = some 4 := by kernel_rfl
theorem Try.byt130 : tbytes Try.prog 130 = some 40 := by kernel_rfl
theorem Try.zero130 : tzero Try.prog 130 = some (.agg #[(.pointer none), (.pointer none), (.pointer none), (.string .empty)]) := by kernel_rfl
theorem Try.agg131 : tagg Try.prog 131 = some true := by kernel_rfl
theorem Try.sz131 : tsz Try.prog 131 = some 0 := by kernel_rfl
theorem Try.byt131 : tbytes Try.prog 131 = some 0 := by kernel_rfl
theorem Try.zero131 : tzero Try.prog 131 = some (.agg #[]) := by kernel_rfl
theorem Try.agg132 : tagg Try.prog 132 = some true := by kernel_rfl
theorem Try.sz132 : tsz Try.prog 132 = some 0 := by kernel_rfl
theorem Try.byt132 : tbytes Try.prog 132 = some 0 := by kernel_rfl
theorem Try.zero132 : tzero Try.prog 132 = some (.agg #[]) := by kernel_rfl
theorem Try.agg133 : tagg Try.prog 133 = some true := by kernel_rfl
theorem Try.sz133 : tsz Try.prog 133 = some 0 := by kernel_rfl
theorem Try.byt133 : tbytes Try.prog 133 = some 0 := by kernel_rfl
theorem Try.zero133 : tzero Try.prog 133 = some (.agg #[]) := by kernel_rfl
theorem Try.agg134 : tagg Try.prog 134 = some false := by kernel_rfl
theorem Try.sz134 : tsz Try.prog 134 = some 1 := by kernel_rfl
theorem Try.byt134 : tbytes Try.prog 134 = some 1 := by kernel_rfl
theorem Try.zero134 : tzero Try.prog 134 = some (.int .u8 0) := by kernel_rfl
theorem Try.agg135 : tagg Try.prog 135 = some false := by kernel_rfl
theorem Try.sz135 : tsz Try.prog 135 = some 1 := by kernel_rfl
theorem Try.byt135 : tbytes Try.prog 135 = some 1 := by kernel_rfl
theorem Try.zero135 : tzero Try.prog 135 = some (.int .u8 0) := by kernel_rfl
theorem Try.agg136 : tagg Try.prog 136 = some false := by kernel_rfl
theorem Try.sz136 : tsz Try.prog 136 = some 1 := by kernel_rfl
theorem Try.byt136 : tbytes Try.prog 136 = some 8 := by kernel_rfl
theorem Try.zero136 : tzero Try.prog 136 = some .nilFunc := by kernel_rfl
theorem Try.agg137 : tagg Try.prog 137 = some false := by kernel_rfl
theorem Try.sz137 : tsz Try.prog 137 = some 1 := by kernel_rfl
theorem Try.byt137 : tbytes Try.prog 137 = some 8 := by kernel_rfl
theorem Try.zero137 : tzero Try.prog 137 = some (.pointer none) := by kernel_rfl
theorem Try.agg138 : tagg Try.prog 138 = some false := by kernel_rfl
theorem Try.sz138 : tsz Try.prog 138 = some 1 := by kernel_rfl
theorem Try.byt138 : tbytes Try.prog 138 = some 4 := by kernel_rfl
theorem Try.zero138 : tzero Try.prog 138 = some (.int .i32 0) := by kernel_rfl
theorem Try.agg139 : tagg Try.prog 139 = some false := by kernel_rfl
theorem Try.sz139 : tsz Try.prog 139 = some 1 := by kernel_rfl
theorem Try.byt139 : tbytes Try.prog 139 = some 4 := by kernel_rfl
theorem Try.zero139 : tzero Try.prog 139 = some (.int .i32 0) := by kernel_rfl
theorem Try.agg140 : tagg Try.prog 140 = some true := by kernel_rfl
theorem Try.sz140 : tsz Try.prog 140 = some 11 := by kernel_rfl
theorem Try.byt140 : tbytes Try.prog 140 = some 48 := by kernel_rfl
theorem Try.zero140 : tzero Try.prog 140 = some (.agg #[(.int .u64 0), (.int .u64 0), (.int .u32 0), (.int .u8 0), (.int .u8 0), (.int .u8 0), (.int .u8 0), .nilFunc, (.pointer none), (.int .i32 0), (.int .i32 0)]) := by kernel_rfl
theorem Try.agg141 : tagg Try.prog 141 = some true := by kernel_rfl
theorem Try.sz141 : tsz Try.prog 141 = some 11 := by kernel_rfl
theorem Try.byt141 : tbytes Try.prog 141 = some 48 := by kernel_rfl
theorem Try.zero141 : tzero Try.prog 141 = some (.agg #[(.int .u64 0), (.int .u64 0), (.int .u32 0), (.int .u8 0), (.int .u8 0), (.int .u8 0), (.int .u8 0), .nilFunc, (.pointer none), (.int .i32 0), (.int .i32 0)]) := by kernel_rfl
theorem Try.agg142 : tagg Try.prog 142 = some false := by kernel_rfl
theorem Try.sz142 : tsz Try.prog 142 = some 1 := by kernel_rfl
theorem Try.byt142 : tbytes Try.prog 142 = some 8 := by kernel_rfl
theorem Try.zero142 : tzero Try.prog 142 = some (.pointer none) := by kernel_rfl
theorem Try.body0 : noBody Try.prog 0 = true := by kernel_rfl
theorem Try.body1 : noBody Try.prog 1 = true := by kernel_rfl
theorem Try.body2 : noBody Try.prog 2 = false := by kernel_rfl
theorem Try.body3 : noBody Try.prog 3 = false := by kernel_rfl
theorem Try.body4 : noBody Try.prog 4 = false := by kernel_rfl
theorem Try.body5 : noBody Try.prog 5 = false := by kernel_rfl
theorem Try.body6 : noBody Try.prog 6 = false := by kernel_rfl
theorem Try.body7 : noBody Try.prog 7 = false := by kernel_rfl
theorem Try.body8 : noBody Try.prog 8 = false := by kernel_rfl
theorem Try.body9 : noBody Try.prog 9 = false := by kernel_rfl
theorem Try.body10 : noBody Try.prog 10 = false := by kernel_rfl
theorem Try.body11 : noBody Try.prog 11 = false := by kernel_rfl
theorem Try.body12 : noBody Try.prog 12 = false := by kernel_rfl
theorem Try.body13 : noBody Try.prog 13 = false := by kernel_rfl
theorem Try.body14 : noBody Try.prog 14 = false := by kernel_rfl
theorem Try.body15 : noBody Try.prog 15 = false := by kernel_rfl
theorem Try.body16 : noBody Try.prog 16 = false := by kernel_rfl
theorem Try.body17 : noBody Try.prog 17 = false := by kernel_rfl
theorem Try.body18 : noBody Try.prog 18 = false := by kernel_rfl
theorem Try.body19 : noBody Try.prog 19 = false := by kernel_rfl
theorem Try.body20 : noBody Try.prog 20 = false := by kernel_rfl
theorem Try.body21 : noBody Try.prog 21 = false := by kernel_rfl
theorem Try.body22 : noBody Try.prog 22 = false := by kernel_rfl
theorem Try.body23 : noBody Try.prog 23 = false := by kernel_rfl
theorem Try.body24 : noBody Try.prog 24 = false := by kernel_rfl
theorem Try.body25 : noBody Try.prog 25 = false := by kernel_rfl
theorem Try.body26 : noBody Try.prog 26 = false := by kernel_rfl
theorem Try.body27 : noBody Try.prog 27 = false := by kernel_rfl
theorem Try.body28 : noBody Try.prog 28 = false := by kernel_rfl
theorem Try.body29 : noBody Try.prog 29 = false := by kernel_rfl
theorem Try.body30 : noBody Try.prog 30 = false := by kernel_rfl
theorem Try.body31 : noBody Try.prog 31 = false := by kernel_rfl
theorem Try.body32 : noBody Try.prog 32 = false := by kernel_rfl
theorem Try.body33 : noBody Try.prog 33 = false := by kernel_rfl
theorem Try.body34 : noBody Try.prog 34 = false := by kernel_rfl
theorem Try.body35 : noBody Try.prog 35 = false := by kernel_rfl
theorem Try.body36 : noBody Try.prog 36 = false := by kernel_rfl
theorem Try.body37 : noBody Try.prog 37 = false := by kernel_rfl
theorem Try.body38 : noBody Try.prog 38 = false := by kernel_rfl
theorem Try.body39 : noBody Try.prog 39 = false := by kernel_rfl
theorem Try.body40 : noBody Try.prog 40 = false := by kernel_rfl
theorem Try.body41 : noBody Try.prog 41 = false := by kernel_rfl
theorem Try.body42 : noBody Try.prog 42 = false := by kernel_rfl
theorem Try.body43 : noBody Try.prog 43 = false := by kernel_rfl
theorem Try.body44 : noBody Try.prog 44 = false := by kernel_rfl
theorem Try.body45 : noBody Try.prog 45 = false := by kernel_rfl
theorem Try.body46 : noBody Try.prog 46 = false := by kernel_rfl
theorem Try.body47 : noBody Try.prog 47 = false := by kernel_rfl
theorem Try.body48 : noBody Try.prog 48 = false := by kernel_rfl
theorem Try.body49 : noBody Try.prog 49 = false := by kernel_rfl
theorem Try.body50 : noBody Try.prog 50 = false := by kernel_rfl
theorem Try.body51 : noBody Try.prog 51 = false := by kernel_rfl
theorem Try.body52 : noBody Try.prog 52 = false := by kernel_rfl
theorem Try.body53 : noBody Try.prog 53 = false := by kernel_rfl
theorem Try.body54 : noBody Try.prog 54 = false := by kernel_rfl
theorem Try.body55 : noBody Try.prog 55 = false := by kernel_rfl
theorem Try.body56 : noBody Try.prog 56 = false := by kernel_rfl
theorem Try.body57 : noBody Try.prog 57 = false := by kernel_rfl
theorem Try.body58 : noBody Try.prog 58 = false := by kernel_rfl
theorem Try.body59 : noBody Try.prog 59 = false := by kernel_rfl
theorem Try.body60 : noBody Try.prog 60 = false := by kernel_rfl
theorem Try.body61 : noBody Try.prog 61 = false := by kernel_rfl
theorem Try.body62 : noBody Try.prog 62 = false := by kernel_rfl
theorem Try.body63 : noBody Try.prog 63 = false := by kernel_rfl
theorem Try.body64 : noBody Try.prog 64 = false := by kernel_rfl
theorem Try.body65 : noBody Try.prog 65 = false := by kernel_rfl
theorem Try.body66 : noBody Try.prog 66 = false := by kernel_rfl
theorem Try.body67 : noBody Try.prog 67 = false := by kernel_rfl
theorem Try.body68 : noBody Try.prog 68 = false := by kernel_rfl
theorem Try.body69 : noBody Try.prog 69 = false := by kernel_rfl
theorem Try.body70 : noBody Try.prog 70 = false := by kernel_rfl
theorem Try.body71 : noBody Try.prog 71 = false := by kernel_rfl
theorem Try.body72 : noBody Try.prog 72 = false := by kernel_rfl
theorem Try.body73 : noBody Try.prog 73 = true := by kernel_rfl
theorem Try.body74 : noBody Try.prog 74 = true := by kernel_rfl
theorem Try.body75 : noBody Try.prog 75 = true := by kernel_rfl
theorem Try.body76 : noBody Try.prog 76 = true := by kernel_rfl
theorem Try.body77 : noBody Try.prog 77 = true := by kernel_rfl
theorem Try.body78 : noBody Try.prog 78 = true := by kernel_rfl
theorem Try.body79 : noBody Try.prog 79 = true := by kernel_rfl
theorem Try.body80 : noBody Try.prog 80 = true := by kernel_rfl
theorem Try.body81 : noBody Try.prog 81 = true := by kernel_rfl
theorem Try.body82 : noBody Try.prog 82 = true := by kernel_rfl
theorem Try.body83 : noBody Try.prog 83 = true := by kernel_rfl
theorem Try.body84 : noBody Try.prog 84 = true := by kernel_rfl
theorem Try.body85 : noBody Try.prog 85 = true := by kernel_rfl
theorem Try.body86 : noBody Try.prog 86 = true := by kernel_rfl
theorem Try.body87 : noBody Try.prog 87 = true := by kernel_rfl
theorem Try.body88 : noBody Try.prog 88 = true := by kernel_rfl
theorem Try.build7 (ps : List (Nat × Value)) : abuild Try.prog 7 ps.toArray = aggO (fillP [(0, 1), (1, 1), (2, 1), (3, 1)] [(.int .i64 0), (.int .i64 0), (.bool false), (.int .u8 0)] ps) := build_struct Try.underlying7 Try.zero7 (by kernel_rfl) ps
theorem Try.build8 (ps : List (Nat × Value)) : abuild Try.prog 8 ps.toArray = aggO (fillP [(0, 1), (1, 1), (2, 1), (3, 1)] [(.int .i64 0), (.int .i64 0), (.bool false), (.int .u8 0)] ps) := build_struct Try.underlying8 Try.zero8 (by kernel_rfl) ps
theorem Try.build13 (ps : List (Nat × Value)) : abuild Try.prog 13 ps.toArray = aggO (fillP [(0, 1), (1, 1)] [(.string .empty), (.int .u64 0)] ps) := build_struct Try.underlying13 Try.zero13 (by kernel_rfl) ps
theorem Try.build14 (ps : List (Nat × Value)) : abuild Try.prog 14 ps.toArray = aggO (fillP [(0, 1), (1, 1)] [(.string .empty), (.int .u64 0)] ps) := build_struct Try.underlying14 Try.zero14 (by kernel_rfl) ps
theorem Try.build18 (ps : List (Nat × Value)) : abuild Try.prog 18 ps.toArray = aggO (fillP [(0, 1)] [(.pointer none)] ps) := build_struct Try.underlying18 Try.zero18 (by kernel_rfl) ps
theorem Try.build19 (ps : List (Nat × Value)) : abuild Try.prog 19 ps.toArray = aggO (fillP [(0, 1)] [(.pointer none)] ps) := build_struct Try.underlying19 Try.zero19 (by kernel_rfl) ps
theorem Try.bsl30 (A : St) (n : Nat) (ps : List (Nat × Value)) (hn : n * 3 ≤ 16777216) : abuildSlice Try.prog A 30 n ps.toArray = thenElse (ps.all (fun p => decide (p.1 < n))) (sliceO A n 34 (fillP (places 3 n 0) (zerosR [(.int .u8 0), (.int .i64 0), (.int .i64 0)] n) ps)) (bslRaw Try.prog A 30 n ps) := buildSlice_of Try.el30 Try.sz34 Try.zero34 rfl (by decide) n ps hn
theorem Try.bsl31 (A : St) (n : Nat) (ps : List (Nat × Value)) (hn : n * 3 ≤ 16777216) : abuildSlice Try.prog A 31 n ps.toArray = thenElse (ps.all (fun p => decide (p.1 < n))) (sliceO A n 33 (fillP (places 3 n 0) (zerosR [(.int .u8 0), (.int .i64 0), (.int .i64 0)] n) ps)) (bslRaw Try.prog A 31 n ps) := buildSlice_of Try.el31 Try.sz33 Try.zero33 rfl (by decide) n ps hn
theorem Try.build32 (ps : List (Nat × Value)) : abuild Try.prog 32 ps.toArray = aggO (fillP [(0, 1), (1, 1), (2, 1)] [(.int .u8 0), (.int .i64 0), (.int .i64 0)] ps) := build_struct Try.underlying32 Try.zero32 (by kernel_rfl) ps
theorem Try.build33 (ps : List (Nat × Value)) : abuild Try.prog 33 ps.toArray = aggO (fillP [(0, 1), (1, 1), (2, 1)] [(.int .u8 0), (.int .i64 0), (.int .i64 0)] ps) := build_struct Try.underlying33 Try.zero33 (by kernel_rfl) ps
theorem Try.build34 (ps : List (Nat × Value)) : abuild Try.prog 34 ps.toArray = aggO (fillP [(0, 1), (1, 1), (2, 1)] [(.int .u8 0), (.int .i64 0), (.int .i64 0)] ps) := build_struct Try.underlying34 Try.zero34 (by kernel_rfl) ps
theorem Try.bsl35 (A : St) (n : Nat) (ps : List (Nat × Value)) (hn : n * 1 ≤ 16777216) : abuildSlice Try.prog A 35 n ps.toArray = thenElse (ps.all (fun p => decide (p.1 < n))) (sliceO A n 3 (fillP (places 1 n 0) (zerosR [(.int .i64 0)] n) ps)) (bslRaw Try.prog A 35 n ps) := buildSlice_of Try.el35 Try.sz3 Try.zero3 rfl (by decide) n ps hn
theorem Try.bsl40 (A : St) (n : Nat) (ps : List (Nat × Value)) (hn : n * 1 ≤ 16777216) : abuildSlice Try.prog A 40 n ps.toArray = thenElse (ps.all (fun p => decide (p.1 < n))) (sliceO A n 5 (fillP (places 1 n 0) (zerosR [(.int .u8 0)] n) ps)) (bslRaw Try.prog A 40 n ps) := buildSlice_of Try.el40 Try.sz5 Try.zero5 rfl (by decide) n ps hn
theorem Try.bsl46 (A : St) (n : Nat) (ps : List (Nat × Value)) (hn : n * 2 ≤ 16777216) : abuildSlice Try.prog A 46 n ps.toArray = thenElse (ps.all (fun p => decide (p.1 < n))) (sliceO A n 51 (fillP (places 2 n 0) (zerosR [(.int .u32 0), (.int .i64 0)] n) ps)) (bslRaw Try.prog A 46 n ps) := buildSlice_of Try.el46 Try.sz51 Try.zero51 rfl (by decide) n ps hn
theorem Try.build50 (ps : List (Nat × Value)) : abuild Try.prog 50 ps.toArray = aggO (fillP [(0, 1), (1, 1)] [(.int .u32 0), (.int .i64 0)] ps) := build_struct Try.underlying50 Try.zero50 (by kernel_rfl) ps
theorem Try.build51 (ps : List (Nat × Value)) : abuild Try.prog 51 ps.toArray = aggO (fillP [(0, 1), (1, 1)] [(.int .u32 0), (.int .i64 0)] ps) := build_struct Try.underlying51 Try.zero51 (by kernel_rfl) ps
theorem Try.bsl57 (A : St) (n : Nat) (ps : List (Nat × Value)) (hn : n * 2 ≤ 16777216) : abuildSlice Try.prog A 57 n ps.toArray = thenElse (ps.all (fun p => decide (p.1 < n))) (sliceO A n 60 (fillP (places 2 n 0) (zerosR [(.int .u32 0), (.int .i64 0)] n) ps)) (bslRaw Try.prog A 57 n ps) := buildSlice_of Try.el57 Try.sz60 Try.zero60 rfl (by decide) n ps hn
theorem Try.build60 (ps : List (Nat × Value)) : abuild Try.prog 60 ps.toArray = aggO (fillP [(0, 1), (1, 1)] [(.int .u32 0), (.int .i64 0)] ps) := build_struct Try.underlying60 Try.zero60 (by kernel_rfl) ps
theorem Try.build96 (ps : List (Nat × Value)) : abuild Try.prog 96 ps.toArray = aggO (fillP [(0, 1), (1, 1)] [(.string .empty), (.int .i64 0)] ps) := build_struct Try.underlying96 Try.zero96 (by kernel_rfl) ps
theorem Try.build97 (ps : List (Nat × Value)) : abuild Try.prog 97 ps.toArray = aggO (fillP [(0, 1), (1, 1)] [(.string .empty), (.int .i64 0)] ps) := build_struct Try.underlying97 Try.zero97 (by kernel_rfl) ps
theorem Try.build103 (ps : List (Nat × Value)) : abuild Try.prog 103 ps.toArray = aggO (fillP [(0, 1), (1, 1), (2, 1), (3, 1)] [(.string .empty), (.map none), (.slice none 0 0), (.int .i64 0)] ps) := build_struct Try.underlying103 Try.zero103 (by kernel_rfl) ps
theorem Try.build104 (ps : List (Nat × Value)) : abuild Try.prog 104 ps.toArray = aggO (fillP [(0, 1), (1, 1), (2, 1), (3, 1)] [(.string .empty), (.map none), (.slice none 0 0), (.int .i64 0)] ps) := build_struct Try.underlying104 Try.zero104 (by kernel_rfl) ps
theorem Try.bsl106 (A : St) (n : Nat) (ps : List (Nat × Value)) (hn : n * 1 ≤ 16777216) : abuildSlice Try.prog A 106 n ps.toArray = thenElse (ps.all (fun p => decide (p.1 < n))) (sliceO A n 107 (fillP (places 1 n 0) (zerosR [(.pointer none)] n) ps)) (bslRaw Try.prog A 106 n ps) := buildSlice_of Try.el106 Try.sz107 Try.zero107 rfl (by decide) n ps hn
theorem Try.build108 (ps : List (Nat × Value)) : abuild Try.prog 108 ps.toArray = aggO (fillP [(0, 1), (1, 1), (2, 1), (3, 1)] [(.int .i64 0), (.int .i64 0), (.pointer none), (.pointer none)] ps) := build_struct Try.underlying108 Try.zero108 (by kernel_rfl) ps
theorem Try.build109 (ps : List (Nat × Value)) : abuild Try.prog 109 ps.toArray = aggO (fillP [(0, 1), (1, 1), (2, 1), (3, 1)] [(.int .i64 0), (.int .i64 0), (.pointer none), (.pointer none)] ps) := build_struct Try.underlying109 Try.zero109 (by kernel_rfl) ps
theorem Try.bsl116 (A : St) (n : Nat) (ps : List (Nat × Value)) (hn : n * 2 ≤ 16777216) : abuildSlice Try.prog A 116 n ps.toArray = thenElse (ps.all (fun p => decide (p.1 < n))) (sliceO A n 118 (fillP (places 2 n 0) (zerosR [(.int .i64 0), (.slice none 0 0)] n) ps)) (bslRaw Try.prog A 116 n ps) := buildSlice_of Try.el116 Try.sz118 Try.zero118 rfl (by decide) n ps hn
theorem Try.build117 (ps : List (Nat × Value)) : abuild Try.prog 117 ps.toArray = aggO (fillP [(0, 1), (1, 1)] [(.int .i64 0), (.slice none 0 0)] ps) := build_struct Try.underlying117 Try.zero117 (by kernel_rfl) ps
theorem Try.build118 (ps : List (Nat × Value)) : abuild Try.prog 118 ps.toArray = aggO (fillP [(0, 1), (1, 1)] [(.int .i64 0), (.slice none 0 0)] ps) := build_struct Try.underlying118 Try.zero118 (by kernel_rfl) ps
theorem Try.build129 (ps : List (Nat × Value)) : abuild Try.prog 129 ps.toArray = aggO (fillP [(0, 1), (1, 1), (2, 1), (3, 1)] [(.pointer none), (.pointer none), (.pointer none), (.string .empty)] ps) := build_struct Try.underlying129 Try.zero129 (by kernel_rfl) ps
theorem Try.build130 (ps : List (Nat × Value)) : abuild Try.prog 130 ps.toArray = aggO (fillP [(0, 1), (1, 1), (2, 1), (3, 1)] [(.pointer none), (.pointer none), (.pointer none), (.string .empty)] ps) := build_struct Try.underlying130 Try.zero130 (by kernel_rfl) ps
theorem Try.build132 (ps : List (Nat × Value)) : abuild Try.prog 132 ps.toArray = aggO (fillP [(0, 0)] [] ps) := build_struct Try.underlying132 Try.zero132 (by kernel_rfl) ps
theorem Try.build133 (ps : List (Nat × Value)) : abuild Try.prog 133 ps.toArray = aggO (fillP [(0, 0)] [] ps) := build_struct Try.underlying133 Try.zero133 (by kernel_rfl) ps
theorem Try.build140 (ps : List (Nat × Value)) : abuild Try.prog 140 ps.toArray = aggO (fillP [(0, 1), (1, 1), (2, 1), (3, 1), (4, 1), (5, 1), (6, 1), (7, 1), (8, 1), (9, 1), (10, 1)] [(.int .u64 0), (.int .u64 0), (.int .u32 0), (.int .u8 0), (.int .u8 0), (.int .u8 0), (.int .u8 0), .nilFunc, (.pointer none), (.int .i32 0), (.int .i32 0)] ps) := build_struct Try.underlying140 Try.zero140 (by kernel_rfl) ps
theorem Try.build141 (ps : List (Nat × Value)) : abuild Try.prog 141 ps.toArray = aggO (fillP [(0, 1), (1, 1), (2, 1), (3, 1), (4, 1), (5, 1), (6, 1), (7, 1), (8, 1), (9, 1), (10, 1)] [(.int .u64 0), (.int .u64 0), (.int .u32 0), (.int .u8 0), (.int .u8 0), (.int .u8 0), (.int .u8 0), .nilFunc, (.pointer none), (.int .i32 0), (.int .i32 0)] ps) := build_struct Try.underlying141 Try.zero141 (by kernel_rfl) ps
end Go.Fw
namespace Go.Fw
open Go.Proofs Go.RowKit
attribute [go_sem] List.length_cons List.length_nil Nat.zero_add Nat.add_zero Nat.zero_mul Nat.mul_one Int.toNat_zero Int.toNat_natCast List.map_cons List.map_nil List.map_toArray List.toList_toArray List.append_toArray List.append_eq List.nil_append List.cons_append List.append_nil List.all_toArray List.all_cons List.all_nil Bool.and_true Bool.true_and Bool.and_self List.getElem?_toArray List.getElem?_cons_zero List.getElem?_cons_succ List.set_cons_zero List.set_cons_succ List.drop_zero List.drop_succ_cons List.take_zero List.take_succ_cons Option.bind_some Option.map_some id true_and and_true and_self St.next_alloc St.next_upd beq_self_eq_true Bool.not_true Bool.not_false Bool.false_eq_true false_implies true_implies Option.isNone_none Option.isNone_some Option.isSome_none Option.isSome_some ge_iff_le gt_iff_lt Nat.sub_zero Nat.add_assoc IntWalk.i64_in IntWalk.u64_in IntWalk.u8_in IntWalk.u32_in IntWalk.i32_in IntWalk.u16_in dec_not Bool.not_eq_true decide_true decide_false ne_eq not_true_eq_false not_false_eq_true Bool.true_or Bool.or_true Bool.or_false Bool.false_or Bool.and_false Bool.false_and upd_apply rd_eq ar_zero ar_succ ar_nil tm_size tm_getD tm_set E_tmps E_defers put_E put_none eval_tmp eval_const eval_func setArgs_0 setArgs_1 setArgs_2 append_lit stepV_some stepA_some guardO_true ifB_true ifB_false wantV_true wantV_false wantV_dec_t wantV_dec_f ifB_dec_t ifB_dec_f condV_bool dec_and dec_or isB_bool someB_t someB_f okO_tmp okO_func okO_int okO_bool okO_string okO_ptr0 okO_slice0 okO_nilFunc okO_nilIface okO_map0 okO_agg wanted_none wanted_some lookT_some aopsL_nil aopsL_cons wpA_skip wpA_label wpA_exit wpA_goto wpA_ret wpA_seq wpA_block wpA_region wpA_cond wpA_loop wpA_rangeFunc wpA_draw thenQ_normal thenQ_exit thenQ_ret thenQ_panic blockQ_normal blockQ_ret blockQ_panic blockQ_exit funQ_ret funQ_normal funQ_panic op_move op_assign pickV_or pickV_and pickV_t pickV_f pickV_true pickV_false op_pick allocV_some op_alloc op_box op_load op_nilCheck op_bin op_lookup bptr btype op_un op_convert op_makeInterface op_makeSlice op_fieldAddr op_field op_indexAddr op_index op_extract op_typeAssert storeV_some op_store op_makeMap op_mapUpdate op_slice00 op_slice10 op_slice01 op_slice11 op_slice111 op_slice011 op_makeFunc callV_true op_call op_builtin panicV_iface op_panic ACallV_func ACallF_false ACallF_true ACallV_yield afterCall_returned afterCall_panicked bin_add bin_sub bin_mul bin_and bin_or bin_xor bin_andNot bin_eql bin_neq bin_lss bin_leq bin_gtr bin_geq mval_some mval_none lookup_map lookU_map lookK_smap mapSet_map msetU_map msetK_int conv_to conv_from unsT_cells unsF_cells bin_same bin_nil bdata_nil bdata_some builtin_data builtin_str bin_quo bin_rem bin_shl bin_shr bin_sadd bin_seql bin_sneq bin_slss uB_bool bin_beql bin_bneq uP_pointer bin_peql bin_pneq uS_slice bin_leql bin_lneq bin_ieql bin_ineq un_neg un_xor un_not nilCheck_ptr nilCheck_func nilCheck_yield load_ptr loadC_one loadC_agg store_ptr slice_eq sliceU_string sliceU_slice sliceU_array sliceS_eq boundsS_some sliceL_eq boundsL_nil boundsL_exact boundsL_least boundsL_own boundsL_ownN bounds_11 bounds_10 bounds_01 bounds_00 builtin_len len_string len_array len_slice builtin_append builtin_copy pairA_some builtin_min builtin_max min_two max_two index_eq index_string index_array indexAddr_eq indexAddr_array indexAddr_slice fieldAddr_eq posO_some fAddr_some fieldAddr_struct partC_some field_eq field_struct part_eq partU_one partU_agg extract_tuple conv_eq conv_int conv_string u8O_u8 conv_bytes conv_text_nil conv_text_zero conv_text mkIface_eq get_upd_same consO_some finR_0 finR_1 finR_2 aresL_nil aresL_cons ares1_tmp ares1_cell retV_some aleave_nil aleave_coll bnd_int bnd_bool bnd_string bnd_nilIface bnd_slice0 bnd_iface bnd_slice bnd_ptr bnd_ptr0 bndL_nil bndL_cons bndA_lit bnd_tuple bnd_agg calm_same skipC_eq aopsC_nil aopsC_cons stepC_call stepC_move stepC_assign stepC_pick stepC_alloc stepC_box stepC_build stepC_buildSlice stepC_load stepC_store stepC_nilCheck stepC_binOp stepC_unOp stepC_convert stepC_makeInterface stepC_makeFunc stepC_makeSlice stepC_slice stepC_fieldAddr stepC_field stepC_indexAddr stepC_index stepC_extract stepC_typeAssert stepC_lookup stepC_mapUpdate stepC_makeMap stepC_builtin to_same sameA_eq aopsX_nil aopsX_cons stepX_heavy stepX_light lightK_eq allC_nil allC_cons hs_zero hs_succ stepT_call pure_call stepT_move pure_move stepT_assign pure_assign stepT_pick pure_pick stepT_alloc pure_alloc stepT_box pure_box stepT_build pure_build stepT_buildSlice pure_buildSlice stepT_load pure_load stepT_store pure_store stepT_nilCheck pure_nilCheck stepT_binOp pure_binOp stepT_unOp pure_unOp stepT_convert pure_convert stepT_makeInterface pure_makeInterface stepT_makeFunc pure_makeFunc stepT_makeSlice pure_makeSlice stepT_slice pure_slice stepT_fieldAddr pure_fieldAddr stepT_field pure_field stepT_indexAddr pure_indexAddr stepT_index pure_index stepT_extract pure_extract stepT_typeAssert pure_typeAssert stepT_lookup pure_lookup stepT_mapUpdate pure_mapUpdate stepT_makeMap pure_makeMap stepT_builtin pure_b_len pure_b_append pure_b_copy pure_b_min pure_b_max pure_b_unsafeSliceData pure_b_unsafeString leaveK_eq aleave_fn op_defer deferV_func resK_some defQ_ret defQ_normal storeC_int storeC_bool storeC_string storeC_slice storeC_func storeC_pointer len_cons len_nil cells_int cells_bool cells_string cells_slice cells_pointer cells_func cells_map cells_nilFunc cells_agg cell1_bool cell1_string cell1_slice cell1_pointer cell1_func cell1_i cell1_map cell1_nilFunc setList_nil setList_cons storeC_aggS fillP_nil fillP_cons fillAt_1 fillAt_n aggO_some sliceO_some places_0 places_s zerosR_0 zerosR_s thenElse_true evP_nil evP_cons okP_nil okP_cons op_buildL op_buildSliceL isBu_t isBu_f mk_E get_alloc_old get_alloc_new get_upd_old Try.agg1 Try.sz1 Try.byt1 Try.zero1 Try.agg2 Try.sz2 Try.byt2 Try.zero2 Try.agg3 Try.sz3 Try.byt3 Try.zero3 Try.agg4 Try.sz4 Try.byt4 Try.zero4 Try.agg5 Try.sz5 Try.byt5 Try.zero5 Try.agg6 Try.sz6 Try.byt6 Try.zero6 Try.agg7 Try.sz7 Try.byt7 Try.zero7 Try.agg8 Try.sz8 Try.byt8 Try.zero8 Try.agg9 Try.sz9 Try.byt9 Try.zero9 Try.agg10 Try.sz10 Try.byt10 Try.zero10 Try.agg11 Try.sz11 Try.byt11 Try.zero11 Try.agg12 Try.sz12 Try.byt12 Try.zero12 Try.agg13 Try.sz13 Try.byt13 Try.zero13 Try.agg14 Try.sz14 Try.byt14 Try.zero14 Try.agg15 Try.sz15 Try.byt15 Try.zero15 Try.agg16 Try.sz16 Try.byt16 Try.zero16 Try.agg17 Try.sz17 Try.byt17 Try.zero17 Try.agg18 Try.sz18 Try.byt18 Try.zero18 Try.agg19 Try.sz19 Try.byt19 Try.zero19 Try.agg20 Try.sz20 Try.byt20 Try.zero20 Try.agg21 Try.sz21 Try.byt21 Try.zero21 Try.agg22 Try.sz22 Try.byt22 Try.zero22 Try.agg23 Try.sz23 Try.byt23 Try.zero23 Try.agg25 Try.sz25 Try.byt25 Try.zero25 Try.agg26 Try.sz26 Try.byt26 Try.zero26 Try.agg27 Try.sz27 Try.byt27 Try.zero27 Try.agg28 Try.sz28 Try.byt28 Try.zero28 Try.agg29 Try.sz29 Try.byt29 Try.zero29 Try.agg30 Try.sz30 Try.byt30 Try.el30 Try.zero30 Try.agg31 Try.sz31 Try.byt31 Try.el31 Try.zero31 Try.agg32 Try.sz32 Try.byt32 Try.zero32 Try.agg33 Try.sz33 Try.byt33 Try.zero33 Try.agg34 Try.sz34 Try.byt34 Try.zero34 Try.agg35 Try.sz35 Try.byt35 Try.el35 Try.zero35 Try.agg36 Try.sz36 Try.byt36 Try.zero36 Try.agg37 Try.sz37 Try.byt37 Try.zero37 Try.agg38 Try.sz38 Try.byt38 Try.zero38 Try.agg39 Try.sz39 Try.byt39 Try.zero39 Try.agg40 Try.sz40 Try.byt40 Try.el40 Try.zero40 Try.agg41 Try.sz41 Try.byt41 Try.zero41 Try.agg42 Try.sz42 Try.byt42 Try.zero42 Try.agg43 Try.sz43 Try.byt43 Try.zero43 Try.agg45 Try.sz45 Try.byt45 Try.zero45 Try.agg46 Try.sz46 Try.byt46 Try.el46 Try.zero46 Try.agg48 Try.sz48 Try.byt48 Try.zero48 Try.agg49 Try.sz49 Try.byt49 Try.zero49 Try.agg50 Try.sz50 Try.byt50 Try.zero50 Try.agg51 Try.sz51 Try.byt51 Try.zero51 Try.agg52 Try.sz52 Try.byt52 Try.zero52 Try.agg54 Try.sz54 Try.byt54 Try.zero54 Try.agg55 Try.sz55 Try.byt55 Try.zero55 Try.agg56 Try.sz56 Try.byt56 Try.zero56 Try.agg57 Try.sz57 Try.byt57 Try.el57 Try.zero57 Try.agg59 Try.sz59 Try.byt59 Try.zero59 Try.agg60 Try.sz60 Try.byt60 Try.zero60 Try.agg61 Try.sz61 Try.byt61 Try.zero61 Try.agg62 Try.sz62 Try.byt62 Try.zero62 Try.agg63 Try.sz63 Try.byt63 Try.zero63 Try.agg64 Try.sz64 Try.byt64 Try.zero64 Try.agg65 Try.sz65 Try.byt65 Try.zero65 Try.agg66 Try.sz66 Try.byt66 Try.agg67 Try.sz67 Try.byt67 Try.agg69 Try.sz69 Try.byt69 Try.zero69 Try.agg70 Try.sz70 Try.byt70 Try.zero70 Try.agg71 Try.sz71 Try.byt71 Try.zero71 Try.agg72 Try.sz72 Try.byt72 Try.zero72 Try.agg73 Try.sz73 Try.byt73 Try.zero73 Try.agg74 Try.sz74 Try.byt74 Try.zero74 Try.agg76 Try.sz76 Try.byt76 Try.zero76 Try.agg77 Try.sz77 Try.byt77 Try.zero77 Try.agg78 Try.sz78 Try.byt78 Try.zero78 Try.agg80 Try.sz80 Try.byt80 Try.zero80 Try.agg81 Try.sz81 Try.byt81 Try.zero81 Try.agg82 Try.sz82 Try.byt82 Try.zero82 Try.agg83 Try.sz83 Try.byt83 Try.zero83 Try.agg84 Try.sz84 Try.byt84 Try.zero84 Try.agg85 Try.sz85 Try.byt85 Try.zero85 Try.agg86 Try.sz86 Try.byt86 Try.zero86 Try.agg87 Try.sz87 Try.byt87 Try.zero87 Try.agg88 Try.sz88 Try.byt88 Try.zero88 Try.agg89 Try.sz89 Try.byt89 Try.zero89 Try.agg90 Try.sz90 Try.byt90 Try.zero90 Try.agg91 Try.sz91 Try.byt91 Try.zero91 Try.agg92 Try.sz92 Try.byt92 Try.zero92 Try.agg93 Try.sz93 Try.byt93 Try.zero93 Try.agg94 Try.sz94 Try.byt94 Try.zero94 Try.agg95 Try.sz95 Try.byt95 Try.zero95 Try.agg96 Try.sz96 Try.byt96 Try.zero96 Try.agg97 Try.sz97 Try.byt97 Try.zero97 Try.agg98 Try.sz98 Try.byt98 Try.zero98 Try.agg100 Try.sz100 Try.byt100 Try.zero100 Try.agg101 Try.sz101 Try.byt101 Try.zero101 Try.agg102 Try.sz102 Try.byt102 Try.zero102 Try.agg103 Try.sz103 Try.byt103 Try.zero103 Try.agg104 Try.sz104 Try.byt104 Try.zero104 Try.agg105 Try.sz105 Try.byt105 Try.zero105 Try.agg106 Try.sz106 Try.byt106 Try.el106 Try.zero106 Try.agg107 Try.sz107 Try.byt107 Try.zero107 Try.agg108 Try.sz108 Try.byt108 Try.zero108 Try.agg109 Try.sz109 Try.byt109 Try.zero109 Try.agg110 Try.sz110 Try.byt110 Try.zero110 Try.agg111 Try.sz111 Try.byt111 Try.zero111 Try.agg112 Try.sz112 Try.byt112 Try.zero112 Try.agg113 Try.sz113 Try.byt113 Try.zero113 Try.agg114 Try.sz114 Try.byt114 Try.zero114 Try.agg115 Try.sz115 Try.byt115 Try.zero115 Try.agg116 Try.sz116 Try.byt116 Try.el116 Try.zero116 Try.agg117 Try.sz117 Try.byt117 Try.zero117 Try.agg118 Try.sz118 Try.byt118 Try.zero118 Try.agg120 Try.sz120 Try.byt120 Try.zero120 Try.agg121 Try.sz121 Try.byt121 Try.zero121 Try.agg123 Try.sz123 Try.byt123 Try.zero123 Try.agg124 Try.sz124 Try.byt124 Try.zero124 Try.agg125 Try.sz125 Try.byt125 Try.zero125 Try.agg126 Try.sz126 Try.byt126 Try.zero126 Try.agg127 Try.sz127 Try.byt127 Try.zero127 Try.agg128 Try.sz128 Try.byt128 Try.zero128 Try.agg129 Try.sz129 Try.byt129 Try.zero129 Try.agg130 Try.sz130 Try.byt130 Try.zero130 Try.agg131 Try.sz131 Try.byt131 Try.zero131 Try.agg132 Try.sz132 Try.byt132 Try.zero132 Try.agg133 Try.sz133 Try.byt133 Try.zero133 Try.agg134 Try.sz134 Try.byt134 Try.zero134 Try.agg135 Try.sz135 Try.byt135 Try.zero135 Try.agg136 Try.sz136 Try.byt136 Try.zero136 Try.agg137 Try.sz137 Try.byt137 Try.zero137 Try.agg138 Try.sz138 Try.byt138 Try.zero138 Try.agg139 Try.sz139 Try.byt139 Try.zero139 Try.agg140 Try.sz140 Try.byt140 Try.zero140 Try.agg141 Try.sz141 Try.byt141 Try.zero141 Try.agg142 Try.sz142 Try.byt142 Try.zero142 Try.body0 Try.body1 Try.body2 Try.body3 Try.body4 Try.body5 Try.body6 Try.body7 Try.body8 Try.body9 Try.body10 Try.body11 Try.body12 Try.body13 Try.body14 Try.body15 Try.body16 Try.body17 Try.body18 Try.body19 Try.body20 Try.body21 Try.body22 Try.body23 Try.body24 Try.body25 Try.body26 Try.body27 Try.body28 Try.body29 Try.body30 Try.body31 Try.body32 Try.body33 Try.body34 Try.body35 Try.body36 Try.body37 Try.body38 Try.body39 Try.body40 Try.body41 Try.body42 Try.body43 Try.body44 Try.body45 Try.body46 Try.body47 Try.body48 Try.body49 Try.body50 Try.body51 Try.body52 Try.body53 Try.body54 Try.body55 Try.body56 Try.body57 Try.body58 Try.body59 Try.body60 Try.body61 Try.body62 Try.body63 Try.body64 Try.body65 Try.body66 Try.body67 Try.body68 Try.body69 Try.body70 Try.body71 Try.body72 Try.body73 Try.body74 Try.body75 Try.body76 Try.body77 Try.body78 Try.body79 Try.body80 Try.body81 Try.body82 Try.body83 Try.body84 Try.body85 Try.body86 Try.body87 Try.body88 Try.build7 Try.build8 Try.build13 Try.build14 Try.build18 Try.build19 Try.bsl30 Try.bsl31 Try.build32 Try.build33 Try.build34 Try.bsl35 Try.bsl40 Try.bsl46 Try.build50 Try.build51 Try.bsl57 Try.build60 Try.build96 Try.build97 Try.build103 Try.build104 Try.bsl106 Try.build108 Try.build109 Try.bsl116 Try.build117 Try.build118 Try.build129 Try.build130 Try.build132 Try.build133 Try.build140 Try.build141 Try.underlying1 Try.underlying2 Try.underlying3 Try.underlying4 Try.underlying5 Try.underlying6 Try.underlying7 Try.underlying8 Try.underlying9 Try.underlying10 Try.underlying11 Try.underlying12 Try.underlying13 Try.underlying14 Try.underlying15 Try.underlying16 Try.underlying17 Try.underlying18 Try.underlying19 Try.underlying20 Try.underlying21 Try.underlying22 Try.underlying23 Try.underlying25 Try.underlying26 Try.underlying27 Try.underlying28 Try.underlying29 Try.underlying30 Try.underlying31 Try.underlying32 Try.underlying33 Try.underlying34 Try.underlying35 Try.underlying36 Try.underlying37 Try.underlying38 Try.underlying39 Try.underlying40 Try.underlying41 Try.underlying42 Try.underlying43 Try.underlying45 Try.underlying46 Try.underlying48 Try.underlying49 Try.underlying50 Try.underlying51 Try.underlying52 Try.underlying54 Try.underlying55 Try.underlying56 Try.underlying57 Try.underlying59 Try.underlying60 Try.underlying61 Try.underlying62 Try.underlying63 Try.underlying64 Try.underlying65 Try.underlying66 Try.underlying67 Try.underlying69 Try.underlying70 Try.underlying71 Try.underlying72 Try.underlying73 Try.underlying74 Try.underlying76 Try.underlying77 Try.underlying78 Try.underlying80 Try.underlying81 Try.underlying82 Try.underlying83 Try.underlying84 Try.underlying85 Try.underlying86 Try.underlying87 Try.underlying88 Try.underlying89 Try.underlying90 Try.underlying91 Try.underlying92 Try.underlying93 Try.underlying94 Try.underlying95 Try.underlying96 Try.underlying97 Try.underlying98 Try.underlying100 Try.underlying101 Try.underlying102 Try.underlying103 Try.underlying104 Try.underlying105 Try.underlying106 Try.underlying107 Try.underlying108 Try.underlying109 Try.underlying110 Try.underlying111 Try.underlying112 Try.underlying113 Try.underlying114 Try.underlying115 Try.underlying116 Try.underlying117 Try.underlying118 Try.underlying120 Try.underlying121 Try.underlying123 Try.underlying124 Try.underlying125 Try.underlying126 Try.underlying127 Try.underlying128 Try.underlying129 Try.underlying130 Try.underlying131 Try.underlying132 Try.underlying133 Try.underlying134 Try.underlying135 Try.underlying136 Try.underlying137 Try.underlying138 Try.underlying139 Try.underlying140 Try.underlying141 Try.underlying142
attribute [go_sem_proc] Nat.reduceAdd Nat.reduceSub Nat.reduceMul Nat.reduceLT Nat.reduceLeDiff Nat.reduceEqDiff reduceCtorEq Int.reduceAdd Int.reduceSub Int.reduceMul Int.reduceLT Int.reduceLE Int.reduceEq Int.reduceNe Int.reduceToNat Int.reduceNeg
attribute [go_sem_proc ↓] reduceIte
theorem z1 {A : St} (b : Blk) : (A.alloc b).next = A.next + 1 := nx_alloc b
theorem z2 {A : St} (n : Nat) (b : Option Blk) : (A.upd n b).next = A.next := nx_upd n b
theorem z3 {α : Type} (a : α) (l : List α) : (a :: l).length = l.length + 1 := len_cons a l
theorem z4 {α : Type} : ([] : List α).length = 0 := len_nil
theorem z5 {α : Type} {l : List α} {i : Nat} {a : α} : (l.set i a).length = l.length := List.length_set
theorem z6 {α β : Type} {l : List α} (f : α → β) : (l.map f).length = l.length := List.length_map f
theorem z7 {α : Type} {l m : List α} : (l ++ m).length = l.length + m.length := List.length_append
end Go.Fw
